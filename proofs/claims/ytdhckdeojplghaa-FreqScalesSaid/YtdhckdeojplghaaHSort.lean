/- slices.SortStableFunc by what was lost, for fewer than 20 symbols; walked by hand over the kit's contract of insertionSortCmpFunc. -/
import Derived.Test.YtdhckdeojplghaaHSortA
import Derived.Deep.RegionLaw
import Derived.Sort.LotA
namespace Go.Proofs.Ytdhckdeojplghaa.PA
open Go.RowKit Go.Shelf Go.Sort Go.Proofs.YtdhckdeojplghaaW.PrintWords Go.Proofs.YtdhckdeojplghaaW.PrintLast Go.Proofs.YtdhckdeojplghaaW.PrintMore
set_option linter.unusedVariables false
set_option linter.unusedSimpArgs false
def cmpI (a b : Int) : Int := if a < b then -1 else if a > b then 1 else 0
theorem cmp28 (a b : Int) (w : World) : Calls Try.prog 28 #[.int .i64 a, .int .i64 b] w fun e w' => e = .returned (.int .i64 (cmpI a b)) ∧ ∃ q, w' = w.drewN q := by
  have h : cmp_Compare_int.f a b = some (cmpI a b) := by
    simp only [cmp_Compare_int.f, cmp_isNaN_int.f, cmpI]
    simp
    repeat' split
    all_goals first | rfl | omega
  exact (cmp_Compare_int.calls a b _ w h).mono (fun e w' ⟨he, hd⟩ => ⟨he, hd.out⟩)
set_option maxHeartbeats 4000000 in
set_option maxRecDepth 100000 in
theorem cmp27 (W : World) (gb n c : Nat) (hn : n < 4611686018427387904) (ad : Addr) (f : Fin (n + 1) → Int) (hb : W.cell? ⟨gb, 0, none⟩ = some (.slice (some ad) (n + 1) c))
    (hl : ∀ i : Fin (n + 1), W.cell? (ad.add i.val) = some (.int .i64 (f i))) (x y : Fin (n + 1)) :
    Calls Try.prog 27 (#[.int .i64 x.val, .int .i64 y.val] ++ #[.pointer (some ⟨gb, 0, none⟩)]) W fun e w' => e = .returned (.int .i64 (cmpI (f y) (f x))) ∧ ∃ q, w' = W.drewN q := by
  have hcx := hl x
  have hcy := hl y
  have hcon := cmp28 (f y) (f x)
  generalize f y = b at *
  generalize f x = a at *
  obtain ⟨x, hx⟩ := x
  obtain ⟨y, hy⟩ := y
  dsimp only at hcx hcy ⊢
  have h1 : (x : Int) < (n : Int) + 1 := by omega
  have h2 : (y : Int) < (n : Int) + 1 := by omega
  have h3 : (0 : Int) ≤ (x : Int) := by omega
  have h4 : (0 : Int) ≤ (y : Int) := by omega
  have h5 : (x : Int).toNat = x := by omega
  have h6 : (y : Int).toNat = y := by omega
  generalize cmpI b a = r at hcon ⊢
  clear hl
  go_enter Try.func27, Try.ntmps27
  go_wp2_with fail
  go_quiet (exact Calls.quiet_of (hcon _))
  go_wp2
  go_ret
  exact ⟨rfl, _, rfl⟩

def encF (n : Nat) (x : Fin (n + 1)) : Value := .int .i64 (x.val : Int)
/-- By what was lost, most first. -/
def cfL {n : Nat} (f : Fin (n + 1) → Int) (x y : Fin (n + 1)) : Int := cmpI (f y) (f x)
theorem reads27 (w : World) (gb n c blk size : Nat) (hn : n < 4611686018427387904) (ad : Addr) (f : Fin (n + 1) → Int) (hgl : gb < w.heap.size) (hal : ad.block < w.heap.size) (hg : gb ≠ blk) (ha : ad.block ≠ blk)
    (hb : w.cell? ⟨gb, 0, none⟩ = some (.slice (some ad) (n + 1) c)) (hl : ∀ i : Fin (n + 1), w.cell? (ad.add i.val) = some (.int .i64 (f i))) :
    CmpReads Try.prog 27 #[.pointer (some ⟨gb, 0, none⟩)] (encF n) (cfL f) blk 0 size w := by
  intro m os dk hs x y
  have key : ∀ a : Addr, a.block < w.heap.size → a.block ≠ blk → (sortWorld (encF n) w blk 0 m dk os).cell? a = w.cell? a := by
    intro a h1 h2
    unfold sortWorld
    rw [cell?_grow _ _ _ (by rw [size_putRow]; exact h1), cell?_putRow_other _ _ _ _ _ _ (Or.inl h2)]
    rfl
  refine cmp27 _ gb n c hn ad f ((key _ hgl hg).trans hb) (fun i => ?_) x y
  rw [key (ad.add i.val) (by rw [add_block]; exact hal) (by rw [add_block]; exact ha)]
  exact hl i
set_option maxHeartbeats 4000000 in
set_option maxRecDepth 100000 in
theorem stable34 (w : World) (gb n c blk cap : Nat) (d : Array (Fin (n + 1))) (hn : n < 4611686018427387904) (ad : Addr) (f : Fin (n + 1) → Int) (hgl : gb < w.heap.size) (hal : ad.block < w.heap.size) (hg : gb ≠ blk) (ha : ad.block ≠ blk)
    (hb : w.cell? ⟨gb, 0, none⟩ = some (.slice (some ad) (n + 1) c)) (hl : ∀ i : Fin (n + 1), w.cell? (ad.add i.val) = some (.int .i64 (f i))) (hH : Holds (encF n) w blk 0 d) (hd : d.size < 20) :
    Calls Try.prog 34 #[.slice (some ⟨blk, 0, none⟩) d.size cap, .int .i64 d.size, .func (.func 27) #[] #[.pointer (some ⟨gb, 0, none⟩)]] w fun e w' => e = .returned (.tuple #[]) ∧ ∃ q, w' = (putRow (encF n) w blk 0 (Sort.insertionSort (ltOf (cfL f)) d 0 d.size)).drewN q := by
  have eg : ∀ args w, (callFunc 27 args).run Try.prog w = .ok (.enter 27 args) w := enters_of Try.func27 (by kernel_rfl) rfl
  have hcon := Any.insertionSortCmpFunc_one lay20 (encF n) (fun _ => rfl) (cfL f) 27 #[.pointer (some ⟨gb, 0, none⟩)] blk 0 cap 0 d.size d w eg (reads27 w gb n c blk d.size hn ad f hgl hal hg ha hb hl) hH (Nat.zero_le _) (Nat.le_refl _) (by omega)
  change Calls Try.prog 40 _ _ _ at hcon
  clear hH hl hb
  generalize Sort.insertionSort (ltOf (cfL f)) d 0 d.size = r at hcon ⊢
  have hz : (d.size : Int) < 20 := by omega
  obtain ⟨m, hm⟩ : ∃ m, d.size = m := ⟨_, rfl⟩
  rw [hm] at hcon hz ⊢
  clear hm hd
  go_enter Try.func34, Try.ntmps34
  go_wp2
  go_loopg [7, 8] 0 (fun _ v7 v8 wr => v7 = .int .i64 0 ∧ v8 = .int .i64 20 ∧ wr = w)
  case atStart => exact ⟨rfl, rfl, rfl⟩
  case round =>
    obtain ⟨rfl, rfl, rfl⟩ := hrel
    go_wp2_with (go_at_call 40; refine hcon.mono ?_; rintro e w' ⟨rfl, q, rfl⟩)
    generalize hW2 : (putRow (encF n) wr blk 0 r).drewN q = w2
    have hz2 : ¬ ((20 : Int) < (m : Int)) := by omega
    replace hW2 := Aside0.mk hW2
    clear hcon
    go_loopg [6] 0 (fun _ v6 wr2 => v6 = .int .i64 20 ∧ wr2 = w2)
    case atStart => exact ⟨rfl, rfl⟩
    case round =>
      obtain ⟨rfl, rfl⟩ := hrel
      go_wp2
      go_end0
      exact ⟨rfl, q, hW2.out.symm⟩
set_option maxHeartbeats 4000000 in
set_option maxRecDepth 100000 in
theorem stable26 (w : World) (gb n c blk cap : Nat) (d : Array (Fin (n + 1))) (hn : n < 4611686018427387904) (ad : Addr) (f : Fin (n + 1) → Int) (hgl : gb < w.heap.size) (hal : ad.block < w.heap.size) (hg : gb ≠ blk) (ha : ad.block ≠ blk)
    (hb : w.cell? ⟨gb, 0, none⟩ = some (.slice (some ad) (n + 1) c)) (hl : ∀ i : Fin (n + 1), w.cell? (ad.add i.val) = some (.int .i64 (f i))) (hH : Holds (encF n) w blk 0 d) (hd : d.size < 20) :
    Calls Try.prog 26 #[.slice (some ⟨blk, 0, none⟩) d.size cap, .func (.func 27) #[] #[.pointer (some ⟨gb, 0, none⟩)]] w fun e w' => e = .returned (.tuple #[]) ∧ ∃ q, w' = (putRow (encF n) w blk 0 (Sort.insertionSort (ltOf (cfL f)) d 0 d.size)).drewN q := by
  have hcon := stable34 w gb n c blk cap d hn ad f hgl hal hg ha hb hl hH hd
  clear hH hl hb
  generalize Sort.insertionSort (ltOf (cfL f)) d 0 d.size = r at hcon ⊢
  generalize d.size = m at hcon hd ⊢
  go_enter Try.func26, Try.ntmps26
  go_wp2_with (go_at_call 34; refine hcon.mono ?_; rintro e w' ⟨rfl, q, rfl⟩)
  go_end0
  exact ⟨rfl, q, rfl⟩

/-- The places, sorted by what was lost there, most first, equals in their order. -/
def sortL (lost ord : List Int) : List Int :=
  match lost with
  | [] => ord
  | x :: r => ((Sort.insertionSort (ltOf (cfL (n := r.length) fun i => (x :: r)[i.val]!)) (ord.map fun i => (Fin.ofNat (r.length + 1) i.toNat)).toArray 0 ord.length).toList.map fun i => (i.val : Int))
def sort_stable (lost ord : List Int) : Option (List Int) := if 0 < ord.length ∧ ord.length < 20 ∧ lost.length ≤ 65536 ∧ (∀ i ∈ ord, 0 ≤ i ∧ i < lost.length) then some (sortL lost ord) else none
theorem ltL {n : Nat} (f : Fin (n + 1) → Int) (x y : Fin (n + 1)) : ltOf (cfL f) x y = decide (f y < f x) := by
  unfold ltOf cfL cmpI
  congr 1
  apply propext
  split
  · omega
  · split <;> omega
theorem swoL {n : Nat} (f : Fin (n + 1) → Int) : SWO (ltOf (cfL f)) := by
  constructor
  all_goals (intros; simp only [ltL, decide_eq_true_eq, decide_eq_false_iff_not] at *; omega)
theorem permL {n : Nat} (f : Fin (n + 1) → Int) (d : Array (Fin (n + 1))) : (Sort.insertionSort (ltOf (cfL f)) d 0 d.size).size = d.size ∧ (Sort.insertionSort (ltOf (cfL f)) d 0 d.size).toList.Perm d.toList := by
  obtain ⟨⟨h1, _, h3⟩, _⟩ := insertionSort_holds (lt := ltOf (cfL f)) (swoL f) d 0 d.size (Nat.zero_le _) (Nat.le_refl _)
  refine ⟨h1, ?_⟩
  generalize Sort.insertionSort (ltOf (cfL f)) d 0 d.size = r at h1 h3 ⊢
  rw [show r.extract 0 d.size = r by rw [← h1]; simp, show d.extract 0 d.size = d by simp] at h3
  exact h3
set_option maxHeartbeats 4000000 in
theorem sort_stable_calls {lost ord r : List Int} (h : sort_stable lost ord = some r) {W : World} {base : Nat} {ok okl : Nat → Prop} {v u : Value} {gb : Nat} (HO : Kd.R (Kd.int .i64) 3 W base ok v ord) (HL : Kd.R (Kd.int .i64) 3 W base okl u lost)
    (hne : ∀ k, v.ownBlock = some k → u.ownBlock ≠ some k) (hgb : some gb ≠ v.ownBlock) (BK : W.heap[gb]? = some (.cells #[u] 22 (0, 0))) :
    Calls Try.prog 26 #[v, .func (.func 27) #[] #[.pointer (some ⟨gb, 0, none⟩)]] W fun e w' => e = .returned (.tuple #[]) ∧ Kd.R (Kd.int .i64) 3 w' base ok v r ∧ W.grownBy w' v.ownBlock := by
  unfold sort_stable at h
  split at h
  case isFalse => cases h
  rename_i hc
  obtain ⟨h1, h2, h65, h3⟩ := hc
  obtain rfl := Option.some.inj h
  have hvo := Kd.own_of_R HO
  have huo := Kd.own_of_R HL
  obtain ⟨_, ⟨_, h0⟩ | ⟨g, cap, cur, rfl, hgb1, hh, hnc, hcm, hcs, htk⟩⟩ := hvo
  · omega
  have hll : 0 < lost.length := by
    cases ord with
    | nil => simp at h1
    | cons i _ => have := h3 i (by simp); omega
  obtain ⟨_, ⟨_, h0⟩ | ⟨gl, cl, curl, rfl, hgl1, hhl, hncl, hcml, hcsl, htkl⟩⟩ := huo
  · omega
  cases lost with
  | nil => simp at hll
  | cons x rr =>
  simp only [Nat.mul_one] at hcs htk hcsl htkl
  obtain ⟨f, hf⟩ : ∃ f : Fin (rr.length + 1) → Int, f = fun i => (x :: rr)[i.val]! := ⟨_, rfl⟩
  obtain ⟨d, hd⟩ : ∃ d : Array (Fin (rr.length + 1)), d = (ord.map fun i => (Fin.ofNat (rr.length + 1) i.toNat)).toArray := ⟨_, rfl⟩
  have hds : d.size = ord.length := by rw [hd]; simp
  have hdi : ∀ j, j < ord.length → encF rr.length d[j]! = .int .i64 ord[j]! := by
    intro j hj
    have hm := h3 ord[j] (List.getElem_mem _)
    rw [hd]
    simp [encF, hj, Fin.ofNat]
    have h5 := hm.2
    simp at h5
    have h6 : max ord[j] 0 = ord[j] := by omega
    rw [h6]
    exact Int.emod_eq_of_lt hm.1 (by omega)
  have hcell : ∀ j, j < ord.length → cur[j]? = some (.int .i64 ord[j]!) := by
    intro j hj
    have h5 : (cur.toList.take ord.length)[j]? = some (.int .i64 ord[j]!) := by rw [htk]; simp [encs, hj]
    rw [List.getElem?_take_of_lt hj] at h5
    simpa using h5
  have hH : Holds (encF rr.length) W g 0 d := by
    intro j hj
    rw [hds] at hj
    exact ⟨by rw [blk_cell hh, Nat.zero_add, hcell j hj, hdi j hj], blk_frozen hh _⟩
  have hl : ∀ i : Fin (rr.length + 1), W.cell? ((⟨gl, 0, none⟩ : Addr).add i.val) = some (.int .i64 (f i)) := by
    intro i
    have hi := i.isLt
    have h5 : (curl.toList.take (x :: rr).length)[i.val]? = some (.int .i64 (x :: rr)[i.val]!) := by
      rw [htkl]
      simp only [encs, List.getElem?_map]
      rw [List.getElem?_eq_getElem (by simp), Option.map_some, getElem!_pos _ _ (by simp)]
    rw [List.getElem?_take_of_lt (by simp)] at h5
    rw [add_plain, blk_cell hhl, hf]
    simpa using h5
  have hglg : gl ≠ g := fun e => hne g rfl (by rw [e]; rfl)
  have hgbg : gb ≠ g := fun e => hgb (by rw [e]; rfl)
  have hgbl := blk_lt BK
  have hb : W.cell? ⟨gb, 0, none⟩ = some (.slice (some ⟨gl, 0, none⟩) (rr.length + 1) cl) := (blk_cell BK 0).trans rfl
  have hc := stable26 W gb rr.length cl g cap d (by simp at h65; omega) ⟨gl, 0, none⟩ f hgbl (blk_lt hhl) hgbg hglg hb hl hH (by omega)
  rw [hds] at hc
  have hpl := permL f d
  rw [hds] at hpl
  have hres : sortL (x :: rr) ord = (Sort.insertionSort (ltOf (cfL f)) d 0 ord.length).toList.map fun i => (i.val : Int) := by rw [hf, hd]; rfl
  rw [hres]
  generalize Sort.insertionSort (ltOf (cfL f)) d 0 ord.length = r at hc hpl ⊢
  refine hc.mono ?_
  rintro e w' ⟨rfl, q, rfl⟩
  have hrs : r.size = ord.length := hpl.1
  have hhp : ((putRow (encF rr.length) W g 0 r).drewN q).heap[g]? = some (.cells (putCells (encF rr.length) 0 r cur) 3 (0, 0)) := by
    rw [World.heap_drewN]
    simp only [putRow, mapBlock, Array.getElem?_modify, if_true, hh, Option.map_some, onCells]
  refine ⟨rfl, Kd.R_of_own ⟨by simp [encs], .inr ⟨g, cap, _, by simp [hrs], hgb1, hhp, by simp [hrs]; exact hnc, hcm, by simp [putCells, hcs], ?_⟩⟩ (fun k hk => ?_), ⟨rfl, rfl, rfl, by simp, fun k hk hkn => ?_⟩⟩
  · apply List.ext_getElem?
    intro j
    simp only [Nat.mul_one, List.length_map, Array.length_toList, hrs]
    by_cases hj : j < ord.length
    · rw [List.getElem?_take_of_lt hj]
      simp [encs, putCells, hrs, hj]
      exact ⟨⟨_, hcell j hj⟩, rfl⟩
    · rw [List.getElem?_eq_none (by simp; omega), List.getElem?_eq_none (by simp [encs]; omega)]
  · exact HO.1 k hk
  · rw [World.heap_drewN]
    have : g ≠ k := fun e => hkn (by rw [e]; rfl)
    simp only [putRow, mapBlock, Array.getElem?_modify, if_neg this]
end Go.Proofs.Ytdhckdeojplghaa.PA
