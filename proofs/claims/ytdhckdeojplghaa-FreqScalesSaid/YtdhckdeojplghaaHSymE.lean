/- slices.SortStableFunc by what was lost, as a contract over rows. -/
import Derived.Test.YtdhckdeojplghaaHSymD
namespace Go.Proofs.Ytdhckdeojplghaa.PA
open Go.RowKit Go.Shelf Go.Sort Go.Proofs.YtdhckdeojplghaaW.PrintWords Go.Proofs.YtdhckdeojplghaaW.PrintLast Go.Proofs.YtdhckdeojplghaaW.PrintMore
set_option linter.unusedVariables false
set_option linter.unusedSimpArgs false
theorem size_insB {α : Type} [Inhabited α] (cf : α → α → Int) (n : Nat) (k : Nat) : ∀ (a : Nat) (d : Array α), (insB cf n k a d).size = d.size := by
  induction k with
  | zero => exact fun a d => size_ins _ _ _ _
  | succ k ih =>
    intro a d
    rw [insB]
    split
    · rw [ih, size_ins]
    · exact size_ins _ _ _ _
theorem size_stb {α : Type} [Inhabited α] (cf : α → α → Int) (n : Nat) (k : Nat) : ∀ (z : Nat) (d : Array α), (stb cf n k z d).size = d.size := by
  induction k with
  | zero => exact fun _ _ => rfl
  | succ k ih =>
    intro z d
    rw [stb]
    split
    · rw [ih, size_mrg]
    · rfl
theorem size_stableL {α : Type} [Inhabited α] (cf : α → α → Int) (n : Nat) (d : Array α) : (stableL cf n d).size = d.size := by rw [stableL, size_stb, size_insB]
/-- The places, sorted by what was lost there, most first, equals in their order. -/
def srtL (lost ord : List Int) : List Int :=
  match lost with
  | [] => ord
  | x :: r => ((stableL (cfL (n := r.length) fun i => (x :: r)[i.val]!) ord.length (ord.map fun i => (Fin.ofNat (r.length + 1) i.toNat)).toArray).toList.map fun i => (i.val : Int))
def srt_stable (lost ord : List Int) : Option (List Int) := if 0 < ord.length ∧ ord.length ≤ 65535 ∧ lost.length ≤ 65536 ∧ (∀ i ∈ ord, 0 ≤ i ∧ i < lost.length) then some (srtL lost ord) else none
set_option maxHeartbeats 4000000 in
theorem srt_stable_calls {lost ord r : List Int} (h : srt_stable lost ord = some r) {W : World} {base : Nat} {ok okl : Nat → Prop} {v u : Value} {gb : Nat} (HO : Kd.R (Kd.int .i64) 3 W base ok v ord) (HL : Kd.R (Kd.int .i64) 3 W base okl u lost)
    (hne : ∀ k, v.ownBlock = some k → u.ownBlock ≠ some k) (hgb : some gb ≠ v.ownBlock) (BK : W.heap[gb]? = some (.cells #[u] 22 (0, 0))) :
    Calls Try.prog 26 #[v, .func (.func 27) #[] #[.pointer (some ⟨gb, 0, none⟩)]] W fun e w' => e = .returned (.tuple #[]) ∧ Kd.R (Kd.int .i64) 3 w' base ok v r ∧ W.grownBy w' v.ownBlock := by
  unfold srt_stable at h
  split at h
  case isFalse => cases h
  rename_i hc
  obtain ⟨h1, h2, h65, h3⟩ := hc
  obtain rfl := Option.some.inj h
  have hvo := Kd.own_of_R HO
  have huo := Kd.own_of_R HL
  obtain ⟨_, ⟨_, h0⟩ | ⟨g, cap, cur, rfl, hgb1, hh, hnc, hcm, hcs, htk⟩⟩ := hvo
  · omega
  have hll : 0 < lost.length := by
    cases ord with
    | nil => simp at h1
    | cons i _ => have := h3 i (by simp); omega
  obtain ⟨_, ⟨_, h0⟩ | ⟨gl, cl, curl, rfl, hgl1, hhl, hncl, hcml, hcsl, htkl⟩⟩ := huo
  · omega
  cases lost with
  | nil => simp at hll
  | cons x rr =>
  simp only [Nat.mul_one] at hcs htk hcsl htkl
  obtain ⟨f, hf⟩ : ∃ f : Fin (rr.length + 1) → Int, f = fun i => (x :: rr)[i.val]! := ⟨_, rfl⟩
  obtain ⟨d, hd⟩ : ∃ d : Array (Fin (rr.length + 1)), d = (ord.map fun i => (Fin.ofNat (rr.length + 1) i.toNat)).toArray := ⟨_, rfl⟩
  have hds : d.size = ord.length := by rw [hd]; simp
  have hdi : ∀ j, j < ord.length → encF rr.length d[j]! = .int .i64 ord[j]! := by
    intro j hj
    have hm := h3 ord[j] (List.getElem_mem _)
    rw [hd]
    simp [encF, hj, Fin.ofNat]
    have h5 := hm.2
    simp at h5
    have h6 : max ord[j] 0 = ord[j] := by omega
    rw [h6]
    exact Int.emod_eq_of_lt hm.1 (by omega)
  have hcell : ∀ j, j < ord.length → cur[j]? = some (.int .i64 ord[j]!) := by
    intro j hj
    have h5 : (cur.toList.take ord.length)[j]? = some (.int .i64 ord[j]!) := by rw [htk]; simp [encs, hj]
    rw [List.getElem?_take_of_lt hj] at h5
    simpa using h5
  have hH : Holds (encF rr.length) W g 0 d := by
    intro j hj
    rw [hds] at hj
    exact ⟨by rw [blk_cell hh, Nat.zero_add, hcell j hj, hdi j hj], blk_frozen hh _⟩
  have hl : ∀ i : Fin (rr.length + 1), W.cell? ((⟨gl, 0, none⟩ : Addr).add i.val) = some (.int .i64 (f i)) := by
    intro i
    have hi := i.isLt
    have h5 : (curl.toList.take (x :: rr).length)[i.val]? = some (.int .i64 (x :: rr)[i.val]!) := by
      rw [htkl]
      simp only [encs, List.getElem?_map]
      rw [List.getElem?_eq_getElem (by simp), Option.map_some, getElem!_pos _ _ (by simp)]
    rw [List.getElem?_take_of_lt (by simp)] at h5
    rw [add_plain, blk_cell hhl, hf]
    simpa using h5
  have hglg : gl ≠ g := fun e => hne g rfl (by rw [e]; rfl)
  have hgbg : gb ≠ g := fun e => hgb (by rw [e]; rfl)
  have hgbl := blk_lt BK
  have hb : W.cell? ⟨gb, 0, none⟩ = some (.slice (some ⟨gl, 0, none⟩) (rr.length + 1) cl) := (blk_cell BK 0).trans rfl
  have hR : Row1 (encF rr.length) W g 0 d := ⟨fun _ => rfl, hH, blk_lt hh⟩
  have hC := reads27 W gb rr.length cl g d.size (by simp at h65; omega) ⟨gl, 0, none⟩ f hgbl (blk_lt hhl) hgbg hglg hb hl
  have hc := stb26 (encF rr.length) (cfL f) gb g 0 cap d d W W hC hR (by omega) rfl (SW.start hH)
  have hpl := size_stableL (cfL f) d.size d
  rw [hds] at hc hpl
  have hres : srtL (x :: rr) ord = (stableL (cfL f) ord.length d).toList.map fun i => (i.val : Int) := by rw [hf, hd]; rfl
  rw [hres]
  generalize stableL (cfL f) ord.length d = r at hc hpl ⊢
  refine hc.mono ?_
  rintro e w' ⟨rfl, m, os, rfl⟩
  have hrs : r.size = ord.length := hpl
  have hold : ∀ k, k < W.heap.size → (sortWorld (encF rr.length) W g 0 m r os).heap[k]? = (putRow (encF rr.length) W g 0 r).heap[k]? := by
    intro k hk
    unfold sortWorld
    rw [heap_grow_old _ _ (by rw [Go.Proofs.size_putRow]; exact hk)]
    rfl
  have hhp : (sortWorld (encF rr.length) W g 0 m r os).heap[g]? = some (.cells (putCells (encF rr.length) 0 r cur) 3 (0, 0)) := by
    rw [hold g (blk_lt hh)]
    simp only [putRow, mapBlock, Array.getElem?_modify, if_true, hh, Option.map_some, onCells]
  refine ⟨rfl, Kd.R_of_own ⟨by simp [encs], .inr ⟨g, cap, _, by simp [hrs], hgb1, hhp, by simp [hrs]; exact hnc, hcm, by simp [putCells, hcs], ?_⟩⟩ (fun k hk => ?_), ⟨rfl, rfl, rfl, ?_, fun k hk hkn => ?_⟩⟩
  · apply List.ext_getElem?
    intro j
    simp only [Nat.mul_one, List.length_map, Array.length_toList, hrs]
    by_cases hj : j < ord.length
    · rw [List.getElem?_take_of_lt hj]
      simp [encs, putCells, hrs, hj]
      exact ⟨⟨_, hcell j hj⟩, rfl⟩
    · rw [List.getElem?_eq_none (by simp; omega), List.getElem?_eq_none (by simp [encs]; omega)]
  · exact HO.1 k hk
  · unfold sortWorld
    rw [size_grow, Go.Proofs.size_putRow]
    exact Nat.le_add_right _ _
  · rw [hold k hk]
    have : g ≠ k := fun e => hkn (by rw [e]; rfl)
    simp only [putRow, mapBlock, Array.getElem?_modify, if_neg this]
end Go.Proofs.Ytdhckdeojplghaa.PA
