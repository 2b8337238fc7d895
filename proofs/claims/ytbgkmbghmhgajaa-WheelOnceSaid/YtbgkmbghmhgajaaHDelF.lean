/- slices.IndexFunc and slices.DeleteFunc with a closure of which it is known what it says; walked by hand. -/
import Derived.Test.YtbgkmbghmhgajaaPAx0
namespace Go.Proofs.Ytbgkmbghmhgajaa.PA
open Go.RowKit Go.Proofs.YtbgkmbghmhgajaaW.PrintWords Go.Proofs.YtbgkmbghmhgajaaW.PrintLast Go.Proofs.YtbgkmbghmhgajaaW.PrintMore
set_option linter.unusedVariables false
set_option linter.unusedSimpArgs false
/-- The first place from i on of which p says yes; -1 where none is. -/
def idxP {α : Type} (p : α → Bool) : List α → Int → Int
  | [], _ => -1
  | x :: r, i => if p x = true then i else idxP p r (i + 1)
theorem drop_consP {α : Type} (l : List α) (i : Nat) (h : i < l.length) : l.drop i = l[i] :: l.drop (i + 1) := List.drop_eq_getElem_cons h
theorem rdP (l : List S33) (j : Nat) (h : j < l.length) : rd_T33 l (j : Int) = l[j] := by
  unfold rd_T33
  rw [Int.toNat_natCast, List.getD_eq_getElem?_getD, List.getElem?_eq_getElem h]; rfl
set_option maxHeartbeats 4000000 in
set_option maxRecDepth 100000 in
/-- slices.IndexFunc with a closure of which it is known what it says. -/
theorem idxF (W : World) (A : Option Addr) (c : Nat) (l : List S33) (u : Value) (p : S33 → Bool) (hC : Kd.C k33 W A l.length l)
    (hcl : ∀ W', Below W.heap.size W W' → ∀ x : S33, Calls Try.prog 27 #[.agg #[.int .i64 x.f0, .int .i64 x.f1], u] W' fun e w' => e = .returned (.bool (p x)) ∧ Below W'.heap.size W' w') :
    Calls Try.prog 30 #[.slice A l.length c, .func (.func 27) #[] #[u]] W fun e w' => e = .returned (.int .i64 (idxP p l 0)) ∧ Below W.heap.size W w' := by
  have hL : l.length ≤ 9223372036854775807 := hC.2.1
  have HC := Aside0.mk hC
  have HCL := Aside0.mk hcl
  have HB := Aside0.mk (Below.refl W.heap.size W)
  clear hC hcl
  go_enter Try.func30, Try.ntmps30
  go_wp2
  go_loopg [8] l.length (fun kx s8 wr => ∃ (i : Nat), s8 = .int .i64 i ∧ i ≤ l.length ∧ l.length - i ≤ kx ∧ Aside0 (Below W.heap.size W wr) ∧ Aside0 (idxP p (l.drop i) i = idxP p l 0))
  case atStart => exact ⟨0, rfl, Nat.zero_le _, by omega, HB, Aside0.mk rfl⟩
  case round =>
    clear HB
    obtain ⟨i, rfl, hil, hkx, HB, HQ⟩ := hrel
    by_cases hlt : i < l.length
    · have hltz : (i : Int) < (l.length : Int) := by omega
      obtain ⟨ad, hA, hc0, hc1⟩ := at_T33 HC.out (i : Int) (by omega) hltz
      subst hA
      rw [rdP l i hlt, Int.toNat_natCast] at hc0 hc1
      replace hc0 := (HB.out.cell (World.block_lt_of_cell? W _ hc0)).trans hc0
      replace hc1 := (HB.out.cell (World.block_lt_of_cell? W _ hc1)).trans hc1
      have hq := HQ.out
      rw [drop_consP l i hlt, idxP] at hq
      obtain ⟨x, hx⟩ : ∃ x, x = l[i] := ⟨_, rfl⟩
      rw [← hx] at hc0 hc1 hq
      have hcl := HCL.out wr HB.out x
      have pz : (0 : Int) ≤ (i : Int) := by omega
      have ri : IntKind.i64.wrap ((i : Int) + 1) = ((i + 1 : Nat) : Int) := by rw [IntKind.wrap_i64]; omega
      have e5 : l.length - (i + 1) < gk := by omega
      have HQ2 := Aside0.mk hq
      clear hq HQ hx hkx
      by_cases he : p x = true
      · have hq := HQ2.out
        rw [if_pos he] at hq
        have HQ := Aside0.mk hq
        rw [he] at hcl
        clear hq HQ2 he
        go_wp2_with (go_at_call 27; refine hcl.mono ?_; rintro e w' ⟨rfl, hb2⟩)
        go_ret
        exact ⟨by rw [HQ.out]; rfl, below_step HB.out hb2⟩
      · have hq := HQ2.out
        rw [if_neg he] at hq
        have HQ := Aside0.mk hq
        rw [show p x = false by simpa using he] at hcl
        clear hq HQ2 he
        go_wp2_with (go_at_call 27; refine hcl.mono ?_; rintro e w' ⟨rfl, hb2⟩)
        go_roundg (l.length - (i + 1))
        case measure => exact e5
        case rel => exact ⟨i + 1, by first | rfl | (simp [ri]; done), by omega, Nat.le_refl _, Aside0.mk (below_step HB.out hb2), Aside0.mk (by rw [← HQ.out]; rfl)⟩
    · have hil2 : i = l.length := by omega
      have hq := HQ.out
      rw [hil2, List.drop_length, idxP] at hq
      have HQ2 := Aside0.mk hq
      clear hq HQ hil2
      go_wp2
      go_ret
      exact ⟨by rw [← HQ2.out]; rfl, HB.out⟩

/-! ### What is left -/
theorem idxP_spec {α : Type} (p : α → Bool) (l : List α) : ∀ n : Int, (idxP p l n = -1 ∧ (∀ x ∈ l, p x = false) ∧ 0 ≤ n) ∨ n < 0 ∨ ∃ (i : Nat) (h : i < l.length), idxP p l n = n + (i : Int) ∧ p l[i] = true ∧ ∀ x ∈ l.take i, p x = false := by
  induction l with
  | nil =>
    intro n
    by_cases h : n < 0
    · exact .inr (.inl h)
    · exact .inl ⟨rfl, (fun x hx => by cases hx), by omega⟩
  | cons x r ih =>
    intro n
    by_cases hn : n < 0
    · exact .inr (.inl hn)
    by_cases h : p x = true
    · exact .inr (.inr ⟨0, by simp, by rw [idxP, if_pos h]; simp, by simpa using h, by simp⟩)
    · have hf : p x = false := by simpa using h
      rcases ih (n + 1) with ⟨h1, h2, _⟩ | h1 | ⟨i, hi, h1, h2, h3⟩
      · refine .inl ⟨by rw [idxP, if_neg h, h1], fun y hy => ?_, by omega⟩
        rcases List.mem_cons.1 hy with rfl | hy
        · exact hf
        · exact h2 y hy
      · omega
      · refine .inr (.inr ⟨i + 1, by simpa using hi, by rw [idxP, if_neg h, h1]; omega, by simpa using h2, fun y hy => ?_⟩)
        rw [List.take_succ_cons] at hy
        rcases List.mem_cons.1 hy with rfl | hy
        · exact hf
        · exact h3 y hy
/-- What has been kept of the first j, and the rest as it was. -/
def kept {α : Type} (p : α → Bool) (xs : List α) (j : Nat) : List α := (xs.take j).filter fun x => !p x
theorem kept_le {α : Type} (p : α → Bool) (xs : List α) (j : Nat) : (kept p xs j).length ≤ j := Nat.le_trans (List.length_filter_le _ _) (List.length_take_le _ _)
theorem kept_yes {α : Type} (p : α → Bool) (xs : List α) (j : Nat) (h : j < xs.length) (hp : p xs[j] = true) : kept p xs (j + 1) = kept p xs j := by
  unfold kept
  rw [List.take_succ_eq_append_getElem h, List.filter_append]
  simp [hp]
theorem kept_no {α : Type} (p : α → Bool) (xs : List α) (j : Nat) (h : j < xs.length) (hp : p xs[j] = false) : kept p xs (j + 1) = kept p xs j ++ [xs[j]] := by
  unfold kept
  rw [List.take_succ_eq_append_getElem h, List.filter_append]
  simp [hp]
theorem kept_all {α : Type} (p : α → Bool) (xs : List α) (j : Nat) (h : ∀ x ∈ xs.take j, p x = false) : kept p xs j = xs.take j := by
  unfold kept
  rw [List.filter_eq_self]
  intro x hx
  rw [h x hx]; rfl
/-- The row as it stands at a round's head. -/
def mixed {α : Type} (p : α → Bool) (xs : List α) (j : Nat) : List α := kept p xs j ++ xs.drop (kept p xs j).length
theorem mixed_length {α : Type} (p : α → Bool) (xs : List α) (j : Nat) (h : j ≤ xs.length) : (mixed p xs j).length = xs.length := by
  have := kept_le p xs j
  unfold mixed
  rw [List.length_append, List.length_drop]; omega
theorem mixed_get {α : Type} (p : α → Bool) (xs : List α) (j : Nat) (h : j < xs.length) : (mixed p xs j)[j]? = some xs[j] := by
  have := kept_le p xs j
  unfold mixed
  rw [List.getElem?_append_right this, List.getElem?_drop, show (kept p xs j).length + (j - (kept p xs j).length) = j by omega, List.getElem?_eq_getElem h]
theorem mixed_yes {α : Type} (p : α → Bool) (xs : List α) (j : Nat) (h : j < xs.length) (hp : p xs[j] = true) : mixed p xs (j + 1) = mixed p xs j := by
  unfold mixed; rw [kept_yes p xs j h hp]
theorem mixed_no {α : Type} (p : α → Bool) (xs : List α) (j : Nat) (h : j < xs.length) (hp : p xs[j] = false) : mixed p xs (j + 1) = (mixed p xs j).set (kept p xs j).length xs[j] := by
  have hle := kept_le p xs j
  unfold mixed
  rw [kept_no p xs j h hp, List.set_append_right _ _ (Nat.le_refl _), Nat.sub_self, List.append_assoc]
  congr 1
  rw [List.drop_eq_getElem_cons (show (kept p xs j).length < xs.length by omega), List.set_cons_zero, List.length_append]
  rfl

/-! ### The tail is cleared -/
theorem hrunD (w : World) : (underlying 22).run Try.prog w = .ok (.slice 33) w := by kernel_rfl
theorem zeroD (w : World) : (zeroValue 33).run Try.prog w = .ok (.agg #[.int .i64 0, .int .i64 0]) w := by kernel_rfl
/-- Cells behind a row's end are cleared: the row is what it was. -/
theorem clear_rest {α : Type} (d : Kd α) (hsz : d.sz = 2) {W : World} (base : Nat) (ty : TypeId) {g n c m : Nat} {xs : List α} {ok : Nat → Prop} (HO : d.R 33 W base ok (.slice (some ⟨g, 0, none⟩) n c) xs) (hm : 0 < m) (hnc : n + m ≤ c) :
    ∃ w1, (∀ c2, (Builtin.clear_ #[22] ty #[.slice (some ⟨g, n * 2, none⟩) m c2]).run Try.prog W = .ok (.tuple #[]) w1) ∧ d.R 33 w1 base ok (.slice (some ⟨g, 0, none⟩) n c) xs ∧ W.grownBy w1 (some g) := by
  obtain ⟨hn, _, _⟩ := Kd.R_reads' HO
  obtain ⟨hok, inner, hown, hr⟩ := HO
  rcases hown.2 with ⟨hv, _⟩ | ⟨g', cap', cur, hv, hb, hh, hxc, hcm, hcs, htake⟩
  · cases hv
  injection hv with ha _ hc
  injection ha with ha
  injection ha with hg
  subst hg; subst hc
  obtain ⟨seg, hseg⟩ : ∃ seg, seg = (Builtin.zeroCells (Value.agg #[.int .i64 0, .int .i64 0]).cells m).toList := ⟨_, rfl⟩
  have hsl : seg.length = m * 2 := by rw [hseg, Array.length_toList, size_zeroCells]; rfl
  have hfit : n * 2 + m * 2 ≤ cur.size := by rw [hsz] at hcs; omega
  have hone : ∀ v ∈ seg, v.oneCell' = true := by
    intro v hv
    rw [hseg] at hv
    have hv2 := Array.mem_toList_iff.1 hv
    unfold Builtin.zeroCells at hv2
    obtain ⟨q, hq, rfl⟩ := Array.mem_map.1 hv2
    have hlt : q % 2 < 2 := Nat.mod_lt _ (by decide)
    show ((#[Value.int .i64 0, .int .i64 0] : Array Value)[q % 2]!).oneCell' = true
    rcases (by omega : q % 2 = 0 ∨ q % 2 = 1) with h | h <;> rw [h] <;> rfl
  have hst := run_storeCells_cells (P := Try.prog) g (n * 2) seg 0 W (fun j hj => by rw [cell_of_row W g _ cur 33 (0, 0) hh]; simp at hj ⊢; omega) (fun j _ => blk_frozen hh _) hone
  obtain ⟨cur', h3, h4, h5⟩ := setCells_row seg (n * 2 + 0) W cur hh (by omega)
  obtain ⟨s1, s2, s3, s4⟩ := setCells_same g seg (n * 2 + 0) W
  have hfar : ∀ k', k' ≠ g → (W.setCells g (n * 2 + 0) seg).heap[k']? = W.heap[k']? := fun k' hk' => setCells_far _ _ k' hk'
  have hgo : ∀ m, some g = (Value.slice (some ⟨g, 0, none⟩) m c).ownBlock := fun m => by simp [Value.ownBlock]
  obtain ⟨m', rfl⟩ : ∃ m', m = m' + 1 := ⟨m - 1, by omega⟩
  refine ⟨W.setCells g (n * 2 + 0) seg, ?_, ⟨hok, inner, ⟨hown.1, .inr ⟨g, c, cur', by rw [hn], hb, h3, hxc, hcm, by rw [h4, hcs], ?_⟩⟩, ?_⟩, ⟨s1, s2, s3, by rw [s4]; exact Nat.le_refl _, fun k' _ hk' => hfar k' (fun he => hk' (by rw [he]))⟩⟩
  · intro c2
    unfold Builtin.clear_
    simp only [List.getElem?_toArray, Sem.run_bind, Sem.run_pure, Result.andThen_ok, zeroD]
    simp only [List.getElem?_cons_zero, Sem.run_bind, hrunD W, Result.andThen_ok, zeroD, ← hseg, hst, Sem.run_pure]
  · rw [h5, ← htake, ← hn, hsz, List.append_assoc, Nat.add_zero]
    rw [List.take_append_of_le_length (by rw [List.length_take, Array.length_toList]; omega), List.take_take, Nat.min_self]
  · exact hr.imp_ (fun p q hp => d.M_move (fun k' hk' => hfar k' (fun he => hk'.2 (by rw [← hgo, he]))) hp)

set_option maxHeartbeats 8000000 in
set_option maxRecDepth 100000 in
/-- slices.DeleteFunc at a row of the call's own. -/
theorem delF {w : World} {base g n c : Nat} {ok : Nat → Prop} {xs : List S33} (u : Value) (p : S33 → Bool) (HO : k33.R 33 w base ok (.slice (some ⟨g, 0, none⟩) n c) xs) (hbase : base ≤ w.heap.size)
    (hcl : ∀ W', Below base w W' → (∀ k, k ≠ g → k < w.heap.size → W'.heap[k]? = w.heap[k]?) → ∀ x : S33, Calls Try.prog 27 #[.agg #[.int .i64 x.f0, .int .i64 x.f1], u] W' fun e w' => e = .returned (.bool (p x)) ∧ Below W'.heap.size W' w') :
    Calls Try.prog 26 #[.slice (some ⟨g, 0, none⟩) n c, .func (.func 27) #[] #[u]] w fun e w' => e = .returned (.slice (some ⟨g, 0, none⟩) (xs.filter fun x => !p x).length c) ∧ k33.R 33 w' base ok (.slice (some ⟨g, 0, none⟩) (xs.filter fun x => !p x).length c) (xs.filter fun x => !p x) ∧ Below base w w' ∧ (∀ k, k ≠ g → k < w.heap.size → w'.heap[k]? = w.heap[k]?) := by
  obtain ⟨hn, hnc, hC⟩ := Kd.R_reads' HO
  subst hn
  have hL : xs.length ≤ 9223372036854775807 := hC.2.1
  have hidx := idxF w (some ⟨g, 0, none⟩) c xs u p hC (fun W' hB x => hcl W' ⟨hB.os, hB.tape, hB.output, hB.size, fun k hk => hB.block k (Nat.lt_of_lt_of_le hk hbase)⟩ (fun k _ hk => hB.block k hk) x)
  have HO1 := Aside0.mk HO
  have HCL := Aside0.mk hcl
  have HIX := Aside0.mk hidx
  have hsp := idxP_spec p xs 0
  have H0 : ∀ k, k ≠ g → k < w.heap.size → w.heap[k]? = w.heap[k]? := fun _ _ _ => rfl
  rcases hsp with ⟨h1, h2, _⟩ | h1 | ⟨i0, hi0, h1, h2, h3⟩
  · rw [h1] at HIX
    have hfl : (xs.filter fun x => !p x) = xs := List.filter_eq_self.2 fun x hx => by rw [h2 x hx]; rfl
    rw [hfl]
    clear h1 h2 hfl hidx hC hcl HO
    go_enter Try.func26, Try.ntmps26
    go_wp2_with (go_at_call 30; refine HIX.out.mono ?_; rintro e w1 ⟨rfl, hb1⟩)
    go_ret
    exact ⟨rfl, Kd.R_below HO1.out hb1, ⟨hb1.os, hb1.tape, hb1.output, hb1.size, fun k hk => hb1.block k (Nat.lt_of_lt_of_le hk hbase)⟩, fun k _ hk => hb1.block k hk⟩
  · exact absurd h1 (by decide)
  rw [h1, Int.zero_add] at HIX
  have hne1 : (((i0 : Nat) : Int) == -1) = false := by simp
  have wi : IntKind.i64.wrap ((i0 : Int) + 1) = ((i0 + 1 : Nat) : Int) := by rw [IntKind.wrap_i64]; omega
  have hk0 : kept p xs (i0 + 1) = xs.take i0 := by rw [kept_yes p xs i0 hi0 h2, kept_all p xs i0 h3]
  have hkl : (kept p xs (i0 + 1)).length = i0 := by rw [hk0, List.length_take]; omega
  have hm0 : mixed p xs (i0 + 1) = xs := by unfold mixed; rw [hkl, hk0]; exact List.take_append_drop _ _
  have hmono : ∀ j, i0 + 1 ≤ j → j ≤ xs.length → (kept p xs j).length < j := by
    intro j h1 h2'
    obtain ⟨d, rfl⟩ : ∃ d, j = i0 + 1 + d := ⟨j - (i0 + 1), by omega⟩
    induction d with
    | zero => rw [Nat.add_zero, hkl]; omega
    | succ d ih =>
      have := ih (by omega) (by omega)
      have hj : i0 + 1 + d < xs.length := by omega
      cases hp : p xs[i0 + 1 + d] with
      | true => rw [show i0 + 1 + (d + 1) = i0 + 1 + d + 1 by omega, kept_yes p xs _ hj hp]; omega
      | false => rw [show i0 + 1 + (d + 1) = i0 + 1 + d + 1 by omega, kept_no p xs _ hj hp, List.length_append]; simp; omega
  have HMONO := Aside0.mk hmono
  have HKL := Aside0.mk hkl
  have HM0 := Aside0.mk hm0
  clear HO hcl hidx hC h1 h2 h3 hk0 hmono hkl hm0
  go_enter Try.func26, Try.ntmps26
  go_wp2_with (go_at_call 30; refine HIX.out.mono ?_; rintro e w1 ⟨rfl, hb1⟩)
  have HB0 : Aside0 (Below base w w1) := Aside0.mk ⟨hb1.os, hb1.tape, hb1.output, hb1.size, fun k hk => hb1.block k (Nat.lt_of_lt_of_le hk hbase)⟩
  have HK0 : Aside0 (∀ k, k ≠ g → k < w.heap.size → w1.heap[k]? = w.heap[k]?) := Aside0.mk fun k _ hk => hb1.block k hk
  have HR0 := Aside0.mk (Kd.R_below HO1.out hb1)
  clear HO1 hb1 H0
  go_loopg [5, 6] xs.length (fun kx s5 s6 wr => ∃ (j : Nat), s5 = .int .i64 ((kept p xs j).length : Nat) ∧ s6 = .int .i64 j ∧ i0 + 1 ≤ j ∧ j ≤ xs.length ∧ xs.length - j ≤ kx ∧ Aside0 (Below base w wr) ∧ Aside0 (∀ k, k ≠ g → k < w.heap.size → wr.heap[k]? = w.heap[k]?) ∧ Aside0 (k33.R 33 wr base ok (.slice (some ⟨g, 0, none⟩) xs.length c) (mixed p xs j)))
  case atStart => exact ⟨i0 + 1, by rw [HKL.out], by first | rfl | go_num, Nat.le_refl _, by omega, by omega, HB0, HK0, by rw [HM0.out]; exact HR0⟩
  case round =>
    clear HB0 HK0 HR0 HKL HM0 HIX
    obtain ⟨j, rfl, rfl, hij, hjl, hkx, HB, HK, HR⟩ := hrel
    by_cases hlt : j < xs.length
    · have hkj := HMONO.out j hij hjl
      obtain ⟨q, hq⟩ : ∃ q, q = (kept p xs j).length := ⟨_, rfl⟩
      rw [← hq] at hkj ⊢
      obtain ⟨x, hx⟩ : ∃ x, x = xs[j] := ⟨_, rfl⟩
      have hgj : (mixed p xs j).getD j z33 = x := by rw [List.getD_eq_getElem?_getD, mixed_get p xs j hlt, hx]; rfl
      obtain ⟨cs, hcs1, hcs2, hcs3, hcs4⟩ := Kd.R_elem HR.out z33 (j : Int) (by omega) (by omega)
      rw [Int.toNat_natCast, hgj] at hcs2
      rw [Int.toNat_natCast] at hcs3
      obtain rfl := k33_openM hcs2
      have hc0 : wr.cell? ⟨g, j * 2, none⟩ = some (.int .i64 x.f0) := hcs3 0 _ rfl
      have hc1 : wr.cell? ⟨g, j * 2 + 1, none⟩ = some (.int .i64 x.f1) := hcs3 1 _ rfl
      have hjz : (j : Int) < (xs.length : Int) := by omega
      have hj0 : (0 : Int) ≤ (j : Int) := by omega
      have rj : IntKind.i64.wrap ((j : Int) + 1) = ((j + 1 : Nat) : Int) := by rw [IntKind.wrap_i64]; omega
      have e5 : xs.length - (j + 1) < gk := by omega
      have e6 : xs.length - (j + 1) ≤ xs.length - (j + 1) := Nat.le_refl _
      have hcl := HCL.out (wr.alloc (.cells #[.int .i64 x.f0, .int .i64 x.f1] 33)) (HB.out.alloc (Nat.le_trans hbase HB.out.size) _) (fun k hk1 hk2 => by rw [← HK.out k hk1 hk2]; exact (below_alloc (Below.refl wr.heap.size wr) _).block k (Nat.lt_of_lt_of_le hk2 HB.out.size)) x
      have hcell : wr.cell? ⟨g, j * 2, none⟩ = some (.int .i64 x.f0) := hc0
      clear hcs1 hcs2 hcs3 hcs4 hgj hkx
      have HX := Aside0.mk hx
      clear hx
      have HQ := Aside0.mk hq
      clear hq
      by_cases he : p x = true
      · rw [he] at hcl
        have HE := Aside0.mk he
        clear he
        go_wp2_with (go_at_call 27; refine hcl.mono ?_; rintro e w2 ⟨rfl, hb2⟩)
        have hS : base ≤ wr.heap.size := Nat.le_trans hbase HB.out.size
        have hb3 : Below wr.heap.size wr w2 := below_step (below_alloc (Below.refl _ _) _) hb2
        have hkp : kept p xs (j + 1) = kept p xs j := kept_yes p xs j hlt (by rw [← HX.out]; exact HE.out)
        have hmx : mixed p xs (j + 1) = mixed p xs j := mixed_yes p xs j hlt (by rw [← HX.out]; exact HE.out)
        have hkl : ((kept p xs (j + 1)).length : Int) = (q : Int) := by rw [hkp, HQ.out]
        have HKL := Aside0.mk hkl
        have HMX := Aside0.mk hmx
        clear hkp hkl hmx
        go_roundg (xs.length - (j + 1))
        case measure => exact e5
        case rel => exact ⟨j + 1, by rw [HKL.out], by first | rfl | go_num, by omega, by omega, e6, Aside0.mk (HB.out.trans (hb3.mono hS)), Aside0.mk (fun k hk1 hk2 => (hb3.block k (Nat.lt_of_lt_of_le hk2 HB.out.size)).trans (HK.out k hk1 hk2)), Aside0.mk (by rw [HMX.out]; exact Kd.R_below HR.out hb3)⟩
      · have hf : p x = false := by simpa using he
        rw [hf] at hcl
        have HE := Aside0.mk hf
        clear he hf
        have hgne : g ≠ wr.heap.size := Nat.ne_of_lt (Kd.R_lt HR.out g (by simp [Value.ownBlock]))
        have hq0 : (0 : Int) ≤ (q : Int) := by omega
        have hqz : (q : Int) < (xs.length : Int) := by omega
        have rq : IntKind.i64.wrap ((q : Int) + 1) = ((q + 1 : Nat) : Int) := by rw [IntKind.wrap_i64]; omega
        have hS : base ≤ wr.heap.size := Nat.le_trans hbase HB.out.size
        have HONE : Aside0 (∀ v ∈ [Value.int .i64 x.f0, .int .i64 x.f1], v.oneCell' = true) := Aside0.mk (by
          intro v hv
          rcases List.mem_cons.1 hv with rfl | hv
          · rfl
          · rw [List.mem_singleton.1 hv]; rfl)
        have HQT : Aside0 (q * 2 = ((q : Nat) : Int).toNat * k33.sz + 0) := Aside0.mk (by rw [Int.toNat_natCast]; rfl)
        go_wp2_with (first | (go_at_call 27; refine hcl.mono ?_; rintro e w2 ⟨rfl, hb2⟩; have hd0 : w2.cell? ⟨wr.heap.size, 0, none⟩ = some (.int .i64 x.f0) := (hb2.cell (p := ⟨wr.heap.size, 0, none⟩) (by simp)).trans (by go_simp); have hd1 : w2.cell? ⟨wr.heap.size, 1, none⟩ = some (.int .i64 x.f1) := (hb2.cell (p := ⟨wr.heap.size, 1, none⟩) (by simp)).trans (by go_simp); have hb3 : Aside0 (Below wr.heap.size wr w2) := Aside0.mk (below_step (below_alloc (Below.refl _ _) _) hb2); clear hb2; have HR2 := Aside0.mk (Kd.R_below HR.out hb3.out); have HB2 := Aside0.mk (HB.out.trans (hb3.out.mono hS)); obtain ⟨ds, hds1, hds2, hds3, hds4⟩ := Kd.R_elem HR2.out z33 (q : Int) hq0 hqz; obtain rfl := k33_openM hds2; have HD3 := Aside0.mk hds3; clear hds1 hds2 hds3 hds4) | (refine Kd.R_store k33 (w0 := w) base (by rfl) (by rfl) 33 _ _ (by rfl) 33 (g := g) (n := xs.length) (cap := c) (q : Int) 0 (mixed p xs j) x (.agg #[.int .i64 x.f0, .int .i64 x.f1]) [.int .i64 x.f0, .int .i64 x.f1] _ ok (fun _ => False) (by rfl) HQT.out (by rfl) (by rfl) (by kernel_rfl) HONE.out HR2.out hq0 hqz (by rfl) HD3.out (Nat.le_refl 2) (k33_mkM _ _ _ x) (fun _ hk => hk.elim) HB2.out ?_; intro w3 hR3 hB3 hg3))
        have hgr : Below wr.heap.size wr w2 := hb3.out
        have hbl : ∀ k, k ≠ g → k < w.heap.size → w3.heap[k]? = w.heap[k]? := fun k hk1 hk2 => (hg3.block k (Nat.lt_of_lt_of_le hk2 HB2.out.size) (fun he => hk1 (by injection he))).trans ((hgr.block k (Nat.lt_of_lt_of_le hk2 HB.out.size)).trans (HK.out k hk1 hk2))
        have hkp : kept p xs (j + 1) = kept p xs j ++ [xs[j]] := kept_no p xs j hlt (by rw [← HX.out]; exact HE.out)
        have hmx : mixed p xs (j + 1) = (mixed p xs j).set (q : Int).toNat x := by rw [mixed_no p xs j hlt (by rw [← HX.out]; exact HE.out), Int.toNat_natCast, HQ.out, HX.out]
        have hkl : (((kept p xs (j + 1)).length : Nat) : Int) = (q : Int) + 1 := by rw [hkp, List.length_append, ← HQ.out]; rfl
        have HKL := Aside0.mk hkl
        have HMX := Aside0.mk hmx
        have HBL := Aside0.mk hbl
        clear hkp hkl hmx hbl hgr
        go_roundg (xs.length - (j + 1))
        case measure => exact e5
        case rel => exact ⟨j + 1, by rw [HKL.out], by first | rfl | go_num, by omega, by omega, e6, Aside0.mk hB3, HBL, Aside0.mk (by rw [HMX.out]; exact hR3)⟩
    · have hje : j = xs.length := by omega
      have hkj := HMONO.out j hij hjl
      obtain ⟨q, hq⟩ : ∃ q, q = (kept p xs j).length := ⟨_, rfl⟩
      rw [← hq] at hkj ⊢
      have hfl : (xs.filter fun x => !p x) = kept p xs j := by unfold kept; rw [hje, List.take_length]
      have hfr : (mixed p xs j).take q = kept p xs j := by unfold mixed; rw [hq, List.take_left]
      have hR4 := Kd.R_take (m := q) HR.out (by rw [mixed_length p xs j hjl]; omega)
      rw [hfr] at hR4
      have HFL : Aside0 ((xs.filter fun x => !p x) = kept p xs j) := Aside0.mk hfl
      have HQ := Aside0.mk hq
      have hS : base ≤ wr.heap.size := Nat.le_trans hbase HB.out.size
      have hm0 : 0 < xs.length - q := by omega
      have hqc : q + (xs.length - q) ≤ c := by omega
      obtain ⟨w3, hcl3, hR3, hg3⟩ := clear_rest k33 rfl base 0 hR4 hm0 hqc
      have hbg : base ≤ g := Kd.R_base HR.out g (by simp [Value.ownBlock])
      have hB3 : Below base w w3 := HB.out.grown hg3 hS (fun k hk => by injection hk with hk; subst hk; exact hbg)
      have hbl : ∀ k, k ≠ g → k < w.heap.size → w3.heap[k]? = w.heap[k]? := fun k hk1 hk2 => (hg3.block k (Nat.lt_of_lt_of_le hk2 HB.out.size) (fun he => hk1 (by injection he))).trans (HK.out k hk1 hk2)
      have hq0 : (0 : Int) ≤ (q : Int) := by omega
      have hqn : (q : Int) ≤ (xs.length : Int) := by omega
      have hqc2 : (q : Int) ≤ (c : Int) := by omega
      have hjn : ¬ ((j : Int) < (xs.length : Int)) := by omega
      have hcq : ¬ (c = q) := by omega
      have HR3 := Aside0.mk hR3
      have HB3 := Aside0.mk hB3
      have HBL := Aside0.mk hbl
      have HCL3 := Aside0.mk hcl3
      clear hq hfl hfr hR4 hR3 hB3 hbl hcl3 hje hg3
      go_wp2
      rw [HCL3.out]
      go_wp2
      go_ret
      rw [HFL.out, ← HQ.out]
      exact ⟨rfl, HR3.out, HB3.out, HBL.out⟩
end Go.Proofs.Ytbgkmbghmhgajaa.PA
