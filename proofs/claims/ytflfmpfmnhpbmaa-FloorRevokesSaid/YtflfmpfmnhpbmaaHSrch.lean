import Derived.Test.YtflfmpfmnhpbmaaPAx0
import Derived.Test.YtflfmpfmnhpbmaaPAx3
/- Four numbers against four zeros, as an array; and a map of six functions, made and asked, by its objects. -/
namespace Go.Proofs.Ytflfmpfmnhpbmaa.PA
open Go.RowKit Go.Proofs.YtflfmpfmnhpbmaaW.PrintWords Go.Proofs.YtflfmpfmnhpbmaaW.PrintLast Go.Proofs.YtflfmpfmnhpbmaaW.PrintMore
set_option linter.unusedVariables false
set_option linter.unusedSimpArgs false
theorem und72 (w : World) : (underlying 72).run Try.prog w = .ok (.array 4 3) w := by kernel_rfl
theorem und3a (w : World) : (underlying 3).run Try.prog w = .ok (.int .i64) w := by kernel_rfl
theorem size3a (w : World) : (sizeOf 3).run Try.prog w = .ok 1 w := by kernel_rfl
theorem eqInt3 (d : Nat) (a b : Int) (w : World) : (Op.equalIn (d + 1) 3 (.int .i64 a) (.int .i64 b)).run Try.prog w = .ok (a == b) w := by
  unfold Op.equalIn
  simp only [Sem.run_bind, und3a, Result.andThen_ok]
  rfl
theorem eq4 (h p u l : Int) (w : World) : (Op.equalIn 10000 72 (.agg #[.int .i64 h, .int .i64 p, .int .i64 u, .int .i64 l]) (.agg #[.int .i64 0, .int .i64 0, .int .i64 0, .int .i64 0])).run Try.prog w = .ok (decide (h = 0) && decide (p = 0) && decide (u = 0) && decide (l = 0)) w := by
  rw [show (10000 : Nat) = 9998 + 1 + 1 from rfl]
  rw [Op.equalIn]
  simp only [Sem.run_bind, und72, Result.andThen_ok, size3a]
  have e2 : List.range' 0 4 1 = [0, 1, 2, 3] := by decide
  have p0 : ∀ (a0 a1 a2 a3 : Value) (w : World), (part 3 #[a0, a1, a2, a3] (0 * 1)).run Try.prog w = .ok a0 w := fun a0 a1 a2 a3 w => by kernel_rfl
  have p1 : ∀ (a0 a1 a2 a3 : Value) (w : World), (part 3 #[a0, a1, a2, a3] (1 * 1)).run Try.prog w = .ok a1 w := fun a0 a1 a2 a3 w => by kernel_rfl
  have p2 : ∀ (a0 a1 a2 a3 : Value) (w : World), (part 3 #[a0, a1, a2, a3] (2 * 1)).run Try.prog w = .ok a2 w := fun a0 a1 a2 a3 w => by kernel_rfl
  have p3 : ∀ (a0 a1 a2 a3 : Value) (w : World), (part 3 #[a0, a1, a2, a3] (3 * 1)).run Try.prog w = .ok a3 w := fun a0 a1 a2 a3 w => by kernel_rfl
  simp only [Std.Legacy.Range.forIn_eq_forIn_range', Std.Legacy.Range.size, Nat.sub_zero, Nat.add_one_sub_one, Nat.div_one, Nat.reduceAdd, Nat.reduceSub, e2, List.forIn_cons, Sem.run_bind, size3a, Result.andThen_ok, p0, p1, p2, p3, eqInt3]
  by_cases h0 : h = 0 <;> by_cases h1 : p = 0 <;> by_cases h2 : u = 0 <;> by_cases h3 : l = 0 <;> simp [h0, h1, h2, h3, Result.andThen, p1, p2, p3, eqInt3]
end Go.Proofs.Ytflfmpfmnhpbmaa.PA

/- slices.BinarySearch in whole numbers that rise: what it answers, whatever its rounds. -/
namespace Go.Proofs.Ytflfmpfmnhpbmaa.PA
open Go.RowKit Go.Proofs.YtflfmpfmnhpbmaaW.PrintWords Go.Proofs.YtflfmpfmnhpbmaaW.PrintLast Go.Proofs.YtflfmpfmnhpbmaaW.PrintMore
set_option linter.unusedVariables false
set_option linter.unusedSimpArgs false
theorem w64q (n : Int) (h0 : -9223372036854775808 ≤ n) (h1 : n ≤ 9223372036854775807) : wrap64 n = n := by unfold wrap64; omega
theorem rdq (l : List Int) (j : Nat) (h : j < l.length) : rd l (j : Int) = l[j] := by
  unfold rd
  rw [Int.toNat_natCast, List.getD_eq_getElem?_getD, List.getElem?_eq_getElem h]; rfl
theorem less_f (a b : Int) : cmp_Less_int.f a b = some (decide (a < b)) := by
  unfold cmp_Less_int.f cmp_isNaN_int.f
  simp
theorem nan_f (a : Int) : slices_isNaN_int.f a = some false := by
  unfold slices_isNaN_int.f
  simp
theorem bs_l0 (l : List Int) (hl : l.length ≤ 1000) (hs : l.Pairwise (· < ·)) (x : Int) (d : Nat) : ∀ i j : Nat, j - i ≤ d → i ≤ j → j ≤ l.length → (∀ (q : Nat) (h : q < l.length), q < i → l[q] < x) → (∀ (q : Nat) (h : q < l.length), j ≤ q → x ≤ l[q]) →
    ∃ (p : Nat), p ≤ l.length ∧ (∀ (q : Nat) (h : q < l.length), q < p → l[q] < x) ∧ (∀ (q : Nat) (h : q < l.length), p ≤ q → x ≤ l[q]) ∧ Ev (fun k => slices_BinarySearch_int_int.l0 k l x (l.length : Int) (i : Int) (j : Int)) ((p : Int), decide (x ∈ l)) := by
  have hp := List.pairwise_iff_getElem.1 hs
  induction d with
  | zero =>
    intro i j hd hij hj h1 h2
    obtain rfl : i = j := by omega
    refine ⟨i, hj, h1, h2, ?_⟩
    by_cases hi : i < l.length
    · by_cases he : l[i] = x
      · rw [decide_eq_true (show x ∈ l by rw [← he]; exact List.getElem_mem hi)]
        exact Ev.step (f := fun _ => some ((i : Int), true)) (fun k => by rw [slices_BinarySearch_int_int.l0, if_neg (by omega), if_pos (by omega), if_pos (by omega), if_pos (by omega), rdq l i hi, if_pos he]) (Ev.now _)
      · have hn : ¬ x ∈ l := by
          intro hm
          obtain ⟨q, hq, rfl⟩ := List.mem_iff_getElem.1 hm
          rcases Nat.lt_or_ge q i with h | h
          · exact absurd (h1 q hq h) (by omega)
          · rcases Nat.eq_or_lt_of_le h with h | h
            · subst h; exact he rfl
            · have a := hp i q hi hq h
              have b := h2 i hi (Nat.le_refl _)
              omega
        rw [decide_eq_false hn]
        exact Ev.step (f := fun _ => some ((i : Int), false)) (fun k => by rw [slices_BinarySearch_int_int.l0, if_neg (by omega), if_pos (by omega), if_pos (by omega), if_pos (by omega), rdq l i hi, if_neg he, nan_f, Option.bind_some, if_neg (by decide)]) (Ev.now _)
    · have hn : ¬ x ∈ l := by
        intro hm
        obtain ⟨q, hq, rfl⟩ := List.mem_iff_getElem.1 hm
        exact absurd (h1 q hq (by omega)) (by omega)
      rw [decide_eq_false hn]
      exact Ev.step (f := fun _ => some ((i : Int), false)) (fun k => by rw [slices_BinarySearch_int_int.l0, if_neg (by omega), if_neg (by omega)]) (Ev.now _)
  | succ d ih =>
    intro i j hd hij hj h1 h2
    rcases Nat.eq_or_lt_of_le hij with rfl | hlt
    · exact ih i i (by omega) (Nat.le_refl _) hj h1 h2
    obtain ⟨m, hm⟩ : ∃ m : Nat, m = (i + j) / 2 := ⟨_, rfl⟩
    have hw : wrap64 (IntKind.u64.wrap (wrap64 ((i : Int) + (j : Int))) / 2) = (m : Int) := by
      have e1 : wrap64 ((i : Int) + (j : Int)) = (i : Int) + (j : Int) := w64q _ (by omega) (by omega)
      rw [e1, IntKind.wrap_u64, Int.emod_eq_of_lt (by omega) (by omega), w64q _ (by omega) (by omega)]
      omega
    have hml : m < l.length := by omega
    have hmi : i ≤ m := by omega
    have hmj : m < j := by omega
    have hsx : wrap64 ((m : Int) + 1) = ((m + 1 : Nat) : Int) := by rw [w64q _ (by omega) (by omega)]; rfl
    by_cases hc : l[m] < x
    · have hside : ∀ (q : Nat) (h : q < l.length), q < m + 1 → l[q] < x := by
        intro q h hq
        rcases Nat.lt_or_ge q m with hqm | hqm
        · have := hp q m h hml hqm
          omega
        · obtain rfl : q = m := by omega
          exact hc
      obtain ⟨p, q1, q2, q3, q4⟩ := ih (m + 1) j (by omega) (by omega) hj hside h2
      refine ⟨p, q1, q2, q3, Ev.step (fun k => ?_) q4⟩
      rw [slices_BinarySearch_int_int.l0, if_pos (by omega), hw, if_pos (by omega), if_pos (by omega), rdq l m hml, less_f, Option.bind_some, if_pos (decide_eq_true hc), hsx]
    · have hside : ∀ (q : Nat) (h : q < l.length), m ≤ q → x ≤ l[q] := by
        intro q h hq
        rcases Nat.lt_or_ge m q with hqm | hqm
        · have := hp m q hml h hqm
          omega
        · obtain rfl : q = m := by omega
          omega
      obtain ⟨p, q1, q2, q3, q4⟩ := ih i m (by omega) (by omega) (by omega) h1 hside
      refine ⟨p, q1, q2, q3, Ev.step (fun k => ?_) q4⟩
      rw [slices_BinarySearch_int_int.l0, if_pos (by omega), hw, if_pos (by omega), if_pos (by omega), rdq l m hml, less_f, Option.bind_some, if_neg (by simpa using hc)]
/-- How many are less. -/
def less (x : Int) (l : List Int) : Nat := (l.filter fun t => decide (t < x)).length
theorem less_eq (x : Int) (l : List Int) (p : Nat) (hp : p ≤ l.length) (h1 : ∀ (q : Nat) (h : q < l.length), q < p → l[q] < x) (h2 : ∀ (q : Nat) (h : q < l.length), p ≤ q → x ≤ l[q]) : less x l = p := by
  have hap := List.take_append_drop p l
  unfold less
  rw [← hap, List.filter_append, List.length_append]
  have e1 : (l.take p).filter (fun t => decide (t < x)) = l.take p := by
    rw [List.filter_eq_self]
    intro t ht
    obtain ⟨q, hq, rfl⟩ := List.mem_iff_getElem.1 ht
    rw [List.length_take] at hq
    rw [List.getElem_take]
    exact decide_eq_true (h1 q (by omega) (by omega))
  have e2 : (l.drop p).filter (fun t => decide (t < x)) = [] := by
    rw [List.filter_eq_nil_iff]
    intro t ht
    obtain ⟨q, hq, rfl⟩ := List.mem_iff_getElem.1 ht
    rw [List.length_drop] at hq
    rw [List.getElem_drop]
    have := h2 (p + q) (by omega) (by omega)
    simpa using this
  rw [e1, e2, List.length_take, List.length_nil]
  omega
theorem bs_ev (l : List Int) (hl : l.length ≤ 1000) (hs : l.Pairwise (· < ·)) (x : Int) :
    less x l ≤ l.length ∧ (∀ t ∈ l.take (less x l), t < x) ∧ (∀ t ∈ l.drop (less x l), x ≤ t) ∧ Ev (fun k => slices_BinarySearch_int_int.f k l x) ((less x l : Int), decide (x ∈ l)) := by
  obtain ⟨p, h1, h2, h3, h4⟩ := bs_l0 l hl hs x l.length 0 l.length (by omega) (Nat.zero_le _) (Nat.le_refl _) (fun q h hq => by omega) (fun q h hq => by omega)
  rw [less_eq x l p h1 h2 h3]
  refine ⟨h1, fun t ht => ?_, fun t ht => ?_, h4⟩
  · obtain ⟨q, hq, rfl⟩ := List.mem_iff_getElem.1 ht
    rw [List.length_take] at hq
    rw [List.getElem_take]
    exact h2 q (by omega) (by omega)
  · obtain ⟨q, hq, rfl⟩ := List.mem_iff_getElem.1 ht
    rw [List.length_drop] at hq
    rw [List.getElem_drop]
    exact h3 (p + q) (by omega) (by omega)
end Go.Proofs.Ytflfmpfmnhpbmaa.PA

