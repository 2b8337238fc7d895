/- The tables' functions as plain lists: what each comes to; no memory in sight. -/
import Derived.Test.YtdhckdeojplghaaPAx9
import Derived.Test.YtdhckdeojplghaaPAx10
set_option linter.unusedVariables false
set_option linter.unusedSimpArgs false
namespace Go.Proofs.Ytdhckdeojplghaa.FT
open Go.RowKit Go.Proofs.Ytdhckdeojplghaa.PA Go.Proofs.YtdhckdeojplghaaW.PrintWords Go.Proofs.YtdhckdeojplghaaW.PrintLast

theorem w64' (n : Int) (h0 : -9223372036854775808 ≤ n) (h1 : n ≤ 9223372036854775807) : wrap64 n = n := by unfold wrap64; omega
theorem rdI (l : List Int) (j : Nat) (h : j < l.length) : rd l (j : Int) = l[j] := by
  unfold rd
  rw [Int.toNat_natCast, List.getD_eq_getElem?_getD, List.getElem?_eq_getElem h]; rfl
theorem rd_drop (l : List Int) (j : Nat) : rd (l.drop 1) (j : Int) = rd l ((j + 1 : Nat) : Int) := by
  unfold rd
  rw [Int.toNat_natCast, Int.toNat_natCast, List.getD_eq_getElem?_getD, List.getD_eq_getElem?_getD, List.getElem?_drop, Nat.add_comm]
theorem cast1 (i : Nat) : (i : Int) + 1 = ((i + 1 : Nat) : Int) := by omega

/-- Rising from i on. -/
def Up (c : List Int) (i : Nat) : Prop := ∀ j, i ≤ j → j + 1 < c.length → rd c (j : Int) < rd c ((j + 1 : Nat) : Int)
/-- A table that may be. -/
def Good (c : List Int) : Prop := 2 ≤ c.length ∧ c.length ≤ 257 ∧ rd c 0 = 0 ∧ rd c ((c.length - 1 : Nat) : Int) ≤ 16384 ∧ Up c 0
open Classical in
noncomputable def ok1 (p : Prop) : Int := if p then 0 else 1
theorem ok1_t {p : Prop} (h : p) : ok1 p = 0 := if_pos h
theorem ok1_f {p : Prop} (h : ¬ p) : ok1 p = 1 := if_neg h
theorem ok1_iff {p q : Prop} (h : p ↔ q) : ok1 p = ok1 q := by rw [propext h]
theorem ok1_zero {p : Prop} : ok1 p = 0 ↔ p := ⟨fun h => Classical.byContradiction fun hn => by rw [ok1_f hn] at h; exact absurd h (by decide), ok1_t⟩

theorem up_step {c : List Int} {i : Nat} (h : i + 1 < c.length) : Up c i ↔ rd c (i : Int) < rd c ((i + 1 : Nat) : Int) ∧ Up c (i + 1) := by
  constructor
  · intro hu
    exact ⟨hu i (Nat.le_refl _) h, fun j hj => hu j (by omega)⟩
  · rintro ⟨h1, h2⟩ j hj hjl
    rcases Nat.eq_or_lt_of_le hj with rfl | hj
    · exact h1
    · exact h2 j hj hjl

theorem check_l0 (c : List Int) (hc : c.length ≤ 257) (hc1 : 1 ≤ c.length) (d : Nat) : ∀ i : Nat, i + 1 + d = c.length → Ev (fun k => freq_Check.l0 k (c.drop 1) ((c.drop 1).length : Int) (i : Int) c) (ok1 (Up c i)) := by
  have hl : (c.drop 1).length = c.length - 1 := by rw [List.length_drop]
  induction d with
  | zero =>
    intro i hi
    rw [ok1_t (show Up c i from fun j hj hjl => by omega)]
    exact Ev.step (f := fun _ => some 0) (fun k => by rw [freq_Check.l0, if_neg (by omega)]) (Ev.now _)
  | succ d ih =>
    intro i hi
    by_cases hb : rd c ((i + 1 : Nat) : Int) ≤ rd c (i : Int)
    · rw [ok1_f (show ¬ Up c i from fun h => by have := ((up_step (by omega)).1 h).1; omega)]
      exact Ev.step (f := fun _ => some 1) (fun k => by rw [freq_Check.l0, if_pos (by omega), if_pos (by omega), if_pos (by omega), if_pos (by omega), rd_drop, if_pos hb]) (Ev.now _)
    · rw [ok1_iff (show Up c i ↔ Up c (i + 1) from ⟨fun h => ((up_step (by omega)).1 h).2, fun h => (up_step (by omega)).2 ⟨by omega, h⟩⟩)]
      refine Ev.step (fun k => ?_) (ih (i + 1) (by omega))
      rw [freq_Check.l0, if_pos (by omega), if_pos (by omega), if_pos (by omega), if_pos (by omega), rd_drop, if_neg hb, cast1, w64' _ (by omega) (by omega)]

theorem last_f (c : List Int) (h1 : 1 ≤ c.length) (h2 : c.length ≤ 9223372036854775807) : freq_last.f c = some (rd c ((c.length - 1 : Nat) : Int)) := by
  have h3 : (c.length : Int) - 1 = ((c.length - 1 : Nat) : Int) := by omega
  unfold freq_last.f
  rw [h3, w64' _ (by omega) (by omega), if_pos (by omega), if_pos (by omega)]

theorem check_ev (c : List Int) (hL : c.length ≤ 9223372036854775807) : Ev (fun k => freq_Check.f k c) (ok1 (Good c)) := by
  have bad : ¬ Good c → Ev (fun k => freq_Check.j0 k true c) (ok1 (Good c)) := fun h => by
    rw [ok1_f h]
    exact Ev.step (f := fun _ => some 1) (fun k => by rw [freq_Check.j0, if_pos rfl]) (Ev.now _)
  by_cases h1 : c.length < 2
  · exact Ev.congr (fun k => by unfold freq_Check.f; rw [if_pos (by omega)]) (bad fun h => by have := h.1; omega)
  by_cases h2 : c.length > 257
  · exact Ev.congr (fun k => by unfold freq_Check.f; rw [if_neg (by omega), if_pos (by omega)]) (bad fun h => by have := h.2.1; omega)
  by_cases h3 : rd c 0 = 0
  · by_cases h4 : rd c ((c.length - 1 : Nat) : Int) > 16384
    · refine Ev.congr (fun k => ?_) (bad fun h => by have := h.2.2.2.1; omega)
      unfold freq_Check.f
      rw [if_neg (by omega), if_neg (by omega), if_pos (by omega), if_pos h3, last_f c (by omega) hL, Option.bind_some, decide_eq_true h4]
    · rw [ok1_iff (show Good c ↔ Up c 0 from ⟨fun h => h.2.2.2.2, fun h => ⟨by omega, by omega, h3, by omega, h⟩⟩)]
      refine Ev.congr (f := fun k => freq_Check.j0 k false c) (fun k => ?_) (Ev.step (fun k => ?_) (check_l0 c (by omega) (by omega) (c.length - 1) 0 (by omega)))
      · unfold freq_Check.f
        rw [if_neg (by omega), if_neg (by omega), if_pos (by omega), if_pos h3, last_f c (by omega) hL, Option.bind_some, decide_eq_false h4]
      · rw [freq_Check.j0, if_neg (by decide), if_pos (by omega)]; rfl
  · refine Ev.congr (fun k => ?_) (bad fun h => h3 h.2.2.1)
    unfold freq_Check.f
    rw [if_neg (by omega), if_neg (by omega), if_pos (by omega), if_neg h3]

theorem rcheck_l0 (c : List Int) (hc : c.length ≤ 257) (hc1 : 1 ≤ c.length) (d : Nat) : ∀ i : Nat, i + 1 + d = c.length → Ev (fun k => squelchref03_Check.l0 k (c.length : Int) ((i + 1 : Nat) : Int) c) (ok1 (Up c i)) := by
  induction d with
  | zero =>
    intro i hi
    rw [ok1_t (show Up c i from fun j hj hjl => by omega)]
    exact Ev.step (f := fun _ => some 0) (fun k => by rw [squelchref03_Check.l0, if_neg (by omega)]) (Ev.now _)
  | succ d ih =>
    intro i hi
    have hm : (((i + 1 : Nat) : Int) - 1) = (i : Int) := by omega
    by_cases hb : rd c ((i + 1 : Nat) : Int) ≤ rd c (i : Int)
    · rw [ok1_f (show ¬ Up c i from fun h => by have := ((up_step (by omega)).1 h).1; omega)]
      exact Ev.step (f := fun _ => some 1) (fun k => by rw [squelchref03_Check.l0, if_pos (by omega), if_pos (by omega), if_pos (by omega), hm, w64' _ (by omega) (by omega), if_pos (by omega), if_pos (by omega), if_pos hb]) (Ev.now _)
    · rw [ok1_iff (show Up c i ↔ Up c (i + 1) from ⟨fun h => ((up_step (by omega)).1 h).2, fun h => (up_step (by omega)).2 ⟨by omega, h⟩⟩)]
      refine Ev.step (fun k => ?_) (ih (i + 1) (by omega))
      rw [squelchref03_Check.l0, if_pos (by omega), if_pos (by omega), if_pos (by omega), hm, w64' (i : Int) (by omega) (by omega), if_pos (by omega), if_pos (by omega), if_neg hb, cast1, w64' _ (by omega) (by omega)]

theorem rcheck_ev (c : List Int) (hL : c.length ≤ 9223372036854775807) : Ev (fun k => squelchref03_Check.f k c) (ok1 (Good c)) := by
  have bad : ∀ x, ¬ Good c → Ev (fun k => squelchref03_Check.j0 k x true c) (ok1 (Good c)) := fun x h => by
    rw [ok1_f h]
    exact Ev.step (f := fun _ => some 1) (fun k => by rw [squelchref03_Check.j0, if_pos rfl]) (Ev.now _)
  by_cases h1 : c.length < 2
  · exact Ev.congr (fun k => by unfold squelchref03_Check.f; rw [if_pos (by omega)]) (bad _ fun h => by have := h.1; omega)
  by_cases h2 : c.length > 257
  · exact Ev.congr (fun k => by unfold squelchref03_Check.f; rw [if_neg (by omega), if_pos (by omega)]) (bad _ fun h => by have := h.2.1; omega)
  have h5 : (c.length : Int) - 1 = ((c.length - 1 : Nat) : Int) := by omega
  by_cases h3 : rd c 0 = 0
  · by_cases h4 : rd c ((c.length - 1 : Nat) : Int) > 16384
    · refine Ev.congr (fun k => ?_) (bad (c.length : Int) fun h => by have := h.2.2.2.1; omega)
      unfold squelchref03_Check.f
      rw [if_neg (by omega), if_neg (by omega), if_pos (by omega), if_pos h3, h5, w64' _ (by omega) (by omega), if_pos (by omega), if_pos (by omega), decide_eq_true h4]
    · rw [ok1_iff (show Good c ↔ Up c 0 from ⟨fun h => h.2.2.2.2, fun h => ⟨by omega, by omega, h3, by omega, h⟩⟩)]
      refine Ev.congr (f := fun k => squelchref03_Check.j0 k (c.length : Int) false c) (fun k => ?_) (Ev.step (fun k => ?_) (rcheck_l0 c (by omega) (by omega) (c.length - 1) 0 (by omega)))
      · unfold squelchref03_Check.f
        rw [if_neg (by omega), if_neg (by omega), if_pos (by omega), if_pos h3, h5, w64' _ (by omega) (by omega), if_pos (by omega), if_pos (by omega), decide_eq_false h4]
      · rw [squelchref03_Check.j0, if_neg (by decide)]; rfl
  · refine Ev.congr (fun k => ?_) (bad (c.length : Int) fun h => h3 h.2.2.1)
    unfold squelchref03_Check.f
    rw [if_neg (by omega), if_neg (by omega), if_pos (by omega), if_neg h3]

/-! ### What a table tells -/
open Classical in
noncomputable def tot (c : List Int) : Int := if Good c then rd c ((c.length - 1 : Nat) : Int) else 0
theorem total_ev (c : List Int) (hL : c.length ≤ 9223372036854775807) : Ev (fun k => freq_Total.f k c) (tot c) := by
  unfold freq_Total.f
  refine Ev.bind (check_ev c hL) ?_
  by_cases h : Good c
  · rw [tot, if_pos h]
    exact Ev.congr (fun k => by rw [ok1_t h, if_pos rfl, last_f c (by have := h.1; omega) hL, Option.bind_some]) (Ev.now _)
  · rw [tot, if_neg h]
    exact Ev.congr (fun k => by rw [ok1_f h, if_neg (by decide)]) (Ev.now _)
theorem rtotal_ev (c : List Int) (hL : c.length ≤ 9223372036854775807) : Ev (fun k => squelchref03_Total.f k c) (tot c) := by
  unfold squelchref03_Total.f
  refine Ev.bind (rcheck_ev c hL) ?_
  by_cases h : Good c
  · have h5 : (c.length : Int) - 1 = ((c.length - 1 : Nat) : Int) := by have := h.1; omega
    have h1 := h.1
    rw [tot, if_pos h]
    exact Ev.congr (fun k => by rw [ok1_t h, if_pos rfl, h5, w64' _ (by omega) (by omega), if_pos (by omega), if_pos (by omega)]) (Ev.now _)
  · rw [tot, if_neg h]
    exact Ev.congr (fun k => by rw [ok1_f h, if_neg (by decide)]) (Ev.now _)

open Classical in
noncomputable def spn (c : List Int) (s : Int) : Int × Int × Int := if Good c ∧ 0 ≤ s ∧ s + 1 < c.length then (rd c s, rd c (s + 1), 0) else (0, 0, 1)
theorem span_ev (c : List Int) (hL : c.length ≤ 9223372036854775807) (s : Int) : Ev (fun k => freq_Span.f k c s) (spn c s) := by
  unfold freq_Span.f
  refine Ev.bind (check_ev c hL) ?_
  by_cases h : Good c
  · have h1 := h.1
    have h2 := h.2.1
    by_cases h3 : 0 ≤ s ∧ s + 1 < c.length
    · have e : spn c s = (rd c s, rd c (s + 1), 0) := if_pos ⟨h, h3⟩
      rw [e]
      obtain ⟨h3, h4⟩ := h3
      exact Ev.congr (fun k => by rw [ok1_t h, if_pos rfl, if_neg (by omega), w64' _ (by omega) (by omega), if_neg (by omega), if_pos (by omega), if_pos (by omega), w64' _ (by omega) (by omega), if_pos (by omega), if_pos (by omega)]) (Ev.now _)
    · have e : spn c s = (0, 0, 1) := if_neg (fun hh => h3 hh.2)
      rw [e]
      by_cases h4 : s < 0
      · exact Ev.congr (fun k => by rw [ok1_t h, if_pos rfl, if_pos h4]) (Ev.now _)
      · exact Ev.congr (fun k => by rw [ok1_t h, if_pos rfl, if_neg h4, w64' _ (by omega) (by omega), if_pos (by omega)]) (Ev.now _)
  · have e : spn c s = (0, 0, 1) := if_neg (fun hh => h hh.1)
    rw [e]
    exact Ev.congr (fun k => by rw [ok1_f h, if_neg (by decide)]) (Ev.now _)
theorem rspan_ev (c : List Int) (hL : c.length ≤ 9223372036854775807) (s : Int) : Ev (fun k => squelchref03_Span.f k c s) (spn c s) := by
  unfold squelchref03_Span.f
  refine Ev.bind (rcheck_ev c hL) ?_
  by_cases h : Good c
  · have h1 := h.1
    have h2 := h.2.1
    by_cases h3 : 0 ≤ s ∧ s + 1 < c.length
    · have e : spn c s = (rd c s, rd c (s + 1), 0) := if_pos ⟨h, h3⟩
      rw [e]
      obtain ⟨h3, h4⟩ := h3
      exact Ev.congr (fun k => by rw [ok1_t h, if_pos rfl, if_neg (by omega), w64' _ (by omega) (by omega), if_neg (by omega), if_pos (by omega), if_pos (by omega), w64' _ (by omega) (by omega), if_pos (by omega), if_pos (by omega)]) (Ev.now _)
    · have e : spn c s = (0, 0, 1) := if_neg (fun hh => h3 hh.2)
      rw [e]
      by_cases h4 : s < 0
      · exact Ev.congr (fun k => by rw [ok1_t h, if_pos rfl, if_pos h4]) (Ev.now _)
      · exact Ev.congr (fun k => by rw [ok1_t h, if_pos rfl, if_neg h4, w64' _ (by omega) (by omega), if_pos (by omega)]) (Ev.now _)
  · have e : spn c s = (0, 0, 1) := if_neg (fun hh => h hh.1)
    rw [e]
    exact Ev.congr (fun k => by rw [ok1_f h, if_neg (by decide)]) (Ev.now _)

/-! ### A number's symbol -/
theorem up_lt {c : List Int} (h : Up c 0) (d : Nat) : ∀ i, i + d + 1 < c.length → rd c (i : Int) < rd c ((i + d + 1 : Nat) : Int) := by
  induction d with
  | zero => exact fun i hi => h i (Nat.zero_le _) hi
  | succ d ih => exact fun i hi => Int.lt_trans (ih i (by omega)) (h (i + d + 1) (Nat.zero_le _) (by omega))
theorem up_mono {c : List Int} (h : Up c 0) {i j : Nat} (hij : i < j) (hj : j < c.length) : rd c (i : Int) < rd c (j : Int) := by
  obtain ⟨d, rfl⟩ : ∃ d, j = i + d + 1 := ⟨j - i - 1, by omega⟩
  exact up_lt h d i hj
theorem up_le {c : List Int} (h : Up c 0) {i j : Nat} (hij : i ≤ j) (hj : j < c.length) : rd c (i : Int) ≤ rd c (j : Int) := by
  rcases Nat.eq_or_lt_of_le hij with rfl | hij
  · omega
  · exact Int.le_of_lt (up_mono h hij hj)
theorem sym_of {c : List Int} (h : Good c) {x : Int} (h0 : 0 ≤ x) (h1 : x < rd c ((c.length - 1 : Nat) : Int)) : ∃ s : Nat, s + 1 < c.length ∧ rd c (s : Int) ≤ x ∧ x < rd c ((s + 1 : Nat) : Int) := by
  have key : ∀ d : Nat, d + 1 ≤ c.length → x < rd c (d : Int) → ∃ s : Nat, s + 1 < c.length ∧ rd c (s : Int) ≤ x ∧ x < rd c ((s + 1 : Nat) : Int) := by
    intro d
    induction d with
    | zero =>
      intro _ hx
      have := h.2.2.1
      rw [show ((0 : Nat) : Int) = 0 from rfl, this] at hx
      omega
    | succ d ih =>
      intro hd hx
      by_cases hx2 : x < rd c (d : Int)
      · exact ih (by omega) hx2
      · exact ⟨d, by omega, by omega, hx⟩
  exact key (c.length - 1) (by have := h.1; omega) h1
theorem sym_unique {c : List Int} (h : Up c 0) {x : Int} {s t : Nat} (hs : s + 1 < c.length) (h1 : rd c (s : Int) ≤ x) (h2 : x < rd c ((s + 1 : Nat) : Int)) (ht : t + 1 < c.length) (h3 : rd c (t : Int) ≤ x) (h4 : x < rd c ((t + 1 : Nat) : Int)) : s = t := by
  rcases Nat.lt_trichotomy s t with hlt | he | hlt
  · have := up_le h (show s + 1 ≤ t by omega) (by omega)
    omega
  · exact he
  · have := up_le h (show t + 1 ≤ s by omega) (by omega)
    omega

theorem rfind_l0 (c : List Int) (hu : Up c 0) (hc : c.length ≤ 257) (x : Int) (s : Nat) (hs : s + 1 < c.length) (h1 : rd c (s : Int) ≤ x) (h2 : x < rd c ((s + 1 : Nat) : Int)) (d : Nat) : ∀ i : Nat, i + d = s → Ev (fun k => squelchref03_Find.l0 k x (i : Int) c) ((s : Int), 0) := by
  induction d with
  | zero =>
    intro i hi
    obtain rfl : i = s := by omega
    exact Ev.step (f := fun _ => some ((i : Int), 0)) (fun k => by rw [squelchref03_Find.l0, cast1, w64' _ (by omega) (by omega), if_pos (by omega), if_pos (by omega), if_neg (by omega)]) (Ev.now _)
  | succ d ih =>
    intro i hi
    have h3 : rd c ((i + 1 : Nat) : Int) ≤ x := Int.le_trans (up_le hu (show i + 1 ≤ s by omega) (by omega)) h1
    refine Ev.step (fun k => ?_) (ih (i + 1) (by omega))
    rw [squelchref03_Find.l0, cast1, w64' _ (by omega) (by omega), if_pos (by omega), if_pos (by omega), if_pos h3]

theorem less_f (a b : Int) : cmp_Less_int.f a b = some (decide (a < b)) := by simp [cmp_Less_int.f, cmp_isNaN_int.f]
theorem mid_f (lo hi : Nat) (h : lo + hi ≤ 100000) : wrap64 ((IntKind.u64.wrap (wrap64 ((lo : Int) + (hi : Int)))) / 2) = (((lo + hi) / 2 : Nat) : Int) := by
  rw [w64' ((lo : Int) + (hi : Int)) (by omega) (by omega), rep_wrap _ (by omega) (by omega), w64' _ (by omega) (by omega)]
  omega

theorem bin_l0 (c : List Int) (hu : Up c 0) (hc : c.length ≤ 257) (x : Int) (s : Nat) (hs : s + 1 < c.length) (h1 : rd c (s : Int) ≤ x) (h2 : x < rd c ((s + 1 : Nat) : Int)) (d : Nat) : ∀ lo hi : Nat, hi - lo ≤ d → lo ≤ hi → hi ≤ c.length → (∀ j : Nat, j < lo → rd c (j : Int) < x) → (∀ j : Nat, hi ≤ j → j < c.length → x ≤ rd c (j : Int)) →
    Ev (fun k => slices_BinarySearch_int_int.l0 k c x (c.length : Int) (lo : Int) (hi : Int)) (if rd c (s : Int) = x then ((s : Int), true) else ((s : Int) + 1, false)) := by
  induction d with
  | zero =>
    intro lo hi hd hle hn hlo hhi
    obtain rfl : lo = hi := by omega
    by_cases he : rd c (s : Int) = x
    · rw [if_pos he]
      have hl1 : lo = s := by
        rcases Nat.lt_trichotomy lo s with h3 | h3 | h3
        · have := up_mono hu h3 (by omega)
          have := hhi lo (Nat.le_refl _) (by omega)
          omega
        · exact h3
        · have := hlo s h3
          omega
      subst hl1
      exact Ev.step (f := fun _ => some ((lo : Int), true)) (fun k => by rw [slices_BinarySearch_int_int.l0, if_neg (by omega), if_pos (by omega), if_pos (by omega), if_pos (by omega), if_pos he]) (Ev.now _)
    · rw [if_neg he]
      have hl1 : lo = s + 1 := by
        rcases Nat.lt_trichotomy lo (s + 1) with h3 | h3 | h3
        · have h4 := up_le hu (show lo ≤ s by omega) (by omega)
          have h5 := hhi lo (Nat.le_refl _) (by omega)
          omega
        · exact h3
        · have := hlo (s + 1) h3
          omega
      subst hl1
      have hne : ¬ rd c ((s + 1 : Nat) : Int) = x := by omega
      refine Ev.step (f := fun _ => some (((s + 1 : Nat) : Int), false)) (fun k => ?_) (by rw [cast1]; exact Ev.now _)
      rw [slices_BinarySearch_int_int.l0, if_neg (by omega), if_pos (by omega), if_pos (by omega), if_pos (by omega), if_neg hne]
      simp [slices_isNaN_int.f]
  | succ d ih =>
    intro lo hi hd hle hn hlo hhi
    by_cases hlt : lo < hi
    · have hm1 : lo ≤ (lo + hi) / 2 := by omega
      have hm2 : (lo + hi) / 2 < hi := by omega
      by_cases hx : rd c (((lo + hi) / 2 : Nat) : Int) < x
      · refine Ev.step (fun k => ?_) (ih ((lo + hi) / 2 + 1) hi (by omega) (by omega) hn (fun j hj => ?_) hhi)
        · rw [slices_BinarySearch_int_int.l0, if_pos (by omega), mid_f lo hi (by omega), if_pos (by omega), if_pos (by omega), less_f, Option.bind_some, decide_eq_true hx, if_pos rfl, cast1, w64' _ (by omega) (by omega)]
        · exact Int.lt_of_le_of_lt (up_le hu (show j ≤ (lo + hi) / 2 by omega) (by omega)) hx
      · refine Ev.step (fun k => ?_) (ih lo ((lo + hi) / 2) (by omega) (by omega) (by omega) hlo (fun j hj hjl => ?_))
        · rw [slices_BinarySearch_int_int.l0, if_pos (by omega), mid_f lo hi (by omega), if_pos (by omega), if_pos (by omega), less_f, Option.bind_some, decide_eq_false hx, if_neg (by decide)]
        · exact Int.le_trans (Int.not_lt.1 hx) (up_le hu hj hjl)
    · exact ih lo hi (by omega) hle hn hlo hhi

/-- A number's symbol, and whether there is one. -/
noncomputable def fnd (c : List Int) (x : Int) : Int × Int :=
  open Classical in if h : Good c ∧ 0 ≤ x ∧ x < rd c ((c.length - 1 : Nat) : Int) then (((sym_of h.1 h.2.1 h.2.2).choose : Nat), 0) else (0, 1)
theorem fnd_eq {c : List Int} (h : Good c) {x : Int} (h0 : 0 ≤ x) (h1 : x < rd c ((c.length - 1 : Nat) : Int)) {s : Nat} (hs : s + 1 < c.length) (h2 : rd c (s : Int) ≤ x) (h3 : x < rd c ((s + 1 : Nat) : Int)) : fnd c x = ((s : Int), 0) := by
  have hh : Good c ∧ 0 ≤ x ∧ x < rd c ((c.length - 1 : Nat) : Int) := ⟨h, h0, h1⟩
  rw [fnd, dif_pos hh]
  obtain ⟨a, b, d⟩ := (sym_of hh.1 hh.2.1 hh.2.2).choose_spec
  rw [sym_unique h.2.2.2.2 a b d hs h2 h3]
theorem fnd_no {c : List Int} {x : Int} (h : ¬ (Good c ∧ 0 ≤ x ∧ x < rd c ((c.length - 1 : Nat) : Int))) : fnd c x = (0, 1) := by rw [fnd, dif_neg h]
theorem rfind_ev (c : List Int) (hL : c.length ≤ 9223372036854775807) (x : Int) : Ev (fun k => squelchref03_Find.f k c x) (fnd c x) := by
  have bad : Ev (fun k => squelchref03_Find.j0 k x true c) (0, 1) := Ev.step (f := fun _ => some (0, 1)) (fun k => by rw [squelchref03_Find.j0, if_pos rfl]) (Ev.now _)
  unfold squelchref03_Find.f
  refine Ev.bind (rcheck_ev c hL) ?_
  by_cases h : Good c
  · by_cases h1 : x < 0
    · rw [fnd_no (fun hh => by omega)]
      exact Ev.congr (fun k => by rw [ok1_t h, if_pos rfl, if_pos h1]) bad
    · refine Ev.congr (f := fun k => (squelchref03_Total.f k c).bind fun t215 => squelchref03_Find.j0 k x (decide (x ≥ t215)) c) (fun k => by rw [ok1_t h, if_pos rfl, if_neg h1]) (Ev.bind (rtotal_ev c hL) ?_)
      rw [tot, if_pos h]
      by_cases h2 : x < rd c ((c.length - 1 : Nat) : Int)
      · obtain ⟨s, hs, h3, h4⟩ := sym_of h (by omega) h2
        rw [fnd_eq h (by omega) h2 hs h3 h4, decide_eq_false (by omega)]
        exact Ev.step (fun k => by rw [squelchref03_Find.j0, if_neg (by decide)]; rfl) (rfind_l0 c h.2.2.2.2 h.2.1 x s hs h3 h4 s 0 (by omega))
      · rw [fnd_no (fun hh => h2 hh.2.2), decide_eq_true (by omega)]
        exact bad
  · rw [fnd_no (fun hh => h hh.1)]
    exact Ev.congr (fun k => by rw [ok1_f h, if_neg (by decide)]) bad
theorem find_ev (c : List Int) (hL : c.length ≤ 9223372036854775807) (x : Int) : Ev (fun k => freq_Find.f k c x) (fnd c x) := by
  have bad : Ev (fun k => freq_Find.j0 k x true c) (0, 1) := Ev.step (f := fun _ => some (0, 1)) (fun k => by rw [freq_Find.j0, if_pos rfl]) (Ev.now _)
  unfold freq_Find.f
  refine Ev.bind (check_ev c hL) ?_
  by_cases h : Good c
  · by_cases h1 : x < 0
    · rw [fnd_no (fun hh => by omega)]
      exact Ev.congr (fun k => by rw [ok1_t h, if_pos rfl, if_pos h1]) bad
    · by_cases h2 : x < rd c ((c.length - 1 : Nat) : Int)
      · obtain ⟨s, hs, h3, h4⟩ := sym_of h (by omega) h2
        have hlen := h.2.1
        rw [fnd_eq h (by omega) h2 hs h3 h4]
        refine Ev.congr (f := fun k => freq_Find.j0 k x false c) (fun k => by rw [ok1_t h, if_pos rfl, if_neg h1, last_f c (by have := h.1; omega) hL, Option.bind_some, decide_eq_false (by omega)]) ?_
        refine Ev.step (f := fun k => (slices_BinarySearch_int_int.f k c x).bind fun bt204 => (if bt204.2 = true then (some (bt204.1, 0)) else (some (wrap64 (bt204.1 - 1), 0)))) (fun k => by rw [freq_Find.j0, if_neg (by decide)]) ?_
        refine Ev.bind (bin_l0 c h.2.2.2.2 h.2.1 x s hs h3 h4 c.length 0 c.length (by omega) (by omega) (Nat.le_refl _) (fun j hj => by omega) (fun j hj hjl => by omega)) ?_
        by_cases he : rd c (s : Int) = x
        · rw [if_pos he]
          exact Ev.congr (fun k => by rw [if_pos rfl]) (Ev.now _)
        · rw [if_neg he]
          refine Ev.congr (fun k => ?_) (Ev.now ((s : Int), 0))
          rw [if_neg Bool.false_ne_true, show (s : Int) + 1 - 1 = (s : Int) by omega, w64' _ (by omega) (by omega)]
      · rw [fnd_no (fun hh => h2 hh.2.2)]
        exact Ev.congr (fun k => by rw [ok1_t h, if_pos rfl, if_neg h1, last_f c (by have := h.1; omega) hL, Option.bind_some, decide_eq_true (by omega)]) bad
  · rw [fnd_no (fun hh => h hh.1)]
    exact Ev.congr (fun k => by rw [ok1_f h, if_neg (by decide)]) bad

/-! ### The same -/
theorem eq_l0 (a b : List Int) (hl : a.length = b.length) (hL : a.length ≤ 4611686018427387904) (d : Nat) : ∀ i : Nat, i + d = a.length → Ev (fun k => squelchref03_Equal.l0 k a b (a.length : Int) (i : Int)) (decide (a.drop i = b.drop i)) := by
  induction d with
  | zero =>
    intro i hi
    rw [List.drop_eq_nil_of_le (by omega), List.drop_eq_nil_of_le (by omega)]
    exact Ev.step (f := fun _ => some true) (fun k => by rw [squelchref03_Equal.l0, if_neg (by omega)]) (Ev.now _)
  | succ d ih =>
    intro i hi
    have h1 : i < a.length := by omega
    have h2 : i < b.length := by omega
    rw [List.drop_eq_getElem_cons h1, List.drop_eq_getElem_cons h2]
    by_cases he : a[i] = b[i]
    · have : decide (a[i] :: a.drop (i + 1) = b[i] :: b.drop (i + 1)) = decide (a.drop (i + 1) = b.drop (i + 1)) := decide_eq_decide.2 ⟨fun h => (List.cons.inj h).2, fun h => by rw [he, h]⟩
      rw [this]
      refine Ev.step (fun k => ?_) (ih (i + 1) (by omega))
      rw [squelchref03_Equal.l0, if_pos (by omega), if_pos (by omega), if_pos (by omega), if_pos (by omega), rdI a i h1, rdI b i h2, if_pos he, cast1, w64' _ (by omega) (by omega)]
    · rw [decide_eq_false (fun h => he (List.cons.inj h).1)]
      exact Ev.step (f := fun _ => some false) (fun k => by rw [squelchref03_Equal.l0, if_pos (by omega), if_pos (by omega), if_pos (by omega), if_pos (by omega), rdI a i h1, rdI b i h2, if_neg he]) (Ev.now _)
theorem requal_ev (a b : List Int) (hL : a.length ≤ 4611686018427387904) : Ev (fun k => squelchref03_Equal.f k a b) (decide (a = b)) := by
  unfold squelchref03_Equal.f
  by_cases hl : a.length = b.length
  · refine Ev.congr (fun k => by rw [if_pos (by omega)]) ?_
    have := eq_l0 a b hl hL a.length 0 (by omega)
    exact this
  · rw [decide_eq_false (fun h => hl (by rw [h]))]
    exact Ev.congr (fun k => by rw [if_neg (by omega)]) (Ev.now _)
theorem seq_l0 (a b : List Int) (hl : a.length = b.length) (hL : a.length ≤ 4611686018427387904) (d : Nat) : ∀ i : Nat, i + d = a.length → Ev (fun k => slices_Equal_int_int.l0 k a b (a.length : Int) (i : Int)) (decide (a.drop i = b.drop i)) := by
  induction d with
  | zero =>
    intro i hi
    rw [List.drop_eq_nil_of_le (by omega), List.drop_eq_nil_of_le (by omega)]
    exact Ev.step (f := fun _ => some true) (fun k => by rw [slices_Equal_int_int.l0, if_neg (by omega)]) (Ev.now _)
  | succ d ih =>
    intro i hi
    have h1 : i < a.length := by omega
    have h2 : i < b.length := by omega
    rw [List.drop_eq_getElem_cons h1, List.drop_eq_getElem_cons h2]
    by_cases he : a[i] = b[i]
    · have : decide (a[i] :: a.drop (i + 1) = b[i] :: b.drop (i + 1)) = decide (a.drop (i + 1) = b.drop (i + 1)) := decide_eq_decide.2 ⟨fun h => (List.cons.inj h).2, fun h => by rw [he, h]⟩
      rw [this]
      refine Ev.step (fun k => ?_) (ih (i + 1) (by omega))
      rw [slices_Equal_int_int.l0, if_pos (by omega), if_pos (by omega), if_pos (by omega), if_pos (by omega), rdI a i h1, rdI b i h2, if_pos he, cast1, w64' _ (by omega) (by omega)]
    · rw [decide_eq_false (fun h => he (List.cons.inj h).1)]
      exact Ev.step (f := fun _ => some false) (fun k => by rw [slices_Equal_int_int.l0, if_pos (by omega), if_pos (by omega), if_pos (by omega), if_pos (by omega), rdI a i h1, rdI b i h2, if_neg he]) (Ev.now _)
theorem sequal_ev (a b : List Int) (hL : a.length ≤ 4611686018427387904) : Ev (fun k => slices_Equal_int_int.f k a b) (decide (a = b)) := by
  unfold slices_Equal_int_int.f
  by_cases hl : a.length = b.length
  · refine Ev.congr (fun k => by rw [if_pos (by omega)]) ?_
    have := seq_l0 a b hl hL a.length 0 (by omega)
    exact this
  · rw [decide_eq_false (fun h => hl (by rw [h]))]
    exact Ev.congr (fun k => by rw [if_neg (by omega)]) (Ev.now _)
open Classical in
noncomputable def sme (a b : List Int) : Bool := if Good a ∧ Good b then decide (a = b) else false
theorem same_ev (a b : List Int) (ha : a.length ≤ 9223372036854775807) (hb : b.length ≤ 9223372036854775807) : Ev (fun k => freq_Same.f k a b) (sme a b) := by
  unfold freq_Same.f
  refine Ev.bind (check_ev a ha) ?_
  by_cases h : Good a
  · refine Ev.congr (fun k => by rw [ok1_t h, if_pos rfl]) (Ev.bind (check_ev b hb) ?_)
    by_cases h2 : Good b
    · rw [sme, if_pos ⟨h, h2⟩]
      refine Ev.congr (fun k => by rw [ok1_t h2, if_pos rfl]) (Ev.bind (sequal_ev a b (by have := h.2.1; omega)) (Ev.now _))
    · rw [sme, if_neg (fun hh => h2 hh.2)]
      exact Ev.congr (fun k => by rw [ok1_f h2, if_neg (by decide)]) (Ev.now _)
  · rw [sme, if_neg (fun hh => h hh.1)]
    exact Ev.congr (fun k => by rw [ok1_f h, if_neg (by decide)]) (Ev.now _)
theorem rsame_ev (a b : List Int) (ha : a.length ≤ 9223372036854775807) (hb : b.length ≤ 9223372036854775807) : Ev (fun k => squelchref03_Same.f k a b) (sme a b) := by
  unfold squelchref03_Same.f
  refine Ev.bind (rcheck_ev a ha) ?_
  by_cases h : Good a
  · refine Ev.congr (fun k => by rw [ok1_t h, if_pos rfl]) (Ev.bind (rcheck_ev b hb) ?_)
    by_cases h2 : Good b
    · rw [sme, if_pos ⟨h, h2⟩]
      refine Ev.congr (fun k => by rw [ok1_t h2, if_pos rfl]) (Ev.bind (requal_ev a b (by have := h.2.1; omega)) (Ev.now _))
    · rw [sme, if_neg (fun hh => h2 hh.2)]
      exact Ev.congr (fun k => by rw [ok1_f h2, if_neg (by decide)]) (Ev.now _)
  · rw [sme, if_neg (fun hh => h hh.1)]
    exact Ev.congr (fun k => by rw [ok1_f h, if_neg (by decide)]) (Ev.now _)
theorem live_ev : Ev (fun k => squelchlaw03_live.f k) true := Ev.of (fun k => squelchlaw03_live.mono k) (show squelchlaw03_live.f 100 = some true by decide +kernel)
end Go.Proofs.Ytdhckdeojplghaa.FT
