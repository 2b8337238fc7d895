/- The pool's functions as plain lists: what each comes to for pools that may be; no memory in sight. -/
import Derived.Test.YteleojddlaflnaaPAx5
import Derived.Test.YteleojddlaflnaaPAx6
import Derived.Test.YteleojddlaflnaaHTake
set_option linter.unusedVariables false
set_option linter.unusedSimpArgs false
namespace Go.Proofs.Yteleojddlaflnaa.PT
open Go.RowKit Go.Proofs.Yteleojddlaflnaa.PA Go.Proofs.YteleojddlaflnaaW.PrintWords Go.Proofs.YteleojddlaflnaaW.PrintLast

theorem w64' (n : Int) (h0 : -9223372036854775808 ≤ n) (h1 : n ≤ 9223372036854775807) : wrap64 n = n := by unfold wrap64; omega
theorem rdT (l : List S31) (j : Nat) (h : j < l.length) : rd_T31 l (j : Int) = l[j] := by
  unfold rd_T31
  rw [Int.toNat_natCast, List.getD_eq_getElem?_getD, List.getElem?_eq_getElem h]; rfl
theorem rdI (l : List Int) (j : Nat) (h : j < l.length) : rd l (j : Int) = l[j] := by
  unfold rd
  rw [Int.toNat_natCast, List.getD_eq_getElem?_getD, List.getElem?_eq_getElem h]; rfl

def goodB (a : Int) (b : List Int) : Bool := decide (0 ≤ a ∧ a ≤ 1073741824 ∧ 0 < b.length ∧ b.length ≤ 200)
theorem goodB_iff (a : Int) (b : List Int) : goodB a b = true ↔ 0 ≤ a ∧ a ≤ 1073741824 ∧ 0 < b.length ∧ b.length ≤ 200 := by simp [goodB]
theorem good_f (a : Int) (b : List Int) : pool_good.f a b = some (goodB a b) := by
  unfold pool_good.f goodB
  by_cases h1 : a ≥ 0
  · by_cases h2 : a ≤ 1073741824
    · by_cases h3 : (b.length : Int) > 0
      · rw [if_pos h1, if_pos h2, if_pos h3]
        congr 1
        by_cases h4 : b.length ≤ 200
        · rw [decide_eq_true (by omega), decide_eq_true (by omega)]
        · rw [decide_eq_false (by omega), decide_eq_false (by omega)]
      · rw [if_pos h1, if_pos h2, if_neg h3, decide_eq_false (by omega)]
    · rw [if_pos h1, if_neg h2, decide_eq_false (by omega)]
  · rw [if_neg h1, decide_eq_false (by omega)]
theorem may_f (a : Int) (b : List Int) : squelchref21_may.f a b = some (goodB a b) := by
  unfold squelchref21_may.f goodB
  by_cases h1 : a ≥ 0
  · by_cases h2 : a ≤ 1073741824
    · by_cases h3 : (b.length : Int) ≥ 1
      · rw [if_pos h1, if_pos h2, if_pos h3]
        congr 1
        by_cases h4 : b.length ≤ 200
        · rw [decide_eq_true (by omega), decide_eq_true (by omega)]
        · rw [decide_eq_false (by omega), decide_eq_false (by omega)]
      · rw [if_pos h1, if_pos h2, if_neg h3, decide_eq_false (by omega)]
    · rw [if_pos h1, if_neg h2, decide_eq_false (by omega)]
  · rw [if_neg h1, decide_eq_false (by omega)]

/-- A pool that may be. -/
def Ok (m : Int) (l : List S31) : Prop := 1 ≤ m ∧ m ≤ 256 ∧ (l.length : Int) ≤ m ∧ ∀ g ∈ l, goodB g.f0 g.f1 = true

theorem check_l0 (m : Int) (l : List S31) (hl : l.length ≤ 4611686018427387904) (hg : ∀ g ∈ l, goodB g.f0 g.f1 = true) (d : Nat) : ∀ i : Nat, i + d = l.length → Ev (fun k => pool_Check.l0 k (l.length : Int) (i : Int) m l) 0 := by
  induction d with
  | zero =>
    intro i hi
    exact Ev.step (f := fun _ => some 0) (fun k => by rw [pool_Check.l0, if_neg (by omega)]) (Ev.now _)
  | succ d ih =>
    intro i hi
    have hil : i < l.length := by omega
    refine Ev.step (fun k => ?_) (ih (i + 1) (by omega))
    rw [pool_Check.l0, if_pos (by omega), if_pos (by omega), if_pos (by omega), rdT l i hil, good_f, hg _ (List.getElem_mem hil), w64' _ (by omega) (by omega)]
    simp
theorem check_ok {m : Int} {l : List S31} (h : Ok m l) : Ev (fun k => pool_Check.f k m l) 0 := by
  obtain ⟨h1, h2, h3, h4⟩ := h
  refine Ev.congr (f := fun k => pool_Check.j0 k false m l) (fun k => ?_) (Ev.step (fun k => ?_) (check_l0 m l (by omega) h4 l.length 0 (by omega)))
  · rw [pool_Check.f, if_neg (by omega), if_neg (by omega), decide_eq_false (by omega)]
  · rw [pool_Check.j0]; simp
theorem rcheck_l0 (l : List S31) (hl : l.length ≤ 4611686018427387904) (d : Nat) : ∀ i : Nat, i + d = l.length → ∃ r, Ev (fun k => squelchref21_Check.l0 k l (l.length : Int) (i : Int)) r ∧ (r = 0 → ∀ j, i ≤ j → (hj : j < l.length) → goodB l[j].f0 l[j].f1 = true) := by
  induction d with
  | zero =>
    intro i hi
    exact ⟨0, Ev.step (f := fun _ => some 0) (fun k => by rw [squelchref21_Check.l0, if_neg (by omega)]) (Ev.now _), fun _ j h1 h2 => by omega⟩
  | succ d ih =>
    intro i hi
    have hil : i < l.length := by omega
    by_cases hg : goodB l[i].f0 l[i].f1 = true
    · obtain ⟨r, hr, h0⟩ := ih (i + 1) (by omega)
      refine ⟨r, Ev.step (fun k => ?_) hr, fun hz j h1 h2 => ?_⟩
      · rw [squelchref21_Check.l0, if_pos (by omega), if_pos (by omega), if_pos (by omega), rdT l i hil, may_f, hg, w64' _ (by omega) (by omega)]
        simp
      · by_cases hji : j = i
        · subst hji; exact hg
        · exact h0 hz j (by omega) h2
    · refine ⟨1, Ev.step (f := fun _ => some 1) (fun k => ?_) (Ev.now _), fun hz => by cases hz⟩
      rw [squelchref21_Check.l0, if_pos (by omega), if_pos (by omega), if_pos (by omega), rdT l i hil, may_f, Bool.eq_false_iff.2 hg]
      simp
theorem rcheck (m : Int) (l : List S31) (hl : l.length ≤ 4611686018427387904) : ∃ r, Ev (fun k => squelchref21_Check.f k m l) r ∧ (r = 0 → Ok m l) := by
  by_cases h1 : m < 1
  · refine ⟨1, Ev.congr (fun k => by rw [squelchref21_Check.f, if_pos h1]) (Ev.step (f := fun _ => some 1) (fun k => by rw [squelchref21_Check.j0]; simp) (Ev.now _)), fun h => by cases h⟩
  by_cases h2 : m > 256
  · refine ⟨1, Ev.congr (fun k => by rw [squelchref21_Check.f, if_neg h1, if_pos h2]) (Ev.step (f := fun _ => some 1) (fun k => by rw [squelchref21_Check.j0]; simp) (Ev.now _)), fun h => by cases h⟩
  by_cases h3 : (l.length : Int) > m
  · refine ⟨1, Ev.congr (fun k => by rw [squelchref21_Check.f, if_neg h1, if_neg h2, decide_eq_true h3]) (Ev.step (f := fun _ => some 1) (fun k => by rw [squelchref21_Check.j0]; simp) (Ev.now _)), fun h => by cases h⟩
  obtain ⟨r, hr, h0⟩ := rcheck_l0 l hl l.length 0 (by omega)
  refine ⟨r, Ev.congr (fun k => by rw [squelchref21_Check.f, if_neg h1, if_neg h2, decide_eq_false h3]) (Ev.step (fun k => by rw [squelchref21_Check.j0]; simp) hr), fun hz => ⟨by omega, by omega, by omega, fun g hg => ?_⟩⟩
  obtain ⟨j, hj, rfl⟩ := List.getElem_of_mem hg
  exact h0 hz j (by omega) hj
theorem few_l0 (x1 : List S31) (l : List S31) (hl : l.length ≤ 4611686018427387904) (m : Int) (p : List S31) (d : Nat) : ∀ i : Nat, i + d = l.length → ∃ r, Ev (fun k => squelchlaw21_few.l0 k x1 l (l.length : Int) (i : Int) m p) r := by
  induction d with
  | zero =>
    intro i hi
    by_cases h : (p.length : Int) ≤ 300
    · exact ⟨_, Ev.step (f := fun _ => some (decide ((x1.length : Int) ≤ 300))) (fun k => by rw [squelchlaw21_few.l0, if_neg (by omega), if_pos h]) (Ev.now _)⟩
    · exact ⟨_, Ev.step (f := fun _ => some false) (fun k => by rw [squelchlaw21_few.l0, if_neg (by omega), if_neg h]) (Ev.now _)⟩
  | succ d ih =>
    intro i hi
    by_cases h : (((rd_T31 l (i : Int)).f1).length : Int) > 1000
    · exact ⟨_, Ev.step (f := fun _ => some false) (fun k => by rw [squelchlaw21_few.l0, if_pos (by omega), if_pos (by omega), if_pos (by omega), if_pos h]) (Ev.now _)⟩
    · obtain ⟨r, hr⟩ := ih (i + 1) (by omega)
      refine ⟨r, Ev.step (fun k => ?_) hr⟩
      rw [squelchlaw21_few.l0, if_pos (by omega), if_pos (by omega), if_pos (by omega), if_neg h, w64' _ (by omega) (by omega)]
      simp
theorem few_any (m : Int) (l : List S31) (hl : l.length < 4398046511104) : ∃ r, Ev (fun k => squelchlaw21_few.f k m l []) r := by
  obtain ⟨r, hr⟩ := few_l0 [] l (by omega) m l l.length 0 (by omega)
  refine ⟨r, Ev.congr (fun k => ?_) hr⟩
  rw [squelchlaw21_few.f, if_pos (by simpa using hl)]
  simp only [List.nil_append, Option.bind_some, List.length_nil, Nat.add_zero, List.append_nil]
  rw [if_pos hl]
  rfl
theorem letter_f (a : Int) (b : List Int) (h : b.length ≤ 200) : pool_letter.f a b = some (a, b) := by
  rw [pool_letter.f, slices_Clone_byte_byte.f]
  simp only [Option.bind_some, List.length_nil, Nat.zero_add, List.nil_append]
  rw [if_pos (by omega)]
  rfl
theorem owned_l0 (m : Int) (l p : List S31) (hl : l.length ≤ 256) (hg : ∀ g ∈ l, goodB g.f0 g.f1 = true) (d : Nat) : ∀ i : Nat, i + d = l.length → Ev (fun k => pool_owned.l0 k (l.take i) l (l.length : Int) (i : Int) m p) (m, l) := by
  induction d with
  | zero =>
    intro i hi
    obtain rfl : i = l.length := by omega
    exact Ev.step (f := fun _ => some (m, l)) (fun k => by rw [pool_owned.l0, if_neg (by omega), List.take_length]) (Ev.now _)
  | succ d ih =>
    intro i hi
    have hil : i < l.length := by omega
    refine Ev.step (fun k => ?_) (ih (i + 1) (by omega))
    have h1 := (goodB_iff _ _).1 (hg _ (List.getElem_mem hil))
    rw [pool_owned.l0, if_pos (by omega), if_pos (by omega), if_pos (by omega), rdT l i hil, letter_f _ _ h1.2.2.2, w64' _ (by omega) (by omega)]
    simp only [Option.bind_some]
    rw [if_pos (by rw [List.length_take]; omega), List.take_succ_eq_append_getElem hil]
    rfl
theorem owned_ok {m : Int} {l : List S31} (h : Ok m l) : Ev (fun k => pool_owned.f k m l) (m, l) := by
  obtain ⟨h1, h2, h3, h4⟩ := h
  refine Ev.congr (fun k => ?_) (owned_l0 m l l (by omega) h4 l.length 0 (by omega))
  rw [pool_owned.f, w64' _ (by omega) (by omega), if_pos (by omega), if_pos (by omega)]
  rfl
theorem at_l0 {m : Int} {l : List S31} (h : Ok m l) (ps : List Int) (hs : ps.length ≤ 100) (hp : ∀ p ∈ ps, 0 ≤ p ∧ p < (l.length : Int)) (d : Nat) : ∀ i : Nat, i + d = ps.length → Ev (fun k => pool_at.l0 k ps (ps.length : Int) (i : Int) m l) (m, l, 0) := by
  induction d with
  | zero =>
    intro i hi
    refine Ev.step (f := fun k => (pool_owned.f k m l).bind fun bt => some (bt.1, bt.2, 0)) (fun k => by rw [pool_at.l0, if_neg (by omega)]) ?_
    exact Ev.bind (owned_ok h) (Ev.now _)
  | succ d ih =>
    intro i hi
    have hil : i < ps.length := by omega
    have hb := hp _ (List.getElem_mem hil)
    refine Ev.step (fun k => ?_) (ih (i + 1) (by omega))
    rw [pool_at.l0, if_pos (by omega), if_pos (by omega), if_pos (by omega), rdI ps i hil, if_neg (by omega), if_neg (by omega), w64' _ (by omega) (by omega)]
    simp
theorem at_ok {m : Int} {l : List S31} (h : Ok m l) (ps : List Int) (hs : ps.length ≤ 100) (hp : ∀ p ∈ ps, 0 ≤ p ∧ p < (l.length : Int)) : Ev (fun k => pool_at.f k m l ps) (m, l, 0) := by
  unfold pool_at.f
  refine Ev.bind (check_ok h) ?_
  exact at_l0 h ps hs hp ps.length 0 (by omega)
theorem take_ok {m : Int} {l : List S31} (h : Ok m l) (i : Nat) (hi : i < l.length) : Ev (fun k => pool_Take.f k m l (i : Int)) (m, l.eraseIdx i, l[i].f0, l[i].f1, 0) := by
  have hlen : l.length ≤ 256 := by obtain ⟨_, h2, h3, _⟩ := h; omega
  unfold pool_Take.f
  refine Ev.bind (at_ok h [(i : Int)] (by simp) (fun p hp => by rw [List.mem_singleton.1 hp]; omega)) ?_
  refine Ev.congr (fun k => ?_) (Ev.now _)
  simp only [if_true]
  rw [if_pos (by omega), if_pos (by omega), w64' _ (by omega) (by omega), rdT l i hi, api_Gram_31.f, if_pos ⟨by omega, rfl, by omega⟩, Int.toNat_natCast]
  rfl

/-- The places of those to whom, among the first n. -/
def pls (l : List S31) (a : Int) (n : Nat) : List Int := ((List.range n).filter (fun j : Nat => decide ((rd_T31 l (j : Int)).f0 = a))).map Int.ofNat
theorem pls_succ (l : List S31) (a : Int) (n : Nat) : pls l a (n + 1) = if (rd_T31 l (n : Int)).f0 = a then pls l a n ++ [(n : Int)] else pls l a n := by
  unfold pls
  rw [List.range_succ, List.filter_append, List.map_append]
  by_cases h : (rd_T31 l (n : Int)).f0 = a
  · rw [if_pos h, List.filter_cons_of_pos (by simpa using h), List.filter_nil]; rfl
  · rw [if_neg h, List.filter_cons_of_neg (by simpa using h), List.filter_nil]; simp
theorem pls_prefix (l : List S31) (a : Int) (m d : Nat) : ∃ r, pls l a (m + d) = pls l a m ++ r := by
  induction d with
  | zero => exact ⟨[], by simp⟩
  | succ d ih =>
    obtain ⟨r, hr⟩ := ih
    rw [← Nat.add_assoc, pls_succ]
    split
    · exact ⟨r ++ [((m + d : Nat) : Int)], by rw [hr, List.append_assoc]⟩
    · exact ⟨r, hr⟩
theorem pls_le (l : List S31) (a : Int) (n : Nat) : (pls l a n).length ≤ n := by
  unfold pls
  rw [List.length_map]
  exact Nat.le_trans (List.length_filter_le _ _) (by simp)
theorem pls_count (l : List S31) (a : Int) (n : Nat) (h : n ≤ l.length) : (pls l a n).length = (l.take n).countP (fun g => decide (g.f0 = a)) := by
  induction n with
  | zero => rfl
  | succ n ih =>
    have hn : n < l.length := by omega
    rw [pls_succ, List.take_succ_eq_append_getElem hn, List.countP_append, ← ih (by omega), rdT l n hn]
    by_cases h1 : l[n].f0 = a
    · rw [if_pos h1, List.length_append, List.countP_cons_of_pos (by simpa using h1)]; rfl
    · rw [if_neg h1, List.countP_cons_of_neg (by simpa using h1)]; rfl
theorem to_l0 (m : Int) (l : List S31) (a : Int) (hl : l.length ≤ 256) (d : Nat) : ∀ i : Nat, i + d = l.length → Ev (fun k => pool_To.l0 k a (pls l a i) (l.length : Int) (i : Int) m l) (pls l a l.length) := by
  induction d with
  | zero =>
    intro i hi
    obtain rfl : i = l.length := by omega
    exact Ev.step (f := fun _ => some (pls l a l.length)) (fun k => by rw [pool_To.l0, if_neg (by omega)]) (Ev.now _)
  | succ d ih =>
    intro i hi
    have hil : i < l.length := by omega
    refine Ev.step (fun k => ?_) (ih (i + 1) (by omega))
    have hle := pls_le l a i
    rw [pool_To.l0, if_pos (by omega), if_pos (by omega), if_pos (by omega), w64' _ (by omega) (by omega), pls_succ, if_pos (show (pls l a i).length < 17592186044416 by omega)]
    split <;> rfl
theorem to_ok {m : Int} {l : List S31} (h : Ok m l) (a : Int) : Ev (fun k => pool_To.f k m l a) (pls l a l.length) := by
  unfold pool_To.f
  refine Ev.bind (check_ok h) ?_
  refine Ev.congr (fun k => ?_) (to_l0 m l a (by obtain ⟨_, h2, h3, _⟩ := h; omega) l.length 0 (by omega))
  rw [if_pos rfl]; rfl
theorem same_f (a : Int) (b : List Int) : squelchref21_SameGram.f a b a b = some true := by
  rw [squelchref21_SameGram.f, if_pos rfl, beq_self_eq_true]
theorem erase_ok {m : Int} {l : List S31} (h : Ok m l) (i : Nat) (hi : i < l.length) : Ok m (l.eraseIdx i) := by
  obtain ⟨h1, h2, h3, h4⟩ := h
  exact ⟨h1, h2, by rw [List.length_eraseIdx_of_lt hi]; omega, fun g hg => h4 g ((List.eraseIdx_sublist l i).subset hg)⟩
theorem erase_count (l : List S31) (i : Nat) (hi : i < l.length) : (pls (l.eraseIdx i) l[i].f0 (l.eraseIdx i).length).length + 1 = (pls l l[i].f0 l.length).length := by
  rw [pls_count _ _ _ (Nat.le_refl _), pls_count _ _ _ (Nat.le_refl _), List.take_length, List.take_length, List.eraseIdx_eq_take_drop_succ]
  have e : l = l.take i ++ l[i] :: l.drop (i + 1) := by rw [← List.drop_eq_getElem_cons hi, List.take_append_drop]
  have h2 : l.countP (fun g => decide (g.f0 = l[i].f0)) = (l.take i ++ l[i] :: l.drop (i + 1)).countP (fun g => decide (g.f0 = l[i].f0)) := congrArg _ e
  rw [h2, List.countP_append, List.countP_append, List.countP_cons_of_pos (by simp)]
  omega
end Go.Proofs.Yteleojddlaflnaa.PT
