/- The document's Check, place and in. -/
import Derived.Test.YtflfmpfmnhpbmaaFm
import Derived.Test.YtflfmpfmnhpbmaaPAx8D
set_option linter.unusedVariables false
set_option linter.unusedSimpArgs false
namespace Go.Proofs.Ytflfmpfmnhpbmaa.FL
open Go.RowKit Go.Proofs.Ytflfmpfmnhpbmaa.PA Go.Proofs.YtflfmpfmnhpbmaaW.PrintWords Go.Proofs.YtflfmpfmnhpbmaaW.PrintLast
theorem in_l0 (x : Int) (l : List Int) (hl : l.length ≤ 100000) (d : Nat) : ∀ i : Nat, i + d = l.length → Ev (fun k => squelchref18_in.l0 k x l (l.length : Int) (i : Int)) (decide (x ∈ l.drop i)) := by
  induction d with
  | zero =>
    intro i hi
    have e : decide (x ∈ l.drop i) = false := by rw [List.drop_eq_nil_of_le (by omega)]; rfl
    rw [e]
    exact Ev.step (f := fun _ => some false) (fun k => by rw [squelchref18_in.l0, if_neg (by omega)]) (Ev.now _)
  | succ d ih =>
    intro i hi
    have hil : i < l.length := by omega
    have hi2 := ih (i + 1) (by omega)
    rw [List.drop_eq_getElem_cons hil]
    by_cases hx : l[i] = x
    · have e : decide (x ∈ l[i] :: l.drop (i + 1)) = true := decide_eq_true (by rw [hx]; exact List.mem_cons_self ..)
      rw [e]
      exact Ev.step (f := fun _ => some true) (fun k => by rw [squelchref18_in.l0, if_pos (by omega), if_pos (by omega), if_pos (by omega), rdI l i hil, if_pos hx]) (Ev.now _)
    · have e : decide (x ∈ l[i] :: l.drop (i + 1)) = decide (x ∈ l.drop (i + 1)) := by
        rw [decide_eq_decide, List.mem_cons]
        exact ⟨fun h => h.resolve_left (fun q => hx q.symm), .inr⟩
      rw [e]
      exact Ev.step (fun k => by rw [squelchref18_in.l0, if_pos (by omega), if_pos (by omega), if_pos (by omega), rdI l i hil, if_neg hx, sx i (by omega)]) hi2
theorem in_ev (l : List Int) (x : Int) (hl : l.length ≤ 100000) : Ev (fun k => squelchref18_in.f k l x) (decide (x ∈ l)) := by
  unfold squelchref18_in.f
  exact in_l0 x l hl l.length 0 (Nat.zero_add _)
theorem place_l0 (who : Int) (l : List S43) (hl : l.length ≤ 100000) (d : Nat) : ∀ i : Nat, i + d = l.length → Ev (fun k => squelchref18_place.l0 k who l (l.length : Int) (i : Int)) (idxP (isWho who) (l.drop i) i + 1) := by
  induction d with
  | zero =>
    intro i hi
    rw [List.drop_eq_nil_of_le (by omega)]
    exact Ev.step (f := fun _ => some 0) (fun k => by rw [squelchref18_place.l0, if_neg (by omega)]) (Ev.now _)
  | succ d ih =>
    intro i hi
    have hil : i < l.length := by omega
    have hi2 := ih (i + 1) (by omega)
    rw [List.drop_eq_getElem_cons hil, idxP]
    by_cases hx : (l[i]).f0 = who
    · rw [if_pos (isWho_t.2 hx)]
      refine Ev.step (f := fun _ => some ((i : Int) + 1)) (fun k => ?_) (Ev.now _)
      rw [squelchref18_place.l0, if_pos (by omega), if_pos (by omega), if_pos (by omega), rdW l i hil, if_pos hx, w64' _ (by omega) (by omega)]
    · rw [if_neg (by rw [isWho_f.2 hx]; decide)]
      exact Ev.step (fun k => by rw [squelchref18_place.l0, if_pos (by omega), if_pos (by omega), if_pos (by omega), rdW l i hil, if_neg hx, sx i (by omega)]) hi2
theorem place_ev (s e h p u l n : Int) (wait : List S43) (mem : List Int) (who : Int) (hl : wait.length ≤ 100000) : Ev (fun k => squelchref18_place.f k s e h p u l n wait mem who) (plc who wait) := by
  unfold squelchref18_place.f
  exact place_l0 who wait hl wait.length 0 (Nat.zero_add _)
/-- 0 or 1. -/
def no1 (b : Bool) : Int := if b = true then 0 else 1
theorem ref_l1 (s e h p u l n : Int) (wait : List S43) (mem : List Int) (hl : wait.length ≤ 100000) (hm : mem.length ≤ 100000) (d : Nat) :
    ∀ (i : Nat) (prio : Int), i + d = wait.length → prio ≤ 7 → (i = 0 → prio = 7) → (∀ j (hj : j < wait.length), i = j + 1 → prio = wait[j].f1) →
      Ev (fun k => squelchref18_Check.l1 k wait (wait.length : Int) (i : Int) s e h p u l n wait mem) (no1 (okW mem h wait prio i (wait.drop i) && okS s e h p u l wait mem)) := by
  induction d with
  | zero =>
    intro i prio hi hp h0 hj
    rw [List.drop_eq_nil_of_le (by omega), okW, Bool.true_and]
    refine Ev.step (fun k => by rw [squelchref18_Check.l1, if_neg (by omega)]) ?_
    have hj3 : ∀ b : Bool, Ev (fun k => squelchref18_Check.j3 k b) (no1 (!b)) := fun b => by
      refine Ev.step (f := fun _ => some (no1 (!b))) (fun k => ?_) (Ev.now _)
      rw [squelchref18_Check.j3]
      cases b <;> rfl
    unfold okS
    by_cases hs : s = 0
    · simp only [if_pos hs]
      by_cases c1 : h = 0
      · by_cases c2 : p = 0
        · by_cases c3 : u = 0
          · by_cases c4 : l = 0
            · simp only [if_pos c1, if_pos c2, if_pos c3, if_pos c4, decide_eq_true c1, decide_eq_true c2, decide_eq_true c3, decide_eq_true c4, Bool.true_and]
              have := hj3 (decide ((wait.length : Int) > 0))
              by_cases c5 : wait.length = 0
              · rw [decide_eq_true c5]
                rw [decide_eq_false (by omega)] at this
                simp only [c5]
                exact this
              · rw [decide_eq_false c5]
                rw [decide_eq_true (by omega)] at this
                rw [decide_eq_true (by omega)]
                exact this
            · simp only [if_pos c1, if_pos c2, if_pos c3, if_neg c4, decide_eq_false c4, Bool.and_false, Bool.false_and]
              exact hj3 true
          · simp only [if_pos c1, if_pos c2, if_neg c3, decide_eq_false c3, Bool.and_false, Bool.false_and]
            exact hj3 true
        · simp only [if_pos c1, if_neg c2, decide_eq_false c2, Bool.and_false, Bool.false_and]
          exact hj3 true
      · simp only [if_neg c1, decide_eq_false c1, Bool.false_and]
        exact hj3 true
    · simp only [if_neg hs]
      refine Ev.bind (in_ev mem h hm) ?_
      by_cases c1 : h ∈ mem
      · simp only [decide_eq_true c1, if_true, Bool.true_and]
        by_cases c2 : p < 0
        · have : wiB p 7 = false := by unfold wiB; rw [decide_eq_false (by omega)]; rfl
          simp only [if_pos c2, this, Bool.false_and]
          exact Ev.now _
        · by_cases c3 : p > 7
          · have : wiB p 7 = false := by unfold wiB; rw [decide_eq_false (p := p ≤ 7) (by omega), Bool.and_false]
            simp only [if_neg c2, if_pos c3, this, Bool.false_and]
            exact Ev.now _
          · have : wiB p 7 = true := wiB_iff'.2 (by omega)
            simp only [if_neg c2, if_neg c3, this, Bool.true_and]
            by_cases c4 : e < 1
            · simp only [if_pos c4, decide_eq_false (show ¬ e > 0 by omega)]
              exact Ev.now _
            · simp only [if_neg c4, decide_eq_true (show e > 0 by omega)]
              exact Ev.now _
      · simp only [decide_eq_false c1, Bool.false_and, Bool.false_eq_true, if_false]
        exact Ev.now _
  | succ d ih =>
    intro i prio hi hp h0 hj
    have hil : i < wait.length := by omega
    rw [List.drop_eq_getElem_cons hil, okW]
    refine Ev.step (fun k => by rw [squelchref18_Check.l1, if_pos (by omega), if_pos (by omega), if_pos (by omega), rdW wait i hil]) ?_
    refine Ev.bind (in_ev mem (wait[i]).f0 hm) ?_
    by_cases c1 : (wait[i]).f0 ∈ mem
    rotate_left
    · simp only [decide_eq_false c1, Bool.false_and, Bool.false_eq_true, if_false]
      exact Ev.now _
    simp only [decide_eq_true c1, Bool.true_and, if_true]
    by_cases c2 : (wait[i]).f0 = h
    · have : ((wait[i]).f0 != h) = false := by simp [c2]
      simp only [if_pos c2, this, Bool.false_and]
      exact Ev.now _
    have e2 : ((wait[i]).f0 != h) = true := by simp [c2]
    simp only [if_neg c2, e2, Bool.true_and]
    by_cases c3 : (wait[i]).f1 < 0
    · have : wiB (wait[i]).f1 prio = false := by unfold wiB; rw [decide_eq_false (by omega)]; rfl
      simp only [if_pos c3, this, Bool.false_and]
      exact Ev.now _
    simp only [if_neg c3]
    by_cases c4 : (wait[i]).f1 > 7
    · have : wiB (wait[i]).f1 prio = false := by unfold wiB; rw [decide_eq_false (p := (wait[i]).f1 ≤ prio) (by omega), Bool.and_false]
      simp only [if_pos c4, this, Bool.false_and]
      exact Ev.now _
    simp only [if_neg c4]
    refine Ev.bind (place_ev s e h p u l n wait mem (wait[i]).f0 hl) ?_
    by_cases c5 : plc (wait[i]).f0 wait = (i : Int) + 1
    rotate_left
    · have : (idxP (isWho (wait[i]).f0) wait 0 == (i : Int)) = false := by
        rw [beq_eq_false_iff_ne]
        intro q
        exact c5 (by unfold plc; rw [q])
      rw [w64' _ (by omega) (by omega)]
      simp only [if_neg c5, this, Bool.and_false, Bool.false_and]
      exact Ev.now _
    have e5 : (idxP (isWho (wait[i]).f0) wait 0 == (i : Int)) = true := by
      rw [beq_iff_eq]
      unfold plc at c5
      omega
    rw [w64' _ (by omega) (by omega)]
    simp only [if_pos c5, e5, Bool.and_true]
    have hnext := ih (i + 1) (wait[i]).f1 (by omega) (by omega) (by omega) (fun j hj' ej => by
      obtain rfl : i = j := by omega
      rfl)
    by_cases c6 : (i : Int) > 0
    · have hp' : prio = (wait[i - 1]'(by omega)).f1 := hj (i - 1) (by omega) (by omega)
      have e6 : wrap64 ((i : Int) - 1) = ((i - 1 : Nat) : Int) := by rw [w64' _ (by omega) (by omega)]; omega
      simp only [if_pos c6, e6, rdW wait (i - 1) (by omega), if_pos (show (0 : Int) ≤ ((i - 1 : Nat) : Int) by omega), if_pos (show ((i - 1 : Nat) : Int) < (wait.length : Int) by omega)]
      rw [← hp']
      by_cases c7 : prio < (wait[i]).f1
      · have : wiB (wait[i]).f1 prio = false := by unfold wiB; rw [decide_eq_false (p := (wait[i]).f1 ≤ prio) (by omega), Bool.and_false]
        simp only [if_pos c7, this, Bool.false_and]
        exact Ev.now _
      · have : wiB (wait[i]).f1 prio = true := wiB_iff'.2 (by omega)
        simp only [if_neg c7, this, Bool.true_and]
        exact Ev.congr (fun k => by push_cast; rfl) hnext
    · have hp' : prio = 7 := h0 (by omega)
      have : wiB (wait[i]).f1 prio = true := wiB_iff'.2 (by omega)
      simp only [if_neg c6, this, Bool.true_and]
      exact Ev.congr (fun k => by push_cast; rfl) hnext
theorem ref_l0 (s e h p u l n : Int) (wait : List S43) (mem : List Int) (hl : wait.length ≤ 100000) (hm : mem.length ≤ 100000) (d : Nat) :
    ∀ (i : Nat) (last : Int), i + d = mem.length → Ev (fun k => squelchref18_Check.l0 k last mem (mem.length : Int) (i : Int) s e h p u l n wait mem) (no1 (okM last (mem.drop i) && (okW mem h wait 7 0 wait && okS s e h p u l wait mem))) := by
  induction d with
  | zero =>
    intro i last hi
    rw [List.drop_eq_nil_of_le (by omega), okM, Bool.true_and]
    have := ref_l1 s e h p u l n wait mem hl hm wait.length 0 7 (Nat.zero_add _) (by decide) (fun _ => rfl) (fun j _ ej => by omega)
    exact Ev.step (fun k => by rw [squelchref18_Check.l0, if_neg (by omega)]; rfl) this
  | succ d ih =>
    intro i last hi
    have hil : i < mem.length := by omega
    rw [List.drop_eq_getElem_cons hil, okM]
    refine Ev.step (fun k => by rw [squelchref18_Check.l0, if_pos (by omega), if_pos (by omega), if_pos (by omega), rdI mem i hil]) ?_
    by_cases c1 : mem[i] ≤ last
    · simp only [if_pos c1, decide_eq_false (show ¬ mem[i] > last by omega), Bool.false_and]
      exact Ev.now _
    · by_cases c2 : mem[i] > 1073741824
      · simp only [if_neg c1, if_pos c2, decide_eq_true (show mem[i] > last by omega), decide_eq_false (show ¬ mem[i] ≤ 1073741824 by omega), Bool.and_false, Bool.false_and]
        exact Ev.now _
      · simp only [if_neg c1, if_neg c2, decide_eq_true (show mem[i] > last by omega), decide_eq_true (show mem[i] ≤ 1073741824 by omega), Bool.true_and]
        exact Ev.congr (fun k => by rw [sx i (by omega)]) (ih (i + 1) mem[i] (by omega))
/-- The document's Check is the program's. -/
theorem refcheck_ev (D : Dk) (hl : D.wait.length ≤ 100000) (hm : D.mem.length ≤ 100000) : Ev (fun k => squelchref18_Check.f k D.s D.e D.h D.p D.u D.l D.n D.wait D.mem) (no1 (okD D)) := by
  have hj : ∀ b : Bool, Ev (fun k => squelchref18_Check.j0 k b D.s D.e D.h D.p D.u D.l D.n D.wait D.mem) (no1 (!b && (okM 0 D.mem && (okW D.mem D.h D.wait 7 0 D.wait && okS D.s D.e D.h D.p D.u D.l D.wait D.mem)))) := fun b => by
    cases b with
    | true => exact Ev.step (f := fun _ => some 1) (fun k => by rw [squelchref18_Check.j0, if_pos rfl]) (Ev.now _)
    | false =>
      have := ref_l0 D.s D.e D.h D.p D.u D.l D.n D.wait D.mem hl hm D.mem.length 0 0 (Nat.zero_add _)
      exact Ev.step (fun k => by rw [squelchref18_Check.j0, if_neg (by decide)]; rfl) this
  have hA : okD D = ((okA D.s D.e D.u D.l D.n && decide (D.mem.length ≤ 8) && decide (D.wait.length ≤ 4)) && (okM 0 D.mem && (okW D.mem D.h D.wait 7 0 D.wait && okS D.s D.e D.h D.p D.u D.l D.wait D.mem))) := by
    unfold okD floorOk
    simp only [Bool.and_assoc]
  by_cases hB : (okA D.s D.e D.u D.l D.n && decide (D.mem.length ≤ 8) && decide (D.wait.length ≤ 4)) = true
  · rw [hA, hB]
    unfold okA at hB
    simp only [Bool.and_eq_true, wiB_iff', decide_eq_true_iff] at hB
    obtain ⟨⟨⟨⟨⟨⟨⟨a1, a2⟩, a3, a4⟩, a5, a6⟩, a7, a8⟩, a9, a10⟩, a11⟩, a12⟩ := hB
    unfold squelchref18_Check.f
    simp only [if_neg (show ¬ D.s < 0 by omega), if_neg (show ¬ D.s > 2 by omega), if_neg (show ¬ D.e < 0 by omega), if_neg (show ¬ D.e > 1099511627776 by omega), if_neg (show ¬ D.n < 0 by omega), if_neg (show ¬ D.n > 1099511627776 by omega), if_neg (show ¬ D.u < 0 by omega), if_neg (show ¬ D.u > 2199023255552 by omega), if_neg (show ¬ D.l < 0 by omega), if_neg (show ¬ D.l > 2199023255552 by omega), if_neg (show ¬ (D.mem.length : Int) > 8 by omega), decide_eq_false (show ¬ (D.wait.length : Int) > 4 by omega)]
    exact hj false
  · rw [hA, Bool.eq_false_iff.2 hB, Bool.false_and]
    unfold okA at hB
    simp only [Bool.and_eq_true, wiB_iff', decide_eq_true_iff] at hB
    have ht := hj true
    rw [show (!true && (okM 0 D.mem && (okW D.mem D.h D.wait 7 0 D.wait && okS D.s D.e D.h D.p D.u D.l D.wait D.mem))) = false from rfl] at ht
    unfold squelchref18_Check.f
    by_cases q1 : D.s < 0
    · simp only [if_pos q1]; exact ht
    by_cases q2 : D.s > 2
    · simp only [if_neg q1, if_pos q2]; exact ht
    by_cases q3 : D.e < 0
    · simp only [if_neg q1, if_neg q2, if_pos q3]; exact ht
    by_cases q4 : D.e > 1099511627776
    · simp only [if_neg q1, if_neg q2, if_neg q3, if_pos q4]; exact ht
    by_cases q5 : D.n < 0
    · simp only [if_neg q1, if_neg q2, if_neg q3, if_neg q4, if_pos q5]; exact ht
    by_cases q6 : D.n > 1099511627776
    · simp only [if_neg q1, if_neg q2, if_neg q3, if_neg q4, if_neg q5, if_pos q6]; exact ht
    by_cases q7 : D.u < 0
    · simp only [if_neg q1, if_neg q2, if_neg q3, if_neg q4, if_neg q5, if_neg q6, if_pos q7]; exact ht
    by_cases q8 : D.u > 2199023255552
    · simp only [if_neg q1, if_neg q2, if_neg q3, if_neg q4, if_neg q5, if_neg q6, if_neg q7, if_pos q8]; exact ht
    by_cases q9 : D.l < 0
    · simp only [if_neg q1, if_neg q2, if_neg q3, if_neg q4, if_neg q5, if_neg q6, if_neg q7, if_neg q8, if_pos q9]; exact ht
    by_cases q10 : D.l > 2199023255552
    · simp only [if_neg q1, if_neg q2, if_neg q3, if_neg q4, if_neg q5, if_neg q6, if_neg q7, if_neg q8, if_neg q9, if_pos q10]; exact ht
    by_cases q11 : (D.mem.length : Int) > 8
    · simp only [if_neg q1, if_neg q2, if_neg q3, if_neg q4, if_neg q5, if_neg q6, if_neg q7, if_neg q8, if_neg q9, if_neg q10, if_pos q11]; exact ht
    have q12 : (D.wait.length : Int) > 4 := by omega
    simp only [if_neg q1, if_neg q2, if_neg q3, if_neg q4, if_neg q5, if_neg q6, if_neg q7, if_neg q8, if_neg q9, if_neg q10, if_neg q11, decide_eq_true q12]
    exact ht
end Go.Proofs.Ytflfmpfmnhpbmaa.FL
