/- Each number below the total is just one symbol's, and spans stand side by side; for all counts. -/
import Derived.Test.YtdhckdeojplghaaPAx12
import Derived.Test.YtdhckdeojplghaaFtN
set_option linter.unusedVariables false
set_option linter.unusedSimpArgs false
namespace Go.Proofs.Ytdhckdeojplghaa.Pure
open Go.RowKit Go.Proofs.Ytdhckdeojplghaa.PA Go.Proofs.YtdhckdeojplghaaW.PrintWords Go.Proofs.YtdhckdeojplghaaW.PrintLast Go.Proofs.Ytdhckdeojplghaa.FT

theorem one_l1 (l c : List Int) (x7 x10 n x37 : Int) (i : Nat) (ys : List Int) (hys : ys.length ≤ 1000) (hc : c.length ≤ 9223372036854775807) (hall : ∀ y ∈ ys, fnd c y = (x7, 0)) (hn : Ev (fun k => squelchlaw03_FreqOne.l0 k true x10 l n (wrap64 (x37 + 1)) c) true) (d : Nat) :
    ∀ j : Nat, j + d = ys.length → Ev (fun k => squelchlaw03_FreqOne.l1 k true x7 x10 l n x37 ys (ys.length : Int) (j : Int) c) true := by
  induction d with
  | zero =>
    intro j hj
    exact Ev.step (fun k => (squelchlaw03_FreqOne.l1.eq_2 ..).trans (if_neg (by omega))) hn
  | succ d ih =>
    intro j hj
    have hl : j < ys.length := by omega
    refine Ev.step (fun k => (squelchlaw03_FreqOne.l1.eq_2 ..).trans ((if_pos (by omega)).trans ((if_pos (by omega)).trans (if_pos (by omega))))) ?_
    refine Ev.bind (find_ev c hc _) ?_
    rw [rdI ys j hl, hall _ (List.getElem_mem hl)]
    refine Ev.congr (fun k => by rw [if_pos rfl, if_pos rfl, cast1, w64' _ (by omega) (by omega)]) (ih (j + 1) (by omega))

theorem one_l0 (l : List Int) (h : Fits l) (d : Nat) : ∀ i : Nat, i + d = l.length → Ev (fun k => squelchlaw03_FreqOne.l0 k true (l.take i).sum l (l.length : Int) (i : Int) (ps 0 l)) true := by
  have hc : (ps 0 l).length ≤ 9223372036854775807 := by rw [ps_length]; have := h.2.1; omega
  have h256 := h.2.1
  have h16 := h.2.2.2
  induction d with
  | zero =>
    intro i hi
    obtain rfl : i = l.length := by omega
    rw [List.take_length]
    refine Ev.step (fun k => (squelchlaw03_FreqOne.l0.eq_2 ..).trans (if_neg (by omega))) ?_
    refine Ev.bind (find_ev _ hc _) ?_
    rw [fnd_no (fun hh => by
      have := hh.2.2
      rw [ps_length, Nat.add_sub_cancel, rd_ps l 0 _ (Nat.le_refl _), List.take_length] at this
      omega)]
    refine Ev.congr (fun k => by rw [if_pos rfl]) ?_
    refine Ev.bind (total_ev _ hc) ?_
    rw [tot_ps h]
    refine Ev.congr (fun k => by rw [if_pos rfl, if_pos rfl]) ?_
    refine Ev.bind (same_ev _ _ hc hc) ?_
    have e : sme (ps 0 l) (ps 0 l) = decide (ps 0 l = ps 0 l) := if_pos ⟨good_ps h, good_ps h⟩
    rw [e]
    exact Ev.congr (fun k => by rw [decide_eq_true rfl]) (Ev.now _)
  | succ d ih =>
    intro i hi
    have hl : i < l.length := by omega
    have hn := h.2.2.1 l[i] (List.getElem_mem hl)
    have hs := sum_take_succ l i hl
    have h3 := sum_take_le h.2.2.1 i
    have h4 := sum_take_le h.2.2.1 (i + 1)
    have hih := ih (i + 1) (by omega)
    refine Ev.step (fun k => (squelchlaw03_FreqOne.l0.eq_2 ..).trans ((if_pos (by omega)).trans ((if_pos (by omega)).trans (if_pos (by omega))))) ?_
    refine Ev.bind (span_ev _ hc _) ?_
    rw [spn_ps h i hl]
    generalize hA : (l.take i).sum = A at *
    generalize hB : (l.take (i + 1)).sum = B at *
    refine Ev.congr (f := fun k => squelchlaw03_FreqOne.j1 k true (i : Int) A B l (l.length : Int) (i : Int) false (ps 0 l)) (fun k => ?_) ?_
    · rw [if_pos rfl, rdI l i hl, w64' _ (by omega) (by omega), if_pos (by omega)]
      rfl
    refine Ev.step (f := fun k => squelchlaw03_FreqOne.l1 k true (i : Int) B l (l.length : Int) (i : Int) [A, Int.tdiv (A + B) 2, B - 1] (([A, Int.tdiv (A + B) 2, B - 1] : List Int).length : Int) 0 (ps 0 l)) (fun k => ?_) ?_
    · rw [squelchlaw03_FreqOne.j1, if_neg Bool.false_ne_true, Option.bind_some, w64' (A + B) (by omega) (by omega), w64' (Int.tdiv (A + B) 2) (by rw [Int.tdiv_eq_ediv_of_nonneg (by omega)]; omega) (by rw [Int.tdiv_eq_ediv_of_nonneg (by omega)]; omega), w64' (B - 1) (by omega) (by omega)]
    refine one_l1 l (ps 0 l) (i : Int) B (l.length : Int) (i : Int) i _ (by simp) hc (fun y hy => ?_) ?_ 3 0 rfl
    · refine fnd_ps h i hl y ?_ ?_
      · rw [hA]
        simp only [List.mem_cons, List.not_mem_nil, or_false] at hy
        rcases hy with rfl | rfl | rfl
        · omega
        · rw [Int.tdiv_eq_ediv_of_nonneg (by omega)]; omega
        · omega
      · rw [hB]
        simp only [List.mem_cons, List.not_mem_nil, or_false] at hy
        rcases hy with rfl | rfl | rfl
        · omega
        · rw [Int.tdiv_eq_ediv_of_nonneg (by omega)]; omega
        · omega
    · rw [cast1, w64' _ (by omega) (by omega)]
      exact hih

theorem FreqOne : squelchlaw03_FreqOne.Pure := by
  intro l hl
  refine Ev.rounds (g := fun k => squelchlaw03_FreqOne.f k l) ?_
  unfold squelchlaw03_FreqOne.f
  refine Ev.bind live_ev ?_
  refine Ev.congr (fun k => by rw [if_pos rfl]) ?_
  refine Ev.bind (new_ev l) ?_
  by_cases h : Fits l
  · rw [show new_ l = _ from if_pos h]
    refine Ev.congr (fun k => by rw [if_pos rfl]; rfl) (one_l0 l h l.length 0 (by omega))
  · rw [show new_ l = _ from if_neg h]
    exact Ev.congr (fun k => by rw [if_neg (by decide)]; rfl) (Ev.now _)
end Go.Proofs.Ytdhckdeojplghaa.Pure
