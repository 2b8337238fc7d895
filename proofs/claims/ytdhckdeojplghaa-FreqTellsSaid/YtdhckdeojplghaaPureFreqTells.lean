/- Whether any table may be, its total, its symbols' numbers, and its numbers' symbols are what the document says; for all tables, all symbols and all numbers. -/
import Derived.Test.YtdhckdeojplghaaPAx11
import Derived.Test.YtdhckdeojplghaaFt
namespace Go.Proofs.Ytdhckdeojplghaa.Pure
open Go.RowKit Go.Proofs.Ytdhckdeojplghaa.PA Go.Proofs.YtdhckdeojplghaaW.PrintWords Go.Proofs.YtdhckdeojplghaaW.PrintLast Go.Proofs.Ytdhckdeojplghaa.FT

theorem FreqTells : squelchlaw03_FreqTells.Pure := by
  intro f g s x hf hg _ _
  have hf1 := hf.2.1
  have hg1 := hg.2.1
  have key : Ev (fun k => squelchlaw03_FreqTells.j0 k s x true false f g) true := by
    refine Ev.step (fun k => (squelchlaw03_FreqTells.j0.eq_2 ..).trans (if_neg Bool.false_ne_true)) ?_
    refine Ev.bind (span_ev f hf1 s) ?_
    refine Ev.bind (rspan_ev f hf1 s) ?_
    refine Ev.bind (find_ev f hf1 x) ?_
    refine Ev.bind (rfind_ev f hf1 x) ?_
    refine Ev.congr (fun k => by rw [if_pos rfl, if_pos rfl, if_pos rfl, if_pos rfl, if_pos rfl, if_pos rfl]) ?_
    refine Ev.bind (check_ev f hf1) ?_
    refine Ev.bind (rcheck_ev f hf1) ?_
    refine Ev.congr (fun k => by rw [if_pos rfl]) ?_
    refine Ev.bind (total_ev f hf1) ?_
    refine Ev.bind (rtotal_ev f hf1) ?_
    refine Ev.congr (fun k => by rw [if_pos rfl]) ?_
    refine Ev.bind (same_ev f g hf1 hg1) ?_
    refine Ev.bind (rsame_ev f g hf1 hg1) ?_
    exact Ev.congr (fun k => by rw [beq_self_eq_true]) (Ev.now _)
  have bad : Ev (fun k => squelchlaw03_FreqTells.j0 k s x true true f g) true := Ev.step (f := fun _ => some true) (fun k => by rw [squelchlaw03_FreqTells.j0, if_pos rfl]) (Ev.now _)
  refine Ev.rounds (g := fun k => squelchlaw03_FreqTells.f k f g s x) ?_
  unfold squelchlaw03_FreqTells.f
  refine Ev.bind live_ev ?_
  refine Ev.congr (fun k => by rw [if_pos rfl]) ?_
  by_cases h1 : (f.length : Int) > 1000
  · exact Ev.congr (fun k => by rw [if_pos h1]) bad
  · by_cases h2 : (g.length : Int) > 1000
    · exact Ev.congr (fun k => by rw [if_neg h1, decide_eq_true h2]) bad
    · exact Ev.congr (fun k => by rw [if_neg h1, decide_eq_false h2]) key
end Go.Proofs.Ytdhckdeojplghaa.Pure
