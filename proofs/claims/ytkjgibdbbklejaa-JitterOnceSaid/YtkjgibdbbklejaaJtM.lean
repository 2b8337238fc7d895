/- What the document's own test of a state comes to. -/
import Derived.Test.YtkjgibdbbklejaaJt
import Derived.Test.YtkjgibdbbklejaaPAx5
import Derived.Test.YtkjgibdbbklejaaPAx6
set_option linter.unusedVariables false
set_option linter.unusedSimpArgs false
namespace Go.Proofs.Ytkjgibdbbklejaa.Jt
open Go.RowKit Go.Proofs.Ytkjgibdbbklejaa.PA Go.Proofs.YtkjgibdbbklejaaW.PrintWords Go.Proofs.YtkjgibdbbklejaaW.PrintLast Go.Proofs.YtkjgibdbbklejaaW.PrintMore

theorem may_f (p : S41) : squelchref13_MayPacket.f p.f0 p.f1 = some (gd p) := by
  have e : ∀ b : Bool, (b = true ↔ 0 ≤ p.f0 ∧ p.f0 ≤ 1099511627776 ∧ 0 < p.f1.length ∧ p.f1.length ≤ 40) → some b = some (gd p) := fun b h => by
    congr 1
    rw [Bool.eq_iff_iff, h, gd_iff]
  unfold squelchref13_MayPacket.f
  by_cases h1 : p.f0 ≥ 0
  · rw [if_pos h1]
    by_cases h2 : p.f0 ≤ 1099511627776
    · rw [if_pos h2]
      by_cases h3 : (p.f1.length : Int) ≥ 1
      · rw [if_pos h3]
        exact e _ (by rw [decide_eq_true_iff]; omega)
      · rw [if_neg h3]
        exact e _ (by simp; omega)
    · rw [if_neg h2]
      exact e _ (by simp; omega)
  · rw [if_neg h1]
    exact e _ (by simp; omega)

end Go.Proofs.Ytkjgibdbbklejaa.Jt
