/- WheelOnce: its plain law (the walk shows it outright). -/
import Derived.Test.YtbgkmbghmhgajaaHOnceW
namespace Go.Proofs.Ytbgkmbghmhgajaa.Pure
open Go.RowKit Go.Proofs.Ytbgkmbghmhgajaa.PA
theorem WheelOnce : squelchlaw16_WheelOnce.Pure := fun _ _ => ⟨0, rfl⟩
end Go.Proofs.Ytbgkmbghmhgajaa.Pure
