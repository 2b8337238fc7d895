/- FloorOnce: its plain law (the walk shows it outright). -/
import Derived.Test.YtflfmpfmnhpbmaaHOnceW
namespace Go.Proofs.Ytflfmpfmnhpbmaa.Pure
open Go.RowKit Go.Proofs.Ytflfmpfmnhpbmaa.PA
theorem FloorOnce : squelchlaw18_FloorOnce.Pure := fun _ _ => ⟨0, rfl⟩
end Go.Proofs.Ytflfmpfmnhpbmaa.Pure
