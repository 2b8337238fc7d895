/- FloorRevokes: its plain law (the walk shows it outright). -/
import Derived.Test.YtflfmpfmnhpbmaaHRevW
namespace Go.Proofs.Ytflfmpfmnhpbmaa.Pure
open Go.RowKit Go.Proofs.Ytflfmpfmnhpbmaa.PA
theorem FloorRevokes : squelchlaw18_FloorRevokes.Pure := fun _ _ => ⟨0, rfl⟩
end Go.Proofs.Ytflfmpfmnhpbmaa.Pure
