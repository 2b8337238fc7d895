-- Cut by this session's own wip/prune.py from the words that the kit's print laid.
import Derived.Test.YtflfmpfmnhpbmaaWInv
import Derived.Test.YtflfmpfmnhpbmaaWFootNe
namespace Go.Proofs.YtflfmpfmnhpbmaaW.PrintWords
open Go.RowKit
end Go.Proofs.YtflfmpfmnhpbmaaW.PrintWords
namespace Go.Proofs.YtflfmpfmnhpbmaaW.PrintLast
section
variable {ops : Array Oper} {a : Act} {o og : Oper} {g : Nat} {t : Tmp} {u : Bool}
end
end Go.Proofs.YtflfmpfmnhpbmaaW.PrintLast
