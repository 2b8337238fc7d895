-- Cut by this session's own wip/prune.py from the words that the kit's print laid.
import Derived.Test.YtkjgibdbbklejaaWInv
import Derived.Test.YtkjgibdbbklejaaWFootNe
namespace Go.Proofs.YtkjgibdbbklejaaW.PrintWords
open Go.RowKit
end Go.Proofs.YtkjgibdbbklejaaW.PrintWords
namespace Go.Proofs.YtkjgibdbbklejaaW.PrintLast
section
variable {ops : Array Oper} {a : Act} {o og : Oper} {g : Nat} {t : Tmp} {u : Bool}
end
end Go.Proofs.YtkjgibdbbklejaaW.PrintLast
