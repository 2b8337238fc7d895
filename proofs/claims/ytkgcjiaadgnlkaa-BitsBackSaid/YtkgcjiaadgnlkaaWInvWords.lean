-- Cut by this session's own wip/prune.py from the words that the kit's print laid.
import Derived.Test.YtkgcjiaadgnlkaaWInv
import Derived.Test.YtkgcjiaadgnlkaaWFootNe
namespace Go.Proofs.YtkgcjiaadgnlkaaW.PrintWords
open Go.RowKit
end Go.Proofs.YtkgcjiaadgnlkaaW.PrintWords
namespace Go.Proofs.YtkgcjiaadgnlkaaW.PrintLast
section
variable {ops : Array Oper} {a : Act} {o og : Oper} {g : Nat} {t : Tmp} {u : Bool}
end
end Go.Proofs.YtkgcjiaadgnlkaaW.PrintLast
