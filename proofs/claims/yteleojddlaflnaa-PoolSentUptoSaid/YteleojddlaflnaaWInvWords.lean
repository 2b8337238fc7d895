-- Cut by this session's own wip/prune.py from the words that the kit's print laid.
import Derived.Test.YteleojddlaflnaaWInv
import Derived.Test.YteleojddlaflnaaWFootNe
namespace Go.Proofs.YteleojddlaflnaaW.PrintWords
open Go.RowKit
end Go.Proofs.YteleojddlaflnaaW.PrintWords
namespace Go.Proofs.YteleojddlaflnaaW.PrintLast
section
variable {ops : Array Oper} {a : Act} {o og : Oper} {g : Nat} {t : Tmp} {u : Bool}
end
end Go.Proofs.YteleojddlaflnaaW.PrintLast
