-- Cut by this session's own wip/prune.py from the words that the kit's print laid.
import Derived.Test.YteleojddlaflnaaWWords
import Derived.Laws.StructEq
/-! ### 53. '==' of structs as_ one Bool -/
namespace Go.Proofs.YteleojddlaflnaaW.PrintWords
open Go.RowKit
section
variable {P : Program} {d : Nat} {xs ys : Array Value} {f : Field} {fs : List Field} {a b : Value} {r s : Bool} {w : World}
end
end Go.Proofs.YteleojddlaflnaaW.PrintWords
