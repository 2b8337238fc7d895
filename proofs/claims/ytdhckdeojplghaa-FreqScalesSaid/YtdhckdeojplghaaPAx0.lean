-- Written for this claim by this session's own printer (wip/patch_print.py over the kit's print).
import Derived.Test.YtdhckdeojplghaaProg
import Derived.Below
import Derived.Deep.Draws
import Derived.Deep.AppendLies
import Derived.Maps.AppendAt
import Derived.OwnWalk
import Derived.Laws.BytesArg
import Derived.Laws.MakeOwn
import Derived.Laws.OwnMore
import Derived.Deep.OwnRows
import Derived.Tactics
import Derived.Lib.ConvBytes
import Derived.Laws.Slices
import Derived.WalkKit
import Derived.KernelRfl
import Derived.RowKit3
import Derived.Deep.LoopGhost
import Derived.Deep.QuietTactic
import Derived.BigQuiet
import Derived.WideLaws
import Derived.Deep.DeepCutAuto
import Derived.Deep.CutBlock
import Derived.Deep.RegionHeld3
import Derived.Laws.Rows
import Derived.Lib.AppendStr
import Derived.ArgAppend
import Derived.Laws.IdiomCopy
import Derived.OrdersHeld
import Derived.Laws.BitsLemmas
import Derived.RowKit
import Derived.Lib.SliceRun
import Derived.Test.YtdhckdeojplghaaWWords
import Derived.Test.YtdhckdeojplghaaWLast
import Derived.Test.YtdhckdeojplghaaWTab
import Derived.Test.YtdhckdeojplghaaWFour
import Derived.Test.YtdhckdeojplghaaWQPut
import Derived.Test.YtdhckdeojplghaaWApart
import Derived.Test.YtdhckdeojplghaaWArr
import Derived.Test.YtdhckdeojplghaaWZeros
import Derived.Test.YtdhckdeojplghaaWFoot
import Derived.Test.YtdhckdeojplghaaWKept
import Derived.Test.YtdhckdeojplghaaWShare
import Derived.Test.YtdhckdeojplghaaWN
import Derived.Test.YtdhckdeojplghaaWFootNe
import Derived.Test.YtdhckdeojplghaaWAt
import Derived.Test.YtdhckdeojplghaaWEqStruct
import Derived.Test.YtdhckdeojplghaaWRepsOne
import Derived.Test.YtdhckdeojplghaaWInv
import Derived.Test.YtdhckdeojplghaaWInvWords
import Derived.Test.YtdhckdeojplghaaWGuard
import Derived.Test.YtdhckdeojplghaaWNEv
import Derived.Test.YtdhckdeojplghaaWMore
namespace Go.Proofs.Ytdhckdeojplghaa.PA
open Go.RowKit Go.Proofs.YtdhckdeojplghaaW.PrintWords Go.Proofs.YtdhckdeojplghaaW.PrintLast Go.Proofs.YtdhckdeojplghaaW.PrintMore
attribute [local go_sem] max2_int min2_int max_two min_two max_three min_three max_four min_four   -- for this text's walks alone
set_option linter.unusedVariables false
set_option linter.unusedSimpArgs false



def errW : Option Int → Value
 | none => .nilIface
 | some c => .iface 0 (.int .i64 c)
theorem errW_none : errW none = .nilIface := rfl
theorem errW_some (c : Int) : errW (some c) = .iface 0 (.int .i64 c) := rfl

theorem info3 : (Try.prog.info? 3).map (fun i => (i.zero, i.size, i.bytes)) = some (some (.int .i64 0), 1, 8) := by kernel_rfl
-- the values' own types

end Go.Proofs.Ytdhckdeojplghaa.PA
-- slim
