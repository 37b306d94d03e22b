-- printed by this session's own copy of the print program (wip/patch), for seat Ytaegblhfhgiapaa
import Derived.Test.YtaegblhfhgiapaaProg
import Derived.Below
import Derived.Deep.Draws
import Derived.Deep.AppendLies
import Derived.Maps.AppendAt
import Derived.OwnWalk
import Derived.Laws.BytesArg
import Derived.Laws.MakeOwn
import Derived.Laws.OwnMore
import Derived.Deep.OwnRows
import Derived.Tactics
import Derived.Lib.ConvBytes
import Derived.Laws.Slices
import Derived.WalkKit
import Derived.KernelRfl
import Derived.RowKit3
import Derived.Deep.LoopGhost
import Derived.Deep.QuietTactic
import Derived.BigQuiet
import Derived.WideLaws
import Derived.Deep.DeepCutAuto
import Derived.Deep.CutBlock
import Derived.Deep.RegionHeld3
import Derived.Laws.Rows
import Derived.Lib.AppendStr
import Derived.ArgAppend
import Derived.Laws.IdiomCopy
import Derived.OrdersHeld
import Derived.Laws.BitsLemmas
import Derived.RowKit
import Derived.Test.YtaegblhfhgiapaaWWords
import Derived.Test.YtaegblhfhgiapaaWLast
import Derived.Test.YtaegblhfhgiapaaWTab
import Derived.Test.YtaegblhfhgiapaaWFour
import Derived.Test.YtaegblhfhgiapaaWQPut
import Derived.Test.YtaegblhfhgiapaaWApart
import Derived.Test.YtaegblhfhgiapaaWArr
import Derived.Test.YtaegblhfhgiapaaWZeros
import Derived.Test.YtaegblhfhgiapaaWFoot
import Derived.Test.YtaegblhfhgiapaaWKept
import Derived.Test.YtaegblhfhgiapaaWShare
import Derived.Test.YtaegblhfhgiapaaWN
import Derived.Test.YtaegblhfhgiapaaWFootNe
import Derived.Test.YtaegblhfhgiapaaWAt
import Derived.Test.YtaegblhfhgiapaaWEqStruct
import Derived.Test.YtaegblhfhgiapaaWRepsOne
import Derived.Test.YtaegblhfhgiapaaWInv
import Derived.Test.YtaegblhfhgiapaaWInvWords
import Derived.Test.YtaegblhfhgiapaaWGuard
import Derived.Test.YtaegblhfhgiapaaWNEv
import Derived.Test.YtaegblhfhgiapaaWMore
namespace Go.Proofs.Ytaegblhfhgiapaa.B
open Go.RowKit Go.Proofs.YtaegblhfhgiapaaW.PrintWords Go.Proofs.YtaegblhfhgiapaaW.PrintLast Go.Proofs.YtaegblhfhgiapaaW.PrintMore
attribute [local go_sem] max2_int min2_int max_two min_two max_three min_three max_four min_four   -- for this text's walks alone
set_option linter.unusedVariables false
set_option linter.unusedSimpArgs false



def errW : Option Int → Value
  | none => .nilIface
  | some c => .iface 0 (.int .i64 c)
theorem errW_none : errW none = .nilIface := rfl
theorem errW_some (c : Int) : errW (some c) = .iface 0 (.int .i64 c) := rfl

theorem info5 : (Try.prog.info? 5).map (fun i => (i.zero, i.size, i.bytes)) = some (some (.int .u8 0), 1, 1) := by kernel_rfl
-- the values' own types

end Go.Proofs.Ytaegblhfhgiapaa.B
