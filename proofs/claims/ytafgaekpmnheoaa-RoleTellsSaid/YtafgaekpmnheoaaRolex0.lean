/- The functions that the statements of this group reach, each as a plain Lean function, and a proof that the Go function comes to what it says (written by a program of this session over the kit's print). -/
import Derived.Test.YtafgaekpmnheoaaProg
import Derived.Below
import Derived.Deep.Draws
import Derived.Deep.AppendLies
import Derived.Maps.AppendAt
import Derived.OwnWalk
import Derived.Laws.BytesArg
import Derived.Laws.MakeOwn
import Derived.Laws.OwnMore
import Derived.Deep.OwnRows
import Derived.Tactics
import Derived.Lib.ConvBytes
import Derived.Laws.Slices
import Derived.WalkKit
import Derived.KernelRfl
import Derived.RowKit3
import Derived.Deep.LoopGhost
import Derived.Deep.QuietTactic
import Derived.BigQuiet
import Derived.WideLaws
import Derived.Deep.DeepCutAuto
import Derived.Deep.CutBlock
import Derived.Deep.RegionHeld3
import Derived.Laws.Rows
import Derived.Lib.AppendStr
import Derived.ArgAppend
import Derived.Laws.IdiomCopy
import Derived.OrdersHeld
import Derived.Laws.BitsLemmas
import Derived.RowKit
import Derived.Test.YtafgaekpmnheoaaWWords
import Derived.Test.YtafgaekpmnheoaaWLast
import Derived.Test.YtafgaekpmnheoaaWTab
import Derived.Test.YtafgaekpmnheoaaWFour
import Derived.Test.YtafgaekpmnheoaaWQPut
import Derived.Test.YtafgaekpmnheoaaWApart
import Derived.Test.YtafgaekpmnheoaaWArr
import Derived.Test.YtafgaekpmnheoaaWZeros
import Derived.Test.YtafgaekpmnheoaaWFoot
import Derived.Test.YtafgaekpmnheoaaWKept
import Derived.Test.YtafgaekpmnheoaaWShare
import Derived.Test.YtafgaekpmnheoaaWN
import Derived.Test.YtafgaekpmnheoaaWFootNe
import Derived.Test.YtafgaekpmnheoaaWAt
import Derived.Test.YtafgaekpmnheoaaWEqStruct
import Derived.Test.YtafgaekpmnheoaaWRepsOne
import Derived.Test.YtafgaekpmnheoaaWInv
import Derived.Test.YtafgaekpmnheoaaWInvWords
import Derived.Test.YtafgaekpmnheoaaWGuard
import Derived.Test.YtafgaekpmnheoaaWNEv
import Derived.Test.YtafgaekpmnheoaaWMore
namespace Go.Proofs.Ytafgaekpmnheoaa.Role
open Go.RowKit Go.Proofs.YtafgaekpmnheoaaW.PrintWords Go.Proofs.YtafgaekpmnheoaaW.PrintLast Go.Proofs.YtafgaekpmnheoaaW.PrintMore
attribute [local go_sem] max2_int min2_int max_two min_two max_three min_three max_four min_four   -- for this text's walks alone
set_option linter.unusedVariables false
set_option linter.unusedSimpArgs false



def errW : Option Int → Value
  | none => .nilIface
  | some c => .iface 0 (.int .i64 c)
theorem errW_none : errW none = .nilIface := rfl
theorem errW_some (c : Int) : errW (some c) = .iface 0 (.int .i64 c) := rfl

theorem info3 : (Try.prog.info? 3).map (fun i => (i.zero, i.size, i.bytes)) = some (some (.int .i64 0), 1, 8) := by kernel_rfl
-- the values' own types

end Go.Proofs.Ytafgaekpmnheoaa.Role
