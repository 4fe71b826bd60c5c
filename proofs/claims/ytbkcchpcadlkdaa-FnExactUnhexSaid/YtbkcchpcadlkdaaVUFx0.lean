-- Made for this seat by a program of this session (wip/fork). Lean checks it.
import Derived.Test.YtbkcchpcadlkdaaProg
import Derived.Below
import Derived.Deep.Draws
import Derived.Deep.AppendLies
import Derived.Maps.AppendAt
import Derived.OwnWalk
import Derived.Laws.BytesArg
import Derived.Laws.MakeOwn
import Derived.Laws.OwnMore
import Derived.Deep.OwnRows
import Derived.Tactics
import Derived.Lib.ConvBytes
import Derived.Laws.Slices
import Derived.WalkKit
import Derived.KernelRfl
import Derived.RowKit3
import Derived.Deep.LoopGhost
import Derived.Deep.QuietTactic
import Derived.BigQuiet
import Derived.WideLaws
import Derived.Deep.DeepCutAuto
import Derived.Deep.CutBlock
import Derived.Deep.RegionHeld3
import Derived.Laws.Rows
import Derived.Lib.AppendStr
import Derived.ArgAppend
import Derived.Laws.IdiomCopy
import Derived.OrdersHeld
import Derived.Laws.BitsLemmas
import Derived.RowKit
import Derived.Test.YtbkcchpcadlkdaaVUWWords
import Derived.Test.YtbkcchpcadlkdaaVUWLast
import Derived.Test.YtbkcchpcadlkdaaVUWTab
import Derived.Test.YtbkcchpcadlkdaaVUWFour
import Derived.Test.YtbkcchpcadlkdaaVUWQPut
import Derived.Test.YtbkcchpcadlkdaaVUWApart
import Derived.Test.YtbkcchpcadlkdaaVUWArr
import Derived.Test.YtbkcchpcadlkdaaVUWZeros
import Derived.Test.YtbkcchpcadlkdaaVUWFoot
import Derived.Test.YtbkcchpcadlkdaaVUWKept
import Derived.Test.YtbkcchpcadlkdaaVUWShare
import Derived.Test.YtbkcchpcadlkdaaVUWN
import Derived.Test.YtbkcchpcadlkdaaVUWFootNe
import Derived.Test.YtbkcchpcadlkdaaVUWAt
import Derived.Test.YtbkcchpcadlkdaaVUWEqStruct
import Derived.Test.YtbkcchpcadlkdaaVUWRepsOne
import Derived.Test.YtbkcchpcadlkdaaVUWInv
import Derived.Test.YtbkcchpcadlkdaaVUWInvWords
import Derived.Test.YtbkcchpcadlkdaaVUWGuard
import Derived.Test.YtbkcchpcadlkdaaVUWNEv
import Derived.Test.YtbkcchpcadlkdaaVUWMore
import Derived.Test.YtbkcchpcadlkdaaVUOwnWords
namespace Go.Proofs.Ytbkcchpcadlkdaa.F
open Go.RowKit Go.Proofs.YtbkcchpcadlkdaaW.PrintWords Go.Proofs.YtbkcchpcadlkdaaW.PrintLast Go.Proofs.YtbkcchpcadlkdaaW.PrintMore
attribute [local go_sem] max2_int min2_int max_two min_two max_three min_three max_four min_four   -- for this text's walks alone
set_option linter.unusedVariables false
set_option linter.unusedSimpArgs false



def errW : Option Int → Value
  | none => .nilIface
  | some c => .iface 0 (.int .i64 c)
theorem errW_none : errW none = .nilIface := rfl
theorem errW_some (c : Int) : errW (some c) = .iface 0 (.int .i64 c) := rfl

theorem info3 : (Try.prog.info? 3).map (fun i => (i.zero, i.size, i.bytes)) = some (some (.int .i64 0), 1, 8) := by kernel_rfl
theorem info5 : (Try.prog.info? 5).map (fun i => (i.zero, i.size, i.bytes)) = some (some (.int .u8 0), 1, 1) := by kernel_rfl
theorem info45 : (Try.prog.info? 45).map (fun i => (i.zero, i.size, i.bytes)) = some (some (.int .u64 0), 1, 8) := by kernel_rfl
-- the values' own types

end Go.Proofs.Ytbkcchpcadlkdaa.F
