-- Made for this seat by a program of this session (wip/fork, wip/slim.py). Lean checks it.
import Derived.Test.YtaaimkgpeilbbaaVFWInv
import Derived.Test.YtaaimkgpeilbbaaVFWFootNe
namespace Go.Proofs.YtaaimkgpeilbbaaW.PrintWords
open Go.RowKit
end Go.Proofs.YtaaimkgpeilbbaaW.PrintWords
namespace Go.Proofs.YtaaimkgpeilbbaaW.PrintLast
section
variable {ops : Array Oper} {a : Act} {o og : Oper} {g : Nat} {t : Tmp} {u : Bool}
end
end Go.Proofs.YtaaimkgpeilbbaaW.PrintLast
