-- Made for this seat by a program of this session (wip/fork, wip/slim.py). Lean checks it.
import Derived.Test.YtghhnjhjhjbljaaVEWInv
import Derived.Test.YtghhnjhjhjbljaaVEWFootNe
namespace Go.Proofs.YtghhnjhjhjbljaaW.PrintWords
open Go.RowKit
end Go.Proofs.YtghhnjhjhjbljaaW.PrintWords
namespace Go.Proofs.YtghhnjhjhjbljaaW.PrintLast
section
variable {ops : Array Oper} {a : Act} {o og : Oper} {g : Nat} {t : Tmp} {u : Bool}
end
end Go.Proofs.YtghhnjhjhjbljaaW.PrintLast
