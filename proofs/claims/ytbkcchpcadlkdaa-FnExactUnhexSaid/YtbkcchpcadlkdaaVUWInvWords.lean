-- Made for this seat by a program of this session (wip/fork, wip/slim.py). Lean checks it.
import Derived.Test.YtbkcchpcadlkdaaVUWInv
import Derived.Test.YtbkcchpcadlkdaaVUWFootNe
namespace Go.Proofs.YtbkcchpcadlkdaaW.PrintWords
open Go.RowKit
end Go.Proofs.YtbkcchpcadlkdaaW.PrintWords
namespace Go.Proofs.YtbkcchpcadlkdaaW.PrintLast
section
variable {ops : Array Oper} {a : Act} {o og : Oper} {g : Nat} {t : Tmp} {u : Bool}
end
end Go.Proofs.YtbkcchpcadlkdaaW.PrintLast
