-- Made for this seat by a program of this session (wip/fork, wip/slim.py). Lean checks it.
import Derived.Test.YtohfimjpfnnpgaaVHWInv
import Derived.Test.YtohfimjpfnnpgaaVHWFootNe
namespace Go.Proofs.YtohfimjpfnnpgaaW.PrintWords
open Go.RowKit
end Go.Proofs.YtohfimjpfnnpgaaW.PrintWords
namespace Go.Proofs.YtohfimjpfnnpgaaW.PrintLast
section
variable {ops : Array Oper} {a : Act} {o og : Oper} {g : Nat} {t : Tmp} {u : Bool}
end
end Go.Proofs.YtohfimjpfnnpgaaW.PrintLast
