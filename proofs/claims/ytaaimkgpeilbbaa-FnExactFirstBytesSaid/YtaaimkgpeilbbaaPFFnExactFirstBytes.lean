/- The program's FirstBytes answers what the reference's answers. Conditions: none beyond the given statement's. -/
import Derived.Test.YtaaimkgpeilbbaaYF0
import Derived.Test.YtaaimkgpeilbbaaZF0
set_option linter.unusedVariables false
set_option linter.unusedSimpArgs false
namespace Go.Proofs.Ytaaimkgpeilbbaa.Pure
open Go.RowKit Go.Proofs.YtaaimkgpeilbbaaW.PrintWords Go.Proofs.YtaaimkgpeilbbaaW.PrintLast Go.Proofs.YtaaimkgpeilbbaaW.PrintMore Go.Proofs.Ytaaimkgpeilbbaa.M Go.Proofs.Ytaaimkgpeilbbaa.C Go.Proofs.Ytaaimkgpeilbbaa.F

theorem FnExactFirstBytes : laws_FnExactFirstBytes.Pure := by
  intro a w ha hw
  refine Av.get (g := fun k => laws_FnExactFirstBytes.f k a w) ?_
  unfold laws_FnExactFirstBytes.f
  by_cases ca : (a.size : Int) > 1048576
  · exact Av.ifp ca Av.ret
  exact Av.ifn ca (Av.bind (firstbytes_s a w) (Av.bindc (firstbytes_f a w) (Av.ifp rfl Av.ret)))

end Go.Proofs.Ytaaimkgpeilbbaa.Pure
