/- The program's RestOk answers what the reference's answers. Conditions: none beyond the given statement's. -/
import Derived.Test.YtaaimkgpeilbbaaYA0
import Derived.Test.YtaaimkgpeilbbaaZA1
set_option linter.unusedVariables false
set_option linter.unusedSimpArgs false
namespace Go.Proofs.Ytaaimkgpeilbbaa.Pure
open Go.RowKit Go.Proofs.YtaaimkgpeilbbaaW.PrintWords Go.Proofs.YtaaimkgpeilbbaaW.PrintLast Go.Proofs.YtaaimkgpeilbbaaW.PrintMore Go.Proofs.Ytaaimkgpeilbbaa.M Go.Proofs.Ytaaimkgpeilbbaa.C Go.Proofs.Ytaaimkgpeilbbaa.F

theorem FnExactRestOk : laws_FnExactRestOk.Pure := by
  intro a p ha hp
  refine Av.get (g := fun k => laws_FnExactRestOk.f k a p) ?_
  unfold laws_FnExactRestOk.f
  by_cases ca : (a.size : Int) > 1048576
  · exact Av.ifp ca Av.ret
  refine Av.ifn ca ?_
  by_cases cp : (p.size : Int) > 1048576
  · exact Av.ifp cp Av.ret
  refine Av.ifn cp ?_
  exact Av.bind (restok_s a p) (Av.bind (restok_f a p) (Av.ifn (by simp) Av.ret))

end Go.Proofs.Ytaaimkgpeilbbaa.Pure
