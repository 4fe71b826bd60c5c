/- The program's CompareGreat answers what the reference's answers. Conditions: none beyond the given statement's. -/
import Derived.Test.YtaaimkgpeilbbaaYA0
import Derived.Test.YtaaimkgpeilbbaaZA1
set_option linter.unusedVariables false
set_option linter.unusedSimpArgs false
namespace Go.Proofs.Ytaaimkgpeilbbaa.Pure
open Go.RowKit Go.Proofs.YtaaimkgpeilbbaaW.PrintWords Go.Proofs.YtaaimkgpeilbbaaW.PrintLast Go.Proofs.YtaaimkgpeilbbaaW.PrintMore Go.Proofs.Ytaaimkgpeilbbaa.M Go.Proofs.Ytaaimkgpeilbbaa.C Go.Proofs.Ytaaimkgpeilbbaa.F

theorem FnExactCompareGreat : laws_FnExactCompareGreat.Pure := by
  intro a b ha hb
  refine Av.get (g := fun k => laws_FnExactCompareGreat.f k a b) ?_
  unfold laws_FnExactCompareGreat.f
  by_cases ca : (a.size : Int) > 1048576
  · exact Av.ifp ca Av.ret
  refine Av.ifn ca ?_
  by_cases cb : (b.size : Int) > 1048576
  · exact Av.ifp cb Av.ret
  refine Av.ifn cb ?_
  exact Av.bind (compare_s a b) (Av.bind (compare_f a b) (Av.ifp rfl Av.ret))

end Go.Proofs.Ytaaimkgpeilbbaa.Pure
