/- The program's MulRest answers what the reference's answers. Conditions: none beyond the given statement's. -/
import Derived.Test.YtghhnjhjhjbljaaYB4
import Derived.Test.YtghhnjhjhjbljaaZB7
set_option linter.unusedVariables false
set_option linter.unusedSimpArgs false
namespace Go.Proofs.Ytghhnjhjhjbljaa.Pure
open Go.RowKit Go.Proofs.YtghhnjhjhjbljaaW.PrintWords Go.Proofs.YtghhnjhjhjbljaaW.PrintLast Go.Proofs.YtghhnjhjhjbljaaW.PrintMore Go.Proofs.Ytghhnjhjhjbljaa.M Go.Proofs.Ytghhnjhjhjbljaa.C Go.Proofs.Ytghhnjhjhjbljaa.F

theorem FnExactMulRest : laws_FnExactMulRest.Pure := by
  intro a b p ha hb hp
  refine Av.get (g := fun k => laws_FnExactMulRest.f k a b p) ?_
  unfold laws_FnExactMulRest.f
  by_cases ca : (a.size : Int) > 1048576
  · exact Av.ifp ca Av.ret
  refine Av.ifn ca ?_
  by_cases cb : (b.size : Int) > 1048576
  · exact Av.ifp cb Av.ret
  refine Av.ifn cb ?_
  by_cases cp : (p.size : Int) > 1048576
  · exact Av.ifp cp Av.ret
  refine Av.ifn cp ?_
  exact Av.bind (mulrest_s a b p) (Av.bind (mulrest_f a b p (by omega)) (Av.ifp rfl Av.ret))

end Go.Proofs.Ytghhnjhjhjbljaa.Pure
