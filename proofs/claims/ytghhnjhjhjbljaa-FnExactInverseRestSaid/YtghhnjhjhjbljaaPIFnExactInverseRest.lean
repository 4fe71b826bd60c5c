/- The program's InverseRest answers what the reference's answers. Conditions: none beyond the given statement's. -/
import Derived.Test.YtghhnjhjhjbljaaYI4
import Derived.Test.YtghhnjhjhjbljaaZI8
set_option linter.unusedVariables false
set_option linter.unusedSimpArgs false
namespace Go.Proofs.Ytghhnjhjhjbljaa.Pure
open Go.RowKit Go.Proofs.YtghhnjhjhjbljaaW.PrintWords Go.Proofs.YtghhnjhjhjbljaaW.PrintLast Go.Proofs.YtghhnjhjhjbljaaW.PrintMore Go.Proofs.Ytghhnjhjhjbljaa.M Go.Proofs.Ytghhnjhjhjbljaa.C Go.Proofs.Ytghhnjhjhjbljaa.F

theorem FnExactInverseRest : laws_FnExactInverseRest.Pure := by
  intro a p ha hp
  refine Av.get (g := fun k => laws_FnExactInverseRest.f k a p) ?_
  unfold laws_FnExactInverseRest.f
  by_cases ca : (a.size : Int) > 1048576
  · exact Av.ifp ca Av.ret
  refine Av.ifn ca ?_
  by_cases cp : (p.size : Int) > 1048576
  · exact Av.ifp cp Av.ret
  refine Av.ifn cp ?_
  exact Av.bind (inverserest_s a p) (Av.bind (inverserest_f a p (by omega)) (Av.ifp rfl (Av.ifn (by simp) Av.ret)))

end Go.Proofs.Ytghhnjhjhjbljaa.Pure
