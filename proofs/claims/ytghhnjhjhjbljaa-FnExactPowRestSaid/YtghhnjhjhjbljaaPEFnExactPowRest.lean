/- The program's PowRest answers what the reference's answers. Conditions: none beyond the given statement's. -/
import Derived.Test.YtghhnjhjhjbljaaYE4
import Derived.Test.YtghhnjhjhjbljaaZE7
set_option linter.unusedVariables false
set_option linter.unusedSimpArgs false
namespace Go.Proofs.Ytghhnjhjhjbljaa.Pure
open Go.RowKit Go.Proofs.YtghhnjhjhjbljaaW.PrintWords Go.Proofs.YtghhnjhjhjbljaaW.PrintLast Go.Proofs.YtghhnjhjhjbljaaW.PrintMore Go.Proofs.Ytghhnjhjhjbljaa.M Go.Proofs.Ytghhnjhjhjbljaa.C Go.Proofs.Ytghhnjhjhjbljaa.F

theorem FnExactPowRest : laws_FnExactPowRest.Pure := by
  intro a e p ha he hp
  refine Av.get (g := fun k => laws_FnExactPowRest.f k a e p) ?_
  unfold laws_FnExactPowRest.f
  by_cases ca : (a.size : Int) > 1048576
  · exact Av.ifp ca Av.ret
  refine Av.ifn ca ?_
  by_cases ce : (e.size : Int) > 1048576
  · exact Av.ifp ce Av.ret
  refine Av.ifn ce ?_
  by_cases cp : (p.size : Int) > 1048576
  · exact Av.ifp cp Av.ret
  refine Av.ifn cp ?_
  exact Av.bind (powrest_s a e p) (Av.bind (powrest_f a e p (by omega)) (Av.ifp rfl Av.ret))

end Go.Proofs.Ytghhnjhjhjbljaa.Pure
