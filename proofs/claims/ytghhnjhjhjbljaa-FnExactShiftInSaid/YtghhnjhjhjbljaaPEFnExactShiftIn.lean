/- The program's ShiftIn answers what the reference's answers. Conditions: none beyond the given statement's. -/
import Derived.Test.YtghhnjhjhjbljaaYE4
import Derived.Test.YtghhnjhjhjbljaaZE8
set_option linter.unusedVariables false
set_option linter.unusedSimpArgs false
namespace Go.Proofs.Ytghhnjhjhjbljaa.Pure
open Go.RowKit Go.Proofs.YtghhnjhjhjbljaaW.PrintWords Go.Proofs.YtghhnjhjhjbljaaW.PrintLast Go.Proofs.YtghhnjhjhjbljaaW.PrintMore Go.Proofs.Ytghhnjhjhjbljaa.M Go.Proofs.Ytghhnjhjhjbljaa.C Go.Proofs.Ytghhnjhjhjbljaa.F

theorem FnExactShiftIn : laws_FnExactShiftIn.Pure := by
  intro a p ha hp
  refine Av.get (g := fun k => laws_FnExactShiftIn.f k a p) ?_
  unfold laws_FnExactShiftIn.f
  by_cases ca : (a.size : Int) > 1048576
  · exact Av.ifp ca Av.ret
  refine Av.ifn ca ?_
  by_cases cp : (p.size : Int) > 1048576
  · exact Av.ifp cp Av.ret
  refine Av.ifn cp ?_
  exact Av.bind (shiftin_s a p) (Av.bind (shiftin_f a p (by omega)) (Av.ifp rfl Av.ret))

end Go.Proofs.Ytghhnjhjhjbljaa.Pure
