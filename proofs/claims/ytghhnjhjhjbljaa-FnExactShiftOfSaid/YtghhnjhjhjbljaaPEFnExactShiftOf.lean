/- The program's ShiftOf answers what the reference's answers. Conditions: none beyond the given statement's. -/
import Derived.Test.YtghhnjhjhjbljaaYE4
import Derived.Test.YtghhnjhjhjbljaaZE7
set_option linter.unusedVariables false
set_option linter.unusedSimpArgs false
namespace Go.Proofs.Ytghhnjhjhjbljaa.Pure
open Go.RowKit Go.Proofs.YtghhnjhjhjbljaaW.PrintWords Go.Proofs.YtghhnjhjhjbljaaW.PrintLast Go.Proofs.YtghhnjhjhjbljaaW.PrintMore Go.Proofs.Ytghhnjhjhjbljaa.M Go.Proofs.Ytghhnjhjhjbljaa.C Go.Proofs.Ytghhnjhjhjbljaa.F

theorem FnExactShiftOf : laws_FnExactShiftOf.Pure := by
  intro p hp
  refine Av.get (g := fun k => laws_FnExactShiftOf.f k p) ?_
  unfold laws_FnExactShiftOf.f
  by_cases cp : (p.size : Int) > 1048576
  · exact Av.ifp cp Av.ret
  refine Av.ifn cp ?_
  exact Av.bind (shiftof_s p) (Av.bind (shiftof_f p (by omega)) (Av.ifp rfl Av.ret))

end Go.Proofs.Ytghhnjhjhjbljaa.Pure
