/- The program's DivGreat answers what the reference's answers. Conditions: none beyond the given statement's. -/
import Derived.Test.YtghhnjhjhjbljaaYB4
import Derived.Test.YtghhnjhjhjbljaaZB6
set_option linter.unusedVariables false
set_option linter.unusedSimpArgs false
namespace Go.Proofs.Ytghhnjhjhjbljaa.Pure
open Go.RowKit Go.Proofs.YtghhnjhjhjbljaaW.PrintWords Go.Proofs.YtghhnjhjhjbljaaW.PrintLast Go.Proofs.YtghhnjhjhjbljaaW.PrintMore Go.Proofs.Ytghhnjhjhjbljaa.M Go.Proofs.Ytghhnjhjhjbljaa.C Go.Proofs.Ytghhnjhjhjbljaa.F

theorem FnExactDivGreat : laws_FnExactDivGreat.Pure := by
  intro a b ha hb
  refine Av.get (g := fun k => laws_FnExactDivGreat.f k a b) ?_
  unfold laws_FnExactDivGreat.f
  by_cases ca : (a.size : Int) > 1048576
  · exact Av.ifp ca Av.ret
  refine Av.ifn ca ?_
  by_cases cb : (b.size : Int) > 1048576
  · exact Av.ifp cb Av.ret
  refine Av.ifn cb ?_
  exact Av.bind (divgreat_s a b) (Av.bind (divgreat_f a b) (Av.ifp rfl (Av.ifp rfl (Av.ifn (by simp) Av.ret))))

end Go.Proofs.Ytghhnjhjhjbljaa.Pure
