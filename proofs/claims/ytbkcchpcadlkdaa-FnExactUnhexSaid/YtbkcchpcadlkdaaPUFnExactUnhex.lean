/- The program's Unhex answers what the reference's answers. Conditions: none beyond the given statement's. -/
import Derived.Test.YtbkcchpcadlkdaaYU0
import Derived.Test.YtbkcchpcadlkdaaZU0
set_option linter.unusedVariables false
set_option linter.unusedSimpArgs false
namespace Go.Proofs.Ytbkcchpcadlkdaa.Pure
open Go.RowKit Go.Proofs.YtbkcchpcadlkdaaW.PrintWords Go.Proofs.YtbkcchpcadlkdaaW.PrintLast Go.Proofs.YtbkcchpcadlkdaaW.PrintMore Go.Proofs.Ytbkcchpcadlkdaa.M Go.Proofs.Ytbkcchpcadlkdaa.C Go.Proofs.Ytbkcchpcadlkdaa.F

theorem FnExactUnhex : laws_FnExactUnhex.Pure := by
  intro a ha
  refine Av.get (g := fun k => laws_FnExactUnhex.f k a) ?_
  unfold laws_FnExactUnhex.f
  by_cases ca : (a.size : Int) > 1048576
  · exact Av.ifp ca Av.ret
  obtain ⟨r, r1, r2⟩ := unhex a
  exact Av.ifn ca (Av.bind r1 (Av.bind r2 (Av.ifp rfl (Av.ifn (by simp) Av.ret))))

end Go.Proofs.Ytbkcchpcadlkdaa.Pure
