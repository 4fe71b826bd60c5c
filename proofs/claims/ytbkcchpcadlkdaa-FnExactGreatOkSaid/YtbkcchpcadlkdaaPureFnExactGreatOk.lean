/- The program's GreatOk answers what the reference's answers. Conditions: none beyond the given statement's. -/
import Derived.Test.YtbkcchpcadlkdaaC1
import Derived.Test.YtbkcchpcadlkdaaFx2
set_option linter.unusedVariables false
set_option linter.unusedSimpArgs false
namespace Go.Proofs.Ytbkcchpcadlkdaa.Pure
open Go.RowKit Go.Proofs.YtbkcchpcadlkdaaW.PrintWords Go.Proofs.YtbkcchpcadlkdaaW.PrintLast Go.Proofs.YtbkcchpcadlkdaaW.PrintMore Go.Proofs.Ytbkcchpcadlkdaa.M Go.Proofs.Ytbkcchpcadlkdaa.C Go.Proofs.Ytbkcchpcadlkdaa.F

theorem FnExactGreatOk : laws_FnExactGreatOk.Pure := by
  intro a0 h
  unfold laws_FnExactGreatOk.f
  by_cases hs : (a0.size : Int) > 1048576
  · rw [if_pos hs]
  · rw [if_neg hs, gok_s, gok_f, Option.bind_some, Option.bind_some, if_neg (by simp)]

end Go.Proofs.Ytbkcchpcadlkdaa.Pure
