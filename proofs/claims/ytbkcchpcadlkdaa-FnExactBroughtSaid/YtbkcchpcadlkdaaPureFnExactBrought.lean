/- The program's Brought answers what the reference's answers. Conditions: none beyond the given statement's. -/
import Derived.Test.YtbkcchpcadlkdaaC1
import Derived.Test.YtbkcchpcadlkdaaFx2
set_option linter.unusedVariables false
set_option linter.unusedSimpArgs false
namespace Go.Proofs.Ytbkcchpcadlkdaa.Pure
open Go.RowKit Go.Proofs.YtbkcchpcadlkdaaW.PrintWords Go.Proofs.YtbkcchpcadlkdaaW.PrintLast Go.Proofs.YtbkcchpcadlkdaaW.PrintMore Go.Proofs.Ytbkcchpcadlkdaa.M Go.Proofs.Ytbkcchpcadlkdaa.C Go.Proofs.Ytbkcchpcadlkdaa.F

theorem FnExactBrought : laws_FnExactBrought.Pure := by
  intro a0 a1 a2 h0 h1 h2
  refine Av.get (g := fun k => laws_FnExactBrought.f k a0 a1 a2) ?_
  unfold laws_FnExactBrought.f
  have hs : Av (fun k => spec_Brought.f k a0 a1 a2) (mx a1 (mn a0 a2)) := by
    unfold spec_Brought.f
    by_cases c : a2 < a1
    · refine Av.ifp c (Av.succ ?_)
      simp only [spec_Brought.j0]
      refine Av.ifp (by decide) (Av.ret' ?_)
      unfold mx mn; split <;> split <;> omega
    · refine Av.ifn c (Av.succ ?_)
      simp only [spec_Brought.j0]
      by_cases d : a0 < a1
      · rw [decide_eq_true d]
        refine Av.ifp (by decide) (Av.ret' ?_)
        unfold mx mn; split <;> split <;> omega
      · rw [decide_eq_false d]
        refine Av.ifn (by decide) ?_
        by_cases e : a0 > a2
        · refine Av.ifp e (Av.ret' ?_)
          unfold mx mn; split <;> split <;> omega
        · refine Av.ifn e (Av.ret' ?_)
          unfold mx mn; split <;> split <;> omega
  exact Av.bind hs (Av.bindc rfl (Av.ifp rfl Av.ret))

end Go.Proofs.Ytbkcchpcadlkdaa.Pure
