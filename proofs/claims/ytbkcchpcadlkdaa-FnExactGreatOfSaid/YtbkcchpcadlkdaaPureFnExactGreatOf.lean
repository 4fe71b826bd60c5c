/- The program's GreatOf answers what the reference's answers. Conditions: none beyond the given statement's. -/
import Derived.Test.YtbkcchpcadlkdaaS1
import Derived.Test.YtbkcchpcadlkdaaFx5
import Derived.Test.YtbkcchpcadlkdaaFx6
set_option linter.unusedVariables false
set_option linter.unusedSimpArgs false
namespace Go.Proofs.Ytbkcchpcadlkdaa.Pure
open Go.RowKit Go.Proofs.YtbkcchpcadlkdaaW.PrintWords Go.Proofs.YtbkcchpcadlkdaaW.PrintLast Go.Proofs.YtbkcchpcadlkdaaW.PrintMore Go.Proofs.Ytbkcchpcadlkdaa.M Go.Proofs.Ytbkcchpcadlkdaa.C Go.Proofs.Ytbkcchpcadlkdaa.F

theorem FnExactGreatOf : laws_FnExactGreatOf.Pure := by
  intro a0 h
  refine Av.get (g := fun k => laws_FnExactGreatOf.f k a0) ?_
  unfold laws_FnExactGreatOf.f
  have hw := wf64 h
  have key : ∃ r, Av (fun k => spec_GreatOf.f k a0) r ∧ Av (fun k => impl_GreatOf.f k a0) r := by
    by_cases hn : a0 < 0
    · refine ⟨_, greatof_neg a0 hn, ?_⟩
      unfold impl_GreatOf.f
      exact Av.ifp hn Av.ret
    · obtain ⟨n, rfl⟩ := Int.eq_ofNat_of_zero_le (show 0 ≤ a0 by omega)
      refine ⟨_, greatof_s n (by omega), ?_⟩
      unfold impl_GreatOf.f
      have hD : (D n).length ≤ 1 := (D_le 1 n).2 (by omega)
      exact Av.ifn hn (Av.bind (small_f n (by omega)) (Av.bind (text_f n (by omega)) Av.ret))
  obtain ⟨r, k1, k2⟩ := key
  exact Av.bind k1 (Av.bind k2 (Av.ifp rfl Av.ret))

end Go.Proofs.Ytbkcchpcadlkdaa.Pure
