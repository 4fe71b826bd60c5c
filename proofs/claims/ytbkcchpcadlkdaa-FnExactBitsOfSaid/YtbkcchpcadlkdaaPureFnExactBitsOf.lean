/- The program's BitsOf answers what the reference's answers. Conditions: none beyond the given statement's. -/
import Derived.Test.YtbkcchpcadlkdaaS1
import Derived.Test.YtbkcchpcadlkdaaFx6
set_option linter.unusedVariables false
set_option linter.unusedSimpArgs false
namespace Go.Proofs.Ytbkcchpcadlkdaa.Pure
open Go.RowKit Go.Proofs.YtbkcchpcadlkdaaW.PrintWords Go.Proofs.YtbkcchpcadlkdaaW.PrintLast Go.Proofs.YtbkcchpcadlkdaaW.PrintMore Go.Proofs.Ytbkcchpcadlkdaa.M Go.Proofs.Ytbkcchpcadlkdaa.C Go.Proofs.Ytbkcchpcadlkdaa.F

theorem FnExactBitsOf : laws_FnExactBitsOf.Pure := by
  intro a0 h
  refine Av.get (g := fun k => laws_FnExactBitsOf.f k a0) ?_
  unfold laws_FnExactBitsOf.f
  by_cases hs : (a0.size : Int) > 1048576
  · exact Av.ifp hs Av.ret
  · refine Av.ifn hs ?_
    have hD := D_size a0
    have key : ∃ r : Int, Av (fun k => spec_BitsOf.f k a0) r ∧ Av (fun k => impl_BitsOf.f k a0) r := by
      unfold impl_BitsOf.f
      cases hg : gok a0 with
      | false => exact ⟨-1, bitsof_bad a0 hg, Av.bindc (by rw [gok_f, hg]) (Av.ifn (by decide) Av.ret)⟩
      | true => exact ⟨_, bitsof_s a0 hg, Av.bindc (by rw [gok_f, hg]) (Av.ifp (by decide) (Av.bind (natOf_f a0 (by omega)) (Av.bind (size_f _ (by omega)) Av.ret)))⟩
    obtain ⟨r, k1, k2⟩ := key
    exact Av.bind k1 (Av.bind k2 (Av.ifp rfl Av.ret))

end Go.Proofs.Ytbkcchpcadlkdaa.Pure
