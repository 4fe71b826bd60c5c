/- The program's LimbsOf answers what the reference's answers. Conditions: none beyond the given statement's. -/
import Derived.Test.YtbkcchpcadlkdaaC1
import Derived.Test.YtbkcchpcadlkdaaFx2
set_option linter.unusedVariables false
set_option linter.unusedSimpArgs false
namespace Go.Proofs.Ytbkcchpcadlkdaa.Pure
open Go.RowKit Go.Proofs.YtbkcchpcadlkdaaW.PrintWords Go.Proofs.YtbkcchpcadlkdaaW.PrintLast Go.Proofs.YtbkcchpcadlkdaaW.PrintMore Go.Proofs.Ytbkcchpcadlkdaa.M Go.Proofs.Ytbkcchpcadlkdaa.C Go.Proofs.Ytbkcchpcadlkdaa.F

theorem FnExactLimbsOf : laws_FnExactLimbsOf.Pure := by
  intro a0 h
  unfold laws_FnExactLimbsOf.f
  by_cases hs : (a0.size : Int) > 1048576
  · rw [if_pos hs]
  · have e : impl_LimbsOf.f a0 = spec_LimbsOf.f a0 := by
      unfold impl_LimbsOf.f spec_LimbsOf.f
      rw [gok_s, gok_f]
    have ex : ∃ r, spec_LimbsOf.f a0 = some r := by
      unfold spec_LimbsOf.f
      rw [gok_s, Option.bind_some]
      split <;> exact ⟨_, rfl⟩
    obtain ⟨r, hr⟩ := ex
    rw [if_neg hs, e, hr, Option.bind_some, Option.bind_some, if_pos rfl]

end Go.Proofs.Ytbkcchpcadlkdaa.Pure
