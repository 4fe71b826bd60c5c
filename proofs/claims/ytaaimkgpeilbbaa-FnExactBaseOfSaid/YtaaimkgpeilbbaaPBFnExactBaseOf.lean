/- The program's BaseOf answers what the reference's answers. Conditions: none beyond the given statement's. -/
import Derived.Test.YtaaimkgpeilbbaaYB1
import Derived.Test.YtaaimkgpeilbbaaZB4
import Derived.Test.YtaaimkgpeilbbaaZB5
import Derived.Test.YtaaimkgpeilbbaaZB6
set_option linter.unusedVariables false
set_option linter.unusedSimpArgs false
namespace Go.Proofs.Ytaaimkgpeilbbaa.Pure
open Go.RowKit Go.Proofs.YtaaimkgpeilbbaaW.PrintWords Go.Proofs.YtaaimkgpeilbbaaW.PrintLast Go.Proofs.YtaaimkgpeilbbaaW.PrintMore Go.Proofs.Ytaaimkgpeilbbaa.M Go.Proofs.Ytaaimkgpeilbbaa.C Go.Proofs.Ytaaimkgpeilbbaa.F

theorem base_s (id : Nat) (h1 : 1 ≤ id) (h4 : id ≤ 4) : spec_BaseOf.f id = some (false, bts ((cn id).getD 5 0), bts ((cn id).getD 6 0)) := by
  unfold spec_BaseOf.f
  by_cases c1 : id = 1
  · subst c1; rw [if_pos (by decide)]; kernel_rfl
  rw [if_neg (by omega)]
  by_cases c2 : id = 2
  · subst c2; rw [if_pos (by decide)]; kernel_rfl
  rw [if_neg (by omega)]
  by_cases c3 : id = 3
  · subst c3; rw [if_pos (by decide)]; kernel_rfl
  rw [if_neg (by omega)]
  obtain rfl : id = 4 := by omega
  rw [if_pos (by decide)]; kernel_rfl
theorem base_none (id : Int) (h : ¬ (1 ≤ id ∧ id ≤ 4)) : spec_BaseOf.f id = some (false, (⟨#[]⟩ : ByteArray), (⟨#[]⟩ : ByteArray)) := by
  unfold spec_BaseOf.f
  rw [if_neg (by omega), if_neg (by omega), if_neg (by omega), if_neg (by omega)]
theorem eqpoint (a : Bool) (b c : ByteArray) : laws_eqPoint.f a b c a b c = some true := by
  unfold laws_eqPoint.f
  rw [if_neg (by simp), if_pos rfl, if_pos rfl]
theorem FnExactBaseOf : laws_FnExactBaseOf.Pure := by
  intro a ha
  refine Av.get (g := fun k => laws_FnExactBaseOf.f k a) ?_
  unfold laws_FnExactBaseOf.f
  have key : ∃ r, spec_BaseOf.f a = some r ∧ Av (fun k => impl_BaseOf.f k a) r := by
    unfold impl_BaseOf.f
    by_cases h : 1 ≤ a ∧ a ≤ 4
    · obtain ⟨id, rfl⟩ := Int.eq_ofNat_of_zero_le (show 0 ≤ a by omega)
      have h1 : 1 ≤ id := by omega
      have h4 : id ≤ 4 := by omega
      refine ⟨_, base_s id h1 h4, Av.bindc (iscurve_f _) (Av.ifp (decide_eq_true h) (Av.bind (curve_f id h1 h4) ?_))⟩
      exact Av.bind (text_f' (Sm.gb (cn_gb' h1 h4 5))) (Av.bind (text_f' (Sm.gb (cn_gb' h1 h4 6))) Av.ret)
    · exact ⟨_, base_none a h, Av.bindc (iscurve_f _) (Av.ifn (by simp [h]) Av.ret)⟩
  obtain ⟨r, k1, k2⟩ := key
  exact Av.bindc k1 (Av.bind k2 (Av.bindc (eqpoint _ _ _) (Av.ifp rfl Av.ret)))

end Go.Proofs.Ytaaimkgpeilbbaa.Pure
