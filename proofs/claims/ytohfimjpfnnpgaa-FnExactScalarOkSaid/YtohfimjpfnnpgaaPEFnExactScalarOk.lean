/- The program's ScalarOk answers what the reference's answers. Conditions: none beyond the given statement's. -/
import Derived.Test.YtohfimjpfnnpgaaYE1
import Derived.Test.YtohfimjpfnnpgaaZE6
set_option linter.unusedVariables false
set_option linter.unusedSimpArgs false
namespace Go.Proofs.Ytohfimjpfnnpgaa.Pure
open Go.RowKit Go.Proofs.YtohfimjpfnnpgaaW.PrintWords Go.Proofs.YtohfimjpfnnpgaaW.PrintLast Go.Proofs.YtohfimjpfnnpgaaW.PrintMore Go.Proofs.Ytohfimjpfnnpgaa.M Go.Proofs.Ytohfimjpfnnpgaa.C Go.Proofs.Ytohfimjpfnnpgaa.F

theorem FnExactScalarOk : laws_FnExactScalarOk.Pure := by
  intro a s ha hs
  refine Av.get (g := fun k => laws_FnExactScalarOk.f k a s) ?_
  unfold laws_FnExactScalarOk.f
  by_cases cs : (s.size : Int) > 1048576
  · exact Av.ifp cs Av.ret
  refine Av.ifn cs ?_
  have key : ∃ r, Av (fun k => spec_ScalarOk.f k a s) r ∧ Av (fun k => impl_ScalarOk.f k a s) r := by
    unfold impl_ScalarOk.f spec_ScalarOk.f
    by_cases h : 1 ≤ a ∧ a ≤ 4
    · obtain ⟨id, rfl⟩ := Int.eq_ofNat_of_zero_le (show 0 ≤ a by omega)
      have h1 : 1 ≤ id := by omega
      have h4 : id ≤ 4 := by omega
      exact ⟨_, Av.bindc (curveof_s id h1 h4) (Av.ifp rfl (Av.bind (restok_s s _) Av.ret)), Av.bindc (iscurve_f _) (Av.ifp (decide_eq_true h) (Av.bind (curve_f id h1 h4) (Av.bind (text_f' (Sm.gb (cn_gb' h1 h4 1))) (Av.bind (restok_f s _) (Av.ret' rfl)))))⟩
    · exact ⟨false, Av.bindc (curveof_none a h) (Av.ifn (by decide) Av.ret), Av.bindc (iscurve_f _) (Av.ifn (by simp [h]) Av.ret)⟩
  obtain ⟨r, k1, k2⟩ := key
  exact Av.bind k1 (Av.bind k2 (Av.ifn (by simp) Av.ret))

end Go.Proofs.Ytohfimjpfnnpgaa.Pure
