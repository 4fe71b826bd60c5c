/- The program's TwosIn answers what the reference's answers. Conditions: none beyond the given statement's. -/
import Derived.Test.YtohfimjpfnnpgaaYF1
import Derived.Test.YtohfimjpfnnpgaaZF4
set_option linter.unusedVariables false
set_option linter.unusedSimpArgs false
namespace Go.Proofs.Ytohfimjpfnnpgaa.Pure
open Go.RowKit Go.Proofs.YtohfimjpfnnpgaaW.PrintWords Go.Proofs.YtohfimjpfnnpgaaW.PrintLast Go.Proofs.YtohfimjpfnnpgaaW.PrintMore Go.Proofs.Ytohfimjpfnnpgaa.M Go.Proofs.Ytohfimjpfnnpgaa.C Go.Proofs.Ytohfimjpfnnpgaa.F

theorem FnExactTwosIn : laws_FnExactTwosIn.Pure := by
  intro a ha
  refine Av.get (g := fun k => laws_FnExactTwosIn.f k a) ?_
  unfold laws_FnExactTwosIn.f
  by_cases ca : (a.size : Int) > 1048576
  · exact Av.ifp ca Av.ret
  refine Av.ifn ca ?_
  have key : ∃ r, Av (fun k => spec_TwosIn.f k a) r ∧ Av (fun k => impl_TwosIn.f k a) r := by
    unfold impl_TwosIn.f
    have hmod := mod_f a [] (by omega) (by simp)
    have e : (mok a && ([] : List ByteArray).all (fun s => rok s a)) = mok a := by simp
    rw [e] at hmod
    cases hm : mok a with
    | false =>
      rw [hm] at hmod
      exact ⟨_, twosin_bad hm, Av.bind hmod (Av.ifn (by simp) Av.ret)⟩
    | true =>
      rw [hm] at hmod
      obtain ⟨hg, h1⟩ := mok_iff.1 hm
      obtain ⟨c, q, k1, k2, k3, k4, k5, k6⟩ := twos_both h1 (bv_gb hg)
      exact ⟨_, twosin_s hm k4 k5, Av.bind hmod (Av.ifp rfl (Av.bind k6 (Av.bind (text_f' ((Sm.gb (bv_gb hg)).le (Nat.le_of_lt k2))) Av.ret)))⟩
  obtain ⟨r, k1, k2⟩ := key
  exact Av.bind k1 (Av.bind k2 (Av.ifp rfl (Av.ifp rfl Av.ret)))

end Go.Proofs.Ytohfimjpfnnpgaa.Pure
