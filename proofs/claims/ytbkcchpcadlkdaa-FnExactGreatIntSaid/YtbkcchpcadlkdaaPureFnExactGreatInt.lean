/- The program's GreatInt answers what the reference's answers. Conditions: none beyond the given statement's. -/
import Derived.Test.YtbkcchpcadlkdaaS1
import Derived.Test.YtbkcchpcadlkdaaFx6
set_option linter.unusedVariables false
set_option linter.unusedSimpArgs false
namespace Go.Proofs.Ytbkcchpcadlkdaa.Pure
open Go.RowKit Go.Proofs.YtbkcchpcadlkdaaW.PrintWords Go.Proofs.YtbkcchpcadlkdaaW.PrintLast Go.Proofs.YtbkcchpcadlkdaaW.PrintMore Go.Proofs.Ytbkcchpcadlkdaa.M Go.Proofs.Ytbkcchpcadlkdaa.C Go.Proofs.Ytbkcchpcadlkdaa.F

theorem FnExactGreatInt : laws_FnExactGreatInt.Pure := by
  intro a0 h
  refine Av.get (g := fun k => laws_FnExactGreatInt.f k a0) ?_
  unfold laws_FnExactGreatInt.f
  by_cases hs : (a0.size : Int) > 1048576
  · exact Av.ifp hs Av.ret
  · refine Av.ifn hs ?_
    have hD := D_size a0
    have key : ∃ r : Int × Bool, Av (fun k => spec_GreatInt.f k a0) r ∧ Av (fun k => impl_GreatInt.f k a0) r := by
      unfold impl_GreatInt.f
      cases hg : gok a0 with
      | false =>
        refine ⟨_, greatint_bad a0 hg, Av.bind (natOf_f a0 (by omega)) (Av.bindc (by rw [gok_f, hg]) (Av.ifn (by decide) (Av.succ ?_)))⟩
        simp only [impl_GreatInt.j0]
        exact Av.ifp (by decide) Av.ret
      | true =>
        refine ⟨_, greatint_s a0 hg, Av.bind (natOf_f a0 (by omega)) (Av.bindc (by rw [gok_f, hg]) (Av.ifp (by decide) (Av.bind (size_f _ (by omega)) (Av.succ ?_))))⟩
        simp only [impl_GreatInt.j0]
        have hb := nb_le 63 (bv a0)
        unfold giv
        by_cases hv : bv a0 < 9223372036854775808
        · rw [decide_eq_false (by have := hb.2 hv; omega), if_pos hv]
          refine Av.ifn (by decide) (Av.bindc rfl ?_)
          have hl := D_lt 0 (bv a0)
          rw [Nat.pow_zero] at hl
          by_cases h0 : bv a0 = 0
          · rw [h0]
            exact Av.ifp (by rw [D_zero]; rfl) (Av.ret' rfl)
          · have hp := hl.2 (by omega)
            refine Av.ifn (by rw [beq_iff_eq]; omega) (Av.ifp (by omega) (Av.ret' ?_))
            have e : rd (D (bv a0)) 0 = (bv a0 : Int) := by
              have := rdD (bv a0) 0
              rw [Nat.pow_zero, Nat.div_one, Nat.mod_eq_of_lt (by omega)] at this
              exact this
            rw [e, wr (by omega) (by omega)]
        · rw [decide_eq_true (by
            have h2 : ¬ nb (bv a0) ≤ 63 := fun h3 => hv (hb.1 h3)
            omega), if_neg hv]
          exact Av.ifp (by decide) Av.ret
    obtain ⟨r, k1, k2⟩ := key
    exact Av.bind k1 (Av.bind k2 (Av.ifp rfl (Av.ifn (by simp) Av.ret)))

end Go.Proofs.Ytbkcchpcadlkdaa.Pure
