/- The program's BitOf answers what the reference's answers. Conditions: none beyond the given statement's. -/
import Derived.Test.YtbkcchpcadlkdaaS1
import Derived.Test.YtbkcchpcadlkdaaFx4
import Derived.Test.YtbkcchpcadlkdaaFx5
set_option linter.unusedVariables false
set_option linter.unusedSimpArgs false
namespace Go.Proofs.Ytbkcchpcadlkdaa.Pure
open Go.RowKit Go.Proofs.YtbkcchpcadlkdaaW.PrintWords Go.Proofs.YtbkcchpcadlkdaaW.PrintLast Go.Proofs.YtbkcchpcadlkdaaW.PrintMore Go.Proofs.Ytbkcchpcadlkdaa.M Go.Proofs.Ytbkcchpcadlkdaa.C Go.Proofs.Ytbkcchpcadlkdaa.F

theorem FnExactBitOf : laws_FnExactBitOf.Pure := by
  intro a0 a1 h h1
  refine Av.get (g := fun k => laws_FnExactBitOf.f k a0 a1) ?_
  unfold laws_FnExactBitOf.f
  have hw := wf64 h1
  by_cases hs : (a0.size : Int) > 1048576
  · exact Av.ifp hs Av.ret
  · refine Av.ifn hs ?_
    have hD : (D (bv a0)).length < 100000000000000000 := by
      have h2 := (D_le (a0.size + 1) (bv a0)).2 (Nat.lt_of_lt_of_le (bv_lt a0) ?_)
      · omega
      · exact Nat.le_trans (Nat.pow_le_pow_left (by decide) _) (Nat.pow_le_pow_right (by decide) (Nat.le_succ _))
    have key : ∃ r : Int, spec_BitOf.f a0 a1 = some r ∧ Av (fun k => impl_BitOf.f k a0 a1) r := by
      unfold impl_BitOf.f
      cases hg : gok a0 with
      | false => exact ⟨0, bitof_bad a0 hg a1, Av.bindc (by rw [gok_f, hg]) (Av.ifn (by decide) Av.ret)⟩
      | true =>
        by_cases hn : a1 < 0
        · refine ⟨0, bitof_neg a0 hg a1 hn, Av.bindc (by rw [gok_f, hg]) (Av.ifp (by decide) (Av.bind (natOf_f a0 (by omega)) (Av.bindc (bit_neg _ a1 hn) (Av.ret' (wr (by decide) (by decide))))))⟩
        · obtain ⟨j, rfl⟩ := Int.eq_ofNat_of_zero_le (show 0 ≤ a1 by omega)
          have hm : bv a0 / 2 ^ j % 2 < 2 := Nat.mod_lt _ (by decide)
          refine ⟨_, bitof_s a0 hg j (by omega), Av.bindc (by rw [gok_f, hg]) (Av.ifp (by decide) (Av.bind (natOf_f a0 (by omega)) (Av.bindc (bit_f _ j hD (by omega)) (Av.ret' ?_))))⟩
          generalize bv a0 / 2 ^ j % 2 = q at hm
          exact wr (by omega) (by omega)
    obtain ⟨r, k1, k2⟩ := key
    exact Av.bindc k1 (Av.bind k2 (Av.ifp rfl Av.ret))

end Go.Proofs.Ytbkcchpcadlkdaa.Pure
