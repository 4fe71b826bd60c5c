/- Words and contracts that the laws of this claim lean on: numbers as limbs, and what the functions make of them. Conditions: those named in each theorem. -/
import Derived.Test.YtghhnjhjhjbljaaOwnWords
import Derived.Test.YtghhnjhjhjbljaaYA1
import Derived.Test.YtghhnjhjhjbljaaZA2
import Derived.Test.YtghhnjhjhjbljaaZA4
set_option linter.unusedVariables false
set_option linter.unusedSimpArgs false
set_option maxRecDepth 100000
namespace Go.Proofs.Ytghhnjhjhjbljaa.C
open Go.RowKit Go.Proofs.YtghhnjhjhjbljaaW.PrintWords Go.Proofs.YtghhnjhjhjbljaaW.PrintLast Go.Proofs.YtghhnjhjhjbljaaW.PrintMore
open Go.Proofs.Ytghhnjhjhjbljaa.M Go.Proofs.Ytghhnjhjhjbljaa.F
theorem l04half_s {a p : Nat} (hp : p < GB) (ha : a < p) : Av (fun k => spec_l04Half.f k (E a) (E p)) (E (hlf p a)) := by
  have sa := Sm.gb (Nat.lt_trans ha hp)
  have sap := Sm.add (Nat.lt_trans ha hp) hp
  unfold spec_l04Half.f hlf
  have jF : a % 2 = 0 → Av (fun k => spec_l04Half.j0 k (E a) (E p) false) (E (a / 2)) := by
    intro h
    refine Av.succ ?_
    simp only [spec_l04Half.j0]
    exact Av.ifn (by decide) (Av.bind (half_s sa) Av.ret)
  have jT : Av (fun k => spec_l04Half.j0 k (E a) (E p) true) (E ((a + p) / 2)) := by
    refine Av.succ ?_
    simp only [spec_l04Half.j0]
    exact Av.ifp (by decide) (Av.bind (add_s' sa (Sm.gb hp)) (Av.bind (half_s sap) Av.ret))
  by_cases h0 : a = 0
  · subst h0
    rw [E_zero, if_pos (by decide)]
    refine Av.ifn (by decide) ?_
    have := jF rfl
    rw [E_zero] at this
    exact this
  · have hl : 0 < (E a).length := by rw [E_lt, Nat.pow_zero]; omega
    have hl' : (0 : Int) < (E a).length := Int.ofNat_lt.2 hl
    refine Av.ifp hl' (Av.ifp hl' ?_)
    rw [tw_mod]
    by_cases h2 : a % 2 = 0
    · rw [if_pos h2, h2]
      exact jF h2
    · have h3 : a % 2 = 1 := by omega
      rw [if_neg h2, h3]
      exact jT
theorem phalf_f {a p : Nat} (hp : p < GB) (ha : a < p) : Av (fun k => impl_prime_half.f k (D p) (D a)) (D (hlf p a)) := by
  have sa := Sm.gb (Nat.lt_trans ha hp)
  have sap := Sm.add (Nat.lt_trans ha hp) hp
  unfold impl_prime_half.f hlf
  refine Av.bindc (even_f' sa) ?_
  by_cases h2 : a % 2 = 0
  · rw [if_pos h2]
    exact Av.ifp (by rw [h2]; rfl) (Av.bind (half_f' sa) Av.ret)
  · rw [if_neg h2]
    exact Av.ifn (by rw [beq_iff_eq]; exact h2) (Av.bind (plus_f' sa (Sm.gb hp)) (Av.bind (half_f' sap) Av.ret))
/-- What HalfRest answers. -/
def hrv (a p : ByteArray) : ByteArray := if mok p && rok a p && (bv p % 2 == 1) then bts (hlf (bv p) (bv a)) else (⟨#[]⟩ : ByteArray)
theorem halfrest_s (a p : ByteArray) : Av (fun k => spec_HalfRest.f k a p) (hrv a p) := by
  unfold spec_HalfRest.f
  have jT : hrv a p = (⟨#[]⟩ : ByteArray) → Av (fun k => spec_HalfRest.j0 k a p true) (hrv a p) := by
    intro h
    rw [h]
    refine Av.succ ?_
    simp only [spec_HalfRest.j0]
    exact Av.ifp (by decide) Av.ret
  refine Av.bindc (mod_s p) ?_
  cases hm : mok p with
  | false => exact Av.ifn (by decide) (jT (by unfold hrv; rw [hm]; rfl))
  | true =>
    refine Av.ifp (by decide) (Av.bind (restok_s a p) ?_)
    cases hr : rok a p with
    | false => exact Av.ifn (by decide) (jT (by unfold hrv; rw [hr]; simp))
    | true =>
      obtain ⟨hga, hgp, la⟩ := rok_iff.1 hr
      have b0 := bitof_s p hgp 0 (by decide)
      rw [Nat.pow_zero, Nat.div_one] at b0
      refine Av.ifp (by decide) (Av.bindc b0 ?_)
      have s1 := gok_size' hga
      have s2 := gok_size' hgp
      by_cases h2 : bv p % 2 = 1
      · rw [h2]
        have e : hrv a p = bts (hlf (bv p) (bv a)) := by unfold hrv; rw [hm, hr, h2]; rfl
        rw [e]
        refine Av.succ ?_
        simp only [spec_HalfRest.j0]
        exact Av.ifn (by decide) (Av.bind (in_s a (by omega)) (Av.bind (in_s p (by omega)) (Av.bind (l04half_s (bv_gb hgp) la) (Av.bind (out_s' ((Sm.gb (bv_gb hgp)).le (Nat.le_of_lt (hlf_lt la)))) Av.ret))))
      · have h3 : bv p % 2 = 0 := by omega
        rw [h3]
        exact jT (by unfold hrv; rw [h3]; simp)
theorem halfrest_f (a p : ByteArray) (hp : p.size < 281474976710656) : Av (fun k => impl_HalfRest.f k a p) (hrv a p) := by
  unfold impl_HalfRest.f
  have jT : ∀ x, hrv a p = (⟨#[]⟩ : ByteArray) → Av (fun k => impl_HalfRest.j0 k a x true) (hrv a p) := by
    intro x h
    rw [h]
    refine Av.succ ?_
    simp only [impl_HalfRest.j0]
    exact Av.ifp (by decide) Av.ret
  refine Av.bind (mod_f p [a] hp (by simp)) ?_
  have e : (mok p && [a].all (fun s => rok s p)) = (mok p && rok a p) := by simp
  rw [e]
  cases h : mok p && rok a p with
  | false => exact Av.ifn (by simp) (jT _ (by unfold hrv; rw [h]; rfl))
  | true =>
    have h9 := h
    simp only [Bool.and_eq_true] at h
    obtain ⟨hga, hgp, la⟩ := rok_iff.1 h.2
    have s1 := gok_size' hga
    refine Av.ifp rfl (Av.bindc (even_f' (Sm.gb (bv_gb hgp))) ?_)
    by_cases h2 : bv p % 2 = 1
    · have e : hrv a p = bts (hlf (bv p) (bv a)) := by unfold hrv; rw [h9, h2]; rfl
      rw [e, h2]
      refine Av.succ ?_
      simp only [impl_HalfRest.j0]
      exact Av.ifn (by decide) (Av.bind (natOf_f a (by omega)) (Av.bind (phalf_f (bv_gb hgp) la) (Av.bind (text_f' ((Sm.gb (bv_gb hgp)).le (Nat.le_of_lt (hlf_lt la)))) Av.ret)))
    · have h3 : bv p % 2 = 0 := by omega
      rw [h3]
      exact jT _ (by unfold hrv; rw [h3]; simp)
end Go.Proofs.Ytghhnjhjhjbljaa.C
