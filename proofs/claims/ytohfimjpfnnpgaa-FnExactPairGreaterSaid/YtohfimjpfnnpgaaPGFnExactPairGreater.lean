/- The program's PairGreater answers what the reference's answers. Conditions: none beyond the given statement's. -/
import Derived.Test.YtohfimjpfnnpgaaYG1
import Derived.Test.YtohfimjpfnnpgaaZG4
import Derived.Test.YtohfimjpfnnpgaaZG5
set_option linter.unusedVariables false
set_option linter.unusedSimpArgs false
namespace Go.Proofs.Ytohfimjpfnnpgaa.Pure
open Go.RowKit Go.Proofs.YtohfimjpfnnpgaaW.PrintWords Go.Proofs.YtohfimjpfnnpgaaW.PrintLast Go.Proofs.YtohfimjpfnnpgaaW.PrintMore Go.Proofs.Ytohfimjpfnnpgaa.M Go.Proofs.Ytohfimjpfnnpgaa.C Go.Proofs.Ytohfimjpfnnpgaa.F

theorem empty_bv {s : ByteArray} (h : gok s = true) : s.toList = ([] : List UInt8) ↔ bv s = 0 := by
  obtain ⟨n, hn, rfl⟩ := gok_cases h
  rw [toList_nil_iff, bts_size, bv_bts, List.length_eq_zero_iff, dg_nil (by decide)]
/-- What PairGreater answers. -/
def pgv (a b p : ByteArray) : Bool := pok a b p && (grt (bv p) (bv b) || (decide (bv b = 0) && grt (bv p) (bv a)))
theorem pairgreater_s (a b p : ByteArray) : Av (fun k => spec_PairGreater.f k a b p) (pgv a b p) := by
  unfold spec_PairGreater.f pgv
  refine Av.bind (pairok_s a b p) ?_
  cases h : pok a b p with
  | false => exact Av.ifn (by decide) Av.ret
  | true =>
    unfold pok at h
    simp only [Bool.and_eq_true] at h
    obtain ⟨⟨h1, h2⟩, h3⟩ := h
    have gb := greater_s b p
    have ga := greater_s a p
    rw [h1, h3] at gb
    rw [h1, h2] at ga
    have hz := empty_bv (rok_iff.1 h3).1
    refine Av.ifp (by decide) (Av.bind gb ?_)
    simp only [Bool.true_and, Bool.and_self]
    cases hg : grt (bv p) (bv b) with
    | true => exact Av.ifp (by decide) (Av.ret' rfl)
    | false =>
      refine Av.ifn (by decide) ?_
      by_cases h0 : bv b = 0
      · refine Av.ifp (hz.2 h0) (Av.bind ga (Av.ret' ?_))
        simp [h0]
      · exact Av.ifn (fun h => h0 (hz.1 h)) (Av.ret' (by simp [h0]))
theorem pairgreater_f (a b p : ByteArray) (hp : p.size < 281474976710656) : Av (fun k => impl_PairGreater.f k a b p) (pgv a b p) := by
  unfold impl_PairGreater.f pgv
  refine Av.bind (pairs_f a b p hp) ?_
  rw [prs_snd]
  cases h : pok a b p with
  | false => exact Av.ifn (by decide) Av.ret
  | true =>
    unfold pok at h
    simp only [Bool.and_eq_true] at h
    obtain ⟨⟨h1, h2⟩, h3⟩ := h
    obtain ⟨hga, hgp, la⟩ := rok_iff.1 h2
    obtain ⟨hgb, _, lb⟩ := rok_iff.1 h3
    have s1 := gok_size' hga
    have s2 := gok_size' hgb
    have e1 : (prs a b p).1 = D (bv p) := by unfold prs; rw [h1]; rfl
    rw [e1]
    have hpo : Av (fun k => impl_pairOf.f k a b) (D (bv a), D (bv b)) := by
      unfold impl_pairOf.f
      exact Av.bind (natOf_f a (by omega)) (Av.bind (natOf_f b (by omega)) Av.ret)
    refine Av.ifp (by decide) (Av.bind hpo (Av.bind (a := (grt (bv p) (bv b) || (decide (bv b = 0) && grt (bv p) (bv a)))) ?_ (Av.ret' rfl)))
    unfold impl_prime_greater2.f
    refine Av.bind (pgreater_f (bv_gb hgp) lb) ?_
    cases hg : grt (bv p) (bv b) with
    | true => exact Av.ifp (by decide) (Av.ret' rfl)
    | false =>
      refine Av.ifn (by decide) (Av.bindc rfl ?_)
      have hl := D_lt 0 (bv b)
      rw [Nat.pow_zero] at hl
      by_cases h0 : bv b = 0
      · refine Av.ifp (by rw [h0, D_zero]; rfl) (Av.bind (pgreater_f (bv_gb hgp) la) (Av.ret' (by simp [h0])))
      · have hp2 := hl.2 (by omega)
        exact Av.ifn (fun h => absurd (beq_iff_eq.1 h) (fun h5 => Nat.ne_of_gt hp2 (Int.ofNat.inj h5))) (Av.ret' (by simp [h0]))
theorem FnExactPairGreater (a b p : ByteArray) (ha : a.size ≤ 140737488351232) (hb : b.size ≤ 140737488351232) (hp : p.size ≤ 140737488351232) : ∃ k, laws_FnExactPairGreater.f k a b p = some true := by
  refine Av.get (g := fun k => laws_FnExactPairGreater.f k a b p) ?_
  unfold laws_FnExactPairGreater.f
  by_cases cp : (p.size : Int) > 1048576
  · exact Av.ifp cp Av.ret
  obtain ⟨t, ht⟩ := szpair_some a b 1048576
  refine Av.ifn cp (Av.bindc ht ?_)
  by_cases h0 : t < 0
  · exact Av.ifp h0 Av.ret
  refine Av.ifn h0 (Av.bindc rfl ?_)
  exact Av.bind (pairgreater_s a b p) (Av.bindc rfl (Av.bind (pairgreater_f a b p (by omega)) (Av.ifn (by simp) Av.ret)))

end Go.Proofs.Ytohfimjpfnnpgaa.Pure
