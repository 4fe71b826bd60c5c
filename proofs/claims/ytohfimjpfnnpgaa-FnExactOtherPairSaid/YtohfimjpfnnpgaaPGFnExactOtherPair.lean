/- The program's OtherPair answers what the reference's answers. Conditions: none beyond the given statement's. -/
import Derived.Test.YtohfimjpfnnpgaaYG1
import Derived.Test.YtohfimjpfnnpgaaZG5
import Derived.Test.YtohfimjpfnnpgaaZG6
import Derived.Test.YtohfimjpfnnpgaaZG7
set_option linter.unusedVariables false
set_option linter.unusedSimpArgs false
namespace Go.Proofs.Ytohfimjpfnnpgaa.Pure
open Go.RowKit Go.Proofs.YtohfimjpfnnpgaaW.PrintWords Go.Proofs.YtohfimjpfnnpgaaW.PrintLast Go.Proofs.YtohfimjpfnnpgaaW.PrintMore Go.Proofs.Ytohfimjpfnnpgaa.M Go.Proofs.Ytohfimjpfnnpgaa.C Go.Proofs.Ytohfimjpfnnpgaa.F

/-- What OtherPair answers. -/
def opv (a b p : ByteArray) : ByteArray × ByteArray := if pok a b p then (a, bts (subm (bv p) 0 (bv b))) else ((⟨#[]⟩ : ByteArray), (⟨#[]⟩ : ByteArray))
theorem otherpair_s (a b p : ByteArray) : Av (fun k => spec_OtherPair.f k a b p) (opv a b p) := by
  unfold spec_OtherPair.f opv
  refine Av.bind (pairok_s a b p) ?_
  cases h : pok a b p with
  | false => exact Av.ifn (by decide) (Av.ret' rfl)
  | true =>
    unfold pok at h
    simp only [Bool.and_eq_true] at h
    obtain ⟨⟨h1, h2⟩, h3⟩ := h
    have e : two (⟨#[]⟩ : ByteArray) b p subm = bts (subm (bv p) 0 (bv b)) := by
      unfold two
      rw [h1, h3, rok_empty h1]
      rfl
    have hn := negrest_s b p
    rw [e] at hn
    exact Av.ifp (by decide) (Av.bind hn (Av.ret' rfl))
theorem otherpair_f (a b p : ByteArray) (hp : p.size < 281474976710656) : Av (fun k => impl_OtherPair.f k a b p) (opv a b p) := by
  unfold impl_OtherPair.f opv
  refine Av.bind (pairs_f a b p hp) ?_
  rw [prs_snd]
  cases h : pok a b p with
  | false => exact Av.ifn (by decide) (Av.ret' rfl)
  | true =>
    unfold pok at h
    simp only [Bool.and_eq_true] at h
    obtain ⟨⟨h1, h2⟩, h3⟩ := h
    obtain ⟨hgb, hgp, lb⟩ := rok_iff.1 h3
    have s2 := gok_size' hgb
    have e1 : (prs a b p).1 = D (bv p) := by unfold prs; rw [h1]; rfl
    rw [e1]
    have hl : subm (bv p) 0 (bv b) < bv p := subm_lt (by omega) lb
    exact Av.ifp (by decide) (Av.bind (natOf_f b (by omega)) (Av.bind (neg_f (bv_gb hgp) lb) (Av.bind (text_f' ((Sm.gb (bv_gb hgp)).le (Nat.le_of_lt hl))) (Av.ret' rfl))))
theorem eqpair (a b : ByteArray) : laws_eqPair.f a b a b = some true := by
  unfold laws_eqPair.f
  rw [if_pos rfl, if_pos rfl]
theorem FnExactOtherPair (a b p : ByteArray) (ha : a.size ≤ 140737488351232) (hb : b.size ≤ 140737488351232) (hp : p.size ≤ 140737488351232) : ∃ k, laws_FnExactOtherPair.f k a b p = some true := by
  refine Av.get (g := fun k => laws_FnExactOtherPair.f k a b p) ?_
  unfold laws_FnExactOtherPair.f
  by_cases cp : (p.size : Int) > 1048576
  · exact Av.ifp cp Av.ret
  obtain ⟨t, ht⟩ := szpair_some a b 1048576
  refine Av.ifn cp (Av.bindc ht ?_)
  by_cases h0 : t < 0
  · exact Av.ifp h0 Av.ret
  refine Av.ifn h0 (Av.bindc rfl ?_)
  exact Av.bind (otherpair_s a b p) (Av.bindc rfl (Av.bind (otherpair_f a b p (by omega)) (Av.bindc (eqpair _ _) (Av.ifp rfl Av.ret))))

end Go.Proofs.Ytohfimjpfnnpgaa.Pure
