/- The program's PairPrime answers what the reference's answers. Conditions: none beyond the given statement's. -/
import Derived.Test.YtohfimjpfnnpgaaYB1
import Derived.Test.YtohfimjpfnnpgaaZB5
import Derived.Test.YtohfimjpfnnpgaaZB6
set_option linter.unusedVariables false
set_option linter.unusedSimpArgs false
namespace Go.Proofs.Ytohfimjpfnnpgaa.Pure
open Go.RowKit Go.Proofs.YtohfimjpfnnpgaaW.PrintWords Go.Proofs.YtohfimjpfnnpgaaW.PrintLast Go.Proofs.YtohfimjpfnnpgaaW.PrintMore Go.Proofs.Ytohfimjpfnnpgaa.M Go.Proofs.Ytohfimjpfnnpgaa.C Go.Proofs.Ytohfimjpfnnpgaa.F

theorem bit0 (n : Nat) : n / 2 ^ 0 % 2 = n % 2 := by rw [Nat.pow_zero, Nat.div_one]
/-- Is p a prime that is taken, and 3 by 4? -/
noncomputable def ppk (p : ByteArray) : Bool := pk p && (bv p % 4 == 3)
theorem pairprime_s (p : ByteArray) : Av (fun k => spec_PairPrime.f k p) (ppk p) := by
  unfold spec_PairPrime.f ppk
  refine Av.bind (primeok_s p) ?_
  cases h : pk p with
  | false => exact Av.ifn (by decide) Av.ret
  | true =>
    have hg := (pk_iff.1 h).1
    have b0 := bitof_s p hg 0 (by decide)
    have b1 := bitof_s p hg 1 (by decide)
    rw [bit0] at b0
    rw [Nat.pow_one] at b1
    refine Av.ifp (by decide) (Av.bindc b0 ?_)
    by_cases h0 : bv p % 2 = 1
    · refine Av.ifp (by rw [h0]; rfl) (Av.bindc b1 (Av.ret' ?_))
      rw [Bool.true_and, Bool.eq_iff_iff, beq_iff_eq, beq_iff_eq]
      omega
    · refine Av.ifn (fun h2 => h0 (Int.ofNat.inj h2)) (Av.ret' ?_)
      symm
      rw [Bool.true_and, beq_eq_false_iff_ne]
      omega
theorem pairprime_f (p : ByteArray) (hp : p.size < 281474976710656) : Av (fun k => impl_PairPrime.f k p) (ppk p) := by
  unfold impl_PairPrime.f impl_pairPrime.f ppk
  refine Av.bind (a := if pk p then (D (bv p), (bv p % 4 == 3)) else ([], false)) (Av.bind (primeok_f p hp) ?_) (Av.ret' (by cases pk p <;> rfl))
  cases h : pk p with
  | false => exact Av.ifn (by simp) (Av.ret' rfl)
  | true =>
    have hn : 0 < bv p := by
      have := (pk_iff.1 h).2.pos
      exact this
    have hl : 0 < (D (bv p)).length := by rw [D_lt, Nat.pow_zero]; exact hn
    have r1 := rdD (bv p) 0
    rw [Nat.pow_zero, Nat.div_one] at r1
    have r2 : rd (D (bv p)) 0 = _ := r1
    refine Av.ifp rfl (Av.ifp (Int.ofNat_lt.2 hl) (Av.ret' ?_))
    simp only [if_true]
    rw [r2, tm (Int.natCast_nonneg _)]
    congr 1
    rw [Bool.eq_iff_iff, beq_iff_eq, beq_iff_eq]
    clear r1 r2
    omega
theorem FnExactPairPrime : laws_FnExactPairPrime.Pure := by
  intro a ha
  refine Av.get (g := fun k => laws_FnExactPairPrime.f k a) ?_
  unfold laws_FnExactPairPrime.f
  by_cases ca : (a.size : Int) > 1048576
  · exact Av.ifp ca Av.ret
  exact Av.ifn ca (Av.bind (pairprime_s a) (Av.bind (pairprime_f a (by omega)) (Av.ifn (by simp) Av.ret)))

end Go.Proofs.Ytohfimjpfnnpgaa.Pure
