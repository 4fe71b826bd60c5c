/- The program's LowInverse answers what the reference's answers. Conditions: none beyond the given statement's. -/
import Derived.Test.YtbkcchpcadlkdaaS1
import Derived.Test.YtbkcchpcadlkdaaFx7
set_option linter.unusedVariables false
set_option linter.unusedSimpArgs false
namespace Go.Proofs.Ytbkcchpcadlkdaa.Pure
open Go.RowKit Go.Proofs.YtbkcchpcadlkdaaW.PrintWords Go.Proofs.YtbkcchpcadlkdaaW.PrintLast Go.Proofs.YtbkcchpcadlkdaaW.PrintMore Go.Proofs.Ytbkcchpcadlkdaa.M Go.Proofs.Ytbkcchpcadlkdaa.C Go.Proofs.Ytbkcchpcadlkdaa.F

theorem and24i (n : Int) : Go.bits .and .i64 n 16777215 = n % 16777216 := by
  have h1 : (BitVec.ofInt 64 16777215).toNat = 2 ^ 24 - 1 := by decide
  have key : (BitVec.ofInt 64 n &&& BitVec.ofInt 64 16777215).toNat = (n % ((2 ^ 64 : Nat) : Int)).toNat % 2 ^ 24 := by
    rw [BitVec.toNat_and, BitVec.toNat_ofInt, h1, Nat.and_two_pow_sub_one_eq_mod]
  show IntKind.i64.wrap ((BitVec.ofInt 64 n &&& BitVec.ofInt 64 16777215).toNat : Nat) = n % 16777216
  rw [key, IntKind.wrap_i64]
  omega
theorem and24u {n : Int} (h0 : 0 ≤ n) (h1 : n < 18446744073709551616) : Go.bits .and .u64 n 16777215 = n % 16777216 :=
  bits_mask .u64 64 (by decide) (fun n h0 h1 => ur h0 (by simpa using h1)) 24 (by decide) n h0 (by simpa using h1)
theorem wr24 (x : Int) : wrap64 x % 16777216 = x % 16777216 := by unfold wrap64; omega
theorem uw24 (x : Int) : IntKind.u64.wrap x % 16777216 = x % 16777216 := by rw [uw]; omega
/-- One round, in both. -/
def nx (l x : Int) : Int := (x * (2 - l * x % 16777216)) % 16777216
theorem uwr (x : Int) : 0 ≤ IntKind.u64.wrap x ∧ IntKind.u64.wrap x < 18446744073709551616 := by rw [uw]; omega
theorem nx_s (l x : Int) : x * wrap64 (2 - l * x % 16777216) % 16777216 = nx l x := by
  unfold nx
  generalize l * x = z
  rw [wr (by omega) (by omega)]
theorem nx_u (n x : Int) : IntKind.u64.wrap (x * IntKind.u64.wrap (2 - IntKind.u64.wrap (n * x))) % 16777216 = nx (n % 16777216) (x % 16777216) := by
  unfold nx
  rw [uw24, ← Int.mul_emod n x]
  have e : IntKind.u64.wrap (2 - IntKind.u64.wrap (n * x)) % 16777216 = (2 - n * x % 16777216) % 16777216 := by
    rw [uw24, uw]
    generalize n * x = z
    omega
  rw [Int.mul_emod, e]
  conv => rhs; rw [Int.mul_emod, Int.emod_emod]
theorem low_end {y : Int} (h0 : 0 ≤ y) (h1 : y < 18446744073709551616) : wrap64 (Go.bits .and .u64 (IntKind.u64.wrap (-y)) 16777215) = (16777216 - y % 16777216) % 16777216 := by
  have hu := uw (-y)
  rw [and24u (by omega) (by omega), uw24, wr (by omega) (by omega)]
  omega
theorem low_loop (s l : Int) (D : List Int) (hl : l = s % 16777216) (hD : rd D 0 = s) (hp : 0 < D.length) : ∀ (d i : Nat) (x y : Int), 5 - i = d → i ≤ 5 → x = y % 16777216 → 0 ≤ y → y < 18446744073709551616 →
    ∃ r : Int, Av (fun k => spec_LowInverse.l0 k l x i) r ∧ Av (fun k => impl_LowInverse.l0 k D y i) r
  | 0, i, x, y, hd, hi, hx, h0, h1 => by
    refine ⟨(16777216 - x) % 16777216, Av.succ ?_, Av.succ ?_⟩
    · simp only [spec_LowInverse.l0]
      refine Av.ifn (by omega) (Av.ret' ?_)
      rw [and24i, wr24]
    · simp only [impl_LowInverse.l0]
      refine Av.ifn (by omega) (Av.ret' ?_)
      rw [low_end h0 h1, hx]
  | d + 1, i, x, y, hd, hi, hx, h0, h1 => by
    have i1 : 5 - (i + 1) = d := by clear hl hx h0 h1 hp; omega
    have i2 : i + 1 ≤ 5 := by clear hl hx h0 h1 hp; omega
    have i3 : (i : Int) < 5 := by clear hl hx h0 h1 hp; omega
    have hw1 : wrap64 ((i : Int) + 1) = ((i + 1 : Nat) : Int) := by clear hl hx h0 h1 hp; rw [wr (by omega) (by omega)]; omega
    have i4 : (0 : Int) < D.length := by clear hl hx h0 h1; omega
    obtain ⟨u0, u1⟩ := uwr (y * IntKind.u64.wrap (2 - IntKind.u64.wrap (s * y)))
    obtain ⟨r, h2, h3⟩ := low_loop s l D hl hD hp d (i + 1) (nx l x) (IntKind.u64.wrap (y * IntKind.u64.wrap (2 - IntKind.u64.wrap (s * y)))) i1 i2 (by rw [nx_u, hl, hx]) u0 u1
    clear hx h0 h1
    refine ⟨r, Av.succ ?_, Av.succ ?_⟩
    · simp only [spec_LowInverse.l0, hw1, and24i, wr24]
      refine Av.ifp i3 ?_
      rw [nx_s]; exact h2
    · simp only [impl_LowInverse.l0, hw1, hD]
      exact Av.ifp i3 (Av.ifp i4 h3)
theorem FnExactLowInverse : laws_FnExactLowInverse.Pure := by
  intro a0 h
  refine Av.get (g := fun k => laws_FnExactLowInverse.f k a0) ?_
  unfold laws_FnExactLowInverse.f
  by_cases hs : (a0.size : Int) > 1048576
  · exact Av.ifp hs Av.ret
  · refine Av.ifn hs ?_
    have hD := D_size a0
    have key : ∃ r : Int, Av (fun k => spec_LowInverse.f k a0) r ∧ Av (fun k => impl_LowInverse.f k a0) r := by
      unfold impl_LowInverse.f spec_LowInverse.f
      have sT : Av (fun k => spec_LowInverse.j0 k a0 true) 0 := by
        refine Av.succ ?_
        simp only [spec_LowInverse.j0]
        exact Av.ifp (by decide) Av.ret
      have iT : Av (fun k => impl_LowInverse.j0 k (D (bv a0)) true) 0 := by
        refine Av.succ ?_
        simp only [impl_LowInverse.j0]
        exact Av.ifp (by decide) Av.ret
      cases hg : gok a0 with
      | false =>
        exact ⟨0, Av.bindc (by rw [gok_s, hg]) (Av.ifn (by decide) sT), Av.bind (natOf_f a0 (by omega)) (Av.bindc (by rw [gok_f, hg]) (Av.ifn (by decide) iT))⟩
      | true =>
        have hb := bitof_s a0 hg 0 (by decide)
        rw [Nat.pow_zero, Nat.div_one] at hb
        by_cases he : bv a0 % 2 = 0
        · refine ⟨0, Av.bindc (by rw [gok_s, hg]) (Av.ifp (by decide) (Av.bindc hb ?_)), Av.bind (natOf_f a0 (by omega)) (Av.bindc (by rw [gok_f, hg]) (Av.ifp (by decide) (Av.bindc (even_f _ (by omega)) ?_)))⟩
          · rw [he]; exact sT
          · rw [he]; exact iT
        · have he1 : bv a0 % 2 = 1 := by omega
          have hp : 0 < (D (bv a0)).length := by rw [D_lt, Nat.pow_zero]; omega
          have hpE : 0 < (E (bv a0)).length := by rw [E_lt, Nat.pow_zero]; omega
          have r1 := rdD (bv a0) 0
          have r2 := rdE (bv a0) 0
          rw [Nat.pow_zero, Nat.div_one] at r1 r2
          obtain ⟨r, h2, h3⟩ := low_loop ((bv a0 % 18446744073709551616 : Nat) : Int) ((bv a0 % 16777216 : Nat) : Int) (D (bv a0)) (by omega) r1 hp 5 0 1 1 rfl (by omega) (by decide) (by decide) (by decide)
          refine ⟨r, Av.bindc (by rw [gok_s, hg]) (Av.ifp (by decide) (Av.bindc hb ?_)), Av.bind (natOf_f a0 (by omega)) (Av.bindc (by rw [gok_f, hg]) (Av.ifp (by decide) (Av.bindc (even_f _ (by omega)) ?_)))⟩
          · rw [he1]
            refine Av.succ ?_
            simp only [spec_LowInverse.j0]
            refine Av.ifn (by decide) (Av.bind (in_s a0 (by omega)) (Av.ifp (by omega) ?_))
            rw [show rd (E (bv a0)) 0 = _ from r2]; exact h2
          · rw [he1]
            refine Av.succ ?_
            simp only [impl_LowInverse.j0]
            exact Av.ifn (by decide) h3
    obtain ⟨r, k1, k2⟩ := key
    exact Av.bind k1 (Av.bind k2 (Av.ifp rfl Av.ret))

end Go.Proofs.Ytbkcchpcadlkdaa.Pure
