/- Words and contracts that the laws of this claim lean on: numbers as limbs, and what the functions make of them. Conditions: those named in each theorem. -/
import Derived.Test.YtghhnjhjhjbljaaVEOwnWords
import Derived.Test.YtghhnjhjhjbljaaYE0
import Derived.Test.YtghhnjhjhjbljaaZE0
import Derived.Test.YtghhnjhjhjbljaaZE2
import Derived.Test.YtghhnjhjhjbljaaZE3
import Derived.Test.YtghhnjhjhjbljaaZE4
import Derived.Test.YtghhnjhjhjbljaaZE6
set_option linter.unusedVariables false
set_option linter.unusedSimpArgs false
set_option maxRecDepth 100000
namespace Go.Proofs.Ytghhnjhjhjbljaa.C
open Go.RowKit Go.Proofs.YtghhnjhjhjbljaaW.PrintWords Go.Proofs.YtghhnjhjhjbljaaW.PrintLast Go.Proofs.YtghhnjhjhjbljaaW.PrintMore
open Go.Proofs.Ytghhnjhjhjbljaa.M Go.Proofs.Ytghhnjhjhjbljaa.F
theorem mul_s_in (a b : Nat) (i : Nat) (r : List Int) (v : Int) (L : Nat) (hi : i < (E a).length) (hiL : (E a).length + (E b).length < 17592186044416) (hL : L = (E a).length + (E b).length)
    (fin : ∀ (l : List Int) (c : Nat), Up24 l L (i + (E b).length) (v + (a / 16777216 ^ i % 16777216 : Nat) * b * 16777216 ^ i - c * 16777216 ^ (i + (E b).length)) → c < 16777216 →
      Av (fun k => spec_l02Mul.l0 k (E a) (E b) (l.set (i + (E b).length) c) ((i + 1 : Nat) : Int)) r) : ∀ (d m c : Nat) (l : List Int), (E b).length - m = d → m ≤ (E b).length → c < 16777216 → Up24 l L (i + (E b).length) (v + (a / 16777216 ^ i % 16777216 : Nat) * (b % 16777216 ^ m : Nat) * 16777216 ^ i - c * 16777216 ^ (i + m)) →
    Av (fun k => spec_l02Mul.l1 k (E a) (E b) l i c m) r
  | 0, m, c, l, hd, hm, hc, h => by
    obtain rfl : m = (E b).length := by omega
    have e : wrap64 ((i : Int) + (E b).length) = ((i + (E b).length : Nat) : Int) := wrap_add (by omega)
    have e1 : wrap64 ((i : Int) + 1) = ((i + 1 : Nat) : Int) := wrap_one (by omega)
    have i5 : ((i + (E b).length : Nat) : Int) < l.length := by rw [h.len]; omega
    refine Av.succ ?_
    simp only [spec_l02Mul.l1, e, e1, Int.toNat_natCast]
    refine Av.ifn (by omega) (Av.ifp (Int.natCast_nonneg _) (Av.ifp i5 ?_))
    refine fin l c ?_ hc
    rw [mod_full _ b (by decide) (Nat.le_refl _)] at h
    exact h
  | d + 1, m, c, l, hd, hm, hc, h => by
    have i1 : i + m < l.length := by rw [h.len]; omega
    have i2 : i + m < i + (E b).length := by omega
    have i3 : (E b).length - (m + 1) = d := by omega
    have i4 : m + 1 ≤ (E b).length := by omega
    have i6 : ((i + m : Nat) : Int) < l.length := Int.ofNat_lt.2 i1
    have i7 : (m : Int) < (E b).length := by omega
    have i8 : (i : Int) < (E a).length := by omega
    have e : wrap64 ((i : Int) + m) = ((i + m : Nat) : Int) := wrap_add (by omega)
    have e1 : wrap64 ((m : Int) + 1) = ((m + 1 : Nat) : Int) := wrap_one (by omega)
    have hx : a / 16777216 ^ i % 16777216 < 16777216 := Nat.mod_lt _ (by decide)
    have hy : b / 16777216 ^ m % 16777216 < 16777216 := Nat.mod_lt _ (by decide)
    have hs := mod_step 16777216 b m
    have r1 := rdE a i
    have r2 := rdE b m
    have hob := digs_getD h.digs (by decide) (i + m)
    obtain ⟨o, hoe⟩ := Int.eq_ofNat_of_zero_le hob.1
    have r3 : rd l ((i + m : Nat) : Int) = (o : Int) := by unfold rd; rw [Int.toNat_natCast]; exact hoe
    have ho2 : o < 16777216 := by rw [hoe] at hob; exact Int.ofNat_lt.1 hob.2
    refine Av.succ ?_
    simp only [spec_l02Mul.l1, e, e1, r1, r2, r3, Int.toNat_natCast]
    refine Av.ifp i7 (Av.ifp (Int.natCast_nonneg _) (Av.ifp i6 (Av.ifp (Int.natCast_nonneg _) (Av.ifp i8 (Av.ifp (Int.natCast_nonneg _) ?_)))))
    generalize b / 16777216 ^ m % 16777216 = y at *
    have fin' := mul_s_in a b i r v L hi hiL hL fin d (m + 1)
    generalize a / 16777216 ^ i % 16777216 = x at *
    obtain ⟨t, q, f1, f2, ht, hq, he⟩ := mac24 hx hy ho2 hc
    rw [f1, f2]
    refine fin' q _ i3 i4 hq ⟨by rw [List.length_set]; exact h.len, digs_set h.digs (below_nat ht), ?_, ?_⟩
    · have e6 : ((16777216 : Nat) : Int) = 16777216 := rfl
      rw [vl_set _ _ _ _ i1, h.val, hs, hoe]
      simp only [e6]
      rw [← Nat.add_assoc, Int.pow_succ, Int.pow_add]
      try simp only [Int.ofNat_eq_natCast]
      exact ring_mac24 _ _ _ _ _ _ _ _ _ _ _ he
    · intro j hj
      rw [getD_set i1, if_neg (Nat.ne_of_lt (Nat.lt_of_lt_of_le i2 hj))]
      exact h.zero j hj
theorem mul_s_loop (a b : Nat) (hl : (E a).length + (E b).length < 17592186044416) : ∀ (d i : Nat) (l : List Int), (E a).length - i = d → i ≤ (E a).length → Up24 l ((E a).length + (E b).length) (i + (E b).length) (((a % 16777216 ^ i : Nat) : Int) * b) →
    Av (fun k => spec_l02Mul.l0 k (E a) (E b) l i) (E (a * b))
  | 0, i, l, hd, hi, h => by
    obtain rfl : i = (E a).length := by omega
    refine Av.succ ?_
    simp only [spec_l02Mul.l0]
    refine Av.ifn (by omega) (Av.bind ?_ Av.ret)
    refine trim_s' h.digs (by rw [h.len]; omega) ?_
    rw [h.val, mod_full _ a (by decide) (Nat.le_refl _)]
    simp
  | d + 1, i, l, hd, hi, h => by
    have i1 : (i : Int) < (E a).length := by omega
    have i2 : i < (E a).length := by omega
    have i3 : (E a).length - (i + 1) = d := by omega
    have i4 : i + (E b).length < (E a).length + (E b).length := by omega
    refine Av.succ ?_
    simp only [spec_l02Mul.l0]
    refine Av.ifp i1 ?_
    refine mul_s_in a b i _ (((a % 16777216 ^ i : Nat) : Int) * b) _ i2 hl rfl ?_ _ 0 0 l rfl (Nat.zero_le _) (by decide) ?_
    · intro l2 c h2 hc
      have h3 : i + (E b).length < l2.length := by rw [h2.len]; exact i4
      have e2 : i + 1 + (E b).length = i + (E b).length + 1 := by omega
      refine mul_s_loop a b hl d (i + 1) _ i3 i2 ⟨by rw [List.length_set]; exact h2.len, digs_set h2.digs (below_nat hc), ?_, ?_⟩
      · rw [vl_set0 _ h3 (h2.zero _ (Nat.le_refl _)), h2.val, mod_step]
        have e6 : ((16777216 : Nat) : Int) = 16777216 := rfl
        simp only [e6]
        grind
      · intro j hj
        rw [getD_set h3, if_neg (by omega)]
        exact h2.zero j (by omega)
    · rw [Nat.pow_zero, Nat.mod_one]
      have e : ((a % 16777216 ^ i : Nat) : Int) * b + ((a / 16777216 ^ i % 16777216 : Nat) : Int) * ((0 : Nat) : Int) * 16777216 ^ i - ((0 : Nat) : Int) * 16777216 ^ (i + 0) = ((a % 16777216 ^ i : Nat) : Int) * b := by simp
      rw [e]; exact h
theorem mul_s (a b : Nat) (hl : (E a).length + (E b).length < 17592186044416) : Av (fun k => spec_l02Mul.f k (E a) (E b)) (E (a * b)) := by
  unfold spec_l02Mul.f
  have e : wrap64 (((E a).length : Int) + (E b).length) = (((E a).length + (E b).length : Nat) : Int) := wrap_add (by omega)
  simp only [e, Int.toNat_natCast]
  refine Av.ifp (by omega) (Av.ifp (by omega) ?_)
  have h := mul_s_loop a b hl _ 0 (List.replicate ((E a).length + (E b).length) 0) rfl (Nat.zero_le _) (by
    rw [Nat.pow_zero, Nat.mod_one]
    have := (Up24.start ((E a).length + (E b).length)).more (j := 0 + (E b).length) (Nat.zero_le _)
    simpa using this)
  exact h
/-- How many bits a number has. -/
def nb (n : Nat) : Nat := (dg 2 n).length
theorem nb_lt (j n : Nat) : j < nb n ↔ 2 ^ j ≤ n := dg_length_lt (by decide) j n
theorem nb_le (j n : Nat) : nb n ≤ j ↔ n < 2 ^ j := dg_length_le (by decide) j n
theorem nb_div (n s : Nat) : nb (n / 2 ^ s) = nb n - s := by
  have h : ∀ j, j < nb (n / 2 ^ s) ↔ j + s < nb n := fun j => by
    rw [nb_lt, nb_lt, Nat.le_div_iff_mul_le (Nat.pow_pos (by decide)), ← Nat.pow_add]
  have h1 := h (nb (n / 2 ^ s))
  have h2 := h (nb n - s)
  by_cases h0 : nb (n / 2 ^ s) = 0
  · omega
  · have h3 := h (nb (n / 2 ^ s) - 1)
    omega
theorem nb_up {n s : Nat} (h : 2 ^ s ≤ n) : nb n = nb (n / 2 ^ s) + s := by
  have := nb_div n s
  have := (nb_lt s n).2 h
  omega
def lenTab : ByteArray := ⟨#[0, 1, 2, 2, 3, 3, 3, 3, 4, 4, 4, 4, 4, 4, 4, 4, 5, 5, 5, 5, 5, 5, 5, 5, 5, 5, 5, 5, 5, 5, 5, 5, 6, 6, 6, 6, 6, 6, 6, 6, 6, 6, 6, 6, 6, 6, 6, 6, 6, 6, 6, 6, 6, 6, 6, 6, 6, 6, 6, 6, 6, 6, 6, 6, 7, 7, 7, 7, 7, 7, 7, 7, 7, 7, 7, 7, 7, 7, 7, 7, 7, 7, 7, 7, 7, 7, 7, 7, 7, 7, 7, 7, 7, 7, 7, 7, 7, 7, 7, 7, 7, 7, 7, 7, 7, 7, 7, 7, 7, 7, 7, 7, 7, 7, 7, 7, 7, 7, 7, 7, 7, 7, 7, 7, 7, 7, 7, 7, 8, 8, 8, 8, 8, 8, 8, 8, 8, 8, 8, 8, 8, 8, 8, 8, 8, 8, 8, 8, 8, 8, 8, 8, 8, 8, 8, 8, 8, 8, 8, 8, 8, 8, 8, 8, 8, 8, 8, 8, 8, 8, 8, 8, 8, 8, 8, 8, 8, 8, 8, 8, 8, 8, 8, 8, 8, 8, 8, 8, 8, 8, 8, 8, 8, 8, 8, 8, 8, 8, 8, 8, 8, 8, 8, 8, 8, 8, 8, 8, 8, 8, 8, 8, 8, 8, 8, 8, 8, 8, 8, 8, 8, 8, 8, 8, 8, 8, 8, 8, 8, 8, 8, 8, 8, 8, 8, 8, 8, 8, 8, 8, 8, 8, 8, 8, 8, 8, 8, 8, 8, 8, 8, 8, 8, 8, 8, 8]⟩
theorem lenTab_all : ∀ i : Fin 256, bt lenTab (i.val : Int) = (nb i.val : Int) := by decide +kernel
theorem lenTab_at {x : Int} {n : Nat} (h : x = n) (hn : n < 256) : bt lenTab x = (nb n : Int) := by subst h; exact lenTab_all ⟨n, hn⟩
theorem nb_lt_256 {n : Nat} (h : n < 256) : nb n ≤ 8 := (nb_le 8 n).2 (by omega)
set_option maxRecDepth 100000 in
theorem len_j0 (x c : Nat) (hx : x < 4294967296) (hc : c ≤ 32) : Av (fun k => bits_Len64.j0 k x c) ((nb x + c : Nat) : Int) := by
  refine Av.succ ?_
  simp only [bits_Len64.j0]
  by_cases h1 : 65536 ≤ x
  · refine Av.ifp (by omega) ?_
    have e1 := nb_up (s := 16) (show 2 ^ 16 ≤ x by omega)
    by_cases h2 : 16777216 ≤ x
    · refine Av.ifp (by omega) (Av.ifp (by omega) (Av.ifp (by omega) (Av.ret' ?_)))
      have e2 := nb_up (n := x / 2 ^ 16) (s := 8) (by omega)
      have hl := nb_lt_256 (n := x / 2 ^ 16 / 2 ^ 8) (by omega)
      show wrap64 (wrap64 (wrap64 ((c : Int) + 16) + 8) + wrap64 (bt lenTab _)) = _
      rw [lenTab_at (n := x / 2 ^ 16 / 2 ^ 8) (by omega) (by omega), wr (x := (nb _ : Int)) (by omega) (by omega), wr (x := (c : Int) + 16) (by omega) (by omega), wr (x := (c : Int) + 16 + 8) (by omega) (by omega), wr (by omega) (by omega)]
      omega
    · refine Av.ifn (by omega) (Av.ifp (by omega) (Av.ifp (by omega) (Av.ret' ?_)))
      have hl := nb_lt_256 (n := x / 2 ^ 16) (by omega)
      show wrap64 (wrap64 ((c : Int) + 16) + wrap64 (bt lenTab _)) = _
      rw [lenTab_at (n := x / 2 ^ 16) (by omega) (by omega), wr (x := (nb _ : Int)) (by omega) (by omega), wr (x := (c : Int) + 16) (by omega) (by omega), wr (by omega) (by omega)]
      omega
  · refine Av.ifn (by omega) ?_
    by_cases h2 : 256 ≤ x
    · refine Av.ifp (by omega) (Av.ifp (by omega) (Av.ifp (by omega) (Av.ret' ?_)))
      have e2 := nb_up (n := x) (s := 8) (by omega)
      have hl := nb_lt_256 (n := x / 2 ^ 8) (by omega)
      show wrap64 (wrap64 ((c : Int) + 8) + wrap64 (bt lenTab _)) = _
      rw [lenTab_at (n := x / 2 ^ 8) (by omega) (by omega), wr (x := (nb _ : Int)) (by omega) (by omega), wr (x := (c : Int) + 8) (by omega) (by omega), wr (by omega) (by omega)]
      omega
    · refine Av.ifn (by omega) (Av.ifp (by omega) (Av.ifp (by omega) (Av.ret' ?_)))
      have hl := nb_lt_256 (n := x) (by omega)
      show wrap64 ((c : Int) + wrap64 (bt lenTab _)) = _
      rw [lenTab_at (n := x) (by omega) (by omega), wr (x := (nb _ : Int)) (by omega) (by omega), wr (by omega) (by omega)]
      omega
theorem len_f (x : Nat) (hx : x < 18446744073709551616) : Av (fun k => bits_Len64.f k x) (nb x : Int) := by
  unfold bits_Len64.f
  by_cases h : 4294967296 ≤ x
  · refine Av.ifp (by omega) ?_
    have e1 := nb_up (s := 32) (show 2 ^ 32 ≤ x by omega)
    have := len_j0 (x / 2 ^ 32) 32 (by omega) (by omega)
    rw [← e1] at this
    have e : (x : Int) / 4294967296 = ((x / 2 ^ 32 : Nat) : Int) := by omega
    rw [e]
    exact this
  · refine Av.ifn (by omega) ?_
    exact len_j0 x 0 (by omega) (by omega)
theorem lz_f (x : Nat) (hx : x < 18446744073709551616) : Av (fun k => bits_LeadingZeros64.f k x) (64 - (nb x : Int)) := by
  unfold bits_LeadingZeros64.f
  refine Av.bind (len_f x hx) (Av.ret' ?_)
  have := (nb_le 64 x).2 (by omega)
  rw [wr (by omega) (by omega)]
theorem W_pow (q : Nat) : (18446744073709551616 : Nat) ^ q = 2 ^ (64 * q) := by rw [Nat.pow_mul]
theorem size_f (n : Nat) (h : (D n).length < 4611686018427387) : Av (fun k => impl_nat_size.f k (D n)) (nb n : Int) := by
  unfold impl_nat_size.f
  by_cases h0 : n = 0
  · subst h0
    refine Av.ifp (by simp [dg_zero]) (Av.ret' (by simp [nb, dg_zero]))
  · have hl : 0 < (D n).length := by rw [D_lt]; simp; omega
    have hlo := (D_lt ((D n).length - 1) n).1 (by omega)
    have hhi := (D_le (D n).length n).1 (Nat.le_refl _)
    have hr : rd (D n) (((D n).length : Int) - 1) = ((n / 2 ^ (64 * ((D n).length - 1)) : Nat) : Int) := by
      have e : ((D n).length : Int) - 1 = (((D n).length - 1 : Nat) : Int) := by omega
      rw [e, rdD, W_pow]
      congr 1
      apply Nat.mod_eq_of_lt
      rw [Nat.div_lt_iff_lt_mul (Nat.pow_pos (by decide))]
      have e2 : (D n).length = (D n).length - 1 + 1 := by omega
      rw [e2, Nat.pow_succ, Nat.mul_comm, W_pow] at hhi
      exact hhi
    rw [W_pow] at hlo
    have hn := nb_up hlo
    have hlt : n / 2 ^ (64 * ((D n).length - 1)) < 18446744073709551616 := by
      rw [Nat.div_lt_iff_lt_mul (Nat.pow_pos (by decide))]
      have e2 : (D n).length = (D n).length - 1 + 1 := by omega
      rw [e2, Nat.pow_succ, Nat.mul_comm, W_pow] at hhi
      exact hhi
    refine Av.ifn (by omega) ?_
    simp (disch := omega) only [wr, if_pos, hr]
    refine Av.bind (lz_f _ hlt) (Av.ret' ?_)
    have := (nb_le 64 (n / 2 ^ (64 * ((D n).length - 1)))).2 (by omega)
    rw [wr (by omega) (by omega)]
    omega
theorem mod_div_mod {b : Nat} (hb : 0 < b) (x : Nat) {t r : Nat} (h : r < t) : x % b ^ t / b ^ r % b = x / b ^ r % b := by
  have e : b ^ t = b ^ r * b ^ (t - r) := by rw [← Nat.pow_add]; congr 1; omega
  rw [e, Nat.mod_mul_right_div_self]
  apply Nat.mod_mod_of_dvd
  have : t - r = t - r - 1 + 1 := by omega
  rw [this, Nat.pow_succ]
  exact Nat.dvd_mul_left _ _
/-- The lesser digits inside a digit. -/
theorem dig_sub {b : Nat} (hb : 0 < b) (n t q : Nat) {r : Nat} (h : r < t) : n / (b ^ t) ^ q % b ^ t / b ^ r % b = n / b ^ (t * q + r) % b := by
  rw [mod_div_mod hb _ h, Nat.div_div_eq_div_mul, ← Nat.pow_mul, ← Nat.pow_add]
theorem and1 {k : Int} (h0 : 0 ≤ k) (h1 : k < 18446744073709551616) : Go.bits .and .u64 k 1 = k % 2 :=
  bits_mask .u64 64 (by decide) (fun n h0 h1 => ur h0 (by simpa using h1)) 1 (by decide) k h0 (by simpa using h1)
theorem natCast_div_pow (a j : Nat) : ((a : Int) / 2 ^ j) = ((a / 2 ^ j : Nat) : Int) := by
  have e : (2 : Int) ^ j = ((2 ^ j : Nat) : Int) := by simp
  rw [e]; rfl
theorem bit_f (n j : Nat) (h : (D n).length < 100000000000000000) (hj : j < 9223372036854775808) : impl_nat_bit.f (D n) j = some ((n / 2 ^ j % 2 : Nat) : Int) := by
  unfold impl_nat_bit.f
  rw [if_neg (by omega), wr (x := 64 * _) (by omega) (by omega)]
  by_cases hb : 64 * (D n).length ≤ j
  · rw [if_pos (by omega)]
    have hhi := (D_le (D n).length n).1 (Nat.le_refl _)
    rw [W_pow] at hhi
    have : n < 2 ^ j := Nat.lt_of_lt_of_le hhi (Nat.pow_le_pow_right (by decide) hb)
    rw [Nat.div_eq_of_lt this]; rfl
  · rw [if_neg (by omega)]
    simp (disch := omega) only [td, tm, wr, if_pos]
    congr 1
    have e1 : (j : Int) / 64 = ((j / 64 : Nat) : Int) := by omega
    have e2 : min ((j : Int) % 64).toNat IntKind.u64.bits = j % 64 := by simp only [IntKind.bits]; omega
    unfold shr
    rw [e1, rdD, e2]
    have e3 := natCast_div_pow (n / 18446744073709551616 ^ (j / 64) % 18446744073709551616) (j % 64)
    have hlt : n / 18446744073709551616 ^ (j / 64) % 18446744073709551616 / 2 ^ (j % 64) < 18446744073709551616 :=
      Nat.lt_of_le_of_lt (Nat.div_le_self _ _) (Nat.mod_lt _ (by decide))
    rw [e3, and1 (Int.natCast_nonneg _) (by have := Int.ofNat_lt.2 hlt; exact this)]
    have h4 := dig_sub (b := 2) (by decide) n 64 (j / 64) (r := j % 64) (by omega)
    have e5 : 64 * (j / 64) + j % 64 = j := by omega
    rw [e5] at h4
    have e6 : (2 : Nat) ^ 64 = 18446744073709551616 := rfl
    rw [e6] at h4
    rw [← h4]
    omega
theorem even_f (n : Nat) (h : (D n).length < 100000000000000000) : impl_nat_even.f (D n) = some (n % 2 == 0) := by
  unfold impl_nat_even.f
  have := bit_f n 0 h (by omega)
  simp only [Int.natCast_zero] at this
  have e : (((0 : Nat) : Int)) = 0 := rfl
  rw [show impl_nat_bit.f (D n) 0 = some ((n / 2 ^ 0 % 2 : Nat) : Int) from this]
  simp only [Option.bind_some, Nat.pow_zero, Nat.div_one]
  congr 1
  rw [Bool.eq_iff_iff]
  simp
  omega
theorem bytes_of_bits (n : Nat) : (dg 256 n).length = (nb n + 7) / 8 := by
  have h : ∀ j, j < (dg 256 n).length ↔ 8 * j < nb n := fun j => by
    rw [dg_length_lt (by decide), nb_lt, Nat.pow_mul]
  have h1 := h (dg 256 n).length
  by_cases h0 : (dg 256 n).length = 0
  · have := h 0; omega
  · have := h ((dg 256 n).length - 1)
    omega
theorem text_loop (n : Nat) (h : (D n).length < 17592186044416) : ∀ m : Nat, m ≤ (dg 256 n).length → Av (fun k => impl_nat_text.l0 k (D n) ((dg 256 n).drop m).reverse m) (bts n)
  | 0, _ => by
    refine Av.succ ?_
    simp only [impl_nat_text.l0]
    refine Av.ifn (by omega) (Av.ret' ?_)
    simp [bts]
  | m + 1, hm => by
    refine Av.succ ?_
    simp only [impl_nat_text.l0]
    have hb : (dg 256 n).length ≤ 8 * (D n).length := by
      rw [dg_length_le (by decide), Nat.pow_mul]
      exact (D_le _ n).1 (Nat.le_refl _)
    have e1 : (((m + 1 : Nat) : Int) - 1) = m := by omega
    rw [e1]
    simp (disch := omega) only [wr, td, tm, if_pos]
    have hlen : (((dg 256 n).drop (m + 1)).reverse).length ≤ (dg 256 n).length := by rw [List.length_reverse, List.length_drop]; omega
    refine Av.ifp (by omega) ?_
    have e2 : shr .u64 (rd (D n) ((m : Int) / 8)) (8 * ((m : Int) % 8)) % 256 = (dg 256 n)[m]'(by omega) := by
      have e3 : (m : Int) / 8 = ((m / 8 : Nat) : Int) := by omega
      have e4 : min (8 * ((m : Int) % 8)).toNat IntKind.u64.bits = 8 * (m % 8) := by simp only [IntKind.bits]; omega
      unfold shr
      rw [e3, rdD, e4]
      have e5 := natCast_div_pow (n / 18446744073709551616 ^ (m / 8) % 18446744073709551616) (8 * (m % 8))
      rw [e5]
      have h4 := dig_sub (b := 256) (by decide) n 8 (m / 8) (r := m % 8) (by omega)
      have e6 : 8 * (m / 8) + m % 8 = m := by omega
      have e7 : (256 : Nat) ^ 8 = 18446744073709551616 := rfl
      have e8 : (2 : Nat) ^ (8 * (m % 8)) = 256 ^ (m % 8) := by rw [Nat.pow_mul]
      rw [e6, e7] at h4
      rw [e8]
      have h9 := dg_getD (B := 256) (by decide) m n
      rw [List.getD_eq_getElem?_getD, List.getElem?_eq_getElem (by omega)] at h9
      simp only [Option.getD_some] at h9
      rw [h9, ← h4]
      omega
    rw [e2]
    have e9 : ((dg 256 n).drop (m + 1)).reverse ++ [(dg 256 n)[m]'(by omega)] = ((dg 256 n).drop m).reverse := by
      rw [List.drop_eq_getElem_cons (show m < (dg 256 n).length by omega), List.reverse_cons]
    rw [e9]
    exact text_loop n h m (by omega)
theorem text_f (n : Nat) (h : (D n).length < 1759218604441) : Av (fun k => impl_nat_text.f k (D n)) (bts n) := by
  unfold impl_nat_text.f
  refine Av.bind (size_f n (by omega)) ?_
  have hb : (dg 256 n).length ≤ 8 * (D n).length := by
    rw [dg_length_le (by decide), Nat.pow_mul]
    exact (D_le _ n).1 (Nat.le_refl _)
  have hn := bytes_of_bits n
  simp (disch := omega) only [wr, td]
  have e : ((nb n : Int) + 7) / 8 = (((dg 256 n).length : Nat) : Int) := by omega
  rw [e]
  have := text_loop n (by omega) (dg 256 n).length (Nat.le_refl _)
  rw [List.drop_length, List.reverse_nil] at this
  exact this
theorem out_drop {b : List Int} {n : Nat} (hb : Digs 256 b) (hv : vl 256 b.reverse = n) (hbig : b.length < 9223372036854775807) : ∀ (d j : Nat), b.length - j = d → j ≤ b.length → vl 256 (b.reverse.take (b.length - j)) = n → Av (fun k => spec_l02Out.l1 k b j) (bts n)
  | 0, j, hd, hj, hz => by
    refine Av.succ ?_
    simp only [spec_l02Out.l1]
    simp (disch := omega) only [if_pos, if_neg]
    refine Av.ret' ?_
    have e : b.length = j := by omega
    have h0 : n = 0 := by rw [hd] at hz; simp [vl] at hz; omega
    subst h0
    rw [Int.toNat_natCast, ← e, List.drop_length]
    rfl
  | d + 1, j, hd, hj, hz => by
    refine Av.succ ?_
    simp only [spec_l02Out.l1]
    simp (disch := omega) only [if_pos]
    have hr : rd b j = b.reverse.getD (b.length - j - 1) 0 := by
      unfold rd
      rw [Int.toNat_natCast, List.getD_eq_getElem?_getD, List.getD_eq_getElem?_getD, List.getElem?_reverse (by omega)]
      congr 2; omega
    by_cases h0 : b.reverse.getD (b.length - j - 1) 0 = 0
    · refine Av.ifp (by rw [hr, h0]) ?_
      have e : (j : Int) + 1 = ((j + 1 : Nat) : Int) := by omega
      rw [wr (by omega) (by omega), e]
      refine out_drop hb hv hbig d (j + 1) (by omega) (by omega) ?_
      have h1 := vl_take_succ 256 b.reverse (b.length - j - 1)
      rw [h0, Int.mul_zero, Int.add_zero] at h1
      have e3 : b.length - j - 1 + 1 = b.length - j := by omega
      have e4 : b.length - (j + 1) = b.length - j - 1 := by omega
      rw [e4, ← h1, e3]
      exact hz
    · refine Av.ifn (by rw [hr]; exact h0) ?_
      refine Av.ret' ?_
      have h1 := take_is_dg (B := 256) (by decide) (digs_reverse.2 hb) (b.length - j) (by simp) (.inr h0)
      rw [hz, Int.toNat_natCast] at h1
      unfold bts
      rw [← h1, Int.toNat_natCast]
      congr 1
      rw [List.take_reverse, List.reverse_reverse]
      congr 1; omega
theorem out_loop (n : Nat) (hl : (E n).length < 17592186044416) : ∀ (d i : Nat) (b : List Int), (E n).length - i = d → i ≤ (E n).length → b.length = 3 * (E n).length → Digs 256 b → (∀ m, m < 3 * i → b.getD (3 * (E n).length - 1 - m) 0 = ((n / 256 ^ m % 256 : Nat) : Int)) → Av (fun k => spec_l02Out.l0 k (E n) b i) (bts n)
  | 0, i, b, hd, hi, hb, hdg, hv => by
    refine Av.succ ?_
    simp only [spec_l02Out.l0]
    refine Av.ifn (by omega) ?_
    have hE := (E_le (E n).length n).1 (Nat.le_refl _)
    have e : (16777216 : Nat) = 256 ^ 3 := rfl
    rw [e, ← Nat.pow_mul] at hE
    have hvl : vl 256 b.reverse = n := by
      apply vl_of_getD (by decide)
      · rw [List.length_reverse, hb]; exact hE
      · intro j hj
        rw [List.length_reverse] at hj
        rw [← hv j (by omega), List.getD_eq_getElem?_getD, List.getD_eq_getElem?_getD, List.getElem?_reverse hj]
        congr 2; omega
    exact out_drop hdg hvl (by omega) b.length 0 rfl (by omega) (by rw [Nat.sub_zero, ← List.length_reverse, List.take_length]; exact hvl)
  | d + 1, i, b, hd, hi, hb, hdg, hv => by
    refine Av.succ ?_
    simp only [spec_l02Out.l0]
    simp (disch := omega) only [wr, if_pos]
    have hE := rdE n i
    generalize hY : n / 16777216 ^ i = Y at hE
    have e : (16777216 : Nat) ^ i = 256 ^ (3 * i) := by rw [Nat.pow_mul]
    rw [e] at hY
    have k1 : ((b.length : Int) - 3 * i - 1).toNat = 3 * (E n).length - 1 - 3 * i := by omega
    have k2 : ((b.length : Int) - 3 * i - 2).toNat = 3 * (E n).length - 1 - (3 * i + 1) := by omega
    have k3 : ((b.length : Int) - 3 * i - 3).toNat = 3 * (E n).length - 1 - (3 * i + 2) := by omega
    rw [k1, k2, k3, hE]
    have e4 : (i : Int) + 1 = ((i + 1 : Nat) : Int) := by omega
    rw [e4]
    have y0 : n / 256 ^ (3 * i) % 256 = Y % 256 := by rw [hY]
    have y1 : n / 256 ^ (3 * i + 1) % 256 = Y / 256 % 256 := by rw [Nat.pow_succ, ← Nat.div_div_eq_div_mul, hY]
    have y2 : n / 256 ^ (3 * i + 2) % 256 = Y / 65536 % 256 := by
      rw [Nat.pow_add, ← Nat.div_div_eq_div_mul, hY]
    refine out_loop n hl d (i + 1) _ (by omega) (by omega) (by simp [hb]) (digs_set (digs_set (digs_set hdg (by omega)) (by omega)) (by omega)) ?_
    intro m hm
    rw [getD_set (by simp [hb]; omega), getD_set (by simp [hb]; omega), getD_set (by simp [hb]; omega)]
    by_cases c3 : m = 3 * i + 2
    · subst c3; rw [if_pos rfl, y2]; omega
    · rw [if_neg (by omega)]
      by_cases c2 : m = 3 * i + 1
      · subst c2; rw [if_pos rfl, y1]; omega
      · rw [if_neg (by omega)]
        by_cases c1 : m = 3 * i
        · subst c1; rw [if_pos rfl, y0]; omega
        · rw [if_neg (by omega)]
          exact hv m (by omega)
theorem out_s (n : Nat) (hl : (E n).length < 1759218604441) : Av (fun k => spec_l02Out.f k (E n)) (bts n) := by
  unfold spec_l02Out.f
  simp (disch := omega) only [wr, if_pos]
  have e : (3 * ((E n).length : Int)).toNat = 3 * (E n).length := by omega
  rw [e]
  have := out_loop n (by omega) (E n).length 0 (List.replicate (3 * (E n).length) 0) (by omega) (by omega) (by simp) (digs_zeros (by decide) _) (fun m hm => by omega)
  exact this
/-- A number small enough for everything here. -/
def Sm (n : Nat) : Prop := (D n).length < 1000000 ∧ (E n).length < 1000000
theorem D_of {n j : Nat} (h : n < 256 ^ j) : (D n).length ≤ j := (D_le _ _).2 (Nat.lt_of_lt_of_le h (Nat.pow_le_pow_left (by decide) _))
theorem E_of {n j : Nat} (h : n < 256 ^ j) : (E n).length ≤ j := (E_le _ _).2 (Nat.lt_of_lt_of_le h (Nat.pow_le_pow_left (by decide) _))
theorem Sm.of {n j : Nat} (h : n < 256 ^ j) (hj : j < 1000000) : Sm n := ⟨Nat.lt_of_le_of_lt (D_of h) hj, Nat.lt_of_le_of_lt (E_of h) hj⟩
theorem Sm.le {m n : Nat} (h : Sm n) (hm : m ≤ n) : Sm m := ⟨Nat.lt_of_le_of_lt (D_mono hm) h.1, Nat.lt_of_le_of_lt (E_mono hm) h.2⟩
theorem Sm.gb {n : Nat} (h : n < GB) : Sm n := Sm.of h (by decide)
theorem Sm.add {a b : Nat} (ha : a < GB) (hb : b < GB) : Sm (a + b) := Sm.of (j := 161) (by
  have : GB + GB ≤ 256 ^ 161 := by decide
  omega) (by decide)
theorem bv_gb {s : ByteArray} (h : gok s = true) : bv s < GB := by
  obtain ⟨n, hn, rfl⟩ := gok_cases h
  rw [bv_bts]; exact hn
theorem bts_of {s : ByteArray} (h : gok s = true) : bts (bv s) = s := by
  obtain ⟨n, hn, rfl⟩ := gok_cases h
  rw [bv_bts]
theorem cmp_f' {a b : Nat} (ha : Sm a) (hb : Sm b) : Av (fun k => impl_nat_cmp.f k (D a) (D b)) (cmpv a b) := cmp_f a b (by have := ha.1; omega) (by have := hb.1; omega)
theorem cmp_s' {a b : Nat} (ha : Sm a) (hb : Sm b) : Av (fun k => spec_l02Cmp.f k (E a) (E b)) (sgn a b) := cmp_s a b (by have := ha.2; omega) (by have := hb.2; omega)
theorem sgn_neg {a b : Nat} : sgn a b < 0 ↔ a < b := by unfold sgn; repeat' split
                                                        all_goals omega
theorem text_f' {a : Nat} (ha : Sm a) : Av (fun k => impl_nat_text.f k (D a)) (bts a) := text_f a (by have := ha.1; omega)
theorem out_s' {a : Nat} (ha : Sm a) : Av (fun k => spec_l02Out.f k (E a)) (bts a) := out_s a (by have := ha.2; omega)
/-- Is a's number a rest of p's? -/
def rok (a p : ByteArray) : Bool := gok a && gok p && decide (bv a < bv p)
theorem rok_iff {a p : ByteArray} : rok a p = true ↔ gok a = true ∧ gok p = true ∧ bv a < bv p := by simp [rok, and_assoc]
theorem restok_s (a p : ByteArray) : Av (fun k => spec_RestOk.f k a p) (rok a p) := by
  unfold spec_RestOk.f rok
  refine Av.bindc (gok_s a) ?_
  cases ha : gok a with
  | false => exact Av.ifn (by decide) Av.ret
  | true =>
    refine Av.ifp (by decide) (Av.bindc (gok_s p) ?_)
    cases hp : gok p with
    | false => exact Av.ifn (by decide) Av.ret
    | true =>
      have h1 := gok_size' ha
      have h2 := gok_size' hp
      refine Av.ifp (by decide) (Av.bind (in_s a (by omega)) (Av.bind (in_s p (by omega)) (Av.bind (cmp_s' (Sm.gb (bv_gb ha)) (Sm.gb (bv_gb hp))) (Av.ret' ?_))))
      simp only [Bool.and_self, Bool.true_and]
      exact decide_eq_decide.2 sgn_neg
theorem are_loop (l : List ByteArray) (hl : l.length < 1000000) : ∀ (d i : Nat), l.length - i = d → i ≤ l.length → Av (fun k => impl_areGreat.l0 k l l.length i) ((l.drop i).all gok)
  | 0, i, hd, hi => by
    refine Av.succ ?_
    simp only [impl_areGreat.l0]
    refine Av.ifn (by omega) (Av.ret' ?_)
    rw [List.drop_of_length_le (by omega)]; rfl
  | d + 1, i, hd, hi => by
    have i1 : i < l.length := by omega
    have e1 : wrap64 ((i : Int) + 1) = ((i + 1 : Nat) : Int) := wrap_one (by omega)
    refine Av.succ ?_
    simp only [impl_areGreat.l0, e1]
    have hr : rdOf ByteArray.empty l (i : Int) = l[i] := by
      unfold rdOf
      rw [Int.toNat_natCast, List.getD_eq_getElem?_getD, List.getElem?_eq_getElem i1]; rfl
    refine Av.ifp (by omega) (Av.ifp (by omega) (Av.ifp (by omega) (Av.bindc (gok_f _) ?_)))
    rw [List.drop_eq_getElem_cons i1, List.all_cons, hr]
    cases hg : gok l[i] with
    | false => exact Av.ifn (by decide) Av.ret
    | true => exact Av.ifp (by decide) (by rw [Bool.true_and]; exact are_loop l hl d (i + 1) (by omega) (by omega))
theorem are_f (l : List ByteArray) (hl : l.length < 1000000) : Av (fun k => impl_areGreat.f k l) (l.all gok) := by
  unfold impl_areGreat.f
  have := are_loop l hl l.length 0 (by omega) (by omega)
  rw [List.drop_zero] at this
  exact this
theorem restok_f (a p : ByteArray) : Av (fun k => impl_RestOk.f k a p) (rok a p) := by
  unfold impl_RestOk.f rok
  refine Av.bind (are_f [a, p] (by simp)) ?_
  have e : [a, p].all gok = (gok a && gok p) := by simp
  rw [e]
  cases ha : gok a with
  | false => exact Av.ifn (by simp) Av.ret
  | true =>
    cases hp : gok p with
    | false => exact Av.ifn (by simp) Av.ret
    | true =>
      have h1 := gok_size' ha
      have h2 := gok_size' hp
      refine Av.ifp (by decide) (Av.bind (natOf_f a (by omega)) (Av.bind (natOf_f p (by omega)) (Av.bind (cmp_f' (Sm.gb (bv_gb ha)) (Sm.gb (bv_gb hp))) (Av.ret' ?_))))
      simp only [Bool.and_self, Bool.true_and]
      exact decide_eq_decide.2 cmpv_neg
/-- May p's number be a modulus? -/
def mok (p : ByteArray) : Bool := gok p && decide (1 < bv p)
theorem mok_iff {p : ByteArray} : mok p = true ↔ gok p = true ∧ 1 < bv p := by simp [mok]
theorem bts_one : bts 1 = (⟨#[1]⟩ : ByteArray) := by decide +kernel
theorem mod_s (p : ByteArray) : spec_l04Mod.f p = some (mok p) := by
  unfold spec_l04Mod.f mok
  rw [gok_s, Option.bind_some]
  cases hp : gok p with
  | false => rfl
  | true =>
    rw [if_pos rfl]
    obtain ⟨n, hn, rfl⟩ := gok_cases hp
    rw [bv_bts]
    have h0 : (bts n).toList = ([] : List UInt8) ↔ n = 0 := by
      rw [toList_nil_iff, bts_size]
      rw [List.length_eq_zero_iff, dg_nil (by decide)]
    have h1 : (bts n).toList = ([1] : List UInt8) ↔ n = 1 := by
      have e : ([1] : List UInt8) = (bts 1).toList := by rw [toList_data, bts_one]
      rw [e, toList_eq_iff]
      exact ⟨bts_inj, fun h => by rw [h]⟩
    by_cases c0 : n = 0
    · rw [if_pos (h0.2 c0)]
      simp [c0]
    · rw [if_neg (fun h => c0 (h0.1 h))]
      congr 1
      by_cases c1 : n = 1
      · have := h1.2 c1
        simp only [this]
        subst c1; rfl
      · have h2 : ¬ (bts n).toList = ([1] : List UInt8) := fun h => c1 (h1.1 h)
        have h3 : 1 < n := by omega
        simp [h2, h3]
theorem mod_loop (p : ByteArray) (x : List Int) (l : List ByteArray) (hl : l.length < 1000000) : ∀ (d i : Nat), l.length - i = d → i ≤ l.length → Av (fun k => impl_modulus.l0 k p x l l.length i) (if (l.drop i).all (fun s => rok s p) then (x, true) else ([], false))
  | 0, i, hd, hi => by
    refine Av.succ ?_
    simp only [impl_modulus.l0]
    refine Av.ifn (by omega) (Av.ret' ?_)
    rw [List.drop_of_length_le (by omega)]; rfl
  | d + 1, i, hd, hi => by
    have i1 : i < l.length := by omega
    have e1 : wrap64 ((i : Int) + 1) = ((i + 1 : Nat) : Int) := wrap_one (by omega)
    refine Av.succ ?_
    simp only [impl_modulus.l0, e1]
    have hr : rdOf ByteArray.empty l (i : Int) = l[i] := by
      unfold rdOf
      rw [Int.toNat_natCast, List.getD_eq_getElem?_getD, List.getElem?_eq_getElem i1]; rfl
    refine Av.ifp (by omega) (Av.ifp (by omega) (Av.ifp (by omega) (Av.bind (restok_f _ p) ?_)))
    rw [List.drop_eq_getElem_cons i1, List.all_cons, hr]
    cases hg : rok l[i] p with
    | false => exact Av.ifn (by decide) (Av.ret' rfl)
    | true => exact Av.ifp (by decide) (by rw [Bool.true_and]; exact mod_loop p x l hl d (i + 1) (by omega) (by omega))
theorem mod_f (p : ByteArray) (l : List ByteArray) (hp : p.size < 281474976710656) (hl : l.length < 1000000) : Av (fun k => impl_modulus.f k p l) (if mok p && l.all (fun s => rok s p) then (D (bv p), true) else ([], false)) := by
  unfold impl_modulus.f
  have jT : ∀ x, Av (fun k => impl_modulus.j0 k p l x true) ([], false) := fun x => by
    refine Av.succ ?_
    simp only [impl_modulus.j0]
    exact Av.ifp (by decide) Av.ret
  refine Av.bind (natOf_f p hp) (Av.bindc (gok_f p) ?_)
  unfold mok
  cases hg : gok p with
  | false => exact Av.ifn (by decide) (jT _)
  | true =>
    have hs := small_f 1 (by decide)
    refine Av.ifp (by decide) (Av.bind hs (Av.bind (cmp_f' (Sm.gb (bv_gb hg)) (Sm.of (j := 1) (by decide) (by decide))) ?_))
    by_cases h1 : 1 < bv p
    · have h2 := (@cmpv_pos (bv p) 1).2 h1
      rw [decide_eq_false (show ¬ cmpv (bv p) 1 ≤ 0 by omega), decide_eq_true h1]
      refine Av.succ ?_
      simp only [impl_modulus.j0]
      refine Av.ifn (by decide) ?_
      have := mod_loop p (D (bv p)) l hl l.length 0 (by omega) (by omega)
      rw [List.drop_zero] at this
      rw [Bool.true_and, Bool.true_and]
      exact this
    · have h2 : cmpv (bv p) 1 ≤ 0 := by
        have := @cmpv_pos (bv p) 1
        omega
      rw [decide_eq_true h2, decide_eq_false h1]
      exact jT _
/-- What a function of two rests answers. -/
def two (a b p : ByteArray) (f : Nat → Nat → Nat → Nat) : ByteArray := if mok p && rok a p && rok b p then bts (f (bv p) (bv a) (bv b)) else (⟨#[]⟩ : ByteArray)
theorem and32 {x : Int} (h0 : 0 ≤ x) (h1 : x < 18446744073709551616) : Go.bits .and .u64 x 4294967295 = x % 4294967296 :=
  bits_mask .u64 64 (by decide) (fun n h0 h1 => ur h0 (by simpa using h1)) 32 (by decide) x h0 (by simpa using h1)
theorem mul_lt {a b B : Nat} (ha : a < B) (hb : b < B) : a * b ≤ (B - 1) * (B - 1) := Nat.mul_le_mul (by omega) (by omega)
theorem ring_mul (a b c d H : Nat) : (H * a + b) * (H * c + d) = a * c * (H * H) + (a * d + b * c) * H + b * d := by grind
theorem ring_mac (v x w P Q c y o W q : Int) : v + x * w * P - c * (P * Q) + (x * y + o + c - W * q - o) * (P * Q) = v + x * (w + y * Q) * P - q * (P * Q * W) := by grind
theorem mul64 (x y : Nat) (hx : x < 18446744073709551616) (hy : y < 18446744073709551616) : bits_Mul64.f x y = some (((x * y / 18446744073709551616 : Nat) : Int), ((x * y % 18446744073709551616 : Nat) : Int)) := by
  unfold bits_Mul64.f
  have ex := Nat.div_add_mod x 4294967296
  have ey := Nat.div_add_mod y 4294967296
  have c1 : (x : Int) / 4294967296 = ((x / 4294967296 : Nat) : Int) := by omega
  have c2 : (y : Int) / 4294967296 = ((y / 4294967296 : Nat) : Int) := by omega
  have c3 : (x : Int) % 4294967296 = ((x % 4294967296 : Nat) : Int) := by omega
  have c4 : (y : Int) % 4294967296 = ((y % 4294967296 : Nat) : Int) := by omega
  rw [and32 (x := (x : Int)) (by omega) (by omega), and32 (x := (y : Int)) (by omega) (by omega), c1, c2, c3, c4]
  have hx1 : x / 4294967296 < 4294967296 := by omega
  have hy1 : y / 4294967296 < 4294967296 := by omega
  have hx0 : x % 4294967296 < 4294967296 := by omega
  have hy0 : y % 4294967296 < 4294967296 := by omega
  generalize x / 4294967296 = x1 at *
  generalize y / 4294967296 = y1 at *
  generalize x % 4294967296 = x0 at *
  generalize y % 4294967296 = y0 at *
  have p11 := mul_lt hx1 hy1
  have p10 := mul_lt hx1 hy0
  have p01 := mul_lt hx0 hy1
  have p00 := mul_lt hx0 hy0
  have exy : x * y = x1 * y1 * 18446744073709551616 + (x1 * y0 + x0 * y1) * 4294967296 + x0 * y0 := by
    rw [← ex, ← ey]; exact ring_mul x1 x0 y1 y0 4294967296
  simp only [← Int.natCast_mul]
  rw [exy]
  generalize x1 * y1 = A at *
  generalize x1 * y0 = Bq at *
  generalize x0 * y1 = Cq at *
  generalize x0 * y0 = Dq at *
  clear ex ey c1 c2 c3 c4 exy hx hy hx1 hy1 hx0 hy0
  have d0 : (Dq : Int) / 4294967296 = ((Dq / 4294967296 : Nat) : Int) := by omega
  have q0 := Nat.div_add_mod Dq 4294967296
  have r0 : Dq % 4294967296 < 4294967296 := Nat.mod_lt _ (by decide)
  rw [ur (x := (Dq : Int)) (by omega) (by omega), d0]
  generalize Dq / 4294967296 = u at *
  generalize Dq % 4294967296 = u0 at *
  have d1 : (Bq : Int) + u = ((Bq + u : Nat) : Int) := by omega
  rw [ur (x := (Bq : Int)) (by omega) (by omega), d1, ur (x := ((Bq + u : Nat) : Int)) (by omega) (by omega), and32 (x := ((Bq + u : Nat) : Int)) (by omega) (by omega)]
  have d2 : ((Bq + u : Nat) : Int) / 4294967296 = (((Bq + u) / 4294967296 : Nat) : Int) := by omega
  have d3 : ((Bq + u : Nat) : Int) % 4294967296 = (((Bq + u) % 4294967296 : Nat) : Int) := by omega
  have q1 := Nat.div_add_mod (Bq + u) 4294967296
  have r1 : (Bq + u) % 4294967296 < 4294967296 := Nat.mod_lt _ (by decide)
  rw [d2, d3]
  generalize (Bq + u) / 4294967296 = w2 at *
  generalize (Bq + u) % 4294967296 = w1 at *
  have d4 : (w1 : Int) + Cq = ((w1 + Cq : Nat) : Int) := by omega
  rw [ur (x := (Cq : Int)) (by omega) (by omega), d4, ur (x := ((w1 + Cq : Nat) : Int)) (by omega) (by omega)]
  have d5 : ((w1 + Cq : Nat) : Int) / 4294967296 = (((w1 + Cq) / 4294967296 : Nat) : Int) := by omega
  have q2 := Nat.div_add_mod (w1 + Cq) 4294967296
  have r2 : (w1 + Cq) % 4294967296 < 4294967296 := Nat.mod_lt _ (by decide)
  rw [d5]
  generalize (w1 + Cq) / 4294967296 = z at *
  generalize (w1 + Cq) % 4294967296 = z0 at *
  have e : A * 18446744073709551616 + (Bq + Cq) * 4294967296 + Dq = 18446744073709551616 * (A + w2 + z) + (4294967296 * z0 + u0) := by omega
  have h1 : (A * 18446744073709551616 + (Bq + Cq) * 4294967296 + Dq) / 18446744073709551616 = A + w2 + z := by
    rw [e, Nat.mul_add_div (by decide), Nat.div_eq_of_lt (by omega)]; rfl
  have h2 : A + w2 + z < 18446744073709551616 := by omega
  rw [h1, ur (x := (A : Int)) (by omega) (by omega), ur (x := (A : Int) + w2) (by omega) (by omega), ur (x := (A : Int) + w2 + z) (by omega) (by omega), uw]
  rfl
theorem lin_mac (W hi lo xy o c s1 c1 s2 c2 : Int) (e0 : W * hi + lo = xy) (e1 : s1 = lo + o + 0 - W * c1) (e2 : s2 = s1 + c + 0 - W * c2) : s2 = xy + o + c - W * (hi + c1 + c2) := by grind
theorem lt_mac (W q S s : Int) (hW : 0 ≤ W) (e : s = S - W * q) (hs : 0 ≤ s) (hS : S < W * W) : q < W := by
  rcases Int.lt_or_le q W with h | h
  · exact h
  · have := Int.mul_le_mul_of_nonneg_left h hW
    omega
/-- One place of a product. -/
theorem mac64 (x y o c : Nat) (hx : x < 18446744073709551616) (hy : y < 18446744073709551616) (ho : o < 18446744073709551616) (hc : c < 18446744073709551616) : ∃ (m s w : Int × Int) (t q : Nat), bits_Mul64.f x y = some m ∧ bits_Add64.f m.2 o 0 = some s ∧ bits_Add64.f s.1 c 0 = some w ∧ w.1 = (t : Int) ∧ IntKind.u64.wrap ((IntKind.u64.wrap (m.1 + s.2)) + w.2) = (q : Int) ∧ t < 18446744073709551616 ∧ q < 18446744073709551616 ∧ (t : Int) = x * y + o + c - 18446744073709551616 * q := by
  have hxy := mul_lt hx hy
  have hM := mul64 x y hx hy
  have e0 := Nat.div_add_mod (x * y) 18446744073709551616
  have r0 : x * y % 18446744073709551616 < 18446744073709551616 := Nat.mod_lt _ (by decide)
  have ec : ((x * y : Nat) : Int) = (x : Int) * y := Int.natCast_mul x y
  generalize x * y / 18446744073709551616 = hi at *
  generalize x * y % 18446744073709551616 = lo at *
  generalize (x : Int) * y = XY at *
  generalize x * y = xy at *
  obtain ⟨s1, c1, f1, g1, l1, e1⟩ := add64 lo o 0 r0 ho (by decide)
  obtain ⟨s2, c2, f2, g2, l2, e2⟩ := add64 s1 c 0 l1 hc (by decide)
  have e0' : (18446744073709551616 : Int) * hi + lo = XY := by rw [← ec, ← e0]; simp
  have e3 := lin_mac _ _ _ _ _ _ _ _ _ _ e0' e1 e2
  have hS : XY + o + c < 18446744073709551616 * 18446744073709551616 := by
    clear e1 e2 e3 e0 e0' f1 f2
    omega
  have hq := lt_mac _ _ _ _ (by decide) e3 (Int.natCast_nonneg _) hS
  have e4 : ((hi + c1 + c2 : Nat) : Int) = hi + c1 + c2 := by simp
  have e5 : (s2 : Int) = XY + o + c - 18446744073709551616 * ((hi + c1 + c2 : Nat) : Int) := by rw [e4]; exact e3
  clear e1 e2 e0 e0' ec hS e3 hxy
  have z : (((0 : Nat) : Int)) = 0 := rfl
  rw [z] at f1 f2
  refine ⟨_, _, _, s2, hi + c1 + c2, hM, f1, f2, rfl, ?_, l2, by clear e5; omega, e5⟩
  simp only []
  rw [ur (x := (hi : Int) + c1) (by omega) (by omega), ur (x := (hi : Int) + c1 + c2) (by omega) (by omega)]
  rfl
/-- The value of digits, kept from the eyes of omega. -/
structure Vl (B : Nat) (l : List Int) (v : Int) : Prop where
  val : vl B l = v
theorem times_in (b x : Nat) (A : List Int) (i : Nat) (r : List Int) (v : Int) (hx : x < 18446744073709551616) (hiL : i + (D b).length < 35184372088832) (n0 : Int) (r' : List Int)
    (fin : ∀ (l : List Int) (c : Nat), l.length = r'.length → Digs 18446744073709551616 l → (∀ j, i + (D b).length ≤ j → l.getD j 0 = 0) → Vl 18446744073709551616 l (v + x * b * 18446744073709551616 ^ i - c * 18446744073709551616 ^ (i + (D b).length)) → c < 18446744073709551616 →
      Av (fun k => impl_nat_times.l0 k (D b) (l.set (i + (D b).length) c) A n0 ((i : Int) + 1)) r) : ∀ (d m c : Nat) (l : List Int), (D b).length - m = d → m ≤ (D b).length → c < 18446744073709551616 → l.length = r'.length → i + (D b).length < r'.length → Digs 18446744073709551616 l → (∀ j, i + (D b).length ≤ j → l.getD j 0 = 0) →
    Vl 18446744073709551616 l (v + x * (b % 18446744073709551616 ^ m : Nat) * 18446744073709551616 ^ i - c * 18446744073709551616 ^ (i + m)) →
    Av (fun k => impl_nat_times.l1 k (D b) l i x c A n0 i (D b) (D b).length m) r
  | 0, m, c, l, hd, hm, hc, hL, hr, hg, hz, hv => by
    obtain rfl : m = (D b).length := by omega
    refine Av.succ ?_
    simp only [impl_nat_times.l1]
    have e : wrap64 ((i : Int) + (D b).length) = ((i + (D b).length : Nat) : Int) := wrap_add (by omega)
    rw [e, wr (x := (i : Int) + 1) (by omega) (by omega)]
    refine Av.ifn (by omega) (Av.ifp (by omega) (Av.ifp (by omega) ?_))
    rw [Int.toNat_natCast]
    refine fin l c hL hg hz ⟨?_⟩ hc
    rw [hv.val, mod_full _ b (by decide) (Nat.le_refl _)]
  | d + 1, m, c, l, hd, hm, hc, hL, hr, hg, hz, hv => by
    have i1 : i + m < l.length := by omega
    have i2 : i + m < i + (D b).length := by omega
    have i3 : (D b).length - (m + 1) = d := by omega
    have i4 : m + 1 ≤ (D b).length := by omega
    have i6 : ((i + m : Nat) : Int) < l.length := by omega
    have i7 : (m : Int) < (D b).length := by omega
    have i8 : (0 : Int) ≤ m := by omega
    have e : wrap64 ((i : Int) + m) = ((i + m : Nat) : Int) := wrap_add (by omega)
    have i9 : m < 4611686018427387904 := by clear e; omega
    have e1 : wrap64 ((m : Int) + 1) = ((m + 1 : Nat) : Int) := wrap_one i9
    refine Av.succ ?_
    simp only [impl_nat_times.l1, e, e1, if_pos i7, if_pos i8]
    rw [rdD]
    have hy : b / 18446744073709551616 ^ m % 18446744073709551616 < 18446744073709551616 := Nat.mod_lt _ (by decide)
    have hs := mod_step 18446744073709551616 b m
    generalize b / 18446744073709551616 ^ m % 18446744073709551616 = y at *
    have hj0 : (0 : Int) ≤ ((i + m : Nat) : Int) := Int.natCast_nonneg _
    simp only [if_pos hj0, if_pos i6]
    have ho : rd l ((i + m : Nat) : Int) = l.getD (i + m) 0 := by unfold rd; rw [Int.toNat_natCast]
    have hob := digs_getD hg (by decide) (i + m)
    obtain ⟨o, hoe⟩ := Int.eq_ofNat_of_zero_le hob.1
    rw [ho]
    rw [hoe]
    rw [hoe] at hob
    have ho2 : o < 18446744073709551616 := Int.ofNat_lt.1 hob.2
    obtain ⟨m1, m2, m3, t, q, f1, f2, f3, f4, f5, ht, hq, he⟩ := mac64 x y o c hx hy ho2 hc
    simp only [Int.ofNat_eq_natCast, f1, f2, f3, f4, f5, Option.bind_some, Int.toNat_natCast]
    refine times_in b x A i r v hx hiL n0 r' fin d (m + 1) q _ i3 i4 hq (by rw [List.length_set]; exact hL) hr (digs_set hg ⟨Int.natCast_nonneg _, Int.ofNat_lt.2 ht⟩) ?_ ⟨?_⟩
    · intro j hj
      have i5 : i + m ≠ j := Nat.ne_of_lt (Nat.lt_of_lt_of_le i2 hj)
      rw [getD_set i1, if_neg i5]
      exact hz j hj
    · rw [vl_set _ _ _ _ i1, hv.val, hs, hoe, he]
      have e6 : ((18446744073709551616 : Nat) : Int) = 18446744073709551616 := rfl
      try simp only [e6]
      rw [← Nat.add_assoc, Int.pow_succ, Int.pow_add]
      generalize (18446744073709551616 : Int) ^ i = P at *
      generalize (18446744073709551616 : Int) ^ m = Q at *
      try simp only [Int.ofNat_eq_natCast]
      exact ring_mac _ _ _ _ _ _ _ _ _ _
theorem times_loop (a b : Nat) (hl : (D a).length + (D b).length < 35184372088832) : ∀ (d i : Nat) (l : List Int), (D a).length - i = d → i ≤ (D a).length → l.length = (D a).length + (D b).length → Upto 18446744073709551616 l (i + (D b).length) (((a % 18446744073709551616 ^ i : Nat) : Int) * b) →
    Av (fun k => impl_nat_times.l0 k (D b) l (D a) (D a).length i) (D (a * b))
  | 0, i, l, hd, hi, hL, h => by
    obtain rfl : i = (D a).length := by omega
    refine Av.succ ?_
    simp only [impl_nat_times.l0]
    refine Av.ifn (by omega) (Av.bind ?_ Av.ret)
    refine trim_f' h.digs (by omega) ?_
    rw [h.val, mod_full _ a (by decide) (Nat.le_refl _)]
    simp
  | d + 1, i, l, hd, hi, hL, h => by
    refine Av.succ ?_
    simp only [impl_nat_times.l0]
    refine Av.ifp (by omega) (Av.ifp (by omega) (Av.ifp (by omega) ?_))
    rw [rdD]
    refine times_in b (a / 18446744073709551616 ^ i % 18446744073709551616) (D a) i _ (((a % 18446744073709551616 ^ i : Nat) : Int) * b) (Nat.mod_lt _ (by decide)) (by omega) (D a).length l ?_ _ 0 0 l rfl (by omega) (by omega) rfl (by omega) h.digs h.zero ⟨?_⟩
    · intro l2 c h1 h2 h3 h4 h5
      have e : (i : Int) + 1 = ((i + 1 : Nat) : Int) := by omega
      rw [e]
      have h6 : Upto 18446744073709551616 l2 (i + (D b).length) _ := ⟨h2, h4.val, h3⟩
      have h7 := h6.set (x := (c : Int)) (w := ((a % 18446744073709551616 ^ (i + 1) : Nat) : Int) * b) (by omega) (by omega) (by
        rw [mod_step]
        have e6 : ((18446744073709551616 : Nat) : Int) = 18446744073709551616 := rfl
        try simp only [e6]
        grind)
      refine times_loop a b hl d (i + 1) _ (by omega) (by omega) (by rw [List.length_set]; omega) ?_
      have e2 : i + 1 + (D b).length = i + (D b).length + 1 := by omega
      rw [e2]
      exact h7
    · rw [h.val]; simp [Nat.mod_one]
theorem times_f (a b : Nat) (hl : (D a).length + (D b).length < 35184372088832) : Av (fun k => impl_nat_times.f k (D a) (D b)) (D (a * b)) := by
  unfold impl_nat_times.f
  have e : wrap64 (((D a).length : Int) + (D b).length) = (((D a).length + (D b).length : Nat) : Int) := by rw [wr (by omega) (by omega)]; omega
  rw [e, Int.toNat_natCast]
  refine Av.ifp (by omega) (Av.ifp (by omega) ?_)
  have h := times_loop a b hl _ 0 (List.replicate ((D a).length + (D b).length) 0) rfl (by omega) (by simp) (by
    simp only [Nat.pow_zero, Nat.mod_one]
    have := (Upto.start (B := 18446744073709551616) (by decide) ((D a).length + (D b).length)).more (j := 0 + (D b).length) (by omega)
    simpa using this)
  exact h
end Go.Proofs.Ytghhnjhjhjbljaa.C
namespace Go.Proofs.Ytghhnjhjhjbljaa.M
open Go.RowKit Go.Proofs.YtghhnjhjhjbljaaW.PrintWords Go.Proofs.YtghhnjhjhjbljaaW.PrintLast Go.Proofs.YtghhnjhjhjbljaaW.PrintMore
/-- The digit that is guessed. -/
def qh (B T d : Nat) : Nat := min (B - 1) (T / d)
theorem qh_le {B T d : Nat} : qh B T d ≤ B - 1 := Nat.min_le_left _ _
theorem qh_mul {B T d : Nat} : qh B T d * d ≤ T := Nat.le_trans (Nat.mul_le_mul_right d (Nat.min_le_right _ _)) (Nat.div_mul_le_self T d)
theorem le_qh {B T d g : Nat} (hd : 0 < d) (h1 : g ≤ B - 1) (h2 : g * d ≤ T) : g ≤ qh B T d := by
  unfold qh
  have := (Nat.le_div_iff_mul_le hd).2 h2
  omega
theorem qh_lt {B T d g : Nat} (hd : 0 < d) (hB : 0 < B) (h : B ≤ g ∨ T < g * d) : qh B T d ≤ g - 1 := by
  rcases h with h | h
  · have := @qh_le B T d; omega
  · have h1 := @qh_mul B T d
    have : qh B T d < g := by
      rcases Nat.lt_or_ge (qh B T d) g with h2 | h2
      · exact h2
      · have := Nat.mul_le_mul_right d h2; omega
    omega
/-- What the guess holds on its way: g * v + r = X, and it is not too small. -/
structure Gs (B v w X z g r : Nat) : Prop where
  sum : g * v + r = X
  ge : qh B (X * B + z) (v * B + w) ≤ g
theorem Gs.start {B v w X z : Nat} (hv : 0 < v) (hz : z < B) : Gs B v w X z (X / v) (X % v) := by
  refine ⟨by rw [Nat.mul_comm]; exact Nat.div_add_mod X v, ?_⟩
  have h1 := @qh_mul B (X * B + z) (v * B + w)
  generalize qh B (X * B + z) (v * B + w) = q at *
  rw [Nat.le_div_iff_mul_le hv]
  rcases Nat.lt_or_ge X (q * v) with h | h
  · exfalso
    have h2 : (X + 1) * B ≤ q * v * B := Nat.mul_le_mul_right B h
    have h3 : q * (v * B + w) = q * v * B + q * w := by grind
    have h4 : (X + 1) * B = X * B + B := by grind
    omega
  · exact h
theorem Gs.key {B v w X z g r : Nat} (h : Gs B v w X z g r) : g * (v * B + w) ≤ X * B + z ↔ g * w ≤ r * B + z := by
  have e1 : g * (v * B + w) = g * v * B + g * w := by grind
  have e2 : X * B = g * v * B + r * B := by rw [← h.sum]; grind
  omega
/-- It's the digit. -/
theorem Gs.done {B v w X z g r : Nat} (h : Gs B v w X z g r) (hv : 0 < v) (hB : 0 < B) (h1 : g ≤ B - 1) (h2 : g * w ≤ r * B + z) : g = qh B (X * B + z) (v * B + w) := by
  refine Nat.le_antisymm (le_qh ?_ h1 (h.key.2 h2)) h.ge
  have := Nat.mul_pos hv hB
  omega
/-- One less. -/
theorem Gs.next {B v w X z g r : Nat} (h : Gs B v w X z g r) (hv : 0 < v) (hB : 0 < B) (h1 : B ≤ g ∨ r * B + z < g * w) : 0 < g ∧ Gs B v w X z (g - 1) (r + v) := by
  have hg : 0 < g := by
    rcases Nat.eq_zero_or_pos g with h0 | h0
    · subst h0; rcases h1 with h1 | h1
      · omega
      · simp at h1
    · exact h0
  refine ⟨hg, ?_, ?_⟩
  · obtain ⟨g', rfl⟩ : ∃ g', g = g' + 1 := ⟨g - 1, by omega⟩
    have := h.sum
    rw [Nat.add_mul] at this
    simp only [Nat.add_sub_cancel]; omega
  · have := Nat.mul_pos hv hB
    refine qh_lt (by omega) hB ?_
    rcases h1 with h1 | h1
    · exact .inl h1
    · refine .inr ?_
      have := h.key
      omega
/-- What is left over has run over: it's the digit. -/
theorem Gs.over {B v w X z g r : Nat} (h : Gs B v w X z g r) (hv : 0 < v) (hB : 0 < B) (hw : w < B) (hX : X < (v + 1) * B) (hr : B ≤ r) : g = qh B (X * B + z) (v * B + w) := by
  have hg : g ≤ B - 1 := by
    rcases Nat.lt_or_ge g B with h1 | h1
    · omega
    · exfalso
      have h2 := Nat.mul_le_mul_right v h1
      have h3 := h.sum
      have h4 : (v + 1) * B = B * v + B := by grind
      omega
  refine h.done hv hB hg ?_
  have h1 : g * w ≤ (B - 1) * (B - 1) := Nat.mul_le_mul hg (by omega)
  have h2 : B * B ≤ r * B := Nat.mul_le_mul_right B hr
  have h3 : (B - 1) * (B - 1) ≤ B * B := Nat.mul_le_mul (by omega) (by omega)
  omega
/-- The guess by the highest digits is the quotient or one more. -/
theorem qh_near {B P v w rv T rw W V : Nat} (hB : 0 < B) (hv : 0 < v) (hrv : rv < P) (hrw : rw < P) (hV : V = (v * B + w) * P + rv) (hW : W = T * P + rw) (hlt : W < V * B) :
    W / V ≤ qh B T (v * B + w) ∧ qh B T (v * B + w) ≤ W / V + 1 := by
  have hd : 0 < v * B + w := by have := Nat.mul_pos hv hB; omega
  have hP : 0 < P := by omega
  have hV0 : 0 < V := by have := Nat.mul_pos hd hP; omega
  constructor
  · have h1 : W / V ≤ B - 1 := by
      have : W / V < B := by rw [Nat.div_lt_iff_lt_mul hV0]; rw [Nat.mul_comm]; exact hlt
      omega
    refine le_qh hd h1 ?_
    have h2 := Nat.div_mul_le_self W V
    generalize W / V = q at *
    rcases Nat.lt_or_ge T (q * (v * B + w)) with h | h
    · exfalso
      have h3 : (T + 1) * P ≤ q * (v * B + w) * P := Nat.mul_le_mul_right P h
      have h4 : q * V = q * (v * B + w) * P + q * rv := by rw [hV]; grind
      have h5 : (T + 1) * P = T * P + P := by grind
      omega
    · exact h
  · have h1 := @qh_le B T (v * B + w)
    have h2 := @qh_mul B T (v * B + w)
    generalize qh B T (v * B + w) = q at *
    rcases Nat.eq_zero_or_pos q with h0 | h0
    · rw [h0]; exact Nat.zero_le _
    · have h3 : q - 1 ≤ W / V := by
        rw [Nat.le_div_iff_mul_le hV0]
        have h4 : q * (v * B + w) * P ≤ T * P := Nat.mul_le_mul_right P h2
        have h5 : q * rv ≤ B * P := Nat.mul_le_mul (by omega) (by omega)
        have h6 : B * P ≤ v * B * P := by
          have := Nat.mul_le_mul_right (B * P) hv
          rw [Nat.mul_assoc]; omega
        have h7 : (q - 1) * V + V = q * V := by
          obtain ⟨q', rfl⟩ : ∃ q', q = q' + 1 := ⟨q - 1, by omega⟩
          rw [Nat.add_sub_cancel, Nat.add_mul, Nat.one_mul]
        have h8 : q * V = q * (v * B + w) * P + q * rv := by rw [hV]; grind
        have h9 : V = v * B * P + w * P + rv := by rw [hV]; grind
        have h10 : 0 ≤ w * P := Nat.zero_le _
        omega
      omega
/-- By two digits of two: the quotient itself. -/
theorem qh_exact {B T d : Nat} (hd : 0 < d) (h : T < d * B) : qh B T d = T / d := by
  unfold qh
  have : T / d < B := by rw [Nat.div_lt_iff_lt_mul hd, Nat.mul_comm]; exact h
  omega
end Go.Proofs.Ytghhnjhjhjbljaa.M
namespace Go.Proofs.Ytghhnjhjhjbljaa.C
open Go.RowKit Go.Proofs.YtghhnjhjhjbljaaW.PrintWords Go.Proofs.YtghhnjhjhjbljaaW.PrintLast Go.Proofs.YtghhnjhjhjbljaaW.PrintMore
open Go.Proofs.Ytghhnjhjhjbljaa.M Go.Proofs.Ytghhnjhjhjbljaa.F
theorem Upto.bound {B : Nat} (hB : 2 ≤ B) {l : List Int} {i : Nat} {v : Int} (h : Upto B l i v) : 0 ≤ v ∧ v < (B : Int) ^ i := by
  rw [← h.val]
  rw [← sm_getD]
  by_cases hi : i ≤ l.length
  · rw [sm_zero_above hi (fun j h1 h2 => h.zero j h1)]
    exact sm_bound hB (fun j _ => digs_getD h.digs (by omega) j)
  · have e := sm_zero_above (B := (B : Int)) (f := fun j => l.getD j 0) (n := l.length) (m := i) (by omega) (fun j h1 _ => by rw [List.getD_eq_getElem?_getD, List.getElem?_eq_none h1]; rfl)
    rw [← e]
    exact sm_bound hB (fun j _ => digs_getD h.digs (by omega) j)
theorem Upto.put {B : Nat} {l : List Int} {i k : Nat} {v x w : Int} (h : Upto B l k v) (hi : i < l.length) (hik : i < k) (hx : 0 ≤ x ∧ x < B) (hw : w = v + (x - l.getD i 0) * B ^ i) : Upto B (l.set i x) k w :=
  ⟨digs_set h.digs hx, by rw [vl_set B l i x hi, h.val, hw], fun j hj => by rw [getD_set hi, if_neg (by omega)]; exact h.zero j hj⟩
/-- From place k on nothing stands. -/
theorem Upto.less {B : Nat} (hB : 2 ≤ B) {l : List Int} {i k : Nat} {v : Nat} (h : Upto B l i v) (hv : v < B ^ k) : Upto B l k v :=
  ⟨h.digs, h.val, fun j hj => by
    rw [getD_of_vl hB h.digs h.val j]
    have : v < B ^ j := Nat.lt_of_lt_of_le hv (Nat.pow_le_pow_right (by omega) hj)
    rw [Nat.div_eq_of_lt this]; rfl⟩
theorem Upto.get {B : Nat} (hB : 2 ≤ B) {l : List Int} {i : Nat} {v : Nat} (h : Upto B l i v) (j : Nat) : l.getD j 0 = ((v / B ^ j % B : Nat) : Int) := getD_of_vl hB h.digs h.val j
/-- The list of a number in so many digits. -/
def fx (B L n : Nat) : List Int := (List.range L).map fun j => ((n / B ^ j % B : Nat) : Int)
theorem fx_length (B L n : Nat) : (fx B L n).length = L := by simp [fx]
theorem fx_getD {B L n j : Nat} (h : j < L) : (fx B L n).getD j 0 = ((n / B ^ j % B : Nat) : Int) := by
  unfold fx
  rw [List.getD_eq_getElem?_getD, List.getElem?_map, List.getElem?_range h]; rfl
theorem fx_upto {B : Nat} (hB : 2 ≤ B) {L n k : Nat} (hn : n < B ^ k) (hk : k ≤ L) : Upto B (fx B L n) k n := by
  have hd : Digs B (fx B L n) := by
    intro x hx
    simp only [fx, List.mem_map] at hx
    obtain ⟨j, _, rfl⟩ := hx
    have := Nat.mod_lt (n / B ^ j) (show 0 < B by omega)
    omega
  have hL : n < B ^ L := Nat.lt_of_lt_of_le hn (Nat.pow_le_pow_right (by omega) hk)
  have hv : vl B (fx B L n) = n := vl_of_getD hB (by rw [fx_length]; exact hL) (fun j hj => fx_getD (by rwa [fx_length] at hj))
  refine Upto.less hB (i := L) ⟨hd, hv, fun j hj => ?_⟩ hn
  rw [List.getD_eq_getElem?_getD, List.getElem?_eq_none (by rw [fx_length]; exact hj)]; rfl
theorem fx_of {B : Nat} (hB : 2 ≤ B) {l : List Int} {v : Nat} (h : Digs B l) (hv : vl B l = v) : l = fx B l.length v := by
  apply List.ext_getElem?
  intro j
  by_cases hj : j < l.length
  · have e1 := getD_of_vl hB h hv j
    have e2 := fx_getD (B := B) (L := l.length) (n := v) hj
    rw [← e2] at e1
    rw [List.getD_eq_getElem?_getD, List.getD_eq_getElem?_getD, List.getElem?_eq_getElem hj, List.getElem?_eq_getElem (by rw [fx_length]; exact hj)] at e1
    rw [List.getElem?_eq_getElem hj, List.getElem?_eq_getElem (by rw [fx_length]; exact hj)]
    simp only [Option.getD_some] at e1
    rw [e1]
  · rw [List.getElem?_eq_none (by omega), List.getElem?_eq_none (by rw [fx_length]; omega)]
/-- Nothing was borrowed: the guess is the digit. -/
theorem div_keep {U V q Pj : Nat} (hV : 0 < V) (hP : 0 < Pj) (h1 : U / Pj / V ≤ q) {X : Int} (h : X = (U : Int) - q * V * Pj) (h0 : 0 ≤ X) : q = U / Pj / V := by
  have h2 : q * V * Pj ≤ U := by
    have : ((q * V * Pj : Nat) : Int) ≤ U := by rw [Int.natCast_mul, Int.natCast_mul]; omega
    omega
  refine Nat.le_antisymm ?_ h1
  rw [Nat.le_div_iff_mul_le hV, Nat.le_div_iff_mul_le hP]
  exact h2
/-- Something was borrowed: the guess is one too great. -/
theorem div_back {U V q Pj : Nat} (hV : 0 < V) (hP : 0 < Pj) (h1 : q ≤ U / Pj / V + 1) {X K : Int} (h : X = (U : Int) - q * V * Pj + K) (h0 : X < K) : q = U / Pj / V + 1 := by
  have h2 : U < q * V * Pj := by
    have : (U : Int) < ((q * V * Pj : Nat) : Int) := by rw [Int.natCast_mul, Int.natCast_mul]; omega
    omega
  refine Nat.le_antisymm h1 ?_
  rcases Nat.lt_or_ge (U / Pj / V) q with h3 | h3
  · exact h3
  · exfalso
    rw [ge_iff_le, Nat.le_div_iff_mul_le hV, Nat.le_div_iff_mul_le hP] at h3
    omega
/-- What a step leaves. -/
theorem div_left {U V Pj : Nat} (hV : 0 < V) (hP : 0 < Pj) : U / Pj / V * V * Pj ≤ U ∧ U - U / Pj / V * V * Pj < V * Pj := by
  have h1 := Nat.div_mul_le_self (U / Pj) V
  have h2 := Nat.div_mul_le_self U Pj
  have h3 : U / Pj / V * V * Pj ≤ U / Pj * Pj := Nat.mul_le_mul_right Pj h1
  refine ⟨by omega, ?_⟩
  have h4 : U / Pj < U / Pj / V * V + V := by
    have h8 := Nat.div_add_mod (U / Pj) V
    have h9 := Nat.mod_lt (U / Pj) hV
    rw [Nat.mul_comm V] at h8
    omega
  have h5 : (U / Pj + 1) * Pj ≤ (U / Pj / V * V + V) * Pj := Nat.mul_le_mul_right Pj h4
  have h6 : U < (U / Pj + 1) * Pj := by
    have h8 := Nat.div_add_mod U Pj
    have h9 := Nat.mod_lt U hP
    rw [Nat.add_mul, Nat.one_mul, Nat.mul_comm (U / Pj)]
    omega
  rw [Nat.add_mul (U / Pj / V * V)] at h5
  omega
/-- A quotient in progress: U is left over, q is known from place j on. -/
structure Dv (B A V j U q : Nat) : Prop where
  sum : A = U + q * V
  lt : U < V * B ^ j
theorem Dv.step {B A V j U q : Nat} (hB : 0 < B) (hV : 0 < V) (h : Dv B A V (j + 1) U q) : Dv B A V j (U - U / B ^ j / V * V * B ^ j) (q + U / B ^ j / V * B ^ j) := by
  have hP : 0 < B ^ j := Nat.pow_pos hB
  obtain ⟨h1, h2⟩ := div_left (U := U) hV hP
  refine ⟨?_, h2⟩
  have h3 := h.sum
  have h4 : (q + U / B ^ j / V * B ^ j) * V = q * V + U / B ^ j / V * V * B ^ j := by grind
  omega
theorem Dv.digit {B A V j U q : Nat} (hB : 0 < B) (hV : 0 < V) (h : Dv B A V (j + 1) U q) : U / B ^ j / V < B := by
  have hP : 0 < B ^ j := Nat.pow_pos hB
  rw [Nat.div_lt_iff_lt_mul hV, Nat.div_lt_iff_lt_mul hP]
  have := h.lt
  rw [Nat.pow_succ] at this
  have e : B * V * B ^ j = V * (B ^ j * B) := by grind
  omega
theorem Dv.done {B A V U q : Nat} (hV : 0 < V) (h : Dv B A V 0 U q) : q = A / V ∧ U = A % V := by
  have h1 := h.sum
  have h2 := h.lt
  simp only [Nat.pow_zero, Nat.mul_one] at h2
  subst h1
  constructor
  · rw [Nat.add_mul_div_right _ _ hV, Nat.div_eq_of_lt h2]; omega
  · rw [Nat.add_mul_mod_self_right, Nat.mod_eq_of_lt h2]
theorem Dv.start {B A V j : Nat} (h : A < V * B ^ j) : Dv B A V j A 0 := ⟨by omega, h⟩
end Go.Proofs.Ytghhnjhjhjbljaa.C
