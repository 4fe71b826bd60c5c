/- Words and contracts that the laws of this claim lean on: numbers as limbs, and what the functions make of them. Conditions: those named in each theorem. -/
import Derived.Test.YtohfimjpfnnpgaaOwnWords
import Derived.Test.YtohfimjpfnnpgaaYF0
import Derived.Test.YtohfimjpfnnpgaaZF0
import Derived.Test.YtohfimjpfnnpgaaZF1
import Derived.Test.YtohfimjpfnnpgaaZF2
import Derived.Test.YtohfimjpfnnpgaaZF3
import Derived.Test.YtohfimjpfnnpgaaZF4
set_option linter.unusedVariables false
set_option linter.unusedSimpArgs false
set_option maxRecDepth 100000
namespace Go.Proofs.Ytohfimjpfnnpgaa.C
open Go.RowKit Go.Proofs.YtohfimjpfnnpgaaW.PrintWords Go.Proofs.YtohfimjpfnnpgaaW.PrintLast Go.Proofs.YtohfimjpfnnpgaaW.PrintMore
open Go.Proofs.Ytohfimjpfnnpgaa.M Go.Proofs.Ytohfimjpfnnpgaa.F
/-- One place of a difference: n as it is told. -/
theorem sub24 {n : Int} {x y c : Nat} (hn : n = x - y - c) (hx : x < 16777216) (hy : y < 16777216) (hc : c ≤ 1) : (n < 0 → ∃ r : Nat, wrap64 (n + 16777216) = (r : Int) ∧ r < 16777216 ∧ (r : Int) = x - y - c + 16777216 * (1 : Nat)) ∧ (¬ n < 0 → ∃ r : Nat, n = (r : Int) ∧ r < 16777216 ∧ (r : Int) = x - y - c + 16777216 * (0 : Nat)) := by
  subst hn
  constructor
  · intro h
    exact ⟨((x : Int) - y - c + 16777216).toNat, by rw [wr (by omega) (by omega)]; omega, by omega, by omega⟩
  · intro h
    exact ⟨((x : Int) - y - c).toNat, by omega, by omega, by omega⟩
theorem wsub {x y c : Nat} (hx : x < 16777216) (hy : y < 16777216) (hc : c ≤ 1) : wrap64 (wrap64 ((x : Int) - c) - y) = x - y - c := by
  rw [wr (x := (x : Int) - c) (by omega) (by omega), wr (by omega) (by omega)]; omega
theorem wsub' {x c : Nat} (hx : x < 16777216) (hc : c ≤ 1) : wrap64 ((x : Int) - c) = x - (0 : Nat) - c := by
  rw [wr (by omega) (by omega)]; omega
theorem sub_s_loop (a b : Nat) (hab : b ≤ a) (hl : (E a).length < 17592186044415) : ∀ (d i c : Nat) (l : List Int), (E a).length - i = d → i ≤ (E a).length → c ≤ 1 →
    Pre l i (((a % 16777216 ^ i : Nat) : Int) - (b % 16777216 ^ i : Nat) + c * 16777216 ^ i) → Av (fun k => spec_l02Sub.l0 k (E a) (E b) l c i) (E (a - b))
  | 0, i, c, l, hd, hi, hc, h => by
    obtain rfl : i = (E a).length := by omega
    refine Av.succ ?_
    simp only [spec_l02Sub.l0]
    refine Av.ifn (by omega) (Av.bind ?_ Av.ret)
    have hv := h.val
    have hlen := h.len
    rw [mod_full _ a (by decide) (Nat.le_refl _), mod_full _ b (by decide) (E_mono hab)] at hv
    have hb := vl_bound (by decide) h.digs
    rw [hv, hlen] at hb
    refine trim_s' h.digs (by omega) ?_
    have e6 : ((16777216 : Nat) : Int) = 16777216 := rfl
    rw [e6] at hb
    rw [hv]
    generalize (16777216 : Int) ^ (E a).length = P at *
    have : c = 0 ∨ c = 1 := by omega
    rcases this with rfl | rfl
    · simp; omega
    · exfalso; clear hl hi hd hlen; omega
  | d + 1, i, c, l, hd, hi, hc, h => by
    have i1 : (i : Int) < (E a).length := by omega
    have i2 : (E a).length - (i + 1) = d := by omega
    have i3 : i + 1 ≤ (E a).length := by omega
    have i4 : l.length < 17592186044416 := by rw [h.len]; omega
    have e1 : wrap64 ((i : Int) + 1) = ((i + 1 : Nat) : Int) := wrap_one (by omega)
    have hx : a / 16777216 ^ i % 16777216 < 16777216 := Nat.mod_lt _ (by decide)
    have hy : b / 16777216 ^ i % 16777216 < 16777216 := Nat.mod_lt _ (by decide)
    have s1 := mod_step 16777216 a i
    have s2 := mod_step 16777216 b i
    have r1 := rdE a i
    have r2 := rdE b i
    have e6 : ((16777216 : Nat) : Int) = 16777216 := rfl
    have next : ∀ (r q : Nat) (y : Nat), ((b % 16777216 ^ (i + 1) : Nat) : Int) = (b % 16777216 ^ i : Nat) + (y : Int) * (16777216 : Nat) ^ i → q ≤ 1 → r < 16777216 → (r : Int) = (a / 16777216 ^ i % 16777216 : Nat) - y - c + 16777216 * (q : Nat) → Av (fun k => spec_l02Sub.l0 k (E a) (E b) (l ++ [(r : Int)]) q ((i + 1 : Nat) : Int)) (E (a - b)) := by
      intro r q y s3 hq hr he
      refine sub_s_loop a b hab hl d (i + 1) q _ i2 i3 hq (h.snoc (below_nat hr) ?_)
      rw [s1, s3, Int.pow_succ]
      simp only [e6]
      exact ring_sub _ _ _ _ _ _ _ _ _ he
    refine Av.succ ?_
    simp only [spec_l02Sub.l0, e1]
    refine Av.ifp i1 (Av.ifp (Int.natCast_nonneg _) ?_)
    rw [r1]
    generalize a / 16777216 ^ i % 16777216 = x at *
    by_cases hb : i < (E b).length
    · refine Av.ifp (by omega) ?_
      rw [r2]
      generalize b / 16777216 ^ i % 16777216 = y at *
      rw [wsub hx hy hc]
      obtain ⟨t1, t2⟩ := sub24 (n := (x : Int) - y - c) rfl hx hy hc
      by_cases hn : (x : Int) - y - c < 0
      · obtain ⟨r, f1, hr, he⟩ := t1 hn
        refine Av.ifp hn (Av.ifp i4 ?_)
        rw [f1]
        exact next r 1 y s2 (by decide) hr he
      · obtain ⟨r, f1, hr, he⟩ := t2 hn
        refine Av.ifn hn (Av.ifp i4 ?_)
        rw [f1]
        exact next r 0 y s2 (by decide) hr he
    · have hz : b / 16777216 ^ i % 16777216 = 0 := by
        have h1 : b < 16777216 ^ i := (E_le i b).1 (by omega)
        rw [Nat.div_eq_of_lt h1]
      rw [hz] at s2
      refine Av.ifn (by omega) ?_
      rw [wsub' hx hc]
      obtain ⟨t1, t2⟩ := sub24 (n := (x : Int) - (0 : Nat) - c) rfl hx (by decide) hc
      by_cases hn : (x : Int) - (0 : Nat) - c < 0
      · obtain ⟨r, f1, hr, he⟩ := t1 hn
        refine Av.ifp hn (Av.ifp i4 ?_)
        rw [f1]
        exact next r 1 0 s2 (by decide) hr he
      · obtain ⟨r, f1, hr, he⟩ := t2 hn
        refine Av.ifn hn (Av.ifp i4 ?_)
        rw [f1]
        exact next r 0 0 s2 (by decide) hr he
theorem sub_s (a b : Nat) (hab : b ≤ a) (hl : (E a).length < 17592186044415) : Av (fun k => spec_l02Sub.f k (E a) (E b)) (E (a - b)) := by
  unfold spec_l02Sub.f
  refine Av.ifp (by omega) (Av.ifp (by omega) ?_)
  refine sub_s_loop a b hab hl _ 0 0 [] rfl (by omega) (by omega) ?_
  rw [Nat.pow_zero, Nat.mod_one, Nat.mod_one, ring_zero']; exact Pre.start
/-- What the limbs of a product say: v and, from place i on, nothing. -/
structure Up24 (l : List Int) (L i : Nat) (v : Int) : Prop where
  len : l.length = L
  digs : Digs 16777216 l
  val : vl 16777216 l = v
  zero : ∀ j, i ≤ j → l.getD j 0 = 0
theorem Up24.start (n : Nat) : Up24 (List.replicate n 0) n 0 0 := ⟨by simp, digs_zeros (by decide) n, vl_zeros _ n, fun j _ => getD_zeros n j⟩
/-- How many bits a number has. -/
def nb (n : Nat) : Nat := (dg 2 n).length
theorem nb_lt (j n : Nat) : j < nb n ↔ 2 ^ j ≤ n := dg_length_lt (by decide) j n
theorem nb_le (j n : Nat) : nb n ≤ j ↔ n < 2 ^ j := dg_length_le (by decide) j n
theorem nb_div (n s : Nat) : nb (n / 2 ^ s) = nb n - s := by
  have h : ∀ j, j < nb (n / 2 ^ s) ↔ j + s < nb n := fun j => by
    rw [nb_lt, nb_lt, Nat.le_div_iff_mul_le (Nat.pow_pos (by decide)), ← Nat.pow_add]
  have h1 := h (nb (n / 2 ^ s))
  have h2 := h (nb n - s)
  by_cases h0 : nb (n / 2 ^ s) = 0
  · omega
  · have h3 := h (nb (n / 2 ^ s) - 1)
    omega
theorem nb_up {n s : Nat} (h : 2 ^ s ≤ n) : nb n = nb (n / 2 ^ s) + s := by
  have := nb_div n s
  have := (nb_lt s n).2 h
  omega
def lenTab : ByteArray := ⟨#[0, 1, 2, 2, 3, 3, 3, 3, 4, 4, 4, 4, 4, 4, 4, 4, 5, 5, 5, 5, 5, 5, 5, 5, 5, 5, 5, 5, 5, 5, 5, 5, 6, 6, 6, 6, 6, 6, 6, 6, 6, 6, 6, 6, 6, 6, 6, 6, 6, 6, 6, 6, 6, 6, 6, 6, 6, 6, 6, 6, 6, 6, 6, 6, 7, 7, 7, 7, 7, 7, 7, 7, 7, 7, 7, 7, 7, 7, 7, 7, 7, 7, 7, 7, 7, 7, 7, 7, 7, 7, 7, 7, 7, 7, 7, 7, 7, 7, 7, 7, 7, 7, 7, 7, 7, 7, 7, 7, 7, 7, 7, 7, 7, 7, 7, 7, 7, 7, 7, 7, 7, 7, 7, 7, 7, 7, 7, 7, 8, 8, 8, 8, 8, 8, 8, 8, 8, 8, 8, 8, 8, 8, 8, 8, 8, 8, 8, 8, 8, 8, 8, 8, 8, 8, 8, 8, 8, 8, 8, 8, 8, 8, 8, 8, 8, 8, 8, 8, 8, 8, 8, 8, 8, 8, 8, 8, 8, 8, 8, 8, 8, 8, 8, 8, 8, 8, 8, 8, 8, 8, 8, 8, 8, 8, 8, 8, 8, 8, 8, 8, 8, 8, 8, 8, 8, 8, 8, 8, 8, 8, 8, 8, 8, 8, 8, 8, 8, 8, 8, 8, 8, 8, 8, 8, 8, 8, 8, 8, 8, 8, 8, 8, 8, 8, 8, 8, 8, 8, 8, 8, 8, 8, 8, 8, 8, 8, 8, 8, 8, 8, 8, 8, 8, 8, 8, 8]⟩
theorem lenTab_all : ∀ i : Fin 256, bt lenTab (i.val : Int) = (nb i.val : Int) := by decide +kernel
theorem lenTab_at {x : Int} {n : Nat} (h : x = n) (hn : n < 256) : bt lenTab x = (nb n : Int) := by subst h; exact lenTab_all ⟨n, hn⟩
theorem nb_lt_256 {n : Nat} (h : n < 256) : nb n ≤ 8 := (nb_le 8 n).2 (by omega)
set_option maxRecDepth 100000 in
theorem len_j0 (x c : Nat) (hx : x < 4294967296) (hc : c ≤ 32) : Av (fun k => bits_Len64.j0 k x c) ((nb x + c : Nat) : Int) := by
  refine Av.succ ?_
  simp only [bits_Len64.j0]
  by_cases h1 : 65536 ≤ x
  · refine Av.ifp (by omega) ?_
    have e1 := nb_up (s := 16) (show 2 ^ 16 ≤ x by omega)
    by_cases h2 : 16777216 ≤ x
    · refine Av.ifp (by omega) (Av.ifp (by omega) (Av.ifp (by omega) (Av.ret' ?_)))
      have e2 := nb_up (n := x / 2 ^ 16) (s := 8) (by omega)
      have hl := nb_lt_256 (n := x / 2 ^ 16 / 2 ^ 8) (by omega)
      show wrap64 (wrap64 (wrap64 ((c : Int) + 16) + 8) + wrap64 (bt lenTab _)) = _
      rw [lenTab_at (n := x / 2 ^ 16 / 2 ^ 8) (by omega) (by omega), wr (x := (nb _ : Int)) (by omega) (by omega), wr (x := (c : Int) + 16) (by omega) (by omega), wr (x := (c : Int) + 16 + 8) (by omega) (by omega), wr (by omega) (by omega)]
      omega
    · refine Av.ifn (by omega) (Av.ifp (by omega) (Av.ifp (by omega) (Av.ret' ?_)))
      have hl := nb_lt_256 (n := x / 2 ^ 16) (by omega)
      show wrap64 (wrap64 ((c : Int) + 16) + wrap64 (bt lenTab _)) = _
      rw [lenTab_at (n := x / 2 ^ 16) (by omega) (by omega), wr (x := (nb _ : Int)) (by omega) (by omega), wr (x := (c : Int) + 16) (by omega) (by omega), wr (by omega) (by omega)]
      omega
  · refine Av.ifn (by omega) ?_
    by_cases h2 : 256 ≤ x
    · refine Av.ifp (by omega) (Av.ifp (by omega) (Av.ifp (by omega) (Av.ret' ?_)))
      have e2 := nb_up (n := x) (s := 8) (by omega)
      have hl := nb_lt_256 (n := x / 2 ^ 8) (by omega)
      show wrap64 (wrap64 ((c : Int) + 8) + wrap64 (bt lenTab _)) = _
      rw [lenTab_at (n := x / 2 ^ 8) (by omega) (by omega), wr (x := (nb _ : Int)) (by omega) (by omega), wr (x := (c : Int) + 8) (by omega) (by omega), wr (by omega) (by omega)]
      omega
    · refine Av.ifn (by omega) (Av.ifp (by omega) (Av.ifp (by omega) (Av.ret' ?_)))
      have hl := nb_lt_256 (n := x) (by omega)
      show wrap64 ((c : Int) + wrap64 (bt lenTab _)) = _
      rw [lenTab_at (n := x) (by omega) (by omega), wr (x := (nb _ : Int)) (by omega) (by omega), wr (by omega) (by omega)]
      omega
theorem len_f (x : Nat) (hx : x < 18446744073709551616) : Av (fun k => bits_Len64.f k x) (nb x : Int) := by
  unfold bits_Len64.f
  by_cases h : 4294967296 ≤ x
  · refine Av.ifp (by omega) ?_
    have e1 := nb_up (s := 32) (show 2 ^ 32 ≤ x by omega)
    have := len_j0 (x / 2 ^ 32) 32 (by omega) (by omega)
    rw [← e1] at this
    have e : (x : Int) / 4294967296 = ((x / 2 ^ 32 : Nat) : Int) := by omega
    rw [e]
    exact this
  · refine Av.ifn (by omega) ?_
    exact len_j0 x 0 (by omega) (by omega)
theorem lz_f (x : Nat) (hx : x < 18446744073709551616) : Av (fun k => bits_LeadingZeros64.f k x) (64 - (nb x : Int)) := by
  unfold bits_LeadingZeros64.f
  refine Av.bind (len_f x hx) (Av.ret' ?_)
  have := (nb_le 64 x).2 (by omega)
  rw [wr (by omega) (by omega)]
theorem W_pow (q : Nat) : (18446744073709551616 : Nat) ^ q = 2 ^ (64 * q) := by rw [Nat.pow_mul]
theorem size_f (n : Nat) (h : (D n).length < 4611686018427387) : Av (fun k => impl_nat_size.f k (D n)) (nb n : Int) := by
  unfold impl_nat_size.f
  by_cases h0 : n = 0
  · subst h0
    refine Av.ifp (by simp [dg_zero]) (Av.ret' (by simp [nb, dg_zero]))
  · have hl : 0 < (D n).length := by rw [D_lt]; simp; omega
    have hlo := (D_lt ((D n).length - 1) n).1 (by omega)
    have hhi := (D_le (D n).length n).1 (Nat.le_refl _)
    have hr : rd (D n) (((D n).length : Int) - 1) = ((n / 2 ^ (64 * ((D n).length - 1)) : Nat) : Int) := by
      have e : ((D n).length : Int) - 1 = (((D n).length - 1 : Nat) : Int) := by omega
      rw [e, rdD, W_pow]
      congr 1
      apply Nat.mod_eq_of_lt
      rw [Nat.div_lt_iff_lt_mul (Nat.pow_pos (by decide))]
      have e2 : (D n).length = (D n).length - 1 + 1 := by omega
      rw [e2, Nat.pow_succ, Nat.mul_comm, W_pow] at hhi
      exact hhi
    rw [W_pow] at hlo
    have hn := nb_up hlo
    have hlt : n / 2 ^ (64 * ((D n).length - 1)) < 18446744073709551616 := by
      rw [Nat.div_lt_iff_lt_mul (Nat.pow_pos (by decide))]
      have e2 : (D n).length = (D n).length - 1 + 1 := by omega
      rw [e2, Nat.pow_succ, Nat.mul_comm, W_pow] at hhi
      exact hhi
    refine Av.ifn (by omega) ?_
    simp (disch := omega) only [wr, if_pos, hr]
    refine Av.bind (lz_f _ hlt) (Av.ret' ?_)
    have := (nb_le 64 (n / 2 ^ (64 * ((D n).length - 1)))).2 (by omega)
    rw [wr (by omega) (by omega)]
    omega
theorem mod_div_mod {b : Nat} (hb : 0 < b) (x : Nat) {t r : Nat} (h : r < t) : x % b ^ t / b ^ r % b = x / b ^ r % b := by
  have e : b ^ t = b ^ r * b ^ (t - r) := by rw [← Nat.pow_add]; congr 1; omega
  rw [e, Nat.mod_mul_right_div_self]
  apply Nat.mod_mod_of_dvd
  have : t - r = t - r - 1 + 1 := by omega
  rw [this, Nat.pow_succ]
  exact Nat.dvd_mul_left _ _
/-- The lesser digits inside a digit. -/
theorem dig_sub {b : Nat} (hb : 0 < b) (n t q : Nat) {r : Nat} (h : r < t) : n / (b ^ t) ^ q % b ^ t / b ^ r % b = n / b ^ (t * q + r) % b := by
  rw [mod_div_mod hb _ h, Nat.div_div_eq_div_mul, ← Nat.pow_mul, ← Nat.pow_add]
theorem and1 {k : Int} (h0 : 0 ≤ k) (h1 : k < 18446744073709551616) : Go.bits .and .u64 k 1 = k % 2 :=
  bits_mask .u64 64 (by decide) (fun n h0 h1 => ur h0 (by simpa using h1)) 1 (by decide) k h0 (by simpa using h1)
theorem natCast_div_pow (a j : Nat) : ((a : Int) / 2 ^ j) = ((a / 2 ^ j : Nat) : Int) := by
  have e : (2 : Int) ^ j = ((2 ^ j : Nat) : Int) := by simp
  rw [e]; rfl
theorem bit_f (n j : Nat) (h : (D n).length < 100000000000000000) (hj : j < 9223372036854775808) : impl_nat_bit.f (D n) j = some ((n / 2 ^ j % 2 : Nat) : Int) := by
  unfold impl_nat_bit.f
  rw [if_neg (by omega), wr (x := 64 * _) (by omega) (by omega)]
  by_cases hb : 64 * (D n).length ≤ j
  · rw [if_pos (by omega)]
    have hhi := (D_le (D n).length n).1 (Nat.le_refl _)
    rw [W_pow] at hhi
    have : n < 2 ^ j := Nat.lt_of_lt_of_le hhi (Nat.pow_le_pow_right (by decide) hb)
    rw [Nat.div_eq_of_lt this]; rfl
  · rw [if_neg (by omega)]
    simp (disch := omega) only [td, tm, wr, if_pos]
    congr 1
    have e1 : (j : Int) / 64 = ((j / 64 : Nat) : Int) := by omega
    have e2 : min ((j : Int) % 64).toNat IntKind.u64.bits = j % 64 := by simp only [IntKind.bits]; omega
    unfold shr
    rw [e1, rdD, e2]
    have e3 := natCast_div_pow (n / 18446744073709551616 ^ (j / 64) % 18446744073709551616) (j % 64)
    have hlt : n / 18446744073709551616 ^ (j / 64) % 18446744073709551616 / 2 ^ (j % 64) < 18446744073709551616 :=
      Nat.lt_of_le_of_lt (Nat.div_le_self _ _) (Nat.mod_lt _ (by decide))
    rw [e3, and1 (Int.natCast_nonneg _) (by have := Int.ofNat_lt.2 hlt; exact this)]
    have h4 := dig_sub (b := 2) (by decide) n 64 (j / 64) (r := j % 64) (by omega)
    have e5 : 64 * (j / 64) + j % 64 = j := by omega
    rw [e5] at h4
    have e6 : (2 : Nat) ^ 64 = 18446744073709551616 := rfl
    rw [e6] at h4
    rw [← h4]
    omega
theorem even_f (n : Nat) (h : (D n).length < 100000000000000000) : impl_nat_even.f (D n) = some (n % 2 == 0) := by
  unfold impl_nat_even.f
  have := bit_f n 0 h (by omega)
  simp only [Int.natCast_zero] at this
  have e : (((0 : Nat) : Int)) = 0 := rfl
  rw [show impl_nat_bit.f (D n) 0 = some ((n / 2 ^ 0 % 2 : Nat) : Int) from this]
  simp only [Option.bind_some, Nat.pow_zero, Nat.div_one]
  congr 1
  rw [Bool.eq_iff_iff]
  simp
  omega
theorem bytes_of_bits (n : Nat) : (dg 256 n).length = (nb n + 7) / 8 := by
  have h : ∀ j, j < (dg 256 n).length ↔ 8 * j < nb n := fun j => by
    rw [dg_length_lt (by decide), nb_lt, Nat.pow_mul]
  have h1 := h (dg 256 n).length
  by_cases h0 : (dg 256 n).length = 0
  · have := h 0; omega
  · have := h ((dg 256 n).length - 1)
    omega
theorem text_loop (n : Nat) (h : (D n).length < 17592186044416) : ∀ m : Nat, m ≤ (dg 256 n).length → Av (fun k => impl_nat_text.l0 k (D n) ((dg 256 n).drop m).reverse m) (bts n)
  | 0, _ => by
    refine Av.succ ?_
    simp only [impl_nat_text.l0]
    refine Av.ifn (by omega) (Av.ret' ?_)
    simp [bts]
  | m + 1, hm => by
    refine Av.succ ?_
    simp only [impl_nat_text.l0]
    have hb : (dg 256 n).length ≤ 8 * (D n).length := by
      rw [dg_length_le (by decide), Nat.pow_mul]
      exact (D_le _ n).1 (Nat.le_refl _)
    have e1 : (((m + 1 : Nat) : Int) - 1) = m := by omega
    rw [e1]
    simp (disch := omega) only [wr, td, tm, if_pos]
    have hlen : (((dg 256 n).drop (m + 1)).reverse).length ≤ (dg 256 n).length := by rw [List.length_reverse, List.length_drop]; omega
    refine Av.ifp (by omega) ?_
    have e2 : shr .u64 (rd (D n) ((m : Int) / 8)) (8 * ((m : Int) % 8)) % 256 = (dg 256 n)[m]'(by omega) := by
      have e3 : (m : Int) / 8 = ((m / 8 : Nat) : Int) := by omega
      have e4 : min (8 * ((m : Int) % 8)).toNat IntKind.u64.bits = 8 * (m % 8) := by simp only [IntKind.bits]; omega
      unfold shr
      rw [e3, rdD, e4]
      have e5 := natCast_div_pow (n / 18446744073709551616 ^ (m / 8) % 18446744073709551616) (8 * (m % 8))
      rw [e5]
      have h4 := dig_sub (b := 256) (by decide) n 8 (m / 8) (r := m % 8) (by omega)
      have e6 : 8 * (m / 8) + m % 8 = m := by omega
      have e7 : (256 : Nat) ^ 8 = 18446744073709551616 := rfl
      have e8 : (2 : Nat) ^ (8 * (m % 8)) = 256 ^ (m % 8) := by rw [Nat.pow_mul]
      rw [e6, e7] at h4
      rw [e8]
      have h9 := dg_getD (B := 256) (by decide) m n
      rw [List.getD_eq_getElem?_getD, List.getElem?_eq_getElem (by omega)] at h9
      simp only [Option.getD_some] at h9
      rw [h9, ← h4]
      omega
    rw [e2]
    have e9 : ((dg 256 n).drop (m + 1)).reverse ++ [(dg 256 n)[m]'(by omega)] = ((dg 256 n).drop m).reverse := by
      rw [List.drop_eq_getElem_cons (show m < (dg 256 n).length by omega), List.reverse_cons]
    rw [e9]
    exact text_loop n h m (by omega)
theorem text_f (n : Nat) (h : (D n).length < 1759218604441) : Av (fun k => impl_nat_text.f k (D n)) (bts n) := by
  unfold impl_nat_text.f
  refine Av.bind (size_f n (by omega)) ?_
  have hb : (dg 256 n).length ≤ 8 * (D n).length := by
    rw [dg_length_le (by decide), Nat.pow_mul]
    exact (D_le _ n).1 (Nat.le_refl _)
  have hn := bytes_of_bits n
  simp (disch := omega) only [wr, td]
  have e : ((nb n : Int) + 7) / 8 = (((dg 256 n).length : Nat) : Int) := by omega
  rw [e]
  have := text_loop n (by omega) (dg 256 n).length (Nat.le_refl _)
  rw [List.drop_length, List.reverse_nil] at this
  exact this
theorem out_drop {b : List Int} {n : Nat} (hb : Digs 256 b) (hv : vl 256 b.reverse = n) (hbig : b.length < 9223372036854775807) : ∀ (d j : Nat), b.length - j = d → j ≤ b.length → vl 256 (b.reverse.take (b.length - j)) = n → Av (fun k => spec_l02Out.l1 k b j) (bts n)
  | 0, j, hd, hj, hz => by
    refine Av.succ ?_
    simp only [spec_l02Out.l1]
    simp (disch := omega) only [if_pos, if_neg]
    refine Av.ret' ?_
    have e : b.length = j := by omega
    have h0 : n = 0 := by rw [hd] at hz; simp [vl] at hz; omega
    subst h0
    rw [Int.toNat_natCast, ← e, List.drop_length]
    rfl
  | d + 1, j, hd, hj, hz => by
    refine Av.succ ?_
    simp only [spec_l02Out.l1]
    simp (disch := omega) only [if_pos]
    have hr : rd b j = b.reverse.getD (b.length - j - 1) 0 := by
      unfold rd
      rw [Int.toNat_natCast, List.getD_eq_getElem?_getD, List.getD_eq_getElem?_getD, List.getElem?_reverse (by omega)]
      congr 2; omega
    by_cases h0 : b.reverse.getD (b.length - j - 1) 0 = 0
    · refine Av.ifp (by rw [hr, h0]) ?_
      have e : (j : Int) + 1 = ((j + 1 : Nat) : Int) := by omega
      rw [wr (by omega) (by omega), e]
      refine out_drop hb hv hbig d (j + 1) (by omega) (by omega) ?_
      have h1 := vl_take_succ 256 b.reverse (b.length - j - 1)
      rw [h0, Int.mul_zero, Int.add_zero] at h1
      have e3 : b.length - j - 1 + 1 = b.length - j := by omega
      have e4 : b.length - (j + 1) = b.length - j - 1 := by omega
      rw [e4, ← h1, e3]
      exact hz
    · refine Av.ifn (by rw [hr]; exact h0) ?_
      refine Av.ret' ?_
      have h1 := take_is_dg (B := 256) (by decide) (digs_reverse.2 hb) (b.length - j) (by simp) (.inr h0)
      rw [hz, Int.toNat_natCast] at h1
      unfold bts
      rw [← h1, Int.toNat_natCast]
      congr 1
      rw [List.take_reverse, List.reverse_reverse]
      congr 1; omega
theorem out_loop (n : Nat) (hl : (E n).length < 17592186044416) : ∀ (d i : Nat) (b : List Int), (E n).length - i = d → i ≤ (E n).length → b.length = 3 * (E n).length → Digs 256 b → (∀ m, m < 3 * i → b.getD (3 * (E n).length - 1 - m) 0 = ((n / 256 ^ m % 256 : Nat) : Int)) → Av (fun k => spec_l02Out.l0 k (E n) b i) (bts n)
  | 0, i, b, hd, hi, hb, hdg, hv => by
    refine Av.succ ?_
    simp only [spec_l02Out.l0]
    refine Av.ifn (by omega) ?_
    have hE := (E_le (E n).length n).1 (Nat.le_refl _)
    have e : (16777216 : Nat) = 256 ^ 3 := rfl
    rw [e, ← Nat.pow_mul] at hE
    have hvl : vl 256 b.reverse = n := by
      apply vl_of_getD (by decide)
      · rw [List.length_reverse, hb]; exact hE
      · intro j hj
        rw [List.length_reverse] at hj
        rw [← hv j (by omega), List.getD_eq_getElem?_getD, List.getD_eq_getElem?_getD, List.getElem?_reverse hj]
        congr 2; omega
    exact out_drop hdg hvl (by omega) b.length 0 rfl (by omega) (by rw [Nat.sub_zero, ← List.length_reverse, List.take_length]; exact hvl)
  | d + 1, i, b, hd, hi, hb, hdg, hv => by
    refine Av.succ ?_
    simp only [spec_l02Out.l0]
    simp (disch := omega) only [wr, if_pos]
    have hE := rdE n i
    generalize hY : n / 16777216 ^ i = Y at hE
    have e : (16777216 : Nat) ^ i = 256 ^ (3 * i) := by rw [Nat.pow_mul]
    rw [e] at hY
    have k1 : ((b.length : Int) - 3 * i - 1).toNat = 3 * (E n).length - 1 - 3 * i := by omega
    have k2 : ((b.length : Int) - 3 * i - 2).toNat = 3 * (E n).length - 1 - (3 * i + 1) := by omega
    have k3 : ((b.length : Int) - 3 * i - 3).toNat = 3 * (E n).length - 1 - (3 * i + 2) := by omega
    rw [k1, k2, k3, hE]
    have e4 : (i : Int) + 1 = ((i + 1 : Nat) : Int) := by omega
    rw [e4]
    have y0 : n / 256 ^ (3 * i) % 256 = Y % 256 := by rw [hY]
    have y1 : n / 256 ^ (3 * i + 1) % 256 = Y / 256 % 256 := by rw [Nat.pow_succ, ← Nat.div_div_eq_div_mul, hY]
    have y2 : n / 256 ^ (3 * i + 2) % 256 = Y / 65536 % 256 := by
      rw [Nat.pow_add, ← Nat.div_div_eq_div_mul, hY]
    refine out_loop n hl d (i + 1) _ (by omega) (by omega) (by simp [hb]) (digs_set (digs_set (digs_set hdg (by omega)) (by omega)) (by omega)) ?_
    intro m hm
    rw [getD_set (by simp [hb]; omega), getD_set (by simp [hb]; omega), getD_set (by simp [hb]; omega)]
    by_cases c3 : m = 3 * i + 2
    · subst c3; rw [if_pos rfl, y2]; omega
    · rw [if_neg (by omega)]
      by_cases c2 : m = 3 * i + 1
      · subst c2; rw [if_pos rfl, y1]; omega
      · rw [if_neg (by omega)]
        by_cases c1 : m = 3 * i
        · subst c1; rw [if_pos rfl, y0]; omega
        · rw [if_neg (by omega)]
          exact hv m (by omega)
theorem out_s (n : Nat) (hl : (E n).length < 1759218604441) : Av (fun k => spec_l02Out.f k (E n)) (bts n) := by
  unfold spec_l02Out.f
  simp (disch := omega) only [wr, if_pos]
  have e : (3 * ((E n).length : Int)).toNat = 3 * (E n).length := by omega
  rw [e]
  have := out_loop n (by omega) (E n).length 0 (List.replicate (3 * (E n).length) 0) (by omega) (by omega) (by simp) (digs_zeros (by decide) _) (fun m hm => by omega)
  exact this
/-- A number small enough for everything here. -/
def Sm (n : Nat) : Prop := (D n).length < 1000000 ∧ (E n).length < 1000000
theorem D_of {n j : Nat} (h : n < 256 ^ j) : (D n).length ≤ j := (D_le _ _).2 (Nat.lt_of_lt_of_le h (Nat.pow_le_pow_left (by decide) _))
theorem E_of {n j : Nat} (h : n < 256 ^ j) : (E n).length ≤ j := (E_le _ _).2 (Nat.lt_of_lt_of_le h (Nat.pow_le_pow_left (by decide) _))
theorem Sm.of {n j : Nat} (h : n < 256 ^ j) (hj : j < 1000000) : Sm n := ⟨Nat.lt_of_le_of_lt (D_of h) hj, Nat.lt_of_le_of_lt (E_of h) hj⟩
theorem Sm.le {m n : Nat} (h : Sm n) (hm : m ≤ n) : Sm m := ⟨Nat.lt_of_le_of_lt (D_mono hm) h.1, Nat.lt_of_le_of_lt (E_mono hm) h.2⟩
theorem Sm.gb {n : Nat} (h : n < GB) : Sm n := Sm.of h (by decide)
theorem Sm.add {a b : Nat} (ha : a < GB) (hb : b < GB) : Sm (a + b) := Sm.of (j := 161) (by
  have : GB + GB ≤ 256 ^ 161 := by decide
  omega) (by decide)
theorem bv_gb {s : ByteArray} (h : gok s = true) : bv s < GB := by
  obtain ⟨n, hn, rfl⟩ := gok_cases h
  rw [bv_bts]; exact hn
theorem cmp_f' {a b : Nat} (ha : Sm a) (hb : Sm b) : Av (fun k => impl_nat_cmp.f k (D a) (D b)) (cmpv a b) := cmp_f a b (by have := ha.1; omega) (by have := hb.1; omega)
theorem less_f' {a b : Nat} (ha : Sm a) (h : b ≤ a) : Av (fun k => impl_nat_less.f k (D a) (D b)) (D (a - b)) := less_f a b h (by have := ha.1; omega)
theorem text_f' {a : Nat} (ha : Sm a) : Av (fun k => impl_nat_text.f k (D a)) (bts a) := text_f a (by have := ha.1; omega)
theorem sub_s' {a b : Nat} (ha : Sm a) (h : b ≤ a) : Av (fun k => spec_l02Sub.f k (E a) (E b)) (E (a - b)) := sub_s a b h (by have := ha.2; omega)
theorem out_s' {a : Nat} (ha : Sm a) : Av (fun k => spec_l02Out.f k (E a)) (bts a) := out_s a (by have := ha.2; omega)
/-- Is a's number a rest of p's? -/
def rok (a p : ByteArray) : Bool := gok a && gok p && decide (bv a < bv p)
theorem are_loop (l : List ByteArray) (hl : l.length < 1000000) : ∀ (d i : Nat), l.length - i = d → i ≤ l.length → Av (fun k => impl_areGreat.l0 k l l.length i) ((l.drop i).all gok)
  | 0, i, hd, hi => by
    refine Av.succ ?_
    simp only [impl_areGreat.l0]
    refine Av.ifn (by omega) (Av.ret' ?_)
    rw [List.drop_of_length_le (by omega)]; rfl
  | d + 1, i, hd, hi => by
    have i1 : i < l.length := by omega
    have e1 : wrap64 ((i : Int) + 1) = ((i + 1 : Nat) : Int) := wrap_one (by omega)
    refine Av.succ ?_
    simp only [impl_areGreat.l0, e1]
    have hr : rdOf ByteArray.empty l (i : Int) = l[i] := by
      unfold rdOf
      rw [Int.toNat_natCast, List.getD_eq_getElem?_getD, List.getElem?_eq_getElem i1]; rfl
    refine Av.ifp (by omega) (Av.ifp (by omega) (Av.ifp (by omega) (Av.bindc (gok_f _) ?_)))
    rw [List.drop_eq_getElem_cons i1, List.all_cons, hr]
    cases hg : gok l[i] with
    | false => exact Av.ifn (by decide) Av.ret
    | true => exact Av.ifp (by decide) (by rw [Bool.true_and]; exact are_loop l hl d (i + 1) (by omega) (by omega))
theorem are_f (l : List ByteArray) (hl : l.length < 1000000) : Av (fun k => impl_areGreat.f k l) (l.all gok) := by
  unfold impl_areGreat.f
  have := are_loop l hl l.length 0 (by omega) (by omega)
  rw [List.drop_zero] at this
  exact this
theorem restok_f (a p : ByteArray) : Av (fun k => impl_RestOk.f k a p) (rok a p) := by
  unfold impl_RestOk.f rok
  refine Av.bind (are_f [a, p] (by simp)) ?_
  have e : [a, p].all gok = (gok a && gok p) := by simp
  rw [e]
  cases ha : gok a with
  | false => exact Av.ifn (by simp) Av.ret
  | true =>
    cases hp : gok p with
    | false => exact Av.ifn (by simp) Av.ret
    | true =>
      have h1 := gok_size' ha
      have h2 := gok_size' hp
      refine Av.ifp (by decide) (Av.bind (natOf_f a (by omega)) (Av.bind (natOf_f p (by omega)) (Av.bind (cmp_f' (Sm.gb (bv_gb ha)) (Sm.gb (bv_gb hp))) (Av.ret' ?_))))
      simp only [Bool.and_self, Bool.true_and]
      exact decide_eq_decide.2 cmpv_neg
/-- May p's number be a modulus? -/
def mok (p : ByteArray) : Bool := gok p && decide (1 < bv p)
theorem mok_iff {p : ByteArray} : mok p = true ↔ gok p = true ∧ 1 < bv p := by simp [mok]
theorem bts_one : bts 1 = (⟨#[1]⟩ : ByteArray) := by decide +kernel
theorem mod_s (p : ByteArray) : spec_l04Mod.f p = some (mok p) := by
  unfold spec_l04Mod.f mok
  rw [gok_s, Option.bind_some]
  cases hp : gok p with
  | false => rfl
  | true =>
    rw [if_pos rfl]
    obtain ⟨n, hn, rfl⟩ := gok_cases hp
    rw [bv_bts]
    have h0 : (bts n).toList = ([] : List UInt8) ↔ n = 0 := by
      rw [toList_nil_iff, bts_size]
      rw [List.length_eq_zero_iff, dg_nil (by decide)]
    have h1 : (bts n).toList = ([1] : List UInt8) ↔ n = 1 := by
      have e : ([1] : List UInt8) = (bts 1).toList := by rw [toList_data, bts_one]
      rw [e, toList_eq_iff]
      exact ⟨bts_inj, fun h => by rw [h]⟩
    by_cases c0 : n = 0
    · rw [if_pos (h0.2 c0)]
      simp [c0]
    · rw [if_neg (fun h => c0 (h0.1 h))]
      congr 1
      by_cases c1 : n = 1
      · have := h1.2 c1
        simp only [this]
        subst c1; rfl
      · have h2 : ¬ (bts n).toList = ([1] : List UInt8) := fun h => c1 (h1.1 h)
        have h3 : 1 < n := by omega
        simp [h2, h3]
theorem mod_loop (p : ByteArray) (x : List Int) (l : List ByteArray) (hl : l.length < 1000000) : ∀ (d i : Nat), l.length - i = d → i ≤ l.length → Av (fun k => impl_modulus.l0 k p x l l.length i) (if (l.drop i).all (fun s => rok s p) then (x, true) else ([], false))
  | 0, i, hd, hi => by
    refine Av.succ ?_
    simp only [impl_modulus.l0]
    refine Av.ifn (by omega) (Av.ret' ?_)
    rw [List.drop_of_length_le (by omega)]; rfl
  | d + 1, i, hd, hi => by
    have i1 : i < l.length := by omega
    have e1 : wrap64 ((i : Int) + 1) = ((i + 1 : Nat) : Int) := wrap_one (by omega)
    refine Av.succ ?_
    simp only [impl_modulus.l0, e1]
    have hr : rdOf ByteArray.empty l (i : Int) = l[i] := by
      unfold rdOf
      rw [Int.toNat_natCast, List.getD_eq_getElem?_getD, List.getElem?_eq_getElem i1]; rfl
    refine Av.ifp (by omega) (Av.ifp (by omega) (Av.ifp (by omega) (Av.bind (restok_f _ p) ?_)))
    rw [List.drop_eq_getElem_cons i1, List.all_cons, hr]
    cases hg : rok l[i] p with
    | false => exact Av.ifn (by decide) (Av.ret' rfl)
    | true => exact Av.ifp (by decide) (by rw [Bool.true_and]; exact mod_loop p x l hl d (i + 1) (by omega) (by omega))
theorem mod_f (p : ByteArray) (l : List ByteArray) (hp : p.size < 281474976710656) (hl : l.length < 1000000) : Av (fun k => impl_modulus.f k p l) (if mok p && l.all (fun s => rok s p) then (D (bv p), true) else ([], false)) := by
  unfold impl_modulus.f
  have jT : ∀ x, Av (fun k => impl_modulus.j0 k p l x true) ([], false) := fun x => by
    refine Av.succ ?_
    simp only [impl_modulus.j0]
    exact Av.ifp (by decide) Av.ret
  refine Av.bind (natOf_f p hp) (Av.bindc (gok_f p) ?_)
  unfold mok
  cases hg : gok p with
  | false => exact Av.ifn (by decide) (jT _)
  | true =>
    have hs := small_f 1 (by decide)
    refine Av.ifp (by decide) (Av.bind hs (Av.bind (cmp_f' (Sm.gb (bv_gb hg)) (Sm.of (j := 1) (by decide) (by decide))) ?_))
    by_cases h1 : 1 < bv p
    · have h2 := (@cmpv_pos (bv p) 1).2 h1
      rw [decide_eq_false (show ¬ cmpv (bv p) 1 ≤ 0 by omega), decide_eq_true h1]
      refine Av.succ ?_
      simp only [impl_modulus.j0]
      refine Av.ifn (by decide) ?_
      have := mod_loop p (D (bv p)) l hl l.length 0 (by omega) (by omega)
      rw [List.drop_zero] at this
      rw [Bool.true_and, Bool.true_and]
      exact this
    · have h2 : cmpv (bv p) 1 ≤ 0 := by
        have := @cmpv_pos (bv p) 1
        omega
      rw [decide_eq_true h2, decide_eq_false h1]
      exact jT _
/-- A digit of a number that is shifted to the right. -/
theorem dig_shift {t s : Nat} (h : s ≤ t) (Y : Nat) : Y / 2 ^ s % 2 ^ t = Y % 2 ^ t / 2 ^ s + Y / 2 ^ t % 2 ^ t * 2 ^ (t - s) % 2 ^ t := by
  have e : (2 : Nat) ^ t = 2 ^ s * 2 ^ (t - s) := by rw [← Nat.pow_add]; congr 1; omega
  have e2 : (2 : Nat) ^ t = 2 ^ (t - s) * 2 ^ s := by rw [e, Nat.mul_comm]
  generalize 2 ^ s = P at *
  generalize 2 ^ (t - s) = Q at *
  have h1 : Y % 2 ^ t / P = Y / P % Q := by rw [e, Nat.mod_mul_right_div_self]
  have h2 : Y / P % 2 ^ t = Y / P % Q + Q * (Y / 2 ^ t % P) := by
    rw [e2, Nat.mod_mul, Nat.div_div_eq_div_mul, ← e, e2]
  have h3 : Y / 2 ^ t % 2 ^ t * Q % 2 ^ t = Q * (Y / 2 ^ t % P) := by
    have h4 : ∀ z : Nat, z * Q % (Q * P) = Q * (z % P) := fun z => by rw [Nat.mul_comm z, Nat.mul_mod_mul_left]
    have h5 : Y / 2 ^ t % 2 ^ t % P = Y / 2 ^ t % P := Nat.mod_mod_of_dvd _ ⟨Q, e⟩
    have h6 := h4 (Y / 2 ^ t % 2 ^ t)
    rw [← e2, h5] at h6
    exact h6
  rw [h1, h2, h3]
theorem down_lt {t s x : Nat} (h : s ≤ t) (hx : x < 2 ^ t) : x / 2 ^ s < 2 ^ (t - s) := by
  rw [Nat.div_lt_iff_lt_mul (Nat.pow_pos (by decide)), ← Nat.pow_add]
  have : t - s + s = t := by omega
  rw [this]; exact hx
theorem down_dvd {t s y : Nat} (h : s ≤ t) : y * 2 ^ (t - s) % 2 ^ t % 2 ^ (t - s) = 0 := by
  rw [Nat.mod_mod_of_dvd _ ⟨2 ^ s, by rw [← Nat.pow_add]; congr 1; omega⟩, Nat.mul_mod_left]
/-- The limbs of a shifted number, one of them. -/
theorem down64 {x y s : Nat} (hs : s < 64) (hx : x < 18446744073709551616) : Go.bits .or .u64 (x / 2 ^ s : Nat) (y * 2 ^ (64 - s) % 18446744073709551616 : Nat) = ((x / 2 ^ s + y * 2 ^ (64 - s) % 18446744073709551616 : Nat) : Int) := by
  have e64 : (2 : Nat) ^ 64 = 18446744073709551616 := rfl
  have h1 := down_lt (t := 64) (s := s) (x := x) (by omega) (by rw [e64]; exact hx)
  have h2 := down_dvd (t := 64) (s := s) (y := y) (by omega)
  have h3 : y * 2 ^ (64 - s) % 18446744073709551616 < 18446744073709551616 := Nat.mod_lt _ (by decide)
  rw [e64] at h2
  generalize y * 2 ^ (64 - s) % 18446744073709551616 = Z at *
  have h4 : x / 2 ^ s < 18446744073709551616 := Nat.lt_of_le_of_lt (Nat.div_le_self _ _) hx
  generalize x / 2 ^ s = q at *
  have hc : Go.bits .or .u64 (q : Int) (Z : Int) = Go.bits .or .u64 (Z : Int) (q : Int) := by simp only [Go.bits, BitVec.or_comm]
  have e2 : ((2 : Int) ^ (64 - s)) = ((2 ^ (64 - s) : Nat) : Int) := by simp
  have hj := bits_join .u64 64 (by decide) (fun n h0 h1 => ur h0 (by simpa using h1)) (64 - s) (Z : Int) (q : Int) (Int.natCast_nonneg _) (by rw [e2, ← Int.natCast_emod, h2]; rfl) (Int.ofNat_lt.2 h3) (Int.natCast_nonneg _) (by rw [e2]; exact Int.ofNat_lt.2 h1) (Int.ofNat_lt.2 h4)
  rw [hc, hj, Int.natCast_add, Int.add_comm]
theorem shr_nat {k : IntKind} {x s : Nat} (hs : s ≤ k.bits) : shr k (x : Int) (s : Int) = ((x / 2 ^ s : Nat) : Int) := by
  unfold shr
  rw [Int.toNat_natCast, Nat.min_eq_left hs, natCast_div_pow']
theorem shl_u64 {x s : Nat} (hs : s ≤ 64) : shl .u64 (x : Int) (s : Int) = ((x * 2 ^ s % 18446744073709551616 : Nat) : Int) := by
  unfold shl
  rw [Int.toNat_natCast, Nat.min_eq_left (show s ≤ IntKind.u64.bits from hs), uw]
  have e : (2 : Int) ^ s = ((2 ^ s : Nat) : Int) := by simp
  rw [e, ← Int.natCast_mul]
  rfl
theorem rd_get {l : List Int} {i : Nat} : rd l (i : Int) = l.getD i 0 := by unfold rd; rw [Int.toNat_natCast]
theorem W64 : (18446744073709551616 : Nat) = 2 ^ 64 := rfl
theorem down_dig (a i s : Nat) (hs : s < 64) : a / 2 ^ s / 18446744073709551616 ^ i % 18446744073709551616 = a / 18446744073709551616 ^ i % 18446744073709551616 / 2 ^ s + a / 18446744073709551616 ^ (i + 1) % 18446744073709551616 * 2 ^ (64 - s) % 18446744073709551616 := by
  have h := dig_shift (t := 64) (s := s) (by omega) (a / 18446744073709551616 ^ i)
  rw [← W64, Nat.div_div_eq_div_mul, Nat.div_div_eq_div_mul] at h
  rw [Nat.div_div_eq_div_mul, Nat.mul_comm (2 ^ s), h, Nat.pow_succ]
/-- What is shifted so far: the digits below place i. -/
structure Dn (a s : Nat) (l : List Int) (i : Nat) : Prop where
  len : l.length = (D a).length
  lo : ∀ j, j < i → l.getD j 0 = ((a / 2 ^ s / 18446744073709551616 ^ j % 18446744073709551616 : Nat) : Int)
  hi : ∀ j, i ≤ j → l.getD j 0 = ((a / 18446744073709551616 ^ j % 18446744073709551616 : Nat) : Int)
theorem down_loop (a s : Nat) (hs : s < 64) (hl : (D a).length < 17592186044416) : ∀ (d i : Nat) (l : List Int), (D a).length - i = d → i ≤ (D a).length → Dn a s l i → Av (fun k => impl_nat_down.l0 k (D a) s l (D a).length i) (D (a / 2 ^ s))
  | 0, i, l, hd, hi, h => by
    obtain rfl : i = (D a).length := by omega
    refine Av.succ ?_
    simp only [impl_nat_down.l0]
    refine Av.ifn (by omega) (Av.bind ?_ Av.ret)
    have hlt : a / 2 ^ s < 18446744073709551616 ^ l.length := by
      rw [h.len]
      exact Nat.lt_of_le_of_lt (Nat.div_le_self _ _) ((D_le _ a).1 (Nat.le_refl _))
    refine trim_f' (n := a / 2 ^ s) ?_ (by rw [h.len]; omega) (vl_of_getD (by decide) hlt (fun j hj => h.lo j (by rw [← h.len]; exact hj)))
    intro x hx
    obtain ⟨j, hj, rfl⟩ := List.getElem_of_mem hx
    have h1 := h.lo j (by rw [← h.len]; exact hj)
    rw [List.getD_eq_getElem?_getD, List.getElem?_eq_getElem hj] at h1
    simp only [Option.getD_some] at h1
    rw [h1]
    exact ⟨Int.natCast_nonneg _, Int.ofNat_lt.2 (Nat.mod_lt _ (by decide))⟩
  | d + 1, i, l, hd, hi, h => by
    have i1 : (i : Int) < (D a).length := by omega
    have i2 : i < l.length := by rw [h.len]; omega
    have i3 : (D a).length - (i + 1) = d := by omega
    have i4 : i + 1 ≤ (D a).length := by omega
    have i5 : (i : Int) < l.length := Int.ofNat_lt.2 i2
    have i6 : i < 4611686018427387904 := by omega
    have e1 : wrap64 ((i : Int) + 1) = ((i + 1 : Nat) : Int) := wrap_one i6
    have es : wrap64 (64 - (s : Int)) = ((64 - s : Nat) : Int) := by clear i1 i2 i5 e1 i6 i4; rw [wr (by omega) (by omega)]; omega
    have hx : a / 18446744073709551616 ^ i % 18446744073709551616 < 18446744073709551616 := Nat.mod_lt _ (by decide)
    have hdig := down_dig a i s hs
    have r1 : rd l (i : Int) = ((a / 18446744073709551616 ^ i % 18446744073709551616 : Nat) : Int) := by rw [rd_get]; exact h.hi i (Nat.le_refl _)
    have r2 := rdD a (i + 1)
    have hsh : shr .u64 ((a / 18446744073709551616 ^ i % 18446744073709551616 : Nat) : Int) (s : Int) = _ := shr_nat (k := .u64) (Nat.le_of_lt hs)
    refine Av.succ ?_
    simp only [impl_nat_down.l0, e1, es, r1, r2, hsh, Int.toNat_natCast]
    refine Av.ifp i1 (Av.ifp (Int.natCast_nonneg _) (Av.ifp i5 (Av.ifp (Int.natCast_nonneg _) (Av.bindc rfl ?_))))
    by_cases hlast : i + 1 < (D a).length
    · refine Av.ifp (Int.ofNat_lt.2 hlast) (Av.ifp (Int.natCast_nonneg _) (Av.ifp (Int.natCast_nonneg _) ?_))
      have r3 : rd (l.set i ((a / 18446744073709551616 ^ i % 18446744073709551616 / 2 ^ s : Nat) : Int)) (i : Int) = ((a / 18446744073709551616 ^ i % 18446744073709551616 / 2 ^ s : Nat) : Int) := by
        rw [rd_get, getD_set i2, if_pos rfl]
      rw [r3, shl_u64 (by omega), down64 hs hx, ← hdig, List.set_set]
      refine down_loop a s hs hl d (i + 1) _ i3 i4 ⟨by rw [List.length_set]; exact h.len, ?_, ?_⟩
      · intro j hj
        rw [getD_set i2]
        by_cases hij : i = j
        · subst hij; rw [if_pos rfl]
        · rw [if_neg hij]; exact h.lo j (Nat.lt_of_le_of_ne (Nat.le_of_lt_succ hj) (Ne.symm hij))
      · intro j hj
        rw [getD_set i2, if_neg (Nat.ne_of_lt hj)]
        exact h.hi j (Nat.le_of_lt hj)
    · refine Av.ifn (fun hc => hlast (Int.ofNat_lt.1 hc)) ?_
      have hz : a / 18446744073709551616 ^ (i + 1) % 18446744073709551616 = 0 := by
        have h1 : a < 18446744073709551616 ^ (i + 1) := (D_le _ a).1 (Nat.le_of_not_lt hlast)
        rw [Nat.div_eq_of_lt h1]
      rw [hz, Nat.zero_mul, Nat.zero_mod, Nat.add_zero] at hdig
      rw [← hdig]
      refine down_loop a s hs hl d (i + 1) _ i3 i4 ⟨by rw [List.length_set]; exact h.len, ?_, ?_⟩
      · intro j hj
        rw [getD_set i2]
        by_cases hij : i = j
        · subst hij; rw [if_pos rfl]
        · rw [if_neg hij]; exact h.lo j (Nat.lt_of_le_of_ne (Nat.le_of_lt_succ hj) (Ne.symm hij))
      · intro j hj
        rw [getD_set i2, if_neg (Nat.ne_of_lt hj)]
        exact h.hi j (Nat.le_of_lt hj)
theorem down_f (a s : Nat) (hs : s < 64) (hl : (D a).length < 17592186044416) : Av (fun k => impl_nat_down.f k (D a) s) (D (a / 2 ^ s)) := by
  unfold impl_nat_down.f impl_nat_uint64.f
  refine Av.bindc (if_pos hl) ?_
  exact down_loop a s hs hl (D a).length 0 (D a) (by omega) (by omega) ⟨rfl, fun j hj => by omega, fun j _ => by rw [← rd_get]; exact rdD a j⟩
theorem half_f (a : Nat) (hl : (D a).length < 17592186044416) : Av (fun k => impl_nat_half.f k (D a)) (D (a / 2)) := by
  unfold impl_nat_half.f
  have := down_f a 1 (by decide) hl
  rw [Nat.pow_one] at this
  exact Av.bind this Av.ret
end Go.Proofs.Ytohfimjpfnnpgaa.C
namespace Go.Proofs.Ytohfimjpfnnpgaa.M
open Go.RowKit Go.Proofs.YtohfimjpfnnpgaaW.PrintWords Go.Proofs.YtohfimjpfnnpgaaW.PrintLast Go.Proofs.YtohfimjpfnnpgaaW.PrintMore
/-- The digit that is guessed. -/
def qh (B T d : Nat) : Nat := min (B - 1) (T / d)
theorem qh_le {B T d : Nat} : qh B T d ≤ B - 1 := Nat.min_le_left _ _
theorem qh_mul {B T d : Nat} : qh B T d * d ≤ T := Nat.le_trans (Nat.mul_le_mul_right d (Nat.min_le_right _ _)) (Nat.div_mul_le_self T d)
theorem le_qh {B T d g : Nat} (hd : 0 < d) (h1 : g ≤ B - 1) (h2 : g * d ≤ T) : g ≤ qh B T d := by
  unfold qh
  have := (Nat.le_div_iff_mul_le hd).2 h2
  omega
theorem qh_lt {B T d g : Nat} (hd : 0 < d) (hB : 0 < B) (h : B ≤ g ∨ T < g * d) : qh B T d ≤ g - 1 := by
  rcases h with h | h
  · have := @qh_le B T d; omega
  · have h1 := @qh_mul B T d
    have : qh B T d < g := by
      rcases Nat.lt_or_ge (qh B T d) g with h2 | h2
      · exact h2
      · have := Nat.mul_le_mul_right d h2; omega
    omega
/-- What the guess holds on its way: g * v + r = X, and it is not too small. -/
structure Gs (B v w X z g r : Nat) : Prop where
  sum : g * v + r = X
  ge : qh B (X * B + z) (v * B + w) ≤ g
theorem Gs.start {B v w X z : Nat} (hv : 0 < v) (hz : z < B) : Gs B v w X z (X / v) (X % v) := by
  refine ⟨by rw [Nat.mul_comm]; exact Nat.div_add_mod X v, ?_⟩
  have h1 := @qh_mul B (X * B + z) (v * B + w)
  generalize qh B (X * B + z) (v * B + w) = q at *
  rw [Nat.le_div_iff_mul_le hv]
  rcases Nat.lt_or_ge X (q * v) with h | h
  · exfalso
    have h2 : (X + 1) * B ≤ q * v * B := Nat.mul_le_mul_right B h
    have h3 : q * (v * B + w) = q * v * B + q * w := by grind
    have h4 : (X + 1) * B = X * B + B := by grind
    omega
  · exact h
theorem Gs.key {B v w X z g r : Nat} (h : Gs B v w X z g r) : g * (v * B + w) ≤ X * B + z ↔ g * w ≤ r * B + z := by
  have e1 : g * (v * B + w) = g * v * B + g * w := by grind
  have e2 : X * B = g * v * B + r * B := by rw [← h.sum]; grind
  omega
/-- It's the digit. -/
theorem Gs.done {B v w X z g r : Nat} (h : Gs B v w X z g r) (hv : 0 < v) (hB : 0 < B) (h1 : g ≤ B - 1) (h2 : g * w ≤ r * B + z) : g = qh B (X * B + z) (v * B + w) := by
  refine Nat.le_antisymm (le_qh ?_ h1 (h.key.2 h2)) h.ge
  have := Nat.mul_pos hv hB
  omega
/-- One less. -/
theorem Gs.next {B v w X z g r : Nat} (h : Gs B v w X z g r) (hv : 0 < v) (hB : 0 < B) (h1 : B ≤ g ∨ r * B + z < g * w) : 0 < g ∧ Gs B v w X z (g - 1) (r + v) := by
  have hg : 0 < g := by
    rcases Nat.eq_zero_or_pos g with h0 | h0
    · subst h0; rcases h1 with h1 | h1
      · omega
      · simp at h1
    · exact h0
  refine ⟨hg, ?_, ?_⟩
  · obtain ⟨g', rfl⟩ : ∃ g', g = g' + 1 := ⟨g - 1, by omega⟩
    have := h.sum
    rw [Nat.add_mul] at this
    simp only [Nat.add_sub_cancel]; omega
  · have := Nat.mul_pos hv hB
    refine qh_lt (by omega) hB ?_
    rcases h1 with h1 | h1
    · exact .inl h1
    · refine .inr ?_
      have := h.key
      omega
/-- What is left over has run over: it's the digit. -/
theorem Gs.over {B v w X z g r : Nat} (h : Gs B v w X z g r) (hv : 0 < v) (hB : 0 < B) (hw : w < B) (hX : X < (v + 1) * B) (hr : B ≤ r) : g = qh B (X * B + z) (v * B + w) := by
  have hg : g ≤ B - 1 := by
    rcases Nat.lt_or_ge g B with h1 | h1
    · omega
    · exfalso
      have h2 := Nat.mul_le_mul_right v h1
      have h3 := h.sum
      have h4 : (v + 1) * B = B * v + B := by grind
      omega
  refine h.done hv hB hg ?_
  have h1 : g * w ≤ (B - 1) * (B - 1) := Nat.mul_le_mul hg (by omega)
  have h2 : B * B ≤ r * B := Nat.mul_le_mul_right B hr
  have h3 : (B - 1) * (B - 1) ≤ B * B := Nat.mul_le_mul (by omega) (by omega)
  omega
end Go.Proofs.Ytohfimjpfnnpgaa.M
namespace Go.Proofs.Ytohfimjpfnnpgaa.C
open Go.RowKit Go.Proofs.YtohfimjpfnnpgaaW.PrintWords Go.Proofs.YtohfimjpfnnpgaaW.PrintLast Go.Proofs.YtohfimjpfnnpgaaW.PrintMore
open Go.Proofs.Ytohfimjpfnnpgaa.M Go.Proofs.Ytohfimjpfnnpgaa.F
theorem Upto.bound {B : Nat} (hB : 2 ≤ B) {l : List Int} {i : Nat} {v : Int} (h : Upto B l i v) : 0 ≤ v ∧ v < (B : Int) ^ i := by
  rw [← h.val]
  rw [← sm_getD]
  by_cases hi : i ≤ l.length
  · rw [sm_zero_above hi (fun j h1 h2 => h.zero j h1)]
    exact sm_bound hB (fun j _ => digs_getD h.digs (by omega) j)
  · have e := sm_zero_above (B := (B : Int)) (f := fun j => l.getD j 0) (n := l.length) (m := i) (by omega) (fun j h1 _ => by rw [List.getD_eq_getElem?_getD, List.getElem?_eq_none h1]; rfl)
    rw [← e]
    exact sm_bound hB (fun j _ => digs_getD h.digs (by omega) j)
theorem Upto.put {B : Nat} {l : List Int} {i k : Nat} {v x w : Int} (h : Upto B l k v) (hi : i < l.length) (hik : i < k) (hx : 0 ≤ x ∧ x < B) (hw : w = v + (x - l.getD i 0) * B ^ i) : Upto B (l.set i x) k w :=
  ⟨digs_set h.digs hx, by rw [vl_set B l i x hi, h.val, hw], fun j hj => by rw [getD_set hi, if_neg (by omega)]; exact h.zero j hj⟩
/-- From place k on nothing stands. -/
theorem Upto.less {B : Nat} (hB : 2 ≤ B) {l : List Int} {i k : Nat} {v : Nat} (h : Upto B l i v) (hv : v < B ^ k) : Upto B l k v :=
  ⟨h.digs, h.val, fun j hj => by
    rw [getD_of_vl hB h.digs h.val j]
    have : v < B ^ j := Nat.lt_of_lt_of_le hv (Nat.pow_le_pow_right (by omega) hj)
    rw [Nat.div_eq_of_lt this]; rfl⟩
theorem Upto.get {B : Nat} (hB : 2 ≤ B) {l : List Int} {i : Nat} {v : Nat} (h : Upto B l i v) (j : Nat) : l.getD j 0 = ((v / B ^ j % B : Nat) : Int) := getD_of_vl hB h.digs h.val j
/-- What a step leaves. -/
theorem div_left {U V Pj : Nat} (hV : 0 < V) (hP : 0 < Pj) : U / Pj / V * V * Pj ≤ U ∧ U - U / Pj / V * V * Pj < V * Pj := by
  have h1 := Nat.div_mul_le_self (U / Pj) V
  have h2 := Nat.div_mul_le_self U Pj
  have h3 : U / Pj / V * V * Pj ≤ U / Pj * Pj := Nat.mul_le_mul_right Pj h1
  refine ⟨by omega, ?_⟩
  have h4 : U / Pj < U / Pj / V * V + V := by
    have h8 := Nat.div_add_mod (U / Pj) V
    have h9 := Nat.mod_lt (U / Pj) hV
    rw [Nat.mul_comm V] at h8
    omega
  have h5 : (U / Pj + 1) * Pj ≤ (U / Pj / V * V + V) * Pj := Nat.mul_le_mul_right Pj h4
  have h6 : U < (U / Pj + 1) * Pj := by
    have h8 := Nat.div_add_mod U Pj
    have h9 := Nat.mod_lt U hP
    rw [Nat.add_mul, Nat.one_mul, Nat.mul_comm (U / Pj)]
    omega
  rw [Nat.add_mul (U / Pj / V * V)] at h5
  omega
/-- A quotient in progress: U is left over, q is known from place j on. -/
structure Dv (B A V j U q : Nat) : Prop where
  sum : A = U + q * V
  lt : U < V * B ^ j
theorem Dv.step {B A V j U q : Nat} (hB : 0 < B) (hV : 0 < V) (h : Dv B A V (j + 1) U q) : Dv B A V j (U - U / B ^ j / V * V * B ^ j) (q + U / B ^ j / V * B ^ j) := by
  have hP : 0 < B ^ j := Nat.pow_pos hB
  obtain ⟨h1, h2⟩ := div_left (U := U) hV hP
  refine ⟨?_, h2⟩
  have h3 := h.sum
  have h4 : (q + U / B ^ j / V * B ^ j) * V = q * V + U / B ^ j / V * V * B ^ j := by grind
  omega
theorem Dv.digit {B A V j U q : Nat} (hB : 0 < B) (hV : 0 < V) (h : Dv B A V (j + 1) U q) : U / B ^ j / V < B := by
  have hP : 0 < B ^ j := Nat.pow_pos hB
  rw [Nat.div_lt_iff_lt_mul hV, Nat.div_lt_iff_lt_mul hP]
  have := h.lt
  rw [Nat.pow_succ] at this
  have e : B * V * B ^ j = V * (B ^ j * B) := by grind
  omega
theorem wi63 {n : Int} (h0 : 0 ≤ n) (h1 : n < 2 ^ 63) : IntKind.i64.wrap n = n := by rw [i64_w]; exact wr (by omega) (by omega)
theorem or24 {r x : Nat} (hr : r < 549755813888) (hx : x < 16777216) : Go.bits .or .i64 (wrap64 ((r : Int) * 16777216)) (x : Int) = ((r * 16777216 + x : Nat) : Int) := by
  rw [wr (by omega) (by omega)]
  have := bits_join .i64 63 (by decide) (fun n h0 h1 => wi63 h0 h1) 24 ((r : Int) * 16777216) x (by omega) (by omega) (by omega) (by omega) (by omega) (by omega)
  rw [this]; omega
/-- A list of so many digits with a value. -/
structure Rp (B : Nat) (l : List Int) (L v : Nat) : Prop where
  len : l.length = L
  digs : Digs B l
  val : vl B l = v
theorem Rp.get {B : Nat} (hB : 2 ≤ B) {l : List Int} {L v : Nat} (h : Rp B l L v) (j : Nat) : l.getD j 0 = ((v / B ^ j % B : Nat) : Int) := getD_of_vl hB h.digs h.val j
theorem Rp.zeros {B : Nat} (hB : 0 < B) (L : Nat) : Rp B (List.replicate L 0) L 0 := ⟨by simp, digs_zeros hB L, vl_zeros B L⟩
/-- A digit set where none was. -/
theorem Rp.put {B : Nat} (hB : 2 ≤ B) {l : List Int} {L t i x : Nat} (h : Rp B l L (t * B ^ (i + 1))) (hi : i < L) (hx : x < B) : Rp B (l.set i (x : Int)) L ((t * B + x) * B ^ i) := by
  have h0 := h.get hB i
  have hz : t * B ^ (i + 1) / B ^ i % B = 0 := by
    rw [Nat.pow_succ, Nat.mul_comm (B ^ i), ← Nat.mul_assoc, Nat.mul_div_cancel _ (Nat.pow_pos (by omega)), Nat.mul_mod_left]
  rw [hz] at h0
  refine ⟨by rw [List.length_set]; exact h.len, digs_set h.digs ⟨Int.natCast_nonneg _, Int.ofNat_lt.2 hx⟩, ?_⟩
  rw [vl_set0 (x : Int) (by rw [h.len]; exact hi) h0, h.val]
  rw [Nat.add_mul, Nat.pow_succ, Int.natCast_add, Int.natCast_mul x, Int.natCast_pow]
  congr 2
  grind
theorem tdw {X b : Nat} (h : X / b < 16777216) : wrap64 (Int.tdiv (X : Int) (b : Int)) = ((X / b : Nat) : Int) := by
  rw [td (Int.natCast_nonneg _), ← Int.natCast_ediv]
  generalize X / b = q at *
  exact wr (by omega) (by omega)
theorem tmw {X b : Nat} : Int.tmod (X : Int) (b : Int) = ((X % b : Nat) : Int) := by rw [tm (Int.natCast_nonneg _), ← Int.natCast_emod]
theorem div_step1 {A b : Nat} (hb : 0 < b) (B i : Nat) (hB : 0 < B) : A / B ^ i / b = A / B ^ (i + 1) / b * B + (A / B ^ (i + 1) % b * B + A / B ^ i % B) / b ∧ A / B ^ i % b = (A / B ^ (i + 1) % b * B + A / B ^ i % B) % b := by
  have h1 : A / B ^ i = A / B ^ (i + 1) * B + A / B ^ i % B := by
    rw [Nat.pow_succ, ← Nat.div_div_eq_div_mul, Nat.mul_comm]
    exact (Nat.div_add_mod _ _).symm
  have h2 := Nat.div_add_mod (A / B ^ (i + 1)) b
  generalize A / B ^ (i + 1) = Y at *
  generalize A / B ^ i % B = x at *
  rw [h1]
  have h3 : Y * B + x = (Y % b * B + x) + b * (Y / b * B) := by
    conv => lhs; rw [← h2]
    grind
  rw [h3]
  constructor
  · rw [Nat.add_mul_div_left _ _ hb]; omega
  · rw [Nat.add_mul_mod_self_left]
theorem div1_loop (a b : Nat) (hb0 : 0 < b) (hb : b < 16777216) (hl : (E a).length < 17592186044416) : ∀ (m : Nat) (q : List Int), m ≤ (E a).length → Rp 16777216 q (E a).length (a / 16777216 ^ m / b * 16777216 ^ m) →
    Av (fun k => spec_l02Div.l0 k (E a) (E b) q ((a / 16777216 ^ m % b : Nat) : Int) ((m : Int) - 1)) (E (a / b), E (a % b))
  | 0, q, hm, hq => by
    refine Av.succ ?_
    simp only [spec_l02Div.l0]
    refine Av.ifn (by omega) ?_
    have hr : a % b < 16777216 := Nat.lt_trans (Nat.mod_lt _ hb0) hb
    have hv := hq.val
    simp only [Nat.pow_zero, Nat.div_one, Nat.mul_one] at hv
    simp only [Nat.pow_zero, Nat.div_one]
    refine Av.bind (trim_s' hq.digs (by rw [hq.len]; omega) hv) (Av.bind (trim_s' (n := a % b) ?_ (by simp) (by simp [vl])) Av.ret)
    intro x hx
    simp at hx
    subst hx
    exact below_nat hr
  | m + 1, q, hm, hq => by
    have i1 : (m : Int) < (E a).length := by omega
    have i2 : m < (E a).length := by omega
    have i3 : m < 4611686018427387904 := by omega
    have hlb : (E b).length = 1 := by
      have h1 := (E_le 1 b).2 (by omega)
      have h2 := (E_lt 0 b).2 (by rw [Nat.pow_zero]; exact hb0)
      omega
    have hb1 := rdE b 0
    rw [Nat.pow_zero, Nat.div_one, Nat.mod_eq_of_lt hb] at hb1
    have ha1 := rdE a m
    have hx : a / 16777216 ^ m % 16777216 < 16777216 := Nat.mod_lt _ (by decide)
    have hr : a / 16777216 ^ (m + 1) % b < b := Nat.mod_lt _ hb0
    obtain ⟨s1, s2⟩ := div_step1 (A := a) hb0 16777216 m (by decide)
    have hlt : (a / 16777216 ^ (m + 1) % b * 16777216 + a / 16777216 ^ m % 16777216) / b < 16777216 := by
      rw [Nat.div_lt_iff_lt_mul hb0]; clear hq s1 s2 hb1 ha1; omega
    have hp := hq.put (by decide) i2 hlt
    rw [← s1] at hp
    have ih := div1_loop a b hb0 hb hl m _ (Nat.le_of_lt i2) hp
    rw [s2] at ih
    refine Av.succ ?_
    simp only [spec_l02Div.l0]
    have e0 : ((m + 1 : Nat) : Int) - 1 = (m : Int) := by clear hq s1 s2 hb1 ha1 ih hp; omega
    rw [e0]
    have hr2 : a / 16777216 ^ (m + 1) % b < 549755813888 := Nat.lt_trans hr (Nat.lt_trans hb (by decide))
    have hor := or24 hr2 hx
    have hw : wrap64 ((m : Int) - 1) = (m : Int) - 1 := by clear hq s1 s2 hb1 ha1 ih hp hor hr hr2 hlt hx; exact wr (by omega) (by omega)
    have hlb' : (0 : Int) < (E b).length := by rw [hlb]; decide
    have hne : ¬ ((b : Nat) : Int) = 0 := by clear hq s1 s2 hb1 ha1 ih hp hor hr hr2 hlt hx hw; omega
    have hql : (m : Int) < q.length := by rw [hq.len]; exact i1
    have z0 : ((0 : Nat) : Int) = 0 := rfl
    rw [z0] at hb1
    simp only [ha1, hb1, hor, hw]
    rw [tdw hlt, tmw, Int.toNat_natCast]
    exact Av.ifp (Int.natCast_nonneg _) (Av.ifp (Int.natCast_nonneg _) (Av.ifp i1 (Av.ifp hlb' (Av.ifn hne (Av.ifp hql ih)))))
theorem div_less (a b : Nat) (ha : (E a).length < 17592186044416) (hb : (E b).length < 17592186044416) (h : a < b) : Av (fun k => spec_l02Div.f k (E a) (E b)) (E (a / b), E (a % b)) := by
  unfold spec_l02Div.f
  refine Av.bind (cmp_s a b (by omega) (by omega)) (Av.ifp ?_ (Av.bindc rfl (Av.ifp (by simpa using ha) (Av.ret' ?_))))
  · unfold sgn; rw [if_pos h]; decide
  · rw [Nat.div_eq_of_lt h, Nat.mod_eq_of_lt h]; rfl
theorem div1_s (a b : Nat) (hb0 : 0 < b) (hb : b < 16777216) (hl : (E a).length < 17592186044416) : Av (fun k => spec_l02Div.f k (E a) (E b)) (E (a / b), E (a % b)) := by
  have hlb : (E b).length = 1 := by
    have h1 := (E_le 1 b).2 (by omega)
    have h2 := (E_lt 0 b).2 (by rw [Nat.pow_zero]; exact hb0)
    omega
  by_cases h : a < b
  · exact div_less a b hl (by omega) h
  · unfold spec_l02Div.f
    refine Av.bind (cmp_s a b (by omega) (by omega)) (Av.ifn ?_ (Av.ifp (by omega) (Av.ifp (by omega) (Av.ifp (by omega) ?_))))
    · unfold sgn; rw [if_neg h]; split <;> decide
    · rw [Int.toNat_natCast]
      have hlt : a < 16777216 ^ (E a).length := (E_le _ a).1 (Nat.le_refl _)
      have hz := Rp.zeros (B := 16777216) (by decide) (E a).length
      have hp : 1 ≤ (E a).length := (E_lt 0 a).2 (by rw [Nat.pow_zero]; omega)
      have h2 := div1_loop a b hb0 hb hl (E a).length (List.replicate (E a).length 0) (Nat.le_refl _) (by rw [Nat.div_eq_of_lt hlt]; simpa using hz)
      rw [Nat.div_eq_of_lt hlt] at h2
      have hw : wrap64 (((E a).length : Int) - 1) = ((E a).length : Int) - 1 := wr (by omega) (by omega)
      rw [hw]
      simpa using h2
theorem E_two : E 2 = [2] := by decide +kernel
theorem E_one : E 1 = [1] := by decide +kernel
theorem half_s {a : Nat} (h : Sm a) : Av (fun k => spec_l02Div.f k (E a) [2]) (E (a / 2), E (a % 2)) := by
  have := div1_s a 2 (by decide) (by decide) (by have := h.2; omega)
  rw [E_two] at this
  exact this
theorem half_f' {a : Nat} (h : Sm a) : Av (fun k => impl_nat_half.f k (D a)) (D (a / 2)) := half_f a (by have := h.1; omega)
theorem even_f' {a : Nat} (h : Sm a) : impl_nat_even.f (D a) = some (a % 2 == 0) := even_f a (by have := h.1; omega)
theorem tw_mod {m : Nat} : Int.tmod (rd (E m) 0) 2 = ((m % 2 : Nat) : Int) := by
  have r := rdE m 0
  rw [Nat.pow_zero, Nat.div_one] at r
  have r2 : rd (E m) 0 = _ := r
  rw [r2, tm (Int.natCast_nonneg _)]
  omega
theorem tw_c' {m c a b G : Nat} (hm : 0 < m) (h : m * 2 ^ c < G) (hG : G ≤ (2 ^ a) ^ b) : c < a * b := by
  rcases Nat.lt_or_ge c (a * b) with h1 | h1
  · exact h1
  · exfalso
    have h2 : 2 ^ (a * b) ≤ 2 ^ c := Nat.pow_le_pow_right (by decide) h1
    have h3 : 1 * 2 ^ c ≤ m * 2 ^ c := Nat.mul_le_mul_right _ hm
    rw [Nat.one_mul] at h3
    rw [Nat.pow_mul] at h2
    exact absurd h (Nat.not_lt.2 (Nat.le_trans hG (Nat.le_trans h2 h3)))
theorem tw_c {m c : Nat} (hm : 0 < m) (h : m * 2 ^ c < GB) : c < 8 * 161 := tw_c' hm h (by unfold GB; exact Nat.pow_le_pow_right (by decide) (by decide))
theorem twos_loop : ∀ (m c : Nat), 0 < m → m < GB → m * 2 ^ c < GB → ∃ c' q : Nat, q % 2 = 1 ∧ q ≤ m ∧ m * 2 ^ c = q * 2 ^ c' ∧ Av (fun k => spec_TwosIn.l0 k (E m) c) ((c' : Int), bts q) ∧ Av (fun k => impl_prime_twos.l0 k c (D m)) ((c' : Int), D q) := by
  intro m
  induction m using Nat.strongRecOn with
  | _ m ih =>
    intro c hm hg hb
    have hc := tw_c hm hb
    have hsm := Sm.gb hg
    have hl : 0 < (E m).length := by rw [E_lt, Nat.pow_zero]; exact hm
    have hl' : (0 : Int) < (E m).length := Int.ofNat_lt.2 hl
    have e1 : wrap64 ((c : Int) + 1) = ((c + 1 : Nat) : Int) := wrap_one (by omega)
    by_cases h2 : m % 2 = 0
    · obtain ⟨c', q, k1, k2, k3, k4, k5⟩ := ih (m / 2) (by omega) (c + 1) (by omega) (by omega) (by
        rw [Nat.pow_succ, Nat.mul_comm (2 ^ c), ← Nat.mul_assoc]
        have e : m / 2 * 2 = m := by omega
        rw [e]; exact hb)
      refine ⟨c', q, k1, by omega, ?_, Av.succ ?_, Av.succ ?_⟩
      · rw [← k3, Nat.pow_succ, Nat.mul_comm (2 ^ c) 2, ← Nat.mul_assoc]
        have e : m / 2 * 2 = m := by omega
        rw [e]
      · simp only [spec_TwosIn.l0, e1]
        exact Av.ifp hl' (Av.ifp (by rw [tw_mod, h2]; rfl) (Av.bind (half_s hsm) k4))
      · simp only [impl_prime_twos.l0, e1]
        exact Av.bindc (even_f' hsm) (Av.ifp (by rw [h2]; rfl) (Av.bind (half_f' hsm) k5))
    · refine ⟨c, m, by omega, Nat.le_refl _, rfl, Av.succ ?_, Av.succ ?_⟩
      · simp only [spec_TwosIn.l0]
        exact Av.ifp hl' (Av.ifn (by rw [tw_mod]; exact fun h => h2 (Int.ofNat.inj h)) (Av.bind (out_s' hsm) Av.ret))
      · simp only [impl_prime_twos.l0]
        exact Av.bindc (even_f' hsm) (Av.ifn (by rw [beq_iff_eq]; exact h2) Av.ret)
theorem D_one' : Av (fun k => impl_small.f k 1) (D 1) := small_f 1 (by decide)
/-- One less than p, by halves: what both tell. -/
theorem twos_both {p : Nat} (h1 : 1 < p) (hp : p < GB) : ∃ c q : Nat, q % 2 = 1 ∧ q < p ∧ p - 1 = q * 2 ^ c ∧ Av (fun k => spec_l02Sub.f k (E p) [1]) (E (p - 1)) ∧ Av (fun k => spec_TwosIn.l0 k (E (p - 1)) 0) ((c : Int), bts q) ∧ Av (fun k => impl_prime_twos.f k (D p)) ((c : Int), D q) := by
  obtain ⟨c, q, k1, k2, k3, k4, k5⟩ := twos_loop (p - 1) 0 (by omega) (by omega) (by rw [Nat.pow_zero, Nat.mul_one]; omega)
  rw [Nat.pow_zero, Nat.mul_one] at k3
  have hs := sub_s' (Sm.gb hp) (b := 1) (by omega)
  rw [E_one] at hs
  refine ⟨c, q, k1, by omega, k3, hs, k4, ?_⟩
  unfold impl_prime_twos.f
  exact Av.bind D_one' (Av.bind (less_f' (Sm.gb hp) (by omega)) k5)
theorem twosin_s {p : ByteArray} (hm : mok p = true) {c q : Nat} (h1 : Av (fun k => spec_l02Sub.f k (E (bv p)) [1]) (E (bv p - 1))) (h2 : Av (fun k => spec_TwosIn.l0 k (E (bv p - 1)) 0) ((c : Int), bts q)) : Av (fun k => spec_TwosIn.f k p) ((c : Int), bts q) := by
  unfold spec_TwosIn.f
  have hs := gok_size' (mok_iff.1 hm).1
  exact Av.bindc (mod_s p) (Av.ifp hm (Av.bind (in_s p (by omega)) (Av.bind h1 h2)))
theorem twosin_bad {p : ByteArray} (hm : mok p = false) : Av (fun k => spec_TwosIn.f k p) (0, (⟨#[]⟩ : ByteArray)) := by
  unfold spec_TwosIn.f
  exact Av.bindc (mod_s p) (Av.ifn (by rw [hm]; decide) Av.ret)
end Go.Proofs.Ytohfimjpfnnpgaa.C
