/- Contracts: how many bits a number has, one of them, and the text of limbs, in the program and in the reference. Conditions: those named in each theorem. -/
import Derived.Test.YtbkcchpcadlkdaaC2
import Derived.Test.YtbkcchpcadlkdaaFx4
import Derived.Test.YtbkcchpcadlkdaaFx5
import Derived.Test.YtbkcchpcadlkdaaFx7
set_option linter.unusedVariables false
set_option linter.unusedSimpArgs false
namespace Go.Proofs.Ytbkcchpcadlkdaa.C
open Go.RowKit Go.Proofs.YtbkcchpcadlkdaaW.PrintWords Go.Proofs.YtbkcchpcadlkdaaW.PrintLast Go.Proofs.YtbkcchpcadlkdaaW.PrintMore Go.Proofs.Ytbkcchpcadlkdaa.M Go.Proofs.Ytbkcchpcadlkdaa.F

/-- How many bits a number has. -/
def nb (n : Nat) : Nat := (dg 2 n).length
theorem nb_lt (j n : Nat) : j < nb n ↔ 2 ^ j ≤ n := dg_length_lt (by decide) j n
theorem nb_le (j n : Nat) : nb n ≤ j ↔ n < 2 ^ j := dg_length_le (by decide) j n
theorem nb_div (n s : Nat) : nb (n / 2 ^ s) = nb n - s := by
  have h : ∀ j, j < nb (n / 2 ^ s) ↔ j + s < nb n := fun j => by
    rw [nb_lt, nb_lt, Nat.le_div_iff_mul_le (Nat.pow_pos (by decide)), ← Nat.pow_add]
  have h1 := h (nb (n / 2 ^ s))
  have h2 := h (nb n - s)
  by_cases h0 : nb (n / 2 ^ s) = 0
  · omega
  · have h3 := h (nb (n / 2 ^ s) - 1)
    omega
theorem nb_up {n s : Nat} (h : 2 ^ s ≤ n) : nb n = nb (n / 2 ^ s) + s := by
  have := nb_div n s
  have := (nb_lt s n).2 h
  omega
def lenTab : ByteArray := ⟨#[0, 1, 2, 2, 3, 3, 3, 3, 4, 4, 4, 4, 4, 4, 4, 4, 5, 5, 5, 5, 5, 5, 5, 5, 5, 5, 5, 5, 5, 5, 5, 5, 6, 6, 6, 6, 6, 6, 6, 6, 6, 6, 6, 6, 6, 6, 6, 6, 6, 6, 6, 6, 6, 6, 6, 6, 6, 6, 6, 6, 6, 6, 6, 6, 7, 7, 7, 7, 7, 7, 7, 7, 7, 7, 7, 7, 7, 7, 7, 7, 7, 7, 7, 7, 7, 7, 7, 7, 7, 7, 7, 7, 7, 7, 7, 7, 7, 7, 7, 7, 7, 7, 7, 7, 7, 7, 7, 7, 7, 7, 7, 7, 7, 7, 7, 7, 7, 7, 7, 7, 7, 7, 7, 7, 7, 7, 7, 7, 8, 8, 8, 8, 8, 8, 8, 8, 8, 8, 8, 8, 8, 8, 8, 8, 8, 8, 8, 8, 8, 8, 8, 8, 8, 8, 8, 8, 8, 8, 8, 8, 8, 8, 8, 8, 8, 8, 8, 8, 8, 8, 8, 8, 8, 8, 8, 8, 8, 8, 8, 8, 8, 8, 8, 8, 8, 8, 8, 8, 8, 8, 8, 8, 8, 8, 8, 8, 8, 8, 8, 8, 8, 8, 8, 8, 8, 8, 8, 8, 8, 8, 8, 8, 8, 8, 8, 8, 8, 8, 8, 8, 8, 8, 8, 8, 8, 8, 8, 8, 8, 8, 8, 8, 8, 8, 8, 8, 8, 8, 8, 8, 8, 8, 8, 8, 8, 8, 8, 8, 8, 8, 8, 8, 8, 8, 8, 8]⟩
theorem lenTab_all : ∀ i : Fin 256, bt lenTab (i.val : Int) = (nb i.val : Int) := by decide +kernel
theorem lenTab_at {x : Int} {n : Nat} (h : x = n) (hn : n < 256) : bt lenTab x = (nb n : Int) := by subst h; exact lenTab_all ⟨n, hn⟩
theorem nb_lt_256 {n : Nat} (h : n < 256) : nb n ≤ 8 := (nb_le 8 n).2 (by omega)
set_option maxRecDepth 100000 in
theorem len_j0 (x c : Nat) (hx : x < 4294967296) (hc : c ≤ 32) : Av (fun k => bits_Len64.j0 k x c) ((nb x + c : Nat) : Int) := by
  refine Av.succ ?_
  simp only [bits_Len64.j0]
  by_cases h1 : 65536 ≤ x
  · refine Av.ifp (by omega) ?_
    have e1 := nb_up (s := 16) (show 2 ^ 16 ≤ x by omega)
    by_cases h2 : 16777216 ≤ x
    · refine Av.ifp (by omega) (Av.ifp (by omega) (Av.ifp (by omega) (Av.ret' ?_)))
      have e2 := nb_up (n := x / 2 ^ 16) (s := 8) (by omega)
      have hl := nb_lt_256 (n := x / 2 ^ 16 / 2 ^ 8) (by omega)
      show wrap64 (wrap64 (wrap64 ((c : Int) + 16) + 8) + wrap64 (bt lenTab _)) = _
      rw [lenTab_at (n := x / 2 ^ 16 / 2 ^ 8) (by omega) (by omega), wr (x := (nb _ : Int)) (by omega) (by omega), wr (x := (c : Int) + 16) (by omega) (by omega), wr (x := (c : Int) + 16 + 8) (by omega) (by omega), wr (by omega) (by omega)]
      omega
    · refine Av.ifn (by omega) (Av.ifp (by omega) (Av.ifp (by omega) (Av.ret' ?_)))
      have hl := nb_lt_256 (n := x / 2 ^ 16) (by omega)
      show wrap64 (wrap64 ((c : Int) + 16) + wrap64 (bt lenTab _)) = _
      rw [lenTab_at (n := x / 2 ^ 16) (by omega) (by omega), wr (x := (nb _ : Int)) (by omega) (by omega), wr (x := (c : Int) + 16) (by omega) (by omega), wr (by omega) (by omega)]
      omega
  · refine Av.ifn (by omega) ?_
    by_cases h2 : 256 ≤ x
    · refine Av.ifp (by omega) (Av.ifp (by omega) (Av.ifp (by omega) (Av.ret' ?_)))
      have e2 := nb_up (n := x) (s := 8) (by omega)
      have hl := nb_lt_256 (n := x / 2 ^ 8) (by omega)
      show wrap64 (wrap64 ((c : Int) + 8) + wrap64 (bt lenTab _)) = _
      rw [lenTab_at (n := x / 2 ^ 8) (by omega) (by omega), wr (x := (nb _ : Int)) (by omega) (by omega), wr (x := (c : Int) + 8) (by omega) (by omega), wr (by omega) (by omega)]
      omega
    · refine Av.ifn (by omega) (Av.ifp (by omega) (Av.ifp (by omega) (Av.ret' ?_)))
      have hl := nb_lt_256 (n := x) (by omega)
      show wrap64 ((c : Int) + wrap64 (bt lenTab _)) = _
      rw [lenTab_at (n := x) (by omega) (by omega), wr (x := (nb _ : Int)) (by omega) (by omega), wr (by omega) (by omega)]
      omega
theorem len_f (x : Nat) (hx : x < 18446744073709551616) : Av (fun k => bits_Len64.f k x) (nb x : Int) := by
  unfold bits_Len64.f
  by_cases h : 4294967296 ≤ x
  · refine Av.ifp (by omega) ?_
    have e1 := nb_up (s := 32) (show 2 ^ 32 ≤ x by omega)
    have := len_j0 (x / 2 ^ 32) 32 (by omega) (by omega)
    rw [← e1] at this
    have e : (x : Int) / 4294967296 = ((x / 2 ^ 32 : Nat) : Int) := by omega
    rw [e]
    exact this
  · refine Av.ifn (by omega) ?_
    exact len_j0 x 0 (by omega) (by omega)
theorem lz_f (x : Nat) (hx : x < 18446744073709551616) : Av (fun k => bits_LeadingZeros64.f k x) (64 - (nb x : Int)) := by
  unfold bits_LeadingZeros64.f
  refine Av.bind (len_f x hx) (Av.ret' ?_)
  have := (nb_le 64 x).2 (by omega)
  rw [wr (by omega) (by omega)]
theorem W_pow (q : Nat) : (18446744073709551616 : Nat) ^ q = 2 ^ (64 * q) := by rw [Nat.pow_mul]
theorem size_f (n : Nat) (h : (D n).length < 4611686018427387) : Av (fun k => impl_nat_size.f k (D n)) (nb n : Int) := by
  unfold impl_nat_size.f
  by_cases h0 : n = 0
  · subst h0
    refine Av.ifp (by simp [dg_zero]) (Av.ret' (by simp [nb, dg_zero]))
  · have hl : 0 < (D n).length := by rw [D_lt]; simp; omega
    have hlo := (D_lt ((D n).length - 1) n).1 (by omega)
    have hhi := (D_le (D n).length n).1 (Nat.le_refl _)
    have hr : rd (D n) (((D n).length : Int) - 1) = ((n / 2 ^ (64 * ((D n).length - 1)) : Nat) : Int) := by
      have e : ((D n).length : Int) - 1 = (((D n).length - 1 : Nat) : Int) := by omega
      rw [e, rdD, W_pow]
      congr 1
      apply Nat.mod_eq_of_lt
      rw [Nat.div_lt_iff_lt_mul (Nat.pow_pos (by decide))]
      have e2 : (D n).length = (D n).length - 1 + 1 := by omega
      rw [e2, Nat.pow_succ, Nat.mul_comm, W_pow] at hhi
      exact hhi
    rw [W_pow] at hlo
    have hn := nb_up hlo
    have hlt : n / 2 ^ (64 * ((D n).length - 1)) < 18446744073709551616 := by
      rw [Nat.div_lt_iff_lt_mul (Nat.pow_pos (by decide))]
      have e2 : (D n).length = (D n).length - 1 + 1 := by omega
      rw [e2, Nat.pow_succ, Nat.mul_comm, W_pow] at hhi
      exact hhi
    refine Av.ifn (by omega) ?_
    simp (disch := omega) only [wr, if_pos, hr]
    refine Av.bind (lz_f _ hlt) (Av.ret' ?_)
    have := (nb_le 64 (n / 2 ^ (64 * ((D n).length - 1)))).2 (by omega)
    rw [wr (by omega) (by omega)]
    omega
theorem mod_div_mod {b : Nat} (hb : 0 < b) (x : Nat) {t r : Nat} (h : r < t) : x % b ^ t / b ^ r % b = x / b ^ r % b := by
  have e : b ^ t = b ^ r * b ^ (t - r) := by rw [← Nat.pow_add]; congr 1; omega
  rw [e, Nat.mod_mul_right_div_self]
  apply Nat.mod_mod_of_dvd
  have : t - r = t - r - 1 + 1 := by omega
  rw [this, Nat.pow_succ]
  exact Nat.dvd_mul_left _ _
/-- The lesser digits inside a digit. -/
theorem dig_sub {b : Nat} (hb : 0 < b) (n t q : Nat) {r : Nat} (h : r < t) : n / (b ^ t) ^ q % b ^ t / b ^ r % b = n / b ^ (t * q + r) % b := by
  rw [mod_div_mod hb _ h, Nat.div_div_eq_div_mul, ← Nat.pow_mul, ← Nat.pow_add]
theorem and1 {k : Int} (h0 : 0 ≤ k) (h1 : k < 18446744073709551616) : Go.bits .and .u64 k 1 = k % 2 :=
  bits_mask .u64 64 (by decide) (fun n h0 h1 => ur h0 (by simpa using h1)) 1 (by decide) k h0 (by simpa using h1)
theorem natCast_div_pow (a j : Nat) : ((a : Int) / 2 ^ j) = ((a / 2 ^ j : Nat) : Int) := by
  have e : (2 : Int) ^ j = ((2 ^ j : Nat) : Int) := by simp
  rw [e]; rfl
theorem bit_f (n j : Nat) (h : (D n).length < 100000000000000000) (hj : j < 9223372036854775808) : impl_nat_bit.f (D n) j = some ((n / 2 ^ j % 2 : Nat) : Int) := by
  unfold impl_nat_bit.f
  rw [if_neg (by omega), wr (x := 64 * _) (by omega) (by omega)]
  by_cases hb : 64 * (D n).length ≤ j
  · rw [if_pos (by omega)]
    have hhi := (D_le (D n).length n).1 (Nat.le_refl _)
    rw [W_pow] at hhi
    have : n < 2 ^ j := Nat.lt_of_lt_of_le hhi (Nat.pow_le_pow_right (by decide) hb)
    rw [Nat.div_eq_of_lt this]; rfl
  · rw [if_neg (by omega)]
    simp (disch := omega) only [td, tm, wr, if_pos]
    congr 1
    have e1 : (j : Int) / 64 = ((j / 64 : Nat) : Int) := by omega
    have e2 : min ((j : Int) % 64).toNat IntKind.u64.bits = j % 64 := by simp only [IntKind.bits]; omega
    unfold shr
    rw [e1, rdD, e2]
    have e3 := natCast_div_pow (n / 18446744073709551616 ^ (j / 64) % 18446744073709551616) (j % 64)
    have hlt : n / 18446744073709551616 ^ (j / 64) % 18446744073709551616 / 2 ^ (j % 64) < 18446744073709551616 :=
      Nat.lt_of_le_of_lt (Nat.div_le_self _ _) (Nat.mod_lt _ (by decide))
    rw [e3, and1 (Int.natCast_nonneg _) (by have := Int.ofNat_lt.2 hlt; exact this)]
    have h4 := dig_sub (b := 2) (by decide) n 64 (j / 64) (r := j % 64) (by omega)
    have e5 : 64 * (j / 64) + j % 64 = j := by omega
    rw [e5] at h4
    have e6 : (2 : Nat) ^ 64 = 18446744073709551616 := rfl
    rw [e6] at h4
    rw [← h4]
    omega
theorem bit_neg (n : Nat) (j : Int) (hj : j < 0) : impl_nat_bit.f (D n) j = some 0 := by unfold impl_nat_bit.f; rw [if_pos hj]
theorem even_f (n : Nat) (h : (D n).length < 100000000000000000) : impl_nat_even.f (D n) = some (n % 2 == 0) := by
  unfold impl_nat_even.f
  have := bit_f n 0 h (by omega)
  simp only [Int.natCast_zero] at this
  have e : (((0 : Nat) : Int)) = 0 := rfl
  rw [show impl_nat_bit.f (D n) 0 = some ((n / 2 ^ 0 % 2 : Nat) : Int) from this]
  simp only [Option.bind_some, Nat.pow_zero, Nat.div_one]
  congr 1
  rw [Bool.eq_iff_iff]
  simp
  omega

/-! ### the text of limbs -/
theorem bytes_of_bits (n : Nat) : (dg 256 n).length = (nb n + 7) / 8 := by
  have h : ∀ j, j < (dg 256 n).length ↔ 8 * j < nb n := fun j => by
    rw [dg_length_lt (by decide), nb_lt, Nat.pow_mul]
  have h1 := h (dg 256 n).length
  by_cases h0 : (dg 256 n).length = 0
  · have := h 0; omega
  · have := h ((dg 256 n).length - 1)
    omega
theorem text_loop (n : Nat) (h : (D n).length < 17592186044416) : ∀ m : Nat, m ≤ (dg 256 n).length → Av (fun k => impl_nat_text.l0 k (D n) ((dg 256 n).drop m).reverse m) (bts n)
  | 0, _ => by
    refine Av.succ ?_
    simp only [impl_nat_text.l0]
    refine Av.ifn (by omega) (Av.ret' ?_)
    simp [bts]
  | m + 1, hm => by
    refine Av.succ ?_
    simp only [impl_nat_text.l0]
    have hb : (dg 256 n).length ≤ 8 * (D n).length := by
      rw [dg_length_le (by decide), Nat.pow_mul]
      exact (D_le _ n).1 (Nat.le_refl _)
    have e1 : (((m + 1 : Nat) : Int) - 1) = m := by omega
    rw [e1]
    simp (disch := omega) only [wr, td, tm, if_pos]
    have hlen : (((dg 256 n).drop (m + 1)).reverse).length ≤ (dg 256 n).length := by rw [List.length_reverse, List.length_drop]; omega
    refine Av.ifp (by omega) ?_
    have e2 : shr .u64 (rd (D n) ((m : Int) / 8)) (8 * ((m : Int) % 8)) % 256 = (dg 256 n)[m]'(by omega) := by
      have e3 : (m : Int) / 8 = ((m / 8 : Nat) : Int) := by omega
      have e4 : min (8 * ((m : Int) % 8)).toNat IntKind.u64.bits = 8 * (m % 8) := by simp only [IntKind.bits]; omega
      unfold shr
      rw [e3, rdD, e4]
      have e5 := natCast_div_pow (n / 18446744073709551616 ^ (m / 8) % 18446744073709551616) (8 * (m % 8))
      rw [e5]
      have h4 := dig_sub (b := 256) (by decide) n 8 (m / 8) (r := m % 8) (by omega)
      have e6 : 8 * (m / 8) + m % 8 = m := by omega
      have e7 : (256 : Nat) ^ 8 = 18446744073709551616 := rfl
      have e8 : (2 : Nat) ^ (8 * (m % 8)) = 256 ^ (m % 8) := by rw [Nat.pow_mul]
      rw [e6, e7] at h4
      rw [e8]
      have h9 := dg_getD (B := 256) (by decide) m n
      rw [List.getD_eq_getElem?_getD, List.getElem?_eq_getElem (by omega)] at h9
      simp only [Option.getD_some] at h9
      rw [h9, ← h4]
      omega
    rw [e2]
    have e9 : ((dg 256 n).drop (m + 1)).reverse ++ [(dg 256 n)[m]'(by omega)] = ((dg 256 n).drop m).reverse := by
      rw [List.drop_eq_getElem_cons (show m < (dg 256 n).length by omega), List.reverse_cons]
    rw [e9]
    exact text_loop n h m (by omega)
theorem text_f (n : Nat) (h : (D n).length < 1759218604441) : Av (fun k => impl_nat_text.f k (D n)) (bts n) := by
  unfold impl_nat_text.f
  refine Av.bind (size_f n (by omega)) ?_
  have hb : (dg 256 n).length ≤ 8 * (D n).length := by
    rw [dg_length_le (by decide), Nat.pow_mul]
    exact (D_le _ n).1 (Nat.le_refl _)
  have hn := bytes_of_bits n
  simp (disch := omega) only [wr, td]
  have e : ((nb n : Int) + 7) / 8 = (((dg 256 n).length : Nat) : Int) := by omega
  rw [e]
  have := text_loop n (by omega) (dg 256 n).length (Nat.le_refl _)
  rw [List.drop_length, List.reverse_nil] at this
  exact this

/-! ### l02Out -/
end Go.Proofs.Ytbkcchpcadlkdaa.C
