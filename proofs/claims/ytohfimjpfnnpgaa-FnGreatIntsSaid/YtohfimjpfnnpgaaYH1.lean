/- Words and contracts that the laws of this claim lean on: numbers as limbs, and what the functions make of them. Conditions: those named in each theorem. -/
import Derived.Test.YtohfimjpfnnpgaaVHOwnWords
import Derived.Test.YtohfimjpfnnpgaaYH0
import Derived.Test.YtohfimjpfnnpgaaZH0
import Derived.Test.YtohfimjpfnnpgaaZH1
import Derived.Test.YtohfimjpfnnpgaaZH2
import Derived.Test.YtohfimjpfnnpgaaZH3
import Derived.Test.YtohfimjpfnnpgaaZH4
set_option linter.unusedVariables false
set_option linter.unusedSimpArgs false
set_option maxRecDepth 100000
namespace Go.Proofs.Ytohfimjpfnnpgaa.C
open Go.RowKit Go.Proofs.YtohfimjpfnnpgaaW.PrintWords Go.Proofs.YtohfimjpfnnpgaaW.PrintLast Go.Proofs.YtohfimjpfnnpgaaW.PrintMore
open Go.Proofs.Ytohfimjpfnnpgaa.M Go.Proofs.Ytohfimjpfnnpgaa.F
theorem mul_s (a b : Nat) (hl : (E a).length + (E b).length < 17592186044416) : Av (fun k => spec_l02Mul.f k (E a) (E b)) (E (a * b)) := by
  unfold spec_l02Mul.f
  have e : wrap64 (((E a).length : Int) + (E b).length) = (((E a).length + (E b).length : Nat) : Int) := wrap_add (by omega)
  simp only [e, Int.toNat_natCast]
  refine Av.ifp (by omega) (Av.ifp (by omega) ?_)
  have h := mul_s_loop a b hl _ 0 (List.replicate ((E a).length + (E b).length) 0) rfl (Nat.zero_le _) (by
    rw [Nat.pow_zero, Nat.mod_one]
    have := (Up24.start ((E a).length + (E b).length)).more (j := 0 + (E b).length) (Nat.zero_le _)
    simpa using this)
  exact h
/-- How many bits a number has. -/
def nb (n : Nat) : Nat := (dg 2 n).length
theorem nb_lt (j n : Nat) : j < nb n ↔ 2 ^ j ≤ n := dg_length_lt (by decide) j n
theorem nb_le (j n : Nat) : nb n ≤ j ↔ n < 2 ^ j := dg_length_le (by decide) j n
theorem nb_div (n s : Nat) : nb (n / 2 ^ s) = nb n - s := by
  have h : ∀ j, j < nb (n / 2 ^ s) ↔ j + s < nb n := fun j => by
    rw [nb_lt, nb_lt, Nat.le_div_iff_mul_le (Nat.pow_pos (by decide)), ← Nat.pow_add]
  have h1 := h (nb (n / 2 ^ s))
  have h2 := h (nb n - s)
  by_cases h0 : nb (n / 2 ^ s) = 0
  · omega
  · have h3 := h (nb (n / 2 ^ s) - 1)
    omega
theorem nb_up {n s : Nat} (h : 2 ^ s ≤ n) : nb n = nb (n / 2 ^ s) + s := by
  have := nb_div n s
  have := (nb_lt s n).2 h
  omega
def lenTab : ByteArray := ⟨#[0, 1, 2, 2, 3, 3, 3, 3, 4, 4, 4, 4, 4, 4, 4, 4, 5, 5, 5, 5, 5, 5, 5, 5, 5, 5, 5, 5, 5, 5, 5, 5, 6, 6, 6, 6, 6, 6, 6, 6, 6, 6, 6, 6, 6, 6, 6, 6, 6, 6, 6, 6, 6, 6, 6, 6, 6, 6, 6, 6, 6, 6, 6, 6, 7, 7, 7, 7, 7, 7, 7, 7, 7, 7, 7, 7, 7, 7, 7, 7, 7, 7, 7, 7, 7, 7, 7, 7, 7, 7, 7, 7, 7, 7, 7, 7, 7, 7, 7, 7, 7, 7, 7, 7, 7, 7, 7, 7, 7, 7, 7, 7, 7, 7, 7, 7, 7, 7, 7, 7, 7, 7, 7, 7, 7, 7, 7, 7, 8, 8, 8, 8, 8, 8, 8, 8, 8, 8, 8, 8, 8, 8, 8, 8, 8, 8, 8, 8, 8, 8, 8, 8, 8, 8, 8, 8, 8, 8, 8, 8, 8, 8, 8, 8, 8, 8, 8, 8, 8, 8, 8, 8, 8, 8, 8, 8, 8, 8, 8, 8, 8, 8, 8, 8, 8, 8, 8, 8, 8, 8, 8, 8, 8, 8, 8, 8, 8, 8, 8, 8, 8, 8, 8, 8, 8, 8, 8, 8, 8, 8, 8, 8, 8, 8, 8, 8, 8, 8, 8, 8, 8, 8, 8, 8, 8, 8, 8, 8, 8, 8, 8, 8, 8, 8, 8, 8, 8, 8, 8, 8, 8, 8, 8, 8, 8, 8, 8, 8, 8, 8, 8, 8, 8, 8, 8, 8]⟩
theorem lenTab_all : ∀ i : Fin 256, bt lenTab (i.val : Int) = (nb i.val : Int) := by decide +kernel
theorem lenTab_at {x : Int} {n : Nat} (h : x = n) (hn : n < 256) : bt lenTab x = (nb n : Int) := by subst h; exact lenTab_all ⟨n, hn⟩
theorem nb_lt_256 {n : Nat} (h : n < 256) : nb n ≤ 8 := (nb_le 8 n).2 (by omega)
set_option maxRecDepth 100000 in
theorem len_j0 (x c : Nat) (hx : x < 4294967296) (hc : c ≤ 32) : Av (fun k => bits_Len64.j0 k x c) ((nb x + c : Nat) : Int) := by
  refine Av.succ ?_
  simp only [bits_Len64.j0]
  by_cases h1 : 65536 ≤ x
  · refine Av.ifp (by omega) ?_
    have e1 := nb_up (s := 16) (show 2 ^ 16 ≤ x by omega)
    by_cases h2 : 16777216 ≤ x
    · refine Av.ifp (by omega) (Av.ifp (by omega) (Av.ifp (by omega) (Av.ret' ?_)))
      have e2 := nb_up (n := x / 2 ^ 16) (s := 8) (by omega)
      have hl := nb_lt_256 (n := x / 2 ^ 16 / 2 ^ 8) (by omega)
      show wrap64 (wrap64 (wrap64 ((c : Int) + 16) + 8) + wrap64 (bt lenTab _)) = _
      rw [lenTab_at (n := x / 2 ^ 16 / 2 ^ 8) (by omega) (by omega), wr (x := (nb _ : Int)) (by omega) (by omega), wr (x := (c : Int) + 16) (by omega) (by omega), wr (x := (c : Int) + 16 + 8) (by omega) (by omega), wr (by omega) (by omega)]
      omega
    · refine Av.ifn (by omega) (Av.ifp (by omega) (Av.ifp (by omega) (Av.ret' ?_)))
      have hl := nb_lt_256 (n := x / 2 ^ 16) (by omega)
      show wrap64 (wrap64 ((c : Int) + 16) + wrap64 (bt lenTab _)) = _
      rw [lenTab_at (n := x / 2 ^ 16) (by omega) (by omega), wr (x := (nb _ : Int)) (by omega) (by omega), wr (x := (c : Int) + 16) (by omega) (by omega), wr (by omega) (by omega)]
      omega
  · refine Av.ifn (by omega) ?_
    by_cases h2 : 256 ≤ x
    · refine Av.ifp (by omega) (Av.ifp (by omega) (Av.ifp (by omega) (Av.ret' ?_)))
      have e2 := nb_up (n := x) (s := 8) (by omega)
      have hl := nb_lt_256 (n := x / 2 ^ 8) (by omega)
      show wrap64 (wrap64 ((c : Int) + 8) + wrap64 (bt lenTab _)) = _
      rw [lenTab_at (n := x / 2 ^ 8) (by omega) (by omega), wr (x := (nb _ : Int)) (by omega) (by omega), wr (x := (c : Int) + 8) (by omega) (by omega), wr (by omega) (by omega)]
      omega
    · refine Av.ifn (by omega) (Av.ifp (by omega) (Av.ifp (by omega) (Av.ret' ?_)))
      have hl := nb_lt_256 (n := x) (by omega)
      show wrap64 ((c : Int) + wrap64 (bt lenTab _)) = _
      rw [lenTab_at (n := x) (by omega) (by omega), wr (x := (nb _ : Int)) (by omega) (by omega), wr (by omega) (by omega)]
      omega
theorem len_f (x : Nat) (hx : x < 18446744073709551616) : Av (fun k => bits_Len64.f k x) (nb x : Int) := by
  unfold bits_Len64.f
  by_cases h : 4294967296 ≤ x
  · refine Av.ifp (by omega) ?_
    have e1 := nb_up (s := 32) (show 2 ^ 32 ≤ x by omega)
    have := len_j0 (x / 2 ^ 32) 32 (by omega) (by omega)
    rw [← e1] at this
    have e : (x : Int) / 4294967296 = ((x / 2 ^ 32 : Nat) : Int) := by omega
    rw [e]
    exact this
  · refine Av.ifn (by omega) ?_
    exact len_j0 x 0 (by omega) (by omega)
theorem lz_f (x : Nat) (hx : x < 18446744073709551616) : Av (fun k => bits_LeadingZeros64.f k x) (64 - (nb x : Int)) := by
  unfold bits_LeadingZeros64.f
  refine Av.bind (len_f x hx) (Av.ret' ?_)
  have := (nb_le 64 x).2 (by omega)
  rw [wr (by omega) (by omega)]
theorem W_pow (q : Nat) : (18446744073709551616 : Nat) ^ q = 2 ^ (64 * q) := by rw [Nat.pow_mul]
theorem size_f (n : Nat) (h : (D n).length < 4611686018427387) : Av (fun k => impl_nat_size.f k (D n)) (nb n : Int) := by
  unfold impl_nat_size.f
  by_cases h0 : n = 0
  · subst h0
    refine Av.ifp (by simp [dg_zero]) (Av.ret' (by simp [nb, dg_zero]))
  · have hl : 0 < (D n).length := by rw [D_lt]; simp; omega
    have hlo := (D_lt ((D n).length - 1) n).1 (by omega)
    have hhi := (D_le (D n).length n).1 (Nat.le_refl _)
    have hr : rd (D n) (((D n).length : Int) - 1) = ((n / 2 ^ (64 * ((D n).length - 1)) : Nat) : Int) := by
      have e : ((D n).length : Int) - 1 = (((D n).length - 1 : Nat) : Int) := by omega
      rw [e, rdD, W_pow]
      congr 1
      apply Nat.mod_eq_of_lt
      rw [Nat.div_lt_iff_lt_mul (Nat.pow_pos (by decide))]
      have e2 : (D n).length = (D n).length - 1 + 1 := by omega
      rw [e2, Nat.pow_succ, Nat.mul_comm, W_pow] at hhi
      exact hhi
    rw [W_pow] at hlo
    have hn := nb_up hlo
    have hlt : n / 2 ^ (64 * ((D n).length - 1)) < 18446744073709551616 := by
      rw [Nat.div_lt_iff_lt_mul (Nat.pow_pos (by decide))]
      have e2 : (D n).length = (D n).length - 1 + 1 := by omega
      rw [e2, Nat.pow_succ, Nat.mul_comm, W_pow] at hhi
      exact hhi
    refine Av.ifn (by omega) ?_
    simp (disch := omega) only [wr, if_pos, hr]
    refine Av.bind (lz_f _ hlt) (Av.ret' ?_)
    have := (nb_le 64 (n / 2 ^ (64 * ((D n).length - 1)))).2 (by omega)
    rw [wr (by omega) (by omega)]
    omega
theorem mod_div_mod {b : Nat} (hb : 0 < b) (x : Nat) {t r : Nat} (h : r < t) : x % b ^ t / b ^ r % b = x / b ^ r % b := by
  have e : b ^ t = b ^ r * b ^ (t - r) := by rw [← Nat.pow_add]; congr 1; omega
  rw [e, Nat.mod_mul_right_div_self]
  apply Nat.mod_mod_of_dvd
  have : t - r = t - r - 1 + 1 := by omega
  rw [this, Nat.pow_succ]
  exact Nat.dvd_mul_left _ _
/-- The lesser digits inside a digit. -/
theorem dig_sub {b : Nat} (hb : 0 < b) (n t q : Nat) {r : Nat} (h : r < t) : n / (b ^ t) ^ q % b ^ t / b ^ r % b = n / b ^ (t * q + r) % b := by
  rw [mod_div_mod hb _ h, Nat.div_div_eq_div_mul, ← Nat.pow_mul, ← Nat.pow_add]
theorem and1 {k : Int} (h0 : 0 ≤ k) (h1 : k < 18446744073709551616) : Go.bits .and .u64 k 1 = k % 2 :=
  bits_mask .u64 64 (by decide) (fun n h0 h1 => ur h0 (by simpa using h1)) 1 (by decide) k h0 (by simpa using h1)
theorem natCast_div_pow (a j : Nat) : ((a : Int) / 2 ^ j) = ((a / 2 ^ j : Nat) : Int) := by
  have e : (2 : Int) ^ j = ((2 ^ j : Nat) : Int) := by simp
  rw [e]; rfl
theorem bit_f (n j : Nat) (h : (D n).length < 100000000000000000) (hj : j < 9223372036854775808) : impl_nat_bit.f (D n) j = some ((n / 2 ^ j % 2 : Nat) : Int) := by
  unfold impl_nat_bit.f
  rw [if_neg (by omega), wr (x := 64 * _) (by omega) (by omega)]
  by_cases hb : 64 * (D n).length ≤ j
  · rw [if_pos (by omega)]
    have hhi := (D_le (D n).length n).1 (Nat.le_refl _)
    rw [W_pow] at hhi
    have : n < 2 ^ j := Nat.lt_of_lt_of_le hhi (Nat.pow_le_pow_right (by decide) hb)
    rw [Nat.div_eq_of_lt this]; rfl
  · rw [if_neg (by omega)]
    simp (disch := omega) only [td, tm, wr, if_pos]
    congr 1
    have e1 : (j : Int) / 64 = ((j / 64 : Nat) : Int) := by omega
    have e2 : min ((j : Int) % 64).toNat IntKind.u64.bits = j % 64 := by simp only [IntKind.bits]; omega
    unfold shr
    rw [e1, rdD, e2]
    have e3 := natCast_div_pow (n / 18446744073709551616 ^ (j / 64) % 18446744073709551616) (j % 64)
    have hlt : n / 18446744073709551616 ^ (j / 64) % 18446744073709551616 / 2 ^ (j % 64) < 18446744073709551616 :=
      Nat.lt_of_le_of_lt (Nat.div_le_self _ _) (Nat.mod_lt _ (by decide))
    rw [e3, and1 (Int.natCast_nonneg _) (by have := Int.ofNat_lt.2 hlt; exact this)]
    have h4 := dig_sub (b := 2) (by decide) n 64 (j / 64) (r := j % 64) (by omega)
    have e5 : 64 * (j / 64) + j % 64 = j := by omega
    rw [e5] at h4
    have e6 : (2 : Nat) ^ 64 = 18446744073709551616 := rfl
    rw [e6] at h4
    rw [← h4]
    omega
theorem bytes_of_bits (n : Nat) : (dg 256 n).length = (nb n + 7) / 8 := by
  have h : ∀ j, j < (dg 256 n).length ↔ 8 * j < nb n := fun j => by
    rw [dg_length_lt (by decide), nb_lt, Nat.pow_mul]
  have h1 := h (dg 256 n).length
  by_cases h0 : (dg 256 n).length = 0
  · have := h 0; omega
  · have := h ((dg 256 n).length - 1)
    omega
theorem text_loop (n : Nat) (h : (D n).length < 17592186044416) : ∀ m : Nat, m ≤ (dg 256 n).length → Av (fun k => impl_nat_text.l0 k (D n) ((dg 256 n).drop m).reverse m) (bts n)
  | 0, _ => by
    refine Av.succ ?_
    simp only [impl_nat_text.l0]
    refine Av.ifn (by omega) (Av.ret' ?_)
    simp [bts]
  | m + 1, hm => by
    refine Av.succ ?_
    simp only [impl_nat_text.l0]
    have hb : (dg 256 n).length ≤ 8 * (D n).length := by
      rw [dg_length_le (by decide), Nat.pow_mul]
      exact (D_le _ n).1 (Nat.le_refl _)
    have e1 : (((m + 1 : Nat) : Int) - 1) = m := by omega
    rw [e1]
    simp (disch := omega) only [wr, td, tm, if_pos]
    have hlen : (((dg 256 n).drop (m + 1)).reverse).length ≤ (dg 256 n).length := by rw [List.length_reverse, List.length_drop]; omega
    refine Av.ifp (by omega) ?_
    have e2 : shr .u64 (rd (D n) ((m : Int) / 8)) (8 * ((m : Int) % 8)) % 256 = (dg 256 n)[m]'(by omega) := by
      have e3 : (m : Int) / 8 = ((m / 8 : Nat) : Int) := by omega
      have e4 : min (8 * ((m : Int) % 8)).toNat IntKind.u64.bits = 8 * (m % 8) := by simp only [IntKind.bits]; omega
      unfold shr
      rw [e3, rdD, e4]
      have e5 := natCast_div_pow (n / 18446744073709551616 ^ (m / 8) % 18446744073709551616) (8 * (m % 8))
      rw [e5]
      have h4 := dig_sub (b := 256) (by decide) n 8 (m / 8) (r := m % 8) (by omega)
      have e6 : 8 * (m / 8) + m % 8 = m := by omega
      have e7 : (256 : Nat) ^ 8 = 18446744073709551616 := rfl
      have e8 : (2 : Nat) ^ (8 * (m % 8)) = 256 ^ (m % 8) := by rw [Nat.pow_mul]
      rw [e6, e7] at h4
      rw [e8]
      have h9 := dg_getD (B := 256) (by decide) m n
      rw [List.getD_eq_getElem?_getD, List.getElem?_eq_getElem (by omega)] at h9
      simp only [Option.getD_some] at h9
      rw [h9, ← h4]
      omega
    rw [e2]
    have e9 : ((dg 256 n).drop (m + 1)).reverse ++ [(dg 256 n)[m]'(by omega)] = ((dg 256 n).drop m).reverse := by
      rw [List.drop_eq_getElem_cons (show m < (dg 256 n).length by omega), List.reverse_cons]
    rw [e9]
    exact text_loop n h m (by omega)
theorem text_f (n : Nat) (h : (D n).length < 1759218604441) : Av (fun k => impl_nat_text.f k (D n)) (bts n) := by
  unfold impl_nat_text.f
  refine Av.bind (size_f n (by omega)) ?_
  have hb : (dg 256 n).length ≤ 8 * (D n).length := by
    rw [dg_length_le (by decide), Nat.pow_mul]
    exact (D_le _ n).1 (Nat.le_refl _)
  have hn := bytes_of_bits n
  simp (disch := omega) only [wr, td]
  have e : ((nb n : Int) + 7) / 8 = (((dg 256 n).length : Nat) : Int) := by omega
  rw [e]
  have := text_loop n (by omega) (dg 256 n).length (Nat.le_refl _)
  rw [List.drop_length, List.reverse_nil] at this
  exact this
theorem out_drop {b : List Int} {n : Nat} (hb : Digs 256 b) (hv : vl 256 b.reverse = n) (hbig : b.length < 9223372036854775807) : ∀ (d j : Nat), b.length - j = d → j ≤ b.length → vl 256 (b.reverse.take (b.length - j)) = n → Av (fun k => spec_l02Out.l1 k b j) (bts n)
  | 0, j, hd, hj, hz => by
    refine Av.succ ?_
    simp only [spec_l02Out.l1]
    simp (disch := omega) only [if_pos, if_neg]
    refine Av.ret' ?_
    have e : b.length = j := by omega
    have h0 : n = 0 := by rw [hd] at hz; simp [vl] at hz; omega
    subst h0
    rw [Int.toNat_natCast, ← e, List.drop_length]
    rfl
  | d + 1, j, hd, hj, hz => by
    refine Av.succ ?_
    simp only [spec_l02Out.l1]
    simp (disch := omega) only [if_pos]
    have hr : rd b j = b.reverse.getD (b.length - j - 1) 0 := by
      unfold rd
      rw [Int.toNat_natCast, List.getD_eq_getElem?_getD, List.getD_eq_getElem?_getD, List.getElem?_reverse (by omega)]
      congr 2; omega
    by_cases h0 : b.reverse.getD (b.length - j - 1) 0 = 0
    · refine Av.ifp (by rw [hr, h0]) ?_
      have e : (j : Int) + 1 = ((j + 1 : Nat) : Int) := by omega
      rw [wr (by omega) (by omega), e]
      refine out_drop hb hv hbig d (j + 1) (by omega) (by omega) ?_
      have h1 := vl_take_succ 256 b.reverse (b.length - j - 1)
      rw [h0, Int.mul_zero, Int.add_zero] at h1
      have e3 : b.length - j - 1 + 1 = b.length - j := by omega
      have e4 : b.length - (j + 1) = b.length - j - 1 := by omega
      rw [e4, ← h1, e3]
      exact hz
    · refine Av.ifn (by rw [hr]; exact h0) ?_
      refine Av.ret' ?_
      have h1 := take_is_dg (B := 256) (by decide) (digs_reverse.2 hb) (b.length - j) (by simp) (.inr h0)
      rw [hz, Int.toNat_natCast] at h1
      unfold bts
      rw [← h1, Int.toNat_natCast]
      congr 1
      rw [List.take_reverse, List.reverse_reverse]
      congr 1; omega
theorem out_loop (n : Nat) (hl : (E n).length < 17592186044416) : ∀ (d i : Nat) (b : List Int), (E n).length - i = d → i ≤ (E n).length → b.length = 3 * (E n).length → Digs 256 b → (∀ m, m < 3 * i → b.getD (3 * (E n).length - 1 - m) 0 = ((n / 256 ^ m % 256 : Nat) : Int)) → Av (fun k => spec_l02Out.l0 k (E n) b i) (bts n)
  | 0, i, b, hd, hi, hb, hdg, hv => by
    refine Av.succ ?_
    simp only [spec_l02Out.l0]
    refine Av.ifn (by omega) ?_
    have hE := (E_le (E n).length n).1 (Nat.le_refl _)
    have e : (16777216 : Nat) = 256 ^ 3 := rfl
    rw [e, ← Nat.pow_mul] at hE
    have hvl : vl 256 b.reverse = n := by
      apply vl_of_getD (by decide)
      · rw [List.length_reverse, hb]; exact hE
      · intro j hj
        rw [List.length_reverse] at hj
        rw [← hv j (by omega), List.getD_eq_getElem?_getD, List.getD_eq_getElem?_getD, List.getElem?_reverse hj]
        congr 2; omega
    exact out_drop hdg hvl (by omega) b.length 0 rfl (by omega) (by rw [Nat.sub_zero, ← List.length_reverse, List.take_length]; exact hvl)
  | d + 1, i, b, hd, hi, hb, hdg, hv => by
    refine Av.succ ?_
    simp only [spec_l02Out.l0]
    simp (disch := omega) only [wr, if_pos]
    have hE := rdE n i
    generalize hY : n / 16777216 ^ i = Y at hE
    have e : (16777216 : Nat) ^ i = 256 ^ (3 * i) := by rw [Nat.pow_mul]
    rw [e] at hY
    have k1 : ((b.length : Int) - 3 * i - 1).toNat = 3 * (E n).length - 1 - 3 * i := by omega
    have k2 : ((b.length : Int) - 3 * i - 2).toNat = 3 * (E n).length - 1 - (3 * i + 1) := by omega
    have k3 : ((b.length : Int) - 3 * i - 3).toNat = 3 * (E n).length - 1 - (3 * i + 2) := by omega
    rw [k1, k2, k3, hE]
    have e4 : (i : Int) + 1 = ((i + 1 : Nat) : Int) := by omega
    rw [e4]
    have y0 : n / 256 ^ (3 * i) % 256 = Y % 256 := by rw [hY]
    have y1 : n / 256 ^ (3 * i + 1) % 256 = Y / 256 % 256 := by rw [Nat.pow_succ, ← Nat.div_div_eq_div_mul, hY]
    have y2 : n / 256 ^ (3 * i + 2) % 256 = Y / 65536 % 256 := by
      rw [Nat.pow_add, ← Nat.div_div_eq_div_mul, hY]
    refine out_loop n hl d (i + 1) _ (by omega) (by omega) (by simp [hb]) (digs_set (digs_set (digs_set hdg (by omega)) (by omega)) (by omega)) ?_
    intro m hm
    rw [getD_set (by simp [hb]; omega), getD_set (by simp [hb]; omega), getD_set (by simp [hb]; omega)]
    by_cases c3 : m = 3 * i + 2
    · subst c3; rw [if_pos rfl, y2]; omega
    · rw [if_neg (by omega)]
      by_cases c2 : m = 3 * i + 1
      · subst c2; rw [if_pos rfl, y1]; omega
      · rw [if_neg (by omega)]
        by_cases c1 : m = 3 * i
        · subst c1; rw [if_pos rfl, y0]; omega
        · rw [if_neg (by omega)]
          exact hv m (by omega)
theorem out_s (n : Nat) (hl : (E n).length < 1759218604441) : Av (fun k => spec_l02Out.f k (E n)) (bts n) := by
  unfold spec_l02Out.f
  simp (disch := omega) only [wr, if_pos]
  have e : (3 * ((E n).length : Int)).toNat = 3 * (E n).length := by omega
  rw [e]
  have := out_loop n (by omega) (E n).length 0 (List.replicate (3 * (E n).length) 0) (by omega) (by omega) (by simp) (digs_zeros (by decide) _) (fun m hm => by omega)
  exact this
/-- A number small enough for everything here. -/
def Sm (n : Nat) : Prop := (D n).length < 1000000 ∧ (E n).length < 1000000
theorem D_of {n j : Nat} (h : n < 256 ^ j) : (D n).length ≤ j := (D_le _ _).2 (Nat.lt_of_lt_of_le h (Nat.pow_le_pow_left (by decide) _))
theorem E_of {n j : Nat} (h : n < 256 ^ j) : (E n).length ≤ j := (E_le _ _).2 (Nat.lt_of_lt_of_le h (Nat.pow_le_pow_left (by decide) _))
theorem Sm.of {n j : Nat} (h : n < 256 ^ j) (hj : j < 1000000) : Sm n := ⟨Nat.lt_of_le_of_lt (D_of h) hj, Nat.lt_of_le_of_lt (E_of h) hj⟩
theorem Sm.le {m n : Nat} (h : Sm n) (hm : m ≤ n) : Sm m := ⟨Nat.lt_of_le_of_lt (D_mono hm) h.1, Nat.lt_of_le_of_lt (E_mono hm) h.2⟩
theorem Sm.gb {n : Nat} (h : n < GB) : Sm n := Sm.of h (by decide)
theorem Sm.add {a b : Nat} (ha : a < GB) (hb : b < GB) : Sm (a + b) := Sm.of (j := 161) (by
  have : GB + GB ≤ 256 ^ 161 := by decide
  omega) (by decide)
theorem bv_gb {s : ByteArray} (h : gok s = true) : bv s < GB := by
  obtain ⟨n, hn, rfl⟩ := gok_cases h
  rw [bv_bts]; exact hn
theorem cmp_f' {a b : Nat} (ha : Sm a) (hb : Sm b) : Av (fun k => impl_nat_cmp.f k (D a) (D b)) (cmpv a b) := cmp_f a b (by have := ha.1; omega) (by have := hb.1; omega)
theorem cmp_s' {a b : Nat} (ha : Sm a) (hb : Sm b) : Av (fun k => spec_l02Cmp.f k (E a) (E b)) (sgn a b) := cmp_s a b (by have := ha.2; omega) (by have := hb.2; omega)
theorem sgn_pos {a b : Nat} : sgn a b > 0 ↔ b < a := by unfold sgn; repeat' split
                                                        all_goals omega
theorem text_f' {a : Nat} (ha : Sm a) : Av (fun k => impl_nat_text.f k (D a)) (bts a) := text_f a (by have := ha.1; omega)
theorem out_s' {a : Nat} (ha : Sm a) : Av (fun k => spec_l02Out.f k (E a)) (bts a) := out_s a (by have := ha.2; omega)
theorem are_loop (l : List ByteArray) (hl : l.length < 1000000) : ∀ (d i : Nat), l.length - i = d → i ≤ l.length → Av (fun k => impl_areGreat.l0 k l l.length i) ((l.drop i).all gok)
  | 0, i, hd, hi => by
    refine Av.succ ?_
    simp only [impl_areGreat.l0]
    refine Av.ifn (by omega) (Av.ret' ?_)
    rw [List.drop_of_length_le (by omega)]; rfl
  | d + 1, i, hd, hi => by
    have i1 : i < l.length := by omega
    have e1 : wrap64 ((i : Int) + 1) = ((i + 1 : Nat) : Int) := wrap_one (by omega)
    refine Av.succ ?_
    simp only [impl_areGreat.l0, e1]
    have hr : rdOf ByteArray.empty l (i : Int) = l[i] := by
      unfold rdOf
      rw [Int.toNat_natCast, List.getD_eq_getElem?_getD, List.getElem?_eq_getElem i1]; rfl
    refine Av.ifp (by omega) (Av.ifp (by omega) (Av.ifp (by omega) (Av.bindc (gok_f _) ?_)))
    rw [List.drop_eq_getElem_cons i1, List.all_cons, hr]
    cases hg : gok l[i] with
    | false => exact Av.ifn (by decide) Av.ret
    | true => exact Av.ifp (by decide) (by rw [Bool.true_and]; exact are_loop l hl d (i + 1) (by omega) (by omega))
theorem are_f (l : List ByteArray) (hl : l.length < 1000000) : Av (fun k => impl_areGreat.f k l) (l.all gok) := by
  unfold impl_areGreat.f
  have := are_loop l hl l.length 0 (by omega) (by omega)
  rw [List.drop_zero] at this
  exact this
theorem dg_rev_step {m : Nat} : (dg 256 m).reverse = if m = 0 then [] else (dg 256 (m / 256)).reverse ++ [((m % 256 : Nat) : Int)] := by
  by_cases h : m = 0
  · rw [if_pos h, h]; rfl
  · rw [if_neg h, dg_pos (by decide) h, List.reverse_cons]
theorem greatof_loop (n : Nat) (hn : n < 9223372036854775808) : ∀ (m : Nat), m ≤ 8 → Av (fun k => spec_GreatOf.l0 k n (dg 256 (n / 256 ^ m)).reverse ((m : Int) - 1)) (bts n)
  | 0, _ => by
    refine Av.succ ?_
    simp only [spec_GreatOf.l0]
    refine Av.ifn (by omega) (Av.ret' ?_)
    simp [bts]
  | m + 1, hm => by
    refine Av.succ ?_
    simp only [spec_GreatOf.l0]
    have e : ((m + 1 : Nat) : Int) - 1 = m := by omega
    rw [e]
    simp (disch := omega) only [ur, wr]
    have es : shr .i64 (n : Int) (8 * (m : Int)) % 256 = ((n / 256 ^ m % 256 : Nat) : Int) := by
      unfold shr
      have e2 : min (8 * (m : Int)).toNat IntKind.i64.bits = 8 * m := by simp only [IntKind.bits]; omega
      have e3 : (2 : Nat) ^ (8 * m) = 256 ^ m := by rw [Nat.pow_mul]
      rw [e2, natCast_div_pow, e3]; omega
    rw [es]
    have ih := greatof_loop n hn m (by omega)
    have hq : n / 256 ^ (m + 1) = n / 256 ^ m / 256 := by rw [Nat.pow_succ, Nat.div_div_eq_div_mul]
    have hst := @dg_rev_step (n / 256 ^ m)
    rw [hq]
    generalize n / 256 ^ m = Y at *
    have hlen : (dg 256 (Y / 256)).reverse.length ≤ 8 := by
      rw [List.length_reverse, dg_length_le (by decide)]
      have : Y / 256 ≤ n := by
        have h1 : n / 256 ^ (m + 1) ≤ n := Nat.div_le_self _ _
        omega
      omega
    refine Av.ifp (by omega) (Av.ifp (by omega) ?_)
    by_cases hz : Y % 256 = 0
    · refine Av.ifp (by omega) ?_
      by_cases hy : Y = 0
      · subst hy
        refine Av.ifn (by simp [dg_zero]) ?_
        rw [if_pos rfl] at hst
        have e4 : (dg 256 (0 / 256)).reverse = [] := rfl
        rw [e4]; rw [hst] at ih; exact ih
      · rw [if_neg hy] at hst
        have hl : 0 < (dg 256 (Y / 256)).reverse.length := by
          rw [List.length_reverse, dg_length_lt (by decide)]; simp; omega
        refine Av.ifp (by omega) (Av.ifp (by omega) ?_)
        rw [← hst]; exact ih
    · refine Av.ifn (by omega) (Av.ifp (by omega) ?_)
      rw [if_neg (by rintro rfl; exact hz rfl)] at hst
      rw [← hst]; exact ih
theorem greatof_s (n : Nat) (hn : n < 9223372036854775808) : Av (fun k => spec_GreatOf.f k n) (bts n) := by
  unfold spec_GreatOf.f
  refine Av.ifn (by omega) ?_
  have h := greatof_loop n hn 8 (by omega)
  rw [Nat.div_eq_of_lt (by omega)] at h
  exact h
theorem and8 (n : Int) : Go.bits .and .i64 n 255 = n % 256 := by
  have h1 : (BitVec.ofInt 64 255).toNat = 2 ^ 8 - 1 := by decide
  have key : (BitVec.ofInt 64 n &&& BitVec.ofInt 64 255).toNat = (n % ((2 ^ 64 : Nat) : Int)).toNat % 2 ^ 8 := by
    rw [BitVec.toNat_and, BitVec.toNat_ofInt, h1, Nat.and_two_pow_sub_one_eq_mod]
  show IntKind.i64.wrap ((BitVec.ofInt 64 n &&& BitVec.ofInt 64 255).toNat : Nat) = n % 256
  rw [key, IntKind.wrap_i64]
  omega
/-- A place in a code. -/
def Cur (b : List Int) (i : Int) : Prop := b.length ≤ 1048576 ∧ 0 ≤ i ∧ i ≤ b.length
theorem new_loop (b : List Int) (hb : b.length ≤ 1048576) : ∀ (d i : Nat) (h : Int), b.length - i = d → i ≤ b.length → ∃ h', Av (fun k => spec_l01New.l0 k b h i) (b, 0, h')
  | 0, i, h, hd, hi => by
    refine ⟨h, Av.succ ?_⟩
    simp only [spec_l01New.l0]
    exact Av.ifn (by omega) Av.ret
  | d + 1, i, h, hd, hi => by
    have e1 : wrap64 ((i : Int) + 1) = ((i + 1 : Nat) : Int) := wrap_one (by omega)
    by_cases c : i < 4000
    · obtain ⟨h', hh⟩ := new_loop b hb d (i + 1) (Go.bits .and .i64 (wrap64 ((wrap64 ((wrap64 (h * 131)) + (wrap64 (rd b i)))) + 7)) 1073741823) (by omega) (by omega)
      refine ⟨h', Av.succ ?_⟩
      simp only [spec_l01New.l0, e1]
      exact Av.ifp (by omega) (Av.ifp (by omega) (Av.ifp (by omega) hh))
    · refine ⟨h, Av.succ ?_⟩
      simp only [spec_l01New.l0]
      exact Av.ifp (by omega) (Av.ifn (by omega) Av.ret)
theorem new_s (b : List Int) (hb : b.length ≤ 1048576) : ∃ h, Av (fun k => spec_l01New.f k b) (b, 0, h) ∧ Cur b 0 := by
  obtain ⟨h, hh⟩ := new_loop b hb b.length 0 (wrap64 (94701 + (b.length : Int))) (by omega) (by omega)
  exact ⟨h, hh, hb, by omega, by omega⟩
theorem byte_s {b : List Int} {i : Int} (hc : Cur b i) (h : Int) : ∃ x i' h', spec_l01Byte.f b i h = some (x, i', h') ∧ 0 ≤ x ∧ x < 256 ∧ Cur b i' := by
  obtain ⟨hb, h0, h1⟩ := hc
  unfold spec_l01Byte.f
  simp only [and8]
  by_cases c : i < (b.length : Int)
  · rw [if_pos c, if_pos h0]
    have w : wrap64 (i + 1) = i + 1 := wr (by omega) (by omega)
    exact ⟨_, _, _, rfl, Int.emod_nonneg _ (by decide), Int.emod_lt_of_pos _ (by decide), hb, by rw [w]; omega, by rw [w]; omega⟩
  · rw [if_neg c]
    exact ⟨_, _, _, rfl, Int.emod_nonneg _ (by decide), Int.emod_lt_of_pos _ (by decide), hb, h0, h1⟩
theorem below_s {b : List Int} {i : Int} (hc : Cur b i) (h : Int) (a : Int) (h0 : 0 < a) : ∃ x i' h', spec_l01Below.f b i h a = some (x, i', h') ∧ 0 ≤ x ∧ x < a ∧ Cur b i' := by
  unfold spec_l01Below.f
  rw [if_neg (by omega)]
  by_cases c : a ≤ 256
  · rw [if_pos c]
    obtain ⟨x, i1, h1, e, x0, x1, hc1⟩ := byte_s hc h
    rw [e, Option.bind_some, if_neg (by omega)]
    refine ⟨_, _, _, rfl, ?_, ?_, hc1⟩
    · rw [tm x0]; exact Int.emod_nonneg _ (by omega)
    · rw [tm x0]; exact Int.emod_lt_of_pos _ h0
  · rw [if_neg c]
    obtain ⟨x1, i1, h1, e1, a1, b1, hc1⟩ := byte_s hc h
    obtain ⟨x2, i2, h2, e2, a2, b2, hc2⟩ := byte_s hc1 h1
    obtain ⟨x3, i3, h3, e3, a3, b3, hc3⟩ := byte_s hc2 h2
    obtain ⟨x4, i4, h4, e4, a4, b4, hc4⟩ := byte_s hc3 h3
    rw [e1, Option.bind_some, e2, Option.bind_some, e3, Option.bind_some, e4, Option.bind_some, if_neg (by omega)]
    have w1 : wrap64 (x1 * 16777216) = x1 * 16777216 := wr (by omega) (by omega)
    have w2 : wrap64 (x2 * 65536) = x2 * 65536 := wr (by omega) (by omega)
    have w3 : wrap64 (x3 * 256) = x3 * 256 := wr (by omega) (by omega)
    have w4 : wrap64 (x1 * 16777216 + x2 * 65536) = x1 * 16777216 + x2 * 65536 := wr (by omega) (by omega)
    have w5 : wrap64 (x1 * 16777216 + x2 * 65536 + x3 * 256) = x1 * 16777216 + x2 * 65536 + x3 * 256 := wr (by omega) (by omega)
    have w6 : wrap64 (x1 * 16777216 + x2 * 65536 + x3 * 256 + x4) = x1 * 16777216 + x2 * 65536 + x3 * 256 + x4 := wr (by omega) (by omega)
    have hn : 0 ≤ x1 * 16777216 + x2 * 65536 + x3 * 256 + x4 := by omega
    simp only [w1, w2, w3, w4, w5, w6]
    refine ⟨_, _, _, rfl, ?_, ?_, hc4⟩
    · rw [tm hn]; exact Int.emod_nonneg _ (by omega)
    · rw [tm hn]; exact Int.emod_lt_of_pos _ h0
theorem drawtext_loop {b : List Int} (n : Nat) (hn : n ≤ 5000) : ∀ (d j : Nat) (x : List Int) (i h : Int), n - j = d → j ≤ n → x.length = j → Cur b i → ∃ s i' h', Av (fun k => spec_l01Text.l0 k n x j b i h) (s, i', h') ∧ s.size = n ∧ Cur b i'
  | 0, j, x, i, h, hd, hj, hx, hc => by
    refine ⟨strOfNums x, i, h, Av.succ ?_, by rw [strOfNums_size]; omega, hc⟩
    simp only [spec_l01Text.l0]
    exact Av.ifn (by omega) Av.ret
  | d + 1, j, x, i, h, hd, hj, hx, hc => by
    obtain ⟨y, i1, h1, e, y0, y1, hc1⟩ := byte_s hc h
    have e1 : wrap64 ((j : Int) + 1) = ((j + 1 : Nat) : Int) := wrap_one (by omega)
    obtain ⟨s, i', h', hs, hz, hc'⟩ := drawtext_loop n hn d (j + 1) (x ++ [y % 256]) i1 h1 (by omega) (by omega) (by rw [List.length_append]; simp only [List.length_cons, List.length_nil]; omega) hc1
    refine ⟨s, i', h', Av.succ ?_, hz, hc'⟩
    simp only [spec_l01Text.l0, e1]
    exact Av.ifp (by omega) (Av.bindc e (Av.ifp (by omega) hs))
theorem drawtext_s {b : List Int} {i : Int} (hc : Cur b i) (h : Int) (a : Int) (h0 : 0 ≤ a) (h1 : a ≤ 5000) : ∃ s i' h', Av (fun k => spec_l01Text.f k b i h a) (s, i', h') ∧ s.size ≤ 5000 ∧ Cur b i' := by
  obtain ⟨n, rfl⟩ := Int.eq_ofNat_of_zero_le h0
  obtain ⟨s, i', h', hs, hz, hc'⟩ := drawtext_loop (b := b) n (by omega) n 0 [] i h rfl (Nat.zero_le _) rfl hc
  refine ⟨s, i', h', ?_, by omega, hc'⟩
  unfold spec_l01Text.f
  refine Av.ifn (by omega) (Av.succ ?_)
  simp only [spec_l01Text.j0]
  exact hs
theorem drawlong_loop (n : Nat) (c : Int) (hn : n < 1000000) : ∀ (d i : Nat) (l : List Int), n - i = d → i ≤ n → l.length = n → ∃ s, Av (fun k => spec_l01Long.l0 k n c l i) s ∧ s.size = n
  | 0, i, l, hd, hi, hl => by
    refine ⟨strOfNums l, Av.succ ?_, by rw [strOfNums_size]; exact hl⟩
    simp only [spec_l01Long.l0]
    exact Av.ifn (by omega) Av.ret
  | d + 1, i, l, hd, hi, hl => by
    have e1 : wrap64 ((i : Int) + 1) = ((i + 1 : Nat) : Int) := wrap_one (by omega)
    obtain ⟨s, hs, hz⟩ := drawlong_loop n c hn d (i + 1) (l.set i c) (by omega) (by omega) (by rw [List.length_set]; exact hl)
    refine ⟨s, Av.succ ?_, hz⟩
    simp only [spec_l01Long.l0, e1, Int.toNat_natCast]
    exact Av.ifp (by omega) (Av.ifp (by omega) (Av.ifp (by omega) hs))
theorem drawlong_s (a c : Int) (h0 : 0 ≤ a) (h1 : a < 1000000) : ∃ s, Av (fun k => spec_l01Long.f k a c) s ∧ s.size < 1000000 := by
  obtain ⟨n, rfl⟩ := Int.eq_ofNat_of_zero_le h0
  obtain ⟨s, hs, hz⟩ := drawlong_loop n c (by omega) n 0 (List.replicate n 0) rfl (Nat.zero_le _) (List.length_replicate ..)
  refine ⟨s, ?_, by omega⟩
  unfold spec_l01Long.f
  rw [Int.toNat_natCast]
  exact Av.ifp (by omega) (Av.ifp (by omega) hs)
theorem pick_s {b : List Int} {i : Int} (hc : Cur b i) (h : Int) (l : List ByteArray) (hl : 0 < l.length) : ∃ s i' h', spec_l01Pick.f b i h l = some (s, i', h') ∧ Cur b i' ∧ s ∈ l := by
  unfold spec_l01Pick.f
  obtain ⟨x, i1, h1, e, x0, x1, hc1⟩ := below_s hc h (l.length : Int) (by omega)
  obtain ⟨n, rfl⟩ := Int.eq_ofNat_of_zero_le x0
  have hn : n < l.length := by omega
  rw [e, Option.bind_some, if_pos x0, if_pos x1]
  refine ⟨_, _, _, rfl, hc1, ?_⟩
  unfold rdOf
  rw [Int.toNat_natCast, List.getD_eq_getElem?_getD, List.getElem?_eq_getElem hn]
  exact List.getElem_mem hn
theorem bound_s (s : ByteArray) : spec_l02Bound.f s = some (if gok s then s else (⟨#[]⟩ : ByteArray)) := by
  unfold spec_l02Bound.f
  rw [gok_s, Option.bind_some]
  cases gok s <;> rfl
theorem bv_sm {s : ByteArray} (h : s.size ≤ 5000) : Sm (bv s) := by
  have hb : bv s < 256 ^ s.size := bv_lt s
  exact Sm.of hb (by omega)
theorem drawgreat_s {b : List Int} {i : Int} (hc : Cur b i) (h : Int) : ∃ s i' h', Av (fun k => spec_l02Great.f k b i h) (s, i', h') ∧ Cur b i' := by
  unfold spec_l02Great.f
  obtain ⟨x, i1, h1, e, x0, x1, hc1⟩ := below_s hc h 8 (by decide)
  have txt : ∀ a : Int, 0 < a → a ≤ 5000 → ∃ s i' h', Av (fun k => (spec_l01Below.f b i1 h1 a).bind fun bt1094 => ((spec_l01Text.f k b bt1094.2.1 bt1094.2.2 bt1094.1).bind fun bt1097 => ((spec_l02In.f k bt1097.1).bind fun t1100 => ((spec_l02Out.f k t1100).bind fun t1103 => ((spec_l02Bound.f t1103).bind fun t1104 => (some (t1104, bt1097.2.1, bt1097.2.2))))))) (s, i', h') ∧ Cur b i' := by
    intro a a0 a1
    obtain ⟨y, i2, h2, e2, y0, y1, hc2⟩ := below_s hc1 h1 a a0
    obtain ⟨s, i3, h3, hs, hz, hc3⟩ := drawtext_s hc2 h2 y y0 (by omega)
    exact ⟨_, i3, h3, Av.bindc e2 (Av.bind hs (Av.bind (in_s s (by omega)) (Av.bind (out_s' (bv_sm hz)) (Av.bindc (bound_s _) Av.ret)))), hc3⟩
  by_cases c0 : x = 0
  · obtain ⟨s, i', h', hs, hc'⟩ := txt 50 (by decide) (by decide)
    exact ⟨s, i', h', Av.bindc e (Av.ifp c0 hs), hc'⟩
  by_cases c1 : x = 1
  · obtain ⟨t1, ht1, _⟩ := drawlong_s 160 255 (by decide) (by decide)
    obtain ⟨t2, ht2, _⟩ := drawlong_s 80 255 (by decide) (by decide)
    obtain ⟨t3, ht3, _⟩ := drawlong_s 48 255 (by decide) (by decide)
    obtain ⟨s, i', h', hs, hc', _⟩ := pick_s hc1 h1 (([(⟨#[]⟩ : ByteArray), (⟨#[1]⟩ : ByteArray), (⟨#[255]⟩ : ByteArray), (⟨#[1, 0]⟩ : ByteArray), (⟨#[255, 255, 255]⟩ : ByteArray), (⟨#[1, 0, 0, 0]⟩ : ByteArray), (⟨#[127, 255, 255, 255, 255, 255, 255, 255]⟩ : ByteArray), (⟨#[128, 0, 0, 0, 0, 0, 0, 0]⟩ : ByteArray), (⟨#[255, 255, 255, 255, 255, 255]⟩ : ByteArray), t1, t2, t3] : List ByteArray)) (by simp)
    exact ⟨s, i', h', Av.bindc e (Av.ifn c0 (Av.ifp c1 (Av.bind ht1 (Av.bind ht2 (Av.bind ht3 (Av.bindc hs Av.ret)))))), hc'⟩
  by_cases c2 : x = 2
  · obtain ⟨y, i2, h2, e2, y0, y1, hc2⟩ := below_s hc1 h1 20 (by decide)
    obtain ⟨t, ht, hz⟩ := drawlong_s y 0 y0 (by omega)
    exact ⟨_, i2, h2, Av.bindc e (Av.ifn c0 (Av.ifn c1 (Av.ifp c2 (Av.bindc e2 (Av.bind ht (Av.ifp (by omega) Av.ret)))))), hc2⟩
  by_cases c3 : x = 3
  · obtain ⟨s, i', h', hs, hc'⟩ := txt 9 (by decide) (by decide)
    exact ⟨s, i', h', Av.bindc e (Av.ifn c0 (Av.ifn c1 (Av.ifn c2 (Av.ifp c3 hs)))), hc'⟩
  · obtain ⟨y, i2, h2, e2, y0, y1, hc2⟩ := below_s hc1 h1 100000 (by decide)
    obtain ⟨n, rfl⟩ := Int.eq_ofNat_of_zero_le y0
    exact ⟨_, i2, h2, Av.bindc e (Av.ifn c0 (Av.ifn c1 (Av.ifn c2 (Av.ifn c3 (Av.bindc e2 (Av.bind (greatof_s n (by omega)) Av.ret)))))), hc2⟩
theorem once_s {b : List Int} {i : Int} (hc : Cur b i) (h : Int) (a : Int) (h0 : 0 < a) : ∃ x i' h', spec_l01Once.f b i h a = some (x, i', h') ∧ Cur b i' := by
  unfold spec_l01Once.f
  obtain ⟨x, i1, h1, e, x0, x1, hc1⟩ := below_s hc h a h0
  rw [e, Option.bind_some]
  exact ⟨_, _, _, rfl, hc1⟩
theorem drawany_s {b : List Int} {i : Int} (hc : Cur b i) (h : Int) : ∃ s i' h', Av (fun k => spec_l02Any.f k b i h) (s, i', h') ∧ Cur b i' := by
  unfold spec_l02Any.f
  obtain ⟨x, i1, h1, e, hc1⟩ := once_s hc h 14 (by decide)
  cases x with
  | true =>
    obtain ⟨t1, ht1, _⟩ := drawlong_s 161 7 (by decide) (by decide)
    obtain ⟨t2, ht2, _⟩ := drawlong_s 160 7 (by decide) (by decide)
    obtain ⟨s, i', h', hs, hc', _⟩ := pick_s hc1 h1 (([(⟨#[0]⟩ : ByteArray), (⟨#[0, 5]⟩ : ByteArray), t1, t2] : List ByteArray)) (by simp)
    exact ⟨s, i', h', Av.bindc e (Av.ifp rfl (Av.bind ht1 (Av.bind ht2 (Av.bindc hs Av.ret)))), hc'⟩
  | false =>
    obtain ⟨s, i', h', hs, hc'⟩ := drawgreat_s hc1 h1
    exact ⟨s, i', h', Av.bindc e (Av.ifn (by simp) (Av.bind hs Av.ret)), hc'⟩
theorem sm_mul {a b : Nat} (ha : a < GB) (hb : b < GB) : Sm (a * b) := Sm.of (j := 160 + 160) (by
  have h : a * b < GB * GB := Nat.lt_of_le_of_lt (Nat.mul_le_mul_left _ (Nat.le_of_lt hb)) (Nat.mul_lt_mul_of_pos_right ha (Nat.lt_of_le_of_lt (Nat.zero_le _) hb))
  exact Nat.lt_of_lt_of_eq h (Nat.pow_add 256 160 160).symm) (by decide)
theorem mulgreat_s (a b : ByteArray) : ∃ s, Av (fun k => spec_MulGreat.f k a b) s := by
  unfold spec_MulGreat.f
  have jT : Av (fun k => spec_MulGreat.j0 k a b true) (⟨#[]⟩ : ByteArray) := by
    refine Av.succ ?_
    simp only [spec_MulGreat.j0]
    exact Av.ifp (by decide) Av.ret
  cases ha : gok a with
  | false => exact ⟨_, Av.bindc (gok_s a) (Av.ifn (by rw [ha]; decide) jT)⟩
  | true =>
    cases hb : gok b with
    | false => exact ⟨_, Av.bindc (gok_s a) (Av.ifp ha (Av.bindc (gok_s b) (by rw [hb]; exact jT)))⟩
    | true =>
      have h1 := gok_size' ha
      have h2 := gok_size' hb
      have l1 := (Sm.gb (bv_gb ha)).2
      have l2 := (Sm.gb (bv_gb hb)).2
      refine ⟨if gok (bts (bv a * bv b)) then bts (bv a * bv b) else (⟨#[]⟩ : ByteArray), Av.bindc (gok_s a) (Av.ifp ha (Av.bindc (gok_s b) (Av.succ ?_)))⟩
      simp only [spec_MulGreat.j0]
      exact Av.ifn (by rw [hb]; decide) (Av.bind (in_s a (by omega)) (Av.bind (in_s b (by omega)) (Av.bind (mul_s _ _ (by omega)) (Av.bind (out_s' (sm_mul (bv_gb ha) (bv_gb hb))) (Av.bindc (bound_s _) Av.ret)))))
theorem drawtwo_s (b : List Int) (hb : b.length ≤ 1048576) : ∃ x y, Av (fun k => spec_l02Two.f k b) (x, y) := by
  unfold spec_l02Two.f
  obtain ⟨h, hn, hc⟩ := new_s b hb
  obtain ⟨s, i1, h1, hs, hc1⟩ := drawany_s hc h
  obtain ⟨x, i2, h2, e, x0, x1, hc2⟩ := below_s hc1 h1 5 (by decide)
  by_cases c0 : x = 0
  · exact ⟨_, _, Av.bind hn (Av.bind hs (Av.bindc e (Av.ifp c0 Av.ret)))⟩
  by_cases c1 : x = 1
  · obtain ⟨g, i3, h3, hg, hc3⟩ := drawgreat_s hc2 h2
    obtain ⟨m, hm⟩ := mulgreat_s (if gok s then s else (⟨#[]⟩ : ByteArray)) g
    exact ⟨_, _, Av.bind hn (Av.bind hs (Av.bindc e (Av.ifn c0 (Av.ifp c1 (Av.bindc (bound_s s) (Av.bind hg (Av.bind hm Av.ret)))))))⟩
  · obtain ⟨g, i3, h3, hg, hc3⟩ := drawany_s hc2 h2
    exact ⟨_, _, Av.bind hn (Av.bind hs (Av.bindc e (Av.ifn c0 (Av.ifn c1 (Av.bind hg Av.ret)))))⟩
theorem places_loop {b : List Int} : ∀ (d j : Nat) (x : List Int) (i h : Int), 12 - j = d → j ≤ 12 → x.length = j → (∀ z ∈ x, 0 ≤ z ∧ z < 10000) → Cur b i → ∃ l, Av (fun k => spec_DrawPlaces.l0 k x j b i h) l ∧ l.length = 12 ∧ ∀ z ∈ l, 0 ≤ z ∧ z < 10000
  | 0, j, x, i, h, hd, hj, hx, hz, hc => by
    refine ⟨x, Av.succ ?_, by omega, hz⟩
    simp only [spec_DrawPlaces.l0]
    exact Av.ifn (by omega) Av.ret
  | d + 1, j, x, i, h, hd, hj, hx, hz, hc => by
    obtain ⟨y, i1, h1, e, y0, y1, hc1⟩ := below_s hc h 10000 (by decide)
    have e1 : wrap64 ((j : Int) + 1) = ((j + 1 : Nat) : Int) := wrap_one (by omega)
    obtain ⟨l, hl, h2, h3⟩ := places_loop d (j + 1) (x ++ [y]) i1 h1 (by omega) (by omega) (by rw [List.length_append]; simp only [List.length_cons, List.length_nil]; omega) (by
      intro z hm
      rcases List.mem_append.1 hm with hm | hm
      · exact hz z hm
      · rw [List.mem_singleton] at hm; subst hm; exact ⟨y0, y1⟩) hc1
    refine ⟨l, Av.succ ?_, h2, h3⟩
    simp only [spec_DrawPlaces.l0, e1]
    exact Av.ifp (by omega) (Av.bindc e (Av.ifp (by omega) hl))
theorem places_s (b : List Int) (hb : b.length ≤ 1048576) : ∃ l, Av (fun k => spec_DrawPlaces.f k b) l ∧ l.length = 12 ∧ ∀ z ∈ l, 0 ≤ z ∧ z < 10000 := by
  unfold spec_DrawPlaces.f
  obtain ⟨h, hn, hc⟩ := new_s b hb
  obtain ⟨l, hl, h2, h3⟩ := places_loop (b := b) 12 0 [] 0 h rfl (by omega) rfl (by intro z hz; cases hz) hc
  exact ⟨l, Av.bind hn hl, h2, h3⟩
/-- What CompareGreat answers. -/
def cgv (a b : ByteArray) : Int := if gok a && gok b then sgn (bv a) (bv b) else 0
theorem compare_s (a b : ByteArray) : Av (fun k => spec_CompareGreat.f k a b) (cgv a b) := by
  unfold spec_CompareGreat.f cgv
  have jT : Av (fun k => spec_CompareGreat.j0 k a b true) 0 := by
    refine Av.succ ?_
    simp only [spec_CompareGreat.j0]
    exact Av.ifp (by decide) Av.ret
  refine Av.bindc (gok_s a) ?_
  cases ha : gok a with
  | false => exact Av.ifn (by decide) jT
  | true =>
    refine Av.ifp (by decide) (Av.bindc (gok_s b) ?_)
    cases hb : gok b with
    | false => exact jT
    | true =>
      have h1 := gok_size' ha
      have h2 := gok_size' hb
      refine Av.succ ?_
      simp only [spec_CompareGreat.j0]
      exact Av.ifn (by decide) (Av.bind (in_s a (by omega)) (Av.bind (in_s b (by omega)) (Av.bind (cmp_s' (Sm.gb (bv_gb ha)) (Sm.gb (bv_gb hb))) (Av.ret' rfl))))
theorem sign_f (a b : Nat) : impl_sign.f (cmpv a b) = some (sgn a b) := by
  unfold impl_sign.f impl_Brought.f
  rw [Option.bind_some]
  congr 1
  have h1 := @cmpv_neg a b
  have h2 := @cmpv_zero a b
  unfold mx mn sgn
  repeat' split
  all_goals omega
theorem compare_f (a b : ByteArray) : Av (fun k => impl_CompareGreat.f k a b) (cgv a b) := by
  unfold impl_CompareGreat.f cgv
  refine Av.bind (are_f [a, b] (by simp)) ?_
  have e : [a, b].all gok = (gok a && gok b) := by simp
  rw [e]
  cases ha : gok a with
  | false => exact Av.ifn (by simp) (Av.ret' rfl)
  | true =>
    cases hb : gok b with
    | false => exact Av.ifn (by simp) (Av.ret' rfl)
    | true =>
      have h1 := gok_size' ha
      have h2 := gok_size' hb
      exact Av.ifp (by decide) (Av.bind (natOf_f a (by omega)) (Av.bind (natOf_f b (by omega)) (Av.bind (cmp_f' (Sm.gb (bv_gb ha)) (Sm.gb (bv_gb hb))) (Av.bindc (sign_f _ _) (Av.ret' rfl)))))
end Go.Proofs.Ytohfimjpfnnpgaa.C
