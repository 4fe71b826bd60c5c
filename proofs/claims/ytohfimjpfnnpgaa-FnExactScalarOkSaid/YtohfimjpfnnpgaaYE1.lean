/- Words and contracts that the laws of this claim lean on: numbers as limbs, and what the functions make of them. Conditions: those named in each theorem. -/
import Derived.Test.YtohfimjpfnnpgaaOwnWords
import Derived.Test.YtohfimjpfnnpgaaYE0
import Derived.Test.YtohfimjpfnnpgaaZE0
import Derived.Test.YtohfimjpfnnpgaaZE1
import Derived.Test.YtohfimjpfnnpgaaZE2
import Derived.Test.YtohfimjpfnnpgaaZE3
import Derived.Test.YtohfimjpfnnpgaaZE4
import Derived.Test.YtohfimjpfnnpgaaZE5
import Derived.Test.YtohfimjpfnnpgaaZE6
set_option linter.unusedVariables false
set_option linter.unusedSimpArgs false
set_option maxRecDepth 100000
namespace Go.Proofs.Ytohfimjpfnnpgaa.C
open Go.RowKit Go.Proofs.YtohfimjpfnnpgaaW.PrintWords Go.Proofs.YtohfimjpfnnpgaaW.PrintLast Go.Proofs.YtohfimjpfnnpgaaW.PrintMore
open Go.Proofs.Ytohfimjpfnnpgaa.M Go.Proofs.Ytohfimjpfnnpgaa.F
/-- One place of a product. -/
theorem mac64 (x y o c : Nat) (hx : x < 18446744073709551616) (hy : y < 18446744073709551616) (ho : o < 18446744073709551616) (hc : c < 18446744073709551616) : ∃ (m s w : Int × Int) (t q : Nat), bits_Mul64.f x y = some m ∧ bits_Add64.f m.2 o 0 = some s ∧ bits_Add64.f s.1 c 0 = some w ∧ w.1 = (t : Int) ∧ IntKind.u64.wrap ((IntKind.u64.wrap (m.1 + s.2)) + w.2) = (q : Int) ∧ t < 18446744073709551616 ∧ q < 18446744073709551616 ∧ (t : Int) = x * y + o + c - 18446744073709551616 * q := by
  have hxy := mul_lt hx hy
  have hM := mul64 x y hx hy
  have e0 := Nat.div_add_mod (x * y) 18446744073709551616
  have r0 : x * y % 18446744073709551616 < 18446744073709551616 := Nat.mod_lt _ (by decide)
  have ec : ((x * y : Nat) : Int) = (x : Int) * y := Int.natCast_mul x y
  generalize x * y / 18446744073709551616 = hi at *
  generalize x * y % 18446744073709551616 = lo at *
  generalize (x : Int) * y = XY at *
  generalize x * y = xy at *
  obtain ⟨s1, c1, f1, g1, l1, e1⟩ := add64 lo o 0 r0 ho (by decide)
  obtain ⟨s2, c2, f2, g2, l2, e2⟩ := add64 s1 c 0 l1 hc (by decide)
  have e0' : (18446744073709551616 : Int) * hi + lo = XY := by rw [← ec, ← e0]; simp
  have e3 := lin_mac _ _ _ _ _ _ _ _ _ _ e0' e1 e2
  have hS : XY + o + c < 18446744073709551616 * 18446744073709551616 := by
    clear e1 e2 e3 e0 e0' f1 f2
    omega
  have hq := lt_mac _ _ _ _ (by decide) e3 (Int.natCast_nonneg _) hS
  have e4 : ((hi + c1 + c2 : Nat) : Int) = hi + c1 + c2 := by simp
  have e5 : (s2 : Int) = XY + o + c - 18446744073709551616 * ((hi + c1 + c2 : Nat) : Int) := by rw [e4]; exact e3
  clear e1 e2 e0 e0' ec hS e3 hxy
  have z : (((0 : Nat) : Int)) = 0 := rfl
  rw [z] at f1 f2
  refine ⟨_, _, _, s2, hi + c1 + c2, hM, f1, f2, rfl, ?_, l2, by clear e5; omega, e5⟩
  simp only []
  rw [ur (x := (hi : Int) + c1) (by omega) (by omega), ur (x := (hi : Int) + c1 + c2) (by omega) (by omega)]
  rfl
/-- The value of digits, kept from the eyes of omega. -/
structure Vl (B : Nat) (l : List Int) (v : Int) : Prop where
  val : vl B l = v
theorem times_in (b x : Nat) (A : List Int) (i : Nat) (r : List Int) (v : Int) (hx : x < 18446744073709551616) (hiL : i + (D b).length < 35184372088832) (n0 : Int) (r' : List Int)
    (fin : ∀ (l : List Int) (c : Nat), l.length = r'.length → Digs 18446744073709551616 l → (∀ j, i + (D b).length ≤ j → l.getD j 0 = 0) → Vl 18446744073709551616 l (v + x * b * 18446744073709551616 ^ i - c * 18446744073709551616 ^ (i + (D b).length)) → c < 18446744073709551616 →
      Av (fun k => impl_nat_times.l0 k (D b) (l.set (i + (D b).length) c) A n0 ((i : Int) + 1)) r) : ∀ (d m c : Nat) (l : List Int), (D b).length - m = d → m ≤ (D b).length → c < 18446744073709551616 → l.length = r'.length → i + (D b).length < r'.length → Digs 18446744073709551616 l → (∀ j, i + (D b).length ≤ j → l.getD j 0 = 0) →
    Vl 18446744073709551616 l (v + x * (b % 18446744073709551616 ^ m : Nat) * 18446744073709551616 ^ i - c * 18446744073709551616 ^ (i + m)) →
    Av (fun k => impl_nat_times.l1 k (D b) l i x c A n0 i (D b) (D b).length m) r
  | 0, m, c, l, hd, hm, hc, hL, hr, hg, hz, hv => by
    obtain rfl : m = (D b).length := by omega
    refine Av.succ ?_
    simp only [impl_nat_times.l1]
    have e : wrap64 ((i : Int) + (D b).length) = ((i + (D b).length : Nat) : Int) := wrap_add (by omega)
    rw [e, wr (x := (i : Int) + 1) (by omega) (by omega)]
    refine Av.ifn (by omega) (Av.ifp (by omega) (Av.ifp (by omega) ?_))
    rw [Int.toNat_natCast]
    refine fin l c hL hg hz ⟨?_⟩ hc
    rw [hv.val, mod_full _ b (by decide) (Nat.le_refl _)]
  | d + 1, m, c, l, hd, hm, hc, hL, hr, hg, hz, hv => by
    have i1 : i + m < l.length := by omega
    have i2 : i + m < i + (D b).length := by omega
    have i3 : (D b).length - (m + 1) = d := by omega
    have i4 : m + 1 ≤ (D b).length := by omega
    have i6 : ((i + m : Nat) : Int) < l.length := by omega
    have i7 : (m : Int) < (D b).length := by omega
    have i8 : (0 : Int) ≤ m := by omega
    have e : wrap64 ((i : Int) + m) = ((i + m : Nat) : Int) := wrap_add (by omega)
    have i9 : m < 4611686018427387904 := by clear e; omega
    have e1 : wrap64 ((m : Int) + 1) = ((m + 1 : Nat) : Int) := wrap_one i9
    refine Av.succ ?_
    simp only [impl_nat_times.l1, e, e1, if_pos i7, if_pos i8]
    rw [rdD]
    have hy : b / 18446744073709551616 ^ m % 18446744073709551616 < 18446744073709551616 := Nat.mod_lt _ (by decide)
    have hs := mod_step 18446744073709551616 b m
    generalize b / 18446744073709551616 ^ m % 18446744073709551616 = y at *
    have hj0 : (0 : Int) ≤ ((i + m : Nat) : Int) := Int.natCast_nonneg _
    simp only [if_pos hj0, if_pos i6]
    have ho : rd l ((i + m : Nat) : Int) = l.getD (i + m) 0 := by unfold rd; rw [Int.toNat_natCast]
    have hob := digs_getD hg (by decide) (i + m)
    obtain ⟨o, hoe⟩ := Int.eq_ofNat_of_zero_le hob.1
    rw [ho]
    rw [hoe]
    rw [hoe] at hob
    have ho2 : o < 18446744073709551616 := Int.ofNat_lt.1 hob.2
    obtain ⟨m1, m2, m3, t, q, f1, f2, f3, f4, f5, ht, hq, he⟩ := mac64 x y o c hx hy ho2 hc
    simp only [Int.ofNat_eq_natCast, f1, f2, f3, f4, f5, Option.bind_some, Int.toNat_natCast]
    refine times_in b x A i r v hx hiL n0 r' fin d (m + 1) q _ i3 i4 hq (by rw [List.length_set]; exact hL) hr (digs_set hg ⟨Int.natCast_nonneg _, Int.ofNat_lt.2 ht⟩) ?_ ⟨?_⟩
    · intro j hj
      have i5 : i + m ≠ j := Nat.ne_of_lt (Nat.lt_of_lt_of_le i2 hj)
      rw [getD_set i1, if_neg i5]
      exact hz j hj
    · rw [vl_set _ _ _ _ i1, hv.val, hs, hoe, he]
      have e6 : ((18446744073709551616 : Nat) : Int) = 18446744073709551616 := rfl
      try simp only [e6]
      rw [← Nat.add_assoc, Int.pow_succ, Int.pow_add]
      generalize (18446744073709551616 : Int) ^ i = P at *
      generalize (18446744073709551616 : Int) ^ m = Q at *
      try simp only [Int.ofNat_eq_natCast]
      exact ring_mac _ _ _ _ _ _ _ _ _ _
theorem times_loop (a b : Nat) (hl : (D a).length + (D b).length < 35184372088832) : ∀ (d i : Nat) (l : List Int), (D a).length - i = d → i ≤ (D a).length → l.length = (D a).length + (D b).length → Upto 18446744073709551616 l (i + (D b).length) (((a % 18446744073709551616 ^ i : Nat) : Int) * b) →
    Av (fun k => impl_nat_times.l0 k (D b) l (D a) (D a).length i) (D (a * b))
  | 0, i, l, hd, hi, hL, h => by
    obtain rfl : i = (D a).length := by omega
    refine Av.succ ?_
    simp only [impl_nat_times.l0]
    refine Av.ifn (by omega) (Av.bind ?_ Av.ret)
    refine trim_f' h.digs (by omega) ?_
    rw [h.val, mod_full _ a (by decide) (Nat.le_refl _)]
    simp
  | d + 1, i, l, hd, hi, hL, h => by
    refine Av.succ ?_
    simp only [impl_nat_times.l0]
    refine Av.ifp (by omega) (Av.ifp (by omega) (Av.ifp (by omega) ?_))
    rw [rdD]
    refine times_in b (a / 18446744073709551616 ^ i % 18446744073709551616) (D a) i _ (((a % 18446744073709551616 ^ i : Nat) : Int) * b) (Nat.mod_lt _ (by decide)) (by omega) (D a).length l ?_ _ 0 0 l rfl (by omega) (by omega) rfl (by omega) h.digs h.zero ⟨?_⟩
    · intro l2 c h1 h2 h3 h4 h5
      have e : (i : Int) + 1 = ((i + 1 : Nat) : Int) := by omega
      rw [e]
      have h6 : Upto 18446744073709551616 l2 (i + (D b).length) _ := ⟨h2, h4.val, h3⟩
      have h7 := h6.set (x := (c : Int)) (w := ((a % 18446744073709551616 ^ (i + 1) : Nat) : Int) * b) (by omega) (by omega) (by
        rw [mod_step]
        have e6 : ((18446744073709551616 : Nat) : Int) = 18446744073709551616 := rfl
        try simp only [e6]
        grind)
      refine times_loop a b hl d (i + 1) _ (by omega) (by omega) (by rw [List.length_set]; omega) ?_
      have e2 : i + 1 + (D b).length = i + (D b).length + 1 := by omega
      rw [e2]
      exact h7
    · rw [h.val]; simp [Nat.mod_one]
theorem times_f (a b : Nat) (hl : (D a).length + (D b).length < 35184372088832) : Av (fun k => impl_nat_times.f k (D a) (D b)) (D (a * b)) := by
  unfold impl_nat_times.f
  have e : wrap64 (((D a).length : Int) + (D b).length) = (((D a).length + (D b).length : Nat) : Int) := by rw [wr (by omega) (by omega)]; omega
  rw [e, Int.toNat_natCast]
  refine Av.ifp (by omega) (Av.ifp (by omega) ?_)
  have h := times_loop a b hl _ 0 (List.replicate ((D a).length + (D b).length) 0) rfl (by omega) (by simp) (by
    simp only [Nat.pow_zero, Nat.mod_one]
    have := (Upto.start (B := 18446744073709551616) (by decide) ((D a).length + (D b).length)).more (j := 0 + (D b).length) (by omega)
    simpa using this)
  exact h
/-- How many bits a number has. -/
def nb (n : Nat) : Nat := (dg 2 n).length
theorem nb_lt (j n : Nat) : j < nb n ↔ 2 ^ j ≤ n := dg_length_lt (by decide) j n
theorem nb_le (j n : Nat) : nb n ≤ j ↔ n < 2 ^ j := dg_length_le (by decide) j n
theorem nb_div (n s : Nat) : nb (n / 2 ^ s) = nb n - s := by
  have h : ∀ j, j < nb (n / 2 ^ s) ↔ j + s < nb n := fun j => by
    rw [nb_lt, nb_lt, Nat.le_div_iff_mul_le (Nat.pow_pos (by decide)), ← Nat.pow_add]
  have h1 := h (nb (n / 2 ^ s))
  have h2 := h (nb n - s)
  by_cases h0 : nb (n / 2 ^ s) = 0
  · omega
  · have h3 := h (nb (n / 2 ^ s) - 1)
    omega
theorem nb_up {n s : Nat} (h : 2 ^ s ≤ n) : nb n = nb (n / 2 ^ s) + s := by
  have := nb_div n s
  have := (nb_lt s n).2 h
  omega
def lenTab : ByteArray := ⟨#[0, 1, 2, 2, 3, 3, 3, 3, 4, 4, 4, 4, 4, 4, 4, 4, 5, 5, 5, 5, 5, 5, 5, 5, 5, 5, 5, 5, 5, 5, 5, 5, 6, 6, 6, 6, 6, 6, 6, 6, 6, 6, 6, 6, 6, 6, 6, 6, 6, 6, 6, 6, 6, 6, 6, 6, 6, 6, 6, 6, 6, 6, 6, 6, 7, 7, 7, 7, 7, 7, 7, 7, 7, 7, 7, 7, 7, 7, 7, 7, 7, 7, 7, 7, 7, 7, 7, 7, 7, 7, 7, 7, 7, 7, 7, 7, 7, 7, 7, 7, 7, 7, 7, 7, 7, 7, 7, 7, 7, 7, 7, 7, 7, 7, 7, 7, 7, 7, 7, 7, 7, 7, 7, 7, 7, 7, 7, 7, 8, 8, 8, 8, 8, 8, 8, 8, 8, 8, 8, 8, 8, 8, 8, 8, 8, 8, 8, 8, 8, 8, 8, 8, 8, 8, 8, 8, 8, 8, 8, 8, 8, 8, 8, 8, 8, 8, 8, 8, 8, 8, 8, 8, 8, 8, 8, 8, 8, 8, 8, 8, 8, 8, 8, 8, 8, 8, 8, 8, 8, 8, 8, 8, 8, 8, 8, 8, 8, 8, 8, 8, 8, 8, 8, 8, 8, 8, 8, 8, 8, 8, 8, 8, 8, 8, 8, 8, 8, 8, 8, 8, 8, 8, 8, 8, 8, 8, 8, 8, 8, 8, 8, 8, 8, 8, 8, 8, 8, 8, 8, 8, 8, 8, 8, 8, 8, 8, 8, 8, 8, 8, 8, 8, 8, 8, 8, 8]⟩
theorem lenTab_all : ∀ i : Fin 256, bt lenTab (i.val : Int) = (nb i.val : Int) := by decide +kernel
theorem lenTab_at {x : Int} {n : Nat} (h : x = n) (hn : n < 256) : bt lenTab x = (nb n : Int) := by subst h; exact lenTab_all ⟨n, hn⟩
theorem nb_lt_256 {n : Nat} (h : n < 256) : nb n ≤ 8 := (nb_le 8 n).2 (by omega)
set_option maxRecDepth 100000 in
theorem len_j0 (x c : Nat) (hx : x < 4294967296) (hc : c ≤ 32) : Av (fun k => bits_Len64.j0 k x c) ((nb x + c : Nat) : Int) := by
  refine Av.succ ?_
  simp only [bits_Len64.j0]
  by_cases h1 : 65536 ≤ x
  · refine Av.ifp (by omega) ?_
    have e1 := nb_up (s := 16) (show 2 ^ 16 ≤ x by omega)
    by_cases h2 : 16777216 ≤ x
    · refine Av.ifp (by omega) (Av.ifp (by omega) (Av.ifp (by omega) (Av.ret' ?_)))
      have e2 := nb_up (n := x / 2 ^ 16) (s := 8) (by omega)
      have hl := nb_lt_256 (n := x / 2 ^ 16 / 2 ^ 8) (by omega)
      show wrap64 (wrap64 (wrap64 ((c : Int) + 16) + 8) + wrap64 (bt lenTab _)) = _
      rw [lenTab_at (n := x / 2 ^ 16 / 2 ^ 8) (by omega) (by omega), wr (x := (nb _ : Int)) (by omega) (by omega), wr (x := (c : Int) + 16) (by omega) (by omega), wr (x := (c : Int) + 16 + 8) (by omega) (by omega), wr (by omega) (by omega)]
      omega
    · refine Av.ifn (by omega) (Av.ifp (by omega) (Av.ifp (by omega) (Av.ret' ?_)))
      have hl := nb_lt_256 (n := x / 2 ^ 16) (by omega)
      show wrap64 (wrap64 ((c : Int) + 16) + wrap64 (bt lenTab _)) = _
      rw [lenTab_at (n := x / 2 ^ 16) (by omega) (by omega), wr (x := (nb _ : Int)) (by omega) (by omega), wr (x := (c : Int) + 16) (by omega) (by omega), wr (by omega) (by omega)]
      omega
  · refine Av.ifn (by omega) ?_
    by_cases h2 : 256 ≤ x
    · refine Av.ifp (by omega) (Av.ifp (by omega) (Av.ifp (by omega) (Av.ret' ?_)))
      have e2 := nb_up (n := x) (s := 8) (by omega)
      have hl := nb_lt_256 (n := x / 2 ^ 8) (by omega)
      show wrap64 (wrap64 ((c : Int) + 8) + wrap64 (bt lenTab _)) = _
      rw [lenTab_at (n := x / 2 ^ 8) (by omega) (by omega), wr (x := (nb _ : Int)) (by omega) (by omega), wr (x := (c : Int) + 8) (by omega) (by omega), wr (by omega) (by omega)]
      omega
    · refine Av.ifn (by omega) (Av.ifp (by omega) (Av.ifp (by omega) (Av.ret' ?_)))
      have hl := nb_lt_256 (n := x) (by omega)
      show wrap64 ((c : Int) + wrap64 (bt lenTab _)) = _
      rw [lenTab_at (n := x) (by omega) (by omega), wr (x := (nb _ : Int)) (by omega) (by omega), wr (by omega) (by omega)]
      omega
theorem len_f (x : Nat) (hx : x < 18446744073709551616) : Av (fun k => bits_Len64.f k x) (nb x : Int) := by
  unfold bits_Len64.f
  by_cases h : 4294967296 ≤ x
  · refine Av.ifp (by omega) ?_
    have e1 := nb_up (s := 32) (show 2 ^ 32 ≤ x by omega)
    have := len_j0 (x / 2 ^ 32) 32 (by omega) (by omega)
    rw [← e1] at this
    have e : (x : Int) / 4294967296 = ((x / 2 ^ 32 : Nat) : Int) := by omega
    rw [e]
    exact this
  · refine Av.ifn (by omega) ?_
    exact len_j0 x 0 (by omega) (by omega)
theorem lz_f (x : Nat) (hx : x < 18446744073709551616) : Av (fun k => bits_LeadingZeros64.f k x) (64 - (nb x : Int)) := by
  unfold bits_LeadingZeros64.f
  refine Av.bind (len_f x hx) (Av.ret' ?_)
  have := (nb_le 64 x).2 (by omega)
  rw [wr (by omega) (by omega)]
theorem W_pow (q : Nat) : (18446744073709551616 : Nat) ^ q = 2 ^ (64 * q) := by rw [Nat.pow_mul]
theorem size_f (n : Nat) (h : (D n).length < 4611686018427387) : Av (fun k => impl_nat_size.f k (D n)) (nb n : Int) := by
  unfold impl_nat_size.f
  by_cases h0 : n = 0
  · subst h0
    refine Av.ifp (by simp [dg_zero]) (Av.ret' (by simp [nb, dg_zero]))
  · have hl : 0 < (D n).length := by rw [D_lt]; simp; omega
    have hlo := (D_lt ((D n).length - 1) n).1 (by omega)
    have hhi := (D_le (D n).length n).1 (Nat.le_refl _)
    have hr : rd (D n) (((D n).length : Int) - 1) = ((n / 2 ^ (64 * ((D n).length - 1)) : Nat) : Int) := by
      have e : ((D n).length : Int) - 1 = (((D n).length - 1 : Nat) : Int) := by omega
      rw [e, rdD, W_pow]
      congr 1
      apply Nat.mod_eq_of_lt
      rw [Nat.div_lt_iff_lt_mul (Nat.pow_pos (by decide))]
      have e2 : (D n).length = (D n).length - 1 + 1 := by omega
      rw [e2, Nat.pow_succ, Nat.mul_comm, W_pow] at hhi
      exact hhi
    rw [W_pow] at hlo
    have hn := nb_up hlo
    have hlt : n / 2 ^ (64 * ((D n).length - 1)) < 18446744073709551616 := by
      rw [Nat.div_lt_iff_lt_mul (Nat.pow_pos (by decide))]
      have e2 : (D n).length = (D n).length - 1 + 1 := by omega
      rw [e2, Nat.pow_succ, Nat.mul_comm, W_pow] at hhi
      exact hhi
    refine Av.ifn (by omega) ?_
    simp (disch := omega) only [wr, if_pos, hr]
    refine Av.bind (lz_f _ hlt) (Av.ret' ?_)
    have := (nb_le 64 (n / 2 ^ (64 * ((D n).length - 1)))).2 (by omega)
    rw [wr (by omega) (by omega)]
    omega
theorem mod_div_mod {b : Nat} (hb : 0 < b) (x : Nat) {t r : Nat} (h : r < t) : x % b ^ t / b ^ r % b = x / b ^ r % b := by
  have e : b ^ t = b ^ r * b ^ (t - r) := by rw [← Nat.pow_add]; congr 1; omega
  rw [e, Nat.mod_mul_right_div_self]
  apply Nat.mod_mod_of_dvd
  have : t - r = t - r - 1 + 1 := by omega
  rw [this, Nat.pow_succ]
  exact Nat.dvd_mul_left _ _
/-- The lesser digits inside a digit. -/
theorem dig_sub {b : Nat} (hb : 0 < b) (n t q : Nat) {r : Nat} (h : r < t) : n / (b ^ t) ^ q % b ^ t / b ^ r % b = n / b ^ (t * q + r) % b := by
  rw [mod_div_mod hb _ h, Nat.div_div_eq_div_mul, ← Nat.pow_mul, ← Nat.pow_add]
theorem natCast_div_pow (a j : Nat) : ((a : Int) / 2 ^ j) = ((a / 2 ^ j : Nat) : Int) := by
  have e : (2 : Int) ^ j = ((2 ^ j : Nat) : Int) := by simp
  rw [e]; rfl
theorem bytes_of_bits (n : Nat) : (dg 256 n).length = (nb n + 7) / 8 := by
  have h : ∀ j, j < (dg 256 n).length ↔ 8 * j < nb n := fun j => by
    rw [dg_length_lt (by decide), nb_lt, Nat.pow_mul]
  have h1 := h (dg 256 n).length
  by_cases h0 : (dg 256 n).length = 0
  · have := h 0; omega
  · have := h ((dg 256 n).length - 1)
    omega
theorem text_loop (n : Nat) (h : (D n).length < 17592186044416) : ∀ m : Nat, m ≤ (dg 256 n).length → Av (fun k => impl_nat_text.l0 k (D n) ((dg 256 n).drop m).reverse m) (bts n)
  | 0, _ => by
    refine Av.succ ?_
    simp only [impl_nat_text.l0]
    refine Av.ifn (by omega) (Av.ret' ?_)
    simp [bts]
  | m + 1, hm => by
    refine Av.succ ?_
    simp only [impl_nat_text.l0]
    have hb : (dg 256 n).length ≤ 8 * (D n).length := by
      rw [dg_length_le (by decide), Nat.pow_mul]
      exact (D_le _ n).1 (Nat.le_refl _)
    have e1 : (((m + 1 : Nat) : Int) - 1) = m := by omega
    rw [e1]
    simp (disch := omega) only [wr, td, tm, if_pos]
    have hlen : (((dg 256 n).drop (m + 1)).reverse).length ≤ (dg 256 n).length := by rw [List.length_reverse, List.length_drop]; omega
    refine Av.ifp (by omega) ?_
    have e2 : shr .u64 (rd (D n) ((m : Int) / 8)) (8 * ((m : Int) % 8)) % 256 = (dg 256 n)[m]'(by omega) := by
      have e3 : (m : Int) / 8 = ((m / 8 : Nat) : Int) := by omega
      have e4 : min (8 * ((m : Int) % 8)).toNat IntKind.u64.bits = 8 * (m % 8) := by simp only [IntKind.bits]; omega
      unfold shr
      rw [e3, rdD, e4]
      have e5 := natCast_div_pow (n / 18446744073709551616 ^ (m / 8) % 18446744073709551616) (8 * (m % 8))
      rw [e5]
      have h4 := dig_sub (b := 256) (by decide) n 8 (m / 8) (r := m % 8) (by omega)
      have e6 : 8 * (m / 8) + m % 8 = m := by omega
      have e7 : (256 : Nat) ^ 8 = 18446744073709551616 := rfl
      have e8 : (2 : Nat) ^ (8 * (m % 8)) = 256 ^ (m % 8) := by rw [Nat.pow_mul]
      rw [e6, e7] at h4
      rw [e8]
      have h9 := dg_getD (B := 256) (by decide) m n
      rw [List.getD_eq_getElem?_getD, List.getElem?_eq_getElem (by omega)] at h9
      simp only [Option.getD_some] at h9
      rw [h9, ← h4]
      omega
    rw [e2]
    have e9 : ((dg 256 n).drop (m + 1)).reverse ++ [(dg 256 n)[m]'(by omega)] = ((dg 256 n).drop m).reverse := by
      rw [List.drop_eq_getElem_cons (show m < (dg 256 n).length by omega), List.reverse_cons]
    rw [e9]
    exact text_loop n h m (by omega)
theorem text_f (n : Nat) (h : (D n).length < 1759218604441) : Av (fun k => impl_nat_text.f k (D n)) (bts n) := by
  unfold impl_nat_text.f
  refine Av.bind (size_f n (by omega)) ?_
  have hb : (dg 256 n).length ≤ 8 * (D n).length := by
    rw [dg_length_le (by decide), Nat.pow_mul]
    exact (D_le _ n).1 (Nat.le_refl _)
  have hn := bytes_of_bits n
  simp (disch := omega) only [wr, td]
  have e : ((nb n : Int) + 7) / 8 = (((dg 256 n).length : Nat) : Int) := by omega
  rw [e]
  have := text_loop n (by omega) (dg 256 n).length (Nat.le_refl _)
  rw [List.drop_length, List.reverse_nil] at this
  exact this
/-- The number of the first i figures. -/
def fv (s : ByteArray) : Nat → Nat
  | 0 => 0
  | i + 1 => 10 * fv s i + (bt s i - 48).toNat
/-- Is byte i a figure? -/
def fig (s : ByteArray) (i : Nat) : Bool := decide (48 ≤ bt s i) && decide (bt s i ≤ 57)
/-- Are the first n bytes figures? -/
def figN (s : ByteArray) : Nat → Bool
  | 0 => true
  | n + 1 => figN s n && fig s n
theorem figN_of {s : ByteArray} : ∀ {n m : Nat}, figN s n = true → m < n → fig s m = true
  | 0, m, _, h => by omega
  | n + 1, m, h, hm => by
    simp only [figN, Bool.and_eq_true] at h
    by_cases e : m = n
    · subst e; exact h.2
    · exact figN_of h.1 (by omega)
theorem figN_not {s : ByteArray} {n m : Nat} (h : fig s m = false) (hm : m < n) : figN s n = false := by
  cases hf : figN s n with
  | false => rfl
  | true => rw [figN_of hf hm] at h; cases h
theorem fv_lt {s : ByteArray} : ∀ {n : Nat}, figN s n = true → fv s n < 10 ^ n
  | 0, _ => by simp [fv]
  | n + 1, h => by
    simp only [figN, Bool.and_eq_true] at h
    have ih := fv_lt h.1
    have hf := h.2
    simp only [fig, Bool.and_eq_true, decide_eq_true_eq] at hf
    have h9 : (bt s n - 48).toNat ≤ 9 := by omega
    simp only [fv]
    rw [Nat.pow_succ]
    generalize 10 ^ n = P at *
    omega
/-- Is that how a number is told? -/
def fok (s : ByteArray) : Bool := if s.size = 0 then false else if s.size = 1 then true else bt s 0 != 48
/-- What comes of figures. -/
def fgr (s : ByteArray) : List Int × Bool := if figN s s.size then (D (fv s s.size), fok s) else ([], false)
theorem ten_le {r : Nat} (h : r ≤ 18) : 10 ^ r ≤ 1000000000000000000 := by
  have : 10 ^ r ≤ 10 ^ 18 := Nat.pow_le_pow_right (by decide) h
  omega
theorem D_ten {n i : Nat} (h : n < 10 ^ i) : (D n).length ≤ i := (D_le _ _).2 (Nat.lt_of_lt_of_le h (Nat.pow_le_pow_left (by decide) _))
theorem small_ten {n : Nat} (h : n ≤ 1000000000000000000) : (D n).length ≤ 1 := (D_le 1 n).2 (by omega)
theorem ff_arith {o w P : Nat} (c : Nat) : 10 * (o * P + w) + c = o * (P * 10) + (10 * w + c) := by grind
theorem ff_mod {i : Nat} (h : ¬ i % 18 = 17) : i % 18 + 1 = (i + 1) % 18 := by omega
theorem mod18 (i : Nat) : Int.tmod (i : Int) 18 = ((i % 18 : Nat) : Int) := by rw [tm (by omega)]; omega
theorem ff_own {w c P : Nat} (hw : w < P) (hP : P * 10 ≤ 1000000000000000000) (hc : c ≤ 9) : wrap64 (wrap64 (10 * (w : Int)) + (48 + (c : Int) - 48) % 256) = ((10 * w + c : Nat) : Int) := by
  rw [wr (x := 10 * (w : Int)) (by omega) (by omega), wr (by omega) (by omega)]; omega
theorem ff_scale {P : Nat} (h : P * 10 ≤ 1000000000000000000) : wrap64 (10 * (P : Int)) = ((P * 10 : Nat) : Int) := by
  rw [wr (by omega) (by omega)]; omega
theorem ff_w {w c P : Nat} (hw : w < P) (hc : c ≤ 9) : 10 * w + c < P * 10 := by omega
theorem ff_loop (s : ByteArray) (hs : s.size ≤ 100000) : ∀ (d i o w r : Nat), s.size - i = d → i ≤ s.size → figN s i = true → fv s i = o * 10 ^ r + w → w < 10 ^ r → r ≤ 17 → (i < s.size → r = i % 18) → (i = s.size → r = 0) →
    Av (fun k => impl_fromFigures.l0 k s (D o) w ((10 ^ r : Nat) : Int) s.size i) (fgr s)
  | 0, i, o, w, r, hd, hi, hf, hv, hw, hr, _, he => by
    obtain rfl : i = s.size := by omega
    obtain rfl := he rfl
    have hw0 : w = 0 := by simpa using hw
    subst hw0
    rw [Nat.pow_zero, Nat.mul_one, Nat.add_zero] at hv
    refine Av.succ ?_
    simp only [impl_fromFigures.l0]
    refine Av.ifn (by omega) ?_
    unfold fgr fok
    rw [hf, if_pos rfl, hv]
    by_cases h0 : s.size = 0
    · rw [if_pos h0]
      exact Av.ifp (toList_nil_iff.2 h0) Av.ret
    · rw [if_neg h0]
      refine Av.ifn (fun h => h0 (toList_nil_iff.1 h)) ?_
      by_cases h1 : s.size = 1
      · rw [if_pos h1]
        exact Av.ifp (by omega) Av.ret
      · rw [if_neg h1]
        exact Av.ifn (by omega) (Av.ifp (by omega) Av.ret)
  | d + 1, i, o, w, r, hd, hi, hf, hv, hw, hr, hr1, he => by
    have i1 : i < s.size := by omega
    have i2 : s.size - (i + 1) = d := by omega
    have i3 : (i : Int) < s.size := by omega
    have hr2 := hr1 i1
    have hb := bt_range s i
    have hP := ten_le (r := r + 1) (by omega)
    rw [Nat.pow_succ] at hP
    have j1 : i < 4611686018427387904 := by omega
    have j2 : s.size < 4611686018427387904 := by omega
    have j3 : 1 ≤ s.size := by omega
    have j4 : i + 1 < 35184372088832 := by omega
    have g0 : (i % 18 = 17 ∨ i + 1 = s.size) → i + 1 < s.size → 0 = (i + 1) % 18 := by omega
    have g1 : ¬ i % 18 = 17 → r + 1 ≤ 17 := by omega
    have g3 : i + 1 = s.size → i = s.size - 1 := by omega
    have g2 : ¬ i + 1 = s.size → i ≠ s.size - 1 := by omega
    have e1 : wrap64 ((i : Int) + 1) = ((i + 1 : Nat) : Int) := wrap_one j1
    have et := mod18 i
    have en : wrap64 ((s.size : Int) - 1) = ((s.size - 1 : Nat) : Int) := wrap_pred j2 j3
    have jT : ∀ (a b c e g h : Int) (l : List Int), fig s i = false → Av (fun k => impl_fromFigures.j1 k s l a b c e g h true) (fgr s) := by
      intro a b c e g h l hfig
      refine Av.succ ?_
      simp only [impl_fromFigures.j1]
      refine Av.ifp (by decide) (Av.ret' ?_)
      unfold fgr
      rw [figN_not hfig i1]; rfl
    refine Av.succ ?_
    simp only [impl_fromFigures.l0]
    refine Av.ifp i3 (Av.ifp (Int.natCast_nonneg _) (Av.ifp i3 ?_))
    by_cases h48 : bt s i < 48
    · exact Av.ifp h48 (jT _ _ _ _ _ _ _ (by unfold fig; rw [decide_eq_false (by omega)]; rfl))
    refine Av.ifn h48 ?_
    by_cases h57 : bt s i > 57
    · rw [decide_eq_true h57]
      exact jT _ _ _ _ _ _ _ (by unfold fig; rw [decide_eq_false (p := bt s i ≤ 57) (by omega)]; simp)
    rw [decide_eq_false h57]
    have hfig : fig s i = true := by unfold fig; rw [decide_eq_true (by omega), decide_eq_true (by omega)]; rfl
    have hf1 : figN s (i + 1) = true := by simp only [figN, hf, hfig]; rfl
    have hlt := fv_lt hf1
    obtain ⟨c, hc⟩ : ∃ c : Nat, bt s i = 48 + (c : Int) := ⟨(bt s i - 48).toNat, by omega⟩
    have hc9 : c ≤ 9 := by omega
    have hfv : fv s (i + 1) = o * 10 ^ (r + 1) + (10 * w + c) := by
      have e0 : (bt s i - 48).toNat = c := by omega
      simp only [fv]
      rw [hv, e0, Nat.pow_succ]
      exact ff_arith c
    have hw1 : 10 * w + c < 10 ^ (r + 1) := by rw [Nat.pow_succ]; exact ff_w hw hc9
    have ew : wrap64 (wrap64 (10 * (w : Int)) + (bt s i - 48) % 256) = ((10 * w + c : Nat) : Int) := by rw [hc]; exact ff_own hw hP hc9
    have es : wrap64 (10 * ((10 ^ r : Nat) : Int)) = ((10 ^ (r + 1) : Nat) : Int) := by rw [Nat.pow_succ]; exact ff_scale hP
    have hP18 : 10 ^ (r + 1) ≤ 1000000000000000000 := by rw [Nat.pow_succ]; exact hP
    have hole : o ≤ fv s i := by
      rw [hv]
      exact Nat.le_trans (Nat.le_mul_of_pos_right _ (Nat.pow_pos (by decide))) (Nat.le_add_right _ _)
    have ho := D_ten (Nat.lt_of_le_of_lt hole (fv_lt hf))
    have h3 : o * 10 ^ (r + 1) ≤ fv s (i + 1) := by rw [hfv]; exact Nat.le_add_right _ _
    have hm := D_ten (Nat.lt_of_le_of_lt h3 hlt)
    have hown : 10 * w + c ≤ 1000000000000000000 := Nat.le_trans (Nat.le_of_lt hw1) hP18
    have hs1 := small_ten hP18
    have hs2 := small_ten hown
    have k1 : 10 ^ (r + 1) < 18446744073709551616 := Nat.lt_of_le_of_lt hP18 (by decide)
    have k2 : 10 * w + c < 18446744073709551616 := Nat.lt_of_le_of_lt hown (by decide)
    have k3 : (D o).length + (D (10 ^ (r + 1))).length < 35184372088832 := Nat.lt_of_le_of_lt (Nat.add_le_add ho hs1) j4
    have k4 : (D (o * 10 ^ (r + 1))).length < 35184372088832 := Nat.lt_of_le_of_lt hm j4
    have k5 : (D (10 * w + c)).length < 35184372088832 := Nat.lt_of_le_of_lt hs2 (by decide)
    have flush : (i % 18 = 17 ∨ i + 1 = s.size) → Av (fun k => impl_fromFigures.j2 k s (D o) ((10 * w + c : Nat) : Int) ((10 ^ (r + 1) : Nat) : Int) s.size i true) (fgr s) := by
      intro hor
      refine Av.succ ?_
      simp only [impl_fromFigures.j2, e1]
      refine Av.ifp (by decide) (Av.bind (small_f _ k1) (Av.bind (times_f _ _ k3) (Av.bind (small_f _ k2) (Av.bind (plus_f _ _ k4 k5) ?_))))
      rw [← hfv]
      have hn := ff_loop s hs d (i + 1) (fv s (i + 1)) 0 0 i2 i1 hf1 (by simp) (by decide) (by decide) (g0 hor) (fun _ => rfl)
      exact hn
    refine Av.succ ?_
    simp only [impl_fromFigures.j1, ew, es, et, en]
    refine Av.ifn (by decide) ?_
    by_cases h17 : i % 18 = 17
    · exact Av.ifp (by rw [h17]; rfl) (flush (.inl h17))
    · refine Av.ifn (fun h => h17 (Int.ofNat.inj h)) ?_
      by_cases hl : i + 1 = s.size
      · have eb : ((i : Int) == ((s.size - 1 : Nat) : Int)) = true := beq_iff_eq.2 (congrArg Int.ofNat (g3 hl))
        rw [eb]; exact flush (.inr hl)
      · have eb : ((i : Int) == ((s.size - 1 : Nat) : Int)) = false := by
          rw [beq_eq_false_iff_ne]
          exact fun h => g2 hl (Int.ofNat.inj h)
        rw [eb]
        refine Av.succ ?_
        simp only [impl_fromFigures.j2, e1]
        refine Av.ifn (by decide) ?_
        refine ff_loop s hs d (i + 1) o (10 * w + c) (r + 1) i2 i1 hf1 hfv hw1 (g1 h17) (fun _ => ?_) (fun h => absurd h hl)
        rw [hr2]; exact ff_mod h17
theorem ff_f (s : ByteArray) (hs : s.size ≤ 100000) : Av (fun k => impl_fromFigures.f k s) (fgr s) := by
  unfold impl_fromFigures.f
  have h := ff_loop s hs s.size 0 0 0 0 rfl (Nat.zero_le _) rfl (by simp [fv]) (by decide) (by decide) (fun _ => rfl) (fun _ => rfl)
  exact h
/-- The number of a text, if it is one of figures alone. -/
def fgv (s : ByteArray) : Option Nat := if figN s s.size then some (fv s s.size) else none
def fgl (s : ByteArray) : List Int := match fgv s with
  | some n => D n
  | none => []
theorem fgr_fst (s : ByteArray) : (fgr s).1 = fgl s := by
  unfold fgr fgl fgv
  cases figN s s.size <;> rfl
theorem figured_loop (l : List ByteArray) (hs : l.all (fun s => decide (s.size ≤ 1000)) = true) (hl : l.length < 1000000) : ∀ (d i : Nat), l.length - i = d → i ≤ l.length → Av (fun k => impl_figured.l0 k ((l.take i).map fgl) l l.length i) (l.map fgl)
  | 0, i, hd, hi => by
    refine Av.succ ?_
    simp only [impl_figured.l0]
    refine Av.ifn (by omega) (Av.ret' ?_)
    rw [List.take_of_length_le (by omega)]
  | d + 1, i, hd, hi => by
    have i1 : i < l.length := by omega
    have e1 : wrap64 ((i : Int) + 1) = ((i + 1 : Nat) : Int) := wrap_one (by omega)
    have hr : rdOf ByteArray.empty l (i : Int) = l[i] := by
      unfold rdOf
      rw [Int.toNat_natCast, List.getD_eq_getElem?_getD, List.getElem?_eq_getElem i1]; rfl
    have hz : l[i].size ≤ 1000 := by
      have := List.all_eq_true.1 hs l[i] (List.getElem_mem i1)
      simpa using this
    refine Av.succ ?_
    simp only [impl_figured.l0, e1, hr]
    refine Av.ifp (by omega) (Av.ifp (by omega) (Av.ifp (by omega) (Av.bind (ff_f _ (by omega)) (Av.ifp (by rw [List.length_map, List.length_take]; omega) ?_))))
    rw [fgr_fst]
    have := figured_loop l hs hl d (i + 1) (by omega) (by omega)
    rw [List.take_succ_eq_append_getElem i1, List.map_append] at this
    exact this
theorem figured_f (l : List ByteArray) (hs : l.all (fun s => decide (s.size ≤ 1000)) = true) (hl : l.length < 1000000) : Av (fun k => impl_figured.f k l) (l.map fgl) := by
  unfold impl_figured.f
  exact figured_loop l hs hl l.length 0 (by omega) (by omega)
/-- The eleven numbers of a curve: P, R, B, both of B2, the base point's two, the pair base point's four. -/
def cn (id : Nat) : List Nat :=
  if id = 1 then [1706311, 1704961, 3, 46117, 276699, 1, 2, 1065856, 131722, 644753, 478480]
  else if id = 2 then [10647363907, 9831361, 4, 4, 4, 1128182299, 5053441866, 6020256047, 6598444234, 1086762473, 7297982430]
  else if id = 3 then [21888242871839275222246405745257275088696311157297823662689037894645226208583, 21888242871839275222246405745257275088548364400416034343698204186575808495617, 3, 19485874751759354771024239261021720505790618469301721065564631296452457478373, 266929791119991161246907387137283842545076965332900288569378510910307636690, 1, 2, 10857046999023057135944570762232829481370756359578518086990519993285655852781, 11559732032986387107991004021392285783925812861821192530917403151452391805634, 8495653923123431417604973247489272438418190587263600148770280649306958101930, 4082367875863433681332203403145435568316851327593401208105741076214120093531]
  else [4002409555221667393417789825735904156556882819939007885332058136124031650490837864442687629129015664037894272559787, 52435875175126190479447740508185965837690552500527637822603658699938581184513, 4, 4, 4, 3685416753713387016781088315183077757961620795782546409894578378688607592378376318836054947676345821548104185464507, 1339506544944476473020471379941921221584933875938349620426543736416511423956333506472724655353366534992391756441569, 352701069587466618187139116011060144890029952792775240219908644239793785735715026873347600343865175952761926303160, 3059144344244213709971259814753781636986470325476647558659373206291635324768958432433509563104347017837885763365758, 1985150602287291935568054521177171638300868978215655730859378665066344726373823718423869104263333984641494340347905, 927553665492332455747201965776037880757740193453592970025027978793976877002675564980949289727957565575433344219582]
def nm (id : Nat) : ByteArray := if id = 1 then (⟨#[110, 97, 114, 114, 111, 119, 45, 115, 109, 97, 108, 108]⟩ : ByteArray) else if id = 2 then (⟨#[98, 114, 111, 97, 100, 45, 115, 109, 97, 108, 108]⟩ : ByteArray) else if id = 3 then (⟨#[110, 97, 114, 114, 111, 119]⟩ : ByteArray) else (⟨#[98, 114, 111, 97, 100]⟩ : ByteArray)
def brd (id : Nat) : Bool := id == 2 || id == 4
def figs (id : Nat) : List ByteArray :=
  if id = 1 then [(⟨#[49, 55, 48, 54, 51, 49, 49]⟩ : ByteArray), (⟨#[49, 55, 48, 52, 57, 54, 49]⟩ : ByteArray), (⟨#[51]⟩ : ByteArray), (⟨#[52, 54, 49, 49, 55]⟩ : ByteArray), (⟨#[50, 55, 54, 54, 57, 57]⟩ : ByteArray), (⟨#[49]⟩ : ByteArray), (⟨#[50]⟩ : ByteArray), (⟨#[49, 48, 54, 53, 56, 53, 54]⟩ : ByteArray), (⟨#[49, 51, 49, 55, 50, 50]⟩ : ByteArray), (⟨#[54, 52, 52, 55, 53, 51]⟩ : ByteArray), (⟨#[52, 55, 56, 52, 56, 48]⟩ : ByteArray)]
  else if id = 2 then [(⟨#[49, 48, 54, 52, 55, 51, 54, 51, 57, 48, 55]⟩ : ByteArray), (⟨#[57, 56, 51, 49, 51, 54, 49]⟩ : ByteArray), (⟨#[52]⟩ : ByteArray), (⟨#[52]⟩ : ByteArray), (⟨#[52]⟩ : ByteArray), (⟨#[49, 49, 50, 56, 49, 56, 50, 50, 57, 57]⟩ : ByteArray), (⟨#[53, 48, 53, 51, 52, 52, 49, 56, 54, 54]⟩ : ByteArray), (⟨#[54, 48, 50, 48, 50, 53, 54, 48, 52, 55]⟩ : ByteArray), (⟨#[54, 53, 57, 56, 52, 52, 52, 50, 51, 52]⟩ : ByteArray), (⟨#[49, 48, 56, 54, 55, 54, 50, 52, 55, 51]⟩ : ByteArray), (⟨#[55, 50, 57, 55, 57, 56, 50, 52, 51, 48]⟩ : ByteArray)]
  else if id = 3 then [(⟨#[50, 49, 56, 56, 56, 50, 52, 50, 56, 55, 49, 56, 51, 57, 50, 55, 53, 50, 50, 50, 50, 52, 54, 52, 48, 53, 55, 52, 53, 50, 53, 55, 50, 55, 53, 48, 56, 56, 54, 57, 54, 51, 49, 49, 49, 53, 55, 50, 57, 55, 56, 50, 51, 54, 54, 50, 54, 56, 57, 48, 51, 55, 56, 57, 52, 54, 52, 53, 50, 50, 54, 50, 48, 56, 53, 56, 51]⟩ : ByteArray), (⟨#[50, 49, 56, 56, 56, 50, 52, 50, 56, 55, 49, 56, 51, 57, 50, 55, 53, 50, 50, 50, 50, 52, 54, 52, 48, 53, 55, 52, 53, 50, 53, 55, 50, 55, 53, 48, 56, 56, 53, 52, 56, 51, 54, 52, 52, 48, 48, 52, 49, 54, 48, 51, 52, 51, 52, 51, 54, 57, 56, 50, 48, 52, 49, 56, 54, 53, 55, 53, 56, 48, 56, 52, 57, 53, 54, 49, 55]⟩ : ByteArray), (⟨#[51]⟩ : ByteArray), (⟨#[49, 57, 52, 56, 53, 56, 55, 52, 55, 53, 49, 55, 53, 57, 51, 53, 52, 55, 55, 49, 48, 50, 52, 50, 51, 57, 50, 54, 49, 48, 50, 49, 55, 50, 48, 53, 48, 53, 55, 57, 48, 54, 49, 56, 52, 54, 57, 51, 48, 49, 55, 50, 49, 48, 54, 53, 53, 54, 52, 54, 51, 49, 50, 57, 54, 52, 53, 50, 52, 53, 55, 52, 55, 56, 51, 55, 51]⟩ : ByteArray), (⟨#[50, 54, 54, 57, 50, 57, 55, 57, 49, 49, 49, 57, 57, 57, 49, 49, 54, 49, 50, 52, 54, 57, 48, 55, 51, 56, 55, 49, 51, 55, 50, 56, 51, 56, 52, 50, 53, 52, 53, 48, 55, 54, 57, 54, 53, 51, 51, 50, 57, 48, 48, 50, 56, 56, 53, 54, 57, 51, 55, 56, 53, 49, 48, 57, 49, 48, 51, 48, 55, 54, 51, 54, 54, 57, 48]⟩ : ByteArray), (⟨#[49]⟩ : ByteArray), (⟨#[50]⟩ : ByteArray), (⟨#[49, 48, 56, 53, 55, 48, 52, 54, 57, 57, 57, 48, 50, 51, 48, 53, 55, 49, 51, 53, 57, 52, 52, 53, 55, 48, 55, 54, 50, 50, 51, 50, 56, 50, 57, 52, 56, 49, 51, 55, 48, 55, 53, 54, 51, 53, 57, 53, 55, 56, 53, 49, 56, 48, 56, 54, 57, 57, 48, 53, 49, 57, 57, 57, 51, 50, 56, 53, 54, 53, 53, 56, 53, 50, 55, 56, 49]⟩ : ByteArray), (⟨#[49, 49, 53, 53, 57, 55, 51, 50, 48, 51, 50, 57, 56, 54, 51, 56, 55, 49, 48, 55, 57, 57, 49, 48, 48, 52, 48, 50, 49, 51, 57, 50, 50, 56, 53, 55, 56, 51, 57, 50, 53, 56, 49, 50, 56, 54, 49, 56, 50, 49, 49, 57, 50, 53, 51, 48, 57, 49, 55, 52, 48, 51, 49, 53, 49, 52, 53, 50, 51, 57, 49, 56, 48, 53, 54, 51, 52]⟩ : ByteArray), (⟨#[56, 52, 57, 53, 54, 53, 51, 57, 50, 51, 49, 50, 51, 52, 51, 49, 52, 49, 55, 54, 48, 52, 57, 55, 51, 50, 52, 55, 52, 56, 57, 50, 55, 50, 52, 51, 56, 52, 49, 56, 49, 57, 48, 53, 56, 55, 50, 54, 51, 54, 48, 48, 49, 52, 56, 55, 55, 48, 50, 56, 48, 54, 52, 57, 51, 48, 54, 57, 53, 56, 49, 48, 49, 57, 51, 48]⟩ : ByteArray), (⟨#[52, 48, 56, 50, 51, 54, 55, 56, 55, 53, 56, 54, 51, 52, 51, 51, 54, 56, 49, 51, 51, 50, 50, 48, 51, 52, 48, 51, 49, 52, 53, 52, 51, 53, 53, 54, 56, 51, 49, 54, 56, 53, 49, 51, 50, 55, 53, 57, 51, 52, 48, 49, 50, 48, 56, 49, 48, 53, 55, 52, 49, 48, 55, 54, 50, 49, 52, 49, 50, 48, 48, 57, 51, 53, 51, 49]⟩ : ByteArray)]
  else [(⟨#[52, 48, 48, 50, 52, 48, 57, 53, 53, 53, 50, 50, 49, 54, 54, 55, 51, 57, 51, 52, 49, 55, 55, 56, 57, 56, 50, 53, 55, 51, 53, 57, 48, 52, 49, 53, 54, 53, 53, 54, 56, 56, 50, 56, 49, 57, 57, 51, 57, 48, 48, 55, 56, 56, 53, 51, 51, 50, 48, 53, 56, 49, 51, 54, 49, 50, 52, 48, 51, 49, 54, 53, 48, 52, 57, 48, 56, 51, 55, 56, 54, 52, 52, 52, 50, 54, 56, 55, 54, 50, 57, 49, 50, 57, 48, 49, 53, 54, 54, 52, 48, 51, 55, 56, 57, 52, 50, 55, 50, 53, 53, 57, 55, 56, 55]⟩ : ByteArray), (⟨#[53, 50, 52, 51, 53, 56, 55, 53, 49, 55, 53, 49, 50, 54, 49, 57, 48, 52, 55, 57, 52, 52, 55, 55, 52, 48, 53, 48, 56, 49, 56, 53, 57, 54, 53, 56, 51, 55, 54, 57, 48, 53, 53, 50, 53, 48, 48, 53, 50, 55, 54, 51, 55, 56, 50, 50, 54, 48, 51, 54, 53, 56, 54, 57, 57, 57, 51, 56, 53, 56, 49, 49, 56, 52, 53, 49, 51]⟩ : ByteArray), (⟨#[52]⟩ : ByteArray), (⟨#[52]⟩ : ByteArray), (⟨#[52]⟩ : ByteArray), (⟨#[51, 54, 56, 53, 52, 49, 54, 55, 53, 51, 55, 49, 51, 51, 56, 55, 48, 49, 54, 55, 56, 49, 48, 56, 56, 51, 49, 53, 49, 56, 51, 48, 55, 55, 55, 53, 55, 57, 54, 49, 54, 50, 48, 55, 57, 53, 55, 56, 50, 53, 52, 54, 52, 48, 57, 56, 57, 52, 53, 55, 56, 51, 55, 56, 54, 56, 56, 54, 48, 55, 53, 57, 50, 51, 55, 56, 51, 55, 54, 51, 49, 56, 56, 51, 54, 48, 53, 52, 57, 52, 55, 54, 55, 54, 51, 52, 53, 56, 50, 49, 53, 52, 56, 49, 48, 52, 49, 56, 53, 52, 54, 52, 53, 48, 55]⟩ : ByteArray), (⟨#[49, 51, 51, 57, 53, 48, 54, 53, 52, 52, 57, 52, 52, 52, 55, 54, 52, 55, 51, 48, 50, 48, 52, 55, 49, 51, 55, 57, 57, 52, 49, 57, 50, 49, 50, 50, 49, 53, 56, 52, 57, 51, 51, 56, 55, 53, 57, 51, 56, 51, 52, 57, 54, 50, 48, 52, 50, 54, 53, 52, 51, 55, 51, 54, 52, 49, 54, 53, 49, 49, 52, 50, 51, 57, 53, 54, 51, 51, 51, 53, 48, 54, 52, 55, 50, 55, 50, 52, 54, 53, 53, 51, 53, 51, 51, 54, 54, 53, 51, 52, 57, 57, 50, 51, 57, 49, 55, 53, 54, 52, 52, 49, 53, 54, 57]⟩ : ByteArray), (⟨#[51, 53, 50, 55, 48, 49, 48, 54, 57, 53, 56, 55, 52, 54, 54, 54, 49, 56, 49, 56, 55, 49, 51, 57, 49, 49, 54, 48, 49, 49, 48, 54, 48, 49, 52, 52, 56, 57, 48, 48, 50, 57, 57, 53, 50, 55, 57, 50, 55, 55, 53, 50, 52, 48, 50, 49, 57, 57, 48, 56, 54, 52, 52, 50, 51, 57, 55, 57, 51, 55, 56, 53, 55, 51, 53, 55, 49, 53, 48, 50, 54, 56, 55, 51, 51, 52, 55, 54, 48, 48, 51, 52, 51, 56, 54, 53, 49, 55, 53, 57, 53, 50, 55, 54, 49, 57, 50, 54, 51, 48, 51, 49, 54, 48]⟩ : ByteArray), (⟨#[51, 48, 53, 57, 49, 52, 52, 51, 52, 52, 50, 52, 52, 50, 49, 51, 55, 48, 57, 57, 55, 49, 50, 53, 57, 56, 49, 52, 55, 53, 51, 55, 56, 49, 54, 51, 54, 57, 56, 54, 52, 55, 48, 51, 50, 53, 52, 55, 54, 54, 52, 55, 53, 53, 56, 54, 53, 57, 51, 55, 51, 50, 48, 54, 50, 57, 49, 54, 51, 53, 51, 50, 52, 55, 54, 56, 57, 53, 56, 52, 51, 50, 52, 51, 51, 53, 48, 57, 53, 54, 51, 49, 48, 52, 51, 52, 55, 48, 49, 55, 56, 51, 55, 56, 56, 53, 55, 54, 51, 51, 54, 53, 55, 53, 56]⟩ : ByteArray), (⟨#[49, 57, 56, 53, 49, 53, 48, 54, 48, 50, 50, 56, 55, 50, 57, 49, 57, 51, 53, 53, 54, 56, 48, 53, 52, 53, 50, 49, 49, 55, 55, 49, 55, 49, 54, 51, 56, 51, 48, 48, 56, 54, 56, 57, 55, 56, 50, 49, 53, 54, 53, 53, 55, 51, 48, 56, 53, 57, 51, 55, 56, 54, 54, 53, 48, 54, 54, 51, 52, 52, 55, 50, 54, 51, 55, 51, 56, 50, 51, 55, 49, 56, 52, 50, 51, 56, 54, 57, 49, 48, 52, 50, 54, 51, 51, 51, 51, 57, 56, 52, 54, 52, 49, 52, 57, 52, 51, 52, 48, 51, 52, 55, 57, 48, 53]⟩ : ByteArray), (⟨#[57, 50, 55, 53, 53, 51, 54, 54, 53, 52, 57, 50, 51, 51, 50, 52, 53, 53, 55, 52, 55, 50, 48, 49, 57, 54, 53, 55, 55, 54, 48, 51, 55, 56, 56, 48, 55, 53, 55, 55, 52, 48, 49, 57, 51, 52, 53, 51, 53, 57, 50, 57, 55, 48, 48, 50, 53, 48, 50, 55, 57, 55, 56, 55, 57, 51, 57, 55, 54, 56, 55, 55, 48, 48, 50, 54, 55, 53, 53, 54, 52, 57, 56, 48, 57, 52, 57, 50, 56, 57, 55, 50, 55, 57, 53, 55, 53, 54, 53, 53, 55, 53, 52, 51, 51, 51, 52, 52, 50, 49, 57, 53, 56, 50]⟩ : ByteArray)]
theorem figs_cn : ∀ i : Fin 4, (figs (i.val + 1)).map fgv = (cn (i.val + 1)).map some ∧ (figs (i.val + 1)).length = 11 ∧ (figs (i.val + 1)).all (fun s => decide (s.size ≤ 1000)) = true := by decide +kernel
/-- What a curve's form holds. -/
def frm (id : Nat) : ByteArray × Bool × List Int × List Int × List Int × List Int × List Int × List Int × List Int × List Int × List Int × List Int × List Int :=
  (nm id, brd id, D ((cn id).getD 0 0), D ((cn id).getD 1 0), D ((cn id).getD 2 0), D ((cn id).getD 3 0), D ((cn id).getD 4 0), D ((cn id).getD 5 0), D ((cn id).getD 6 0), D ((cn id).getD 7 0), D ((cn id).getD 8 0), D ((cn id).getD 9 0), D ((cn id).getD 10 0))
theorem form_f (a : ByteArray) (b : Bool) (l : List ByteArray) (c : List Nat) (h : l.map fgv = c.map some) (hl : l.length = 11) (hs : l.all (fun s => decide (s.size ≤ 1000)) = true) : Av (fun k => impl_formOf.f k a b l) (a, b, D (c.getD 0 0), D (c.getD 1 0), D (c.getD 2 0), D (c.getD 3 0), D (c.getD 4 0), D (c.getD 5 0), D (c.getD 6 0), D (c.getD 7 0), D (c.getD 8 0), D (c.getD 9 0), D (c.getD 10 0)) := by
  unfold impl_formOf.f
  refine Av.bind (figured_f l hs (by omega)) ?_
  have e : l.map fgl = c.map D := by
    have h1 : l.map fgl = (l.map fgv).map (fun o => match o with | some n => D n | none => []) := by
      rw [List.map_map]; rfl
    rw [h1, h, List.map_map]; rfl
  have hc : c.length = 11 := by
    have := congrArg List.length h
    simp only [List.length_map] at this
    omega
  have hm : (c.map D).length = 11 := by rw [List.length_map, hc]
  rw [e]
  have g : ∀ j : Nat, rd_L4 (c.map D) (j : Int) = D (c.getD j 0) := by
    intro j
    unfold rd_L4
    rw [Int.toNat_natCast, List.getD_eq_getElem?_getD, List.getD_eq_getElem?_getD, List.getElem?_map]
    cases c[j]? <;> rfl
  refine Av.ifp (by omega) (Av.ifp (by omega) (Av.ifp (by omega) (Av.ifp (by omega) (Av.ifp (by omega) (Av.ifp (by omega) (Av.ifp (by omega) (Av.ifp (by omega) (Av.ifp (by omega) (Av.ifp (by omega) (Av.ifp (by omega) (Av.ret' ?_)))))))))))
  have g0 := g 0
  have g1 := g 1
  have g2 := g 2
  have g3 := g 3
  have g4 := g 4
  have g5 := g 5
  have g6 := g 6
  have g7 := g 7
  have g8 := g 8
  have g9 := g 9
  have g10 := g 10
  simp only [Int.ofNat_eq_natCast, Int.natCast_zero, Int.natCast_one] at g0 g1
  simp only [show ((0 : Nat) : Int) = 0 from rfl, show ((1 : Nat) : Int) = 1 from rfl, show ((2 : Nat) : Int) = 2 from rfl, show ((3 : Nat) : Int) = 3 from rfl, show ((4 : Nat) : Int) = 4 from rfl, show ((5 : Nat) : Int) = 5 from rfl, show ((6 : Nat) : Int) = 6 from rfl, show ((7 : Nat) : Int) = 7 from rfl, show ((8 : Nat) : Int) = 8 from rfl, show ((9 : Nat) : Int) = 9 from rfl, show ((10 : Nat) : Int) = 10 from rfl] at g0 g1 g2 g3 g4 g5 g6 g7 g8 g9 g10
  rw [g0, g1, g2, g3, g4, g5, g6, g7, g8, g9, g10]
theorem curve_f (id : Nat) (h1 : 1 ≤ id) (h4 : id ≤ 4) : Av (fun k => impl_curve.f k id) (frm id) := by
  have hf := figs_cn ⟨id - 1, by omega⟩
  have e : id - 1 + 1 = id := by omega
  simp only [e] at hf
  have hfm := fun a b => form_f a b (figs id) (cn id) hf.1 hf.2.1 hf.2.2
  unfold impl_curve.f
  by_cases c1 : id = 1
  · subst c1
    exact Av.ifp (by decide) (Av.bind (hfm _ _) (Av.ret' rfl))
  refine Av.ifn (by omega) ?_
  by_cases c2 : id = 2
  · subst c2
    exact Av.ifp (by decide) (Av.bind (hfm _ _) (Av.ret' rfl))
  refine Av.ifn (by omega) ?_
  by_cases c3 : id = 3
  · subst c3
    exact Av.ifp (by decide) (Av.bind (hfm _ _) (Av.ret' rfl))
  refine Av.ifn (by omega) ?_
  obtain rfl : id = 4 := by omega
  exact Av.bind (hfm _ _) (Av.ret' rfl)
theorem cn_gb : ∀ i : Fin 4, (cn (i.val + 1)).all (fun n => decide (n < 256 ^ 48)) = true := by decide +kernel
theorem cn_lt {id : Nat} (h1 : 1 ≤ id) (h4 : id ≤ 4) (j : Nat) : (cn id).getD j 0 < 256 ^ 48 := by
  have h := cn_gb ⟨id - 1, by omega⟩
  have e : id - 1 + 1 = id := by omega
  simp only [e, List.all_eq_true, decide_eq_true_eq] at h
  rw [List.getD_eq_getElem?_getD]
  rcases hq : (cn id)[j]? with _ | n
  · exact Nat.pow_pos (by decide)
  · exact h n (List.mem_of_getElem? hq)
theorem cn_gb' {id : Nat} (h1 : 1 ≤ id) (h4 : id ≤ 4) (j : Nat) : (cn id).getD j 0 < GB := Nat.lt_of_lt_of_le (cn_lt h1 h4 j) (Nat.pow_le_pow_right (by decide) (by decide))
def crv (id : Nat) : ByteArray × ByteArray × ByteArray × ByteArray × ByteArray × ByteArray × Int × Int × Bool :=
  (nm id, bts ((cn id).getD 0 0), bts ((cn id).getD 1 0), bts ((cn id).getD 2 0), bts ((cn id).getD 3 0), bts ((cn id).getD 4 0), ((bts ((cn id).getD 0 0)).size : Int), ((bts ((cn id).getD 1 0)).size : Int), brd id)
theorem crv1 : crv 1 = ((⟨#[110, 97, 114, 114, 111, 119, 45, 115, 109, 97, 108, 108]⟩ : ByteArray), (⟨#[26, 9, 71]⟩ : ByteArray), (⟨#[26, 4, 1]⟩ : ByteArray), (⟨#[3]⟩ : ByteArray), (⟨#[180, 37]⟩ : ByteArray), (⟨#[4, 56, 219]⟩ : ByteArray), 3, 3, false) := by kernel_rfl
theorem crv2 : crv 2 = ((⟨#[98, 114, 111, 97, 100, 45, 115, 109, 97, 108, 108]⟩ : ByteArray), (⟨#[2, 122, 161, 225, 67]⟩ : ByteArray), (⟨#[150, 3, 193]⟩ : ByteArray), (⟨#[4]⟩ : ByteArray), (⟨#[4]⟩ : ByteArray), (⟨#[4]⟩ : ByteArray), 5, 3, true) := by kernel_rfl
theorem crv3 : crv 3 = ((⟨#[110, 97, 114, 114, 111, 119]⟩ : ByteArray), (⟨#[48, 100, 78, 114, 225, 49, 160, 41, 184, 80, 69, 182, 129, 129, 88, 93, 151, 129, 106, 145, 104, 113, 202, 141, 60, 32, 140, 22, 216, 124, 253, 71]⟩ : ByteArray), (⟨#[48, 100, 78, 114, 225, 49, 160, 41, 184, 80, 69, 182, 129, 129, 88, 93, 40, 51, 232, 72, 121, 185, 112, 145, 67, 225, 245, 147, 240, 0, 0, 1]⟩ : ByteArray), (⟨#[3]⟩ : ByteArray), (⟨#[43, 20, 157, 64, 206, 184, 170, 174, 129, 190, 24, 153, 27, 224, 106, 195, 181, 180, 197, 229, 89, 219, 239, 163, 50, 103, 230, 220, 36, 161, 56, 229]⟩ : ByteArray), (⟨#[151, 19, 176, 58, 240, 254, 212, 205, 44, 175, 173, 238, 216, 253, 244, 167, 79, 160, 132, 229, 45, 24, 82, 228, 162, 189, 6, 133, 195, 21, 210]⟩ : ByteArray), 32, 32, false) := by kernel_rfl
theorem crv4 : crv 4 = ((⟨#[98, 114, 111, 97, 100]⟩ : ByteArray), (⟨#[26, 1, 17, 234, 57, 127, 230, 154, 75, 27, 167, 182, 67, 75, 172, 215, 100, 119, 75, 132, 243, 133, 18, 191, 103, 48, 210, 160, 246, 176, 246, 36, 30, 171, 255, 254, 177, 83, 255, 255, 185, 254, 255, 255, 255, 255, 170, 171]⟩ : ByteArray), (⟨#[115, 237, 167, 83, 41, 157, 125, 72, 51, 57, 216, 8, 9, 161, 216, 5, 83, 189, 164, 2, 255, 254, 91, 254, 255, 255, 255, 255, 0, 0, 0, 1]⟩ : ByteArray), (⟨#[4]⟩ : ByteArray), (⟨#[4]⟩ : ByteArray), (⟨#[4]⟩ : ByteArray), 48, 32, true) := by kernel_rfl
theorem l09_s (id : Nat) (h1 : 1 ≤ id) (h4 : id ≤ 4) : spec_l09Curve.f id = some (crv id) := by
  unfold spec_l09Curve.f
  by_cases c1 : id = 1
  · subst c1; rw [if_pos (by decide), crv1]
  rw [if_neg (by omega)]
  by_cases c2 : id = 2
  · subst c2; rw [if_pos (by decide), crv2]
  rw [if_neg (by omega)]
  by_cases c3 : id = 3
  · subst c3; rw [if_pos (by decide), crv3]
  rw [if_neg (by omega)]
  obtain rfl : id = 4 := by omega
  rw [if_pos (by decide), crv4]
theorem l09_none (id : Int) (h : ¬ (1 ≤ id ∧ id ≤ 4)) : spec_l09Curve.f id = some ((⟨#[]⟩ : ByteArray), (⟨#[]⟩ : ByteArray), (⟨#[]⟩ : ByteArray), (⟨#[]⟩ : ByteArray), (⟨#[]⟩ : ByteArray), (⟨#[]⟩ : ByteArray), 0, 0, false) := by
  unfold spec_l09Curve.f
  rw [if_neg (by omega), if_neg (by omega), if_neg (by omega), if_neg (by omega)]
theorem in14 (id : Int) : spec_l01In.f id 1 4 = some (decide (1 ≤ id ∧ id ≤ 4)) := by
  unfold spec_l01In.f
  by_cases h : id ≥ 1
  · rw [if_pos h]
    congr 1
    exact decide_eq_decide.2 ⟨fun h2 => ⟨h, h2⟩, fun h2 => h2.2⟩
  · rw [if_neg h]
    congr 1
    rw [decide_eq_false (fun h2 => h h2.1)]
/-- What CurveOf answers of a curve that there is. -/
def cof (id : Nat) : ByteArray × ByteArray × ByteArray × ByteArray × ByteArray × ByteArray × Int × Int × Bool × Bool :=
  (nm id, bts ((cn id).getD 0 0), bts ((cn id).getD 1 0), bts ((cn id).getD 2 0), bts ((cn id).getD 3 0), bts ((cn id).getD 4 0), ((bts ((cn id).getD 0 0)).size : Int), ((bts ((cn id).getD 1 0)).size : Int), brd id, true)
theorem curveof_s (id : Nat) (h1 : 1 ≤ id) (h4 : id ≤ 4) : spec_CurveOf.f id = some (cof id) := by
  unfold spec_CurveOf.f
  rw [l09_s id h1 h4, Option.bind_some, in14, Option.bind_some, decide_eq_true (by omega)]
  rfl
theorem curveof_none (id : Int) (h : ¬ (1 ≤ id ∧ id ≤ 4)) : spec_CurveOf.f id = some ((⟨#[]⟩ : ByteArray), (⟨#[]⟩ : ByteArray), (⟨#[]⟩ : ByteArray), (⟨#[]⟩ : ByteArray), (⟨#[]⟩ : ByteArray), (⟨#[]⟩ : ByteArray), 0, 0, false, false) := by
  unfold spec_CurveOf.f
  rw [l09_none id h, Option.bind_some, in14, Option.bind_some, decide_eq_false h]
theorem iscurve_f (id : Int) : impl_isCurve.f id = some (decide (1 ≤ id ∧ id ≤ 4)) := by
  unfold impl_isCurve.f impl_within.f
  by_cases h : 1 ≤ id
  · rw [if_pos h, Option.bind_some]
    congr 1
    exact decide_eq_decide.2 ⟨fun h2 => ⟨h, h2⟩, fun h2 => h2.2⟩
  · rw [if_neg h, Option.bind_some]
    congr 1
    rw [decide_eq_false (fun h2 => h h2.1)]
/-- A number small enough for everything here. -/
def Sm (n : Nat) : Prop := (D n).length < 1000000 ∧ (E n).length < 1000000
theorem D_of {n j : Nat} (h : n < 256 ^ j) : (D n).length ≤ j := (D_le _ _).2 (Nat.lt_of_lt_of_le h (Nat.pow_le_pow_left (by decide) _))
theorem E_of {n j : Nat} (h : n < 256 ^ j) : (E n).length ≤ j := (E_le _ _).2 (Nat.lt_of_lt_of_le h (Nat.pow_le_pow_left (by decide) _))
theorem Sm.of {n j : Nat} (h : n < 256 ^ j) (hj : j < 1000000) : Sm n := ⟨Nat.lt_of_le_of_lt (D_of h) hj, Nat.lt_of_le_of_lt (E_of h) hj⟩
theorem Sm.le {m n : Nat} (h : Sm n) (hm : m ≤ n) : Sm m := ⟨Nat.lt_of_le_of_lt (D_mono hm) h.1, Nat.lt_of_le_of_lt (E_mono hm) h.2⟩
theorem Sm.gb {n : Nat} (h : n < GB) : Sm n := Sm.of h (by decide)
theorem Sm.add {a b : Nat} (ha : a < GB) (hb : b < GB) : Sm (a + b) := Sm.of (j := 161) (by
  have : GB + GB ≤ 256 ^ 161 := by decide
  omega) (by decide)
theorem bv_gb {s : ByteArray} (h : gok s = true) : bv s < GB := by
  obtain ⟨n, hn, rfl⟩ := gok_cases h
  rw [bv_bts]; exact hn
theorem cmp_f' {a b : Nat} (ha : Sm a) (hb : Sm b) : Av (fun k => impl_nat_cmp.f k (D a) (D b)) (cmpv a b) := cmp_f a b (by have := ha.1; omega) (by have := hb.1; omega)
theorem cmp_s' {a b : Nat} (ha : Sm a) (hb : Sm b) : Av (fun k => spec_l02Cmp.f k (E a) (E b)) (sgn a b) := cmp_s a b (by have := ha.2; omega) (by have := hb.2; omega)
theorem sgn_neg {a b : Nat} : sgn a b < 0 ↔ a < b := by unfold sgn; repeat' split
                                                        all_goals omega
theorem text_f' {a : Nat} (ha : Sm a) : Av (fun k => impl_nat_text.f k (D a)) (bts a) := text_f a (by have := ha.1; omega)
/-- Is a's number a rest of p's? -/
def rok (a p : ByteArray) : Bool := gok a && gok p && decide (bv a < bv p)
theorem restok_s (a p : ByteArray) : Av (fun k => spec_RestOk.f k a p) (rok a p) := by
  unfold spec_RestOk.f rok
  refine Av.bindc (gok_s a) ?_
  cases ha : gok a with
  | false => exact Av.ifn (by decide) Av.ret
  | true =>
    refine Av.ifp (by decide) (Av.bindc (gok_s p) ?_)
    cases hp : gok p with
    | false => exact Av.ifn (by decide) Av.ret
    | true =>
      have h1 := gok_size' ha
      have h2 := gok_size' hp
      refine Av.ifp (by decide) (Av.bind (in_s a (by omega)) (Av.bind (in_s p (by omega)) (Av.bind (cmp_s' (Sm.gb (bv_gb ha)) (Sm.gb (bv_gb hp))) (Av.ret' ?_))))
      simp only [Bool.and_self, Bool.true_and]
      exact decide_eq_decide.2 sgn_neg
theorem are_loop (l : List ByteArray) (hl : l.length < 1000000) : ∀ (d i : Nat), l.length - i = d → i ≤ l.length → Av (fun k => impl_areGreat.l0 k l l.length i) ((l.drop i).all gok)
  | 0, i, hd, hi => by
    refine Av.succ ?_
    simp only [impl_areGreat.l0]
    refine Av.ifn (by omega) (Av.ret' ?_)
    rw [List.drop_of_length_le (by omega)]; rfl
  | d + 1, i, hd, hi => by
    have i1 : i < l.length := by omega
    have e1 : wrap64 ((i : Int) + 1) = ((i + 1 : Nat) : Int) := wrap_one (by omega)
    refine Av.succ ?_
    simp only [impl_areGreat.l0, e1]
    have hr : rdOf ByteArray.empty l (i : Int) = l[i] := by
      unfold rdOf
      rw [Int.toNat_natCast, List.getD_eq_getElem?_getD, List.getElem?_eq_getElem i1]; rfl
    refine Av.ifp (by omega) (Av.ifp (by omega) (Av.ifp (by omega) (Av.bindc (gok_f _) ?_)))
    rw [List.drop_eq_getElem_cons i1, List.all_cons, hr]
    cases hg : gok l[i] with
    | false => exact Av.ifn (by decide) Av.ret
    | true => exact Av.ifp (by decide) (by rw [Bool.true_and]; exact are_loop l hl d (i + 1) (by omega) (by omega))
theorem are_f (l : List ByteArray) (hl : l.length < 1000000) : Av (fun k => impl_areGreat.f k l) (l.all gok) := by
  unfold impl_areGreat.f
  have := are_loop l hl l.length 0 (by omega) (by omega)
  rw [List.drop_zero] at this
  exact this
theorem restok_f (a p : ByteArray) : Av (fun k => impl_RestOk.f k a p) (rok a p) := by
  unfold impl_RestOk.f rok
  refine Av.bind (are_f [a, p] (by simp)) ?_
  have e : [a, p].all gok = (gok a && gok p) := by simp
  rw [e]
  cases ha : gok a with
  | false => exact Av.ifn (by simp) Av.ret
  | true =>
    cases hp : gok p with
    | false => exact Av.ifn (by simp) Av.ret
    | true =>
      have h1 := gok_size' ha
      have h2 := gok_size' hp
      refine Av.ifp (by decide) (Av.bind (natOf_f a (by omega)) (Av.bind (natOf_f p (by omega)) (Av.bind (cmp_f' (Sm.gb (bv_gb ha)) (Sm.gb (bv_gb hp))) (Av.ret' ?_))))
      simp only [Bool.and_self, Bool.true_and]
      exact decide_eq_decide.2 cmpv_neg
end Go.Proofs.Ytohfimjpfnnpgaa.C
