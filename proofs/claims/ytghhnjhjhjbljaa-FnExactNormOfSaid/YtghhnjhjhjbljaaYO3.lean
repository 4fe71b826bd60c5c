/- Words and contracts that the laws of this claim lean on: numbers as limbs, and what the functions make of them. Conditions: those named in each theorem. -/
import Derived.Test.YtghhnjhjhjbljaaVOOwnWords
import Derived.Test.YtghhnjhjhjbljaaYO2
import Derived.Test.YtghhnjhjhjbljaaZO0
import Derived.Test.YtghhnjhjhjbljaaZO1
import Derived.Test.YtghhnjhjhjbljaaZO3
import Derived.Test.YtghhnjhjhjbljaaZO4
import Derived.Test.YtghhnjhjhjbljaaZO5
set_option linter.unusedVariables false
set_option linter.unusedSimpArgs false
set_option maxRecDepth 100000
namespace Go.Proofs.Ytghhnjhjhjbljaa.C
open Go.RowKit Go.Proofs.YtghhnjhjhjbljaaW.PrintWords Go.Proofs.YtghhnjhjhjbljaaW.PrintLast Go.Proofs.YtghhnjhjhjbljaaW.PrintMore
open Go.Proofs.Ytghhnjhjhjbljaa.M Go.Proofs.Ytghhnjhjhjbljaa.F
theorem up_or {x c s : Nat} (hs : s ≤ 63) (hc : c < 2 ^ s) : Go.bits .or .u64 (c : Int) ((x * 2 ^ s % 18446744073709551616 : Nat) : Int) = ((c + x * 2 ^ s % 18446744073709551616 : Nat) : Int) ∧ c + x * 2 ^ s % 18446744073709551616 < 18446744073709551616 := by
  have h2 : x * 2 ^ s % 18446744073709551616 % 2 ^ s = 0 := by
    have e : (18446744073709551616 : Nat) = 2 ^ s * 2 ^ (64 - s) := by rw [← Nat.pow_add, show s + (64 - s) = 64 by omega, ← W64]
    rw [Nat.mod_mod_of_dvd _ ⟨2 ^ (64 - s), e⟩, Nat.mul_mod_left]
  have h3 : x * 2 ^ s % 18446744073709551616 < 2 ^ s * 2 ^ (64 - s) := by
    rw [← Nat.pow_add, show s + (64 - s) = 64 by omega, ← W64]; exact Nat.mod_lt _ (by decide)
  have h4 : c + x * 2 ^ s % 18446744073709551616 < 18446744073709551616 := by
    obtain ⟨m, hm⟩ := Nat.dvd_of_mod_eq_zero h2
    rw [hm] at h3
    have h5 : m < 2 ^ (64 - s) := Nat.lt_of_mul_lt_mul_left h3
    have h6 := Nat.mul_le_mul_left (2 ^ s) h5
    rw [Nat.mul_succ, ← Nat.pow_add, show s + (64 - s) = 64 by omega, ← W64] at h6
    rw [hm]; omega
  have h5 : x * 2 ^ s % 18446744073709551616 < 18446744073709551616 := Nat.mod_lt _ (by decide)
  have e2 : ((2 : Int) ^ s) = ((2 ^ s : Nat) : Int) := by simp
  have hcb : c < 18446744073709551616 := Nat.lt_of_le_of_lt (Nat.le_add_right _ _) h4
  refine ⟨?_, h4⟩
  clear h3 h4
  generalize x * 2 ^ s % 18446744073709551616 = Z at *
  have hcm : Go.bits .or .u64 (c : Int) (Z : Int) = Go.bits .or .u64 (Z : Int) (c : Int) := by simp only [Go.bits, BitVec.or_comm]
  have hj := bits_join .u64 64 (by decide) (fun n h0 h1 => ur h0 (by simpa using h1)) s (Z : Int) (c : Int) (Int.natCast_nonneg _) (by rw [e2, ← Int.natCast_emod, h2]; rfl) (Int.ofNat_lt.2 h5) (Int.natCast_nonneg _) (by rw [e2]; exact Int.ofNat_lt.2 hc) (Int.ofNat_lt.2 hcb)
  rw [hcm, hj, Int.natCast_add, Int.add_comm]
theorem up_loop (a s : Nat) (hs : s ≤ 63) (hl : (D a).length < 35184372088831) : ∀ (d i : Nat) (l : List Int), (D a).length - i = d → i ≤ (D a).length → l.length = (D a).length + 1 → Upto 18446744073709551616 l (i + 1) (((a % 18446744073709551616 ^ i * 2 ^ s : Nat) : Int)) →
    Av (fun k => impl_nat_up.l0 k s l (D a) (D a).length i) (fx 18446744073709551616 ((D a).length + 1) (a * 2 ^ s))
  | 0, i, l, hd, hi, hL, h => by
    obtain rfl : i = (D a).length := by omega
    refine Av.succ ?_
    simp only [impl_nat_up.l0]
    refine Av.ifn (Int.lt_irrefl _) (Av.ret' ?_)
    rw [mod_full _ a (by decide) (Nat.le_refl _)] at h
    have := fx_of (B := 18446744073709551616) (by decide) h.digs h.val
    rw [hL] at this
    exact this
  | d + 1, i, l, hd, hi, hL, h => by
    have i1 : (i : Int) < (D a).length := by omega
    have i2 : (D a).length - (i + 1) = d := by omega
    have i3 : i + 1 ≤ (D a).length := by omega
    have i4 : i < l.length := by omega
    have i5 : (i : Int) < l.length := Int.ofNat_lt.2 i4
    have i6 : i + 1 < l.length := by omega
    have i7 : ((i + 1 : Nat) : Int) < l.length := Int.ofNat_lt.2 i6
    have i8 : i < 4611686018427387904 := by omega
    have e1 : wrap64 ((i : Int) + 1) = ((i + 1 : Nat) : Int) := wrap_one i8
    have es : wrap64 (64 - (s : Int)) = ((64 - s : Nat) : Int) := wrap_less (a := 64) (by decide) (by omega)
    have hx : a / 18446744073709551616 ^ i % 18446744073709551616 < 18446744073709551616 := Nat.mod_lt _ (by decide)
    have s1 := Nat.mod_pow_succ (x := a) (b := 18446744073709551616) (k := i)
    have r1 := rdD a i
    have hcur := h.get (by decide) i
    have hlt : a % 18446744073709551616 ^ i * 2 ^ s / 18446744073709551616 ^ i < 2 ^ s := by
      rw [Nat.div_lt_iff_lt_mul (Nat.pow_pos (by decide)), Nat.mul_comm (2 ^ s)]
      exact Nat.mul_lt_mul_of_pos_right (Nat.mod_lt _ (Nat.pow_pos (by decide))) (Nat.pow_pos (by decide))
    have h2s : 2 ^ s < 18446744073709551616 := by
      have : 2 ^ s < 2 ^ 64 := Nat.pow_lt_pow_right (by decide) (by omega)
      exact this
    rw [Nat.mod_eq_of_lt (Nat.lt_trans hlt h2s)] at hcur
    generalize a % 18446744073709551616 ^ i * 2 ^ s / 18446744073709551616 ^ i = c at *
    have r2 : rd l (i : Int) = (c : Int) := by rw [rd_get]; exact hcur
    generalize hxe : a / 18446744073709551616 ^ i % 18446744073709551616 = x at *
    obtain ⟨f1, f2⟩ := up_or (x := x) hs hlt
    have f3 := shl_u64 (x := x) (s := s) (by omega)
    have f4 : shr .u64 (x : Int) ((64 - s : Nat) : Int) = _ := shr_nat (k := .u64) (Nat.sub_le _ _)
    have f5 : x / 2 ^ (64 - s) < 18446744073709551616 := Nat.lt_of_le_of_lt (Nat.div_le_self _ _) hx
    have hup := h.put i4 (Nat.lt_succ_self i) ⟨Int.natCast_nonneg _, Int.ofNat_lt.2 f2⟩ rfl
    have hval := up_value (x := x) (s := s) (by omega)
    have hvI : ((x * 2 ^ s % 18446744073709551616 : Nat) : Int) + 18446744073709551616 * ((x / 2 ^ (64 - s) : Nat) : Int) = (x : Int) * ((2 ^ s : Nat) : Int) := by
      have h9 := congrArg (Nat.cast : Nat → Int) hval
      rw [Int.natCast_add, Int.natCast_mul, Int.natCast_mul x] at h9
      exact h9
    have hset := hup.set (x := ((x / 2 ^ (64 - s) : Nat) : Int)) (w := ((a % 18446744073709551616 ^ (i + 1) * 2 ^ s : Nat) : Int)) (by rw [List.length_set]; exact i6) ⟨Int.natCast_nonneg _, Int.ofNat_lt.2 f5⟩ (by
      rw [hcur, s1]
      have e6 : ((18446744073709551616 : Nat) : Int) = 18446744073709551616 := rfl
      generalize x * 2 ^ s % 18446744073709551616 = z at *
      generalize x / 2 ^ (64 - s) = t at *
      generalize a % 18446744073709551616 ^ i = A at *
      rw [Int.natCast_mul, Int.natCast_add, Int.natCast_mul (18446744073709551616 ^ i), Int.natCast_pow 18446744073709551616, Int.natCast_mul A, Int.natCast_add c, e6, Int.pow_succ]
      generalize (18446744073709551616 : Int) ^ i = P
      generalize ((2 ^ s : Nat) : Int) = S at *
      have := ring_up (A : Int) (x : Int) S P 18446744073709551616 (z : Int) (t : Int) hvI
      grind)
    refine Av.succ ?_
    simp only [impl_nat_up.l0, e1, es, r1, r2, f1, f3, f4, Int.toNat_natCast]
    refine Av.ifp i1 (Av.ifp (Int.natCast_nonneg _) (Av.ifp i1 (Av.ifp i5 (Av.ifp (Int.natCast_nonneg _) (Av.ifp (Int.natCast_nonneg _) (Av.ifp (Int.natCast_nonneg _) (Av.ifp i7 ?_)))))))
    exact up_loop a s hs hl d (i + 1) _ i2 i3 (by rw [List.length_set, List.length_set]; exact hL) hset
theorem up_f (a s : Nat) (hs : s ≤ 63) (hl : (D a).length < 35184372088831) : Av (fun k => impl_nat_up.f k (D a) s) (fx 18446744073709551616 ((D a).length + 1) (a * 2 ^ s)) := by
  unfold impl_nat_up.f
  have e : wrap64 (((D a).length : Int) + 1) = (((D a).length + 1 : Nat) : Int) := wrap_one (by omega)
  rw [e, Int.toNat_natCast]
  refine Av.ifp (Int.natCast_nonneg _) (Av.ifp (by omega) ?_)
  refine up_loop a s hs hl _ 0 (List.replicate ((D a).length + 1) 0) rfl (Nat.zero_le _) (by simp) ?_
  rw [Nat.pow_zero, Nat.mod_one, Nat.zero_mul]
  exact (Upto.start (by decide) _).more (Nat.zero_le _)
theorem wi63 {n : Int} (h0 : 0 ≤ n) (h1 : n < 2 ^ 63) : IntKind.i64.wrap n = n := by rw [i64_w]; exact wr (by omega) (by omega)
theorem or24 {r x : Nat} (hr : r < 549755813888) (hx : x < 16777216) : Go.bits .or .i64 (wrap64 ((r : Int) * 16777216)) (x : Int) = ((r * 16777216 + x : Nat) : Int) := by
  rw [wr (by omega) (by omega)]
  have := bits_join .i64 63 (by decide) (fun n h0 h1 => wi63 h0 h1) 24 ((r : Int) * 16777216) x (by omega) (by omega) (by omega) (by omega) (by omega) (by omega)
  rw [this]; omega
theorem rdn {l : List Int} {j o : Nat} (h : l.getD j 0 = (o : Int)) : rd l (j : Int) = (o : Int) := by unfold rd; rw [Int.toNat_natCast]; exact h
/-- A list of so many digits with a value. -/
structure Rp (B : Nat) (l : List Int) (L v : Nat) : Prop where
  len : l.length = L
  digs : Digs B l
  val : vl B l = v
theorem Rp.get {B : Nat} (hB : 2 ≤ B) {l : List Int} {L v : Nat} (h : Rp B l L v) (j : Nat) : l.getD j 0 = ((v / B ^ j % B : Nat) : Int) := getD_of_vl hB h.digs h.val j
theorem Rp.zeros {B : Nat} (hB : 0 < B) (L : Nat) : Rp B (List.replicate L 0) L 0 := ⟨by simp, digs_zeros hB L, vl_zeros B L⟩
/-- A digit set where none was. -/
theorem Rp.put {B : Nat} (hB : 2 ≤ B) {l : List Int} {L t i x : Nat} (h : Rp B l L (t * B ^ (i + 1))) (hi : i < L) (hx : x < B) : Rp B (l.set i (x : Int)) L ((t * B + x) * B ^ i) := by
  have h0 := h.get hB i
  have hz : t * B ^ (i + 1) / B ^ i % B = 0 := by
    rw [Nat.pow_succ, Nat.mul_comm (B ^ i), ← Nat.mul_assoc, Nat.mul_div_cancel _ (Nat.pow_pos (by omega)), Nat.mul_mod_left]
  rw [hz] at h0
  refine ⟨by rw [List.length_set]; exact h.len, digs_set h.digs ⟨Int.natCast_nonneg _, Int.ofNat_lt.2 hx⟩, ?_⟩
  rw [vl_set0 (x : Int) (by rw [h.len]; exact hi) h0, h.val]
  rw [Nat.add_mul, Nat.pow_succ, Int.natCast_add, Int.natCast_mul x, Int.natCast_pow]
  congr 2
  grind
theorem tdw {X b : Nat} (h : X / b < 16777216) : wrap64 (Int.tdiv (X : Int) (b : Int)) = ((X / b : Nat) : Int) := by
  rw [td (Int.natCast_nonneg _), ← Int.natCast_ediv]
  generalize X / b = q at *
  exact wr (by omega) (by omega)
theorem tmw {X b : Nat} : Int.tmod (X : Int) (b : Int) = ((X % b : Nat) : Int) := by rw [tm (Int.natCast_nonneg _), ← Int.natCast_emod]
theorem div_step1 {A b : Nat} (hb : 0 < b) (B i : Nat) (hB : 0 < B) : A / B ^ i / b = A / B ^ (i + 1) / b * B + (A / B ^ (i + 1) % b * B + A / B ^ i % B) / b ∧ A / B ^ i % b = (A / B ^ (i + 1) % b * B + A / B ^ i % B) % b := by
  have h1 : A / B ^ i = A / B ^ (i + 1) * B + A / B ^ i % B := by
    rw [Nat.pow_succ, ← Nat.div_div_eq_div_mul, Nat.mul_comm]
    exact (Nat.div_add_mod _ _).symm
  have h2 := Nat.div_add_mod (A / B ^ (i + 1)) b
  generalize A / B ^ (i + 1) = Y at *
  generalize A / B ^ i % B = x at *
  rw [h1]
  have h3 : Y * B + x = (Y % b * B + x) + b * (Y / b * B) := by
    conv => lhs; rw [← h2]
    grind
  rw [h3]
  constructor
  · rw [Nat.add_mul_div_left _ _ hb]; omega
  · rw [Nat.add_mul_mod_self_left]
theorem div1_loop (a b : Nat) (hb0 : 0 < b) (hb : b < 16777216) (hl : (E a).length < 17592186044416) : ∀ (m : Nat) (q : List Int), m ≤ (E a).length → Rp 16777216 q (E a).length (a / 16777216 ^ m / b * 16777216 ^ m) →
    Av (fun k => spec_l02Div.l0 k (E a) (E b) q ((a / 16777216 ^ m % b : Nat) : Int) ((m : Int) - 1)) (E (a / b), E (a % b))
  | 0, q, hm, hq => by
    refine Av.succ ?_
    simp only [spec_l02Div.l0]
    refine Av.ifn (by omega) ?_
    have hr : a % b < 16777216 := Nat.lt_trans (Nat.mod_lt _ hb0) hb
    have hv := hq.val
    simp only [Nat.pow_zero, Nat.div_one, Nat.mul_one] at hv
    simp only [Nat.pow_zero, Nat.div_one]
    refine Av.bind (trim_s' hq.digs (by rw [hq.len]; omega) hv) (Av.bind (trim_s' (n := a % b) ?_ (by simp) (by simp [vl])) Av.ret)
    intro x hx
    simp at hx
    subst hx
    exact below_nat hr
  | m + 1, q, hm, hq => by
    have i1 : (m : Int) < (E a).length := by omega
    have i2 : m < (E a).length := by omega
    have i3 : m < 4611686018427387904 := by omega
    have hlb : (E b).length = 1 := by
      have h1 := (E_le 1 b).2 (by omega)
      have h2 := (E_lt 0 b).2 (by rw [Nat.pow_zero]; exact hb0)
      omega
    have hb1 := rdE b 0
    rw [Nat.pow_zero, Nat.div_one, Nat.mod_eq_of_lt hb] at hb1
    have ha1 := rdE a m
    have hx : a / 16777216 ^ m % 16777216 < 16777216 := Nat.mod_lt _ (by decide)
    have hr : a / 16777216 ^ (m + 1) % b < b := Nat.mod_lt _ hb0
    obtain ⟨s1, s2⟩ := div_step1 (A := a) hb0 16777216 m (by decide)
    have hlt : (a / 16777216 ^ (m + 1) % b * 16777216 + a / 16777216 ^ m % 16777216) / b < 16777216 := by
      rw [Nat.div_lt_iff_lt_mul hb0]; clear hq s1 s2 hb1 ha1; omega
    have hp := hq.put (by decide) i2 hlt
    rw [← s1] at hp
    have ih := div1_loop a b hb0 hb hl m _ (Nat.le_of_lt i2) hp
    rw [s2] at ih
    refine Av.succ ?_
    simp only [spec_l02Div.l0]
    have e0 : ((m + 1 : Nat) : Int) - 1 = (m : Int) := by clear hq s1 s2 hb1 ha1 ih hp; omega
    rw [e0]
    have hr2 : a / 16777216 ^ (m + 1) % b < 549755813888 := Nat.lt_trans hr (Nat.lt_trans hb (by decide))
    have hor := or24 hr2 hx
    have hw : wrap64 ((m : Int) - 1) = (m : Int) - 1 := by clear hq s1 s2 hb1 ha1 ih hp hor hr hr2 hlt hx; exact wr (by omega) (by omega)
    have hlb' : (0 : Int) < (E b).length := by rw [hlb]; decide
    have hne : ¬ ((b : Nat) : Int) = 0 := by clear hq s1 s2 hb1 ha1 ih hp hor hr hr2 hlt hx hw; omega
    have hql : (m : Int) < q.length := by rw [hq.len]; exact i1
    have z0 : ((0 : Nat) : Int) = 0 := rfl
    rw [z0] at hb1
    simp only [ha1, hb1, hor, hw]
    rw [tdw hlt, tmw, Int.toNat_natCast]
    exact Av.ifp (Int.natCast_nonneg _) (Av.ifp (Int.natCast_nonneg _) (Av.ifp i1 (Av.ifp hlb' (Av.ifn hne (Av.ifp hql ih)))))
theorem div_less (a b : Nat) (ha : (E a).length < 17592186044416) (hb : (E b).length < 17592186044416) (h : a < b) : Av (fun k => spec_l02Div.f k (E a) (E b)) (E (a / b), E (a % b)) := by
  unfold spec_l02Div.f
  refine Av.bind (cmp_s a b (by omega) (by omega)) (Av.ifp ?_ (Av.bindc rfl (Av.ifp (by simpa using ha) (Av.ret' ?_))))
  · unfold sgn; rw [if_pos h]; decide
  · rw [Nat.div_eq_of_lt h, Nat.mod_eq_of_lt h]; rfl
theorem div1_s (a b : Nat) (hb0 : 0 < b) (hb : b < 16777216) (hl : (E a).length < 17592186044416) : Av (fun k => spec_l02Div.f k (E a) (E b)) (E (a / b), E (a % b)) := by
  have hlb : (E b).length = 1 := by
    have h1 := (E_le 1 b).2 (by omega)
    have h2 := (E_lt 0 b).2 (by rw [Nat.pow_zero]; exact hb0)
    omega
  by_cases h : a < b
  · exact div_less a b hl (by omega) h
  · unfold spec_l02Div.f
    refine Av.bind (cmp_s a b (by omega) (by omega)) (Av.ifn ?_ (Av.ifp (by omega) (Av.ifp (by omega) (Av.ifp (by omega) ?_))))
    · unfold sgn; rw [if_neg h]; split <;> decide
    · rw [Int.toNat_natCast]
      have hlt : a < 16777216 ^ (E a).length := (E_le _ a).1 (Nat.le_refl _)
      have hz := Rp.zeros (B := 16777216) (by decide) (E a).length
      have hp : 1 ≤ (E a).length := (E_lt 0 a).2 (by rw [Nat.pow_zero]; omega)
      have h2 := div1_loop a b hb0 hb hl (E a).length (List.replicate (E a).length 0) (Nat.le_refl _) (by rw [Nat.div_eq_of_lt hlt]; simpa using hz)
      rw [Nat.div_eq_of_lt hlt] at h2
      have hw : wrap64 (((E a).length : Int) - 1) = ((E a).length : Int) - 1 := wr (by omega) (by omega)
      rw [hw]
      simpa using h2
theorem shl_i64 {x s : Nat} (hs : s ≤ 23) (hx : x < 16777216) : shl .i64 (x : Int) (s : Int) = ((x * 2 ^ s : Nat) : Int) := by
  have h2 : 2 ^ s ≤ 8388608 := by
    have : 2 ^ s ≤ 2 ^ 23 := Nat.pow_le_pow_right (by decide) hs
    omega
  have h3 : x * 2 ^ s ≤ 16777216 * 8388608 := Nat.mul_le_mul (Nat.le_of_lt hx) h2
  unfold shl
  rw [Int.toNat_natCast, Nat.min_eq_left (show s ≤ IntKind.i64.bits from Nat.le_trans hs (by decide)), i64_w]
  have e : (2 : Int) ^ s = ((2 ^ s : Nat) : Int) := by simp
  rw [e, ← Int.natCast_mul]
  generalize x * 2 ^ s = z at *
  exact wr (by omega) (by omega)
theorem or_low {y c s : Nat} (hy : y < 281474976710656) (hd : y % 2 ^ s = 0) (hc : c < 2 ^ s) (hs : s ≤ 40) : Go.bits .or .i64 (y : Int) (c : Int) = ((y + c : Nat) : Int) := by
  have e2 : ((2 : Int) ^ s) = ((2 ^ s : Nat) : Int) := by simp
  have h2 : 2 ^ s ≤ 1099511627776 := by
    have : 2 ^ s ≤ 2 ^ 40 := Nat.pow_le_pow_right (by decide) hs
    omega
  have hc2 : c < 9223372036854775808 := by omega
  have hy2 : y < 9223372036854775808 := by omega
  have hj := bits_join .i64 63 (by decide) (fun n h0 h1 => wi63 h0 h1) s (y : Int) (c : Int) (Int.natCast_nonneg _) (by rw [e2, ← Int.natCast_emod, hd]; rfl) (Int.ofNat_lt.2 hy2) (Int.natCast_nonneg _) (by rw [e2]; exact Int.ofNat_lt.2 hc) (Int.ofNat_lt.2 hc2)
  rw [hj]; simp
theorem left24 {x c s : Nat} (hs : s ≤ 23) (hx : x < 16777216) (hc : c < 2 ^ s) : ∃ r q : Nat, Go.bits .and .i64 (Go.bits .or .i64 (shl .i64 (x : Int) (s : Int)) (c : Int)) 16777215 = (r : Int) ∧ Go.bits .or .i64 (shl .i64 (x : Int) (s : Int)) (c : Int) / 16777216 = (q : Int) ∧ q < 2 ^ s ∧ r < 16777216 ∧ (r : Int) = x * (2 ^ s : Nat) + c - 16777216 * q := by
  have h2 : 2 ^ s ≤ 8388608 := by
    have : 2 ^ s ≤ 2 ^ 23 := Nat.pow_le_pow_right (by decide) hs
    omega
  have h3 : x * 2 ^ s ≤ 16777216 * 8388608 := Nat.mul_le_mul (Nat.le_of_lt hx) h2
  rw [shl_i64 hs hx, or_low (by omega) (Nat.mul_mod_left _ _) hc (by omega)]
  have h4 : x * 2 ^ s + c < 16777216 * 2 ^ s := by
    have : (x + 1) * 2 ^ s ≤ 16777216 * 2 ^ s := Nat.mul_le_mul_right _ hx
    rw [Nat.add_mul, Nat.one_mul] at this
    omega
  rw [← Int.natCast_mul]
  generalize x * 2 ^ s = y at *
  generalize 2 ^ s = S at *
  refine ⟨(y + c) % 16777216, (y + c) / 16777216, ?_, ?_, ?_, Nat.mod_lt _ (by decide), ?_⟩
  · rw [and24]; omega
  · omega
  · omega
  · omega
theorem ring_left (A x P S c q W r : Int) (hr : r = x * S + c - W * q) : (A + x * P) * S - q * (P * W) = A * S - c * P + P * r := by subst hr; grind
theorem left_loop (a s : Nat) (hs : s ≤ 23) (hl : (E a).length < 17592186044415) : ∀ (d i c : Nat) (l : List Int), (E a).length - i = d → i ≤ (E a).length → c < 2 ^ s → Pre l i (((a % 16777216 ^ i : Nat) : Int) * (2 ^ s : Nat) - c * 16777216 ^ i) →
    Av (fun k => spec_l02Left.l0 k (E a) s l c i) (fx 16777216 ((E a).length + 1) (a * 2 ^ s))
  | 0, i, c, l, hd, hi, hc, h => by
    obtain rfl : i = (E a).length := by omega
    refine Av.succ ?_
    simp only [spec_l02Left.l0]
    have h2 : 2 ^ s ≤ 8388608 := by
      have : 2 ^ s ≤ 2 ^ 23 := Nat.pow_le_pow_right (by decide) hs
      omega
    have hp := h.snoc (x := (c : Int)) (w := ((a * 2 ^ s : Nat) : Int)) (below_nat (Nat.lt_of_lt_of_le hc (Nat.le_trans h2 (by decide)))) (by
      rw [mod_full _ a (by decide) (Nat.le_refl _), Int.natCast_mul, Int.mul_comm (c : Int)]; omega)
    refine Av.ifn (by omega) (Av.ifp (by rw [h.len]; omega) (Av.ret' ?_))
    have := fx_of (B := 16777216) (by decide) hp.digs hp.val
    rw [hp.len] at this
    exact this
  | d + 1, i, c, l, hd, hi, hc, h => by
    have i1 : (i : Int) < (E a).length := by omega
    have i2 : (E a).length - (i + 1) = d := by omega
    have i3 : i + 1 ≤ (E a).length := by omega
    have i4 : l.length < 17592186044416 := by rw [h.len]; omega
    have i5 : i < 4611686018427387904 := by omega
    have e1 : wrap64 ((i : Int) + 1) = ((i + 1 : Nat) : Int) := wrap_one i5
    have hx : a / 16777216 ^ i % 16777216 < 16777216 := Nat.mod_lt _ (by decide)
    have s1 := mod_step 16777216 a i
    have r1 := rdE a i
    refine Av.succ ?_
    simp only [spec_l02Left.l0, e1]
    rw [r1]
    generalize a / 16777216 ^ i % 16777216 = x at *
    obtain ⟨r, q, f1, f2, hq, hr, he⟩ := left24 hs hx hc
    rw [f1, f2]
    refine Av.ifp i1 (Av.ifp (Int.natCast_nonneg _) (Av.ifp (Int.natCast_nonneg _) (Av.ifp i4 ?_)))
    refine left_loop a s hs hl d (i + 1) q _ i2 i3 hq (h.snoc (below_nat hr) ?_)
    rw [s1, Int.pow_succ]
    have e6 : ((16777216 : Nat) : Int) = 16777216 := rfl
    simp only [e6]
    exact ring_left _ _ _ _ _ _ _ _ he
theorem left_s (a s : Nat) (hs : s ≤ 23) (hl : (E a).length < 17592186044415) : Av (fun k => spec_l02Left.f k (E a) s) (fx 16777216 ((E a).length + 1) (a * 2 ^ s)) := by
  unfold spec_l02Left.f
  have e : wrap64 (((E a).length : Int) + 1) = (((E a).length + 1 : Nat) : Int) := wrap_one (by omega)
  rw [e, Int.toNat_natCast]
  refine Av.ifp (Int.natCast_nonneg _) (Av.ifp (by omega) ?_)
  refine left_loop a s hs hl _ 0 0 [] rfl (Nat.zero_le _) (Nat.pow_pos (by decide)) ?_
  rw [Nat.pow_zero, Nat.mod_one]
  have e0 : ((0 : Nat) : Int) * (2 ^ s : Nat) - ((0 : Nat) : Int) * 16777216 ^ 0 = 0 := by simp
  rw [e0]; exact Pre.start
theorem msub24 {o g y c : Nat} (ho : o < 16777216) (hg : g < 16777216) (hy : y < 16777216) (hc : c < 16777216) : ∃ r q : Nat, Go.bits .and .i64 (wrap64 (wrap64 ((o : Int) - wrap64 ((g : Int) * y)) - c)) 16777215 = (r : Int) ∧ wrap64 (-(wrap64 (wrap64 ((o : Int) - wrap64 ((g : Int) * y)) - c) / 16777216)) = (q : Int) ∧ r < 16777216 ∧ q < 16777216 ∧ (r : Int) = o - g * y - c + 16777216 * q := by
  have hm : g * y ≤ 16777215 * 16777215 := Nat.mul_le_mul (by omega) (by omega)
  rw [← Int.natCast_mul]
  generalize g * y = z at *
  clear hg hy
  have e1 : wrap64 (z : Int) = (z : Int) := wr (by omega) (by omega)
  have e2 : wrap64 ((o : Int) - z) = (o : Int) - z := wr (by omega) (by omega)
  have e3 : wrap64 ((o : Int) - z - c) = (o : Int) - z - c := wr (by omega) (by omega)
  rw [e1, e2, e3]
  clear e1 e2 e3
  refine ⟨(((o : Int) - z - c) % 16777216).toNat, (-(((o : Int) - z - c) / 16777216)).toNat, ?_, ?_, by omega, by omega, by omega⟩
  · rw [and24]; omega
  · rw [wr (by omega) (by omega)]; omega
theorem top24 {o c : Nat} (ho : o < 16777216) (hc : c < 16777216) : ∃ r e : Nat, Go.bits .and .i64 (wrap64 ((o : Int) - c)) 16777215 = (r : Int) ∧ r < 16777216 ∧ (r : Int) = o - c + 16777216 * e ∧ ((wrap64 ((o : Int) - c) < 0 ∧ e = 1) ∨ (¬ wrap64 ((o : Int) - c) < 0 ∧ e = 0)) := by
  rw [wr (x := (o : Int) - c) (by omega) (by omega)]
  by_cases h : o < c
  · exact ⟨(((o : Int) - c) % 16777216).toNat, 1, by rw [and24]; omega, by omega, by omega, .inl ⟨by omega, rfl⟩⟩
  · exact ⟨(((o : Int) - c) % 16777216).toNat, 0, by rw [and24]; omega, by omega, by omega, .inr ⟨by omega, rfl⟩⟩
theorem back24 {o y c : Nat} (ho : o < 16777216) (hy : y < 16777216) (hc : c ≤ 1) : ∃ r q : Nat, Go.bits .and .i64 (wrap64 (wrap64 ((o : Int) + y) + c)) 16777215 = (r : Int) ∧ wrap64 (wrap64 ((o : Int) + y) + c) / 16777216 = (q : Int) ∧ q ≤ 1 ∧ r < 16777216 ∧ (r : Int) = o + y + c - 16777216 * q := by
  refine ⟨(o + y + c) % 16777216, (o + y + c) / 16777216, ?_, ?_, by omega, by omega, by omega⟩
  · rw [and24, wr (x := (o : Int) + y) (by omega) (by omega), wr (by omega) (by omega)]; omega
  · rw [wr (x := (o : Int) + y) (by omega) (by omega), wr (by omega) (by omega)]; omega
theorem btop24 {o c : Nat} (ho : o < 16777216) (hc : c ≤ 1) : ∃ r e : Nat, Go.bits .and .i64 (wrap64 ((o : Int) + c)) 16777215 = (r : Int) ∧ r < 16777216 ∧ (r : Int) = o + c - 16777216 * e := by
  refine ⟨(o + c) % 16777216, (o + c) / 16777216, ?_, by omega, by omega⟩
  rw [and24, wr (by omega) (by omega)]; omega
theorem ring_m1' {U g VM y Pj Pi c q B r o : Int} (hr : r = o - g * y - c + B * q) : U - g * (VM + y * Pi) * Pj + q * (Pj * (Pi * B)) = U - g * VM * Pj + c * (Pj * Pi) + (r - o) * (Pj * Pi) := by subst hr; grind
theorem ring_m2' {X VM y Pj Pi c q B r o : Int} (hr : r = o + y + c - B * q) : X + (VM + y * Pi) * Pj - q * (Pj * (Pi * B)) = X + VM * Pj - c * (Pj * Pi) + (r - o) * (Pj * Pi) := by subst hr; grind
/-- A digit of a list that stands for a value. -/
theorem Upto.dig {B : Nat} (hB : 2 ≤ B) {l : List Int} {i : Nat} {v : Int} (h : Upto B l i v) (j : Nat) : ∃ o : Nat, l.getD j 0 = (o : Int) ∧ o < B := by
  have hb := digs_getD h.digs (by omega) j
  obtain ⟨o, ho⟩ := Int.eq_ofNat_of_zero_le hb.1
  rw [ho] at hb
  exact ⟨o, ho, Int.ofNat_lt.1 hb.2⟩
theorem l4_s {U V g n j s Lu : Nat} {q : List Int} {r : List Int × List Int} (hg : g < 16777216) (hV : (E V).length = n) (hj : j + n < Lu) (hLu : Lu < 17592186044416)
    (fin : ∀ (l : List Int) (c : Nat), l.length = Lu → Upto 16777216 l (j + n + 1) ((U : Int) - g * V * 16777216 ^ j + c * 16777216 ^ (j + n)) → c < 16777216 → Av (fun k => spec_l02Div.l4 k n s l (E V) q j g c n) r) :
    ∀ (d i c : Nat) (l : List Int), n - i = d → i ≤ n → c < 16777216 → l.length = Lu → Upto 16777216 l (j + n + 1) ((U : Int) - g * (V % 16777216 ^ i : Nat) * 16777216 ^ j + c * 16777216 ^ (j + i)) → Av (fun k => spec_l02Div.l4 k n s l (E V) q j g c i) r
  | 0, i, c, l, hd, hi, hc, hl, h => by
    obtain rfl : i = n := by omega
    rw [← hV, mod_full _ V (by decide) (Nat.le_refl _), hV] at h
    exact fin l c hl h hc
  | d + 1, i, c, l, hd, hi, hc, hl, h => by
    have i1 : (i : Int) < n := by omega
    have i2 : n - (i + 1) = d := by omega
    have i3 : i + 1 ≤ n := by omega
    have i4 : i + j < l.length := by omega
    have i5 : ((i + j : Nat) : Int) < l.length := Int.ofNat_lt.2 i4
    have i6 : i + j < j + n + 1 := by omega
    have i7 : (i : Int) < (E V).length := by rw [hV]; exact i1
    have i8 : i + j < 4611686018427387904 := by omega
    have i9 : i < 4611686018427387904 := by omega
    have ij : i + j = j + i := Nat.add_comm _ _
    obtain ⟨o, ho, hob⟩ := h.dig (by decide) (i + j)
    have hy : V / 16777216 ^ i % 16777216 < 16777216 := Nat.mod_lt _ (by decide)
    have s1 := mod_step 16777216 V i
    have r1 := rdE V i
    have r2 : rd l ((i + j : Nat) : Int) = (o : Int) := rdn ho
    have e : wrap64 ((i : Int) + j) = ((i + j : Nat) : Int) := wrap_add i8
    have e1 : wrap64 ((i : Int) + 1) = ((i + 1 : Nat) : Int) := wrap_one i9
    refine Av.succ ?_
    simp only [spec_l02Div.l4, e, e1, r1, r2, Int.toNat_natCast]
    refine Av.ifp i1 (Av.ifp (Int.natCast_nonneg _) (Av.ifp i5 (Av.ifp (Int.natCast_nonneg _) (Av.ifp i7 ?_))))
    generalize V / 16777216 ^ i % 16777216 = y at *
    obtain ⟨t, w, f1, f2, ht, hw, he⟩ := msub24 hob hg hy hc
    rw [f1, f2]
    refine l4_s hg hV hj hLu fin d (i + 1) w _ i2 i3 hw (by rw [List.length_set]; exact hl) (h.put i4 i6 (below_nat ht) ?_)
    rw [s1, ho, ij]
    have e6 : ((16777216 : Nat) : Int) = 16777216 := rfl
    simp only [e6, Int.pow_add, Int.pow_succ, Int.pow_zero, Int.one_mul]
    exact ring_m1' he
theorem l5_s {V g n j s Lu : Nat} {X : Int} {q : List Int} {r : List Int × List Int} (hV : (E V).length = n) (hj : j + n < Lu) (hLu : Lu < 17592186044416)
    (fin : ∀ (l : List Int) (c : Nat), l.length = Lu → Upto 16777216 l (j + n + 1) (X + V * 16777216 ^ j - c * 16777216 ^ (j + n)) → c ≤ 1 → Av (fun k => spec_l02Div.l5 k n s l (E V) q j g c n) r) :
    ∀ (d i c : Nat) (l : List Int), n - i = d → i ≤ n → c ≤ 1 → l.length = Lu → Upto 16777216 l (j + n + 1) (X + (V % 16777216 ^ i : Nat) * 16777216 ^ j - c * 16777216 ^ (j + i)) → Av (fun k => spec_l02Div.l5 k n s l (E V) q j g c i) r
  | 0, i, c, l, hd, hi, hc, hl, h => by
    obtain rfl : i = n := by omega
    rw [← hV, mod_full _ V (by decide) (Nat.le_refl _), hV] at h
    exact fin l c hl h hc
  | d + 1, i, c, l, hd, hi, hc, hl, h => by
    have i1 : (i : Int) < n := by omega
    have i2 : n - (i + 1) = d := by omega
    have i3 : i + 1 ≤ n := by omega
    have i4 : i + j < l.length := by omega
    have i5 : ((i + j : Nat) : Int) < l.length := Int.ofNat_lt.2 i4
    have i6 : i + j < j + n + 1 := by omega
    have i7 : (i : Int) < (E V).length := by rw [hV]; exact i1
    have i8 : i + j < 4611686018427387904 := by omega
    have i9 : i < 4611686018427387904 := by omega
    have ij : i + j = j + i := Nat.add_comm _ _
    obtain ⟨o, ho, hob⟩ := h.dig (by decide) (i + j)
    have hy : V / 16777216 ^ i % 16777216 < 16777216 := Nat.mod_lt _ (by decide)
    have s1 := mod_step 16777216 V i
    have r1 := rdE V i
    have r2 : rd l ((i + j : Nat) : Int) = (o : Int) := rdn ho
    have e : wrap64 ((i : Int) + j) = ((i + j : Nat) : Int) := wrap_add i8
    have e1 : wrap64 ((i : Int) + 1) = ((i + 1 : Nat) : Int) := wrap_one i9
    refine Av.succ ?_
    simp only [spec_l02Div.l5, e, e1, r1, r2, Int.toNat_natCast]
    refine Av.ifp i1 (Av.ifp (Int.natCast_nonneg _) (Av.ifp i5 (Av.ifp (Int.natCast_nonneg _) (Av.ifp i7 ?_))))
    generalize V / 16777216 ^ i % 16777216 = y at *
    obtain ⟨t, w, f1, f2, hw, ht, he⟩ := back24 hob hy hc
    rw [f1, f2]
    refine l5_s hV hj hLu fin d (i + 1) w _ i2 i3 hw (by rw [List.length_set]; exact hl) (h.put i4 i6 (below_nat ht) ?_)
    rw [s1, ho, ij]
    have e6 : ((16777216 : Nat) : Int) = 16777216 := rfl
    simp only [e6, Int.pow_add, Int.pow_succ, Int.pow_zero, Int.one_mul]
    exact ring_m2' he
theorem nat_sub3 {U d V P : Nat} (h : d * V * P ≤ U) : ((U - d * V * P : Nat) : Int) = (U : Int) - d * V * P := by
  rw [Int.ofNat_sub h, Int.natCast_mul, Int.natCast_mul]
theorem back_one {Z K F : Int} {e : Nat} (he : e ≤ 1) (hF : F = Z + K - e * K) (h0 : 0 ≤ F) (h1 : F < K) (hZ : 0 ≤ Z) (hZK : Z < K) : F = Z := by
  have : e = 0 ∨ e = 1 := by omega
  rcases this with rfl | rfl
  · simp at hF; omega
  · simp at hF; omega
theorem upto_rp {B : Nat} {l : List Int} {i L : Nat} {v : Int} {n : Nat} (h : Upto B l i v) (hl : l.length = L) (hv : v = n) : Rp B l L n := ⟨hl, h.digs, by rw [h.val, hv]⟩
theorem ring_top {U g V Pj Pn c r o e B : Int} (hr : r = o - c + B * e) : U - g * V * Pj + c * (Pj * Pn) + (r - o) * (Pj * Pn) = U - g * V * Pj + e * (Pj * Pn * B) := by subst hr; grind
theorem ring_btop {X V Pj Pn c r o e B : Int} (hr : r = o + c - B * e) : X + V * Pj - c * (Pj * Pn) + (r - o) * (Pj * Pn) = X + V * Pj - e * (Pj * Pn * B) := by subst hr; grind
theorem ring_last {U g V d Pj K : Int} (hg : g = d + 1) : U - g * V * Pj + K + V * Pj = U - d * V * Pj + K := by subst hg; grind
/-- One digit, by its guess. -/
theorem dstep_s {U V g n j s Lu Lq : Nat} {u q : List Int} {r : List Int × List Int} (hV0 : 0 < V) (hV : (E V).length = n) (hVn : V < 16777216 ^ n) (hj : j + n < Lu) (hLu : Lu < 17592186044416) (hu : Rp 16777216 u Lu U) (hU : U < 16777216 ^ (j + n + 1)) (hq : q.length = Lq) (hjq : j < Lq)
    (hg : g < 16777216) (h1 : U / 16777216 ^ j / V ≤ g) (h2 : g ≤ U / 16777216 ^ j / V + 1)
    (fin : ∀ u', Rp 16777216 u' Lu (U - U / 16777216 ^ j / V * V * 16777216 ^ j) → Av (fun k => spec_l02Div.l2 k n s u' (E V) (q.set j ((U / 16777216 ^ j / V : Nat) : Int)) ((j : Int) - 1)) r) :
    Av (fun k => spec_l02Div.j5 k n s u (E V) q j g) r := by
  have hPj : 0 < 16777216 ^ j := Nat.pow_pos (by decide)
  obtain ⟨hle, hlt⟩ := div_left (U := U) hV0 hPj
  have hcast := nat_sub3 hle
  generalize hd : U / 16777216 ^ j / V = d at *
  have i1 : ((j + n : Nat) : Int) < Lu := Int.ofNat_lt.2 hj
  have i2 : (j : Int) < q.length := by rw [hq]; exact Int.ofNat_lt.2 hjq
  have i3 : j + n < 4611686018427387904 := by omega
  have i4 : j + n < j + n + 1 := Nat.lt_succ_self _
  have hj1 : wrap64 ((j : Int) - 1) = (j : Int) - 1 := by clear hcast; exact wr (by omega) (by omega)
  have e6 : ((16777216 : Nat) : Int) = 16777216 := rfl
  have u0 : Upto 16777216 u (j + n + 1) ((U : Int) - g * (V % 16777216 ^ 0 : Nat) * 16777216 ^ j + ((0 : Nat) : Int) * 16777216 ^ (j + 0)) := by
    have e0 : (U : Int) - g * (V % 16777216 ^ 0 : Nat) * 16777216 ^ j + ((0 : Nat) : Int) * 16777216 ^ (j + 0) = U := by
      rw [Nat.pow_zero, Nat.mod_one]; simp
    rw [e0]
    have hup : Upto 16777216 u u.length U := ⟨hu.digs, hu.val, fun k hk => by rw [List.getD_eq_getElem?_getD, List.getElem?_eq_none hk]; rfl⟩
    exact Upto.less (by decide) hup hU
  refine Av.succ ?_
  simp only [spec_l02Div.j5]
  refine l4_s hg hV hj hLu ?_ n 0 0 u rfl (Nat.zero_le _) (by decide) hu.len u0
  intro l c hl h hc
  have i5 : j + n < l.length := by rw [hl]; exact hj
  have i6 : ((j + n : Nat) : Int) < l.length := Int.ofNat_lt.2 i5
  obtain ⟨o, ho, hob⟩ := h.dig (by decide) (j + n)
  have r2 : rd l ((j + n : Nat) : Int) = (o : Int) := rdn ho
  have e : wrap64 ((j : Int) + n) = ((j + n : Nat) : Int) := wrap_add i3
  obtain ⟨t, z, f1, ht, he, hor⟩ := top24 hob hc
  have hup := h.put i5 i4 (below_nat ht) rfl
  rw [ho] at hup
  have ev : (U : Int) - g * V * 16777216 ^ j + c * 16777216 ^ (j + n) + ((t : Int) - (o : Nat)) * ((16777216 : Nat) : Int) ^ (j + n) = (U : Int) - g * V * 16777216 ^ j + z * 16777216 ^ (j + n + 1) := by
    simp only [e6, Int.pow_add, Int.pow_succ, Int.pow_zero, Int.one_mul]
    exact ring_top he
  rw [ev] at hup
  have hb := hup.bound (by decide)
  rw [e6] at hb
  refine Av.succ ?_
  simp only [spec_l02Div.l4, e, r2, f1, Int.toNat_natCast]
  refine Av.ifn (Int.lt_irrefl _) (Av.ifp (Int.natCast_nonneg _) (Av.ifp i6 (Av.bindc rfl ?_)))
  rcases hor with ⟨hneg, rfl⟩ | ⟨hneg, rfl⟩
  · -- one too much: it is given back
    refine Av.ifp hneg ?_
    have hgd := div_back hV0 hPj (by rw [hd]; exact h2) (X := (U : Int) - g * V * 16777216 ^ j + ((1 : Nat) : Int) * 16777216 ^ (j + n + 1)) (K := 16777216 ^ (j + n + 1)) (by simp) hb.2
    rw [hd] at hgd
    have hg1 : wrap64 ((g : Int) - 1) = (d : Int) := by clear hb hup ev he hcast h hneg; rw [hgd, wr (by omega) (by omega)]; omega
    rw [hg1]
    refine l5_s (V := V) (g := d) (n := n) (j := j) (s := s) (Lu := Lu) (X := (U : Int) - g * V * 16777216 ^ j + ((1 : Nat) : Int) * 16777216 ^ (j + n + 1)) (q := q) (r := r) hV hj hLu ?_ n 0 0 _ rfl (Nat.zero_le _) (by decide) (by rw [List.length_set]; exact hl) ?_
    rotate_left
    · have e0 : (U : Int) - g * V * 16777216 ^ j + ((1 : Nat) : Int) * 16777216 ^ (j + n + 1) + ((V % 16777216 ^ 0 : Nat) : Int) * 16777216 ^ j - ((0 : Nat) : Int) * 16777216 ^ (j + 0) = (U : Int) - g * V * 16777216 ^ j + ((1 : Nat) : Int) * 16777216 ^ (j + n + 1) := by
        rw [Nat.pow_zero, Nat.mod_one]; simp
      rw [e0]; exact hup
    · intro l2 c2 hl2 h2' hc2
      have k5 : j + n < l2.length := by rw [hl2]; exact hj
      have k6 : ((j + n : Nat) : Int) < l2.length := Int.ofNat_lt.2 k5
      obtain ⟨o2, ho2, hob2⟩ := h2'.dig (by decide) (j + n)
      have r3 : rd l2 ((j + n : Nat) : Int) = (o2 : Int) := rdn ho2
      obtain ⟨t2, z2, f2, ht2, he2⟩ := btop24 hob2 hc2
      have hz2 : z2 ≤ 1 := by clear hb hup ev he hcast h hneg h2'; omega
      have hup2 := h2'.put k5 i4 (below_nat ht2) rfl
      rw [ho2] at hup2
      have hgI : (g : Int) = d + 1 := by rw [hgd]; simp
      have ev2 : (U : Int) - g * V * 16777216 ^ j + ((1 : Nat) : Int) * 16777216 ^ (j + n + 1) + V * 16777216 ^ j - c2 * 16777216 ^ (j + n) + ((t2 : Int) - (o2 : Nat)) * ((16777216 : Nat) : Int) ^ (j + n) = ((U : Int) - d * V * 16777216 ^ j) + 16777216 ^ (j + n + 1) - z2 * 16777216 ^ (j + n + 1) := by
        have h9 : (U : Int) - g * V * 16777216 ^ j + 16777216 ^ (j + n + 1) + V * 16777216 ^ j = (U : Int) - d * V * 16777216 ^ j + 16777216 ^ (j + n + 1) := ring_last hgI
        simp only [e6, Int.natCast_one, Int.one_mul]
        rw [← h9]
        simp only [Int.pow_add, Int.pow_succ, Int.pow_zero, Int.one_mul]
        exact ring_btop he2
      rw [ev2] at hup2
      have hb2 := hup2.bound (by decide)
      rw [e6] at hb2
      have hZ0 : (0 : Int) ≤ (U : Int) - d * V * 16777216 ^ j := by
        have h8 : ((d * V * 16777216 ^ j : Nat) : Int) ≤ U := Int.ofNat_le.2 hle
        simp only [Int.natCast_mul, Int.natCast_pow] at h8
        exact Int.sub_nonneg_of_le h8
      have hZK : (U : Int) - d * V * 16777216 ^ j < 16777216 ^ (j + n + 1) := by
        have h8 : U - d * V * 16777216 ^ j < 16777216 ^ (j + n + 1) := Nat.lt_of_le_of_lt (Nat.sub_le _ _) hU
        have h9 := Int.ofNat_lt.2 h8
        rw [hcast] at h9
        simpa using h9
      have hfv := back_one hz2 rfl hb2.1 hb2.2 hZ0 hZK
      refine Av.succ ?_
      simp only [spec_l02Div.l5, e, r3, f2, Int.toNat_natCast, hj1]
      refine Av.ifn (Int.lt_irrefl _) (Av.ifp (Int.natCast_nonneg _) (Av.ifp k6 (Av.ifp (Int.natCast_nonneg _) (Av.ifp i2 ?_))))
      exact fin _ (upto_rp hup2 (by rw [List.length_set]; exact hl2) (by rw [hfv, hcast]; simp))
  · refine Av.ifn hneg ?_
    have hgd := div_keep hV0 hPj (by rw [hd]; exact h1) (X := (U : Int) - g * V * 16777216 ^ j + ((0 : Nat) : Int) * 16777216 ^ (j + n + 1)) (by simp) hb.1
    rw [hd] at hgd
    subst hgd
    rw [hj1]
    refine Av.ifp (Int.natCast_nonneg _) (Av.ifp i2 ?_)
    exact fin _ (upto_rp hup (by rw [List.length_set]; exact hl) (by rw [hcast]; simp))
/-- The guess, on its way. -/
theorem l3_s {V X z v w n j s : Nat} {u q : List Int} {r : List Int × List Int} (hn : 2 ≤ n) (hV : (E V).length = n) (hjn : j + n < u.length) (hu : u.length < 17592186044416) (hv0 : 0 < v) (hv : v < 16777216) (hw : w < 16777216) (hz : z < 16777216) (hX : X < (v + 1) * 16777216)
    (rv : rd (E V) ((n - 1 : Nat) : Int) = (v : Int)) (rw_ : rd (E V) ((n - 2 : Nat) : Int) = (w : Int)) (rz : rd u ((j + n - 2 : Nat) : Int) = (z : Int))
    (fin : Av (fun k => spec_l02Div.j5 k n s u (E V) q j ((qh 16777216 (X * 16777216 + z) (v * 16777216 + w) : Nat) : Int)) r) :
    ∀ (g x : Nat), g < 281474976710656 → x < 16777216 → Gs 16777216 v w X z g x → Av (fun k => spec_l02Div.l3 k n s u (E V) q j g x) r := by
  have w1 : wrap64 ((n : Int) - 1) = ((n - 1 : Nat) : Int) := wrap_pred (by omega) (by omega)
  have w2 : wrap64 ((n : Int) - 2) = ((n - 2 : Nat) : Int) := wrap_less (b := 2) (by omega) (by omega)
  have w3 : wrap64 ((j : Int) + n) = ((j + n : Nat) : Int) := wrap_add (by omega)
  have w4 : wrap64 (((j + n : Nat) : Int) - 2) = ((j + n - 2 : Nat) : Int) := wrap_less (b := 2) (by clear w1 w2 w3; omega) (by clear w1 w2 w3; omega)
  have n1 : ((n - 1 : Nat) : Int) < (E V).length := by rw [hV]; exact Int.ofNat_lt.2 (by clear w1 w2 w3 w4; omega)
  have n2 : ((n - 2 : Nat) : Int) < (E V).length := by rw [hV]; exact Int.ofNat_lt.2 (by clear w1 w2 w3 w4; omega)
  have n3 : ((j + n - 2 : Nat) : Int) < u.length := Int.ofNat_lt.2 (by clear w1 w2 w3 w4; omega)
  intro g
  induction g using Nat.strongRecOn with
  | _ g ih =>
    intro x hgb hx hG
    have ww : wrap64 ((x : Int) + (v : Int)) = ((x + v : Nat) : Int) := wrap_add (by clear w1 w2 w3 w4 n1 n2 n3; omega)
    have wor := or24 (r := x) (Nat.lt_trans hx (by decide)) hz
    have jT : (16777216 ≤ g ∨ x * 16777216 + z < g * w) → Av (fun k => spec_l02Div.j4 k n s u (E V) q j g x true) r := by
      intro hc
      obtain ⟨hg0, hG2⟩ := hG.next hv0 (by decide) hc
      have wg : wrap64 ((g : Int) - 1) = ((g - 1 : Nat) : Int) := wrap_pred (Nat.lt_trans hgb (by decide)) hg0
      refine Av.succ ?_
      simp only [spec_l02Div.j4, w1, rv, ww, wg]
      refine Av.ifp (by decide) (Av.ifp (Int.natCast_nonneg _) (Av.ifp n1 ?_))
      by_cases hB : 16777216 ≤ x + v
      · refine Av.ifp (Int.ofNat_le.2 hB) ?_
        rw [hG2.over hv0 (by decide) hw hX hB]
        exact fin
      · refine Av.ifn (fun h => hB (Int.ofNat_le.1 h)) ?_
        exact ih (g - 1) (Nat.sub_lt hg0 (by decide)) (x + v) (Nat.lt_of_le_of_lt (Nat.sub_le _ _) hgb) (Nat.lt_of_not_le hB) hG2
    refine Av.succ ?_
    simp only [spec_l02Div.l3, w2, w3, w4, rw_, rz, wor]
    by_cases hgB : 16777216 ≤ g
    · exact Av.ifp (Int.ofNat_le.2 hgB) (jT (.inl hgB))
    · refine Av.ifn (fun h => hgB (Int.ofNat_le.1 h)) (Av.ifp (Int.natCast_nonneg _) (Av.ifp n2 (Av.ifp (Int.natCast_nonneg _) (Av.ifp n3 ?_))))
      have hgl : g < 16777216 := Nat.lt_of_not_le hgB
      have wgw : wrap64 ((g : Int) * (w : Int)) = ((g * w : Nat) : Int) := by
        have hm : g * w ≤ 16777216 * 16777216 := Nat.mul_le_mul (Nat.le_of_lt hgl) (Nat.le_of_lt hw)
        rw [← Int.natCast_mul]
        generalize g * w = y at *
        clear w1 w2 w3 w4 n1 n2 n3 ww wor jT ih hG
        exact wr (by omega) (by omega)
      rw [wgw]
      by_cases ht : x * 16777216 + z < g * w
      · rw [decide_eq_true (Int.ofNat_lt.2 ht)]
        exact jT (.inr ht)
      · rw [decide_eq_false (fun h => ht (Int.ofNat_lt.1 h))]
        refine Av.succ ?_
        simp only [spec_l02Div.j4]
        refine Av.ifn (by decide) ?_
        rw [hG.done hv0 (by decide) (Nat.le_sub_one_of_lt hgl) (Nat.le_of_not_lt ht)]
        exact fin
theorem over0_loop (a b : Nat) (hb0 : 0 < b) (hb : b < 18446744073709551616) (hl : (D a).length < 17592186044416) : ∀ (m : Nat) (q : List Int), m ≤ (D a).length → Rp 18446744073709551616 q (D a).length (a / 18446744073709551616 ^ m / b * 18446744073709551616 ^ m) →
    Av (fun k => impl_nat_over.l0 k (D a) (D b) q ((a / 18446744073709551616 ^ m % b : Nat) : Int) ((m : Int) - 1)) (D (a / b), D (a % b))
  | 0, q, hm, hq => by
    refine Av.succ ?_
    simp only [impl_nat_over.l0]
    refine Av.ifn (by omega) ?_
    have hr : a % b < 18446744073709551616 := Nat.lt_trans (Nat.mod_lt _ hb0) hb
    have hv := hq.val
    simp only [Nat.pow_zero, Nat.div_one, Nat.mul_one] at hv
    simp only [Nat.pow_zero, Nat.div_one]
    refine Av.bind (trim_f' hq.digs (by rw [hq.len]; omega) hv) (Av.bind (trim_f' (n := a % b) ?_ (by simp) (by simp [vl])) Av.ret)
    intro x hx
    simp at hx
    subst hx
    exact ⟨Int.natCast_nonneg _, Int.ofNat_lt.2 hr⟩
  | m + 1, q, hm, hq => by
    have i1 : (m : Int) < (D a).length := by omega
    have i2 : m < (D a).length := by omega
    have i3 : m < 4611686018427387904 := by omega
    have e0 : ((m + 1 : Nat) : Int) - 1 = (m : Int) := by omega
    have hw : wrap64 ((m : Int) - 1) = (m : Int) - 1 := wr (by omega) (by omega)
    have hlb : 0 < (D b).length := (D_lt 0 b).2 (by rw [Nat.pow_zero]; exact hb0)
    have hb1 := rdD b 0
    rw [Nat.pow_zero, Nat.div_one, Nat.mod_eq_of_lt hb] at hb1
    have ha1 := rdD a m
    have hx : a / 18446744073709551616 ^ m % 18446744073709551616 < 18446744073709551616 := Nat.mod_lt _ (by decide)
    have hr : a / 18446744073709551616 ^ (m + 1) % b < b := Nat.mod_lt _ hb0
    obtain ⟨s1, s2⟩ := div_step1 (A := a) hb0 18446744073709551616 m (by decide)
    have hlt : (a / 18446744073709551616 ^ (m + 1) % b * 18446744073709551616 + a / 18446744073709551616 ^ m % 18446744073709551616) / b < 18446744073709551616 :=
      (Nat.div_lt_iff_lt_mul hb0).2 (Nat.lt_of_lt_of_eq (step_lt hr hx) (Nat.mul_comm _ _))
    have hp := hq.put (by decide) i2 hlt
    rw [← s1] at hp
    have ih := over0_loop a b hb0 hb hl m _ (Nat.le_of_lt i2) hp
    rw [s2] at ih
    have hdv := div64 (h := a / 18446744073709551616 ^ (m + 1) % b) (l := a / 18446744073709551616 ^ m % 18446744073709551616) hb hx hr
    have hlb' : (0 : Int) < (D b).length := Int.ofNat_lt.2 hlb
    have hql : (m : Int) < q.length := by rw [hq.len]; exact i1
    have z0 : ((0 : Nat) : Int) = 0 := rfl
    rw [z0] at hb1
    refine Av.succ ?_
    rw [e0]
    simp only [impl_nat_over.l0, ha1, hb1, hw]
    refine Av.ifp (Int.natCast_nonneg _) (Av.ifp (Int.natCast_nonneg _) (Av.ifp i1 (Av.ifp hlb' (Av.bind hdv (Av.ifp hql ?_)))))
    rw [Int.toNat_natCast]
    exact ih
theorem below_limb {r : Nat} (h : r < 18446744073709551616) : 0 ≤ (r : Int) ∧ (r : Int) < ((18446744073709551616 : Nat) : Int) := ⟨Int.natCast_nonneg _, Int.ofNat_lt.2 h⟩
theorem lin_mac1 (W hi lo xy c s1 c1 : Int) (e0 : W * hi + lo = xy) (e1 : s1 = lo + c + 0 - W * c1) : s1 = xy + c - W * (hi + c1) := by grind
theorem mac1 (x y c : Nat) (hx : x < 18446744073709551616) (hy : y < 18446744073709551616) (hc : c < 18446744073709551616) : ∃ (m s : Int × Int) (t q : Nat), bits_Mul64.f x y = some m ∧ bits_Add64.f m.2 c 0 = some s ∧ s.1 = (t : Int) ∧ IntKind.u64.wrap (m.1 + s.2) = (q : Int) ∧ t < 18446744073709551616 ∧ q < 18446744073709551616 ∧ (t : Int) = x * y + c - 18446744073709551616 * q := by
  have hxy := mul_lt hx hy
  have hM := mul64 x y hx hy
  have e0 := Nat.div_add_mod (x * y) 18446744073709551616
  have r0 : x * y % 18446744073709551616 < 18446744073709551616 := Nat.mod_lt _ (by decide)
  have ec : ((x * y : Nat) : Int) = (x : Int) * y := Int.natCast_mul x y
  generalize x * y / 18446744073709551616 = hi at *
  generalize x * y % 18446744073709551616 = lo at *
  generalize (x : Int) * y = XY at *
  generalize x * y = xy at *
  obtain ⟨s1, c1, f1, g1, l1, e1⟩ := add64 lo c 0 r0 hc (by decide)
  have e0' : (18446744073709551616 : Int) * hi + lo = XY := by rw [← ec, ← e0]; simp
  have e3 := lin_mac1 _ _ _ _ _ _ _ e0' e1
  have hS : XY + c < 18446744073709551616 * 18446744073709551616 := by
    clear e1 e3 e0 e0' f1
    omega
  have hq := lt_mac _ _ _ _ (by decide) e3 (Int.natCast_nonneg _) hS
  have e5 : (s1 : Int) = XY + c - 18446744073709551616 * ((hi + c1 : Nat) : Int) := by rw [Int.natCast_add]; exact e3
  have hq2 : hi + c1 < 18446744073709551616 := by
    have : ((hi + c1 : Nat) : Int) < 18446744073709551616 := by rw [Int.natCast_add]; exact hq
    exact Int.ofNat_lt.1 this
  have z : (((0 : Nat) : Int)) = 0 := rfl
  rw [z] at f1
  exact ⟨_, _, s1, hi + c1, hM, f1, rfl, ura hq2, l1, hq2, e5⟩
theorem ring_o1 {U g VM y Pj Pi c b c' b' B t o r : Int} (ht : t = g * y + c - B * c') (hr : r = o - t - b + B * b') : U - g * (VM + y * Pi) * Pj + (c' + b') * (Pj * (Pi * B)) = U - g * VM * Pj + (c + b) * (Pj * Pi) + (r - o) * (Pj * Pi) := by subst hr; subst ht; grind
theorem ring_otop {U g V Pj Pn c b r o e B : Int} (hr : r = o - c - b + B * e) : U - g * V * Pj + (c + b) * (Pj * Pn) + (r - o) * (Pj * Pn) = U - g * V * Pj + e * (Pj * Pn * B) := by subst hr; grind
/-- A list of V in n limbs. -/
structure Vl64 (l : List Int) (n V : Nat) : Prop where
  len : l.length = n
  get : ∀ i, i < n → rd l (i : Int) = ((V / 18446744073709551616 ^ i % 18446744073709551616 : Nat) : Int)
  lt : V < 18446744073709551616 ^ n
theorem o2_s {U V g n j s Lu : Nat} {vl' q : List Int} {r : List Int × List Int} (hg : g < 18446744073709551616) (hV : Vl64 vl' n V) (hj : j + n < Lu) (hLu : Lu < 17592186044416)
    (fin : ∀ (l : List Int) (c b : Nat), l.length = Lu → Upto 18446744073709551616 l (j + n + 1) ((U : Int) - g * V * 18446744073709551616 ^ j + ((c : Int) + b) * 18446744073709551616 ^ (j + n)) → c < 18446744073709551616 → b ≤ 1 → Av (fun k => impl_nat_over.l2 k n s l vl' q j g b c n n) r) :
    ∀ (d i c b : Nat) (l : List Int), n - i = d → i ≤ n → c < 18446744073709551616 → b ≤ 1 → l.length = Lu → Upto 18446744073709551616 l (j + n + 1) ((U : Int) - g * (V % 18446744073709551616 ^ i : Nat) * 18446744073709551616 ^ j + ((c : Int) + b) * 18446744073709551616 ^ (j + i)) → Av (fun k => impl_nat_over.l2 k n s l vl' q j g b c n i) r
  | 0, i, c, b, l, hd, hi, hc, hb, hl, h => by
    obtain rfl : i = n := by omega
    rw [Nat.mod_eq_of_lt hV.lt] at h
    exact fin l c b hl h hc hb
  | d + 1, i, c, b, l, hd, hi, hc, hb, hl, h => by
    have i1 : (i : Int) < n := by omega
    have i2 : n - (i + 1) = d := by omega
    have i3 : i + 1 ≤ n := by omega
    have i4 : j + i < l.length := by omega
    have i5 : ((j + i : Nat) : Int) < l.length := Int.ofNat_lt.2 i4
    have i6 : j + i < j + n + 1 := by omega
    have i7 : (i : Int) < vl'.length := by rw [hV.len]; exact i1
    have i8 : j + i < 4611686018427387904 := by omega
    have i9 : i < 4611686018427387904 := by omega
    have r1 := hV.get i (by omega)
    obtain ⟨o, ho, hob⟩ := h.dig (by decide) (j + i)
    have hy : V / 18446744073709551616 ^ i % 18446744073709551616 < 18446744073709551616 := Nat.mod_lt _ (by decide)
    have s1 := mod_step 18446744073709551616 V i
    have r2 : rd l ((j + i : Nat) : Int) = (o : Int) := rdn ho
    have e : wrap64 ((j : Int) + i) = ((j + i : Nat) : Int) := wrap_add i8
    have e1 : wrap64 ((i : Int) + 1) = ((i + 1 : Nat) : Int) := wrap_one i9
    generalize V / 18446744073709551616 ^ i % 18446744073709551616 = y at *
    obtain ⟨m1, m2, t, c', f1, f2, f3, f4, ht, hc', he⟩ := mac1 g y c hg hy hc
    obtain ⟨w, b', k1, k2, k3, k4⟩ := sub64 o t b hob ht hb
    refine Av.succ ?_
    simp only [impl_nat_over.l2, e, e1, r1, r2, f1, f2, f3, f4, k1, Option.bind_some, Int.toNat_natCast]
    refine Av.ifp i1 (Av.ifp (Int.natCast_nonneg _) (Av.ifp i7 (Av.ifp (Int.natCast_nonneg _) (Av.ifp i5 ?_))))
    refine o2_s hg hV hj hLu fin d (i + 1) c' b' _ i2 i3 hc' k2 (by rw [List.length_set]; exact hl) (h.put i4 i6 (below_limb k3) ?_)
    rw [s1, ho]
    have e6 : ((18446744073709551616 : Nat) : Int) = 18446744073709551616 := rfl
    simp only [e6, Int.pow_add, Int.pow_succ, Int.pow_zero, Int.one_mul]
    exact ring_o1 he k4
theorem o3_s {V g n j s Lu : Nat} {X : Int} {vl' q : List Int} {r : List Int × List Int} (hV : Vl64 vl' n V) (hj : j + n < Lu) (hLu : Lu < 17592186044416)
    (fin : ∀ (l : List Int) (c : Nat), l.length = Lu → Upto 18446744073709551616 l (j + n + 1) (X + V * 18446744073709551616 ^ j - c * 18446744073709551616 ^ (j + n)) → c ≤ 1 → Av (fun k => impl_nat_over.l3 k n s l vl' q j g c n n) r) :
    ∀ (d i c : Nat) (l : List Int), n - i = d → i ≤ n → c ≤ 1 → l.length = Lu → Upto 18446744073709551616 l (j + n + 1) (X + (V % 18446744073709551616 ^ i : Nat) * 18446744073709551616 ^ j - c * 18446744073709551616 ^ (j + i)) → Av (fun k => impl_nat_over.l3 k n s l vl' q j g c n i) r
  | 0, i, c, l, hd, hi, hc, hl, h => by
    obtain rfl : i = n := by omega
    rw [Nat.mod_eq_of_lt hV.lt] at h
    exact fin l c hl h hc
  | d + 1, i, c, l, hd, hi, hc, hl, h => by
    have i1 : (i : Int) < n := by omega
    have i2 : n - (i + 1) = d := by omega
    have i3 : i + 1 ≤ n := by omega
    have i4 : j + i < l.length := by omega
    have i5 : ((j + i : Nat) : Int) < l.length := Int.ofNat_lt.2 i4
    have i6 : j + i < j + n + 1 := by omega
    have i7 : (i : Int) < vl'.length := by rw [hV.len]; exact i1
    have i8 : j + i < 4611686018427387904 := by omega
    have i9 : i < 4611686018427387904 := by omega
    have r1 := hV.get i (by omega)
    obtain ⟨o, ho, hob⟩ := h.dig (by decide) (j + i)
    have hy : V / 18446744073709551616 ^ i % 18446744073709551616 < 18446744073709551616 := Nat.mod_lt _ (by decide)
    have s1 := mod_step 18446744073709551616 V i
    have r2 : rd l ((j + i : Nat) : Int) = (o : Int) := rdn ho
    have e : wrap64 ((j : Int) + i) = ((j + i : Nat) : Int) := wrap_add i8
    have e1 : wrap64 ((i : Int) + 1) = ((i + 1 : Nat) : Int) := wrap_one i9
    generalize V / 18446744073709551616 ^ i % 18446744073709551616 = y at *
    obtain ⟨w, c', k1, k2, k3, k4⟩ := add64 o y c hob hy hc
    refine Av.succ ?_
    simp only [impl_nat_over.l3, e, e1, r1, r2, k1, Option.bind_some, Int.toNat_natCast]
    refine Av.ifp i1 (Av.ifp (Int.natCast_nonneg _) (Av.ifp i5 (Av.ifp (Int.natCast_nonneg _) (Av.ifp i7 ?_))))
    refine o3_s hV hj hLu fin d (i + 1) c' _ i2 i3 k2 (by rw [List.length_set]; exact hl) (h.put i4 i6 (below_limb k3) ?_)
    rw [s1, ho]
    have e6 : ((18446744073709551616 : Nat) : Int) = 18446744073709551616 := rfl
    simp only [e6, Int.pow_add, Int.pow_succ, Int.pow_zero, Int.one_mul]
    exact ring_m2' k4
theorem wtop {o c : Nat} (ho : o < 18446744073709551616) (hc : c ≤ 1) : ∃ r e : Nat, IntKind.u64.wrap ((o : Int) + c) = (r : Int) ∧ r < 18446744073709551616 ∧ e ≤ 1 ∧ (r : Int) = o + c - 18446744073709551616 * e := by
  refine ⟨(o + c) % 18446744073709551616, (o + c) / 18446744073709551616, ?_, by omega, by omega, by omega⟩
  rw [uw]; omega
/-- One digit, by its guess. -/
theorem dstep_f {U V g n j s Lu Lq : Nat} {u vl' q : List Int} {r : List Int × List Int} (hV0 : 0 < V) (hV : Vl64 vl' n V) (hj : j + n < Lu) (hLu : Lu < 17592186044416) (hu : Rp 18446744073709551616 u Lu U) (hU : U < 18446744073709551616 ^ (j + n + 1)) (hq : q.length = Lq) (hjq : j < Lq)
    (hg : g < 18446744073709551616) (h1 : U / 18446744073709551616 ^ j / V ≤ g) (h2 : g ≤ U / 18446744073709551616 ^ j / V + 1)
    (fin : ∀ u', Rp 18446744073709551616 u' Lu (U - U / 18446744073709551616 ^ j / V * V * 18446744073709551616 ^ j) → Av (fun k => impl_nat_over.l1 k n s u' vl' (q.set j ((U / 18446744073709551616 ^ j / V : Nat) : Int)) ((j : Int) - 1)) r) :
    Av (fun k => impl_nat_over.l2 k n s u vl' q j g 0 0 n 0) r := by
  have hPj : 0 < 18446744073709551616 ^ j := Nat.pow_pos (by decide)
  obtain ⟨hle, hlt⟩ := div_left (U := U) hV0 hPj
  have hcast := nat_sub3 hle
  generalize hd : U / 18446744073709551616 ^ j / V = d at *
  have i1 : ((j + n : Nat) : Int) < Lu := Int.ofNat_lt.2 hj
  have i2 : (j : Int) < q.length := by rw [hq]; exact Int.ofNat_lt.2 hjq
  have i3 : j + n < 4611686018427387904 := by omega
  have i4 : j + n < j + n + 1 := Nat.lt_succ_self _
  have hj1 : wrap64 ((j : Int) - 1) = (j : Int) - 1 := by clear hcast; exact wr (by omega) (by omega)
  have e6 : ((18446744073709551616 : Nat) : Int) = 18446744073709551616 := rfl
  have u0 : Upto 18446744073709551616 u (j + n + 1) ((U : Int) - g * (V % 18446744073709551616 ^ 0 : Nat) * 18446744073709551616 ^ j + (((0 : Nat) : Int) + (0 : Nat)) * 18446744073709551616 ^ (j + 0)) := by
    have e0 : (U : Int) - g * (V % 18446744073709551616 ^ 0 : Nat) * 18446744073709551616 ^ j + (((0 : Nat) : Int) + (0 : Nat)) * 18446744073709551616 ^ (j + 0) = U := by
      rw [Nat.pow_zero, Nat.mod_one]; simp
    rw [e0]
    have hup : Upto 18446744073709551616 u u.length U := ⟨hu.digs, hu.val, fun k hk => by rw [List.getD_eq_getElem?_getD, List.getElem?_eq_none hk]; rfl⟩
    exact Upto.less (by decide) hup hU
  refine o2_s hg hV hj hLu ?_ n 0 0 0 u rfl (Nat.zero_le _) (by decide) (by decide) hu.len u0
  intro l c b hl h hc hb1
  have i5 : j + n < l.length := by rw [hl]; exact hj
  have i6 : ((j + n : Nat) : Int) < l.length := Int.ofNat_lt.2 i5
  obtain ⟨o, ho, hob⟩ := h.dig (by decide) (j + n)
  have r2 : rd l ((j + n : Nat) : Int) = (o : Int) := rdn ho
  have e : wrap64 ((j : Int) + n) = ((j + n : Nat) : Int) := wrap_add i3
  obtain ⟨t, z, f1, hz, ht, he⟩ := sub64 o c b hob hc hb1
  have hup := h.put i5 i4 (below_limb ht) rfl
  rw [ho] at hup
  have ev : (U : Int) - g * V * 18446744073709551616 ^ j + ((c : Int) + b) * 18446744073709551616 ^ (j + n) + ((t : Int) - (o : Nat)) * ((18446744073709551616 : Nat) : Int) ^ (j + n) = (U : Int) - g * V * 18446744073709551616 ^ j + z * 18446744073709551616 ^ (j + n + 1) := by
    simp only [e6, Int.pow_add, Int.pow_succ, Int.pow_zero, Int.one_mul]
    exact ring_otop he
  rw [ev] at hup
  have hb := hup.bound (by decide)
  rw [e6] at hb
  refine Av.succ ?_
  simp only [impl_nat_over.l2, e, r2, f1, Option.bind_some, Int.toNat_natCast]
  refine Av.ifn (Int.lt_irrefl _) (Av.ifp (Int.natCast_nonneg _) (Av.ifp i6 ?_))
  have hz01 : z = 0 ∨ z = 1 := by clear hb hup ev he hcast h; omega
  rcases hz01 with rfl | rfl
  · refine Av.ifn (by simp) ?_
    have hgd := div_keep hV0 hPj (by rw [hd]; exact h1) (X := (U : Int) - g * V * 18446744073709551616 ^ j + ((0 : Nat) : Int) * 18446744073709551616 ^ (j + n + 1)) (by simp) hb.1
    rw [hd] at hgd
    subst hgd
    rw [hj1]
    refine Av.ifp (Int.natCast_nonneg _) (Av.ifp i2 ?_)
    exact fin _ (upto_rp hup (by rw [List.length_set]; exact hl) (by rw [hcast]; simp))
  · -- one too much: it is given back
    refine Av.ifp rfl ?_
    have hgd := div_back hV0 hPj (by rw [hd]; exact h2) (X := (U : Int) - g * V * 18446744073709551616 ^ j + ((1 : Nat) : Int) * 18446744073709551616 ^ (j + n + 1)) (K := 18446744073709551616 ^ (j + n + 1)) (by simp) hb.2
    rw [hd] at hgd
    have hg1 : IntKind.u64.wrap ((g : Int) - 1) = (d : Int) := by
      have := urs (a := g) (b := 1) hg (by rw [hgd]; exact Nat.le_add_left _ _)
      rw [hgd, Nat.add_sub_cancel] at this
      rw [hgd]; exact this
    rw [hg1]
    refine o3_s (V := V) (g := d) (n := n) (j := j) (s := s) (Lu := Lu) (X := (U : Int) - g * V * 18446744073709551616 ^ j + ((1 : Nat) : Int) * 18446744073709551616 ^ (j + n + 1)) (q := q) (r := r) hV hj hLu ?_ n 0 0 _ rfl (Nat.zero_le _) (by decide) (by rw [List.length_set]; exact hl) ?_
    rotate_left
    · have e0 : (U : Int) - g * V * 18446744073709551616 ^ j + ((1 : Nat) : Int) * 18446744073709551616 ^ (j + n + 1) + ((V % 18446744073709551616 ^ 0 : Nat) : Int) * 18446744073709551616 ^ j - ((0 : Nat) : Int) * 18446744073709551616 ^ (j + 0) = (U : Int) - g * V * 18446744073709551616 ^ j + ((1 : Nat) : Int) * 18446744073709551616 ^ (j + n + 1) := by
        rw [Nat.pow_zero, Nat.mod_one]; simp
      rw [e0]; exact hup
    · intro l2 c2 hl2 h2' hc2
      have k5 : j + n < l2.length := by rw [hl2]; exact hj
      have k6 : ((j + n : Nat) : Int) < l2.length := Int.ofNat_lt.2 k5
      obtain ⟨o2, ho2, hob2⟩ := h2'.dig (by decide) (j + n)
      have r3 : rd l2 ((j + n : Nat) : Int) = (o2 : Int) := rdn ho2
      obtain ⟨t2, z2, f2, ht2, hz2, he2⟩ := wtop hob2 hc2
      have hup2 := h2'.put k5 i4 (below_limb ht2) rfl
      rw [ho2] at hup2
      have hgI : (g : Int) = d + 1 := by rw [hgd]; simp
      have ev2 : (U : Int) - g * V * 18446744073709551616 ^ j + ((1 : Nat) : Int) * 18446744073709551616 ^ (j + n + 1) + V * 18446744073709551616 ^ j - c2 * 18446744073709551616 ^ (j + n) + ((t2 : Int) - (o2 : Nat)) * ((18446744073709551616 : Nat) : Int) ^ (j + n) = ((U : Int) - d * V * 18446744073709551616 ^ j) + 18446744073709551616 ^ (j + n + 1) - z2 * 18446744073709551616 ^ (j + n + 1) := by
        have h9 : (U : Int) - g * V * 18446744073709551616 ^ j + 18446744073709551616 ^ (j + n + 1) + V * 18446744073709551616 ^ j = (U : Int) - d * V * 18446744073709551616 ^ j + 18446744073709551616 ^ (j + n + 1) := ring_last hgI
        simp only [e6, Int.natCast_one, Int.one_mul]
        rw [← h9]
        simp only [Int.pow_add, Int.pow_succ, Int.pow_zero, Int.one_mul]
        exact ring_btop he2
      rw [ev2] at hup2
      have hb2 := hup2.bound (by decide)
      rw [e6] at hb2
      have hZ0 : (0 : Int) ≤ (U : Int) - d * V * 18446744073709551616 ^ j := by
        have h8 : ((d * V * 18446744073709551616 ^ j : Nat) : Int) ≤ U := Int.ofNat_le.2 hle
        simp only [Int.natCast_mul, Int.natCast_pow] at h8
        exact Int.sub_nonneg_of_le h8
      have hZK : (U : Int) - d * V * 18446744073709551616 ^ j < 18446744073709551616 ^ (j + n + 1) := by
        have h8 : U - d * V * 18446744073709551616 ^ j < 18446744073709551616 ^ (j + n + 1) := Nat.lt_of_le_of_lt (Nat.sub_le _ _) hU
        have h9 := Int.ofNat_lt.2 h8
        rw [hcast] at h9
        simpa using h9
      have hfv := back_one hz2 rfl hb2.1 hb2.2 hZ0 hZK
      refine Av.succ ?_
      simp only [impl_nat_over.l3, e, r3, f2, Int.toNat_natCast, hj1]
      refine Av.ifn (Int.lt_irrefl _) (Av.ifp (Int.natCast_nonneg _) (Av.ifp k6 (Av.ifp (Int.natCast_nonneg _) (Av.ifp i2 ?_))))
      exact fin _ (upto_rp hup2 (by rw [List.length_set]; exact hl2) (by rw [hfv, hcast]; simp))
theorem take_upto {B : Nat} (hB : 2 ≤ B) {l : List Int} {n v : Nat} (h : Upto B l n v) (hn : n ≤ l.length) : Digs B (l.take n) ∧ vl B (l.take n) = v := by
  have hb := h.bound hB
  have hv : v < B ^ n := by
    have : ((v : Nat) : Int) < ((B ^ n : Nat) : Int) := by rw [Int.natCast_pow]; exact hb.2
    exact Int.ofNat_lt.1 this
  have hl : (l.take n).length = n := by rw [List.length_take]; omega
  refine ⟨digs_take h.digs n, vl_of_getD hB (by rw [hl]; exact hv) (fun j hj => ?_)⟩
  rw [hl] at hj
  rw [← h.get hB j, List.getD_eq_getElem?_getD, List.getD_eq_getElem?_getD, List.getElem?_take, if_pos hj]
end Go.Proofs.Ytghhnjhjhjbljaa.C
