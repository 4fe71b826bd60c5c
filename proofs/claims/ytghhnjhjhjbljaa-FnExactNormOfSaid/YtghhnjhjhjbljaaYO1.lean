/- Words and contracts that the laws of this claim lean on: numbers as limbs, and what the functions make of them. Conditions: those named in each theorem. -/
import Derived.Test.YtghhnjhjhjbljaaVOOwnWords
import Derived.Test.YtghhnjhjhjbljaaYO0
import Derived.Test.YtghhnjhjhjbljaaZO0
import Derived.Test.YtghhnjhjhjbljaaZO2
import Derived.Test.YtghhnjhjhjbljaaZO3
import Derived.Test.YtghhnjhjhjbljaaZO4
import Derived.Test.YtghhnjhjhjbljaaZO6
import Derived.Test.YtghhnjhjhjbljaaZO7
import Derived.Test.YtghhnjhjhjbljaaZO8
set_option linter.unusedVariables false
set_option linter.unusedSimpArgs false
set_option maxRecDepth 100000
namespace Go.Proofs.Ytghhnjhjhjbljaa.C
open Go.RowKit Go.Proofs.YtghhnjhjhjbljaaW.PrintWords Go.Proofs.YtghhnjhjhjbljaaW.PrintLast Go.Proofs.YtghhnjhjhjbljaaW.PrintMore
open Go.Proofs.Ytghhnjhjhjbljaa.M Go.Proofs.Ytghhnjhjhjbljaa.F
theorem plus_j0 (a b : Nat) (hab : (D b).length ≤ (D a).length) (hl : (D a).length < 35184372088832) : Av (fun k => impl_nat_plus.j0 k (D a) (D b)) (D (a + b)) := by
  refine Av.succ ?_
  simp only [impl_nat_plus.j0]
  have e : wrap64 (((D a).length : Int) + 1) = (((D a).length + 1 : Nat) : Int) := by rw [wr (by omega) (by omega)]; omega
  rw [e, Int.toNat_natCast]
  refine Av.ifp (by omega) (Av.ifp (by omega) ?_)
  have := plus_loop a b hab hl _ 0 0 (List.replicate ((D a).length + 1) 0) rfl (by omega) (by omega) (by simp) (by
    rw [Nat.pow_zero, Nat.mod_one, Nat.mod_one, ring_zero]; exact Upto.start (by decide) _)
  exact this
theorem plus_f (a b : Nat) (ha : (D a).length < 35184372088832) (hb : (D b).length < 35184372088832) : Av (fun k => impl_nat_plus.f k (D a) (D b)) (D (a + b)) := by
  unfold impl_nat_plus.f
  by_cases h : (D a).length < (D b).length
  · refine Av.ifp (by omega) ?_
    rw [Nat.add_comm]
    exact plus_j0 b a (by omega) hb
  · exact Av.ifn (by omega) (plus_j0 a b (by omega) ha)
theorem sub64 (a b c : Nat) (ha : a < 18446744073709551616) (hb : b < 18446744073709551616) (hc : c ≤ 1) : ∃ r q : Nat, bits_Sub64.f a b c = some ((r : Int), (q : Int)) ∧ q ≤ 1 ∧ r < 18446744073709551616 ∧ (r : Int) = a - b - c + 18446744073709551616 * q := by
  unfold bits_Sub64.f
  rw [if_pos (by omega)]
  by_cases h : a < b + c
  · refine ⟨(((a : Int) - b - c) % 18446744073709551616).toNat, 1, ?_, by omega, by omega, by omega⟩
    rw [if_pos (by omega), Int.toNat_of_nonneg (by omega)]; rfl
  · refine ⟨(((a : Int) - b - c) % 18446744073709551616).toNat, 0, ?_, by omega, by omega, by omega⟩
    rw [if_neg (by omega), Int.toNat_of_nonneg (by omega)]; rfl
theorem less_loop (a b : Nat) (hab : b ≤ a) (hl : (D a).length < 35184372088832) : ∀ (d i c : Nat) (l : List Int), (D a).length - i = d → i ≤ (D a).length → c ≤ 1 → l.length = (D a).length →
    Upto 18446744073709551616 l i (((a % 18446744073709551616 ^ i : Nat) : Int) - (b % 18446744073709551616 ^ i : Nat) + c * 18446744073709551616 ^ i) → Av (fun k => impl_nat_less.l0 k (D a) (D b) l c (D a).length i) (D (a - b))
  | 0, i, c, l, hd, hi, hc, hL, h => by
    obtain rfl : i = (D a).length := by omega
    refine Av.succ ?_
    simp only [impl_nat_less.l0]
    refine Av.ifn (by omega) (Av.bind ?_ Av.ret)
    have hv := h.val
    rw [mod_full _ a (by decide) (Nat.le_refl _), mod_full _ b (by decide) (D_mono hab)] at hv
    have hb := vl_bound (by decide) h.digs
    rw [hL] at hb
    refine trim_f' h.digs (by omega) ?_
    have hc0 : c = 0 := by
      rcases Nat.eq_zero_or_pos c with h0 | h0
      · exact h0
      · obtain rfl : c = 1 := by omega
        have e6 : ((18446744073709551616 : Nat) : Int) = 18446744073709551616 := rfl
        rw [e6] at hb
        generalize (18446744073709551616 : Int) ^ (D a).length = P at *
        omega
    subst hc0
    rw [hv]
    omega
  | d + 1, i, c, l, hd, hi, hc, hL, h => by
    refine Av.succ ?_
    simp only [impl_nat_less.l0]
    have next : Av (fun k => (bits_Sub64.f (rd (D a) i) (rd (D b) i) c).bind fun bt => if (i : Int) < (l.length : Int) then impl_nat_less.l0 k (D a) (D b) (l.set (i : Int).toNat bt.1) bt.2 (D a).length (wrap64 (i + 1)) else none) (D (a - b)) := by
      rw [rdD, rdD]
      have e : wrap64 ((i : Int) + 1) = ((i + 1 : Nat) : Int) := by rw [wr (by omega) (by omega)]; omega
      have i1 : (i : Int) < l.length := by omega
      have i2 : i < l.length := by omega
      have i3 : (D a).length - (i + 1) = d := by omega
      have i4 : i + 1 ≤ (D a).length := by omega
      have h1 : a / 18446744073709551616 ^ i % 18446744073709551616 < 18446744073709551616 := Nat.mod_lt _ (by decide)
      have h2 : b / 18446744073709551616 ^ i % 18446744073709551616 < 18446744073709551616 := Nat.mod_lt _ (by decide)
      have s1 := mod_step 18446744073709551616 a i
      have s2 := mod_step 18446744073709551616 b i
      generalize a / 18446744073709551616 ^ i % 18446744073709551616 = x at *
      generalize b / 18446744073709551616 ^ i % 18446744073709551616 = y at *
      obtain ⟨r, q, hf, hq, hr, he⟩ := sub64 x y c h1 h2 hc
      rw [e, hf, Int.toNat_natCast]
      simp only [Option.bind_some]
      refine Av.ifp i1 ?_
      refine less_loop a b hab hl d (i + 1) q _ i3 i4 hq (by rw [List.length_set]; exact hL) (h.set i2 ⟨Int.natCast_nonneg _, Int.ofNat_lt.2 hr⟩ ?_)
      rw [s1, s2, Int.pow_succ, he]
      generalize (18446744073709551616 : Int) ^ i = P at *
      have e6 : ((18446744073709551616 : Nat) : Int) = 18446744073709551616 := rfl
      try simp only [e6]
      exact ring_less _ _ _ _ _ _ _ _
    refine Av.ifp (by omega) ?_
    by_cases hb : i < (D b).length
    · exact Av.ifp (by omega) (Av.ifp (by omega) (Av.ifp (by omega) next))
    · rw [rd0 (l := D b) (by omega)] at next
      exact Av.ifn (by omega) (Av.ifp (by omega) (Av.ifp (by omega) next))
theorem less_f (a b : Nat) (hab : b ≤ a) (hl : (D a).length < 35184372088832) : Av (fun k => impl_nat_less.f k (D a) (D b)) (D (a - b)) := by
  unfold impl_nat_less.f
  refine Av.ifp (by omega) (Av.ifp (by omega) ?_)
  rw [Int.toNat_natCast]
  exact less_loop a b hab hl _ 0 0 (List.replicate (D a).length 0) rfl (by omega) (by omega) (by simp) (by
    rw [Nat.pow_zero, Nat.mod_one, Nat.mod_one, ring_zero']; exact Upto.start (by decide) _)
theorem and24 (n : Int) : Go.bits .and .i64 n 16777215 = n % 16777216 := by
  have h1 : (BitVec.ofInt 64 16777215).toNat = 2 ^ 24 - 1 := by decide
  have key : (BitVec.ofInt 64 n &&& BitVec.ofInt 64 16777215).toNat = (n % ((2 ^ 64 : Nat) : Int)).toNat % 2 ^ 24 := by
    rw [BitVec.toNat_and, BitVec.toNat_ofInt, h1, Nat.and_two_pow_sub_one_eq_mod]
  show IntKind.i64.wrap ((BitVec.ofInt 64 n &&& BitVec.ofInt 64 16777215).toNat : Nat) = n % 16777216
  rw [key, IntKind.wrap_i64]
  omega
/-- One place of a sum. -/
theorem add24 {x y c : Nat} (hx : x < 16777216) (hy : y < 16777216) (hc : c ≤ 1) : ∃ r q : Nat, Go.bits .and .i64 (wrap64 (wrap64 ((x : Int) + c) + y)) 16777215 = (r : Int) ∧ wrap64 (wrap64 ((x : Int) + c) + y) / 16777216 = (q : Int) ∧ q ≤ 1 ∧ r < 16777216 ∧ (r : Int) = x + y + c - 16777216 * q := by
  refine ⟨(x + y + c) % 16777216, (x + y + c) / 16777216, ?_, ?_, by omega, by omega, by omega⟩
  · rw [and24, wr (x := (x : Int) + c) (by omega) (by omega), wr (by omega) (by omega)]; omega
  · rw [wr (x := (x : Int) + c) (by omega) (by omega), wr (by omega) (by omega)]; omega
theorem add24' {x c : Nat} (hx : x < 16777216) (hc : c ≤ 1) : ∃ r q : Nat, Go.bits .and .i64 (wrap64 ((x : Int) + c)) 16777215 = (r : Int) ∧ wrap64 ((x : Int) + c) / 16777216 = (q : Int) ∧ q ≤ 1 ∧ r < 16777216 ∧ (r : Int) = x + (0 : Nat) + c - 16777216 * q := by
  refine ⟨(x + c) % 16777216, (x + c) / 16777216, ?_, ?_, by omega, by omega, by omega⟩
  · rw [and24, wr (by omega) (by omega)]; omega
  · rw [wr (by omega) (by omega)]; omega
/-- What the limbs that are written so far say. -/
structure Pre (l : List Int) (i : Nat) (v : Int) : Prop where
  len : l.length = i
  digs : Digs 16777216 l
  val : vl 16777216 l = v
theorem Pre.start : Pre [] 0 0 := ⟨rfl, (by intro x hx; cases hx), rfl⟩
theorem Pre.snoc {l : List Int} {i : Nat} {v x w : Int} (h : Pre l i v) (hx : 0 ≤ x ∧ x < 16777216) (hw : w = v + 16777216 ^ i * x) : Pre (l ++ [x]) (i + 1) w :=
  ⟨by rw [List.length_append, h.len]; rfl, digs_append.2 ⟨h.digs, fun y hy => by simp at hy; subst hy; exact hx⟩, by rw [vl_snoc, h.val, h.len, hw]; rfl⟩
theorem ring_add (A B c P x y q r W : Int) (hr : r = x + y + c - W * q) : A + x * P + (B + y * P) - q * (P * W) = A + B - c * P + P * r := by subst hr; grind
theorem ring_sub (A B c P x y q r W : Int) (hr : r = x - y - c + W * q) : A + x * P - (B + y * P) + q * (P * W) = A - B + c * P + P * r := by subst hr; grind
theorem below_nat {r : Nat} (h : r < 16777216) : 0 ≤ (r : Int) ∧ (r : Int) < 16777216 := ⟨Int.natCast_nonneg _, Int.ofNat_lt.2 h⟩
theorem add_s_loop (a b : Nat) (hab : (E b).length ≤ (E a).length) (hl : (E a).length < 17592186044415) : ∀ (d i c : Nat) (l : List Int), (E a).length - i = d → i ≤ (E a).length → c ≤ 1 →
    Pre l i (((a % 16777216 ^ i : Nat) : Int) + (b % 16777216 ^ i : Nat) - c * 16777216 ^ i) → Av (fun k => spec_l02Add.l0 k (E a) (E b) l c i) (E (a + b))
  | 0, i, c, l, hd, hi, hc, h => by
    obtain rfl : i = (E a).length := by omega
    refine Av.succ ?_
    simp only [spec_l02Add.l0]
    refine Av.ifn (by omega) ?_
    have hv := h.val
    rw [mod_full _ a (by decide) (Nat.le_refl _), mod_full _ b (by decide) hab] at hv
    have hlen := h.len
    have hdg := h.digs
    have hmono := E_mono (show a ≤ a + b by omega)
    by_cases h0 : c = 0
    · subst h0
      refine Av.ifn (by decide) (Av.ret' ?_)
      refine dg_of_len (by decide) hdg (n := a + b) ?_ (by rw [hlen]; exact hmono)
      rw [hv]; simp
    · obtain rfl : c = 1 := by omega
      refine Av.ifp (by decide) (Av.ifp (by rw [hlen]; omega) (Av.ret' ?_))
      have h2 := h.snoc (x := ((1 : Nat) : Int)) (w := ((a + b : Nat) : Int)) (by decide) (by
        rw [mod_full _ a (by decide) (Nat.le_refl _), mod_full _ b (by decide) hab]
        generalize (16777216 : Int) ^ (E a).length = P
        simp)
      refine dg_of_len (by decide) h2.digs h2.val ?_
      rw [h2.len]
      have hb := vl_bound (by decide) hdg
      rw [hv, hlen] at hb
      refine (E_lt _ _).2 ?_
      have e6 : ((16777216 : Nat) : Int) ^ (E a).length = ((16777216 ^ (E a).length : Nat) : Int) := by simp
      have e7 : (16777216 : Int) ^ (E a).length = ((16777216 ^ (E a).length : Nat) : Int) := by simp
      rw [e7] at hb
      generalize 16777216 ^ (E a).length = P at *
      omega
  | d + 1, i, c, l, hd, hi, hc, h => by
    have i1 : (i : Int) < (E a).length := by omega
    have i2 : (E a).length - (i + 1) = d := by omega
    have i3 : i + 1 ≤ (E a).length := by omega
    have i4 : l.length < 17592186044416 := by rw [h.len]; omega
    have e1 : wrap64 ((i : Int) + 1) = ((i + 1 : Nat) : Int) := wrap_one (by omega)
    have hx : a / 16777216 ^ i % 16777216 < 16777216 := Nat.mod_lt _ (by decide)
    have hy : b / 16777216 ^ i % 16777216 < 16777216 := Nat.mod_lt _ (by decide)
    have s1 := mod_step 16777216 a i
    have s2 := mod_step 16777216 b i
    have r1 := rdE a i
    have r2 := rdE b i
    refine Av.succ ?_
    simp only [spec_l02Add.l0, e1]
    refine Av.ifp i1 (Av.ifp (Int.natCast_nonneg _) ?_)
    rw [r1]
    by_cases hb : i < (E b).length
    · refine Av.ifp (by omega) (Av.ifp i4 ?_)
      rw [r2]
      generalize a / 16777216 ^ i % 16777216 = x at *
      generalize b / 16777216 ^ i % 16777216 = y at *
      obtain ⟨r, q, f1, f2, hq, hr, he⟩ := add24 hx hy hc
      rw [f1, f2]
      refine add_s_loop a b hab hl d (i + 1) q _ i2 i3 hq (h.snoc (below_nat hr) ?_)
      rw [s1, s2, Int.pow_succ]
      have e6 : ((16777216 : Nat) : Int) = 16777216 := rfl
      simp only [e6]
      exact ring_add _ _ _ _ _ _ _ _ _ he
    · have hz : b / 16777216 ^ i % 16777216 = 0 := by
        have h1 : b < 16777216 ^ i := (E_le i b).1 (by omega)
        rw [Nat.div_eq_of_lt h1]
      refine Av.ifn (by omega) (Av.ifp i4 ?_)
      rw [hz] at s2
      generalize a / 16777216 ^ i % 16777216 = x at *
      obtain ⟨r, q, f1, f2, hq, hr, he⟩ := add24' hx hc
      rw [f1, f2]
      refine add_s_loop a b hab hl d (i + 1) q _ i2 i3 hq (h.snoc (below_nat hr) ?_)
      rw [s1, s2, Int.pow_succ]
      have e6 : ((16777216 : Nat) : Int) = 16777216 := rfl
      simp only [e6]
      exact ring_add _ _ _ _ _ _ _ _ _ he
theorem add_s_one (a b : Nat) (hab : (E b).length ≤ (E a).length) (hl : (E a).length < 17592186044415) : Av (fun k => spec_l02Add.f k (E a) (E b)) (E (a + b)) := by
  refine Av.succ ?_
  simp only [spec_l02Add.f]
  have e : wrap64 (((E a).length : Int) + 1) = (((E a).length + 1 : Nat) : Int) := wrap_one (by omega)
  rw [e, Int.toNat_natCast]
  refine Av.ifn (by omega) (Av.ifp (by omega) (Av.ifp (by omega) ?_))
  refine add_s_loop a b hab hl _ 0 0 [] rfl (by omega) (by omega) ?_
  rw [Nat.pow_zero, Nat.mod_one, Nat.mod_one, ring_zero]; exact Pre.start
theorem add_s (a b : Nat) (ha : (E a).length < 17592186044415) (hb : (E b).length < 17592186044415) : Av (fun k => spec_l02Add.f k (E a) (E b)) (E (a + b)) := by
  by_cases h : (E a).length < (E b).length
  · refine Av.succ ?_
    simp only [spec_l02Add.f]
    refine Av.ifp (by omega) (Av.bind ?_ Av.ret)
    rw [Nat.add_comm]
    exact add_s_one b a (by omega) hb
  · exact add_s_one a b (by omega) ha
/-- One place of a difference: n as it is told. -/
theorem sub24 {n : Int} {x y c : Nat} (hn : n = x - y - c) (hx : x < 16777216) (hy : y < 16777216) (hc : c ≤ 1) : (n < 0 → ∃ r : Nat, wrap64 (n + 16777216) = (r : Int) ∧ r < 16777216 ∧ (r : Int) = x - y - c + 16777216 * (1 : Nat)) ∧ (¬ n < 0 → ∃ r : Nat, n = (r : Int) ∧ r < 16777216 ∧ (r : Int) = x - y - c + 16777216 * (0 : Nat)) := by
  subst hn
  constructor
  · intro h
    exact ⟨((x : Int) - y - c + 16777216).toNat, by rw [wr (by omega) (by omega)]; omega, by omega, by omega⟩
  · intro h
    exact ⟨((x : Int) - y - c).toNat, by omega, by omega, by omega⟩
theorem wsub {x y c : Nat} (hx : x < 16777216) (hy : y < 16777216) (hc : c ≤ 1) : wrap64 (wrap64 ((x : Int) - c) - y) = x - y - c := by
  rw [wr (x := (x : Int) - c) (by omega) (by omega), wr (by omega) (by omega)]; omega
theorem wsub' {x c : Nat} (hx : x < 16777216) (hc : c ≤ 1) : wrap64 ((x : Int) - c) = x - (0 : Nat) - c := by
  rw [wr (by omega) (by omega)]; omega
theorem sub_s_loop (a b : Nat) (hab : b ≤ a) (hl : (E a).length < 17592186044415) : ∀ (d i c : Nat) (l : List Int), (E a).length - i = d → i ≤ (E a).length → c ≤ 1 →
    Pre l i (((a % 16777216 ^ i : Nat) : Int) - (b % 16777216 ^ i : Nat) + c * 16777216 ^ i) → Av (fun k => spec_l02Sub.l0 k (E a) (E b) l c i) (E (a - b))
  | 0, i, c, l, hd, hi, hc, h => by
    obtain rfl : i = (E a).length := by omega
    refine Av.succ ?_
    simp only [spec_l02Sub.l0]
    refine Av.ifn (by omega) (Av.bind ?_ Av.ret)
    have hv := h.val
    have hlen := h.len
    rw [mod_full _ a (by decide) (Nat.le_refl _), mod_full _ b (by decide) (E_mono hab)] at hv
    have hb := vl_bound (by decide) h.digs
    rw [hv, hlen] at hb
    refine trim_s' h.digs (by omega) ?_
    have e6 : ((16777216 : Nat) : Int) = 16777216 := rfl
    rw [e6] at hb
    rw [hv]
    generalize (16777216 : Int) ^ (E a).length = P at *
    have : c = 0 ∨ c = 1 := by omega
    rcases this with rfl | rfl
    · simp; omega
    · exfalso; clear hl hi hd hlen; omega
  | d + 1, i, c, l, hd, hi, hc, h => by
    have i1 : (i : Int) < (E a).length := by omega
    have i2 : (E a).length - (i + 1) = d := by omega
    have i3 : i + 1 ≤ (E a).length := by omega
    have i4 : l.length < 17592186044416 := by rw [h.len]; omega
    have e1 : wrap64 ((i : Int) + 1) = ((i + 1 : Nat) : Int) := wrap_one (by omega)
    have hx : a / 16777216 ^ i % 16777216 < 16777216 := Nat.mod_lt _ (by decide)
    have hy : b / 16777216 ^ i % 16777216 < 16777216 := Nat.mod_lt _ (by decide)
    have s1 := mod_step 16777216 a i
    have s2 := mod_step 16777216 b i
    have r1 := rdE a i
    have r2 := rdE b i
    have e6 : ((16777216 : Nat) : Int) = 16777216 := rfl
    have next : ∀ (r q : Nat) (y : Nat), ((b % 16777216 ^ (i + 1) : Nat) : Int) = (b % 16777216 ^ i : Nat) + (y : Int) * (16777216 : Nat) ^ i → q ≤ 1 → r < 16777216 → (r : Int) = (a / 16777216 ^ i % 16777216 : Nat) - y - c + 16777216 * (q : Nat) → Av (fun k => spec_l02Sub.l0 k (E a) (E b) (l ++ [(r : Int)]) q ((i + 1 : Nat) : Int)) (E (a - b)) := by
      intro r q y s3 hq hr he
      refine sub_s_loop a b hab hl d (i + 1) q _ i2 i3 hq (h.snoc (below_nat hr) ?_)
      rw [s1, s3, Int.pow_succ]
      simp only [e6]
      exact ring_sub _ _ _ _ _ _ _ _ _ he
    refine Av.succ ?_
    simp only [spec_l02Sub.l0, e1]
    refine Av.ifp i1 (Av.ifp (Int.natCast_nonneg _) ?_)
    rw [r1]
    generalize a / 16777216 ^ i % 16777216 = x at *
    by_cases hb : i < (E b).length
    · refine Av.ifp (by omega) ?_
      rw [r2]
      generalize b / 16777216 ^ i % 16777216 = y at *
      rw [wsub hx hy hc]
      obtain ⟨t1, t2⟩ := sub24 (n := (x : Int) - y - c) rfl hx hy hc
      by_cases hn : (x : Int) - y - c < 0
      · obtain ⟨r, f1, hr, he⟩ := t1 hn
        refine Av.ifp hn (Av.ifp i4 ?_)
        rw [f1]
        exact next r 1 y s2 (by decide) hr he
      · obtain ⟨r, f1, hr, he⟩ := t2 hn
        refine Av.ifn hn (Av.ifp i4 ?_)
        rw [f1]
        exact next r 0 y s2 (by decide) hr he
    · have hz : b / 16777216 ^ i % 16777216 = 0 := by
        have h1 : b < 16777216 ^ i := (E_le i b).1 (by omega)
        rw [Nat.div_eq_of_lt h1]
      rw [hz] at s2
      refine Av.ifn (by omega) ?_
      rw [wsub' hx hc]
      obtain ⟨t1, t2⟩ := sub24 (n := (x : Int) - (0 : Nat) - c) rfl hx (by decide) hc
      by_cases hn : (x : Int) - (0 : Nat) - c < 0
      · obtain ⟨r, f1, hr, he⟩ := t1 hn
        refine Av.ifp hn (Av.ifp i4 ?_)
        rw [f1]
        exact next r 1 0 s2 (by decide) hr he
      · obtain ⟨r, f1, hr, he⟩ := t2 hn
        refine Av.ifn hn (Av.ifp i4 ?_)
        rw [f1]
        exact next r 0 0 s2 (by decide) hr he
theorem sub_s (a b : Nat) (hab : b ≤ a) (hl : (E a).length < 17592186044415) : Av (fun k => spec_l02Sub.f k (E a) (E b)) (E (a - b)) := by
  unfold spec_l02Sub.f
  refine Av.ifp (by omega) (Av.ifp (by omega) ?_)
  refine sub_s_loop a b hab hl _ 0 0 [] rfl (by omega) (by omega) ?_
  rw [Nat.pow_zero, Nat.mod_one, Nat.mod_one, ring_zero']; exact Pre.start
theorem mac24 {x y o c : Nat} (hx : x < 16777216) (hy : y < 16777216) (ho : o < 16777216) (hc : c < 16777216) : ∃ r q : Nat, Go.bits .and .i64 (wrap64 (wrap64 ((o : Int) + wrap64 ((x : Int) * y)) + c)) 16777215 = (r : Int) ∧ wrap64 (wrap64 ((o : Int) + wrap64 ((x : Int) * y)) + c) / 16777216 = (q : Int) ∧ r < 16777216 ∧ q < 16777216 ∧ (r : Int) = x * y + o + c - 16777216 * q := by
  have hm : x * y ≤ 16777215 * 16777215 := Nat.mul_le_mul (by omega) (by omega)
  rw [← Int.natCast_mul]
  generalize x * y = z at *
  clear hx hy
  refine ⟨(z + o + c) % 16777216, (z + o + c) / 16777216, ?_, ?_, by omega, by omega, by omega⟩
  · rw [and24, wr (x := (z : Int)) (by omega) (by omega), wr (x := (o : Int) + z) (by omega) (by omega), wr (by omega) (by omega)]; omega
  · rw [wr (x := (z : Int)) (by omega) (by omega), wr (x := (o : Int) + z) (by omega) (by omega), wr (by omega) (by omega)]; omega
theorem ring_mac24 (v x w P Q c y o W q r : Int) (hr : r = x * y + o + c - W * q) : v + x * w * P - c * (P * Q) + (r - o) * (P * Q) = v + x * (w + y * Q) * P - q * (P * Q * W) := by subst hr; grind
/-- What the limbs of a product say: v and, from place i on, nothing. -/
structure Up24 (l : List Int) (L i : Nat) (v : Int) : Prop where
  len : l.length = L
  digs : Digs 16777216 l
  val : vl 16777216 l = v
  zero : ∀ j, i ≤ j → l.getD j 0 = 0
theorem Up24.start (n : Nat) : Up24 (List.replicate n 0) n 0 0 := ⟨by simp, digs_zeros (by decide) n, vl_zeros _ n, fun j _ => getD_zeros n j⟩
theorem Up24.more {l : List Int} {L i j : Nat} {v : Int} (h : Up24 l L i v) (hij : i ≤ j) : Up24 l L j v := ⟨h.len, h.digs, h.val, fun m hm => h.zero m (Nat.le_trans hij hm)⟩
theorem mul_s_in (a b : Nat) (i : Nat) (r : List Int) (v : Int) (L : Nat) (hi : i < (E a).length) (hiL : (E a).length + (E b).length < 17592186044416) (hL : L = (E a).length + (E b).length)
    (fin : ∀ (l : List Int) (c : Nat), Up24 l L (i + (E b).length) (v + (a / 16777216 ^ i % 16777216 : Nat) * b * 16777216 ^ i - c * 16777216 ^ (i + (E b).length)) → c < 16777216 →
      Av (fun k => spec_l02Mul.l0 k (E a) (E b) (l.set (i + (E b).length) c) ((i + 1 : Nat) : Int)) r) : ∀ (d m c : Nat) (l : List Int), (E b).length - m = d → m ≤ (E b).length → c < 16777216 → Up24 l L (i + (E b).length) (v + (a / 16777216 ^ i % 16777216 : Nat) * (b % 16777216 ^ m : Nat) * 16777216 ^ i - c * 16777216 ^ (i + m)) →
    Av (fun k => spec_l02Mul.l1 k (E a) (E b) l i c m) r
  | 0, m, c, l, hd, hm, hc, h => by
    obtain rfl : m = (E b).length := by omega
    have e : wrap64 ((i : Int) + (E b).length) = ((i + (E b).length : Nat) : Int) := wrap_add (by omega)
    have e1 : wrap64 ((i : Int) + 1) = ((i + 1 : Nat) : Int) := wrap_one (by omega)
    have i5 : ((i + (E b).length : Nat) : Int) < l.length := by rw [h.len]; omega
    refine Av.succ ?_
    simp only [spec_l02Mul.l1, e, e1, Int.toNat_natCast]
    refine Av.ifn (by omega) (Av.ifp (Int.natCast_nonneg _) (Av.ifp i5 ?_))
    refine fin l c ?_ hc
    rw [mod_full _ b (by decide) (Nat.le_refl _)] at h
    exact h
  | d + 1, m, c, l, hd, hm, hc, h => by
    have i1 : i + m < l.length := by rw [h.len]; omega
    have i2 : i + m < i + (E b).length := by omega
    have i3 : (E b).length - (m + 1) = d := by omega
    have i4 : m + 1 ≤ (E b).length := by omega
    have i6 : ((i + m : Nat) : Int) < l.length := Int.ofNat_lt.2 i1
    have i7 : (m : Int) < (E b).length := by omega
    have i8 : (i : Int) < (E a).length := by omega
    have e : wrap64 ((i : Int) + m) = ((i + m : Nat) : Int) := wrap_add (by omega)
    have e1 : wrap64 ((m : Int) + 1) = ((m + 1 : Nat) : Int) := wrap_one (by omega)
    have hx : a / 16777216 ^ i % 16777216 < 16777216 := Nat.mod_lt _ (by decide)
    have hy : b / 16777216 ^ m % 16777216 < 16777216 := Nat.mod_lt _ (by decide)
    have hs := mod_step 16777216 b m
    have r1 := rdE a i
    have r2 := rdE b m
    have hob := digs_getD h.digs (by decide) (i + m)
    obtain ⟨o, hoe⟩ := Int.eq_ofNat_of_zero_le hob.1
    have r3 : rd l ((i + m : Nat) : Int) = (o : Int) := by unfold rd; rw [Int.toNat_natCast]; exact hoe
    have ho2 : o < 16777216 := by rw [hoe] at hob; exact Int.ofNat_lt.1 hob.2
    refine Av.succ ?_
    simp only [spec_l02Mul.l1, e, e1, r1, r2, r3, Int.toNat_natCast]
    refine Av.ifp i7 (Av.ifp (Int.natCast_nonneg _) (Av.ifp i6 (Av.ifp (Int.natCast_nonneg _) (Av.ifp i8 (Av.ifp (Int.natCast_nonneg _) ?_)))))
    generalize b / 16777216 ^ m % 16777216 = y at *
    have fin' := mul_s_in a b i r v L hi hiL hL fin d (m + 1)
    generalize a / 16777216 ^ i % 16777216 = x at *
    obtain ⟨t, q, f1, f2, ht, hq, he⟩ := mac24 hx hy ho2 hc
    rw [f1, f2]
    refine fin' q _ i3 i4 hq ⟨by rw [List.length_set]; exact h.len, digs_set h.digs (below_nat ht), ?_, ?_⟩
    · have e6 : ((16777216 : Nat) : Int) = 16777216 := rfl
      rw [vl_set _ _ _ _ i1, h.val, hs, hoe]
      simp only [e6]
      rw [← Nat.add_assoc, Int.pow_succ, Int.pow_add]
      try simp only [Int.ofNat_eq_natCast]
      exact ring_mac24 _ _ _ _ _ _ _ _ _ _ _ he
    · intro j hj
      rw [getD_set i1, if_neg (Nat.ne_of_lt (Nat.lt_of_lt_of_le i2 hj))]
      exact h.zero j hj
theorem mul_s_loop (a b : Nat) (hl : (E a).length + (E b).length < 17592186044416) : ∀ (d i : Nat) (l : List Int), (E a).length - i = d → i ≤ (E a).length → Up24 l ((E a).length + (E b).length) (i + (E b).length) (((a % 16777216 ^ i : Nat) : Int) * b) →
    Av (fun k => spec_l02Mul.l0 k (E a) (E b) l i) (E (a * b))
  | 0, i, l, hd, hi, h => by
    obtain rfl : i = (E a).length := by omega
    refine Av.succ ?_
    simp only [spec_l02Mul.l0]
    refine Av.ifn (by omega) (Av.bind ?_ Av.ret)
    refine trim_s' h.digs (by rw [h.len]; omega) ?_
    rw [h.val, mod_full _ a (by decide) (Nat.le_refl _)]
    simp
  | d + 1, i, l, hd, hi, h => by
    have i1 : (i : Int) < (E a).length := by omega
    have i2 : i < (E a).length := by omega
    have i3 : (E a).length - (i + 1) = d := by omega
    have i4 : i + (E b).length < (E a).length + (E b).length := by omega
    refine Av.succ ?_
    simp only [spec_l02Mul.l0]
    refine Av.ifp i1 ?_
    refine mul_s_in a b i _ (((a % 16777216 ^ i : Nat) : Int) * b) _ i2 hl rfl ?_ _ 0 0 l rfl (Nat.zero_le _) (by decide) ?_
    · intro l2 c h2 hc
      have h3 : i + (E b).length < l2.length := by rw [h2.len]; exact i4
      have e2 : i + 1 + (E b).length = i + (E b).length + 1 := by omega
      refine mul_s_loop a b hl d (i + 1) _ i3 i2 ⟨by rw [List.length_set]; exact h2.len, digs_set h2.digs (below_nat hc), ?_, ?_⟩
      · rw [vl_set0 _ h3 (h2.zero _ (Nat.le_refl _)), h2.val, mod_step]
        have e6 : ((16777216 : Nat) : Int) = 16777216 := rfl
        simp only [e6]
        grind
      · intro j hj
        rw [getD_set h3, if_neg (by omega)]
        exact h2.zero j (by omega)
    · rw [Nat.pow_zero, Nat.mod_one]
      have e : ((a % 16777216 ^ i : Nat) : Int) * b + ((a / 16777216 ^ i % 16777216 : Nat) : Int) * ((0 : Nat) : Int) * 16777216 ^ i - ((0 : Nat) : Int) * 16777216 ^ (i + 0) = ((a % 16777216 ^ i : Nat) : Int) * b := by simp
      rw [e]; exact h
theorem mul_s (a b : Nat) (hl : (E a).length + (E b).length < 17592186044416) : Av (fun k => spec_l02Mul.f k (E a) (E b)) (E (a * b)) := by
  unfold spec_l02Mul.f
  have e : wrap64 (((E a).length : Int) + (E b).length) = (((E a).length + (E b).length : Nat) : Int) := wrap_add (by omega)
  simp only [e, Int.toNat_natCast]
  refine Av.ifp (by omega) (Av.ifp (by omega) ?_)
  have h := mul_s_loop a b hl _ 0 (List.replicate ((E a).length + (E b).length) 0) rfl (Nat.zero_le _) (by
    rw [Nat.pow_zero, Nat.mod_one]
    have := (Up24.start ((E a).length + (E b).length)).more (j := 0 + (E b).length) (Nat.zero_le _)
    simpa using this)
  exact h
/-- How many bits a number has. -/
def nb (n : Nat) : Nat := (dg 2 n).length
theorem nb_lt (j n : Nat) : j < nb n ↔ 2 ^ j ≤ n := dg_length_lt (by decide) j n
theorem nb_le (j n : Nat) : nb n ≤ j ↔ n < 2 ^ j := dg_length_le (by decide) j n
theorem nb_div (n s : Nat) : nb (n / 2 ^ s) = nb n - s := by
  have h : ∀ j, j < nb (n / 2 ^ s) ↔ j + s < nb n := fun j => by
    rw [nb_lt, nb_lt, Nat.le_div_iff_mul_le (Nat.pow_pos (by decide)), ← Nat.pow_add]
  have h1 := h (nb (n / 2 ^ s))
  have h2 := h (nb n - s)
  by_cases h0 : nb (n / 2 ^ s) = 0
  · omega
  · have h3 := h (nb (n / 2 ^ s) - 1)
    omega
theorem nb_up {n s : Nat} (h : 2 ^ s ≤ n) : nb n = nb (n / 2 ^ s) + s := by
  have := nb_div n s
  have := (nb_lt s n).2 h
  omega
def lenTab : ByteArray := ⟨#[0, 1, 2, 2, 3, 3, 3, 3, 4, 4, 4, 4, 4, 4, 4, 4, 5, 5, 5, 5, 5, 5, 5, 5, 5, 5, 5, 5, 5, 5, 5, 5, 6, 6, 6, 6, 6, 6, 6, 6, 6, 6, 6, 6, 6, 6, 6, 6, 6, 6, 6, 6, 6, 6, 6, 6, 6, 6, 6, 6, 6, 6, 6, 6, 7, 7, 7, 7, 7, 7, 7, 7, 7, 7, 7, 7, 7, 7, 7, 7, 7, 7, 7, 7, 7, 7, 7, 7, 7, 7, 7, 7, 7, 7, 7, 7, 7, 7, 7, 7, 7, 7, 7, 7, 7, 7, 7, 7, 7, 7, 7, 7, 7, 7, 7, 7, 7, 7, 7, 7, 7, 7, 7, 7, 7, 7, 7, 7, 8, 8, 8, 8, 8, 8, 8, 8, 8, 8, 8, 8, 8, 8, 8, 8, 8, 8, 8, 8, 8, 8, 8, 8, 8, 8, 8, 8, 8, 8, 8, 8, 8, 8, 8, 8, 8, 8, 8, 8, 8, 8, 8, 8, 8, 8, 8, 8, 8, 8, 8, 8, 8, 8, 8, 8, 8, 8, 8, 8, 8, 8, 8, 8, 8, 8, 8, 8, 8, 8, 8, 8, 8, 8, 8, 8, 8, 8, 8, 8, 8, 8, 8, 8, 8, 8, 8, 8, 8, 8, 8, 8, 8, 8, 8, 8, 8, 8, 8, 8, 8, 8, 8, 8, 8, 8, 8, 8, 8, 8, 8, 8, 8, 8, 8, 8, 8, 8, 8, 8, 8, 8, 8, 8, 8, 8, 8, 8]⟩
theorem lenTab_all : ∀ i : Fin 256, bt lenTab (i.val : Int) = (nb i.val : Int) := by decide +kernel
theorem lenTab_at {x : Int} {n : Nat} (h : x = n) (hn : n < 256) : bt lenTab x = (nb n : Int) := by subst h; exact lenTab_all ⟨n, hn⟩
theorem nb_lt_256 {n : Nat} (h : n < 256) : nb n ≤ 8 := (nb_le 8 n).2 (by omega)
set_option maxRecDepth 100000 in
theorem len_j0 (x c : Nat) (hx : x < 4294967296) (hc : c ≤ 32) : Av (fun k => bits_Len64.j0 k x c) ((nb x + c : Nat) : Int) := by
  refine Av.succ ?_
  simp only [bits_Len64.j0]
  by_cases h1 : 65536 ≤ x
  · refine Av.ifp (by omega) ?_
    have e1 := nb_up (s := 16) (show 2 ^ 16 ≤ x by omega)
    by_cases h2 : 16777216 ≤ x
    · refine Av.ifp (by omega) (Av.ifp (by omega) (Av.ifp (by omega) (Av.ret' ?_)))
      have e2 := nb_up (n := x / 2 ^ 16) (s := 8) (by omega)
      have hl := nb_lt_256 (n := x / 2 ^ 16 / 2 ^ 8) (by omega)
      show wrap64 (wrap64 (wrap64 ((c : Int) + 16) + 8) + wrap64 (bt lenTab _)) = _
      rw [lenTab_at (n := x / 2 ^ 16 / 2 ^ 8) (by omega) (by omega), wr (x := (nb _ : Int)) (by omega) (by omega), wr (x := (c : Int) + 16) (by omega) (by omega), wr (x := (c : Int) + 16 + 8) (by omega) (by omega), wr (by omega) (by omega)]
      omega
    · refine Av.ifn (by omega) (Av.ifp (by omega) (Av.ifp (by omega) (Av.ret' ?_)))
      have hl := nb_lt_256 (n := x / 2 ^ 16) (by omega)
      show wrap64 (wrap64 ((c : Int) + 16) + wrap64 (bt lenTab _)) = _
      rw [lenTab_at (n := x / 2 ^ 16) (by omega) (by omega), wr (x := (nb _ : Int)) (by omega) (by omega), wr (x := (c : Int) + 16) (by omega) (by omega), wr (by omega) (by omega)]
      omega
  · refine Av.ifn (by omega) ?_
    by_cases h2 : 256 ≤ x
    · refine Av.ifp (by omega) (Av.ifp (by omega) (Av.ifp (by omega) (Av.ret' ?_)))
      have e2 := nb_up (n := x) (s := 8) (by omega)
      have hl := nb_lt_256 (n := x / 2 ^ 8) (by omega)
      show wrap64 (wrap64 ((c : Int) + 8) + wrap64 (bt lenTab _)) = _
      rw [lenTab_at (n := x / 2 ^ 8) (by omega) (by omega), wr (x := (nb _ : Int)) (by omega) (by omega), wr (x := (c : Int) + 8) (by omega) (by omega), wr (by omega) (by omega)]
      omega
    · refine Av.ifn (by omega) (Av.ifp (by omega) (Av.ifp (by omega) (Av.ret' ?_)))
      have hl := nb_lt_256 (n := x) (by omega)
      show wrap64 ((c : Int) + wrap64 (bt lenTab _)) = _
      rw [lenTab_at (n := x) (by omega) (by omega), wr (x := (nb _ : Int)) (by omega) (by omega), wr (by omega) (by omega)]
      omega
theorem len_f (x : Nat) (hx : x < 18446744073709551616) : Av (fun k => bits_Len64.f k x) (nb x : Int) := by
  unfold bits_Len64.f
  by_cases h : 4294967296 ≤ x
  · refine Av.ifp (by omega) ?_
    have e1 := nb_up (s := 32) (show 2 ^ 32 ≤ x by omega)
    have := len_j0 (x / 2 ^ 32) 32 (by omega) (by omega)
    rw [← e1] at this
    have e : (x : Int) / 4294967296 = ((x / 2 ^ 32 : Nat) : Int) := by omega
    rw [e]
    exact this
  · refine Av.ifn (by omega) ?_
    exact len_j0 x 0 (by omega) (by omega)
theorem lz_f (x : Nat) (hx : x < 18446744073709551616) : Av (fun k => bits_LeadingZeros64.f k x) (64 - (nb x : Int)) := by
  unfold bits_LeadingZeros64.f
  refine Av.bind (len_f x hx) (Av.ret' ?_)
  have := (nb_le 64 x).2 (by omega)
  rw [wr (by omega) (by omega)]
theorem W_pow (q : Nat) : (18446744073709551616 : Nat) ^ q = 2 ^ (64 * q) := by rw [Nat.pow_mul]
theorem size_f (n : Nat) (h : (D n).length < 4611686018427387) : Av (fun k => impl_nat_size.f k (D n)) (nb n : Int) := by
  unfold impl_nat_size.f
  by_cases h0 : n = 0
  · subst h0
    refine Av.ifp (by simp [dg_zero]) (Av.ret' (by simp [nb, dg_zero]))
  · have hl : 0 < (D n).length := by rw [D_lt]; simp; omega
    have hlo := (D_lt ((D n).length - 1) n).1 (by omega)
    have hhi := (D_le (D n).length n).1 (Nat.le_refl _)
    have hr : rd (D n) (((D n).length : Int) - 1) = ((n / 2 ^ (64 * ((D n).length - 1)) : Nat) : Int) := by
      have e : ((D n).length : Int) - 1 = (((D n).length - 1 : Nat) : Int) := by omega
      rw [e, rdD, W_pow]
      congr 1
      apply Nat.mod_eq_of_lt
      rw [Nat.div_lt_iff_lt_mul (Nat.pow_pos (by decide))]
      have e2 : (D n).length = (D n).length - 1 + 1 := by omega
      rw [e2, Nat.pow_succ, Nat.mul_comm, W_pow] at hhi
      exact hhi
    rw [W_pow] at hlo
    have hn := nb_up hlo
    have hlt : n / 2 ^ (64 * ((D n).length - 1)) < 18446744073709551616 := by
      rw [Nat.div_lt_iff_lt_mul (Nat.pow_pos (by decide))]
      have e2 : (D n).length = (D n).length - 1 + 1 := by omega
      rw [e2, Nat.pow_succ, Nat.mul_comm, W_pow] at hhi
      exact hhi
    refine Av.ifn (by omega) ?_
    simp (disch := omega) only [wr, if_pos, hr]
    refine Av.bind (lz_f _ hlt) (Av.ret' ?_)
    have := (nb_le 64 (n / 2 ^ (64 * ((D n).length - 1)))).2 (by omega)
    rw [wr (by omega) (by omega)]
    omega
theorem mod_div_mod {b : Nat} (hb : 0 < b) (x : Nat) {t r : Nat} (h : r < t) : x % b ^ t / b ^ r % b = x / b ^ r % b := by
  have e : b ^ t = b ^ r * b ^ (t - r) := by rw [← Nat.pow_add]; congr 1; omega
  rw [e, Nat.mod_mul_right_div_self]
  apply Nat.mod_mod_of_dvd
  have : t - r = t - r - 1 + 1 := by omega
  rw [this, Nat.pow_succ]
  exact Nat.dvd_mul_left _ _
/-- The lesser digits inside a digit. -/
theorem dig_sub {b : Nat} (hb : 0 < b) (n t q : Nat) {r : Nat} (h : r < t) : n / (b ^ t) ^ q % b ^ t / b ^ r % b = n / b ^ (t * q + r) % b := by
  rw [mod_div_mod hb _ h, Nat.div_div_eq_div_mul, ← Nat.pow_mul, ← Nat.pow_add]
theorem natCast_div_pow (a j : Nat) : ((a : Int) / 2 ^ j) = ((a / 2 ^ j : Nat) : Int) := by
  have e : (2 : Int) ^ j = ((2 ^ j : Nat) : Int) := by simp
  rw [e]; rfl
theorem bytes_of_bits (n : Nat) : (dg 256 n).length = (nb n + 7) / 8 := by
  have h : ∀ j, j < (dg 256 n).length ↔ 8 * j < nb n := fun j => by
    rw [dg_length_lt (by decide), nb_lt, Nat.pow_mul]
  have h1 := h (dg 256 n).length
  by_cases h0 : (dg 256 n).length = 0
  · have := h 0; omega
  · have := h ((dg 256 n).length - 1)
    omega
theorem text_loop (n : Nat) (h : (D n).length < 17592186044416) : ∀ m : Nat, m ≤ (dg 256 n).length → Av (fun k => impl_nat_text.l0 k (D n) ((dg 256 n).drop m).reverse m) (bts n)
  | 0, _ => by
    refine Av.succ ?_
    simp only [impl_nat_text.l0]
    refine Av.ifn (by omega) (Av.ret' ?_)
    simp [bts]
  | m + 1, hm => by
    refine Av.succ ?_
    simp only [impl_nat_text.l0]
    have hb : (dg 256 n).length ≤ 8 * (D n).length := by
      rw [dg_length_le (by decide), Nat.pow_mul]
      exact (D_le _ n).1 (Nat.le_refl _)
    have e1 : (((m + 1 : Nat) : Int) - 1) = m := by omega
    rw [e1]
    simp (disch := omega) only [wr, td, tm, if_pos]
    have hlen : (((dg 256 n).drop (m + 1)).reverse).length ≤ (dg 256 n).length := by rw [List.length_reverse, List.length_drop]; omega
    refine Av.ifp (by omega) ?_
    have e2 : shr .u64 (rd (D n) ((m : Int) / 8)) (8 * ((m : Int) % 8)) % 256 = (dg 256 n)[m]'(by omega) := by
      have e3 : (m : Int) / 8 = ((m / 8 : Nat) : Int) := by omega
      have e4 : min (8 * ((m : Int) % 8)).toNat IntKind.u64.bits = 8 * (m % 8) := by simp only [IntKind.bits]; omega
      unfold shr
      rw [e3, rdD, e4]
      have e5 := natCast_div_pow (n / 18446744073709551616 ^ (m / 8) % 18446744073709551616) (8 * (m % 8))
      rw [e5]
      have h4 := dig_sub (b := 256) (by decide) n 8 (m / 8) (r := m % 8) (by omega)
      have e6 : 8 * (m / 8) + m % 8 = m := by omega
      have e7 : (256 : Nat) ^ 8 = 18446744073709551616 := rfl
      have e8 : (2 : Nat) ^ (8 * (m % 8)) = 256 ^ (m % 8) := by rw [Nat.pow_mul]
      rw [e6, e7] at h4
      rw [e8]
      have h9 := dg_getD (B := 256) (by decide) m n
      rw [List.getD_eq_getElem?_getD, List.getElem?_eq_getElem (by omega)] at h9
      simp only [Option.getD_some] at h9
      rw [h9, ← h4]
      omega
    rw [e2]
    have e9 : ((dg 256 n).drop (m + 1)).reverse ++ [(dg 256 n)[m]'(by omega)] = ((dg 256 n).drop m).reverse := by
      rw [List.drop_eq_getElem_cons (show m < (dg 256 n).length by omega), List.reverse_cons]
    rw [e9]
    exact text_loop n h m (by omega)
theorem text_f (n : Nat) (h : (D n).length < 1759218604441) : Av (fun k => impl_nat_text.f k (D n)) (bts n) := by
  unfold impl_nat_text.f
  refine Av.bind (size_f n (by omega)) ?_
  have hb : (dg 256 n).length ≤ 8 * (D n).length := by
    rw [dg_length_le (by decide), Nat.pow_mul]
    exact (D_le _ n).1 (Nat.le_refl _)
  have hn := bytes_of_bits n
  simp (disch := omega) only [wr, td]
  have e : ((nb n : Int) + 7) / 8 = (((dg 256 n).length : Nat) : Int) := by omega
  rw [e]
  have := text_loop n (by omega) (dg 256 n).length (Nat.le_refl _)
  rw [List.drop_length, List.reverse_nil] at this
  exact this
theorem out_drop {b : List Int} {n : Nat} (hb : Digs 256 b) (hv : vl 256 b.reverse = n) (hbig : b.length < 9223372036854775807) : ∀ (d j : Nat), b.length - j = d → j ≤ b.length → vl 256 (b.reverse.take (b.length - j)) = n → Av (fun k => spec_l02Out.l1 k b j) (bts n)
  | 0, j, hd, hj, hz => by
    refine Av.succ ?_
    simp only [spec_l02Out.l1]
    simp (disch := omega) only [if_pos, if_neg]
    refine Av.ret' ?_
    have e : b.length = j := by omega
    have h0 : n = 0 := by rw [hd] at hz; simp [vl] at hz; omega
    subst h0
    rw [Int.toNat_natCast, ← e, List.drop_length]
    rfl
  | d + 1, j, hd, hj, hz => by
    refine Av.succ ?_
    simp only [spec_l02Out.l1]
    simp (disch := omega) only [if_pos]
    have hr : rd b j = b.reverse.getD (b.length - j - 1) 0 := by
      unfold rd
      rw [Int.toNat_natCast, List.getD_eq_getElem?_getD, List.getD_eq_getElem?_getD, List.getElem?_reverse (by omega)]
      congr 2; omega
    by_cases h0 : b.reverse.getD (b.length - j - 1) 0 = 0
    · refine Av.ifp (by rw [hr, h0]) ?_
      have e : (j : Int) + 1 = ((j + 1 : Nat) : Int) := by omega
      rw [wr (by omega) (by omega), e]
      refine out_drop hb hv hbig d (j + 1) (by omega) (by omega) ?_
      have h1 := vl_take_succ 256 b.reverse (b.length - j - 1)
      rw [h0, Int.mul_zero, Int.add_zero] at h1
      have e3 : b.length - j - 1 + 1 = b.length - j := by omega
      have e4 : b.length - (j + 1) = b.length - j - 1 := by omega
      rw [e4, ← h1, e3]
      exact hz
    · refine Av.ifn (by rw [hr]; exact h0) ?_
      refine Av.ret' ?_
      have h1 := take_is_dg (B := 256) (by decide) (digs_reverse.2 hb) (b.length - j) (by simp) (.inr h0)
      rw [hz, Int.toNat_natCast] at h1
      unfold bts
      rw [← h1, Int.toNat_natCast]
      congr 1
      rw [List.take_reverse, List.reverse_reverse]
      congr 1; omega
theorem out_loop (n : Nat) (hl : (E n).length < 17592186044416) : ∀ (d i : Nat) (b : List Int), (E n).length - i = d → i ≤ (E n).length → b.length = 3 * (E n).length → Digs 256 b → (∀ m, m < 3 * i → b.getD (3 * (E n).length - 1 - m) 0 = ((n / 256 ^ m % 256 : Nat) : Int)) → Av (fun k => spec_l02Out.l0 k (E n) b i) (bts n)
  | 0, i, b, hd, hi, hb, hdg, hv => by
    refine Av.succ ?_
    simp only [spec_l02Out.l0]
    refine Av.ifn (by omega) ?_
    have hE := (E_le (E n).length n).1 (Nat.le_refl _)
    have e : (16777216 : Nat) = 256 ^ 3 := rfl
    rw [e, ← Nat.pow_mul] at hE
    have hvl : vl 256 b.reverse = n := by
      apply vl_of_getD (by decide)
      · rw [List.length_reverse, hb]; exact hE
      · intro j hj
        rw [List.length_reverse] at hj
        rw [← hv j (by omega), List.getD_eq_getElem?_getD, List.getD_eq_getElem?_getD, List.getElem?_reverse hj]
        congr 2; omega
    exact out_drop hdg hvl (by omega) b.length 0 rfl (by omega) (by rw [Nat.sub_zero, ← List.length_reverse, List.take_length]; exact hvl)
  | d + 1, i, b, hd, hi, hb, hdg, hv => by
    refine Av.succ ?_
    simp only [spec_l02Out.l0]
    simp (disch := omega) only [wr, if_pos]
    have hE := rdE n i
    generalize hY : n / 16777216 ^ i = Y at hE
    have e : (16777216 : Nat) ^ i = 256 ^ (3 * i) := by rw [Nat.pow_mul]
    rw [e] at hY
    have k1 : ((b.length : Int) - 3 * i - 1).toNat = 3 * (E n).length - 1 - 3 * i := by omega
    have k2 : ((b.length : Int) - 3 * i - 2).toNat = 3 * (E n).length - 1 - (3 * i + 1) := by omega
    have k3 : ((b.length : Int) - 3 * i - 3).toNat = 3 * (E n).length - 1 - (3 * i + 2) := by omega
    rw [k1, k2, k3, hE]
    have e4 : (i : Int) + 1 = ((i + 1 : Nat) : Int) := by omega
    rw [e4]
    have y0 : n / 256 ^ (3 * i) % 256 = Y % 256 := by rw [hY]
    have y1 : n / 256 ^ (3 * i + 1) % 256 = Y / 256 % 256 := by rw [Nat.pow_succ, ← Nat.div_div_eq_div_mul, hY]
    have y2 : n / 256 ^ (3 * i + 2) % 256 = Y / 65536 % 256 := by
      rw [Nat.pow_add, ← Nat.div_div_eq_div_mul, hY]
    refine out_loop n hl d (i + 1) _ (by omega) (by omega) (by simp [hb]) (digs_set (digs_set (digs_set hdg (by omega)) (by omega)) (by omega)) ?_
    intro m hm
    rw [getD_set (by simp [hb]; omega), getD_set (by simp [hb]; omega), getD_set (by simp [hb]; omega)]
    by_cases c3 : m = 3 * i + 2
    · subst c3; rw [if_pos rfl, y2]; omega
    · rw [if_neg (by omega)]
      by_cases c2 : m = 3 * i + 1
      · subst c2; rw [if_pos rfl, y1]; omega
      · rw [if_neg (by omega)]
        by_cases c1 : m = 3 * i
        · subst c1; rw [if_pos rfl, y0]; omega
        · rw [if_neg (by omega)]
          exact hv m (by omega)
theorem out_s (n : Nat) (hl : (E n).length < 1759218604441) : Av (fun k => spec_l02Out.f k (E n)) (bts n) := by
  unfold spec_l02Out.f
  simp (disch := omega) only [wr, if_pos]
  have e : (3 * ((E n).length : Int)).toNat = 3 * (E n).length := by omega
  rw [e]
  have := out_loop n (by omega) (E n).length 0 (List.replicate (3 * (E n).length) 0) (by omega) (by omega) (by simp) (digs_zeros (by decide) _) (fun m hm => by omega)
  exact this
end Go.Proofs.Ytghhnjhjhjbljaa.C
namespace Go.Proofs.Ytghhnjhjhjbljaa.M
open Go.RowKit Go.Proofs.YtghhnjhjhjbljaaW.PrintWords Go.Proofs.YtghhnjhjhjbljaaW.PrintLast Go.Proofs.YtghhnjhjhjbljaaW.PrintMore
/-- The sum of two rests. -/
def addm (p a b : Nat) : Nat := if p ≤ a + b then a + b - p else a + b
end Go.Proofs.Ytghhnjhjhjbljaa.M
namespace Go.Proofs.Ytghhnjhjhjbljaa.C
open Go.RowKit Go.Proofs.YtghhnjhjhjbljaaW.PrintWords Go.Proofs.YtghhnjhjhjbljaaW.PrintLast Go.Proofs.YtghhnjhjhjbljaaW.PrintMore
open Go.Proofs.Ytghhnjhjhjbljaa.M Go.Proofs.Ytghhnjhjhjbljaa.F
/-- A number small enough for everything here. -/
def Sm (n : Nat) : Prop := (D n).length < 1000000 ∧ (E n).length < 1000000
theorem D_of {n j : Nat} (h : n < 256 ^ j) : (D n).length ≤ j := (D_le _ _).2 (Nat.lt_of_lt_of_le h (Nat.pow_le_pow_left (by decide) _))
theorem E_of {n j : Nat} (h : n < 256 ^ j) : (E n).length ≤ j := (E_le _ _).2 (Nat.lt_of_lt_of_le h (Nat.pow_le_pow_left (by decide) _))
theorem Sm.of {n j : Nat} (h : n < 256 ^ j) (hj : j < 1000000) : Sm n := ⟨Nat.lt_of_le_of_lt (D_of h) hj, Nat.lt_of_le_of_lt (E_of h) hj⟩
theorem Sm.le {m n : Nat} (h : Sm n) (hm : m ≤ n) : Sm m := ⟨Nat.lt_of_le_of_lt (D_mono hm) h.1, Nat.lt_of_le_of_lt (E_mono hm) h.2⟩
theorem Sm.gb {n : Nat} (h : n < GB) : Sm n := Sm.of h (by decide)
theorem Sm.add {a b : Nat} (ha : a < GB) (hb : b < GB) : Sm (a + b) := Sm.of (j := 161) (by
  have : GB + GB ≤ 256 ^ 161 := by decide
  omega) (by decide)
theorem bv_gb {s : ByteArray} (h : gok s = true) : bv s < GB := by
  obtain ⟨n, hn, rfl⟩ := gok_cases h
  rw [bv_bts]; exact hn
theorem cmp_f' {a b : Nat} (ha : Sm a) (hb : Sm b) : Av (fun k => impl_nat_cmp.f k (D a) (D b)) (cmpv a b) := cmp_f a b (by have := ha.1; omega) (by have := hb.1; omega)
theorem cmp_s' {a b : Nat} (ha : Sm a) (hb : Sm b) : Av (fun k => spec_l02Cmp.f k (E a) (E b)) (sgn a b) := cmp_s a b (by have := ha.2; omega) (by have := hb.2; omega)
theorem sgn_neg {a b : Nat} : sgn a b < 0 ↔ a < b := by unfold sgn; repeat' split
                                                        all_goals omega
theorem plus_f' {a b : Nat} (ha : Sm a) (hb : Sm b) : Av (fun k => impl_nat_plus.f k (D a) (D b)) (D (a + b)) := plus_f a b (by have := ha.1; omega) (by have := hb.1; omega)
theorem less_f' {a b : Nat} (ha : Sm a) (h : b ≤ a) : Av (fun k => impl_nat_less.f k (D a) (D b)) (D (a - b)) := less_f a b h (by have := ha.1; omega)
theorem text_f' {a : Nat} (ha : Sm a) : Av (fun k => impl_nat_text.f k (D a)) (bts a) := text_f a (by have := ha.1; omega)
theorem add_s' {a b : Nat} (ha : Sm a) (hb : Sm b) : Av (fun k => spec_l02Add.f k (E a) (E b)) (E (a + b)) := add_s a b (by have := ha.2; omega) (by have := hb.2; omega)
theorem sub_s' {a b : Nat} (ha : Sm a) (h : b ≤ a) : Av (fun k => spec_l02Sub.f k (E a) (E b)) (E (a - b)) := sub_s a b h (by have := ha.2; omega)
theorem out_s' {a : Nat} (ha : Sm a) : Av (fun k => spec_l02Out.f k (E a)) (bts a) := out_s a (by have := ha.2; omega)
/-- Is a's number a rest of p's? -/
def rok (a p : ByteArray) : Bool := gok a && gok p && decide (bv a < bv p)
theorem rok_iff {a p : ByteArray} : rok a p = true ↔ gok a = true ∧ gok p = true ∧ bv a < bv p := by simp [rok, and_assoc]
theorem restok_s (a p : ByteArray) : Av (fun k => spec_RestOk.f k a p) (rok a p) := by
  unfold spec_RestOk.f rok
  refine Av.bindc (gok_s a) ?_
  cases ha : gok a with
  | false => exact Av.ifn (by decide) Av.ret
  | true =>
    refine Av.ifp (by decide) (Av.bindc (gok_s p) ?_)
    cases hp : gok p with
    | false => exact Av.ifn (by decide) Av.ret
    | true =>
      have h1 := gok_size' ha
      have h2 := gok_size' hp
      refine Av.ifp (by decide) (Av.bind (in_s a (by omega)) (Av.bind (in_s p (by omega)) (Av.bind (cmp_s' (Sm.gb (bv_gb ha)) (Sm.gb (bv_gb hp))) (Av.ret' ?_))))
      simp only [Bool.and_self, Bool.true_and]
      exact decide_eq_decide.2 sgn_neg
theorem are_loop (l : List ByteArray) (hl : l.length < 1000000) : ∀ (d i : Nat), l.length - i = d → i ≤ l.length → Av (fun k => impl_areGreat.l0 k l l.length i) ((l.drop i).all gok)
  | 0, i, hd, hi => by
    refine Av.succ ?_
    simp only [impl_areGreat.l0]
    refine Av.ifn (by omega) (Av.ret' ?_)
    rw [List.drop_of_length_le (by omega)]; rfl
  | d + 1, i, hd, hi => by
    have i1 : i < l.length := by omega
    have e1 : wrap64 ((i : Int) + 1) = ((i + 1 : Nat) : Int) := wrap_one (by omega)
    refine Av.succ ?_
    simp only [impl_areGreat.l0, e1]
    have hr : rdOf ByteArray.empty l (i : Int) = l[i] := by
      unfold rdOf
      rw [Int.toNat_natCast, List.getD_eq_getElem?_getD, List.getElem?_eq_getElem i1]; rfl
    refine Av.ifp (by omega) (Av.ifp (by omega) (Av.ifp (by omega) (Av.bindc (gok_f _) ?_)))
    rw [List.drop_eq_getElem_cons i1, List.all_cons, hr]
    cases hg : gok l[i] with
    | false => exact Av.ifn (by decide) Av.ret
    | true => exact Av.ifp (by decide) (by rw [Bool.true_and]; exact are_loop l hl d (i + 1) (by omega) (by omega))
theorem are_f (l : List ByteArray) (hl : l.length < 1000000) : Av (fun k => impl_areGreat.f k l) (l.all gok) := by
  unfold impl_areGreat.f
  have := are_loop l hl l.length 0 (by omega) (by omega)
  rw [List.drop_zero] at this
  exact this
theorem restok_f (a p : ByteArray) : Av (fun k => impl_RestOk.f k a p) (rok a p) := by
  unfold impl_RestOk.f rok
  refine Av.bind (are_f [a, p] (by simp)) ?_
  have e : [a, p].all gok = (gok a && gok p) := by simp
  rw [e]
  cases ha : gok a with
  | false => exact Av.ifn (by simp) Av.ret
  | true =>
    cases hp : gok p with
    | false => exact Av.ifn (by simp) Av.ret
    | true =>
      have h1 := gok_size' ha
      have h2 := gok_size' hp
      refine Av.ifp (by decide) (Av.bind (natOf_f a (by omega)) (Av.bind (natOf_f p (by omega)) (Av.bind (cmp_f' (Sm.gb (bv_gb ha)) (Sm.gb (bv_gb hp))) (Av.ret' ?_))))
      simp only [Bool.and_self, Bool.true_and]
      exact decide_eq_decide.2 cmpv_neg
/-- May p's number be a modulus? -/
def mok (p : ByteArray) : Bool := gok p && decide (1 < bv p)
theorem bts_one : bts 1 = (⟨#[1]⟩ : ByteArray) := by decide +kernel
theorem mod_s (p : ByteArray) : spec_l04Mod.f p = some (mok p) := by
  unfold spec_l04Mod.f mok
  rw [gok_s, Option.bind_some]
  cases hp : gok p with
  | false => rfl
  | true =>
    rw [if_pos rfl]
    obtain ⟨n, hn, rfl⟩ := gok_cases hp
    rw [bv_bts]
    have h0 : (bts n).toList = ([] : List UInt8) ↔ n = 0 := by
      rw [toList_nil_iff, bts_size]
      rw [List.length_eq_zero_iff, dg_nil (by decide)]
    have h1 : (bts n).toList = ([1] : List UInt8) ↔ n = 1 := by
      have e : ([1] : List UInt8) = (bts 1).toList := by rw [toList_data, bts_one]
      rw [e, toList_eq_iff]
      exact ⟨bts_inj, fun h => by rw [h]⟩
    by_cases c0 : n = 0
    · rw [if_pos (h0.2 c0)]
      simp [c0]
    · rw [if_neg (fun h => c0 (h0.1 h))]
      congr 1
      by_cases c1 : n = 1
      · have := h1.2 c1
        simp only [this]
        subst c1; rfl
      · have h2 : ¬ (bts n).toList = ([1] : List UInt8) := fun h => c1 (h1.1 h)
        have h3 : 1 < n := by omega
        simp [h2, h3]
theorem mod_loop (p : ByteArray) (x : List Int) (l : List ByteArray) (hl : l.length < 1000000) : ∀ (d i : Nat), l.length - i = d → i ≤ l.length → Av (fun k => impl_modulus.l0 k p x l l.length i) (if (l.drop i).all (fun s => rok s p) then (x, true) else ([], false))
  | 0, i, hd, hi => by
    refine Av.succ ?_
    simp only [impl_modulus.l0]
    refine Av.ifn (by omega) (Av.ret' ?_)
    rw [List.drop_of_length_le (by omega)]; rfl
  | d + 1, i, hd, hi => by
    have i1 : i < l.length := by omega
    have e1 : wrap64 ((i : Int) + 1) = ((i + 1 : Nat) : Int) := wrap_one (by omega)
    refine Av.succ ?_
    simp only [impl_modulus.l0, e1]
    have hr : rdOf ByteArray.empty l (i : Int) = l[i] := by
      unfold rdOf
      rw [Int.toNat_natCast, List.getD_eq_getElem?_getD, List.getElem?_eq_getElem i1]; rfl
    refine Av.ifp (by omega) (Av.ifp (by omega) (Av.ifp (by omega) (Av.bind (restok_f _ p) ?_)))
    rw [List.drop_eq_getElem_cons i1, List.all_cons, hr]
    cases hg : rok l[i] p with
    | false => exact Av.ifn (by decide) (Av.ret' rfl)
    | true => exact Av.ifp (by decide) (by rw [Bool.true_and]; exact mod_loop p x l hl d (i + 1) (by omega) (by omega))
theorem mod_f (p : ByteArray) (l : List ByteArray) (hp : p.size < 281474976710656) (hl : l.length < 1000000) : Av (fun k => impl_modulus.f k p l) (if mok p && l.all (fun s => rok s p) then (D (bv p), true) else ([], false)) := by
  unfold impl_modulus.f
  have jT : ∀ x, Av (fun k => impl_modulus.j0 k p l x true) ([], false) := fun x => by
    refine Av.succ ?_
    simp only [impl_modulus.j0]
    exact Av.ifp (by decide) Av.ret
  refine Av.bind (natOf_f p hp) (Av.bindc (gok_f p) ?_)
  unfold mok
  cases hg : gok p with
  | false => exact Av.ifn (by decide) (jT _)
  | true =>
    have hs := small_f 1 (by decide)
    refine Av.ifp (by decide) (Av.bind hs (Av.bind (cmp_f' (Sm.gb (bv_gb hg)) (Sm.of (j := 1) (by decide) (by decide))) ?_))
    by_cases h1 : 1 < bv p
    · have h2 := (@cmpv_pos (bv p) 1).2 h1
      rw [decide_eq_false (show ¬ cmpv (bv p) 1 ≤ 0 by omega), decide_eq_true h1]
      refine Av.succ ?_
      simp only [impl_modulus.j0]
      refine Av.ifn (by decide) ?_
      have := mod_loop p (D (bv p)) l hl l.length 0 (by omega) (by omega)
      rw [List.drop_zero] at this
      rw [Bool.true_and, Bool.true_and]
      exact this
    · have h2 : cmpv (bv p) 1 ≤ 0 := by
        have := @cmpv_pos (bv p) 1
        omega
      rw [decide_eq_true h2, decide_eq_false h1]
      exact jT _
theorem add_f {p a b : Nat} (hp : p < GB) (ha : a < p) (hb : b < p) : Av (fun k => impl_prime_add.f k (D p) (D a) (D b)) (D (addm p a b)) := by
  unfold impl_prime_add.f addm
  have sa := Sm.gb (Nat.lt_trans ha hp)
  have sb := Sm.gb (Nat.lt_trans hb hp)
  have sab := Sm.add (Nat.lt_trans ha hp) (Nat.lt_trans hb hp)
  refine Av.bind (plus_f' sa sb) (Av.bind (cmp_f' sab (Sm.gb hp)) ?_)
  have hc := @cmpv_neg (a + b) p
  by_cases h : p ≤ a + b
  · rw [if_pos h]
    exact Av.ifp (by omega) (Av.bind (less_f' sab h) Av.ret)
  · rw [if_neg h]
    exact Av.ifn (by omega) Av.ret
theorem add4_s {p a b : Nat} (hp : p < GB) (ha : a < p) (hb : b < p) : Av (fun k => spec_l04Add.f k (E a) (E b) (E p)) (E (addm p a b)) := by
  unfold spec_l04Add.f addm
  have sa := Sm.gb (Nat.lt_trans ha hp)
  have sb := Sm.gb (Nat.lt_trans hb hp)
  have sab := Sm.add (Nat.lt_trans ha hp) (Nat.lt_trans hb hp)
  refine Av.bind (add_s' sa sb) (Av.bind (cmp_s' sab (Sm.gb hp)) ?_)
  have hc := @sgn_neg (a + b) p
  by_cases h : p ≤ a + b
  · rw [if_pos h]
    exact Av.ifp (by omega) (Av.bind (sub_s' sab h) Av.ret)
  · rw [if_neg h]
    exact Av.ifn (by omega) Av.ret
theorem addm_lt {p a b : Nat} (ha : a < p) (hb : b < p) : addm p a b < p := by unfold addm; split <;> omega
/-- What a function of two rests answers. -/
def two (a b p : ByteArray) (f : Nat → Nat → Nat → Nat) : ByteArray := if mok p && rok a p && rok b p then bts (f (bv p) (bv a) (bv b)) else (⟨#[]⟩ : ByteArray)
theorem szpair_some (a b : ByteArray) (n : Int) : ∃ t, laws_szPair.f a b n = some t := by
  unfold laws_szPair.f
  by_cases h : wrap64 (n - (a.size : Int)) < 0
  · rw [if_pos h]; exact ⟨_, rfl⟩
  · rw [if_neg h]
    by_cases h2 : wrap64 (wrap64 (n - (a.size : Int)) - (b.size : Int)) < 0
    · rw [if_pos h2]; exact ⟨_, rfl⟩
    · rw [if_neg h2]; exact ⟨_, rfl⟩
/-- Is it a pair of rests? -/
def pok (a b p : ByteArray) : Bool := mok p && rok a p && rok b p
theorem pairok_s (a b p : ByteArray) : Av (fun k => spec_PairOk.f k a b p) (pok a b p) := by
  unfold spec_PairOk.f pok
  refine Av.bindc (mod_s p) ?_
  cases mok p with
  | false => exact Av.ifn (by decide) Av.ret
  | true =>
    refine Av.ifp (by decide) (Av.bind (restok_s a p) ?_)
    cases rok a p with
    | false => exact Av.ifn (by decide) Av.ret
    | true => exact Av.ifp (by decide) (Av.bind (restok_s b p) Av.ret)
/-- What pairs tells of one pair. -/
def prs (a b p : ByteArray) : List Int × Bool := if mok p then (D (bv p), rok a p && rok b p) else ([], false)
theorem prs_snd (a b p : ByteArray) : (prs a b p).2 = pok a b p := by
  unfold prs pok
  cases mok p <;> simp
theorem pairs_f (a b p : ByteArray) (hp : p.size < 281474976710656) : Av (fun k => impl_pairs.f k p [(⟨a, b⟩ : S34)]) (prs a b p) := by
  unfold impl_pairs.f
  have hmod := mod_f p [] hp (by simp)
  have e : (mok p && ([] : List ByteArray).all (fun s => rok s p)) = mok p := by simp
  rw [e] at hmod
  refine Av.bind hmod ?_
  have rd0 : rd_T34 [(⟨a, b⟩ : S34)] 0 = ⟨a, b⟩ := rfl
  have w1 : wrap64 (0 + 1) = 1 := wr (by decide) (by decide)
  have fin : ∀ x y, Av (fun k => impl_pairs.l0 k p x y [(⟨a, b⟩ : S34)] (([(⟨a, b⟩ : S34)].length : Nat) : Int) 1) (x, y) := by
    intro x y
    refine Av.succ ?_
    simp only [impl_pairs.l0]
    exact Av.ifn (by simp) Av.ret
  unfold prs
  refine Av.succ ?_
  simp only [impl_pairs.l0, rd0, w1]
  refine Av.ifp (by simp) (Av.ifp (by decide) (Av.ifp (by simp) ?_))
  cases hm : mok p with
  | false => exact Av.ifn (by simp) (fin _ _)
  | true =>
    refine Av.ifp rfl (Av.bind (restok_f a p) ?_)
    cases ha : rok a p with
    | false => exact Av.ifn (by decide) (fin _ _)
    | true => exact Av.ifp rfl (Av.bind (restok_f b p) (fin _ _))
theorem and32 {x : Int} (h0 : 0 ≤ x) (h1 : x < 18446744073709551616) : Go.bits .and .u64 x 4294967295 = x % 4294967296 :=
  bits_mask .u64 64 (by decide) (fun n h0 h1 => ur h0 (by simpa using h1)) 32 (by decide) x h0 (by simpa using h1)
theorem mul_lt {a b B : Nat} (ha : a < B) (hb : b < B) : a * b ≤ (B - 1) * (B - 1) := Nat.mul_le_mul (by omega) (by omega)
theorem ring_mul (a b c d H : Nat) : (H * a + b) * (H * c + d) = a * c * (H * H) + (a * d + b * c) * H + b * d := by grind
theorem ring_mac (v x w P Q c y o W q : Int) : v + x * w * P - c * (P * Q) + (x * y + o + c - W * q - o) * (P * Q) = v + x * (w + y * Q) * P - q * (P * Q * W) := by grind
theorem mul64 (x y : Nat) (hx : x < 18446744073709551616) (hy : y < 18446744073709551616) : bits_Mul64.f x y = some (((x * y / 18446744073709551616 : Nat) : Int), ((x * y % 18446744073709551616 : Nat) : Int)) := by
  unfold bits_Mul64.f
  have ex := Nat.div_add_mod x 4294967296
  have ey := Nat.div_add_mod y 4294967296
  have c1 : (x : Int) / 4294967296 = ((x / 4294967296 : Nat) : Int) := by omega
  have c2 : (y : Int) / 4294967296 = ((y / 4294967296 : Nat) : Int) := by omega
  have c3 : (x : Int) % 4294967296 = ((x % 4294967296 : Nat) : Int) := by omega
  have c4 : (y : Int) % 4294967296 = ((y % 4294967296 : Nat) : Int) := by omega
  rw [and32 (x := (x : Int)) (by omega) (by omega), and32 (x := (y : Int)) (by omega) (by omega), c1, c2, c3, c4]
  have hx1 : x / 4294967296 < 4294967296 := by omega
  have hy1 : y / 4294967296 < 4294967296 := by omega
  have hx0 : x % 4294967296 < 4294967296 := by omega
  have hy0 : y % 4294967296 < 4294967296 := by omega
  generalize x / 4294967296 = x1 at *
  generalize y / 4294967296 = y1 at *
  generalize x % 4294967296 = x0 at *
  generalize y % 4294967296 = y0 at *
  have p11 := mul_lt hx1 hy1
  have p10 := mul_lt hx1 hy0
  have p01 := mul_lt hx0 hy1
  have p00 := mul_lt hx0 hy0
  have exy : x * y = x1 * y1 * 18446744073709551616 + (x1 * y0 + x0 * y1) * 4294967296 + x0 * y0 := by
    rw [← ex, ← ey]; exact ring_mul x1 x0 y1 y0 4294967296
  simp only [← Int.natCast_mul]
  rw [exy]
  generalize x1 * y1 = A at *
  generalize x1 * y0 = Bq at *
  generalize x0 * y1 = Cq at *
  generalize x0 * y0 = Dq at *
  clear ex ey c1 c2 c3 c4 exy hx hy hx1 hy1 hx0 hy0
  have d0 : (Dq : Int) / 4294967296 = ((Dq / 4294967296 : Nat) : Int) := by omega
  have q0 := Nat.div_add_mod Dq 4294967296
  have r0 : Dq % 4294967296 < 4294967296 := Nat.mod_lt _ (by decide)
  rw [ur (x := (Dq : Int)) (by omega) (by omega), d0]
  generalize Dq / 4294967296 = u at *
  generalize Dq % 4294967296 = u0 at *
  have d1 : (Bq : Int) + u = ((Bq + u : Nat) : Int) := by omega
  rw [ur (x := (Bq : Int)) (by omega) (by omega), d1, ur (x := ((Bq + u : Nat) : Int)) (by omega) (by omega), and32 (x := ((Bq + u : Nat) : Int)) (by omega) (by omega)]
  have d2 : ((Bq + u : Nat) : Int) / 4294967296 = (((Bq + u) / 4294967296 : Nat) : Int) := by omega
  have d3 : ((Bq + u : Nat) : Int) % 4294967296 = (((Bq + u) % 4294967296 : Nat) : Int) := by omega
  have q1 := Nat.div_add_mod (Bq + u) 4294967296
  have r1 : (Bq + u) % 4294967296 < 4294967296 := Nat.mod_lt _ (by decide)
  rw [d2, d3]
  generalize (Bq + u) / 4294967296 = w2 at *
  generalize (Bq + u) % 4294967296 = w1 at *
  have d4 : (w1 : Int) + Cq = ((w1 + Cq : Nat) : Int) := by omega
  rw [ur (x := (Cq : Int)) (by omega) (by omega), d4, ur (x := ((w1 + Cq : Nat) : Int)) (by omega) (by omega)]
  have d5 : ((w1 + Cq : Nat) : Int) / 4294967296 = (((w1 + Cq) / 4294967296 : Nat) : Int) := by omega
  have q2 := Nat.div_add_mod (w1 + Cq) 4294967296
  have r2 : (w1 + Cq) % 4294967296 < 4294967296 := Nat.mod_lt _ (by decide)
  rw [d5]
  generalize (w1 + Cq) / 4294967296 = z at *
  generalize (w1 + Cq) % 4294967296 = z0 at *
  have e : A * 18446744073709551616 + (Bq + Cq) * 4294967296 + Dq = 18446744073709551616 * (A + w2 + z) + (4294967296 * z0 + u0) := by omega
  have h1 : (A * 18446744073709551616 + (Bq + Cq) * 4294967296 + Dq) / 18446744073709551616 = A + w2 + z := by
    rw [e, Nat.mul_add_div (by decide), Nat.div_eq_of_lt (by omega)]; rfl
  have h2 : A + w2 + z < 18446744073709551616 := by omega
  rw [h1, ur (x := (A : Int)) (by omega) (by omega), ur (x := (A : Int) + w2) (by omega) (by omega), ur (x := (A : Int) + w2 + z) (by omega) (by omega), uw]
  rfl
theorem lin_mac (W hi lo xy o c s1 c1 s2 c2 : Int) (e0 : W * hi + lo = xy) (e1 : s1 = lo + o + 0 - W * c1) (e2 : s2 = s1 + c + 0 - W * c2) : s2 = xy + o + c - W * (hi + c1 + c2) := by grind
theorem lt_mac (W q S s : Int) (hW : 0 ≤ W) (e : s = S - W * q) (hs : 0 ≤ s) (hS : S < W * W) : q < W := by
  rcases Int.lt_or_le q W with h | h
  · exact h
  · have := Int.mul_le_mul_of_nonneg_left h hW
    omega
end Go.Proofs.Ytghhnjhjhjbljaa.C
