/- Words and contracts that the laws of this claim lean on: numbers as limbs, and what the functions make of them. Conditions: those named in each theorem. -/
import Derived.Test.YtghhnjhjhjbljaaVOOwnWords
import Derived.Test.YtghhnjhjhjbljaaYO3
import Derived.Test.YtghhnjhjhjbljaaZO1
import Derived.Test.YtghhnjhjhjbljaaZO5
import Derived.Test.YtghhnjhjhjbljaaZO6
import Derived.Test.YtghhnjhjhjbljaaZO7
import Derived.Test.YtghhnjhjhjbljaaZO8
import Derived.Test.YtghhnjhjhjbljaaZO9
set_option linter.unusedVariables false
set_option linter.unusedSimpArgs false
set_option maxRecDepth 100000
namespace Go.Proofs.Ytghhnjhjhjbljaa.C
open Go.RowKit Go.Proofs.YtghhnjhjhjbljaaW.PrintWords Go.Proofs.YtghhnjhjhjbljaaW.PrintLast Go.Proofs.YtghhnjhjhjbljaaW.PrintMore
open Go.Proofs.Ytghhnjhjhjbljaa.M Go.Proofs.Ytghhnjhjhjbljaa.F
theorem o1_s {A V n s Lu Lq : Nat} {vl' : List Int} (hs : s ≤ 63) (hn : 2 ≤ n) (hV : Vl64 vl' n V) (hV1 : 18446744073709551616 ^ (n - 1) ≤ V) (hLu : Lu < 17592186044416) : ∀ (m U t : Nat) (u q : List Int), Dv 18446744073709551616 A V m U (t * 18446744073709551616 ^ m) → Rp 18446744073709551616 u Lu U → Rp 18446744073709551616 q Lq (t * 18446744073709551616 ^ m) → m ≤ Lq → m + n ≤ Lu → Lq < 17592186044416 →
    Av (fun k => impl_nat_over.l1 k n s u vl' q ((m : Int) - 1)) (D (A / V), D (A % V / 2 ^ s))
  | 0, U, t, u, q, hD, hu, hq, hm, hmn, hLq => by
    have hV0 : 0 < V := Nat.lt_of_lt_of_le (Nat.pow_pos (by decide)) hV1
    obtain ⟨h1, h2⟩ := hD.done hV0
    have hUV : U < V := by have := hD.lt; simpa using this
    have hUn : U < 18446744073709551616 ^ n := Nat.lt_trans hUV hV.lt
    have hup : Upto 18446744073709551616 u u.length U := ⟨hu.digs, hu.val, fun k hk => by rw [List.getD_eq_getElem?_getD, List.getElem?_eq_none hk]; rfl⟩
    have hun := Upto.less (by decide) hup hUn
    have hnu : n ≤ u.length := by rw [hu.len]; omega
    obtain ⟨hd, hv⟩ := take_upto (by decide) hun hnu
    have hlen : (D U).length < 17592186044416 := Nat.lt_of_le_of_lt ((D_le n U).2 hUn) (by omega)
    rw [← h1, ← h2]
    refine Av.succ ?_
    simp only [impl_nat_over.l1, Int.toNat_natCast]
    refine Av.ifn (by omega) (Av.bind (trim_f' hq.digs (by rw [hq.len]; omega) hq.val) (Av.ifp (Int.natCast_nonneg _) (Av.ifp (Int.ofNat_le.2 hnu) ?_)))
    exact Av.bind (trim_f' hd (by rw [List.length_take]; omega) hv) (Av.bind (down_f U s (Nat.lt_succ_of_le hs) hlen) Av.ret)
  | m + 1, U, t, u, q, hD, hu, hq, hm, hmn, hLq => by
    have hV2 := hV.lt
    have hV0 : 0 < V := Nat.lt_of_lt_of_le (Nat.pow_pos (by decide)) hV1
    have hjn : m + n < Lu := by omega
    have hmq : m < Lq := by omega
    have hjn' : m + n < u.length := by rw [hu.len]; exact hjn
    have j1 : m + n < 4611686018427387904 := by omega
    have j2 : 1 ≤ m + n := by omega
    have j2' : 2 ≤ m + n := by omega
    have j3 : 1 ≤ n := by omega
    have j4 : n < 4611686018427387904 := by omega
    have j5 : ((m + n : Nat) : Int) < u.length := Int.ofNat_lt.2 hjn'
    have j6 : ((m + n - 1 : Nat) : Int) < u.length := Int.ofNat_lt.2 (by omega)
    have j6' : ((m + n - 2 : Nat) : Int) < u.length := Int.ofNat_lt.2 (by omega)
    have j7 : ((n - 1 : Nat) : Int) < vl'.length := by rw [hV.len]; omega
    have j7' : ((n - 2 : Nat) : Int) < vl'.length := by rw [hV.len]; omega
    have j8 : ((m + 1 : Nat) : Int) - 1 = (m : Int) := by omega
    have j9 : n - 1 < n := by omega
    have j10 : n - 2 < n := by omega
    have hU : U < 18446744073709551616 ^ (m + n + 1) := by
      have h1 := hD.lt
      have h2 : V * 18446744073709551616 ^ (m + 1) ≤ 18446744073709551616 ^ n * 18446744073709551616 ^ (m + 1) := Nat.mul_le_mul_right _ (Nat.le_of_lt hV2)
      rw [← Nat.pow_add, show n + (m + 1) = m + n + 1 by omega] at h2
      exact Nat.lt_of_lt_of_le h1 h2
    obtain ⟨g1, g2, g3, g4, g5, g6⟩ := hD.guess (n := n) (by decide) hn hV1 hV2 rfl rfl rfl rfl rfl
    have hdig := hD.digit (by decide) hV0
    have hstep := hD.step (by decide) hV0
    have hvB : V / 18446744073709551616 ^ (n - 1) % 18446744073709551616 < 18446744073709551616 := Nat.mod_lt _ (by decide)
    have hxB : U / 18446744073709551616 ^ (m + n) % 18446744073709551616 < 18446744073709551616 := Nat.mod_lt _ (by decide)
    have hyB : U / 18446744073709551616 ^ (m + n - 1) % 18446744073709551616 < 18446744073709551616 := Nat.mod_lt _ (by decide)
    have rx := rdn (hu.get (by decide) (m + n))
    have ry := rdn (hu.get (by decide) (m + n - 1))
    have rz := rdn (hu.get (by decide) (m + n - 2))
    have rv := hV.get (n - 1) j9
    have rw_ := hV.get (n - 2) j10
    have hqh : qh 18446744073709551616 ((U / 18446744073709551616 ^ (m + n) % 18446744073709551616 * 18446744073709551616 + U / 18446744073709551616 ^ (m + n - 1) % 18446744073709551616) * 18446744073709551616 + U / 18446744073709551616 ^ (m + n - 2) % 18446744073709551616) (V / 18446744073709551616 ^ (n - 1) % 18446744073709551616 * 18446744073709551616 + V / 18446744073709551616 ^ (n - 2) % 18446744073709551616) < 18446744073709551616 := Nat.lt_of_le_of_lt qh_le (by decide)
    have hp := hq.put (by decide) hmq hdig
    have hsum : t * 18446744073709551616 ^ (m + 1) + U / 18446744073709551616 ^ m / V * 18446744073709551616 ^ m = (t * 18446744073709551616 + U / 18446744073709551616 ^ m / V) * 18446744073709551616 ^ m := by
      rw [Nat.pow_succ, Nat.add_mul, Nat.mul_comm (18446744073709551616 ^ m) 18446744073709551616, Nat.mul_assoc]
    rw [hsum] at hstep
    generalize U / 18446744073709551616 ^ (m + n) % 18446744073709551616 = x at *
    generalize U / 18446744073709551616 ^ (m + n - 1) % 18446744073709551616 = y at *
    generalize U / 18446744073709551616 ^ (m + n - 2) % 18446744073709551616 = z at *
    generalize V / 18446744073709551616 ^ (n - 1) % 18446744073709551616 = v at *
    generalize V / 18446744073709551616 ^ (n - 2) % 18446744073709551616 = w at *
    have w1 : wrap64 ((n : Int) - 1) = ((n - 1 : Nat) : Int) := wrap_pred j4 j3
    have w2 : wrap64 ((n : Int) - 2) = ((n - 2 : Nat) : Int) := wrap_less (b := 2) j4 hn
    have w3 : wrap64 ((m : Int) + n) = ((m + n : Nat) : Int) := wrap_add j1
    have w4 : wrap64 (((m + n : Nat) : Int) - 1) = ((m + n - 1 : Nat) : Int) := wrap_pred j1 j2
    have w5 : wrap64 (((m + n : Nat) : Int) - 2) = ((m + n - 2 : Nat) : Int) := wrap_less (b := 2) j1 j2'
    have hdg := digit_f (x := x) (y := y) (z := z) (v := v) (w := w) g1 hvB g2 hxB hyB g3 g4
    refine Av.succ ?_
    rw [j8]
    simp only [impl_nat_over.l1, w1, w2, w3, w4, w5, rx, ry, rz, rv, rw_]
    refine Av.ifp (Int.natCast_nonneg _) (Av.ifp (Int.natCast_nonneg _) (Av.ifp j5 (Av.ifp (Int.natCast_nonneg _) (Av.ifp j6 (Av.ifp (Int.natCast_nonneg _) (Av.ifp j6' (Av.ifp (Int.natCast_nonneg _) (Av.ifp j7 (Av.ifp (Int.natCast_nonneg _) (Av.ifp j7' (Av.bind hdg ?_)))))))))))
    refine dstep_f hV0 hV hjn hLu hu hU hq.len hmq hqh g5 g6 ?_
    intro u' hu'
    exact o1_s hs hn hV hV1 hLu m _ _ u' _ hstep hu' hp (Nat.le_of_lt hmq) (Nat.le_of_lt hjn) hLq
theorem fx_take {B n V : Nat} (h : V < B ^ n) (hB : B = 18446744073709551616) : Vl64 ((fx B (n + 1) V).take n) n V := by
  subst hB
  refine ⟨by rw [List.length_take, fx_length]; omega, fun i hi => ?_, h⟩
  unfold rd
  rw [Int.toNat_natCast, List.getD_eq_getElem?_getD, List.getElem?_take, if_pos hi, ← List.getD_eq_getElem?_getD, fx_getD (by omega)]
theorem over_f (a b : Nat) (hb0 : 0 < b) (ha : (D a).length < 17592186044415) (hb : (D b).length < 17592186044415) : Av (fun k => impl_nat_over.f k (D a) (D b)) (D (a / b), D (a % b)) := by
  unfold impl_nat_over.f
  refine Av.bind (cmp_f a b (by omega) (by omega)) ?_
  have hc := @cmpv_neg a b
  by_cases h : a < b
  · refine Av.ifp (hc.2 h) (Av.ret' ?_)
    rw [Nat.div_eq_of_lt h, Nat.mod_eq_of_lt h, D_zero]
  · refine Av.ifn (fun h2 => h (hc.1 h2)) ?_
    have hab : b ≤ a := Nat.le_of_not_lt h
    have hnl := D_mono hab
    have hpos : 0 < (D b).length := (D_lt 0 b).2 (by rw [Nat.pow_zero]; exact hb0)
    by_cases h1 : (D b).length = 1
    · have hbW : b < 18446744073709551616 := by
        have := (D_le 1 b).1 (Nat.le_of_eq h1); rw [Nat.pow_one] at this; exact this
      refine Av.ifp (by rw [h1]; rfl) (Av.ifp (Int.natCast_nonneg _) (Av.ifp (by omega) ?_))
      rw [Int.toNat_natCast]
      have hlt : a < 18446744073709551616 ^ (D a).length := (D_le _ a).1 (Nat.le_refl _)
      have hz := Rp.zeros (B := 18446744073709551616) (by decide) (D a).length
      have h2 := over0_loop a b hb0 hbW (Nat.lt_succ_of_lt ha) (D a).length (List.replicate (D a).length 0) (Nat.le_refl _) (by rw [Nat.div_eq_of_lt hlt]; simpa using hz)
      rw [Nat.div_eq_of_lt hlt] at h2
      have hw : wrap64 (((D a).length : Int) - 1) = ((D a).length : Int) - 1 := wr (by omega) (by omega)
      rw [hw]
      simpa using h2
    · have hn2 : 2 ≤ (D b).length := by omega
      have hV1 : 18446744073709551616 ^ ((D b).length - 1) ≤ b := (D_lt _ b).1 (by omega)
      have hV2 : b < 18446744073709551616 ^ (D b).length := (D_le _ b).1 (Nat.le_refl _)
      generalize hne : (D b).length = n at *
      have j1 : ¬ ((n : Nat) : Int) = 1 := by omega
      have j3 : 1 ≤ n := by omega
      have j4 : n < 4611686018427387904 := by omega
      have j5 : (D a).length < 4611686018427387904 := by omega
      have j6 : (D a).length - n < 4611686018427387904 := by omega
      have j7 : ((n - 1 : Nat) : Int) < n := by omega
      have j8 : (n - 1).succ = n := by omega
      have j9 : n ≤ n + 1 := by omega
      have j10 : (D a).length - n + 1 ≤ 35184372088832 := by omega
      have j11 : (((D a).length - n : Nat) : Int) = (((D a).length - n + 1 : Nat) : Int) - 1 := by omega
      have j12 : (D a).length < 35184372088831 := by omega
      have j13 : n < 35184372088831 := by omega
      have j14 : (D a).length + 1 < 17592186044416 := by omega
      have j15 : (D a).length - n + 1 < 17592186044416 := by omega
      have j16 : (D a).length - n + 1 + n ≤ (D a).length + 1 := by omega
      have htop : b / 18446744073709551616 ^ (n - 1) < 18446744073709551616 := by
        rw [Nat.div_lt_iff_lt_mul (Nat.pow_pos (by decide)), Nat.mul_comm, ← Nat.pow_succ, j8]; exact hV2
      have htop0 : 0 < b / 18446744073709551616 ^ (n - 1) := Nat.div_pos hV1 (Nat.pow_pos (by decide))
      have rt := rdD b (n - 1)
      rw [Nat.mod_eq_of_lt htop] at rt
      obtain ⟨s, s1, s2, s3, s4⟩ := norm_of htop0 htop
      have hlz := lz_f _ htop
      have hs64 : (64 : Int) - (nb (b / 18446744073709551616 ^ (n - 1)) : Int) = (s : Int) := by rw [s2]; clear hlz rt; omega
      rw [hs64] at hlz
      have hP : 0 < 2 ^ s := Nat.pow_pos (by decide)
      have hVlt : b * 2 ^ s < 18446744073709551616 ^ n := by
        rw [Nat.div_lt_iff_lt_mul (Nat.pow_pos (by decide))] at s3
        have h5 := Nat.mul_lt_mul_of_pos_right s3 hP
        have e : 2 ^ (64 - s) * 18446744073709551616 ^ (n - 1) * 2 ^ s = 18446744073709551616 ^ n := by
          have e1 : 2 ^ (64 - s) * 18446744073709551616 ^ (n - 1) * 2 ^ s = 2 ^ (64 - s) * 2 ^ s * 18446744073709551616 ^ (n - 1) := by grind
          rw [e1, ← Nat.pow_add, show 64 - s + s = 64 by omega, ← W64, Nat.mul_comm, ← Nat.pow_succ, j8]
        rw [e] at h5; exact h5
      have hVge : 18446744073709551616 ^ (n - 1) ≤ b * 2 ^ s := Nat.le_trans hV1 (Nat.le_mul_of_pos_right _ hP)
      have hAl : a < 18446744073709551616 ^ (D a).length := (D_le _ a).1 (Nat.le_refl _)
      have hAlt : a * 2 ^ s < 18446744073709551616 ^ ((D a).length + 1) := by
        have h5 := Nat.mul_lt_mul_of_pos_right hAl hP
        have h6 : 2 ^ s ≤ 18446744073709551616 := by
          have : 2 ^ s ≤ 2 ^ 64 := Nat.pow_le_pow_right (by decide) (Nat.le_trans s1 (by decide))
          exact this
        rw [Nat.pow_succ]
        exact Nat.lt_of_lt_of_le h5 (Nat.mul_le_mul_left _ h6)
      have hua := fx_upto (B := 18446744073709551616) (by decide) (L := (D a).length + 1) (n := a * 2 ^ s) (k := (D a).length + 1) hAlt (Nat.le_refl _)
      have hAV : a * 2 ^ s < b * 2 ^ s * 18446744073709551616 ^ ((D a).length - n + 1) := by
        have h5 := Nat.mul_lt_mul_of_pos_right hAl hP
        have h6 : 18446744073709551616 ^ (D a).length = 18446744073709551616 ^ (n - 1) * 18446744073709551616 ^ ((D a).length - n + 1) := by
          rw [← Nat.pow_add]; congr 1; clear rt hlz hs64; omega
        rw [h6] at h5
        have h7 : 18446744073709551616 ^ (n - 1) * 18446744073709551616 ^ ((D a).length - n + 1) * 2 ^ s ≤ b * 18446744073709551616 ^ ((D a).length - n + 1) * 2 ^ s := Nat.mul_le_mul_right _ (Nat.mul_le_mul_right _ hV1)
        have e : b * 18446744073709551616 ^ ((D a).length - n + 1) * 2 ^ s = b * 2 ^ s * 18446744073709551616 ^ ((D a).length - n + 1) := by grind
        rw [e] at h7
        exact Nat.lt_of_lt_of_le h5 h7
      have hD : Dv 18446744073709551616 (a * 2 ^ s) (b * 2 ^ s) ((D a).length - n + 1) (a * 2 ^ s) (0 * 18446744073709551616 ^ ((D a).length - n + 1)) := by rw [Nat.zero_mul]; exact Dv.start hAV
      have hz := Rp.zeros (B := 18446744073709551616) (by decide) ((D a).length - n + 1)
      have key := o1_s (s := s) s1 hn2 (fx_take hVlt rfl) hVge j14 ((D a).length - n + 1) (a * 2 ^ s) 0 (fx 18446744073709551616 ((D a).length + 1) (a * 2 ^ s)) (List.replicate ((D a).length - n + 1) 0) hD ⟨fx_length _ _ _, hua.digs, hua.val⟩ (by rw [Nat.zero_mul]; exact hz) (Nat.le_refl _) j16 j15
      have ed : a * 2 ^ s / (b * 2 ^ s) = a / b := Nat.mul_div_mul_right _ _ hP
      have em : a * 2 ^ s % (b * 2 ^ s) / 2 ^ s = a % b := by
        rw [Nat.mul_mod_mul_right, Nat.mul_div_cancel _ hP]
      rw [ed, em] at key
      have w1 : wrap64 ((n : Int) - 1) = ((n - 1 : Nat) : Int) := wrap_pred j4 j3
      have w2 : wrap64 (((D a).length : Int) - (n : Int)) = (((D a).length - n : Nat) : Int) := wrap_less j5 hnl
      have w3 : wrap64 ((((D a).length - n : Nat) : Int) + 1) = (((D a).length - n + 1 : Nat) : Int) := wrap_one j6
      refine Av.ifn j1 ?_
      have hupb := up_f b s s1 (by rw [hne]; exact j13)
      rw [hne] at hupb
      simp only [w1, w2, w3, rt]
      refine Av.ifp (Int.natCast_nonneg _) (Av.ifp j7 (Av.bind hlz (Av.bind (up_f a s s1 j12) (Av.bind hupb (Av.ifp (Int.natCast_nonneg _) (Av.ifp (by rw [fx_length]; exact Int.ofNat_le.2 j9) (Av.ifp (Int.natCast_nonneg _) (Av.ifp (by rw [Int.toNat_natCast]; exact j10) ?_))))))))
      rw [Int.toNat_natCast, Int.toNat_natCast, j11]
      exact key
theorem below_mul {p z Q S : Nat} (hp : p < Q) (hz : z % Q = 0) (h : z < Q * S) : p + z < Q * S := by
  obtain ⟨c, rfl⟩ := Nat.dvd_of_mod_eq_zero hz
  have h1 : c < S := Nat.lt_of_mul_lt_mul_left h
  have h2 := Nat.mul_le_mul_left Q h1
  rw [Nat.mul_succ] at h2
  omega
theorem W24 : (16777216 : Nat) = 2 ^ 24 := rfl
theorem shl_i64' {y t : Nat} (ht : t ≤ 24) (hy : y < 16777216) : shl .i64 (y : Int) (t : Int) = ((y * 2 ^ t : Nat) : Int) := by
  have h2 : 2 ^ t ≤ 16777216 := by
    have : 2 ^ t ≤ 2 ^ 24 := Nat.pow_le_pow_right (by decide) ht
    omega
  have h3 : y * 2 ^ t ≤ 16777215 * 16777216 := Nat.mul_le_mul (by omega) h2
  unfold shl
  rw [Int.toNat_natCast, Nat.min_eq_left (show t ≤ IntKind.i64.bits from Nat.le_trans ht (by decide)), i64_w]
  have e : (2 : Int) ^ t = ((2 ^ t : Nat) : Int) := by simp
  rw [e, ← Int.natCast_mul]
  generalize y * 2 ^ t = z at *
  exact wr (by omega) (by omega)
theorem down24 {x y s : Nat} (hs : s ≤ 23) (hx : x < 16777216) (hy : y < 16777216) : Go.bits .and .i64 (Go.bits .or .i64 (shr .i64 (x : Int) (s : Int)) (shl .i64 (y : Int) ((24 - s : Nat) : Int))) 16777215 = ((x / 2 ^ s + y * 2 ^ (24 - s) % 16777216 : Nat) : Int) := by
  have h1 := down_lt (t := 24) (s := s) (x := x) (by omega) (by rw [← W24]; exact hx)
  have h2 : y * 2 ^ (24 - s) % 2 ^ (24 - s) = 0 := Nat.mul_mod_left _ _
  have h3 := down_dvd (t := 24) (s := s) (y := y) (by omega)
  have h4 : y * 2 ^ (24 - s) < 281474976710656 := by
    have h5 : 2 ^ (24 - s) ≤ 16777216 := by
      have : 2 ^ (24 - s) ≤ 2 ^ 24 := Nat.pow_le_pow_right (by decide) (by omega)
      omega
    have h6 : y * 2 ^ (24 - s) ≤ 16777215 * 16777216 := Nat.mul_le_mul (by omega) h5
    omega
  have h7 : y * 2 ^ (24 - s) % 16777216 < 2 ^ (24 - s) * 2 ^ s := by
    rw [← Nat.pow_add, show 24 - s + s = 24 by omega, ← W24]
    exact Nat.mod_lt _ (by decide)
  rw [← W24] at h3
  have h8 := below_mul h1 h3 h7
  rw [← Nat.pow_add, show 24 - s + s = 24 by omega, ← W24] at h8
  rw [shr_nat (k := .i64) (Nat.le_trans hs (by decide)), shl_i64' (by omega) hy]
  have hc : Go.bits .or .i64 ((x / 2 ^ s : Nat) : Int) ((y * 2 ^ (24 - s) : Nat) : Int) = Go.bits .or .i64 ((y * 2 ^ (24 - s) : Nat) : Int) ((x / 2 ^ s : Nat) : Int) := by simp only [Go.bits, BitVec.or_comm]
  rw [hc, or_low h4 h2 h1 (by omega), and24]
  generalize y * 2 ^ (24 - s) = z at *
  generalize x / 2 ^ s = p at *
  clear h1 h2 h3 h7 hc
  omega
theorem down_dig24 (a i s : Nat) (hs : s ≤ 23) : a / 2 ^ s / 16777216 ^ i % 16777216 = a / 16777216 ^ i % 16777216 / 2 ^ s + a / 16777216 ^ (i + 1) % 16777216 * 2 ^ (24 - s) % 16777216 := by
  have h := dig_shift (t := 24) (s := s) (by omega) (a / 16777216 ^ i)
  rw [← W24, Nat.div_div_eq_div_mul, Nat.div_div_eq_div_mul] at h
  rw [Nat.div_div_eq_div_mul, Nat.mul_comm (2 ^ s), h, Nat.pow_succ]
theorem l6_s {U n s Lu Q Lq : Nat} {u q : List Int} (hs : s ≤ 23) (hu : Rp 16777216 u Lu U) (hn : n < Lu) (hLu : Lu < 17592186044416) (hq : Rp 16777216 q Lq Q) (hLq : Lq < 17592186044416) (hlt : U / 2 ^ s < 16777216 ^ n) :
    ∀ (d i : Nat) (l : List Int), n - i = d → i ≤ n → l.length = n → (∀ j, j < i → l.getD j 0 = ((U / 2 ^ s / 16777216 ^ j % 16777216 : Nat) : Int)) → Av (fun k => spec_l02Div.l6 k n s u q l i) (E Q, E (U / 2 ^ s))
  | 0, i, l, hd, hi, hl, h => by
    obtain rfl : i = n := by omega
    refine Av.succ ?_
    simp only [spec_l02Div.l6]
    refine Av.ifn (Int.lt_irrefl _) (Av.bind (trim_s' hq.digs (by rw [hq.len]; omega) hq.val) (Av.bind (trim_s' (n := U / 2 ^ s) ?_ (by rw [hl]; omega) (vl_of_getD (by decide) (by rw [hl]; exact hlt) (fun j hj => h j (by rw [← hl]; exact hj)))) Av.ret))
    intro x hx
    obtain ⟨j, hj, rfl⟩ := List.getElem_of_mem hx
    have h1 := h j (by rw [← hl]; exact hj)
    rw [List.getD_eq_getElem?_getD, List.getElem?_eq_getElem hj] at h1
    simp only [Option.getD_some] at h1
    rw [h1]
    exact below_nat (Nat.mod_lt _ (by decide))
  | d + 1, i, l, hd, hi, hl, h => by
    have i1 : (i : Int) < n := by omega
    have i2 : n - (i + 1) = d := by omega
    have i3 : i + 1 ≤ n := by omega
    have i4 : i < l.length := by omega
    have i5 : (i : Int) < l.length := Int.ofNat_lt.2 i4
    have i6 : (i : Int) < u.length := by rw [hu.len]; omega
    have i7 : ((i + 1 : Nat) : Int) < u.length := by rw [hu.len]; omega
    have i8 : i < 4611686018427387904 := by omega
    have hx : U / 16777216 ^ i % 16777216 < 16777216 := Nat.mod_lt _ (by decide)
    have hy : U / 16777216 ^ (i + 1) % 16777216 < 16777216 := Nat.mod_lt _ (by decide)
    have r1 := rdn (hu.get (by decide) i)
    have r2 := rdn (hu.get (by decide) (i + 1))
    have e1 : wrap64 ((i : Int) + 1) = ((i + 1 : Nat) : Int) := wrap_one i8
    have es : IntKind.u64.wrap (24 - (s : Int)) = ((24 - s : Nat) : Int) := by clear i1 i5 i6 i7 r1 r2 e1; rw [ur (by omega) (by omega)]; omega
    refine Av.succ ?_
    simp only [spec_l02Div.l6, e1, es, r1, r2, Int.toNat_natCast]
    rw [down24 hs hx hy, ← down_dig24 U i s hs]
    refine Av.ifp i1 (Av.ifp (Int.natCast_nonneg _) (Av.ifp i6 (Av.ifp (Int.natCast_nonneg _) (Av.ifp (Int.natCast_nonneg _) (Av.ifp i7 (Av.ifp (Int.natCast_nonneg _) (Av.ifp i5 ?_)))))))
    refine l6_s hs hu hn hLu hq hLq hlt d (i + 1) _ i2 i3 (by rw [List.length_set]; exact hl) ?_
    intro j hj
    rw [getD_set i4]
    by_cases hij : i = j
    · subst hij; rw [if_pos rfl]
    · rw [if_neg hij]; exact h j (Nat.lt_of_le_of_ne (Nat.le_of_lt_succ hj) (Ne.symm hij))
theorem l2_s {A V n s Lu Lq : Nat} (hs : s ≤ 23) (hn : 2 ≤ n) (hV : (E V).length = n) (hLu : Lu < 17592186044416) (hVs : V ≤ 2 ^ s * 16777216 ^ n) : ∀ (m U t : Nat) (u q : List Int), Dv 16777216 A V m U (t * 16777216 ^ m) → Rp 16777216 u Lu U → Rp 16777216 q Lq (t * 16777216 ^ m) → m ≤ Lq → m + n ≤ Lu → Lq < 17592186044416 → n < Lu →
    Av (fun k => spec_l02Div.l2 k n s u (E V) q ((m : Int) - 1)) (E (A / V), E (A % V / 2 ^ s))
  | 0, U, t, u, q, hD, hu, hq, hm, hmn, hLq, hnu => by
    have hV1 : 16777216 ^ (n - 1) ≤ V := (E_lt (n - 1) V).1 (by rw [hV]; omega)
    have hV0 : 0 < V := Nat.lt_of_lt_of_le (Nat.pow_pos (by decide)) hV1
    obtain ⟨h1, h2⟩ := hD.done hV0
    have hUV : U < V := by have := hD.lt; simpa using this
    have hlt : U / 2 ^ s < 16777216 ^ n := by
      rw [Nat.div_lt_iff_lt_mul (Nat.pow_pos (by decide)), Nat.mul_comm]
      exact Nat.lt_of_lt_of_le hUV hVs
    rw [← h1, ← h2]
    refine Av.succ ?_
    simp only [spec_l02Div.l2]
    refine Av.ifn (by omega) (Av.ifp (Int.natCast_nonneg _) (Av.ifp (by omega) ?_))
    rw [Int.toNat_natCast]
    exact l6_s hs hu hnu hLu hq hLq hlt n 0 (List.replicate n 0) rfl (Nat.zero_le _) (by simp) (fun j hj => absurd hj (Nat.not_lt_zero _))
  | m + 1, U, t, u, q, hD, hu, hq, hm, hmn, hLq, hnu => by
    have hV1 : 16777216 ^ (n - 1) ≤ V := (E_lt (n - 1) V).1 (by rw [hV]; omega)
    have hV2 : V < 16777216 ^ n := (E_le n V).1 (by rw [hV]; exact Nat.le_refl _)
    have hV0 : 0 < V := Nat.lt_of_lt_of_le (Nat.pow_pos (by decide)) hV1
    have hjn : m + n < Lu := by omega
    have hmq : m < Lq := by omega
    have hjn' : m + n < u.length := by rw [hu.len]; exact hjn
    have hul : u.length < 17592186044416 := by rw [hu.len]; exact hLu
    have j1 : m + n < 4611686018427387904 := by omega
    have j2 : 1 ≤ m + n := by omega
    have j3 : 1 ≤ n := by omega
    have j4 : n < 4611686018427387904 := by omega
    have j5 : ((m + n : Nat) : Int) < u.length := Int.ofNat_lt.2 hjn'
    have j6 : ((m + n - 1 : Nat) : Int) < u.length := Int.ofNat_lt.2 (by omega)
    have j7 : ((n - 1 : Nat) : Int) < (E V).length := by rw [hV]; omega
    have j8 : ((m + 1 : Nat) : Int) - 1 = (m : Int) := by omega
    have hU : U < 16777216 ^ (m + n + 1) := by
      have h1 := hD.lt
      have h2 : V * 16777216 ^ (m + 1) ≤ 16777216 ^ n * 16777216 ^ (m + 1) := Nat.mul_le_mul_right _ (Nat.le_of_lt hV2)
      rw [← Nat.pow_add, show n + (m + 1) = m + n + 1 by omega] at h2
      exact Nat.lt_of_lt_of_le h1 h2
    obtain ⟨g1, g2, g3, g4, g5, g6⟩ := hD.guess (n := n) (by decide) hn hV1 hV2 rfl rfl rfl rfl rfl
    have hdig := hD.digit (by decide) hV0
    have hstep := hD.step (by decide) hV0
    have hvB : V / 16777216 ^ (n - 1) % 16777216 < 16777216 := Nat.mod_lt _ (by decide)
    have hxB : U / 16777216 ^ (m + n) % 16777216 < 16777216 := Nat.mod_lt _ (by decide)
    have hyB : U / 16777216 ^ (m + n - 1) % 16777216 < 16777216 := Nat.mod_lt _ (by decide)
    have rx := rdn (hu.get (by decide) (m + n))
    have ry := rdn (hu.get (by decide) (m + n - 1))
    have rz := rdn (hu.get (by decide) (m + n - 2))
    have rv := rdE V (n - 1)
    have rw_ := rdE V (n - 2)
    have hqh : qh 16777216 ((U / 16777216 ^ (m + n) % 16777216 * 16777216 + U / 16777216 ^ (m + n - 1) % 16777216) * 16777216 + U / 16777216 ^ (m + n - 2) % 16777216) (V / 16777216 ^ (n - 1) % 16777216 * 16777216 + V / 16777216 ^ (n - 2) % 16777216) < 16777216 := Nat.lt_of_le_of_lt qh_le (by decide)
    have hp := hq.put (by decide) hmq hdig
    have hsum : t * 16777216 ^ (m + 1) + U / 16777216 ^ m / V * 16777216 ^ m = (t * 16777216 + U / 16777216 ^ m / V) * 16777216 ^ m := by
      rw [Nat.pow_succ, Nat.add_mul, Nat.mul_comm (16777216 ^ m) 16777216, Nat.mul_assoc]
    rw [hsum] at hstep
    generalize U / 16777216 ^ (m + n) % 16777216 = x at *
    generalize U / 16777216 ^ (m + n - 1) % 16777216 = y at *
    generalize U / 16777216 ^ (m + n - 2) % 16777216 = z at *
    generalize V / 16777216 ^ (n - 1) % 16777216 = v at *
    generalize V / 16777216 ^ (n - 2) % 16777216 = w at *
    have hor := or24 (r := x) (Nat.lt_trans hxB (by decide)) hyB
    have w1 : wrap64 ((n : Int) - 1) = ((n - 1 : Nat) : Int) := wrap_pred j4 j3
    have w3 : wrap64 ((m : Int) + n) = ((m + n : Nat) : Int) := wrap_add j1
    have w4 : wrap64 (((m + n : Nat) : Int) - 1) = ((m + n - 1 : Nat) : Int) := wrap_pred j1 j2
    have hXb : x * 16777216 + y < 281474976710656 := by clear hor w1 w3 w4 rx ry rz rv rw_ hp hstep hsum hD hu hq; omega
    have hGs := Gs.start (B := 16777216) (v := v) (w := w) (X := x * 16777216 + y) (z := z) g1 g3
    have hgb : (x * 16777216 + y) / v < 281474976710656 := Nat.lt_of_le_of_lt (Nat.div_le_self _ _) hXb
    have hrb : (x * 16777216 + y) % v < 16777216 := Nat.lt_trans (Nat.mod_lt _ g1) hvB
    have hne : ¬ ((v : Nat) : Int) = 0 := fun h => Nat.ne_of_gt g1 (Int.ofNat.inj h)
    have ht1 : wrap64 (Int.tdiv ((x * 16777216 + y : Nat) : Int) (v : Int)) = (((x * 16777216 + y) / v : Nat) : Int) := by
      rw [td (Int.natCast_nonneg _), ← Int.natCast_ediv]
      generalize (x * 16777216 + y) / v = g at *
      clear hor w1 w3 w4 rx ry rz rv rw_ hp hstep hsum hD hu hq hGs
      exact wr (by omega) (by omega)
    refine Av.succ ?_
    rw [j8]
    simp only [spec_l02Div.l2, w1, w3, w4, rx, ry, rv, hor, ht1, tmw]
    refine Av.ifp (Int.natCast_nonneg _) (Av.ifp (Int.natCast_nonneg _) (Av.ifp j5 (Av.ifp (Int.natCast_nonneg _) (Av.ifp j6 (Av.ifp (Int.natCast_nonneg _) (Av.ifp j7 (Av.ifn hne ?_)))))))
    refine l3_s hn hV hjn' hul g1 hvB g2 g3 g4 rv rw_ rz ?_ _ _ hgb hrb hGs
    refine dstep_s hV0 hV hV2 hjn hLu hu hU hq.len hmq hqh g5 g6 ?_
    intro u' hu'
    exact l2_s hs hn hV hLu hVs m _ _ u' _ hstep hu' hp (Nat.le_of_lt hmq) (Nat.le_of_lt hjn) hLq hnu
theorem l1_s (a b n : Nat) (hn : 2 ≤ n) (hb : (E b).length = n) (hab : b ≤ a) (hl : (E a).length < 17592186044415) : ∀ (d s : Nat), 24 - s = d → s ≤ 23 → b / 16777216 ^ (n - 1) < 2 ^ (24 - s) → Av (fun k => spec_l02Div.l1 k (E a) (E b) n s) (E (a / b), E (a % b))
  | 0, s, hd, hs, ht => by omega
  | d + 1, s, hd, hs, ht => by
    have hV1 : 16777216 ^ (n - 1) ≤ b := (E_lt (n - 1) b).1 (by rw [hb]; omega)
    have hV2 : b < 16777216 ^ n := (E_le n b).1 (by rw [hb]; exact Nat.le_refl _)
    have hb0 : 0 < b := Nat.lt_of_lt_of_le (Nat.pow_pos (by decide)) hV1
    have hnl : n ≤ (E a).length := by rw [← hb]; exact E_mono hab
    have htop : b / 16777216 ^ (n - 1) < 16777216 := by
      rw [Nat.div_lt_iff_lt_mul (Nat.pow_pos (by decide)), Nat.mul_comm, ← Nat.pow_succ, show (n - 1).succ = n by omega]; exact hV2
    have htop0 : 0 < b / 16777216 ^ (n - 1) := Nat.div_pos hV1 (Nat.pow_pos (by decide))
    have rt := rdE b (n - 1)
    rw [Nat.mod_eq_of_lt htop] at rt
    have hsh := shl_i64 (x := b / 16777216 ^ (n - 1)) hs htop
    have j3 : 1 ≤ n := by omega
    have j4 : n < 4611686018427387904 := by omega
    have j7 : ((n - 1 : Nat) : Int) < (E b).length := by rw [hb]; omega
    have j8 : (((E a).length + 1 : Nat) : Int) - (n : Int) = (((E a).length + 1 - n : Nat) : Int) := by omega
    have j9 : (E a).length + 1 < 4611686018427387904 := by omega
    have j10 : n ≤ (E a).length + 1 := by omega
    have j11 : (E a).length + 1 - n < 17592186044416 := by omega
    have j12 : (E a).length + 1 - n ≤ 35184372088832 := by omega
    have j13 : (E a).length + 1 - n < 4611686018427387904 := by omega
    have j14 : 1 ≤ (E a).length + 1 - n := by omega
    have j15 : ((E a).length + 1 - n - 1 : Nat) = (E a).length - n := by omega
    have j16 : (E a).length + 1 - n + n ≤ (E a).length + 1 := by omega
    have j17 : n < (E a).length + 1 := by omega
    have j18 : (E a).length + 1 < 17592186044416 := by omega
    have j19 : s < 4611686018427387904 := by omega
    have j20 : (((E a).length + 1 - n : Nat) : Int) - 1 = (((E a).length + 1 - n - 1 : Nat) : Int) := by omega
    have w1 : wrap64 ((n : Int) - 1) = ((n - 1 : Nat) : Int) := wrap_pred j4 j3
    have ws : IntKind.u64.wrap ((s : Int) + 1) = ((s + 1 : Nat) : Int) := by clear w1 rt hsh; rw [ur (by omega) (by omega)]; omega
    refine Av.succ ?_
    simp only [spec_l02Div.l1, w1, rt, hsh, ws]
    refine Av.ifp (Int.natCast_nonneg _) (Av.ifp j7 (Av.ifp (Int.natCast_nonneg _) ?_))
    by_cases hlow : b / 16777216 ^ (n - 1) * 2 ^ s < 8388608
    · have hs23 : s ≠ 23 := by
        rintro rfl
        have := Nat.mul_le_mul_right (2 ^ 23) htop0
        omega
      have ht2 : b / 16777216 ^ (n - 1) < 2 ^ (24 - (s + 1)) := by
        have e : (8388608 : Nat) = 2 ^ (24 - (s + 1)) * 2 ^ s := by
          rw [← Nat.pow_add, show 24 - (s + 1) + s = 23 by omega]
        rw [e] at hlow
        exact Nat.lt_of_mul_lt_mul_right hlow
      refine Av.ifp (Int.ofNat_lt.2 hlow) ?_
      exact l1_s a b n hn hb hab hl d (s + 1) (by clear w1 ws rt hsh j8 j20; omega) (by clear w1 ws rt hsh j8 j20; omega) ht2
    · refine Av.ifn (fun h => hlow (Int.ofNat_lt.1 h)) ?_
      have hP : 0 < 2 ^ s := Nat.pow_pos (by decide)
      have hVlt : b * 2 ^ s < 16777216 ^ n := by
        rw [Nat.div_lt_iff_lt_mul (Nat.pow_pos (by decide))] at ht
        have h1 := Nat.mul_lt_mul_of_pos_right ht hP
        have e : 2 ^ (24 - s) * 16777216 ^ (n - 1) * 2 ^ s = 16777216 ^ n := by
          have e1 : 2 ^ (24 - s) * 16777216 ^ (n - 1) * 2 ^ s = 2 ^ (24 - s) * 2 ^ s * 16777216 ^ (n - 1) := by grind
          rw [e1, ← Nat.pow_add, show 24 - s + s = 24 by omega, ← W24, Nat.mul_comm, ← Nat.pow_succ, show (n - 1).succ = n by omega]
        rw [e] at h1; exact h1
      have hVge : 16777216 ^ (n - 1) ≤ b * 2 ^ s := Nat.le_trans hV1 (Nat.le_mul_of_pos_right _ hP)
      have hVlen : (E (b * 2 ^ s)).length = n := by
        have h1 := (E_le n (b * 2 ^ s)).2 hVlt
        have h2 := (E_lt (n - 1) (b * 2 ^ s)).2 hVge
        clear w1 ws rt hsh j8 j20; omega
      have hbl : (E b).length < 17592186044415 := by rw [hb]; clear w1 ws rt hsh j8 j20; omega
      have hub := fx_upto (B := 16777216) (by decide) (L := (E b).length + 1) (n := b * 2 ^ s) (k := n) hVlt (by rw [hb]; exact Nat.le_succ n)
      have htr := trim_s' (n := b * 2 ^ s) hub.digs (by rw [fx_length, hb]; clear w1 ws rt hsh j8 j20; omega) hub.val
      have hAl : a < 16777216 ^ (E a).length := (E_le _ a).1 (Nat.le_refl _)
      have hAlt : a * 2 ^ s < 16777216 ^ ((E a).length + 1) := by
        have h1 := Nat.mul_lt_mul_of_pos_right hAl hP
        have h2 : 2 ^ s ≤ 16777216 := by
          have : 2 ^ s ≤ 2 ^ 24 := Nat.pow_le_pow_right (by decide) (Nat.le_trans hs (by decide))
          clear w1 ws rt hsh j8 j20; omega
        rw [Nat.pow_succ]
        exact Nat.lt_of_lt_of_le h1 (Nat.mul_le_mul_left _ h2)
      have hua := fx_upto (B := 16777216) (by decide) (L := (E a).length + 1) (n := a * 2 ^ s) (k := (E a).length + 1) hAlt (Nat.le_refl _)
      have hAV : a * 2 ^ s < b * 2 ^ s * 16777216 ^ ((E a).length + 1 - n) := by
        have h1 := Nat.mul_lt_mul_of_pos_right hAl hP
        have h2 : 16777216 ^ (E a).length = 16777216 ^ (n - 1) * 16777216 ^ ((E a).length + 1 - n) := by
          rw [← Nat.pow_add]; congr 1; clear w1 ws rt hsh j8 j20; omega
        rw [h2] at h1
        have h3 : 16777216 ^ (n - 1) * 16777216 ^ ((E a).length + 1 - n) * 2 ^ s ≤ b * 16777216 ^ ((E a).length + 1 - n) * 2 ^ s := Nat.mul_le_mul_right _ (Nat.mul_le_mul_right _ hV1)
        have e : b * 16777216 ^ ((E a).length + 1 - n) * 2 ^ s = b * 2 ^ s * 16777216 ^ ((E a).length + 1 - n) := by grind
        rw [e] at h3
        exact Nat.lt_of_lt_of_le h1 h3
      have hD : Dv 16777216 (a * 2 ^ s) (b * 2 ^ s) ((E a).length + 1 - n) (a * 2 ^ s) (0 * 16777216 ^ ((E a).length + 1 - n)) := by rw [Nat.zero_mul]; exact Dv.start hAV
      have hz := Rp.zeros (B := 16777216) (by decide) ((E a).length + 1 - n)
      have hVs : b * 2 ^ s ≤ 2 ^ s * 16777216 ^ n := by
        rw [Nat.mul_comm]; exact Nat.mul_le_mul_left _ (Nat.le_of_lt hV2)
      have key := l2_s (s := s) hs hn hVlen j18 hVs ((E a).length + 1 - n) (a * 2 ^ s) 0 (fx 16777216 ((E a).length + 1) (a * 2 ^ s)) (List.replicate ((E a).length + 1 - n) 0) hD ⟨fx_length _ _ _, hua.digs, hua.val⟩ (by rw [Nat.zero_mul]; exact hz) (Nat.le_refl _) j16 j11 j17
      have ed : a * 2 ^ s / (b * 2 ^ s) = a / b := Nat.mul_div_mul_right _ _ hP
      have em : a * 2 ^ s % (b * 2 ^ s) / 2 ^ s = a % b := by
        rw [Nat.mul_mod_mul_right, Nat.mul_div_cancel _ hP]
      rw [ed, em] at key
      have w5 : wrap64 (((E a).length + 1 : Nat) : Int) = (((E a).length + 1 : Nat) : Int) := by
        have := wrap_add (a := (E a).length + 1) (b := 0) j9
        simpa using this
      have w6 : wrap64 ((((E a).length + 1 : Nat) : Int) - (n : Int)) = (((E a).length + 1 - n : Nat) : Int) := wrap_less j9 j10
      have w7 : wrap64 ((((E a).length + 1 - n : Nat) : Int) - 1) = (((E a).length + 1 - n - 1 : Nat) : Int) := wrap_pred j13 j14
      refine Av.bind (left_s a s hs hl) (Av.bind (left_s b s hs hbl) (Av.bind htr ?_))
      simp only [fx_length, w6, w7, Int.toNat_natCast]
      refine Av.ifp (Int.natCast_nonneg _) (Av.ifp j12 ?_)
      rw [← j20]
      exact key
theorem div_s (a b : Nat) (hb0 : 0 < b) (ha : (E a).length < 17592186044415) (hb : (E b).length < 17592186044415) : Av (fun k => spec_l02Div.f k (E a) (E b)) (E (a / b), E (a % b)) := by
  by_cases h : a < b
  · exact div_less a b (Nat.lt_succ_of_lt ha) (Nat.lt_succ_of_lt hb) h
  · by_cases h1 : (E b).length ≤ 1
    · exact div1_s a b hb0 (by have := (E_le 1 b).1 h1; simpa using this) (Nat.lt_succ_of_lt ha)
    · have h2 : 2 ≤ (E b).length := by omega
      have hV2 : b < 16777216 ^ (E b).length := (E_le _ b).1 (Nat.le_refl _)
      have hk := l1_s a b (E b).length h2 rfl (Nat.le_of_not_lt h) ha 24 0 rfl (by decide) (by
        rw [Nat.div_lt_iff_lt_mul (Nat.pow_pos (by decide))]
        have e : (2 : Nat) ^ (24 - 0) * 16777216 ^ ((E b).length - 1) = 16777216 ^ (E b).length := by
          have : (E b).length = (E b).length - 1 + 1 := by omega
          conv => rhs; rw [this, Nat.pow_succ]
          rw [Nat.mul_comm]
        rw [e]; exact hV2)
      unfold spec_l02Div.f
      refine Av.bind (cmp_s a b (by omega) (by omega)) (Av.ifn ?_ (Av.ifn (by omega) hk))
      unfold sgn; rw [if_neg h]; split <;> decide
theorem over_f' {a b : Nat} (ha : Sm a) (hb : Sm b) (h : 0 < b) : Av (fun k => impl_nat_over.f k (D a) (D b)) (D (a / b), D (a % b)) := over_f a b h (by have := ha.1; omega) (by have := hb.1; omega)
theorem div_s' {a b : Nat} (ha : Sm a) (hb : Sm b) (h : 0 < b) : Av (fun k => spec_l02Div.f k (E a) (E b)) (E (a / b), E (a % b)) := div_s a b h (by have := ha.2; omega) (by have := hb.2; omega)
theorem Sm.mul {a b : Nat} (ha : a < GB) (hb : b < GB) : Sm (a * b) := Sm.of (j := 160 + 160) (by
  have h : a * b < GB * GB := Nat.lt_of_le_of_lt (Nat.mul_le_mul_left _ (Nat.le_of_lt hb)) (Nat.mul_lt_mul_of_pos_right ha (Nat.lt_of_le_of_lt (Nat.zero_le _) hb))
  exact Nat.lt_of_lt_of_eq h (Nat.pow_add 256 160 160).symm) (by decide)
theorem rest_f {a b : Nat} (ha : Sm a) (hb : Sm b) (h : 0 < b) : Av (fun k => impl_nat_rest.f k (D a) (D b)) (D (a % b)) := by
  unfold impl_nat_rest.f
  exact Av.bind (over_f' ha hb h) Av.ret
/-- The product of two rests. -/
def mulm (p a b : Nat) : Nat := a * b % p
theorem mulm_lt {p : Nat} (a b : Nat) (hp : 0 < p) : mulm p a b < p := Nat.mod_lt _ hp
theorem mul_f {p a b : Nat} (hp : p < GB) (ha : a < GB) (hb : b < GB) (h0 : 0 < p) : Av (fun k => impl_prime_mul.f k (D p) (D a) (D b)) (D (mulm p a b)) := by
  unfold impl_prime_mul.f
  have h1 := (Sm.gb ha).1
  have h2 := (Sm.gb hb).1
  exact Av.bind (times_f a b (by omega)) (Av.bind (rest_f (Sm.mul ha hb) (Sm.gb hp) h0) Av.ret)
theorem mul4_s {p a b : Nat} (hp : p < GB) (ha : a < GB) (hb : b < GB) (h0 : 0 < p) : Av (fun k => spec_l04Mul.f k (E a) (E b) (E p)) (E (mulm p a b)) := by
  unfold spec_l04Mul.f
  have h1 := (Sm.gb ha).2
  have h2 := (Sm.gb hb).2
  exact Av.bind (mul_s a b (by omega)) (Av.bind (div_s' (Sm.mul ha hb) (Sm.gb hp) h0) Av.ret)
/-- What NormOf answers. -/
def nov (a b p : ByteArray) : ByteArray := if pok a b p then bts (addm (bv p) (mulm (bv p) (bv a) (bv a)) (mulm (bv p) (bv b) (bv b))) else (⟨#[]⟩ : ByteArray)
theorem pok_of {a b p : ByteArray} (h : pok a b p = true) : mok p = true ∧ gok a = true ∧ gok b = true ∧ gok p = true ∧ 0 < bv p ∧ bv a < bv p ∧ bv b < bv p := by
  unfold pok at h
  simp only [Bool.and_eq_true] at h
  obtain ⟨⟨h1, h2⟩, h3⟩ := h
  obtain ⟨ga, gp, la⟩ := rok_iff.1 h2
  obtain ⟨gb, _, lb⟩ := rok_iff.1 h3
  exact ⟨h1, ga, gb, gp, Nat.lt_of_le_of_lt (Nat.zero_le _) la, la, lb⟩
theorem normof_s (a b p : ByteArray) : Av (fun k => spec_NormOf.f k a b p) (nov a b p) := by
  unfold spec_NormOf.f nov
  refine Av.bind (pairok_s a b p) ?_
  cases h : pok a b p with
  | false => exact Av.ifn (by decide) Av.ret
  | true =>
    obtain ⟨hm, ga, gb, gp, p0, la, lb⟩ := pok_of h
    have s1 := gok_size' ga
    have s2 := gok_size' gb
    have s3 := gok_size' gp
    have hp := bv_gb gp
    have m1 := mulm_lt (bv a) (bv a) p0
    have m2 := mulm_lt (bv b) (bv b) p0
    have hin : Av (fun k => spec_l07In.f k a b) (E (bv a), E (bv b)) := by
      unfold spec_l07In.f
      exact Av.bind (in_s a (by omega)) (Av.bind (in_s b (by omega)) Av.ret)
    have hn : Av (fun k => spec_l07Norm.f k (E (bv a)) (E (bv b)) (E (bv p))) (E (addm (bv p) (mulm (bv p) (bv a) (bv a)) (mulm (bv p) (bv b) (bv b)))) := by
      unfold spec_l07Norm.f
      exact Av.bind (mul4_s hp (bv_gb ga) (bv_gb ga) p0) (Av.bind (mul4_s hp (bv_gb gb) (bv_gb gb) p0) (Av.bind (add4_s hp m1 m2) Av.ret))
    exact Av.ifp rfl (Av.bind hin (Av.bind (in_s p (by omega)) (Av.bind hn (Av.bind (out_s' ((Sm.gb hp).le (Nat.le_of_lt (addm_lt m1 m2)))) (Av.ret' rfl)))))
theorem prs_fst {a b p : ByteArray} (h : mok p = true) : (prs a b p).1 = D (bv p) := by
  unfold prs; rw [if_pos h]
theorem normof_f (a b p : ByteArray) (hp : p.size < 281474976710656) : Av (fun k => impl_NormOf.f k a b p) (nov a b p) := by
  unfold impl_NormOf.f nov
  refine Av.bind (pairs_f a b p hp) ?_
  rw [prs_snd]
  cases h : pok a b p with
  | false => exact Av.ifn (by simp) Av.ret
  | true =>
    obtain ⟨hm, ga, gb, gp, p0, la, lb⟩ := pok_of h
    rw [prs_fst hm]
    have s1 := gok_size' ga
    have s2 := gok_size' gb
    have hp := bv_gb gp
    have m1 := mulm_lt (bv a) (bv a) p0
    have m2 := mulm_lt (bv b) (bv b) p0
    have hin : Av (fun k => impl_pairOf.f k a b) (D (bv a), D (bv b)) := by
      unfold impl_pairOf.f
      exact Av.bind (natOf_f a (by omega)) (Av.bind (natOf_f b (by omega)) Av.ret)
    have hn : Av (fun k => impl_prime_norm.f k (D (bv p)) (D (bv a)) (D (bv b))) (D (addm (bv p) (mulm (bv p) (bv a) (bv a)) (mulm (bv p) (bv b) (bv b)))) := by
      unfold impl_prime_norm.f
      exact Av.bind (mul_f hp (bv_gb ga) (bv_gb ga) p0) (Av.bind (mul_f hp (bv_gb gb) (bv_gb gb) p0) (Av.bind (add_f hp m1 m2) Av.ret))
    exact Av.ifp rfl (Av.bind hin (Av.bind hn (Av.bind (text_f' ((Sm.gb hp).le (Nat.le_of_lt (addm_lt m1 m2)))) (Av.ret' rfl))))
end Go.Proofs.Ytghhnjhjhjbljaa.C
