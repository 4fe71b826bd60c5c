/- Words and contracts that the laws of this claim lean on: numbers as limbs, and what the functions make of them. Conditions: those named in each theorem. -/
import Derived.Test.YtghhnjhjhjbljaaVEOwnWords
import Derived.Test.YtghhnjhjhjbljaaYE3
import Derived.Test.YtghhnjhjhjbljaaZE0
import Derived.Test.YtghhnjhjhjbljaaZE1
import Derived.Test.YtghhnjhjhjbljaaZE2
import Derived.Test.YtghhnjhjhjbljaaZE5
import Derived.Test.YtghhnjhjhjbljaaZE6
import Derived.Test.YtghhnjhjhjbljaaZE7
import Derived.Test.YtghhnjhjhjbljaaZE8
set_option linter.unusedVariables false
set_option linter.unusedSimpArgs false
set_option maxRecDepth 100000
namespace Go.Proofs.Ytghhnjhjhjbljaa.C
open Go.RowKit Go.Proofs.YtghhnjhjhjbljaaW.PrintWords Go.Proofs.YtghhnjhjhjbljaaW.PrintLast Go.Proofs.YtghhnjhjhjbljaaW.PrintMore
open Go.Proofs.Ytghhnjhjhjbljaa.M Go.Proofs.Ytghhnjhjhjbljaa.F
theorem l2_s {A V n s Lu Lq : Nat} (hs : s ≤ 23) (hn : 2 ≤ n) (hV : (E V).length = n) (hLu : Lu < 17592186044416) (hVs : V ≤ 2 ^ s * 16777216 ^ n) : ∀ (m U t : Nat) (u q : List Int), Dv 16777216 A V m U (t * 16777216 ^ m) → Rp 16777216 u Lu U → Rp 16777216 q Lq (t * 16777216 ^ m) → m ≤ Lq → m + n ≤ Lu → Lq < 17592186044416 → n < Lu →
    Av (fun k => spec_l02Div.l2 k n s u (E V) q ((m : Int) - 1)) (E (A / V), E (A % V / 2 ^ s))
  | 0, U, t, u, q, hD, hu, hq, hm, hmn, hLq, hnu => by
    have hV1 : 16777216 ^ (n - 1) ≤ V := (E_lt (n - 1) V).1 (by rw [hV]; omega)
    have hV0 : 0 < V := Nat.lt_of_lt_of_le (Nat.pow_pos (by decide)) hV1
    obtain ⟨h1, h2⟩ := hD.done hV0
    have hUV : U < V := by have := hD.lt; simpa using this
    have hlt : U / 2 ^ s < 16777216 ^ n := by
      rw [Nat.div_lt_iff_lt_mul (Nat.pow_pos (by decide)), Nat.mul_comm]
      exact Nat.lt_of_lt_of_le hUV hVs
    rw [← h1, ← h2]
    refine Av.succ ?_
    simp only [spec_l02Div.l2]
    refine Av.ifn (by omega) (Av.ifp (Int.natCast_nonneg _) (Av.ifp (by omega) ?_))
    rw [Int.toNat_natCast]
    exact l6_s hs hu hnu hLu hq hLq hlt n 0 (List.replicate n 0) rfl (Nat.zero_le _) (by simp) (fun j hj => absurd hj (Nat.not_lt_zero _))
  | m + 1, U, t, u, q, hD, hu, hq, hm, hmn, hLq, hnu => by
    have hV1 : 16777216 ^ (n - 1) ≤ V := (E_lt (n - 1) V).1 (by rw [hV]; omega)
    have hV2 : V < 16777216 ^ n := (E_le n V).1 (by rw [hV]; exact Nat.le_refl _)
    have hV0 : 0 < V := Nat.lt_of_lt_of_le (Nat.pow_pos (by decide)) hV1
    have hjn : m + n < Lu := by omega
    have hmq : m < Lq := by omega
    have hjn' : m + n < u.length := by rw [hu.len]; exact hjn
    have hul : u.length < 17592186044416 := by rw [hu.len]; exact hLu
    have j1 : m + n < 4611686018427387904 := by omega
    have j2 : 1 ≤ m + n := by omega
    have j3 : 1 ≤ n := by omega
    have j4 : n < 4611686018427387904 := by omega
    have j5 : ((m + n : Nat) : Int) < u.length := Int.ofNat_lt.2 hjn'
    have j6 : ((m + n - 1 : Nat) : Int) < u.length := Int.ofNat_lt.2 (by omega)
    have j7 : ((n - 1 : Nat) : Int) < (E V).length := by rw [hV]; omega
    have j8 : ((m + 1 : Nat) : Int) - 1 = (m : Int) := by omega
    have hU : U < 16777216 ^ (m + n + 1) := by
      have h1 := hD.lt
      have h2 : V * 16777216 ^ (m + 1) ≤ 16777216 ^ n * 16777216 ^ (m + 1) := Nat.mul_le_mul_right _ (Nat.le_of_lt hV2)
      rw [← Nat.pow_add, show n + (m + 1) = m + n + 1 by omega] at h2
      exact Nat.lt_of_lt_of_le h1 h2
    obtain ⟨g1, g2, g3, g4, g5, g6⟩ := hD.guess (n := n) (by decide) hn hV1 hV2 rfl rfl rfl rfl rfl
    have hdig := hD.digit (by decide) hV0
    have hstep := hD.step (by decide) hV0
    have hvB : V / 16777216 ^ (n - 1) % 16777216 < 16777216 := Nat.mod_lt _ (by decide)
    have hxB : U / 16777216 ^ (m + n) % 16777216 < 16777216 := Nat.mod_lt _ (by decide)
    have hyB : U / 16777216 ^ (m + n - 1) % 16777216 < 16777216 := Nat.mod_lt _ (by decide)
    have rx := rdn (hu.get (by decide) (m + n))
    have ry := rdn (hu.get (by decide) (m + n - 1))
    have rz := rdn (hu.get (by decide) (m + n - 2))
    have rv := rdE V (n - 1)
    have rw_ := rdE V (n - 2)
    have hqh : qh 16777216 ((U / 16777216 ^ (m + n) % 16777216 * 16777216 + U / 16777216 ^ (m + n - 1) % 16777216) * 16777216 + U / 16777216 ^ (m + n - 2) % 16777216) (V / 16777216 ^ (n - 1) % 16777216 * 16777216 + V / 16777216 ^ (n - 2) % 16777216) < 16777216 := Nat.lt_of_le_of_lt qh_le (by decide)
    have hp := hq.put (by decide) hmq hdig
    have hsum : t * 16777216 ^ (m + 1) + U / 16777216 ^ m / V * 16777216 ^ m = (t * 16777216 + U / 16777216 ^ m / V) * 16777216 ^ m := by
      rw [Nat.pow_succ, Nat.add_mul, Nat.mul_comm (16777216 ^ m) 16777216, Nat.mul_assoc]
    rw [hsum] at hstep
    generalize U / 16777216 ^ (m + n) % 16777216 = x at *
    generalize U / 16777216 ^ (m + n - 1) % 16777216 = y at *
    generalize U / 16777216 ^ (m + n - 2) % 16777216 = z at *
    generalize V / 16777216 ^ (n - 1) % 16777216 = v at *
    generalize V / 16777216 ^ (n - 2) % 16777216 = w at *
    have hor := or24 (r := x) (Nat.lt_trans hxB (by decide)) hyB
    have w1 : wrap64 ((n : Int) - 1) = ((n - 1 : Nat) : Int) := wrap_pred j4 j3
    have w3 : wrap64 ((m : Int) + n) = ((m + n : Nat) : Int) := wrap_add j1
    have w4 : wrap64 (((m + n : Nat) : Int) - 1) = ((m + n - 1 : Nat) : Int) := wrap_pred j1 j2
    have hXb : x * 16777216 + y < 281474976710656 := by clear hor w1 w3 w4 rx ry rz rv rw_ hp hstep hsum hD hu hq; omega
    have hGs := Gs.start (B := 16777216) (v := v) (w := w) (X := x * 16777216 + y) (z := z) g1 g3
    have hgb : (x * 16777216 + y) / v < 281474976710656 := Nat.lt_of_le_of_lt (Nat.div_le_self _ _) hXb
    have hrb : (x * 16777216 + y) % v < 16777216 := Nat.lt_trans (Nat.mod_lt _ g1) hvB
    have hne : ¬ ((v : Nat) : Int) = 0 := fun h => Nat.ne_of_gt g1 (Int.ofNat.inj h)
    have ht1 : wrap64 (Int.tdiv ((x * 16777216 + y : Nat) : Int) (v : Int)) = (((x * 16777216 + y) / v : Nat) : Int) := by
      rw [td (Int.natCast_nonneg _), ← Int.natCast_ediv]
      generalize (x * 16777216 + y) / v = g at *
      clear hor w1 w3 w4 rx ry rz rv rw_ hp hstep hsum hD hu hq hGs
      exact wr (by omega) (by omega)
    refine Av.succ ?_
    rw [j8]
    simp only [spec_l02Div.l2, w1, w3, w4, rx, ry, rv, hor, ht1, tmw]
    refine Av.ifp (Int.natCast_nonneg _) (Av.ifp (Int.natCast_nonneg _) (Av.ifp j5 (Av.ifp (Int.natCast_nonneg _) (Av.ifp j6 (Av.ifp (Int.natCast_nonneg _) (Av.ifp j7 (Av.ifn hne ?_)))))))
    refine l3_s hn hV hjn' hul g1 hvB g2 g3 g4 rv rw_ rz ?_ _ _ hgb hrb hGs
    refine dstep_s hV0 hV hV2 hjn hLu hu hU hq.len hmq hqh g5 g6 ?_
    intro u' hu'
    exact l2_s hs hn hV hLu hVs m _ _ u' _ hstep hu' hp (Nat.le_of_lt hmq) (Nat.le_of_lt hjn) hLq hnu
theorem l1_s (a b n : Nat) (hn : 2 ≤ n) (hb : (E b).length = n) (hab : b ≤ a) (hl : (E a).length < 17592186044415) : ∀ (d s : Nat), 24 - s = d → s ≤ 23 → b / 16777216 ^ (n - 1) < 2 ^ (24 - s) → Av (fun k => spec_l02Div.l1 k (E a) (E b) n s) (E (a / b), E (a % b))
  | 0, s, hd, hs, ht => by omega
  | d + 1, s, hd, hs, ht => by
    have hV1 : 16777216 ^ (n - 1) ≤ b := (E_lt (n - 1) b).1 (by rw [hb]; omega)
    have hV2 : b < 16777216 ^ n := (E_le n b).1 (by rw [hb]; exact Nat.le_refl _)
    have hb0 : 0 < b := Nat.lt_of_lt_of_le (Nat.pow_pos (by decide)) hV1
    have hnl : n ≤ (E a).length := by rw [← hb]; exact E_mono hab
    have htop : b / 16777216 ^ (n - 1) < 16777216 := by
      rw [Nat.div_lt_iff_lt_mul (Nat.pow_pos (by decide)), Nat.mul_comm, ← Nat.pow_succ, show (n - 1).succ = n by omega]; exact hV2
    have htop0 : 0 < b / 16777216 ^ (n - 1) := Nat.div_pos hV1 (Nat.pow_pos (by decide))
    have rt := rdE b (n - 1)
    rw [Nat.mod_eq_of_lt htop] at rt
    have hsh := shl_i64 (x := b / 16777216 ^ (n - 1)) hs htop
    have j3 : 1 ≤ n := by omega
    have j4 : n < 4611686018427387904 := by omega
    have j7 : ((n - 1 : Nat) : Int) < (E b).length := by rw [hb]; omega
    have j8 : (((E a).length + 1 : Nat) : Int) - (n : Int) = (((E a).length + 1 - n : Nat) : Int) := by omega
    have j9 : (E a).length + 1 < 4611686018427387904 := by omega
    have j10 : n ≤ (E a).length + 1 := by omega
    have j11 : (E a).length + 1 - n < 17592186044416 := by omega
    have j12 : (E a).length + 1 - n ≤ 35184372088832 := by omega
    have j13 : (E a).length + 1 - n < 4611686018427387904 := by omega
    have j14 : 1 ≤ (E a).length + 1 - n := by omega
    have j15 : ((E a).length + 1 - n - 1 : Nat) = (E a).length - n := by omega
    have j16 : (E a).length + 1 - n + n ≤ (E a).length + 1 := by omega
    have j17 : n < (E a).length + 1 := by omega
    have j18 : (E a).length + 1 < 17592186044416 := by omega
    have j19 : s < 4611686018427387904 := by omega
    have j20 : (((E a).length + 1 - n : Nat) : Int) - 1 = (((E a).length + 1 - n - 1 : Nat) : Int) := by omega
    have w1 : wrap64 ((n : Int) - 1) = ((n - 1 : Nat) : Int) := wrap_pred j4 j3
    have ws : IntKind.u64.wrap ((s : Int) + 1) = ((s + 1 : Nat) : Int) := by clear w1 rt hsh; rw [ur (by omega) (by omega)]; omega
    refine Av.succ ?_
    simp only [spec_l02Div.l1, w1, rt, hsh, ws]
    refine Av.ifp (Int.natCast_nonneg _) (Av.ifp j7 (Av.ifp (Int.natCast_nonneg _) ?_))
    by_cases hlow : b / 16777216 ^ (n - 1) * 2 ^ s < 8388608
    · have hs23 : s ≠ 23 := by
        rintro rfl
        have := Nat.mul_le_mul_right (2 ^ 23) htop0
        omega
      have ht2 : b / 16777216 ^ (n - 1) < 2 ^ (24 - (s + 1)) := by
        have e : (8388608 : Nat) = 2 ^ (24 - (s + 1)) * 2 ^ s := by
          rw [← Nat.pow_add, show 24 - (s + 1) + s = 23 by omega]
        rw [e] at hlow
        exact Nat.lt_of_mul_lt_mul_right hlow
      refine Av.ifp (Int.ofNat_lt.2 hlow) ?_
      exact l1_s a b n hn hb hab hl d (s + 1) (by clear w1 ws rt hsh j8 j20; omega) (by clear w1 ws rt hsh j8 j20; omega) ht2
    · refine Av.ifn (fun h => hlow (Int.ofNat_lt.1 h)) ?_
      have hP : 0 < 2 ^ s := Nat.pow_pos (by decide)
      have hVlt : b * 2 ^ s < 16777216 ^ n := by
        rw [Nat.div_lt_iff_lt_mul (Nat.pow_pos (by decide))] at ht
        have h1 := Nat.mul_lt_mul_of_pos_right ht hP
        have e : 2 ^ (24 - s) * 16777216 ^ (n - 1) * 2 ^ s = 16777216 ^ n := by
          have e1 : 2 ^ (24 - s) * 16777216 ^ (n - 1) * 2 ^ s = 2 ^ (24 - s) * 2 ^ s * 16777216 ^ (n - 1) := by grind
          rw [e1, ← Nat.pow_add, show 24 - s + s = 24 by omega, ← W24, Nat.mul_comm, ← Nat.pow_succ, show (n - 1).succ = n by omega]
        rw [e] at h1; exact h1
      have hVge : 16777216 ^ (n - 1) ≤ b * 2 ^ s := Nat.le_trans hV1 (Nat.le_mul_of_pos_right _ hP)
      have hVlen : (E (b * 2 ^ s)).length = n := by
        have h1 := (E_le n (b * 2 ^ s)).2 hVlt
        have h2 := (E_lt (n - 1) (b * 2 ^ s)).2 hVge
        clear w1 ws rt hsh j8 j20; omega
      have hbl : (E b).length < 17592186044415 := by rw [hb]; clear w1 ws rt hsh j8 j20; omega
      have hub := fx_upto (B := 16777216) (by decide) (L := (E b).length + 1) (n := b * 2 ^ s) (k := n) hVlt (by rw [hb]; exact Nat.le_succ n)
      have htr := trim_s' (n := b * 2 ^ s) hub.digs (by rw [fx_length, hb]; clear w1 ws rt hsh j8 j20; omega) hub.val
      have hAl : a < 16777216 ^ (E a).length := (E_le _ a).1 (Nat.le_refl _)
      have hAlt : a * 2 ^ s < 16777216 ^ ((E a).length + 1) := by
        have h1 := Nat.mul_lt_mul_of_pos_right hAl hP
        have h2 : 2 ^ s ≤ 16777216 := by
          have : 2 ^ s ≤ 2 ^ 24 := Nat.pow_le_pow_right (by decide) (Nat.le_trans hs (by decide))
          clear w1 ws rt hsh j8 j20; omega
        rw [Nat.pow_succ]
        exact Nat.lt_of_lt_of_le h1 (Nat.mul_le_mul_left _ h2)
      have hua := fx_upto (B := 16777216) (by decide) (L := (E a).length + 1) (n := a * 2 ^ s) (k := (E a).length + 1) hAlt (Nat.le_refl _)
      have hAV : a * 2 ^ s < b * 2 ^ s * 16777216 ^ ((E a).length + 1 - n) := by
        have h1 := Nat.mul_lt_mul_of_pos_right hAl hP
        have h2 : 16777216 ^ (E a).length = 16777216 ^ (n - 1) * 16777216 ^ ((E a).length + 1 - n) := by
          rw [← Nat.pow_add]; congr 1; clear w1 ws rt hsh j8 j20; omega
        rw [h2] at h1
        have h3 : 16777216 ^ (n - 1) * 16777216 ^ ((E a).length + 1 - n) * 2 ^ s ≤ b * 16777216 ^ ((E a).length + 1 - n) * 2 ^ s := Nat.mul_le_mul_right _ (Nat.mul_le_mul_right _ hV1)
        have e : b * 16777216 ^ ((E a).length + 1 - n) * 2 ^ s = b * 2 ^ s * 16777216 ^ ((E a).length + 1 - n) := by grind
        rw [e] at h3
        exact Nat.lt_of_lt_of_le h1 h3
      have hD : Dv 16777216 (a * 2 ^ s) (b * 2 ^ s) ((E a).length + 1 - n) (a * 2 ^ s) (0 * 16777216 ^ ((E a).length + 1 - n)) := by rw [Nat.zero_mul]; exact Dv.start hAV
      have hz := Rp.zeros (B := 16777216) (by decide) ((E a).length + 1 - n)
      have hVs : b * 2 ^ s ≤ 2 ^ s * 16777216 ^ n := by
        rw [Nat.mul_comm]; exact Nat.mul_le_mul_left _ (Nat.le_of_lt hV2)
      have key := l2_s (s := s) hs hn hVlen j18 hVs ((E a).length + 1 - n) (a * 2 ^ s) 0 (fx 16777216 ((E a).length + 1) (a * 2 ^ s)) (List.replicate ((E a).length + 1 - n) 0) hD ⟨fx_length _ _ _, hua.digs, hua.val⟩ (by rw [Nat.zero_mul]; exact hz) (Nat.le_refl _) j16 j11 j17
      have ed : a * 2 ^ s / (b * 2 ^ s) = a / b := Nat.mul_div_mul_right _ _ hP
      have em : a * 2 ^ s % (b * 2 ^ s) / 2 ^ s = a % b := by
        rw [Nat.mul_mod_mul_right, Nat.mul_div_cancel _ hP]
      rw [ed, em] at key
      have w5 : wrap64 (((E a).length + 1 : Nat) : Int) = (((E a).length + 1 : Nat) : Int) := by
        have := wrap_add (a := (E a).length + 1) (b := 0) j9
        simpa using this
      have w6 : wrap64 ((((E a).length + 1 : Nat) : Int) - (n : Int)) = (((E a).length + 1 - n : Nat) : Int) := wrap_less j9 j10
      have w7 : wrap64 ((((E a).length + 1 - n : Nat) : Int) - 1) = (((E a).length + 1 - n - 1 : Nat) : Int) := wrap_pred j13 j14
      refine Av.bind (left_s a s hs hl) (Av.bind (left_s b s hs hbl) (Av.bind htr ?_))
      simp only [fx_length, w6, w7, Int.toNat_natCast]
      refine Av.ifp (Int.natCast_nonneg _) (Av.ifp j12 ?_)
      rw [← j20]
      exact key
theorem div_s (a b : Nat) (hb0 : 0 < b) (ha : (E a).length < 17592186044415) (hb : (E b).length < 17592186044415) : Av (fun k => spec_l02Div.f k (E a) (E b)) (E (a / b), E (a % b)) := by
  by_cases h : a < b
  · exact div_less a b (Nat.lt_succ_of_lt ha) (Nat.lt_succ_of_lt hb) h
  · by_cases h1 : (E b).length ≤ 1
    · exact div1_s a b hb0 (by have := (E_le 1 b).1 h1; simpa using this) (Nat.lt_succ_of_lt ha)
    · have h2 : 2 ≤ (E b).length := by omega
      have hV2 : b < 16777216 ^ (E b).length := (E_le _ b).1 (Nat.le_refl _)
      have hk := l1_s a b (E b).length h2 rfl (Nat.le_of_not_lt h) ha 24 0 rfl (by decide) (by
        rw [Nat.div_lt_iff_lt_mul (Nat.pow_pos (by decide))]
        have e : (2 : Nat) ^ (24 - 0) * 16777216 ^ ((E b).length - 1) = 16777216 ^ (E b).length := by
          have : (E b).length = (E b).length - 1 + 1 := by omega
          conv => rhs; rw [this, Nat.pow_succ]
          rw [Nat.mul_comm]
        rw [e]; exact hV2)
      unfold spec_l02Div.f
      refine Av.bind (cmp_s a b (by omega) (by omega)) (Av.ifn ?_ (Av.ifn (by omega) hk))
      unfold sgn; rw [if_neg h]; split <;> decide
theorem over_f' {a b : Nat} (ha : Sm a) (hb : Sm b) (h : 0 < b) : Av (fun k => impl_nat_over.f k (D a) (D b)) (D (a / b), D (a % b)) := over_f a b h (by have := ha.1; omega) (by have := hb.1; omega)
theorem div_s' {a b : Nat} (ha : Sm a) (hb : Sm b) (h : 0 < b) : Av (fun k => spec_l02Div.f k (E a) (E b)) (E (a / b), E (a % b)) := div_s a b h (by have := ha.2; omega) (by have := hb.2; omega)
theorem Sm.mul {a b : Nat} (ha : a < GB) (hb : b < GB) : Sm (a * b) := Sm.of (j := 160 + 160) (by
  have h : a * b < GB * GB := Nat.lt_of_le_of_lt (Nat.mul_le_mul_left _ (Nat.le_of_lt hb)) (Nat.mul_lt_mul_of_pos_right ha (Nat.lt_of_le_of_lt (Nat.zero_le _) hb))
  exact Nat.lt_of_lt_of_eq h (Nat.pow_add 256 160 160).symm) (by decide)
theorem rest_f {a b : Nat} (ha : Sm a) (hb : Sm b) (h : 0 < b) : Av (fun k => impl_nat_rest.f k (D a) (D b)) (D (a % b)) := by
  unfold impl_nat_rest.f
  exact Av.bind (over_f' ha hb h) Av.ret
/-- The product of two rests. -/
def mulm (p a b : Nat) : Nat := a * b % p
theorem mulm_lt {p : Nat} (a b : Nat) (hp : 0 < p) : mulm p a b < p := Nat.mod_lt _ hp
theorem mul_f {p a b : Nat} (hp : p < GB) (ha : a < GB) (hb : b < GB) (h0 : 0 < p) : Av (fun k => impl_prime_mul.f k (D p) (D a) (D b)) (D (mulm p a b)) := by
  unfold impl_prime_mul.f
  have h1 := (Sm.gb ha).1
  have h2 := (Sm.gb hb).1
  exact Av.bind (times_f a b (by omega)) (Av.bind (rest_f (Sm.mul ha hb) (Sm.gb hp) h0) Av.ret)
theorem mul4_s {p a b : Nat} (hp : p < GB) (ha : a < GB) (hb : b < GB) (h0 : 0 < p) : Av (fun k => spec_l04Mul.f k (E a) (E b) (E p)) (E (mulm p a b)) := by
  unfold spec_l04Mul.f
  have h1 := (Sm.gb ha).2
  have h2 := (Sm.gb hb).2
  exact Av.bind (mul_s a b (by omega)) (Av.bind (div_s' (Sm.mul ha hb) (Sm.gb hp) h0) Av.ret)
theorem E_one : E 1 = [1] := by decide +kernel
theorem even_f' {a : Nat} (h : Sm a) : impl_nat_even.f (D a) = some (a % 2 == 0) := even_f a (by have := h.1; omega)
theorem D_one' : Av (fun k => impl_small.f k 1) (D 1) := small_f 1 (by decide)
theorem wi {n : Int} (h0 : 0 ≤ n) (h1 : n < 2 ^ 63) : IntKind.i64.wrap n = n := by rw [i64_w]; exact wr (by omega) (by omega)
theorem and1i {k : Int} (h0 : 0 ≤ k) (h1 : k < 9223372036854775808) : Go.bits .and .i64 k 1 = k % 2 :=
  bits_mask .i64 63 (by decide) (fun n h0 h1 => wi h0 h1) 1 (by decide) k h0 (by simpa using h1)
theorem gok_size {s : ByteArray} (h : gok s = true) : s.size ≤ 160 := (gok_iff.1 h).1
theorem bitof_s (s : ByteArray) (h : gok s = true) (j : Nat) (hj : j < 9223372036854775808) : spec_BitOf.f s j = some ((bv s / 2 ^ j % 2 : Nat) : Int) := by
  have hs := gok_size h
  unfold spec_BitOf.f
  rw [gok_s, h, Option.bind_some, if_pos rfl]
  rw [if_neg (by omega)]
  simp (disch := omega) only [td, tm, wr]
  by_cases hb : s.size ≤ j / 8
  · rw [if_pos (by omega)]
    have h1 := bv_lt s
    have h2 : (256 : Nat) ^ s.size ≤ 2 ^ j := by
      have : (256 : Nat) = 2 ^ 8 := rfl
      rw [this, ← Nat.pow_mul]
      exact Nat.pow_le_pow_right (by decide) (by omega)
    rw [Nat.div_eq_of_lt (Nat.lt_of_lt_of_le h1 h2)]; rfl
  · rw [if_neg (by omega), if_pos (by omega), if_pos (by omega), ur (by omega) (by omega), if_pos (by omega)]
    have e1 : (s.size : Int) - 1 - (j : Int) / 8 = (s.size : Int) - 1 - ((j / 8 : Nat) : Int) := by omega
    rw [e1, bt_rev s (j / 8) (by omega)]
    have e2 : min ((j : Int) % 8).toNat IntKind.i64.bits = j % 8 := by simp only [IntKind.bits]; omega
    have hlt : bv s / 256 ^ (j / 8) % 256 < 256 := Nat.mod_lt _ (by decide)
    rw [wr (by omega) (by omega)]
    unfold shr
    rw [e2, natCast_div_pow]
    have h4 := dig_sub (b := 2) (by decide) (bv s) 8 (j / 8) (r := j % 8) (by omega)
    have e5 : 8 * (j / 8) + j % 8 = j := by omega
    have e6 : (2 : Nat) ^ 8 = 256 := rfl
    rw [e5, e6] at h4
    have h5 : bv s / 256 ^ (j / 8) % 256 / 2 ^ (j % 8) < 256 := Nat.lt_of_le_of_lt (Nat.div_le_self _ _) hlt
    rw [and1i (Int.natCast_nonneg _) (Int.ofNat_lt.2 (Nat.lt_trans h5 (by decide))), ← h4, Int.natCast_emod]
    rfl
theorem nb_double {x : Nat} (h : 0 < x) : nb (2 * x) = nb x + 1 := by
  have := nb_up (n := 2 * x) (s := 1) (by simp; omega)
  rw [Nat.pow_one, Nat.mul_div_cancel_left _ (by decide)] at this
  exact this
theorem bitsof_loop (n : Nat) (hn : n < 1000000) : ∀ (d x m : Nat), 8 - nb x = d → 0 < x → x < 256 → m ≤ n → 8 ≤ m + nb x → Av (fun k => spec_BitsOf.l0 k m x) ((m + nb x - 8 : Nat) : Int)
  | 0, x, m, hd, h0, h1, hm, hx => by
    have h8 := (nb_le 8 x).2 h1
    have h7 := (nb_lt 7 x).1 (by omega)
    refine Av.succ ?_
    simp only [spec_BitsOf.l0]
    refine Av.ifn (by omega) (Av.ret' ?_)
    congr 1; omega
  | d + 1, x, m, hd, h0, h1, hm, hx => by
    have h7 := (nb_le 7 x).1 (by omega)
    have h2 := nb_double h0
    refine Av.succ ?_
    simp only [spec_BitsOf.l0]
    refine Av.ifp (by omega) ?_
    have e1 : wrap64 ((m : Int) - 1) = ((m - 1 : Nat) : Int) := by rw [wr (by omega) (by omega)]; omega
    have e2 : (x : Int) * 2 % 256 = ((2 * x : Nat) : Int) := by omega
    rw [e1, e2]
    have h3 := bitsof_loop n hn d (2 * x) (m - 1) (by omega) (by omega) (by omega) (by omega) (by omega)
    have e3 : m + nb x - 8 = m - 1 + nb (2 * x) - 8 := by omega
    rw [e3]; exact h3
theorem bitsof_s (s : ByteArray) (h : gok s = true) : Av (fun k => spec_BitsOf.f k s) (nb (bv s) : Int) := by
  obtain ⟨hs, h0⟩ := gok_iff.1 h
  unfold spec_BitsOf.f
  refine Av.bindc (by rw [gok_s, h]) (Av.ifp (by decide) ?_)
  have e1 : wrap64 (8 * (s.size : Int)) = ((8 * s.size : Nat) : Int) := by rw [wr (by omega) (by omega)]; omega
  rw [e1]
  by_cases hz : s.size = 0
  · refine Av.ifn (by omega) (Av.ret' ?_)
    have hb : bv s = 0 := by
      have := bv_lt s
      rw [hz] at this; simp at this; omega
    rw [hb, hz]; rfl
  · refine Av.ifp (by omega) (Av.ifp (by omega) ?_)
    have hf := bt_first s (by omega)
    have hr := bt_range s 0
    have hne : bt s 0 ≠ 0 := by
      rcases h0 with h0 | h0
      · exact absurd h0 hz
      · exact h0
    generalize hbd : bv s / 256 ^ (s.size - 1) = b at hf
    have e2 : (256 : Nat) ^ (s.size - 1) = 2 ^ (8 * (s.size - 1)) := by rw [Nat.pow_mul]
    have hge : 2 ^ (8 * (s.size - 1)) ≤ bv s := by
      rw [← e2]
      rcases Nat.lt_or_ge (bv s) (256 ^ (s.size - 1)) with h1 | h1
      · rw [Nat.div_eq_of_lt h1] at hbd; omega
      · exact h1
    have hn := nb_up hge
    rw [← e2, hbd] at hn
    rw [hf]
    have h8 := (nb_le 8 b).2 (by omega)
    have h3 := bitsof_loop (8 * s.size) (by omega) _ b (8 * s.size) rfl (by omega) (by omega) (Nat.le_refl _) (by omega)
    have e3 : 8 * s.size + nb b - 8 = nb (bv s) := by omega
    rw [e3] at h3
    exact h3
theorem sq_mod (p b n : Nat) : mulm p (b ^ n % p) (b ^ n % p) = b ^ (2 * n) % p := by
  unfold mulm; rw [← Nat.mul_mod, ← Nat.pow_add, Nat.two_mul]
theorem ml_mod (p b n : Nat) : mulm p (b ^ n % p) b = b ^ (n + 1) % p := by
  unfold mulm; rw [Nat.mul_mod, Nat.mod_mod, ← Nat.mul_mod, Nat.pow_succ]
theorem half_pow (e j : Nat) : e / 2 ^ j = 2 * (e / 2 ^ (j + 1)) + e / 2 ^ j % 2 := by
  rw [Nat.pow_succ, ← Nat.div_div_eq_div_mul]; omega
theorem nb_gb {n : Nat} (h : n < GB) : nb n ≤ 8 * 160 := (nb_le _ _).2 (Nat.lt_of_lt_of_eq h (Nat.pow_mul 2 8 160).symm)
theorem pred_j (j : Nat) : ((j + 1 : Nat) : Int) - 1 = (j : Int) := by omega
theorem pow_loop {p b e : Nat} (hp : p < GB) (h1 : 1 < p) (hb : b < GB) (he : Sm e) : ∀ j : Nat, j ≤ 1280 → Av (fun k => impl_prime_pow.l0 k (D p) (D b) (D e) (D (b ^ (e / 2 ^ j) % p)) ((j : Int) - 1)) (D (b ^ e % p))
  | 0, hj => by
    refine Av.succ ?_
    simp only [impl_prime_pow.l0]
    refine Av.ifn (by decide) (Av.ret' ?_)
    rw [Nat.pow_zero, Nat.div_one]
  | j + 1, hj => by
    have ih := pow_loop hp h1 hb he j (Nat.le_of_succ_le hj)
    have p0 : 0 < p := Nat.lt_trans (by decide) h1
    have hlt : ∀ n, b ^ n % p < GB := fun n => Nat.lt_trans (Nat.mod_lt _ p0) hp
    have hm := half_pow e j
    have w : wrap64 ((j : Int) - 1) = (j : Int) - 1 := wr (by omega) (by omega)
    have hsq := mul_f (p := p) (a := b ^ (e / 2 ^ (j + 1)) % p) (b := b ^ (e / 2 ^ (j + 1)) % p) hp (hlt _) (hlt _) p0
    rw [sq_mod] at hsq
    have hml := mul_f (p := p) (a := b ^ (2 * (e / 2 ^ (j + 1))) % p) (b := b) hp (hlt _) hb p0
    rw [ml_mod] at hml
    have hbit := bit_f e j (by have := he.1; omega) (by omega)
    refine Av.succ ?_
    rw [pred_j]
    simp only [impl_prime_pow.l0, w]
    refine Av.ifp (Int.natCast_nonneg _) (Av.bind hsq (Av.bindc hbit ?_))
    by_cases c : e / 2 ^ j % 2 = 1
    · rw [c] at hm
      rw [hm] at ih
      exact Av.ifp (by rw [c]; rfl) (Av.bind hml ih)
    · have c0 : e / 2 ^ j % 2 = 0 := by omega
      rw [c0, Nat.add_zero] at hm
      rw [hm] at ih
      exact Av.ifn (by rw [c0]; decide) ih
theorem pow_f {p b e : Nat} (hp : p < GB) (h1 : 1 < p) (hb : b < GB) (he : e < GB) : Av (fun k => impl_prime_pow.f k (D p) (D b) (D e)) (D (b ^ e % p)) := by
  unfold impl_prime_pow.f
  have p0 : 0 < p := Nat.lt_trans (by decide) h1
  have hn := nb_gb he
  have w : wrap64 ((nb e : Int) - 1) = (nb e : Int) - 1 := wr (by omega) (by omega)
  have hl := pow_loop hp h1 hb (Sm.gb he) (nb e) hn
  rw [Nat.div_eq_of_lt ((nb_le _ _).1 (Nat.le_refl _)), Nat.pow_zero, ← w] at hl
  exact Av.bind D_one' (Av.bind (rest_f (Sm.of (j := 1) (by decide) (by decide)) (Sm.gb hp) p0) (Av.bind (size_f e (by have := (Sm.gb he).1; omega)) hl))
theorem pow_loop_s {p b : Nat} {s : ByteArray} (hp : p < GB) (h1 : 1 < p) (hb : b < GB) (hs : gok s = true) : ∀ j : Nat, j ≤ 1280 → Av (fun k => spec_l04Pow.l0 k (E b) s (E p) (E (b ^ (bv s / 2 ^ j) % p)) ((j : Int) - 1)) (E (b ^ bv s % p))
  | 0, hj => by
    refine Av.succ ?_
    simp only [spec_l04Pow.l0]
    refine Av.ifn (by decide) (Av.ret' ?_)
    rw [Nat.pow_zero, Nat.div_one]
  | j + 1, hj => by
    have ih := pow_loop_s hp h1 hb hs j (Nat.le_of_succ_le hj)
    have p0 : 0 < p := Nat.lt_trans (by decide) h1
    have hlt : ∀ n, b ^ n % p < GB := fun n => Nat.lt_trans (Nat.mod_lt _ p0) hp
    have hm := half_pow (bv s) j
    have w : wrap64 ((j : Int) - 1) = (j : Int) - 1 := wr (by omega) (by omega)
    have hsq := mul4_s (p := p) (a := b ^ (bv s / 2 ^ (j + 1)) % p) (b := b ^ (bv s / 2 ^ (j + 1)) % p) hp (hlt _) (hlt _) p0
    rw [sq_mod] at hsq
    have hml := mul4_s (p := p) (a := b ^ (2 * (bv s / 2 ^ (j + 1))) % p) (b := b) hp (hlt _) hb p0
    rw [ml_mod] at hml
    have hbit := bitof_s s hs j (by omega)
    refine Av.succ ?_
    rw [pred_j]
    simp only [spec_l04Pow.l0, w]
    refine Av.ifp (Int.natCast_nonneg _) (Av.bind hsq (Av.bindc hbit ?_))
    by_cases c : bv s / 2 ^ j % 2 = 1
    · rw [c] at hm
      rw [hm] at ih
      exact Av.ifp (by rw [c]; rfl) (Av.bind hml ih)
    · have c0 : bv s / 2 ^ j % 2 = 0 := by omega
      rw [c0, Nat.add_zero] at hm
      rw [hm] at ih
      exact Av.ifn (by rw [c0]; decide) ih
theorem pow_s {p b : Nat} {s : ByteArray} (hp : p < GB) (h1 : 1 < p) (hb : b < GB) (hs : gok s = true) : Av (fun k => spec_l04Pow.f k (E b) s (E p)) (E (b ^ bv s % p)) := by
  unfold spec_l04Pow.f
  have p0 : 0 < p := Nat.lt_trans (by decide) h1
  have hn := nb_gb (bv_gb hs)
  have w : wrap64 ((nb (bv s) : Int) - 1) = (nb (bv s) : Int) - 1 := wr (by omega) (by omega)
  have hl := pow_loop_s hp h1 hb hs (nb (bv s)) hn
  rw [Nat.div_eq_of_lt ((nb_le _ _).1 (Nat.le_refl _)), Nat.pow_zero, ← w] at hl
  have hd := div_s' (a := 1) (b := p) (Sm.of (j := 1) (by decide) (by decide)) (Sm.gb hp) p0
  rw [E_one] at hd
  exact Av.bind hd (Av.bind (bitsof_s s hs) hl)
/-- What PowRest answers. -/
def pwv (a e p : ByteArray) : ByteArray := if mok p && rok a p && gok e then bts (bv a ^ bv e % bv p) else (⟨#[]⟩ : ByteArray)
theorem powrest_s (a e p : ByteArray) : Av (fun k => spec_PowRest.f k a e p) (pwv a e p) := by
  unfold spec_PowRest.f pwv
  have jT : Av (fun k => spec_PowRest.j0 k a e p true) (⟨#[]⟩ : ByteArray) := by
    refine Av.succ ?_
    simp only [spec_PowRest.j0]
    exact Av.ifp (by decide) Av.ret
  refine Av.bindc (mod_s p) ?_
  cases hm : mok p with
  | false => exact Av.ifn (by decide) jT
  | true =>
    refine Av.ifp rfl (Av.bind (restok_s a p) ?_)
    cases hr : rok a p with
    | false => exact Av.ifn (by decide) jT
    | true =>
      refine Av.ifp rfl (Av.bindc (gok_s e) ?_)
      cases hg : gok e with
      | false => exact jT
      | true =>
        obtain ⟨hgp, h1⟩ := mok_iff.1 hm
        obtain ⟨hga, _, la⟩ := rok_iff.1 hr
        have s1 := gok_size' hga
        have s3 := gok_size' hgp
        have hlt := Nat.mod_lt (bv a ^ bv e) (show 0 < bv p by omega)
        refine Av.succ ?_
        simp only [spec_PowRest.j0]
        exact Av.ifn (by decide) (Av.bind (in_s a (by omega)) (Av.bind (in_s p (by omega)) (Av.bind (pow_s (bv_gb hgp) h1 (bv_gb hga) hg) (Av.bind (out_s' ((Sm.gb (bv_gb hgp)).le (Nat.le_of_lt hlt))) (Av.ret' rfl)))))
theorem one_ok {a p : ByteArray} : (mok p && [a].all (fun s => rok s p)) = (mok p && rok a p) := by simp
theorem powrest_f (a e p : ByteArray) (hp : p.size < 281474976710656) : Av (fun k => impl_PowRest.f k a e p) (pwv a e p) := by
  unfold impl_PowRest.f pwv
  have jT : ∀ x, Av (fun k => impl_PowRest.j0 k a e x true) (⟨#[]⟩ : ByteArray) := fun x => by
    refine Av.succ ?_
    simp only [impl_PowRest.j0]
    exact Av.ifp (by decide) Av.ret
  have hmod := mod_f p [a] hp (by simp)
  rw [one_ok] at hmod
  refine Av.bind hmod ?_
  cases h : mok p && rok a p with
  | false => exact Av.ifn (by simp) (jT _)
  | true =>
    refine Av.ifp rfl (Av.bindc (gok_f e) ?_)
    cases hg : gok e with
    | false => exact jT _
    | true =>
      simp only [Bool.and_eq_true] at h
      obtain ⟨hm, hr⟩ := h
      obtain ⟨hgp, h1⟩ := mok_iff.1 hm
      obtain ⟨hga, _, la⟩ := rok_iff.1 hr
      have s1 := gok_size' hga
      have s2 := gok_size' hg
      have hlt := Nat.mod_lt (bv a ^ bv e) (show 0 < bv p by omega)
      refine Av.succ ?_
      simp only [impl_PowRest.j0]
      exact Av.ifn (by decide) (Av.bind (natOf_f a (by omega)) (Av.bind (natOf_f e (by omega)) (Av.bind (pow_f (bv_gb hgp) h1 (bv_gb hga) (bv_gb hg)) (Av.bind (text_f' ((Sm.gb (bv_gb hgp)).le (Nat.le_of_lt hlt))) (Av.ret' rfl)))))
theorem limbs_w (n : Nat) (h : n ≤ 160) : wrap64 (Int.tdiv (wrap64 ((n : Int) + 2)) 3) = (((n + 2) / 3 : Nat) : Int) := by
  have e : wrap64 ((n : Int) + 2) = ((n + 2 : Nat) : Int) := by rw [wr (by omega) (by omega)]; omega
  have e2 : Int.tdiv ((n + 2 : Nat) : Int) 3 = (((n + 2) / 3 : Nat) : Int) := by rw [td (Int.natCast_nonneg _)]; omega
  rw [e, e2, wr (by omega) (by omega)]
theorem limbs_s {s : ByteArray} (h : gok s = true) : spec_LimbsOf.f s = some (((s.size + 2) / 3 : Nat) : Int) := by
  unfold spec_LimbsOf.f
  rw [gok_s, Option.bind_some, if_pos h, limbs_w _ (gok_size' h)]
theorem limbs_f {s : ByteArray} (h : gok s = true) : impl_LimbsOf.f s = some (((s.size + 2) / 3 : Nat) : Int) := by
  unfold impl_LimbsOf.f
  rw [gok_f, Option.bind_some, if_pos h, limbs_w _ (gok_size' h)]
/-- The limbs that p takes. -/
def lbs (p : ByteArray) : Nat := (p.size + 2) / 3
theorem lbs_le {p : ByteArray} (h : gok p = true) : lbs p ≤ 54 := by have := gok_size' h; unfold lbs; omega
theorem E_pow (L : Nat) : (List.replicate (L + 1) (0 : Int)).set L 1 = E (16777216 ^ L) := by
  have hl : L < (List.replicate (L + 1) (0 : Int)).length := by rw [List.length_replicate]; exact Nat.lt_succ_self L
  have hz := vl_set 16777216 (List.replicate (L + 1) 0) L 1 hl
  rw [vl_zeros] at hz
  have hg : (List.replicate (L + 1) (0 : Int)).getD L 0 = 0 := by
    rw [List.getD_eq_getElem?_getD, List.getElem?_replicate]; simp
  rw [hg, Int.sub_zero, Int.one_mul, Int.zero_add] at hz
  refine dg_of_len (by decide) (digs_set (digs_zeros (by decide) _) ⟨by decide, by decide⟩) (n := 16777216 ^ L) ?_ ?_
  · rw [hz, Int.natCast_pow]
  · rw [List.length_set, List.length_replicate]
    exact (E_lt L _).2 (Nat.le_refl _)
theorem Sm_pow {L : Nat} (h : L ≤ 54) : Sm (16777216 ^ L) := Sm.of (j := 3 * L + 1) (by
  rw [Nat.pow_succ, Nat.pow_mul]
  have : 0 < 16777216 ^ L := Nat.pow_pos (by decide)
  show 16777216 ^ L < 16777216 ^ L * 256
  omega) (by omega)
/-- A one above the limbs of p, as a rest. -/
def shf (p : ByteArray) : Nat := 16777216 ^ lbs p % bv p
theorem shf_lt {p : ByteArray} (h : 0 < bv p) : shf p < bv p := Nat.mod_lt _ h
theorem l05shift_s {p : ByteArray} (hg : gok p = true) (h0 : 0 < bv p) : Av (fun k => spec_l05Shift.f k p) (E (shf p)) := by
  unfold spec_l05Shift.f shf
  have hL := lbs_le hg
  have hs := gok_size' hg
  have hlim : spec_LimbsOf.f p = some ((lbs p : Nat) : Int) := limbs_s hg
  have w : wrap64 (((lbs p : Nat) : Int) + 1) = ((lbs p + 1 : Nat) : Int) := wrap_one (by omega)
  refine Av.bindc hlim ?_
  rw [w, Int.toNat_natCast]
  refine Av.ifp (Int.natCast_nonneg _) (Av.ifp (by omega) (Av.bindc rfl (Av.bindc hlim ?_)))
  rw [Int.toNat_natCast, List.length_replicate, E_pow]
  exact Av.ifp (Int.natCast_nonneg _) (Av.ifp (Int.ofNat_lt.2 (Nat.lt_succ_self _)) (Av.bind (in_s p (by omega)) (Av.bind (div_s' (Sm_pow hL) (Sm.gb (bv_gb hg)) h0) Av.ret)))
theorem pshift_f {p : ByteArray} (hg : gok p = true) (h1 : 1 < bv p) : Av (fun k => impl_prime_shift.f k (D (bv p))) (D (shf p)) := by
  unfold impl_prime_shift.f
  have hL := lbs_le hg
  have hgb := bv_gb hg
  have htx := text_f' (Sm.gb hgb)
  rw [bts_of hg] at htx
  have hlim : impl_LimbsOf.f p = some ((lbs p : Nat) : Int) := limbs_f hg
  have w : wrap64 (24 * ((lbs p : Nat) : Int)) = ((24 * lbs p : Nat) : Int) := by
    rw [wr (by omega) (by omega)]; omega
  have hs2 := small_f 2 (by decide)
  have hsL := small_f (24 * lbs p) (by omega)
  rw [← w] at hsL
  have hb2 : 2 < GB := by decide
  have hbL : 24 * lbs p < GB := Nat.lt_of_le_of_lt (Nat.mul_le_mul_left 24 hL) (by decide)
  have hp := pow_f hgb h1 hb2 hbL
  have e : 2 ^ (24 * lbs p) % bv p = shf p := by
    unfold shf; rw [Nat.pow_mul]
  rw [e] at hp
  exact Av.bind hs2 (Av.bind htx (Av.bindc hlim (Av.bind hsL (Av.bind hp Av.ret))))
/-- May p's number be an odd modulus? -/
def odk (p : ByteArray) : Bool := mok p && (bv p % 2 == 1)
theorem odd_s (p : ByteArray) : spec_l05Odd.f p = some (odk p) := by
  unfold spec_l05Odd.f odk
  rw [mod_s, Option.bind_some]
  cases h : mok p with
  | false => rfl
  | true =>
    rw [if_pos rfl]
    have hb := bitof_s p (mok_iff.1 h).1 0 (by decide)
    rw [Nat.pow_zero, Nat.div_one] at hb
    have hb' : spec_BitOf.f p 0 = some ((bv p % 2 : Nat) : Int) := hb
    rw [hb', Option.bind_some, Bool.true_and]
    congr 1
    rw [Bool.eq_iff_iff, beq_iff_eq, beq_iff_eq]
    omega
theorem odd_f (p : ByteArray) (l : List ByteArray) (hp : p.size < 281474976710656) (hl : l.length < 1000000) : ∃ x, Av (fun k => impl_odd.f k p l) (x, odk p && l.all (fun s => rok s p)) ∧ ((odk p && l.all (fun s => rok s p)) = true → x = D (bv p)) := by
  unfold impl_odd.f odk
  have hmod := mod_f p l hp hl
  cases h : mok p with
  | false =>
    rw [h] at hmod
    exact ⟨[], Av.bind hmod (Av.ifn (by simp) (Av.ret' rfl)), fun h => by simp at h⟩
  | true =>
    rw [h] at hmod
    have hg := (mok_iff.1 h).1
    have hev := even_f' (Sm.gb (bv_gb hg))
    cases ha : l.all (fun s => rok s p) with
    | false =>
      rw [ha] at hmod
      refine ⟨[], Av.bind hmod (Av.ifn (by simp) (Av.ret' ?_)), fun h => by simp at h⟩
      simp
    | true =>
      rw [ha] at hmod
      refine ⟨D (bv p), Av.bind hmod (Av.ifp rfl (Av.bindc hev (Av.ret' ?_))), fun _ => rfl⟩
      congr 1
      rw [Bool.true_and, Bool.and_true, Bool.eq_iff_iff, Bool.not_eq_true', beq_eq_false_iff_ne, beq_iff_eq]
      omega
theorem odk_iff {p : ByteArray} : odk p = true ↔ mok p = true ∧ bv p % 2 = 1 := by simp [odk]
/-- What ShiftOf answers. -/
def sov (p : ByteArray) : ByteArray := if odk p then bts (shf p) else (⟨#[]⟩ : ByteArray)
theorem shiftof_s (p : ByteArray) : Av (fun k => spec_ShiftOf.f k p) (sov p) := by
  unfold spec_ShiftOf.f sov
  refine Av.bindc (odd_s p) ?_
  cases h : odk p with
  | false => exact Av.ifn (by decide) Av.ret
  | true =>
    obtain ⟨hm, ho⟩ := odk_iff.1 h
    obtain ⟨hg, h1⟩ := mok_iff.1 hm
    have h0 : 0 < bv p := Nat.lt_trans (by decide) h1
    exact Av.ifp rfl (Av.bind (l05shift_s hg h0) (Av.bind (out_s' ((Sm.gb (bv_gb hg)).le (Nat.le_of_lt (shf_lt h0)))) (Av.ret' rfl)))
theorem shiftof_f (p : ByteArray) (hp : p.size < 281474976710656) : Av (fun k => impl_ShiftOf.f k p) (sov p) := by
  unfold impl_ShiftOf.f sov
  obtain ⟨x, hod, hx⟩ := odd_f p [] hp (by simp)
  rw [List.all_nil, Bool.and_true] at hod hx
  refine Av.bind hod ?_
  cases h : odk p with
  | false => exact Av.ifn (by simp) Av.ret
  | true =>
    rw [hx h]
    obtain ⟨hm, ho⟩ := odk_iff.1 h
    obtain ⟨hg, h1⟩ := mok_iff.1 hm
    have h0 : 0 < bv p := Nat.lt_trans (by decide) h1
    exact Av.ifp rfl (Av.bind (pshift_f hg h1) (Av.bind (text_f' ((Sm.gb (bv_gb hg)).le (Nat.le_of_lt (shf_lt h0)))) (Av.ret' rfl)))
/-- What ShiftIn answers. -/
def siv (a p : ByteArray) : ByteArray := if odk p && rok a p then bts (mulm (bv p) (bv a) (shf p)) else (⟨#[]⟩ : ByteArray)
theorem shiftin_s (a p : ByteArray) : Av (fun k => spec_ShiftIn.f k a p) (siv a p) := by
  unfold spec_ShiftIn.f siv
  have jT : Av (fun k => spec_ShiftIn.j0 k a p true) (⟨#[]⟩ : ByteArray) := by
    refine Av.succ ?_
    simp only [spec_ShiftIn.j0]
    exact Av.ifp (by decide) Av.ret
  refine Av.bindc (odd_s p) ?_
  cases h : odk p with
  | false => exact Av.ifn (by decide) jT
  | true =>
    refine Av.ifp rfl (Av.bind (restok_s a p) ?_)
    cases hr : rok a p with
    | false => exact jT
    | true =>
      obtain ⟨hm, ho⟩ := odk_iff.1 h
      obtain ⟨hg, h1⟩ := mok_iff.1 hm
      have h0 : 0 < bv p := Nat.lt_trans (by decide) h1
      have hga := (rok_iff.1 hr).1
      have s1 := gok_size' hga
      have s3 := gok_size' hg
      have hsf := Nat.lt_trans (shf_lt h0) (bv_gb hg)
      refine Av.succ ?_
      simp only [spec_ShiftIn.j0]
      exact Av.ifn (by decide) (Av.bind (in_s a (by omega)) (Av.bind (l05shift_s hg h0) (Av.bind (in_s p (by omega)) (Av.bind (mul4_s (bv_gb hg) (bv_gb hga) hsf h0) (Av.bind (out_s' ((Sm.gb (bv_gb hg)).le (Nat.le_of_lt (mulm_lt _ _ h0)))) (Av.ret' rfl))))))
theorem shiftin_f (a p : ByteArray) (hp : p.size < 281474976710656) : Av (fun k => impl_ShiftIn.f k a p) (siv a p) := by
  unfold impl_ShiftIn.f siv
  obtain ⟨x, hod, hx⟩ := odd_f p [a] hp (by simp)
  have e : [a].all (fun s => rok s p) = rok a p := by simp
  rw [e] at hod hx
  refine Av.bind hod ?_
  cases h : odk p && rok a p with
  | false => exact Av.ifn (by simp) Av.ret
  | true =>
    rw [hx h]
    rw [Bool.and_eq_true] at h
    obtain ⟨ho, hr⟩ := h
    obtain ⟨hm, _⟩ := odk_iff.1 ho
    obtain ⟨hg, h1⟩ := mok_iff.1 hm
    have h0 : 0 < bv p := Nat.lt_trans (by decide) h1
    have hga := (rok_iff.1 hr).1
    have s1 := gok_size' hga
    have hsf := Nat.lt_trans (shf_lt h0) (bv_gb hg)
    exact Av.ifp rfl (Av.bind (natOf_f a (by omega)) (Av.bind (pshift_f hg h1) (Av.bind (mul_f (bv_gb hg) (bv_gb hga) hsf h0) (Av.bind (text_f' ((Sm.gb (bv_gb hg)).le (Nat.le_of_lt (mulm_lt _ _ h0)))) (Av.ret' rfl)))))
end Go.Proofs.Ytghhnjhjhjbljaa.C
