/- Words and contracts that the laws of this claim lean on: numbers as limbs, and what the functions make of them. Conditions: those named in each theorem. -/
import Derived.Test.YtghhnjhjhjbljaaOwnWords
import Derived.Test.YtghhnjhjhjbljaaYB3
import Derived.Test.YtghhnjhjhjbljaaZB1
import Derived.Test.YtghhnjhjhjbljaaZB3
import Derived.Test.YtghhnjhjhjbljaaZB5
import Derived.Test.YtghhnjhjhjbljaaZB6
import Derived.Test.YtghhnjhjhjbljaaZB7
set_option linter.unusedVariables false
set_option linter.unusedSimpArgs false
set_option maxRecDepth 100000
namespace Go.Proofs.Ytghhnjhjhjbljaa.C
open Go.RowKit Go.Proofs.YtghhnjhjhjbljaaW.PrintWords Go.Proofs.YtghhnjhjhjbljaaW.PrintLast Go.Proofs.YtghhnjhjhjbljaaW.PrintMore
open Go.Proofs.Ytghhnjhjhjbljaa.M Go.Proofs.Ytghhnjhjhjbljaa.F
theorem l1_s (a b n : Nat) (hn : 2 ≤ n) (hb : (E b).length = n) (hab : b ≤ a) (hl : (E a).length < 17592186044415) : ∀ (d s : Nat), 24 - s = d → s ≤ 23 → b / 16777216 ^ (n - 1) < 2 ^ (24 - s) → Av (fun k => spec_l02Div.l1 k (E a) (E b) n s) (E (a / b), E (a % b))
  | 0, s, hd, hs, ht => by omega
  | d + 1, s, hd, hs, ht => by
    have hV1 : 16777216 ^ (n - 1) ≤ b := (E_lt (n - 1) b).1 (by rw [hb]; omega)
    have hV2 : b < 16777216 ^ n := (E_le n b).1 (by rw [hb]; exact Nat.le_refl _)
    have hb0 : 0 < b := Nat.lt_of_lt_of_le (Nat.pow_pos (by decide)) hV1
    have hnl : n ≤ (E a).length := by rw [← hb]; exact E_mono hab
    have htop : b / 16777216 ^ (n - 1) < 16777216 := by
      rw [Nat.div_lt_iff_lt_mul (Nat.pow_pos (by decide)), Nat.mul_comm, ← Nat.pow_succ, show (n - 1).succ = n by omega]; exact hV2
    have htop0 : 0 < b / 16777216 ^ (n - 1) := Nat.div_pos hV1 (Nat.pow_pos (by decide))
    have rt := rdE b (n - 1)
    rw [Nat.mod_eq_of_lt htop] at rt
    have hsh := shl_i64 (x := b / 16777216 ^ (n - 1)) hs htop
    have j3 : 1 ≤ n := by omega
    have j4 : n < 4611686018427387904 := by omega
    have j7 : ((n - 1 : Nat) : Int) < (E b).length := by rw [hb]; omega
    have j8 : (((E a).length + 1 : Nat) : Int) - (n : Int) = (((E a).length + 1 - n : Nat) : Int) := by omega
    have j9 : (E a).length + 1 < 4611686018427387904 := by omega
    have j10 : n ≤ (E a).length + 1 := by omega
    have j11 : (E a).length + 1 - n < 17592186044416 := by omega
    have j12 : (E a).length + 1 - n ≤ 35184372088832 := by omega
    have j13 : (E a).length + 1 - n < 4611686018427387904 := by omega
    have j14 : 1 ≤ (E a).length + 1 - n := by omega
    have j15 : ((E a).length + 1 - n - 1 : Nat) = (E a).length - n := by omega
    have j16 : (E a).length + 1 - n + n ≤ (E a).length + 1 := by omega
    have j17 : n < (E a).length + 1 := by omega
    have j18 : (E a).length + 1 < 17592186044416 := by omega
    have j19 : s < 4611686018427387904 := by omega
    have j20 : (((E a).length + 1 - n : Nat) : Int) - 1 = (((E a).length + 1 - n - 1 : Nat) : Int) := by omega
    have w1 : wrap64 ((n : Int) - 1) = ((n - 1 : Nat) : Int) := wrap_pred j4 j3
    have ws : IntKind.u64.wrap ((s : Int) + 1) = ((s + 1 : Nat) : Int) := by clear w1 rt hsh; rw [ur (by omega) (by omega)]; omega
    refine Av.succ ?_
    simp only [spec_l02Div.l1, w1, rt, hsh, ws]
    refine Av.ifp (Int.natCast_nonneg _) (Av.ifp j7 (Av.ifp (Int.natCast_nonneg _) ?_))
    by_cases hlow : b / 16777216 ^ (n - 1) * 2 ^ s < 8388608
    · have hs23 : s ≠ 23 := by
        rintro rfl
        have := Nat.mul_le_mul_right (2 ^ 23) htop0
        omega
      have ht2 : b / 16777216 ^ (n - 1) < 2 ^ (24 - (s + 1)) := by
        have e : (8388608 : Nat) = 2 ^ (24 - (s + 1)) * 2 ^ s := by
          rw [← Nat.pow_add, show 24 - (s + 1) + s = 23 by omega]
        rw [e] at hlow
        exact Nat.lt_of_mul_lt_mul_right hlow
      refine Av.ifp (Int.ofNat_lt.2 hlow) ?_
      exact l1_s a b n hn hb hab hl d (s + 1) (by clear w1 ws rt hsh j8 j20; omega) (by clear w1 ws rt hsh j8 j20; omega) ht2
    · refine Av.ifn (fun h => hlow (Int.ofNat_lt.1 h)) ?_
      have hP : 0 < 2 ^ s := Nat.pow_pos (by decide)
      have hVlt : b * 2 ^ s < 16777216 ^ n := by
        rw [Nat.div_lt_iff_lt_mul (Nat.pow_pos (by decide))] at ht
        have h1 := Nat.mul_lt_mul_of_pos_right ht hP
        have e : 2 ^ (24 - s) * 16777216 ^ (n - 1) * 2 ^ s = 16777216 ^ n := by
          have e1 : 2 ^ (24 - s) * 16777216 ^ (n - 1) * 2 ^ s = 2 ^ (24 - s) * 2 ^ s * 16777216 ^ (n - 1) := by grind
          rw [e1, ← Nat.pow_add, show 24 - s + s = 24 by omega, ← W24, Nat.mul_comm, ← Nat.pow_succ, show (n - 1).succ = n by omega]
        rw [e] at h1; exact h1
      have hVge : 16777216 ^ (n - 1) ≤ b * 2 ^ s := Nat.le_trans hV1 (Nat.le_mul_of_pos_right _ hP)
      have hVlen : (E (b * 2 ^ s)).length = n := by
        have h1 := (E_le n (b * 2 ^ s)).2 hVlt
        have h2 := (E_lt (n - 1) (b * 2 ^ s)).2 hVge
        clear w1 ws rt hsh j8 j20; omega
      have hbl : (E b).length < 17592186044415 := by rw [hb]; clear w1 ws rt hsh j8 j20; omega
      have hub := fx_upto (B := 16777216) (by decide) (L := (E b).length + 1) (n := b * 2 ^ s) (k := n) hVlt (by rw [hb]; exact Nat.le_succ n)
      have htr := trim_s' (n := b * 2 ^ s) hub.digs (by rw [fx_length, hb]; clear w1 ws rt hsh j8 j20; omega) hub.val
      have hAl : a < 16777216 ^ (E a).length := (E_le _ a).1 (Nat.le_refl _)
      have hAlt : a * 2 ^ s < 16777216 ^ ((E a).length + 1) := by
        have h1 := Nat.mul_lt_mul_of_pos_right hAl hP
        have h2 : 2 ^ s ≤ 16777216 := by
          have : 2 ^ s ≤ 2 ^ 24 := Nat.pow_le_pow_right (by decide) (Nat.le_trans hs (by decide))
          clear w1 ws rt hsh j8 j20; omega
        rw [Nat.pow_succ]
        exact Nat.lt_of_lt_of_le h1 (Nat.mul_le_mul_left _ h2)
      have hua := fx_upto (B := 16777216) (by decide) (L := (E a).length + 1) (n := a * 2 ^ s) (k := (E a).length + 1) hAlt (Nat.le_refl _)
      have hAV : a * 2 ^ s < b * 2 ^ s * 16777216 ^ ((E a).length + 1 - n) := by
        have h1 := Nat.mul_lt_mul_of_pos_right hAl hP
        have h2 : 16777216 ^ (E a).length = 16777216 ^ (n - 1) * 16777216 ^ ((E a).length + 1 - n) := by
          rw [← Nat.pow_add]; congr 1; clear w1 ws rt hsh j8 j20; omega
        rw [h2] at h1
        have h3 : 16777216 ^ (n - 1) * 16777216 ^ ((E a).length + 1 - n) * 2 ^ s ≤ b * 16777216 ^ ((E a).length + 1 - n) * 2 ^ s := Nat.mul_le_mul_right _ (Nat.mul_le_mul_right _ hV1)
        have e : b * 16777216 ^ ((E a).length + 1 - n) * 2 ^ s = b * 2 ^ s * 16777216 ^ ((E a).length + 1 - n) := by grind
        rw [e] at h3
        exact Nat.lt_of_lt_of_le h1 h3
      have hD : Dv 16777216 (a * 2 ^ s) (b * 2 ^ s) ((E a).length + 1 - n) (a * 2 ^ s) (0 * 16777216 ^ ((E a).length + 1 - n)) := by rw [Nat.zero_mul]; exact Dv.start hAV
      have hz := Rp.zeros (B := 16777216) (by decide) ((E a).length + 1 - n)
      have hVs : b * 2 ^ s ≤ 2 ^ s * 16777216 ^ n := by
        rw [Nat.mul_comm]; exact Nat.mul_le_mul_left _ (Nat.le_of_lt hV2)
      have key := l2_s (s := s) hs hn hVlen j18 hVs ((E a).length + 1 - n) (a * 2 ^ s) 0 (fx 16777216 ((E a).length + 1) (a * 2 ^ s)) (List.replicate ((E a).length + 1 - n) 0) hD ⟨fx_length _ _ _, hua.digs, hua.val⟩ (by rw [Nat.zero_mul]; exact hz) (Nat.le_refl _) j16 j11 j17
      have ed : a * 2 ^ s / (b * 2 ^ s) = a / b := Nat.mul_div_mul_right _ _ hP
      have em : a * 2 ^ s % (b * 2 ^ s) / 2 ^ s = a % b := by
        rw [Nat.mul_mod_mul_right, Nat.mul_div_cancel _ hP]
      rw [ed, em] at key
      have w5 : wrap64 (((E a).length + 1 : Nat) : Int) = (((E a).length + 1 : Nat) : Int) := by
        have := wrap_add (a := (E a).length + 1) (b := 0) j9
        simpa using this
      have w6 : wrap64 ((((E a).length + 1 : Nat) : Int) - (n : Int)) = (((E a).length + 1 - n : Nat) : Int) := wrap_less j9 j10
      have w7 : wrap64 ((((E a).length + 1 - n : Nat) : Int) - 1) = (((E a).length + 1 - n - 1 : Nat) : Int) := wrap_pred j13 j14
      refine Av.bind (left_s a s hs hl) (Av.bind (left_s b s hs hbl) (Av.bind htr ?_))
      simp only [fx_length, w6, w7, Int.toNat_natCast]
      refine Av.ifp (Int.natCast_nonneg _) (Av.ifp j12 ?_)
      rw [← j20]
      exact key
theorem div_s (a b : Nat) (hb0 : 0 < b) (ha : (E a).length < 17592186044415) (hb : (E b).length < 17592186044415) : Av (fun k => spec_l02Div.f k (E a) (E b)) (E (a / b), E (a % b)) := by
  by_cases h : a < b
  · exact div_less a b (Nat.lt_succ_of_lt ha) (Nat.lt_succ_of_lt hb) h
  · by_cases h1 : (E b).length ≤ 1
    · exact div1_s a b hb0 (by have := (E_le 1 b).1 h1; simpa using this) (Nat.lt_succ_of_lt ha)
    · have h2 : 2 ≤ (E b).length := by omega
      have hV2 : b < 16777216 ^ (E b).length := (E_le _ b).1 (Nat.le_refl _)
      have hk := l1_s a b (E b).length h2 rfl (Nat.le_of_not_lt h) ha 24 0 rfl (by decide) (by
        rw [Nat.div_lt_iff_lt_mul (Nat.pow_pos (by decide))]
        have e : (2 : Nat) ^ (24 - 0) * 16777216 ^ ((E b).length - 1) = 16777216 ^ (E b).length := by
          have : (E b).length = (E b).length - 1 + 1 := by omega
          conv => rhs; rw [this, Nat.pow_succ]
          rw [Nat.mul_comm]
        rw [e]; exact hV2)
      unfold spec_l02Div.f
      refine Av.bind (cmp_s a b (by omega) (by omega)) (Av.ifn ?_ (Av.ifn (by omega) hk))
      unfold sgn; rw [if_neg h]; split <;> decide
theorem over_f' {a b : Nat} (ha : Sm a) (hb : Sm b) (h : 0 < b) : Av (fun k => impl_nat_over.f k (D a) (D b)) (D (a / b), D (a % b)) := over_f a b h (by have := ha.1; omega) (by have := hb.1; omega)
theorem div_s' {a b : Nat} (ha : Sm a) (hb : Sm b) (h : 0 < b) : Av (fun k => spec_l02Div.f k (E a) (E b)) (E (a / b), E (a % b)) := div_s a b h (by have := ha.2; omega) (by have := hb.2; omega)
theorem Sm.mul {a b : Nat} (ha : a < GB) (hb : b < GB) : Sm (a * b) := Sm.of (j := 160 + 160) (by
  have h : a * b < GB * GB := Nat.lt_of_le_of_lt (Nat.mul_le_mul_left _ (Nat.le_of_lt hb)) (Nat.mul_lt_mul_of_pos_right ha (Nat.lt_of_le_of_lt (Nat.zero_le _) hb))
  exact Nat.lt_of_lt_of_eq h (Nat.pow_add 256 160 160).symm) (by decide)
theorem rest_f {a b : Nat} (ha : Sm a) (hb : Sm b) (h : 0 < b) : Av (fun k => impl_nat_rest.f k (D a) (D b)) (D (a % b)) := by
  unfold impl_nat_rest.f
  exact Av.bind (over_f' ha hb h) Av.ret
/-- The product of two rests. -/
def mulm (p a b : Nat) : Nat := a * b % p
theorem mulm_lt {p : Nat} (a b : Nat) (hp : 0 < p) : mulm p a b < p := Nat.mod_lt _ hp
theorem mul_f {p a b : Nat} (hp : p < GB) (ha : a < GB) (hb : b < GB) (h0 : 0 < p) : Av (fun k => impl_prime_mul.f k (D p) (D a) (D b)) (D (mulm p a b)) := by
  unfold impl_prime_mul.f
  have h1 := (Sm.gb ha).1
  have h2 := (Sm.gb hb).1
  exact Av.bind (times_f a b (by omega)) (Av.bind (rest_f (Sm.mul ha hb) (Sm.gb hp) h0) Av.ret)
theorem mul4_s {p a b : Nat} (hp : p < GB) (ha : a < GB) (hb : b < GB) (h0 : 0 < p) : Av (fun k => spec_l04Mul.f k (E a) (E b) (E p)) (E (mulm p a b)) := by
  unfold spec_l04Mul.f
  have h1 := (Sm.gb ha).2
  have h2 := (Sm.gb hb).2
  exact Av.bind (mul_s a b (by omega)) (Av.bind (div_s' (Sm.mul ha hb) (Sm.gb hp) h0) Av.ret)
theorem mulrest_s (a b p : ByteArray) : Av (fun k => spec_MulRest.f k a b p) (two a b p mulm) := by
  unfold spec_MulRest.f two
  refine Av.bind (two_s a b p) ?_
  cases h : mok p && rok a p && rok b p with
  | false => exact Av.ifn (by decide) (Av.ret' rfl)
  | true =>
    simp only [Bool.and_eq_true] at h
    obtain ⟨⟨h1, h2⟩, h3⟩ := h
    obtain ⟨hga, hgp, la⟩ := rok_iff.1 h2
    obtain ⟨hgb, _, lb⟩ := rok_iff.1 h3
    have s1 := gok_size' hga
    have s2 := gok_size' hgb
    have s3 := gok_size' hgp
    have p0 : 0 < bv p := Nat.lt_of_le_of_lt (Nat.zero_le _) la
    exact Av.ifp (by decide) (Av.bind (in_s a (by omega)) (Av.bind (in_s b (by omega)) (Av.bind (in_s p (by omega)) (Av.bind (mul4_s (bv_gb hgp) (bv_gb hga) (bv_gb hgb) p0) (Av.bind (out_s' ((Sm.gb (bv_gb hgp)).le (Nat.le_of_lt (mulm_lt _ _ p0)))) (Av.ret' rfl))))))
theorem mulrest_f (a b p : ByteArray) (hp : p.size < 281474976710656) : Av (fun k => impl_MulRest.f k a b p) (two a b p mulm) := by
  unfold impl_MulRest.f two
  refine Av.bind (mod_f p [a, b] hp (by simp)) ?_
  rw [two_ok]
  cases h : mok p && rok a p && rok b p with
  | false => exact Av.ifn (by simp) (Av.ret' rfl)
  | true =>
    simp only [Bool.and_eq_true] at h
    obtain ⟨⟨h1, h2⟩, h3⟩ := h
    obtain ⟨hga, hgp, la⟩ := rok_iff.1 h2
    obtain ⟨hgb, _, lb⟩ := rok_iff.1 h3
    have s1 := gok_size' hga
    have s2 := gok_size' hgb
    have p0 : 0 < bv p := Nat.lt_of_le_of_lt (Nat.zero_le _) la
    exact Av.ifp (by simp) (Av.bind (natOf_f a (by omega)) (Av.bind (natOf_f b (by omega)) (Av.bind (mul_f (bv_gb hgp) (bv_gb hga) (bv_gb hgb) p0) (Av.bind (text_f' ((Sm.gb (bv_gb hgp)).le (Nat.le_of_lt (mulm_lt _ _ p0)))) (Av.ret' rfl)))))
/-- What RestOf answers. -/
def rov (a p : ByteArray) : ByteArray := if mok p && gok a then bts (bv a % bv p) else (⟨#[]⟩ : ByteArray)
theorem restof_s (a p : ByteArray) : Av (fun k => spec_RestOf.f k a p) (rov a p) := by
  unfold spec_RestOf.f rov
  have jT : Av (fun k => spec_RestOf.j0 k a p true) (⟨#[]⟩ : ByteArray) := by
    refine Av.succ ?_
    simp only [spec_RestOf.j0]
    exact Av.ifp (by decide) Av.ret
  refine Av.bindc (mod_s p) ?_
  cases hm : mok p with
  | false => exact Av.ifn (by decide) jT
  | true =>
    refine Av.ifp rfl (Av.bindc (gok_s a) ?_)
    cases hg : gok a with
    | false => exact jT
    | true =>
      obtain ⟨hgp, h1⟩ := mok_iff.1 hm
      have s1 := gok_size' hg
      have s3 := gok_size' hgp
      have hlt := Nat.mod_lt (bv a) (show 0 < bv p by omega)
      refine Av.succ ?_
      simp only [spec_RestOf.j0]
      exact Av.ifn (by decide) (Av.bind (in_s a (by omega)) (Av.bind (in_s p (by omega)) (Av.bind (div_s' (Sm.gb (bv_gb hg)) (Sm.gb (bv_gb hgp)) (by omega)) (Av.bind (out_s' ((Sm.gb (bv_gb hgp)).le (Nat.le_of_lt hlt))) (Av.ret' rfl)))))
theorem restof_f (a p : ByteArray) (hp : p.size < 281474976710656) : Av (fun k => impl_RestOf.f k a p) (rov a p) := by
  unfold impl_RestOf.f rov
  have jT : ∀ x, Av (fun k => impl_RestOf.j0 k a x true) (⟨#[]⟩ : ByteArray) := fun x => by
    refine Av.succ ?_
    simp only [impl_RestOf.j0]
    exact Av.ifp (by decide) Av.ret
  have hmod := mod_f p [] hp (by simp)
  have e : (mok p && ([] : List ByteArray).all (fun s => rok s p)) = mok p := by simp
  rw [e] at hmod
  refine Av.bind hmod ?_
  cases hm : mok p with
  | false => exact Av.ifn (by simp) (jT _)
  | true =>
    refine Av.ifp rfl (Av.bindc (gok_f a) ?_)
    cases hg : gok a with
    | false => exact jT _
    | true =>
      obtain ⟨hgp, h1⟩ := mok_iff.1 hm
      have s1 := gok_size' hg
      have hlt := Nat.mod_lt (bv a) (show 0 < bv p by omega)
      refine Av.succ ?_
      simp only [impl_RestOf.j0]
      exact Av.ifn (by decide) (Av.bind (natOf_f a (by omega)) (Av.bind (rest_f (Sm.gb (bv_gb hg)) (Sm.gb (bv_gb hgp)) (by omega)) (Av.bind (text_f' ((Sm.gb (bv_gb hgp)).le (Nat.le_of_lt hlt))) (Av.ret' rfl))))
/-- What DivGreat answers. -/
def dvv (a b : ByteArray) : ByteArray × ByteArray × Bool := if gok a && gok b && !decide (bv b = 0) then (bts (bv a / bv b), bts (bv a % bv b), true) else ((⟨#[]⟩ : ByteArray), (⟨#[]⟩ : ByteArray), false)
theorem empty_bv' {s : ByteArray} (h : gok s = true) : (s.toList == ([] : List UInt8)) = decide (bv s = 0) := by
  have : s.toList = ([] : List UInt8) ↔ bv s = 0 := by
    obtain ⟨n, hn, rfl⟩ := gok_cases h
    rw [toList_nil_iff, bts_size, bv_bts, List.length_eq_zero_iff, dg_nil (by decide)]
  rw [Bool.eq_iff_iff, beq_iff_eq, decide_eq_true_iff]; exact this
theorem divgreat_s (a b : ByteArray) : Av (fun k => spec_DivGreat.f k a b) (dvv a b) := by
  unfold spec_DivGreat.f dvv
  have jT : Av (fun k => spec_DivGreat.j0 k a b true) ((⟨#[]⟩ : ByteArray), (⟨#[]⟩ : ByteArray), false) := by
    refine Av.succ ?_
    simp only [spec_DivGreat.j0]
    exact Av.ifp (by decide) Av.ret
  refine Av.bindc (gok_s a) ?_
  cases ha : gok a with
  | false => exact Av.ifn (by decide) jT
  | true =>
    refine Av.ifp rfl (Av.bindc (gok_s b) ?_)
    cases hb : gok b with
    | false => exact Av.ifn (by decide) jT
    | true =>
      refine Av.ifp rfl ?_
      rw [empty_bv' hb]
      by_cases h0 : bv b = 0
      · rw [decide_eq_true h0]; exact jT
      · rw [decide_eq_false h0]
        have s1 := gok_size' ha
        have s3 := gok_size' hb
        have sa := Sm.gb (bv_gb ha)
        have sb := Sm.gb (bv_gb hb)
        have hlt := Nat.mod_lt (bv a) (show 0 < bv b by omega)
        refine Av.succ ?_
        simp only [spec_DivGreat.j0]
        exact Av.ifn (by decide) (Av.bind (in_s a (by omega)) (Av.bind (in_s b (by omega)) (Av.bind (div_s' sa sb (by omega)) (Av.bind (out_s' (sa.le (Nat.div_le_self _ _))) (Av.bind (out_s' (sb.le (Nat.le_of_lt hlt))) (Av.ret' rfl))))))
theorem divgreat_f (a b : ByteArray) : Av (fun k => impl_DivGreat.f k a b) (dvv a b) := by
  unfold impl_DivGreat.f dvv
  have jT : Av (fun k => impl_DivGreat.j0 k a b true) ((⟨#[]⟩ : ByteArray), (⟨#[]⟩ : ByteArray), false) := by
    refine Av.succ ?_
    simp only [impl_DivGreat.j0]
    exact Av.ifp (by decide) Av.ret
  refine Av.bind (are_f [a, b] (by simp)) ?_
  have e : [a, b].all gok = (gok a && gok b) := by simp
  rw [e]
  cases ha : gok a with
  | false => exact Av.ifn (by simp) jT
  | true =>
    cases hb : gok b with
    | false => exact Av.ifn (by simp) jT
    | true =>
      refine Av.ifp rfl ?_
      rw [empty_bv' hb]
      by_cases h0 : bv b = 0
      · rw [decide_eq_true h0]; exact jT
      · rw [decide_eq_false h0]
        have s1 := gok_size' ha
        have s3 := gok_size' hb
        have sa := Sm.gb (bv_gb ha)
        have sb := Sm.gb (bv_gb hb)
        have hlt := Nat.mod_lt (bv a) (show 0 < bv b by omega)
        refine Av.succ ?_
        simp only [impl_DivGreat.j0]
        exact Av.ifn (by decide) (Av.bind (natOf_f a (by omega)) (Av.bind (natOf_f b (by omega)) (Av.bind (over_f' sa sb (by omega)) (Av.bind (text_f' (sa.le (Nat.div_le_self _ _))) (Av.bind (text_f' (sb.le (Nat.le_of_lt hlt))) (Av.ret' rfl))))))
end Go.Proofs.Ytghhnjhjhjbljaa.C
