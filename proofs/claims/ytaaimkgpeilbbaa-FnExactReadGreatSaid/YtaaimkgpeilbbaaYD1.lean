/- Words and contracts that the laws of this claim lean on: numbers as limbs, and what the functions make of them. Conditions: those named in each theorem. -/
import Derived.Test.YtaaimkgpeilbbaaOwnWords
import Derived.Test.YtaaimkgpeilbbaaYD0
import Derived.Test.YtaaimkgpeilbbaaZD1
import Derived.Test.YtaaimkgpeilbbaaZD2
set_option linter.unusedVariables false
set_option linter.unusedSimpArgs false
set_option maxRecDepth 100000
namespace Go.Proofs.Ytaaimkgpeilbbaa.C
open Go.RowKit Go.Proofs.YtaaimkgpeilbbaaW.PrintWords Go.Proofs.YtaaimkgpeilbbaaW.PrintLast Go.Proofs.YtaaimkgpeilbbaaW.PrintMore
open Go.Proofs.Ytaaimkgpeilbbaa.M Go.Proofs.Ytaaimkgpeilbbaa.F
theorem text_loop (n : Nat) (h : (D n).length < 17592186044416) : ∀ m : Nat, m ≤ (dg 256 n).length → Av (fun k => impl_nat_text.l0 k (D n) ((dg 256 n).drop m).reverse m) (bts n)
  | 0, _ => by
    refine Av.succ ?_
    simp only [impl_nat_text.l0]
    refine Av.ifn (by omega) (Av.ret' ?_)
    simp [bts]
  | m + 1, hm => by
    refine Av.succ ?_
    simp only [impl_nat_text.l0]
    have hb : (dg 256 n).length ≤ 8 * (D n).length := by
      rw [dg_length_le (by decide), Nat.pow_mul]
      exact (D_le _ n).1 (Nat.le_refl _)
    have e1 : (((m + 1 : Nat) : Int) - 1) = m := by omega
    rw [e1]
    simp (disch := omega) only [wr, td, tm, if_pos]
    have hlen : (((dg 256 n).drop (m + 1)).reverse).length ≤ (dg 256 n).length := by rw [List.length_reverse, List.length_drop]; omega
    refine Av.ifp (by omega) ?_
    have e2 : shr .u64 (rd (D n) ((m : Int) / 8)) (8 * ((m : Int) % 8)) % 256 = (dg 256 n)[m]'(by omega) := by
      have e3 : (m : Int) / 8 = ((m / 8 : Nat) : Int) := by omega
      have e4 : min (8 * ((m : Int) % 8)).toNat IntKind.u64.bits = 8 * (m % 8) := by simp only [IntKind.bits]; omega
      unfold shr
      rw [e3, rdD, e4]
      have e5 := natCast_div_pow (n / 18446744073709551616 ^ (m / 8) % 18446744073709551616) (8 * (m % 8))
      rw [e5]
      have h4 := dig_sub (b := 256) (by decide) n 8 (m / 8) (r := m % 8) (by omega)
      have e6 : 8 * (m / 8) + m % 8 = m := by omega
      have e7 : (256 : Nat) ^ 8 = 18446744073709551616 := rfl
      have e8 : (2 : Nat) ^ (8 * (m % 8)) = 256 ^ (m % 8) := by rw [Nat.pow_mul]
      rw [e6, e7] at h4
      rw [e8]
      have h9 := dg_getD (B := 256) (by decide) m n
      rw [List.getD_eq_getElem?_getD, List.getElem?_eq_getElem (by omega)] at h9
      simp only [Option.getD_some] at h9
      rw [h9, ← h4]
      omega
    rw [e2]
    have e9 : ((dg 256 n).drop (m + 1)).reverse ++ [(dg 256 n)[m]'(by omega)] = ((dg 256 n).drop m).reverse := by
      rw [List.drop_eq_getElem_cons (show m < (dg 256 n).length by omega), List.reverse_cons]
    rw [e9]
    exact text_loop n h m (by omega)
theorem text_f (n : Nat) (h : (D n).length < 1759218604441) : Av (fun k => impl_nat_text.f k (D n)) (bts n) := by
  unfold impl_nat_text.f
  refine Av.bind (size_f n (by omega)) ?_
  have hb : (dg 256 n).length ≤ 8 * (D n).length := by
    rw [dg_length_le (by decide), Nat.pow_mul]
    exact (D_le _ n).1 (Nat.le_refl _)
  have hn := bytes_of_bits n
  simp (disch := omega) only [wr, td]
  have e : ((nb n : Int) + 7) / 8 = (((dg 256 n).length : Nat) : Int) := by omega
  rw [e]
  have := text_loop n (by omega) (dg 256 n).length (Nat.le_refl _)
  rw [List.drop_length, List.reverse_nil] at this
  exact this
theorem out_drop {b : List Int} {n : Nat} (hb : Digs 256 b) (hv : vl 256 b.reverse = n) (hbig : b.length < 9223372036854775807) : ∀ (d j : Nat), b.length - j = d → j ≤ b.length → vl 256 (b.reverse.take (b.length - j)) = n → Av (fun k => spec_l02Out.l1 k b j) (bts n)
  | 0, j, hd, hj, hz => by
    refine Av.succ ?_
    simp only [spec_l02Out.l1]
    simp (disch := omega) only [if_pos, if_neg]
    refine Av.ret' ?_
    have e : b.length = j := by omega
    have h0 : n = 0 := by rw [hd] at hz; simp [vl] at hz; omega
    subst h0
    rw [Int.toNat_natCast, ← e, List.drop_length]
    rfl
  | d + 1, j, hd, hj, hz => by
    refine Av.succ ?_
    simp only [spec_l02Out.l1]
    simp (disch := omega) only [if_pos]
    have hr : rd b j = b.reverse.getD (b.length - j - 1) 0 := by
      unfold rd
      rw [Int.toNat_natCast, List.getD_eq_getElem?_getD, List.getD_eq_getElem?_getD, List.getElem?_reverse (by omega)]
      congr 2; omega
    by_cases h0 : b.reverse.getD (b.length - j - 1) 0 = 0
    · refine Av.ifp (by rw [hr, h0]) ?_
      have e : (j : Int) + 1 = ((j + 1 : Nat) : Int) := by omega
      rw [wr (by omega) (by omega), e]
      refine out_drop hb hv hbig d (j + 1) (by omega) (by omega) ?_
      have h1 := vl_take_succ 256 b.reverse (b.length - j - 1)
      rw [h0, Int.mul_zero, Int.add_zero] at h1
      have e3 : b.length - j - 1 + 1 = b.length - j := by omega
      have e4 : b.length - (j + 1) = b.length - j - 1 := by omega
      rw [e4, ← h1, e3]
      exact hz
    · refine Av.ifn (by rw [hr]; exact h0) ?_
      refine Av.ret' ?_
      have h1 := take_is_dg (B := 256) (by decide) (digs_reverse.2 hb) (b.length - j) (by simp) (.inr h0)
      rw [hz, Int.toNat_natCast] at h1
      unfold bts
      rw [← h1, Int.toNat_natCast]
      congr 1
      rw [List.take_reverse, List.reverse_reverse]
      congr 1; omega
theorem out_loop (n : Nat) (hl : (E n).length < 17592186044416) : ∀ (d i : Nat) (b : List Int), (E n).length - i = d → i ≤ (E n).length → b.length = 3 * (E n).length → Digs 256 b → (∀ m, m < 3 * i → b.getD (3 * (E n).length - 1 - m) 0 = ((n / 256 ^ m % 256 : Nat) : Int)) → Av (fun k => spec_l02Out.l0 k (E n) b i) (bts n)
  | 0, i, b, hd, hi, hb, hdg, hv => by
    refine Av.succ ?_
    simp only [spec_l02Out.l0]
    refine Av.ifn (by omega) ?_
    have hE := (E_le (E n).length n).1 (Nat.le_refl _)
    have e : (16777216 : Nat) = 256 ^ 3 := rfl
    rw [e, ← Nat.pow_mul] at hE
    have hvl : vl 256 b.reverse = n := by
      apply vl_of_getD (by decide)
      · rw [List.length_reverse, hb]; exact hE
      · intro j hj
        rw [List.length_reverse] at hj
        rw [← hv j (by omega), List.getD_eq_getElem?_getD, List.getD_eq_getElem?_getD, List.getElem?_reverse hj]
        congr 2; omega
    exact out_drop hdg hvl (by omega) b.length 0 rfl (by omega) (by rw [Nat.sub_zero, ← List.length_reverse, List.take_length]; exact hvl)
  | d + 1, i, b, hd, hi, hb, hdg, hv => by
    refine Av.succ ?_
    simp only [spec_l02Out.l0]
    simp (disch := omega) only [wr, if_pos]
    have hE := rdE n i
    generalize hY : n / 16777216 ^ i = Y at hE
    have e : (16777216 : Nat) ^ i = 256 ^ (3 * i) := by rw [Nat.pow_mul]
    rw [e] at hY
    have k1 : ((b.length : Int) - 3 * i - 1).toNat = 3 * (E n).length - 1 - 3 * i := by omega
    have k2 : ((b.length : Int) - 3 * i - 2).toNat = 3 * (E n).length - 1 - (3 * i + 1) := by omega
    have k3 : ((b.length : Int) - 3 * i - 3).toNat = 3 * (E n).length - 1 - (3 * i + 2) := by omega
    rw [k1, k2, k3, hE]
    have e4 : (i : Int) + 1 = ((i + 1 : Nat) : Int) := by omega
    rw [e4]
    have y0 : n / 256 ^ (3 * i) % 256 = Y % 256 := by rw [hY]
    have y1 : n / 256 ^ (3 * i + 1) % 256 = Y / 256 % 256 := by rw [Nat.pow_succ, ← Nat.div_div_eq_div_mul, hY]
    have y2 : n / 256 ^ (3 * i + 2) % 256 = Y / 65536 % 256 := by
      rw [Nat.pow_add, ← Nat.div_div_eq_div_mul, hY]
    refine out_loop n hl d (i + 1) _ (by omega) (by omega) (by simp [hb]) (digs_set (digs_set (digs_set hdg (by omega)) (by omega)) (by omega)) ?_
    intro m hm
    rw [getD_set (by simp [hb]; omega), getD_set (by simp [hb]; omega), getD_set (by simp [hb]; omega)]
    by_cases c3 : m = 3 * i + 2
    · subst c3; rw [if_pos rfl, y2]; omega
    · rw [if_neg (by omega)]
      by_cases c2 : m = 3 * i + 1
      · subst c2; rw [if_pos rfl, y1]; omega
      · rw [if_neg (by omega)]
        by_cases c1 : m = 3 * i
        · subst c1; rw [if_pos rfl, y0]; omega
        · rw [if_neg (by omega)]
          exact hv m (by omega)
theorem out_s (n : Nat) (hl : (E n).length < 1759218604441) : Av (fun k => spec_l02Out.f k (E n)) (bts n) := by
  unfold spec_l02Out.f
  simp (disch := omega) only [wr, if_pos]
  have e : (3 * ((E n).length : Int)).toNat = 3 * (E n).length := by omega
  rw [e]
  have := out_loop n (by omega) (E n).length 0 (List.replicate (3 * (E n).length) 0) (by omega) (by omega) (by simp) (digs_zeros (by decide) _) (fun m hm => by omega)
  exact this
/-- The number of the first i figures. -/
def fv (s : ByteArray) : Nat → Nat
  | 0 => 0
  | i + 1 => 10 * fv s i + (bt s i - 48).toNat
/-- Is byte i a figure? -/
def fig (s : ByteArray) (i : Nat) : Bool := decide (48 ≤ bt s i) && decide (bt s i ≤ 57)
/-- Are the first n bytes figures? -/
def figN (s : ByteArray) : Nat → Bool
  | 0 => true
  | n + 1 => figN s n && fig s n
theorem figN_of {s : ByteArray} : ∀ {n m : Nat}, figN s n = true → m < n → fig s m = true
  | 0, m, _, h => by omega
  | n + 1, m, h, hm => by
    simp only [figN, Bool.and_eq_true] at h
    by_cases e : m = n
    · subst e; exact h.2
    · exact figN_of h.1 (by omega)
theorem figN_not {s : ByteArray} {n m : Nat} (h : fig s m = false) (hm : m < n) : figN s n = false := by
  cases hf : figN s n with
  | false => rfl
  | true => rw [figN_of hf hm] at h; cases h
theorem fv_lt {s : ByteArray} : ∀ {n : Nat}, figN s n = true → fv s n < 10 ^ n
  | 0, _ => by simp [fv]
  | n + 1, h => by
    simp only [figN, Bool.and_eq_true] at h
    have ih := fv_lt h.1
    have hf := h.2
    simp only [fig, Bool.and_eq_true, decide_eq_true_eq] at hf
    have h9 : (bt s n - 48).toNat ≤ 9 := by omega
    simp only [fv]
    rw [Nat.pow_succ]
    generalize 10 ^ n = P at *
    omega
/-- Is that how a number is told? -/
def fok (s : ByteArray) : Bool := if s.size = 0 then false else if s.size = 1 then true else bt s 0 != 48
/-- What comes of figures. -/
def fgr (s : ByteArray) : List Int × Bool := if figN s s.size then (D (fv s s.size), fok s) else ([], false)
theorem ten_le {r : Nat} (h : r ≤ 18) : 10 ^ r ≤ 1000000000000000000 := by
  have : 10 ^ r ≤ 10 ^ 18 := Nat.pow_le_pow_right (by decide) h
  omega
theorem D_ten {n i : Nat} (h : n < 10 ^ i) : (D n).length ≤ i := (D_le _ _).2 (Nat.lt_of_lt_of_le h (Nat.pow_le_pow_left (by decide) _))
theorem small_ten {n : Nat} (h : n ≤ 1000000000000000000) : (D n).length ≤ 1 := (D_le 1 n).2 (by omega)
theorem ff_arith {o w P : Nat} (c : Nat) : 10 * (o * P + w) + c = o * (P * 10) + (10 * w + c) := by grind
theorem ff_mod {i : Nat} (h : ¬ i % 18 = 17) : i % 18 + 1 = (i + 1) % 18 := by omega
theorem mod18 (i : Nat) : Int.tmod (i : Int) 18 = ((i % 18 : Nat) : Int) := by rw [tm (by omega)]; omega
theorem ff_own {w c P : Nat} (hw : w < P) (hP : P * 10 ≤ 1000000000000000000) (hc : c ≤ 9) : wrap64 (wrap64 (10 * (w : Int)) + (48 + (c : Int) - 48) % 256) = ((10 * w + c : Nat) : Int) := by
  rw [wr (x := 10 * (w : Int)) (by omega) (by omega), wr (by omega) (by omega)]; omega
theorem ff_scale {P : Nat} (h : P * 10 ≤ 1000000000000000000) : wrap64 (10 * (P : Int)) = ((P * 10 : Nat) : Int) := by
  rw [wr (by omega) (by omega)]; omega
theorem ff_w {w c P : Nat} (hw : w < P) (hc : c ≤ 9) : 10 * w + c < P * 10 := by omega
theorem ff_loop (s : ByteArray) (hs : s.size ≤ 100000) : ∀ (d i o w r : Nat), s.size - i = d → i ≤ s.size → figN s i = true → fv s i = o * 10 ^ r + w → w < 10 ^ r → r ≤ 17 → (i < s.size → r = i % 18) → (i = s.size → r = 0) →
    Av (fun k => impl_fromFigures.l0 k s (D o) w ((10 ^ r : Nat) : Int) s.size i) (fgr s)
  | 0, i, o, w, r, hd, hi, hf, hv, hw, hr, _, he => by
    obtain rfl : i = s.size := by omega
    obtain rfl := he rfl
    have hw0 : w = 0 := by simpa using hw
    subst hw0
    rw [Nat.pow_zero, Nat.mul_one, Nat.add_zero] at hv
    refine Av.succ ?_
    simp only [impl_fromFigures.l0]
    refine Av.ifn (by omega) ?_
    unfold fgr fok
    rw [hf, if_pos rfl, hv]
    by_cases h0 : s.size = 0
    · rw [if_pos h0]
      exact Av.ifp (toList_nil_iff.2 h0) Av.ret
    · rw [if_neg h0]
      refine Av.ifn (fun h => h0 (toList_nil_iff.1 h)) ?_
      by_cases h1 : s.size = 1
      · rw [if_pos h1]
        exact Av.ifp (by omega) Av.ret
      · rw [if_neg h1]
        exact Av.ifn (by omega) (Av.ifp (by omega) Av.ret)
  | d + 1, i, o, w, r, hd, hi, hf, hv, hw, hr, hr1, he => by
    have i1 : i < s.size := by omega
    have i2 : s.size - (i + 1) = d := by omega
    have i3 : (i : Int) < s.size := by omega
    have hr2 := hr1 i1
    have hb := bt_range s i
    have hP := ten_le (r := r + 1) (by omega)
    rw [Nat.pow_succ] at hP
    have j1 : i < 4611686018427387904 := by omega
    have j2 : s.size < 4611686018427387904 := by omega
    have j3 : 1 ≤ s.size := by omega
    have j4 : i + 1 < 35184372088832 := by omega
    have g0 : (i % 18 = 17 ∨ i + 1 = s.size) → i + 1 < s.size → 0 = (i + 1) % 18 := by omega
    have g1 : ¬ i % 18 = 17 → r + 1 ≤ 17 := by omega
    have g3 : i + 1 = s.size → i = s.size - 1 := by omega
    have g2 : ¬ i + 1 = s.size → i ≠ s.size - 1 := by omega
    have e1 : wrap64 ((i : Int) + 1) = ((i + 1 : Nat) : Int) := wrap_one j1
    have et := mod18 i
    have en : wrap64 ((s.size : Int) - 1) = ((s.size - 1 : Nat) : Int) := wrap_pred j2 j3
    have jT : ∀ (a b c e g h : Int) (l : List Int), fig s i = false → Av (fun k => impl_fromFigures.j1 k s l a b c e g h true) (fgr s) := by
      intro a b c e g h l hfig
      refine Av.succ ?_
      simp only [impl_fromFigures.j1]
      refine Av.ifp (by decide) (Av.ret' ?_)
      unfold fgr
      rw [figN_not hfig i1]; rfl
    refine Av.succ ?_
    simp only [impl_fromFigures.l0]
    refine Av.ifp i3 (Av.ifp (Int.natCast_nonneg _) (Av.ifp i3 ?_))
    by_cases h48 : bt s i < 48
    · exact Av.ifp h48 (jT _ _ _ _ _ _ _ (by unfold fig; rw [decide_eq_false (by omega)]; rfl))
    refine Av.ifn h48 ?_
    by_cases h57 : bt s i > 57
    · rw [decide_eq_true h57]
      exact jT _ _ _ _ _ _ _ (by unfold fig; rw [decide_eq_false (p := bt s i ≤ 57) (by omega)]; simp)
    rw [decide_eq_false h57]
    have hfig : fig s i = true := by unfold fig; rw [decide_eq_true (by omega), decide_eq_true (by omega)]; rfl
    have hf1 : figN s (i + 1) = true := by simp only [figN, hf, hfig]; rfl
    have hlt := fv_lt hf1
    obtain ⟨c, hc⟩ : ∃ c : Nat, bt s i = 48 + (c : Int) := ⟨(bt s i - 48).toNat, by omega⟩
    have hc9 : c ≤ 9 := by omega
    have hfv : fv s (i + 1) = o * 10 ^ (r + 1) + (10 * w + c) := by
      have e0 : (bt s i - 48).toNat = c := by omega
      simp only [fv]
      rw [hv, e0, Nat.pow_succ]
      exact ff_arith c
    have hw1 : 10 * w + c < 10 ^ (r + 1) := by rw [Nat.pow_succ]; exact ff_w hw hc9
    have ew : wrap64 (wrap64 (10 * (w : Int)) + (bt s i - 48) % 256) = ((10 * w + c : Nat) : Int) := by rw [hc]; exact ff_own hw hP hc9
    have es : wrap64 (10 * ((10 ^ r : Nat) : Int)) = ((10 ^ (r + 1) : Nat) : Int) := by rw [Nat.pow_succ]; exact ff_scale hP
    have hP18 : 10 ^ (r + 1) ≤ 1000000000000000000 := by rw [Nat.pow_succ]; exact hP
    have hole : o ≤ fv s i := by
      rw [hv]
      exact Nat.le_trans (Nat.le_mul_of_pos_right _ (Nat.pow_pos (by decide))) (Nat.le_add_right _ _)
    have ho := D_ten (Nat.lt_of_le_of_lt hole (fv_lt hf))
    have h3 : o * 10 ^ (r + 1) ≤ fv s (i + 1) := by rw [hfv]; exact Nat.le_add_right _ _
    have hm := D_ten (Nat.lt_of_le_of_lt h3 hlt)
    have hown : 10 * w + c ≤ 1000000000000000000 := Nat.le_trans (Nat.le_of_lt hw1) hP18
    have hs1 := small_ten hP18
    have hs2 := small_ten hown
    have k1 : 10 ^ (r + 1) < 18446744073709551616 := Nat.lt_of_le_of_lt hP18 (by decide)
    have k2 : 10 * w + c < 18446744073709551616 := Nat.lt_of_le_of_lt hown (by decide)
    have k3 : (D o).length + (D (10 ^ (r + 1))).length < 35184372088832 := Nat.lt_of_le_of_lt (Nat.add_le_add ho hs1) j4
    have k4 : (D (o * 10 ^ (r + 1))).length < 35184372088832 := Nat.lt_of_le_of_lt hm j4
    have k5 : (D (10 * w + c)).length < 35184372088832 := Nat.lt_of_le_of_lt hs2 (by decide)
    have flush : (i % 18 = 17 ∨ i + 1 = s.size) → Av (fun k => impl_fromFigures.j2 k s (D o) ((10 * w + c : Nat) : Int) ((10 ^ (r + 1) : Nat) : Int) s.size i true) (fgr s) := by
      intro hor
      refine Av.succ ?_
      simp only [impl_fromFigures.j2, e1]
      refine Av.ifp (by decide) (Av.bind (small_f _ k1) (Av.bind (times_f _ _ k3) (Av.bind (small_f _ k2) (Av.bind (plus_f _ _ k4 k5) ?_))))
      rw [← hfv]
      have hn := ff_loop s hs d (i + 1) (fv s (i + 1)) 0 0 i2 i1 hf1 (by simp) (by decide) (by decide) (g0 hor) (fun _ => rfl)
      exact hn
    refine Av.succ ?_
    simp only [impl_fromFigures.j1, ew, es, et, en]
    refine Av.ifn (by decide) ?_
    by_cases h17 : i % 18 = 17
    · exact Av.ifp (by rw [h17]; rfl) (flush (.inl h17))
    · refine Av.ifn (fun h => h17 (Int.ofNat.inj h)) ?_
      by_cases hl : i + 1 = s.size
      · have eb : ((i : Int) == ((s.size - 1 : Nat) : Int)) = true := beq_iff_eq.2 (congrArg Int.ofNat (g3 hl))
        rw [eb]; exact flush (.inr hl)
      · have eb : ((i : Int) == ((s.size - 1 : Nat) : Int)) = false := by
          rw [beq_eq_false_iff_ne]
          exact fun h => g2 hl (Int.ofNat.inj h)
        rw [eb]
        refine Av.succ ?_
        simp only [impl_fromFigures.j2, e1]
        refine Av.ifn (by decide) ?_
        refine ff_loop s hs d (i + 1) o (10 * w + c) (r + 1) i2 i1 hf1 hfv hw1 (g1 h17) (fun _ => ?_) (fun h => absurd h hl)
        rw [hr2]; exact ff_mod h17
theorem ff_f (s : ByteArray) (hs : s.size ≤ 100000) : Av (fun k => impl_fromFigures.f k s) (fgr s) := by
  unfold impl_fromFigures.f
  have h := ff_loop s hs s.size 0 0 0 0 rfl (Nat.zero_le _) rfl (by simp [fv]) (by decide) (by decide) (fun _ => rfl) (fun _ => rfl)
  exact h
theorem and24 (n : Int) : Go.bits .and .i64 n 16777215 = n % 16777216 := by
  have h1 : (BitVec.ofInt 64 16777215).toNat = 2 ^ 24 - 1 := by decide
  have key : (BitVec.ofInt 64 n &&& BitVec.ofInt 64 16777215).toNat = (n % ((2 ^ 64 : Nat) : Int)).toNat % 2 ^ 24 := by
    rw [BitVec.toNat_and, BitVec.toNat_ofInt, h1, Nat.and_two_pow_sub_one_eq_mod]
  show IntKind.i64.wrap ((BitVec.ofInt 64 n &&& BitVec.ofInt 64 16777215).toNat : Nat) = n % 16777216
  rw [key, IntKind.wrap_i64]
  omega
/-- One place of a sum. -/
theorem add24 {x y c : Nat} (hx : x < 16777216) (hy : y < 16777216) (hc : c ≤ 1) : ∃ r q : Nat, Go.bits .and .i64 (wrap64 (wrap64 ((x : Int) + c) + y)) 16777215 = (r : Int) ∧ wrap64 (wrap64 ((x : Int) + c) + y) / 16777216 = (q : Int) ∧ q ≤ 1 ∧ r < 16777216 ∧ (r : Int) = x + y + c - 16777216 * q := by
  refine ⟨(x + y + c) % 16777216, (x + y + c) / 16777216, ?_, ?_, by omega, by omega, by omega⟩
  · rw [and24, wr (x := (x : Int) + c) (by omega) (by omega), wr (by omega) (by omega)]; omega
  · rw [wr (x := (x : Int) + c) (by omega) (by omega), wr (by omega) (by omega)]; omega
theorem add24' {x c : Nat} (hx : x < 16777216) (hc : c ≤ 1) : ∃ r q : Nat, Go.bits .and .i64 (wrap64 ((x : Int) + c)) 16777215 = (r : Int) ∧ wrap64 ((x : Int) + c) / 16777216 = (q : Int) ∧ q ≤ 1 ∧ r < 16777216 ∧ (r : Int) = x + (0 : Nat) + c - 16777216 * q := by
  refine ⟨(x + c) % 16777216, (x + c) / 16777216, ?_, ?_, by omega, by omega, by omega⟩
  · rw [and24, wr (by omega) (by omega)]; omega
  · rw [wr (by omega) (by omega)]; omega
/-- What the limbs that are written so far say. -/
structure Pre (l : List Int) (i : Nat) (v : Int) : Prop where
  len : l.length = i
  digs : Digs 16777216 l
  val : vl 16777216 l = v
theorem Pre.start : Pre [] 0 0 := ⟨rfl, (by intro x hx; cases hx), rfl⟩
theorem Pre.snoc {l : List Int} {i : Nat} {v x w : Int} (h : Pre l i v) (hx : 0 ≤ x ∧ x < 16777216) (hw : w = v + 16777216 ^ i * x) : Pre (l ++ [x]) (i + 1) w :=
  ⟨by rw [List.length_append, h.len]; rfl, digs_append.2 ⟨h.digs, fun y hy => by simp at hy; subst hy; exact hx⟩, by rw [vl_snoc, h.val, h.len, hw]; rfl⟩
theorem ring_add (A B c P x y q r W : Int) (hr : r = x + y + c - W * q) : A + x * P + (B + y * P) - q * (P * W) = A + B - c * P + P * r := by subst hr; grind
theorem below_nat {r : Nat} (h : r < 16777216) : 0 ≤ (r : Int) ∧ (r : Int) < 16777216 := ⟨Int.natCast_nonneg _, Int.ofNat_lt.2 h⟩
theorem add_s_loop (a b : Nat) (hab : (E b).length ≤ (E a).length) (hl : (E a).length < 17592186044415) : ∀ (d i c : Nat) (l : List Int), (E a).length - i = d → i ≤ (E a).length → c ≤ 1 →
    Pre l i (((a % 16777216 ^ i : Nat) : Int) + (b % 16777216 ^ i : Nat) - c * 16777216 ^ i) → Av (fun k => spec_l02Add.l0 k (E a) (E b) l c i) (E (a + b))
  | 0, i, c, l, hd, hi, hc, h => by
    obtain rfl : i = (E a).length := by omega
    refine Av.succ ?_
    simp only [spec_l02Add.l0]
    refine Av.ifn (by omega) ?_
    have hv := h.val
    rw [mod_full _ a (by decide) (Nat.le_refl _), mod_full _ b (by decide) hab] at hv
    have hlen := h.len
    have hdg := h.digs
    have hmono := E_mono (show a ≤ a + b by omega)
    by_cases h0 : c = 0
    · subst h0
      refine Av.ifn (by decide) (Av.ret' ?_)
      refine dg_of_len (by decide) hdg (n := a + b) ?_ (by rw [hlen]; exact hmono)
      rw [hv]; simp
    · obtain rfl : c = 1 := by omega
      refine Av.ifp (by decide) (Av.ifp (by rw [hlen]; omega) (Av.ret' ?_))
      have h2 := h.snoc (x := ((1 : Nat) : Int)) (w := ((a + b : Nat) : Int)) (by decide) (by
        rw [mod_full _ a (by decide) (Nat.le_refl _), mod_full _ b (by decide) hab]
        generalize (16777216 : Int) ^ (E a).length = P
        simp)
      refine dg_of_len (by decide) h2.digs h2.val ?_
      rw [h2.len]
      have hb := vl_bound (by decide) hdg
      rw [hv, hlen] at hb
      refine (E_lt _ _).2 ?_
      have e6 : ((16777216 : Nat) : Int) ^ (E a).length = ((16777216 ^ (E a).length : Nat) : Int) := by simp
      have e7 : (16777216 : Int) ^ (E a).length = ((16777216 ^ (E a).length : Nat) : Int) := by simp
      rw [e7] at hb
      generalize 16777216 ^ (E a).length = P at *
      omega
  | d + 1, i, c, l, hd, hi, hc, h => by
    have i1 : (i : Int) < (E a).length := by omega
    have i2 : (E a).length - (i + 1) = d := by omega
    have i3 : i + 1 ≤ (E a).length := by omega
    have i4 : l.length < 17592186044416 := by rw [h.len]; omega
    have e1 : wrap64 ((i : Int) + 1) = ((i + 1 : Nat) : Int) := wrap_one (by omega)
    have hx : a / 16777216 ^ i % 16777216 < 16777216 := Nat.mod_lt _ (by decide)
    have hy : b / 16777216 ^ i % 16777216 < 16777216 := Nat.mod_lt _ (by decide)
    have s1 := mod_step 16777216 a i
    have s2 := mod_step 16777216 b i
    have r1 := rdE a i
    have r2 := rdE b i
    refine Av.succ ?_
    simp only [spec_l02Add.l0, e1]
    refine Av.ifp i1 (Av.ifp (Int.natCast_nonneg _) ?_)
    rw [r1]
    by_cases hb : i < (E b).length
    · refine Av.ifp (by omega) (Av.ifp i4 ?_)
      rw [r2]
      generalize a / 16777216 ^ i % 16777216 = x at *
      generalize b / 16777216 ^ i % 16777216 = y at *
      obtain ⟨r, q, f1, f2, hq, hr, he⟩ := add24 hx hy hc
      rw [f1, f2]
      refine add_s_loop a b hab hl d (i + 1) q _ i2 i3 hq (h.snoc (below_nat hr) ?_)
      rw [s1, s2, Int.pow_succ]
      have e6 : ((16777216 : Nat) : Int) = 16777216 := rfl
      simp only [e6]
      exact ring_add _ _ _ _ _ _ _ _ _ he
    · have hz : b / 16777216 ^ i % 16777216 = 0 := by
        have h1 : b < 16777216 ^ i := (E_le i b).1 (by omega)
        rw [Nat.div_eq_of_lt h1]
      refine Av.ifn (by omega) (Av.ifp i4 ?_)
      rw [hz] at s2
      generalize a / 16777216 ^ i % 16777216 = x at *
      obtain ⟨r, q, f1, f2, hq, hr, he⟩ := add24' hx hc
      rw [f1, f2]
      refine add_s_loop a b hab hl d (i + 1) q _ i2 i3 hq (h.snoc (below_nat hr) ?_)
      rw [s1, s2, Int.pow_succ]
      have e6 : ((16777216 : Nat) : Int) = 16777216 := rfl
      simp only [e6]
      exact ring_add _ _ _ _ _ _ _ _ _ he
theorem add_s_one (a b : Nat) (hab : (E b).length ≤ (E a).length) (hl : (E a).length < 17592186044415) : Av (fun k => spec_l02Add.f k (E a) (E b)) (E (a + b)) := by
  refine Av.succ ?_
  simp only [spec_l02Add.f]
  have e : wrap64 (((E a).length : Int) + 1) = (((E a).length + 1 : Nat) : Int) := wrap_one (by omega)
  rw [e, Int.toNat_natCast]
  refine Av.ifn (by omega) (Av.ifp (by omega) (Av.ifp (by omega) ?_))
  refine add_s_loop a b hab hl _ 0 0 [] rfl (by omega) (by omega) ?_
  rw [Nat.pow_zero, Nat.mod_one, Nat.mod_one, ring_zero]; exact Pre.start
theorem add_s (a b : Nat) (ha : (E a).length < 17592186044415) (hb : (E b).length < 17592186044415) : Av (fun k => spec_l02Add.f k (E a) (E b)) (E (a + b)) := by
  by_cases h : (E a).length < (E b).length
  · refine Av.succ ?_
    simp only [spec_l02Add.f]
    refine Av.ifp (by omega) (Av.bind ?_ Av.ret)
    rw [Nat.add_comm]
    exact add_s_one b a (by omega) hb
  · exact add_s_one a b (by omega) ha
theorem mac24 {x y o c : Nat} (hx : x < 16777216) (hy : y < 16777216) (ho : o < 16777216) (hc : c < 16777216) : ∃ r q : Nat, Go.bits .and .i64 (wrap64 (wrap64 ((o : Int) + wrap64 ((x : Int) * y)) + c)) 16777215 = (r : Int) ∧ wrap64 (wrap64 ((o : Int) + wrap64 ((x : Int) * y)) + c) / 16777216 = (q : Int) ∧ r < 16777216 ∧ q < 16777216 ∧ (r : Int) = x * y + o + c - 16777216 * q := by
  have hm : x * y ≤ 16777215 * 16777215 := Nat.mul_le_mul (by omega) (by omega)
  rw [← Int.natCast_mul]
  generalize x * y = z at *
  clear hx hy
  refine ⟨(z + o + c) % 16777216, (z + o + c) / 16777216, ?_, ?_, by omega, by omega, by omega⟩
  · rw [and24, wr (x := (z : Int)) (by omega) (by omega), wr (x := (o : Int) + z) (by omega) (by omega), wr (by omega) (by omega)]; omega
  · rw [wr (x := (z : Int)) (by omega) (by omega), wr (x := (o : Int) + z) (by omega) (by omega), wr (by omega) (by omega)]; omega
theorem ring_mac24 (v x w P Q c y o W q r : Int) (hr : r = x * y + o + c - W * q) : v + x * w * P - c * (P * Q) + (r - o) * (P * Q) = v + x * (w + y * Q) * P - q * (P * Q * W) := by subst hr; grind
/-- What the limbs of a product say: v and, from place i on, nothing. -/
structure Up24 (l : List Int) (L i : Nat) (v : Int) : Prop where
  len : l.length = L
  digs : Digs 16777216 l
  val : vl 16777216 l = v
  zero : ∀ j, i ≤ j → l.getD j 0 = 0
theorem Up24.start (n : Nat) : Up24 (List.replicate n 0) n 0 0 := ⟨by simp, digs_zeros (by decide) n, vl_zeros _ n, fun j _ => getD_zeros n j⟩
theorem Up24.more {l : List Int} {L i j : Nat} {v : Int} (h : Up24 l L i v) (hij : i ≤ j) : Up24 l L j v := ⟨h.len, h.digs, h.val, fun m hm => h.zero m (Nat.le_trans hij hm)⟩
theorem mul_s_in (a b : Nat) (i : Nat) (r : List Int) (v : Int) (L : Nat) (hi : i < (E a).length) (hiL : (E a).length + (E b).length < 17592186044416) (hL : L = (E a).length + (E b).length)
    (fin : ∀ (l : List Int) (c : Nat), Up24 l L (i + (E b).length) (v + (a / 16777216 ^ i % 16777216 : Nat) * b * 16777216 ^ i - c * 16777216 ^ (i + (E b).length)) → c < 16777216 →
      Av (fun k => spec_l02Mul.l0 k (E a) (E b) (l.set (i + (E b).length) c) ((i + 1 : Nat) : Int)) r) : ∀ (d m c : Nat) (l : List Int), (E b).length - m = d → m ≤ (E b).length → c < 16777216 → Up24 l L (i + (E b).length) (v + (a / 16777216 ^ i % 16777216 : Nat) * (b % 16777216 ^ m : Nat) * 16777216 ^ i - c * 16777216 ^ (i + m)) →
    Av (fun k => spec_l02Mul.l1 k (E a) (E b) l i c m) r
  | 0, m, c, l, hd, hm, hc, h => by
    obtain rfl : m = (E b).length := by omega
    have e : wrap64 ((i : Int) + (E b).length) = ((i + (E b).length : Nat) : Int) := wrap_add (by omega)
    have e1 : wrap64 ((i : Int) + 1) = ((i + 1 : Nat) : Int) := wrap_one (by omega)
    have i5 : ((i + (E b).length : Nat) : Int) < l.length := by rw [h.len]; omega
    refine Av.succ ?_
    simp only [spec_l02Mul.l1, e, e1, Int.toNat_natCast]
    refine Av.ifn (by omega) (Av.ifp (Int.natCast_nonneg _) (Av.ifp i5 ?_))
    refine fin l c ?_ hc
    rw [mod_full _ b (by decide) (Nat.le_refl _)] at h
    exact h
  | d + 1, m, c, l, hd, hm, hc, h => by
    have i1 : i + m < l.length := by rw [h.len]; omega
    have i2 : i + m < i + (E b).length := by omega
    have i3 : (E b).length - (m + 1) = d := by omega
    have i4 : m + 1 ≤ (E b).length := by omega
    have i6 : ((i + m : Nat) : Int) < l.length := Int.ofNat_lt.2 i1
    have i7 : (m : Int) < (E b).length := by omega
    have i8 : (i : Int) < (E a).length := by omega
    have e : wrap64 ((i : Int) + m) = ((i + m : Nat) : Int) := wrap_add (by omega)
    have e1 : wrap64 ((m : Int) + 1) = ((m + 1 : Nat) : Int) := wrap_one (by omega)
    have hx : a / 16777216 ^ i % 16777216 < 16777216 := Nat.mod_lt _ (by decide)
    have hy : b / 16777216 ^ m % 16777216 < 16777216 := Nat.mod_lt _ (by decide)
    have hs := mod_step 16777216 b m
    have r1 := rdE a i
    have r2 := rdE b m
    have hob := digs_getD h.digs (by decide) (i + m)
    obtain ⟨o, hoe⟩ := Int.eq_ofNat_of_zero_le hob.1
    have r3 : rd l ((i + m : Nat) : Int) = (o : Int) := by unfold rd; rw [Int.toNat_natCast]; exact hoe
    have ho2 : o < 16777216 := by rw [hoe] at hob; exact Int.ofNat_lt.1 hob.2
    refine Av.succ ?_
    simp only [spec_l02Mul.l1, e, e1, r1, r2, r3, Int.toNat_natCast]
    refine Av.ifp i7 (Av.ifp (Int.natCast_nonneg _) (Av.ifp i6 (Av.ifp (Int.natCast_nonneg _) (Av.ifp i8 (Av.ifp (Int.natCast_nonneg _) ?_)))))
    generalize b / 16777216 ^ m % 16777216 = y at *
    have fin' := mul_s_in a b i r v L hi hiL hL fin d (m + 1)
    generalize a / 16777216 ^ i % 16777216 = x at *
    obtain ⟨t, q, f1, f2, ht, hq, he⟩ := mac24 hx hy ho2 hc
    rw [f1, f2]
    refine fin' q _ i3 i4 hq ⟨by rw [List.length_set]; exact h.len, digs_set h.digs (below_nat ht), ?_, ?_⟩
    · have e6 : ((16777216 : Nat) : Int) = 16777216 := rfl
      rw [vl_set _ _ _ _ i1, h.val, hs, hoe]
      simp only [e6]
      rw [← Nat.add_assoc, Int.pow_succ, Int.pow_add]
      try simp only [Int.ofNat_eq_natCast]
      exact ring_mac24 _ _ _ _ _ _ _ _ _ _ _ he
    · intro j hj
      rw [getD_set i1, if_neg (Nat.ne_of_lt (Nat.lt_of_lt_of_le i2 hj))]
      exact h.zero j hj
theorem mul_s_loop (a b : Nat) (hl : (E a).length + (E b).length < 17592186044416) : ∀ (d i : Nat) (l : List Int), (E a).length - i = d → i ≤ (E a).length → Up24 l ((E a).length + (E b).length) (i + (E b).length) (((a % 16777216 ^ i : Nat) : Int) * b) →
    Av (fun k => spec_l02Mul.l0 k (E a) (E b) l i) (E (a * b))
  | 0, i, l, hd, hi, h => by
    obtain rfl : i = (E a).length := by omega
    refine Av.succ ?_
    simp only [spec_l02Mul.l0]
    refine Av.ifn (by omega) (Av.bind ?_ Av.ret)
    refine trim_s' h.digs (by rw [h.len]; omega) ?_
    rw [h.val, mod_full _ a (by decide) (Nat.le_refl _)]
    simp
  | d + 1, i, l, hd, hi, h => by
    have i1 : (i : Int) < (E a).length := by omega
    have i2 : i < (E a).length := by omega
    have i3 : (E a).length - (i + 1) = d := by omega
    have i4 : i + (E b).length < (E a).length + (E b).length := by omega
    refine Av.succ ?_
    simp only [spec_l02Mul.l0]
    refine Av.ifp i1 ?_
    refine mul_s_in a b i _ (((a % 16777216 ^ i : Nat) : Int) * b) _ i2 hl rfl ?_ _ 0 0 l rfl (Nat.zero_le _) (by decide) ?_
    · intro l2 c h2 hc
      have h3 : i + (E b).length < l2.length := by rw [h2.len]; exact i4
      have e2 : i + 1 + (E b).length = i + (E b).length + 1 := by omega
      refine mul_s_loop a b hl d (i + 1) _ i3 i2 ⟨by rw [List.length_set]; exact h2.len, digs_set h2.digs (below_nat hc), ?_, ?_⟩
      · rw [vl_set0 _ h3 (h2.zero _ (Nat.le_refl _)), h2.val, mod_step]
        have e6 : ((16777216 : Nat) : Int) = 16777216 := rfl
        simp only [e6]
        grind
      · intro j hj
        rw [getD_set h3, if_neg (by omega)]
        exact h2.zero j (by omega)
    · rw [Nat.pow_zero, Nat.mod_one]
      have e : ((a % 16777216 ^ i : Nat) : Int) * b + ((a / 16777216 ^ i % 16777216 : Nat) : Int) * ((0 : Nat) : Int) * 16777216 ^ i - ((0 : Nat) : Int) * 16777216 ^ (i + 0) = ((a % 16777216 ^ i : Nat) : Int) * b := by simp
      rw [e]; exact h
theorem mul_s (a b : Nat) (hl : (E a).length + (E b).length < 17592186044416) : Av (fun k => spec_l02Mul.f k (E a) (E b)) (E (a * b)) := by
  unfold spec_l02Mul.f
  have e : wrap64 (((E a).length : Int) + (E b).length) = (((E a).length + (E b).length : Nat) : Int) := wrap_add (by omega)
  simp only [e, Int.toNat_natCast]
  refine Av.ifp (by omega) (Av.ifp (by omega) ?_)
  have h := mul_s_loop a b hl _ 0 (List.replicate ((E a).length + (E b).length) 0) rfl (Nat.zero_le _) (by
    rw [Nat.pow_zero, Nat.mod_one]
    have := (Up24.start ((E a).length + (E b).length)).more (j := 0 + (E b).length) (Nat.zero_le _)
    simpa using this)
  exact h
/-- A number small enough for everything here. -/
def Sm (n : Nat) : Prop := (D n).length < 1000000 ∧ (E n).length < 1000000
theorem D_of {n j : Nat} (h : n < 256 ^ j) : (D n).length ≤ j := (D_le _ _).2 (Nat.lt_of_lt_of_le h (Nat.pow_le_pow_left (by decide) _))
theorem E_of {n j : Nat} (h : n < 256 ^ j) : (E n).length ≤ j := (E_le _ _).2 (Nat.lt_of_lt_of_le h (Nat.pow_le_pow_left (by decide) _))
theorem Sm.of {n j : Nat} (h : n < 256 ^ j) (hj : j < 1000000) : Sm n := ⟨Nat.lt_of_le_of_lt (D_of h) hj, Nat.lt_of_le_of_lt (E_of h) hj⟩
theorem Sm.le {m n : Nat} (h : Sm n) (hm : m ≤ n) : Sm m := ⟨Nat.lt_of_le_of_lt (D_mono hm) h.1, Nat.lt_of_le_of_lt (E_mono hm) h.2⟩
theorem Sm.gb {n : Nat} (h : n < GB) : Sm n := Sm.of h (by decide)
theorem Sm.add {a b : Nat} (ha : a < GB) (hb : b < GB) : Sm (a + b) := Sm.of (j := 161) (by
  have : GB + GB ≤ 256 ^ 161 := by decide
  omega) (by decide)
theorem text_f' {a : Nat} (ha : Sm a) : Av (fun k => impl_nat_text.f k (D a)) (bts a) := text_f a (by have := ha.1; omega)
theorem add_s' {a b : Nat} (ha : Sm a) (hb : Sm b) : Av (fun k => spec_l02Add.f k (E a) (E b)) (E (a + b)) := add_s a b (by have := ha.2; omega) (by have := hb.2; omega)
theorem out_s' {a : Nat} (ha : Sm a) : Av (fun k => spec_l02Out.f k (E a)) (bts a) := out_s a (by have := ha.2; omega)
end Go.Proofs.Ytaaimkgpeilbbaa.C
