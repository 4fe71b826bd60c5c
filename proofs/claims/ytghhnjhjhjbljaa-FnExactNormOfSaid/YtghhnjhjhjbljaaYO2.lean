/- Words and contracts that the laws of this claim lean on: numbers as limbs, and what the functions make of them. Conditions: those named in each theorem. -/
import Derived.Test.YtghhnjhjhjbljaaVOOwnWords
import Derived.Test.YtghhnjhjhjbljaaYO1
import Derived.Test.YtghhnjhjhjbljaaZO2
import Derived.Test.YtghhnjhjhjbljaaZO3
import Derived.Test.YtghhnjhjhjbljaaZO4
import Derived.Test.YtghhnjhjhjbljaaZO6
set_option linter.unusedVariables false
set_option linter.unusedSimpArgs false
set_option maxRecDepth 100000
namespace Go.Proofs.Ytghhnjhjhjbljaa.C
open Go.RowKit Go.Proofs.YtghhnjhjhjbljaaW.PrintWords Go.Proofs.YtghhnjhjhjbljaaW.PrintLast Go.Proofs.YtghhnjhjhjbljaaW.PrintMore
open Go.Proofs.Ytghhnjhjhjbljaa.M Go.Proofs.Ytghhnjhjhjbljaa.F
/-- One place of a product. -/
theorem mac64 (x y o c : Nat) (hx : x < 18446744073709551616) (hy : y < 18446744073709551616) (ho : o < 18446744073709551616) (hc : c < 18446744073709551616) : ∃ (m s w : Int × Int) (t q : Nat), bits_Mul64.f x y = some m ∧ bits_Add64.f m.2 o 0 = some s ∧ bits_Add64.f s.1 c 0 = some w ∧ w.1 = (t : Int) ∧ IntKind.u64.wrap ((IntKind.u64.wrap (m.1 + s.2)) + w.2) = (q : Int) ∧ t < 18446744073709551616 ∧ q < 18446744073709551616 ∧ (t : Int) = x * y + o + c - 18446744073709551616 * q := by
  have hxy := mul_lt hx hy
  have hM := mul64 x y hx hy
  have e0 := Nat.div_add_mod (x * y) 18446744073709551616
  have r0 : x * y % 18446744073709551616 < 18446744073709551616 := Nat.mod_lt _ (by decide)
  have ec : ((x * y : Nat) : Int) = (x : Int) * y := Int.natCast_mul x y
  generalize x * y / 18446744073709551616 = hi at *
  generalize x * y % 18446744073709551616 = lo at *
  generalize (x : Int) * y = XY at *
  generalize x * y = xy at *
  obtain ⟨s1, c1, f1, g1, l1, e1⟩ := add64 lo o 0 r0 ho (by decide)
  obtain ⟨s2, c2, f2, g2, l2, e2⟩ := add64 s1 c 0 l1 hc (by decide)
  have e0' : (18446744073709551616 : Int) * hi + lo = XY := by rw [← ec, ← e0]; simp
  have e3 := lin_mac _ _ _ _ _ _ _ _ _ _ e0' e1 e2
  have hS : XY + o + c < 18446744073709551616 * 18446744073709551616 := by
    clear e1 e2 e3 e0 e0' f1 f2
    omega
  have hq := lt_mac _ _ _ _ (by decide) e3 (Int.natCast_nonneg _) hS
  have e4 : ((hi + c1 + c2 : Nat) : Int) = hi + c1 + c2 := by simp
  have e5 : (s2 : Int) = XY + o + c - 18446744073709551616 * ((hi + c1 + c2 : Nat) : Int) := by rw [e4]; exact e3
  clear e1 e2 e0 e0' ec hS e3 hxy
  have z : (((0 : Nat) : Int)) = 0 := rfl
  rw [z] at f1 f2
  refine ⟨_, _, _, s2, hi + c1 + c2, hM, f1, f2, rfl, ?_, l2, by clear e5; omega, e5⟩
  simp only []
  rw [ur (x := (hi : Int) + c1) (by omega) (by omega), ur (x := (hi : Int) + c1 + c2) (by omega) (by omega)]
  rfl
/-- The value of digits, kept from the eyes of omega. -/
structure Vl (B : Nat) (l : List Int) (v : Int) : Prop where
  val : vl B l = v
theorem times_in (b x : Nat) (A : List Int) (i : Nat) (r : List Int) (v : Int) (hx : x < 18446744073709551616) (hiL : i + (D b).length < 35184372088832) (n0 : Int) (r' : List Int)
    (fin : ∀ (l : List Int) (c : Nat), l.length = r'.length → Digs 18446744073709551616 l → (∀ j, i + (D b).length ≤ j → l.getD j 0 = 0) → Vl 18446744073709551616 l (v + x * b * 18446744073709551616 ^ i - c * 18446744073709551616 ^ (i + (D b).length)) → c < 18446744073709551616 →
      Av (fun k => impl_nat_times.l0 k (D b) (l.set (i + (D b).length) c) A n0 ((i : Int) + 1)) r) : ∀ (d m c : Nat) (l : List Int), (D b).length - m = d → m ≤ (D b).length → c < 18446744073709551616 → l.length = r'.length → i + (D b).length < r'.length → Digs 18446744073709551616 l → (∀ j, i + (D b).length ≤ j → l.getD j 0 = 0) →
    Vl 18446744073709551616 l (v + x * (b % 18446744073709551616 ^ m : Nat) * 18446744073709551616 ^ i - c * 18446744073709551616 ^ (i + m)) →
    Av (fun k => impl_nat_times.l1 k (D b) l i x c A n0 i (D b) (D b).length m) r
  | 0, m, c, l, hd, hm, hc, hL, hr, hg, hz, hv => by
    obtain rfl : m = (D b).length := by omega
    refine Av.succ ?_
    simp only [impl_nat_times.l1]
    have e : wrap64 ((i : Int) + (D b).length) = ((i + (D b).length : Nat) : Int) := wrap_add (by omega)
    rw [e, wr (x := (i : Int) + 1) (by omega) (by omega)]
    refine Av.ifn (by omega) (Av.ifp (by omega) (Av.ifp (by omega) ?_))
    rw [Int.toNat_natCast]
    refine fin l c hL hg hz ⟨?_⟩ hc
    rw [hv.val, mod_full _ b (by decide) (Nat.le_refl _)]
  | d + 1, m, c, l, hd, hm, hc, hL, hr, hg, hz, hv => by
    have i1 : i + m < l.length := by omega
    have i2 : i + m < i + (D b).length := by omega
    have i3 : (D b).length - (m + 1) = d := by omega
    have i4 : m + 1 ≤ (D b).length := by omega
    have i6 : ((i + m : Nat) : Int) < l.length := by omega
    have i7 : (m : Int) < (D b).length := by omega
    have i8 : (0 : Int) ≤ m := by omega
    have e : wrap64 ((i : Int) + m) = ((i + m : Nat) : Int) := wrap_add (by omega)
    have i9 : m < 4611686018427387904 := by clear e; omega
    have e1 : wrap64 ((m : Int) + 1) = ((m + 1 : Nat) : Int) := wrap_one i9
    refine Av.succ ?_
    simp only [impl_nat_times.l1, e, e1, if_pos i7, if_pos i8]
    rw [rdD]
    have hy : b / 18446744073709551616 ^ m % 18446744073709551616 < 18446744073709551616 := Nat.mod_lt _ (by decide)
    have hs := mod_step 18446744073709551616 b m
    generalize b / 18446744073709551616 ^ m % 18446744073709551616 = y at *
    have hj0 : (0 : Int) ≤ ((i + m : Nat) : Int) := Int.natCast_nonneg _
    simp only [if_pos hj0, if_pos i6]
    have ho : rd l ((i + m : Nat) : Int) = l.getD (i + m) 0 := by unfold rd; rw [Int.toNat_natCast]
    have hob := digs_getD hg (by decide) (i + m)
    obtain ⟨o, hoe⟩ := Int.eq_ofNat_of_zero_le hob.1
    rw [ho]
    rw [hoe]
    rw [hoe] at hob
    have ho2 : o < 18446744073709551616 := Int.ofNat_lt.1 hob.2
    obtain ⟨m1, m2, m3, t, q, f1, f2, f3, f4, f5, ht, hq, he⟩ := mac64 x y o c hx hy ho2 hc
    simp only [Int.ofNat_eq_natCast, f1, f2, f3, f4, f5, Option.bind_some, Int.toNat_natCast]
    refine times_in b x A i r v hx hiL n0 r' fin d (m + 1) q _ i3 i4 hq (by rw [List.length_set]; exact hL) hr (digs_set hg ⟨Int.natCast_nonneg _, Int.ofNat_lt.2 ht⟩) ?_ ⟨?_⟩
    · intro j hj
      have i5 : i + m ≠ j := Nat.ne_of_lt (Nat.lt_of_lt_of_le i2 hj)
      rw [getD_set i1, if_neg i5]
      exact hz j hj
    · rw [vl_set _ _ _ _ i1, hv.val, hs, hoe, he]
      have e6 : ((18446744073709551616 : Nat) : Int) = 18446744073709551616 := rfl
      try simp only [e6]
      rw [← Nat.add_assoc, Int.pow_succ, Int.pow_add]
      generalize (18446744073709551616 : Int) ^ i = P at *
      generalize (18446744073709551616 : Int) ^ m = Q at *
      try simp only [Int.ofNat_eq_natCast]
      exact ring_mac _ _ _ _ _ _ _ _ _ _
theorem times_loop (a b : Nat) (hl : (D a).length + (D b).length < 35184372088832) : ∀ (d i : Nat) (l : List Int), (D a).length - i = d → i ≤ (D a).length → l.length = (D a).length + (D b).length → Upto 18446744073709551616 l (i + (D b).length) (((a % 18446744073709551616 ^ i : Nat) : Int) * b) →
    Av (fun k => impl_nat_times.l0 k (D b) l (D a) (D a).length i) (D (a * b))
  | 0, i, l, hd, hi, hL, h => by
    obtain rfl : i = (D a).length := by omega
    refine Av.succ ?_
    simp only [impl_nat_times.l0]
    refine Av.ifn (by omega) (Av.bind ?_ Av.ret)
    refine trim_f' h.digs (by omega) ?_
    rw [h.val, mod_full _ a (by decide) (Nat.le_refl _)]
    simp
  | d + 1, i, l, hd, hi, hL, h => by
    refine Av.succ ?_
    simp only [impl_nat_times.l0]
    refine Av.ifp (by omega) (Av.ifp (by omega) (Av.ifp (by omega) ?_))
    rw [rdD]
    refine times_in b (a / 18446744073709551616 ^ i % 18446744073709551616) (D a) i _ (((a % 18446744073709551616 ^ i : Nat) : Int) * b) (Nat.mod_lt _ (by decide)) (by omega) (D a).length l ?_ _ 0 0 l rfl (by omega) (by omega) rfl (by omega) h.digs h.zero ⟨?_⟩
    · intro l2 c h1 h2 h3 h4 h5
      have e : (i : Int) + 1 = ((i + 1 : Nat) : Int) := by omega
      rw [e]
      have h6 : Upto 18446744073709551616 l2 (i + (D b).length) _ := ⟨h2, h4.val, h3⟩
      have h7 := h6.set (x := (c : Int)) (w := ((a % 18446744073709551616 ^ (i + 1) : Nat) : Int) * b) (by omega) (by omega) (by
        rw [mod_step]
        have e6 : ((18446744073709551616 : Nat) : Int) = 18446744073709551616 := rfl
        try simp only [e6]
        grind)
      refine times_loop a b hl d (i + 1) _ (by omega) (by omega) (by rw [List.length_set]; omega) ?_
      have e2 : i + 1 + (D b).length = i + (D b).length + 1 := by omega
      rw [e2]
      exact h7
    · rw [h.val]; simp [Nat.mod_one]
theorem times_f (a b : Nat) (hl : (D a).length + (D b).length < 35184372088832) : Av (fun k => impl_nat_times.f k (D a) (D b)) (D (a * b)) := by
  unfold impl_nat_times.f
  have e : wrap64 (((D a).length : Int) + (D b).length) = (((D a).length + (D b).length : Nat) : Int) := by rw [wr (by omega) (by omega)]; omega
  rw [e, Int.toNat_natCast]
  refine Av.ifp (by omega) (Av.ifp (by omega) ?_)
  have h := times_loop a b hl _ 0 (List.replicate ((D a).length + (D b).length) 0) rfl (by omega) (by simp) (by
    simp only [Nat.pow_zero, Nat.mod_one]
    have := (Upto.start (B := 18446744073709551616) (by decide) ((D a).length + (D b).length)).more (j := 0 + (D b).length) (by omega)
    simpa using this)
  exact h
end Go.Proofs.Ytghhnjhjhjbljaa.C
namespace Go.Proofs.Ytghhnjhjhjbljaa.M
open Go.RowKit Go.Proofs.YtghhnjhjhjbljaaW.PrintWords Go.Proofs.YtghhnjhjhjbljaaW.PrintLast Go.Proofs.YtghhnjhjhjbljaaW.PrintMore
/-- The digit that is guessed. -/
def qh (B T d : Nat) : Nat := min (B - 1) (T / d)
theorem qh_le {B T d : Nat} : qh B T d ≤ B - 1 := Nat.min_le_left _ _
theorem qh_mul {B T d : Nat} : qh B T d * d ≤ T := Nat.le_trans (Nat.mul_le_mul_right d (Nat.min_le_right _ _)) (Nat.div_mul_le_self T d)
theorem le_qh {B T d g : Nat} (hd : 0 < d) (h1 : g ≤ B - 1) (h2 : g * d ≤ T) : g ≤ qh B T d := by
  unfold qh
  have := (Nat.le_div_iff_mul_le hd).2 h2
  omega
theorem qh_lt {B T d g : Nat} (hd : 0 < d) (hB : 0 < B) (h : B ≤ g ∨ T < g * d) : qh B T d ≤ g - 1 := by
  rcases h with h | h
  · have := @qh_le B T d; omega
  · have h1 := @qh_mul B T d
    have : qh B T d < g := by
      rcases Nat.lt_or_ge (qh B T d) g with h2 | h2
      · exact h2
      · have := Nat.mul_le_mul_right d h2; omega
    omega
/-- What the guess holds on its way: g * v + r = X, and it is not too small. -/
structure Gs (B v w X z g r : Nat) : Prop where
  sum : g * v + r = X
  ge : qh B (X * B + z) (v * B + w) ≤ g
theorem Gs.start {B v w X z : Nat} (hv : 0 < v) (hz : z < B) : Gs B v w X z (X / v) (X % v) := by
  refine ⟨by rw [Nat.mul_comm]; exact Nat.div_add_mod X v, ?_⟩
  have h1 := @qh_mul B (X * B + z) (v * B + w)
  generalize qh B (X * B + z) (v * B + w) = q at *
  rw [Nat.le_div_iff_mul_le hv]
  rcases Nat.lt_or_ge X (q * v) with h | h
  · exfalso
    have h2 : (X + 1) * B ≤ q * v * B := Nat.mul_le_mul_right B h
    have h3 : q * (v * B + w) = q * v * B + q * w := by grind
    have h4 : (X + 1) * B = X * B + B := by grind
    omega
  · exact h
theorem Gs.key {B v w X z g r : Nat} (h : Gs B v w X z g r) : g * (v * B + w) ≤ X * B + z ↔ g * w ≤ r * B + z := by
  have e1 : g * (v * B + w) = g * v * B + g * w := by grind
  have e2 : X * B = g * v * B + r * B := by rw [← h.sum]; grind
  omega
/-- It's the digit. -/
theorem Gs.done {B v w X z g r : Nat} (h : Gs B v w X z g r) (hv : 0 < v) (hB : 0 < B) (h1 : g ≤ B - 1) (h2 : g * w ≤ r * B + z) : g = qh B (X * B + z) (v * B + w) := by
  refine Nat.le_antisymm (le_qh ?_ h1 (h.key.2 h2)) h.ge
  have := Nat.mul_pos hv hB
  omega
/-- One less. -/
theorem Gs.next {B v w X z g r : Nat} (h : Gs B v w X z g r) (hv : 0 < v) (hB : 0 < B) (h1 : B ≤ g ∨ r * B + z < g * w) : 0 < g ∧ Gs B v w X z (g - 1) (r + v) := by
  have hg : 0 < g := by
    rcases Nat.eq_zero_or_pos g with h0 | h0
    · subst h0; rcases h1 with h1 | h1
      · omega
      · simp at h1
    · exact h0
  refine ⟨hg, ?_, ?_⟩
  · obtain ⟨g', rfl⟩ : ∃ g', g = g' + 1 := ⟨g - 1, by omega⟩
    have := h.sum
    rw [Nat.add_mul] at this
    simp only [Nat.add_sub_cancel]; omega
  · have := Nat.mul_pos hv hB
    refine qh_lt (by omega) hB ?_
    rcases h1 with h1 | h1
    · exact .inl h1
    · refine .inr ?_
      have := h.key
      omega
/-- What is left over has run over: it's the digit. -/
theorem Gs.over {B v w X z g r : Nat} (h : Gs B v w X z g r) (hv : 0 < v) (hB : 0 < B) (hw : w < B) (hX : X < (v + 1) * B) (hr : B ≤ r) : g = qh B (X * B + z) (v * B + w) := by
  have hg : g ≤ B - 1 := by
    rcases Nat.lt_or_ge g B with h1 | h1
    · omega
    · exfalso
      have h2 := Nat.mul_le_mul_right v h1
      have h3 := h.sum
      have h4 : (v + 1) * B = B * v + B := by grind
      omega
  refine h.done hv hB hg ?_
  have h1 : g * w ≤ (B - 1) * (B - 1) := Nat.mul_le_mul hg (by omega)
  have h2 : B * B ≤ r * B := Nat.mul_le_mul_right B hr
  have h3 : (B - 1) * (B - 1) ≤ B * B := Nat.mul_le_mul (by omega) (by omega)
  omega
/-- The guess by the highest digits is the quotient or one more. -/
theorem qh_near {B P v w rv T rw W V : Nat} (hB : 0 < B) (hv : 0 < v) (hrv : rv < P) (hrw : rw < P) (hV : V = (v * B + w) * P + rv) (hW : W = T * P + rw) (hlt : W < V * B) :
    W / V ≤ qh B T (v * B + w) ∧ qh B T (v * B + w) ≤ W / V + 1 := by
  have hd : 0 < v * B + w := by have := Nat.mul_pos hv hB; omega
  have hP : 0 < P := by omega
  have hV0 : 0 < V := by have := Nat.mul_pos hd hP; omega
  constructor
  · have h1 : W / V ≤ B - 1 := by
      have : W / V < B := by rw [Nat.div_lt_iff_lt_mul hV0]; rw [Nat.mul_comm]; exact hlt
      omega
    refine le_qh hd h1 ?_
    have h2 := Nat.div_mul_le_self W V
    generalize W / V = q at *
    rcases Nat.lt_or_ge T (q * (v * B + w)) with h | h
    · exfalso
      have h3 : (T + 1) * P ≤ q * (v * B + w) * P := Nat.mul_le_mul_right P h
      have h4 : q * V = q * (v * B + w) * P + q * rv := by rw [hV]; grind
      have h5 : (T + 1) * P = T * P + P := by grind
      omega
    · exact h
  · have h1 := @qh_le B T (v * B + w)
    have h2 := @qh_mul B T (v * B + w)
    generalize qh B T (v * B + w) = q at *
    rcases Nat.eq_zero_or_pos q with h0 | h0
    · rw [h0]; exact Nat.zero_le _
    · have h3 : q - 1 ≤ W / V := by
        rw [Nat.le_div_iff_mul_le hV0]
        have h4 : q * (v * B + w) * P ≤ T * P := Nat.mul_le_mul_right P h2
        have h5 : q * rv ≤ B * P := Nat.mul_le_mul (by omega) (by omega)
        have h6 : B * P ≤ v * B * P := by
          have := Nat.mul_le_mul_right (B * P) hv
          rw [Nat.mul_assoc]; omega
        have h7 : (q - 1) * V + V = q * V := by
          obtain ⟨q', rfl⟩ : ∃ q', q = q' + 1 := ⟨q - 1, by omega⟩
          rw [Nat.add_sub_cancel, Nat.add_mul, Nat.one_mul]
        have h8 : q * V = q * (v * B + w) * P + q * rv := by rw [hV]; grind
        have h9 : V = v * B * P + w * P + rv := by rw [hV]; grind
        have h10 : 0 ≤ w * P := Nat.zero_le _
        omega
      omega
/-- By two digits of two: the quotient itself. -/
theorem qh_exact {B T d : Nat} (hd : 0 < d) (h : T < d * B) : qh B T d = T / d := by
  unfold qh
  have : T / d < B := by rw [Nat.div_lt_iff_lt_mul hd, Nat.mul_comm]; exact h
  omega
end Go.Proofs.Ytghhnjhjhjbljaa.M
namespace Go.Proofs.Ytghhnjhjhjbljaa.C
open Go.RowKit Go.Proofs.YtghhnjhjhjbljaaW.PrintWords Go.Proofs.YtghhnjhjhjbljaaW.PrintLast Go.Proofs.YtghhnjhjhjbljaaW.PrintMore
open Go.Proofs.Ytghhnjhjhjbljaa.M Go.Proofs.Ytghhnjhjhjbljaa.F
theorem Upto.bound {B : Nat} (hB : 2 ≤ B) {l : List Int} {i : Nat} {v : Int} (h : Upto B l i v) : 0 ≤ v ∧ v < (B : Int) ^ i := by
  rw [← h.val]
  rw [← sm_getD]
  by_cases hi : i ≤ l.length
  · rw [sm_zero_above hi (fun j h1 h2 => h.zero j h1)]
    exact sm_bound hB (fun j _ => digs_getD h.digs (by omega) j)
  · have e := sm_zero_above (B := (B : Int)) (f := fun j => l.getD j 0) (n := l.length) (m := i) (by omega) (fun j h1 _ => by rw [List.getD_eq_getElem?_getD, List.getElem?_eq_none h1]; rfl)
    rw [← e]
    exact sm_bound hB (fun j _ => digs_getD h.digs (by omega) j)
theorem Upto.put {B : Nat} {l : List Int} {i k : Nat} {v x w : Int} (h : Upto B l k v) (hi : i < l.length) (hik : i < k) (hx : 0 ≤ x ∧ x < B) (hw : w = v + (x - l.getD i 0) * B ^ i) : Upto B (l.set i x) k w :=
  ⟨digs_set h.digs hx, by rw [vl_set B l i x hi, h.val, hw], fun j hj => by rw [getD_set hi, if_neg (by omega)]; exact h.zero j hj⟩
/-- From place k on nothing stands. -/
theorem Upto.less {B : Nat} (hB : 2 ≤ B) {l : List Int} {i k : Nat} {v : Nat} (h : Upto B l i v) (hv : v < B ^ k) : Upto B l k v :=
  ⟨h.digs, h.val, fun j hj => by
    rw [getD_of_vl hB h.digs h.val j]
    have : v < B ^ j := Nat.lt_of_lt_of_le hv (Nat.pow_le_pow_right (by omega) hj)
    rw [Nat.div_eq_of_lt this]; rfl⟩
theorem Upto.get {B : Nat} (hB : 2 ≤ B) {l : List Int} {i : Nat} {v : Nat} (h : Upto B l i v) (j : Nat) : l.getD j 0 = ((v / B ^ j % B : Nat) : Int) := getD_of_vl hB h.digs h.val j
/-- The list of a number in so many digits. -/
def fx (B L n : Nat) : List Int := (List.range L).map fun j => ((n / B ^ j % B : Nat) : Int)
theorem fx_length (B L n : Nat) : (fx B L n).length = L := by simp [fx]
theorem fx_getD {B L n j : Nat} (h : j < L) : (fx B L n).getD j 0 = ((n / B ^ j % B : Nat) : Int) := by
  unfold fx
  rw [List.getD_eq_getElem?_getD, List.getElem?_map, List.getElem?_range h]; rfl
theorem fx_upto {B : Nat} (hB : 2 ≤ B) {L n k : Nat} (hn : n < B ^ k) (hk : k ≤ L) : Upto B (fx B L n) k n := by
  have hd : Digs B (fx B L n) := by
    intro x hx
    simp only [fx, List.mem_map] at hx
    obtain ⟨j, _, rfl⟩ := hx
    have := Nat.mod_lt (n / B ^ j) (show 0 < B by omega)
    omega
  have hL : n < B ^ L := Nat.lt_of_lt_of_le hn (Nat.pow_le_pow_right (by omega) hk)
  have hv : vl B (fx B L n) = n := vl_of_getD hB (by rw [fx_length]; exact hL) (fun j hj => fx_getD (by rwa [fx_length] at hj))
  refine Upto.less hB (i := L) ⟨hd, hv, fun j hj => ?_⟩ hn
  rw [List.getD_eq_getElem?_getD, List.getElem?_eq_none (by rw [fx_length]; exact hj)]; rfl
theorem fx_of {B : Nat} (hB : 2 ≤ B) {l : List Int} {v : Nat} (h : Digs B l) (hv : vl B l = v) : l = fx B l.length v := by
  apply List.ext_getElem?
  intro j
  by_cases hj : j < l.length
  · have e1 := getD_of_vl hB h hv j
    have e2 := fx_getD (B := B) (L := l.length) (n := v) hj
    rw [← e2] at e1
    rw [List.getD_eq_getElem?_getD, List.getD_eq_getElem?_getD, List.getElem?_eq_getElem hj, List.getElem?_eq_getElem (by rw [fx_length]; exact hj)] at e1
    rw [List.getElem?_eq_getElem hj, List.getElem?_eq_getElem (by rw [fx_length]; exact hj)]
    simp only [Option.getD_some] at e1
    rw [e1]
  · rw [List.getElem?_eq_none (by omega), List.getElem?_eq_none (by rw [fx_length]; omega)]
/-- Nothing was borrowed: the guess is the digit. -/
theorem div_keep {U V q Pj : Nat} (hV : 0 < V) (hP : 0 < Pj) (h1 : U / Pj / V ≤ q) {X : Int} (h : X = (U : Int) - q * V * Pj) (h0 : 0 ≤ X) : q = U / Pj / V := by
  have h2 : q * V * Pj ≤ U := by
    have : ((q * V * Pj : Nat) : Int) ≤ U := by rw [Int.natCast_mul, Int.natCast_mul]; omega
    omega
  refine Nat.le_antisymm ?_ h1
  rw [Nat.le_div_iff_mul_le hV, Nat.le_div_iff_mul_le hP]
  exact h2
/-- Something was borrowed: the guess is one too great. -/
theorem div_back {U V q Pj : Nat} (hV : 0 < V) (hP : 0 < Pj) (h1 : q ≤ U / Pj / V + 1) {X K : Int} (h : X = (U : Int) - q * V * Pj + K) (h0 : X < K) : q = U / Pj / V + 1 := by
  have h2 : U < q * V * Pj := by
    have : (U : Int) < ((q * V * Pj : Nat) : Int) := by rw [Int.natCast_mul, Int.natCast_mul]; omega
    omega
  refine Nat.le_antisymm h1 ?_
  rcases Nat.lt_or_ge (U / Pj / V) q with h3 | h3
  · exact h3
  · exfalso
    rw [ge_iff_le, Nat.le_div_iff_mul_le hV, Nat.le_div_iff_mul_le hP] at h3
    omega
/-- What a step leaves. -/
theorem div_left {U V Pj : Nat} (hV : 0 < V) (hP : 0 < Pj) : U / Pj / V * V * Pj ≤ U ∧ U - U / Pj / V * V * Pj < V * Pj := by
  have h1 := Nat.div_mul_le_self (U / Pj) V
  have h2 := Nat.div_mul_le_self U Pj
  have h3 : U / Pj / V * V * Pj ≤ U / Pj * Pj := Nat.mul_le_mul_right Pj h1
  refine ⟨by omega, ?_⟩
  have h4 : U / Pj < U / Pj / V * V + V := by
    have h8 := Nat.div_add_mod (U / Pj) V
    have h9 := Nat.mod_lt (U / Pj) hV
    rw [Nat.mul_comm V] at h8
    omega
  have h5 : (U / Pj + 1) * Pj ≤ (U / Pj / V * V + V) * Pj := Nat.mul_le_mul_right Pj h4
  have h6 : U < (U / Pj + 1) * Pj := by
    have h8 := Nat.div_add_mod U Pj
    have h9 := Nat.mod_lt U hP
    rw [Nat.add_mul, Nat.one_mul, Nat.mul_comm (U / Pj)]
    omega
  rw [Nat.add_mul (U / Pj / V * V)] at h5
  omega
/-- A quotient in progress: U is left over, q is known from place j on. -/
structure Dv (B A V j U q : Nat) : Prop where
  sum : A = U + q * V
  lt : U < V * B ^ j
theorem Dv.step {B A V j U q : Nat} (hB : 0 < B) (hV : 0 < V) (h : Dv B A V (j + 1) U q) : Dv B A V j (U - U / B ^ j / V * V * B ^ j) (q + U / B ^ j / V * B ^ j) := by
  have hP : 0 < B ^ j := Nat.pow_pos hB
  obtain ⟨h1, h2⟩ := div_left (U := U) hV hP
  refine ⟨?_, h2⟩
  have h3 := h.sum
  have h4 : (q + U / B ^ j / V * B ^ j) * V = q * V + U / B ^ j / V * V * B ^ j := by grind
  omega
theorem Dv.digit {B A V j U q : Nat} (hB : 0 < B) (hV : 0 < V) (h : Dv B A V (j + 1) U q) : U / B ^ j / V < B := by
  have hP : 0 < B ^ j := Nat.pow_pos hB
  rw [Nat.div_lt_iff_lt_mul hV, Nat.div_lt_iff_lt_mul hP]
  have := h.lt
  rw [Nat.pow_succ] at this
  have e : B * V * B ^ j = V * (B ^ j * B) := by grind
  omega
theorem Dv.done {B A V U q : Nat} (hV : 0 < V) (h : Dv B A V 0 U q) : q = A / V ∧ U = A % V := by
  have h1 := h.sum
  have h2 := h.lt
  simp only [Nat.pow_zero, Nat.mul_one] at h2
  subst h1
  constructor
  · rw [Nat.add_mul_div_right _ _ hV, Nat.div_eq_of_lt h2]; omega
  · rw [Nat.add_mul_mod_self_right, Nat.mod_eq_of_lt h2]
theorem Dv.start {B A V j : Nat} (h : A < V * B ^ j) : Dv B A V j A 0 := ⟨by omega, h⟩
/-- The guess for a step by the digits that it is told by. -/
theorem Dv.guess {B A V U q j n : Nat} (hB : 2 ≤ B) (h : Dv B A V (j + 1) U q) (hn : 2 ≤ n) (hV1 : B ^ (n - 1) ≤ V) (hV2 : V < B ^ n) {x y z v w : Nat}
    (hx : x = U / B ^ (j + n) % B) (hy : y = U / B ^ (j + n - 1) % B) (hz : z = U / B ^ (j + n - 2) % B) (hv : v = V / B ^ (n - 1) % B) (hw : w = V / B ^ (n - 2) % B) :
    0 < v ∧ w < B ∧ z < B ∧ x * B + y < (v + 1) * B ∧ U / B ^ j / V ≤ qh B ((x * B + y) * B + z) (v * B + w) ∧ qh B ((x * B + y) * B + z) (v * B + w) ≤ U / B ^ j / V + 1 := by
  have hB0 : 0 < B := by omega
  have hlt := h.lt
  have p1 : B ^ n = B ^ (n - 1) * B := by rw [← Nat.pow_succ]; congr 1; omega
  have p2 : B ^ (n - 1) = B ^ (n - 2) * B := by rw [← Nat.pow_succ]; congr 1; omega
  have hP2 : 0 < B ^ (n - 2) := Nat.pow_pos hB0
  have hP1 : 0 < B ^ (n - 1) := Nat.pow_pos hB0
  have hPj : 0 < B ^ j := Nat.pow_pos hB0
  -- the window
  have hW : U / B ^ j < V * B := by
    rw [Nat.div_lt_iff_lt_mul hPj, Nat.mul_assoc, Nat.mul_comm B, ← Nat.pow_succ]; exact hlt
  generalize hWd : U / B ^ j = W at *
  have ex : U / B ^ (j + n) = W / B ^ n := by rw [Nat.pow_add, ← Nat.div_div_eq_div_mul, hWd]
  have ey : U / B ^ (j + n - 1) = W / B ^ (n - 1) := by rw [show j + n - 1 = j + (n - 1) by omega, Nat.pow_add, ← Nat.div_div_eq_div_mul, hWd]
  have ez : U / B ^ (j + n - 2) = W / B ^ (n - 2) := by rw [show j + n - 2 = j + (n - 2) by omega, Nat.pow_add, ← Nat.div_div_eq_div_mul, hWd]
  rw [ex] at hx; rw [ey] at hy; rw [ez] at hz
  have hv' : v = V / B ^ (n - 1) := by
    rw [hv]; apply Nat.mod_eq_of_lt
    rw [Nat.div_lt_iff_lt_mul hP1, Nat.mul_comm, ← p1]; exact hV2
  have hxv : W / B ^ n ≤ v := by
    have h2 : W / B ^ (n - 1) / B = W / B ^ n := by rw [Nat.div_div_eq_div_mul, ← p1]
    have h3 : W / B ^ (n - 1) < (v + 1) * B := by
      rw [Nat.div_lt_iff_lt_mul hP1]
      have h4 : V < (v + 1) * B ^ (n - 1) := by
        rw [hv']
        have h8 := Nat.div_add_mod V (B ^ (n - 1))
        have h9 := Nat.mod_lt V hP1
        rw [Nat.add_mul, Nat.one_mul, Nat.mul_comm (V / _)]
        omega
      have h5 : (V + 1) * B ≤ (v + 1) * B ^ (n - 1) * B := Nat.mul_le_mul_right B h4
      have h6 : (v + 1) * B ^ (n - 1) * B = (v + 1) * B * B ^ (n - 1) := by grind
      have h7 : (V + 1) * B = V * B + B := by grind
      omega
    rw [← h2]
    have : W / B ^ (n - 1) / B < v + 1 := by rw [Nat.div_lt_iff_lt_mul hB0]; exact h3
    omega
  have hvB : v < B := by rw [hv]; exact Nat.mod_lt _ hB0
  have hx' : x = W / B ^ n := by rw [hx]; exact Nat.mod_eq_of_lt (by omega)
  have exy : x * B + y = W / B ^ (n - 1) := by
    rw [hx', hy, p1, ← Nat.div_div_eq_div_mul]
    have := Nat.div_add_mod (W / B ^ (n - 1)) B
    rw [Nat.mul_comm] at this
    omega
  have exyz : (x * B + y) * B + z = W / B ^ (n - 2) := by
    rw [exy, hz, p2, ← Nat.div_div_eq_div_mul]
    have := Nat.div_add_mod (W / B ^ (n - 2)) B
    rw [Nat.mul_comm] at this
    omega
  have evw : v * B + w = V / B ^ (n - 2) := by
    rw [hv', hw, p2, ← Nat.div_div_eq_div_mul]
    have := Nat.div_add_mod (V / B ^ (n - 2)) B
    rw [Nat.mul_comm] at this
    omega
  have hv0 : 0 < v := by
    rw [hv']; exact Nat.div_pos hV1 hP1
  have hyB : y < B := by rw [hy]; exact Nat.mod_lt _ hB0
  have hwB : w < B := by rw [hw]; exact Nat.mod_lt _ hB0
  have hzB : z < B := by rw [hz]; exact Nat.mod_lt _ hB0
  have hnear := qh_near (B := B) (P := B ^ (n - 2)) (v := v) (w := w) (rv := V % B ^ (n - 2)) (T := W / B ^ (n - 2)) (rw := W % B ^ (n - 2)) (W := W) (V := V) hB0 hv0 (Nat.mod_lt _ hP2) (Nat.mod_lt _ hP2)
    (by rw [evw, Nat.mul_comm]; exact (Nat.div_add_mod _ _).symm) (by rw [Nat.mul_comm]; exact (Nat.div_add_mod _ _).symm) hW
  rw [exyz]
  refine ⟨hv0, hwB, hzB, ?_, hnear.1, hnear.2⟩
  rw [exy]
  have h2 : W / B ^ (n - 1) / B = W / B ^ n := by rw [Nat.div_div_eq_div_mul, ← p1]
  have h3 : W / B ^ (n - 1) / B < v + 1 := by omega
  rwa [Nat.div_lt_iff_lt_mul hB0] at h3
/-- A digit of a number that is shifted to the right. -/
theorem dig_shift {t s : Nat} (h : s ≤ t) (Y : Nat) : Y / 2 ^ s % 2 ^ t = Y % 2 ^ t / 2 ^ s + Y / 2 ^ t % 2 ^ t * 2 ^ (t - s) % 2 ^ t := by
  have e : (2 : Nat) ^ t = 2 ^ s * 2 ^ (t - s) := by rw [← Nat.pow_add]; congr 1; omega
  have e2 : (2 : Nat) ^ t = 2 ^ (t - s) * 2 ^ s := by rw [e, Nat.mul_comm]
  generalize 2 ^ s = P at *
  generalize 2 ^ (t - s) = Q at *
  have h1 : Y % 2 ^ t / P = Y / P % Q := by rw [e, Nat.mod_mul_right_div_self]
  have h2 : Y / P % 2 ^ t = Y / P % Q + Q * (Y / 2 ^ t % P) := by
    rw [e2, Nat.mod_mul, Nat.div_div_eq_div_mul, ← e, e2]
  have h3 : Y / 2 ^ t % 2 ^ t * Q % 2 ^ t = Q * (Y / 2 ^ t % P) := by
    have h4 : ∀ z : Nat, z * Q % (Q * P) = Q * (z % P) := fun z => by rw [Nat.mul_comm z, Nat.mul_mod_mul_left]
    have h5 : Y / 2 ^ t % 2 ^ t % P = Y / 2 ^ t % P := Nat.mod_mod_of_dvd _ ⟨Q, e⟩
    have h6 := h4 (Y / 2 ^ t % 2 ^ t)
    rw [← e2, h5] at h6
    exact h6
  rw [h1, h2, h3]
theorem down_lt {t s x : Nat} (h : s ≤ t) (hx : x < 2 ^ t) : x / 2 ^ s < 2 ^ (t - s) := by
  rw [Nat.div_lt_iff_lt_mul (Nat.pow_pos (by decide)), ← Nat.pow_add]
  have : t - s + s = t := by omega
  rw [this]; exact hx
theorem down_dvd {t s y : Nat} (h : s ≤ t) : y * 2 ^ (t - s) % 2 ^ t % 2 ^ (t - s) = 0 := by
  rw [Nat.mod_mod_of_dvd _ ⟨2 ^ s, by rw [← Nat.pow_add]; congr 1; omega⟩, Nat.mul_mod_left]
/-- The limbs of a shifted number, one of them. -/
theorem down64 {x y s : Nat} (hs : s < 64) (hx : x < 18446744073709551616) : Go.bits .or .u64 (x / 2 ^ s : Nat) (y * 2 ^ (64 - s) % 18446744073709551616 : Nat) = ((x / 2 ^ s + y * 2 ^ (64 - s) % 18446744073709551616 : Nat) : Int) := by
  have e64 : (2 : Nat) ^ 64 = 18446744073709551616 := rfl
  have h1 := down_lt (t := 64) (s := s) (x := x) (by omega) (by rw [e64]; exact hx)
  have h2 := down_dvd (t := 64) (s := s) (y := y) (by omega)
  have h3 : y * 2 ^ (64 - s) % 18446744073709551616 < 18446744073709551616 := Nat.mod_lt _ (by decide)
  rw [e64] at h2
  generalize y * 2 ^ (64 - s) % 18446744073709551616 = Z at *
  have h4 : x / 2 ^ s < 18446744073709551616 := Nat.lt_of_le_of_lt (Nat.div_le_self _ _) hx
  generalize x / 2 ^ s = q at *
  have hc : Go.bits .or .u64 (q : Int) (Z : Int) = Go.bits .or .u64 (Z : Int) (q : Int) := by simp only [Go.bits, BitVec.or_comm]
  have e2 : ((2 : Int) ^ (64 - s)) = ((2 ^ (64 - s) : Nat) : Int) := by simp
  have hj := bits_join .u64 64 (by decide) (fun n h0 h1 => ur h0 (by simpa using h1)) (64 - s) (Z : Int) (q : Int) (Int.natCast_nonneg _) (by rw [e2, ← Int.natCast_emod, h2]; rfl) (Int.ofNat_lt.2 h3) (Int.natCast_nonneg _) (by rw [e2]; exact Int.ofNat_lt.2 h1) (Int.ofNat_lt.2 h4)
  rw [hc, hj, Int.natCast_add, Int.add_comm]
theorem shr_nat {k : IntKind} {x s : Nat} (hs : s ≤ k.bits) : shr k (x : Int) (s : Int) = ((x / 2 ^ s : Nat) : Int) := by
  unfold shr
  rw [Int.toNat_natCast, Nat.min_eq_left hs, natCast_div_pow']
theorem shl_u64 {x s : Nat} (hs : s ≤ 64) : shl .u64 (x : Int) (s : Int) = ((x * 2 ^ s % 18446744073709551616 : Nat) : Int) := by
  unfold shl
  rw [Int.toNat_natCast, Nat.min_eq_left (show s ≤ IntKind.u64.bits from hs), uw]
  have e : (2 : Int) ^ s = ((2 ^ s : Nat) : Int) := by simp
  rw [e, ← Int.natCast_mul]
  rfl
theorem rd_get {l : List Int} {i : Nat} : rd l (i : Int) = l.getD i 0 := by unfold rd; rw [Int.toNat_natCast]
theorem W64 : (18446744073709551616 : Nat) = 2 ^ 64 := rfl
theorem down_dig (a i s : Nat) (hs : s < 64) : a / 2 ^ s / 18446744073709551616 ^ i % 18446744073709551616 = a / 18446744073709551616 ^ i % 18446744073709551616 / 2 ^ s + a / 18446744073709551616 ^ (i + 1) % 18446744073709551616 * 2 ^ (64 - s) % 18446744073709551616 := by
  have h := dig_shift (t := 64) (s := s) (by omega) (a / 18446744073709551616 ^ i)
  rw [← W64, Nat.div_div_eq_div_mul, Nat.div_div_eq_div_mul] at h
  rw [Nat.div_div_eq_div_mul, Nat.mul_comm (2 ^ s), h, Nat.pow_succ]
/-- What is shifted so far: the digits below place i. -/
structure Dn (a s : Nat) (l : List Int) (i : Nat) : Prop where
  len : l.length = (D a).length
  lo : ∀ j, j < i → l.getD j 0 = ((a / 2 ^ s / 18446744073709551616 ^ j % 18446744073709551616 : Nat) : Int)
  hi : ∀ j, i ≤ j → l.getD j 0 = ((a / 18446744073709551616 ^ j % 18446744073709551616 : Nat) : Int)
theorem down_loop (a s : Nat) (hs : s < 64) (hl : (D a).length < 17592186044416) : ∀ (d i : Nat) (l : List Int), (D a).length - i = d → i ≤ (D a).length → Dn a s l i → Av (fun k => impl_nat_down.l0 k (D a) s l (D a).length i) (D (a / 2 ^ s))
  | 0, i, l, hd, hi, h => by
    obtain rfl : i = (D a).length := by omega
    refine Av.succ ?_
    simp only [impl_nat_down.l0]
    refine Av.ifn (by omega) (Av.bind ?_ Av.ret)
    have hlt : a / 2 ^ s < 18446744073709551616 ^ l.length := by
      rw [h.len]
      exact Nat.lt_of_le_of_lt (Nat.div_le_self _ _) ((D_le _ a).1 (Nat.le_refl _))
    refine trim_f' (n := a / 2 ^ s) ?_ (by rw [h.len]; omega) (vl_of_getD (by decide) hlt (fun j hj => h.lo j (by rw [← h.len]; exact hj)))
    intro x hx
    obtain ⟨j, hj, rfl⟩ := List.getElem_of_mem hx
    have h1 := h.lo j (by rw [← h.len]; exact hj)
    rw [List.getD_eq_getElem?_getD, List.getElem?_eq_getElem hj] at h1
    simp only [Option.getD_some] at h1
    rw [h1]
    exact ⟨Int.natCast_nonneg _, Int.ofNat_lt.2 (Nat.mod_lt _ (by decide))⟩
  | d + 1, i, l, hd, hi, h => by
    have i1 : (i : Int) < (D a).length := by omega
    have i2 : i < l.length := by rw [h.len]; omega
    have i3 : (D a).length - (i + 1) = d := by omega
    have i4 : i + 1 ≤ (D a).length := by omega
    have i5 : (i : Int) < l.length := Int.ofNat_lt.2 i2
    have i6 : i < 4611686018427387904 := by omega
    have e1 : wrap64 ((i : Int) + 1) = ((i + 1 : Nat) : Int) := wrap_one i6
    have es : wrap64 (64 - (s : Int)) = ((64 - s : Nat) : Int) := by clear i1 i2 i5 e1 i6 i4; rw [wr (by omega) (by omega)]; omega
    have hx : a / 18446744073709551616 ^ i % 18446744073709551616 < 18446744073709551616 := Nat.mod_lt _ (by decide)
    have hdig := down_dig a i s hs
    have r1 : rd l (i : Int) = ((a / 18446744073709551616 ^ i % 18446744073709551616 : Nat) : Int) := by rw [rd_get]; exact h.hi i (Nat.le_refl _)
    have r2 := rdD a (i + 1)
    have hsh : shr .u64 ((a / 18446744073709551616 ^ i % 18446744073709551616 : Nat) : Int) (s : Int) = _ := shr_nat (k := .u64) (Nat.le_of_lt hs)
    refine Av.succ ?_
    simp only [impl_nat_down.l0, e1, es, r1, r2, hsh, Int.toNat_natCast]
    refine Av.ifp i1 (Av.ifp (Int.natCast_nonneg _) (Av.ifp i5 (Av.ifp (Int.natCast_nonneg _) (Av.bindc rfl ?_))))
    by_cases hlast : i + 1 < (D a).length
    · refine Av.ifp (Int.ofNat_lt.2 hlast) (Av.ifp (Int.natCast_nonneg _) (Av.ifp (Int.natCast_nonneg _) ?_))
      have r3 : rd (l.set i ((a / 18446744073709551616 ^ i % 18446744073709551616 / 2 ^ s : Nat) : Int)) (i : Int) = ((a / 18446744073709551616 ^ i % 18446744073709551616 / 2 ^ s : Nat) : Int) := by
        rw [rd_get, getD_set i2, if_pos rfl]
      rw [r3, shl_u64 (by omega), down64 hs hx, ← hdig, List.set_set]
      refine down_loop a s hs hl d (i + 1) _ i3 i4 ⟨by rw [List.length_set]; exact h.len, ?_, ?_⟩
      · intro j hj
        rw [getD_set i2]
        by_cases hij : i = j
        · subst hij; rw [if_pos rfl]
        · rw [if_neg hij]; exact h.lo j (Nat.lt_of_le_of_ne (Nat.le_of_lt_succ hj) (Ne.symm hij))
      · intro j hj
        rw [getD_set i2, if_neg (Nat.ne_of_lt hj)]
        exact h.hi j (Nat.le_of_lt hj)
    · refine Av.ifn (fun hc => hlast (Int.ofNat_lt.1 hc)) ?_
      have hz : a / 18446744073709551616 ^ (i + 1) % 18446744073709551616 = 0 := by
        have h1 : a < 18446744073709551616 ^ (i + 1) := (D_le _ a).1 (Nat.le_of_not_lt hlast)
        rw [Nat.div_eq_of_lt h1]
      rw [hz, Nat.zero_mul, Nat.zero_mod, Nat.add_zero] at hdig
      rw [← hdig]
      refine down_loop a s hs hl d (i + 1) _ i3 i4 ⟨by rw [List.length_set]; exact h.len, ?_, ?_⟩
      · intro j hj
        rw [getD_set i2]
        by_cases hij : i = j
        · subst hij; rw [if_pos rfl]
        · rw [if_neg hij]; exact h.lo j (Nat.lt_of_le_of_ne (Nat.le_of_lt_succ hj) (Ne.symm hij))
      · intro j hj
        rw [getD_set i2, if_neg (Nat.ne_of_lt hj)]
        exact h.hi j (Nat.le_of_lt hj)
theorem down_f (a s : Nat) (hs : s < 64) (hl : (D a).length < 17592186044416) : Av (fun k => impl_nat_down.f k (D a) s) (D (a / 2 ^ s)) := by
  unfold impl_nat_down.f impl_nat_uint64.f
  refine Av.bindc (if_pos hl) ?_
  exact down_loop a s hs hl (D a).length 0 (D a) (by omega) (by omega) ⟨rfl, fun j hj => by omega, fun j _ => by rw [← rd_get]; exact rdD a j⟩
/-- A number that a limb holds. -/
theorem urn {n : Nat} (h : n < 18446744073709551616) : IntKind.u64.wrap (n : Int) = (n : Int) := ur (Int.natCast_nonneg _) (Int.ofNat_lt.2 h)
theorem urm {a b : Nat} (h : a * b < 18446744073709551616) : IntKind.u64.wrap ((a : Int) * b) = ((a * b : Nat) : Int) := by rw [← Int.natCast_mul]; exact urn h
theorem ura {a b : Nat} (h : a + b < 18446744073709551616) : IntKind.u64.wrap ((a : Int) + b) = ((a + b : Nat) : Int) := by rw [← Int.natCast_add]; exact urn h
theorem urs {a b : Nat} (h : a < 18446744073709551616) (hb : b ≤ a) : IntKind.u64.wrap ((a : Int) - b) = ((a - b : Nat) : Int) := by
  rw [← Int.ofNat_sub hb]; exact urn (Nat.lt_of_le_of_lt (Nat.sub_le _ _) h)
theorem tdu {x y : Nat} (h : x < 18446744073709551616) : IntKind.u64.wrap (Int.tdiv (x : Int) (y : Int)) = ((x / y : Nat) : Int) := by
  rw [td (Int.natCast_nonneg _), ← Int.natCast_ediv]; exact urn (Nat.lt_of_le_of_lt (Nat.div_le_self _ _) h)
/-- What comes round again. -/
theorem wrap_rem {a b c r : Nat} (h : a + b = c + r) (hr : r < 18446744073709551616) : IntKind.u64.wrap (IntKind.u64.wrap (IntKind.u64.wrap (a : Int) + b) - IntKind.u64.wrap (c : Int)) = (r : Int) := by
  rw [uw, uw, uw, uw]; omega
/-- The guess by halves of a limb: the first. -/
theorem d64_l0 {Y s v w X z u0 : Nat} {r : Int × Int} (hv0 : 0 < v) (hv : v < 4294967296) (hw : w < 4294967296) (hz : z < 4294967296) (hX : X < (v + 1) * 4294967296)
    (fin : Av (fun k => bits_Div64.j2 k Y s v w X z u0 ((qh 4294967296 (X * 4294967296 + z) (v * 4294967296 + w) : Nat) : Int)) r) :
    ∀ (g x : Nat), g < 18446744073709551616 → x < 4294967296 → Gs 4294967296 v w X z g x → Av (fun k => bits_Div64.l0 k Y s v w X z u0 g x) r := by
  intro g
  induction g using Nat.strongRecOn with
  | _ g ih =>
    intro x hgb hx hG
    have ww : IntKind.u64.wrap ((x : Int) + (v : Int)) = ((x + v : Nat) : Int) := ura (by omega)
    have jT : (4294967296 ≤ g ∨ x * 4294967296 + z < g * w) → Av (fun k => bits_Div64.j1 k Y s v w X z u0 g x true) r := by
      intro hc
      obtain ⟨hg0, hG2⟩ := hG.next hv0 (by decide) hc
      have wg : IntKind.u64.wrap ((g : Int) - 1) = ((g - 1 : Nat) : Int) := urs (b := 1) hgb hg0
      refine Av.succ ?_
      simp only [bits_Div64.j1, ww, wg]
      refine Av.ifp (by decide) ?_
      by_cases hB : 4294967296 ≤ x + v
      · refine Av.ifp (Int.ofNat_le.2 hB) ?_
        rw [hG2.over hv0 (by decide) hw hX hB]
        exact fin
      · refine Av.ifn (fun h => hB (Int.ofNat_le.1 h)) ?_
        exact ih (g - 1) (Nat.sub_lt hg0 (by decide)) (x + v) (Nat.lt_of_le_of_lt (Nat.sub_le _ _) hgb) (Nat.lt_of_not_le hB) hG2
    refine Av.succ ?_
    simp only [bits_Div64.l0]
    by_cases hgB : 4294967296 ≤ g
    · exact Av.ifp (Int.ofNat_le.2 hgB) (jT (.inl hgB))
    · refine Av.ifn (fun h => hgB (Int.ofNat_le.1 h)) ?_
      have hgl : g < 4294967296 := Nat.lt_of_not_le hgB
      have hm : g * w ≤ 4294967295 * 4294967295 := Nat.mul_le_mul (Nat.le_of_lt_succ hgl) (Nat.le_of_lt_succ hw)
      have w1 : IntKind.u64.wrap ((g : Int) * (w : Int)) = ((g * w : Nat) : Int) := urm (Nat.lt_of_le_of_lt hm (by decide))
      have w2 : IntKind.u64.wrap (4294967296 * (x : Int)) = ((4294967296 * x : Nat) : Int) := urm (a := 4294967296) (by clear ww jT ih hG w1; omega)
      have w3 : IntKind.u64.wrap (((4294967296 * x : Nat) : Int) + (z : Int)) = ((4294967296 * x + z : Nat) : Int) := ura (by clear ww jT ih hG w1 w2; omega)
      rw [w1, w2, w3]
      by_cases ht : x * 4294967296 + z < g * w
      · rw [decide_eq_true (Int.ofNat_lt.2 (by rw [Nat.mul_comm 4294967296]; exact ht))]
        exact jT (.inr ht)
      · rw [decide_eq_false (fun h => ht (by have := Int.ofNat_lt.1 h; rw [Nat.mul_comm 4294967296] at this; exact this))]
        refine Av.succ ?_
        simp only [bits_Div64.j1]
        refine Av.ifn (by decide) ?_
        rw [hG.done hv0 (by decide) (Nat.le_sub_one_of_lt hgl) (Nat.le_of_not_lt ht)]
        exact fin
/-- The second; what it comes to. -/
theorem d64_l1 {Y s v w X z q1 : Nat} {r : Int × Int} (hv0 : 0 < v) (hv : v < 4294967296) (hw : w < 4294967296) (hz : z < 4294967296) (hX : X < (v + 1) * 4294967296)
    (fin : ∀ g : Nat, g = qh 4294967296 (X * 4294967296 + z) (v * 4294967296 + w) → (IntKind.u64.wrap (IntKind.u64.wrap ((q1 : Int) * 4294967296) + g), shr .u64 (IntKind.u64.wrap (IntKind.u64.wrap (IntKind.u64.wrap ((X : Int) * 4294967296) + z) - IntKind.u64.wrap ((g : Int) * Y))) s) = r) :
    ∀ (g x : Nat), g < 18446744073709551616 → x < 4294967296 → Gs 4294967296 v w X z g x → Av (fun k => bits_Div64.l1 k Y s v w z q1 x X g) r := by
  intro g
  induction g using Nat.strongRecOn with
  | _ g ih =>
    intro x hgb hx hG
    have ww : IntKind.u64.wrap ((x : Int) + (v : Int)) = ((x + v : Nat) : Int) := ura (by omega)
    have jT : (4294967296 ≤ g ∨ x * 4294967296 + z < g * w) → Av (fun k => bits_Div64.j4 k Y s v w z q1 x X g true) r := by
      intro hc
      obtain ⟨hg0, hG2⟩ := hG.next hv0 (by decide) hc
      have wg : IntKind.u64.wrap ((g : Int) - 1) = ((g - 1 : Nat) : Int) := urs (b := 1) hgb hg0
      refine Av.succ ?_
      simp only [bits_Div64.j4, ww, wg]
      refine Av.ifp (by decide) ?_
      by_cases hB : 4294967296 ≤ x + v
      · refine Av.ifp (Int.ofNat_le.2 hB) (Av.ifp (Int.natCast_nonneg _) (Av.ret' ?_))
        exact fin _ (hG2.over hv0 (by decide) hw hX hB)
      · refine Av.ifn (fun h => hB (Int.ofNat_le.1 h)) ?_
        exact ih (g - 1) (Nat.sub_lt hg0 (by decide)) (x + v) (Nat.lt_of_le_of_lt (Nat.sub_le _ _) hgb) (Nat.lt_of_not_le hB) hG2
    refine Av.succ ?_
    simp only [bits_Div64.l1]
    by_cases hgB : 4294967296 ≤ g
    · exact Av.ifp (Int.ofNat_le.2 hgB) (jT (.inl hgB))
    · refine Av.ifn (fun h => hgB (Int.ofNat_le.1 h)) ?_
      have hgl : g < 4294967296 := Nat.lt_of_not_le hgB
      have hm : g * w ≤ 4294967295 * 4294967295 := Nat.mul_le_mul (Nat.le_of_lt_succ hgl) (Nat.le_of_lt_succ hw)
      have w1 : IntKind.u64.wrap ((g : Int) * (w : Int)) = ((g * w : Nat) : Int) := urm (Nat.lt_of_le_of_lt hm (by decide))
      have w2 : IntKind.u64.wrap (4294967296 * (x : Int)) = ((4294967296 * x : Nat) : Int) := urm (a := 4294967296) (by clear ww jT ih hG w1; omega)
      have w3 : IntKind.u64.wrap (((4294967296 * x : Nat) : Int) + (z : Int)) = ((4294967296 * x + z : Nat) : Int) := ura (by clear ww jT ih hG w1 w2; omega)
      rw [w1, w2, w3]
      by_cases ht : x * 4294967296 + z < g * w
      · rw [decide_eq_true (Int.ofNat_lt.2 (by rw [Nat.mul_comm 4294967296]; exact ht))]
        exact jT (.inr ht)
      · rw [decide_eq_false (fun h => ht (by have := Int.ofNat_lt.1 h; rw [Nat.mul_comm 4294967296] at this; exact this))]
        refine Av.succ ?_
        simp only [bits_Div64.j4]
        refine Av.ifn (by decide) (Av.ifp (Int.natCast_nonneg _) (Av.ret' ?_))
        exact fin _ (hG.done hv0 (by decide) (Nat.le_sub_one_of_lt hgl) (Nat.le_of_not_lt ht))
/-- The two halves of a divisor. -/
theorem halves (Y : Nat) : Y / 4294967296 * 4294967296 + Y % 4294967296 = Y := by omega
theorem guess_start {x v : Nat} (hx : x < 18446744073709551616) : IntKind.u64.wrap ((x : Int) - IntKind.u64.wrap (((x / v : Nat) : Int) * (v : Int))) = ((x % v : Nat) : Int) := by
  have h1 := Nat.div_mul_le_self x v
  rw [urm (Nat.lt_of_le_of_lt h1 hx), urs hx h1]
  congr 1
  have := Nat.div_add_mod x v
  rw [Nat.mul_comm] at this
  omega
theorem two_steps {X B u1 u0 Y : Nat} (hY : 0 < Y) : ((X * B + u1) * B + u0) / Y = (X * B + u1) / Y * B + ((X * B + u1) % Y * B + u0) / Y ∧ ((X * B + u1) * B + u0) % Y = ((X * B + u1) % Y * B + u0) % Y := by
  generalize X * B + u1 = T
  have h2 := Nat.div_add_mod T Y
  have h3 : T * B + u0 = (T % Y * B + u0) + Y * (T / Y * B) := by
    conv => lhs; rw [← h2]
    grind
  rw [h3]
  constructor
  · rw [Nat.add_mul_div_left _ _ hY]; omega
  · rw [Nat.add_mul_mod_self_left]
theorem step_lt {X B u Y : Nat} (hX : X < Y) (hu : u < B) : X * B + u < Y * B := by
  have := Nat.mul_le_mul_right B hX
  rw [Nat.succ_mul] at this
  omega
/-- By a divisor whose highest bit is set. -/
theorem d64_norm {Y s X u1 u0 : Nat} (hY : Y < 18446744073709551616) (hY2 : 9223372036854775808 ≤ Y) (hX : X < Y) (h1 : u1 < 4294967296) (h0 : u0 < 4294967296) (hs : s ≤ 63) :
    Av (fun k => bits_Div64.l0 k Y s ((Y / 4294967296 : Nat) : Int) ((Y % 4294967296 : Nat) : Int) X u1 u0 ((X / (Y / 4294967296) : Nat) : Int) ((X % (Y / 4294967296) : Nat) : Int))
      (((((X * 4294967296 + u1) * 4294967296 + u0) / Y : Nat) : Int), ((((X * 4294967296 + u1) * 4294967296 + u0) % Y / 2 ^ s : Nat) : Int)) := by
  have hv0 : 0 < Y / 4294967296 := by omega
  have hv : Y / 4294967296 < 4294967296 := by omega
  have hw : Y % 4294967296 < 4294967296 := by omega
  have hY0 : 0 < Y := by omega
  have hXb : X < 18446744073709551616 := Nat.lt_trans hX hY
  have hXv : X < (Y / 4294967296 + 1) * 4294967296 := by omega
  have hT1 := step_lt hX h1
  have hlt1 := step_lt (Nat.mod_lt (X * 4294967296 + u1) hY0) h0
  have hrb : (X * 4294967296 + u1) % Y < 18446744073709551616 := Nat.lt_trans (Nat.mod_lt _ hY0) hY
  have hrv : (X * 4294967296 + u1) % Y < (Y / 4294967296 + 1) * 4294967296 := by
    have := Nat.mod_lt (X * 4294967296 + u1) hY0
    clear hT1 hlt1; omega
  obtain ⟨s1, s2⟩ := two_steps (X := X) (B := 4294967296) (u1 := u1) (u0 := u0) hY0
  have e1 := qh_exact (B := 4294967296) (T := X * 4294967296 + u1) hY0 hT1
  have e0 := qh_exact (B := 4294967296) (T := (X * 4294967296 + u1) % Y * 4294967296 + u0) hY0 hlt1
  have hq1 : (X * 4294967296 + u1) / Y < 4294967296 := (Nat.div_lt_iff_lt_mul hY0).2 (Nat.lt_of_lt_of_eq hT1 (Nat.mul_comm _ _))
  have hq0 : ((X * 4294967296 + u1) % Y * 4294967296 + u0) / Y < 4294967296 := (Nat.div_lt_iff_lt_mul hY0).2 (Nat.lt_of_lt_of_eq hlt1 (Nat.mul_comm _ _))
  have hdm := Nat.div_add_mod (X * 4294967296 + u1) Y
  have hdm0 := Nat.div_add_mod ((X * 4294967296 + u1) % Y * 4294967296 + u0) Y
  rw [Nat.mul_comm Y] at hdm hdm0
  have hr0 : ((X * 4294967296 + u1) % Y * 4294967296 + u0) % Y < 18446744073709551616 := Nat.lt_trans (Nat.mod_lt _ hY0) hY
  have hG1 := Gs.start (B := 4294967296) (v := Y / 4294967296) (w := Y % 4294967296) (X := X) (z := u1) hv0 h1
  refine d64_l0 hv0 hv hw h1 hXv ?_ _ _ (Nat.lt_of_le_of_lt (Nat.div_le_self _ _) hXb) (Nat.lt_trans (Nat.mod_lt _ hv0) hv) hG1
  rw [halves, e1]
  -- the second half
  have hw21 : IntKind.u64.wrap (IntKind.u64.wrap (IntKind.u64.wrap ((X : Int) * 4294967296) + (u1 : Int)) - IntKind.u64.wrap ((((X * 4294967296 + u1) / Y : Nat) : Int) * (Y : Int))) = (((X * 4294967296 + u1) % Y : Nat) : Int) := by
    have := wrap_rem (a := X * 4294967296) (b := u1) (c := (X * 4294967296 + u1) / Y * Y) (r := (X * 4294967296 + u1) % Y) hdm.symm hrb
    rw [Int.natCast_mul, Int.natCast_mul] at this
    exact this
  have hne : ¬ ((Y / 4294967296 : Nat) : Int) = 0 := fun h => Nat.ne_of_gt hv0 (Int.ofNat.inj h)
  have hG0 := Gs.start (B := 4294967296) (v := Y / 4294967296) (w := Y % 4294967296) (X := (X * 4294967296 + u1) % Y) (z := u0) hv0 h0
  have htd := tdu (x := (X * 4294967296 + u1) % Y) (y := Y / 4294967296) hrb
  have hgs := guess_start (x := (X * 4294967296 + u1) % Y) (v := Y / 4294967296) hrb
  refine Av.succ ?_
  simp only [bits_Div64.j2, hw21, htd, hgs]
  refine Av.ifn hne ?_
  refine d64_l1 hv0 hv hw h0 hrv ?_ _ _ (Nat.lt_of_le_of_lt (Nat.div_le_self _ _) hrb) (Nat.lt_trans (Nat.mod_lt _ hv0) hv) hG0
  intro g hg
  rw [halves, e0] at hg
  subst hg
  have hr : IntKind.u64.wrap (IntKind.u64.wrap (IntKind.u64.wrap ((((X * 4294967296 + u1) % Y : Nat) : Int) * 4294967296) + (u0 : Int)) - IntKind.u64.wrap (((((X * 4294967296 + u1) % Y * 4294967296 + u0) / Y : Nat) : Int) * (Y : Int))) = ((((X * 4294967296 + u1) % Y * 4294967296 + u0) % Y : Nat) : Int) := by
    have := wrap_rem (a := (X * 4294967296 + u1) % Y * 4294967296) (b := u0) (c := ((X * 4294967296 + u1) % Y * 4294967296 + u0) / Y * Y) (r := ((X * 4294967296 + u1) % Y * 4294967296 + u0) % Y) hdm0.symm hr0
    rw [Int.natCast_mul, Int.natCast_mul] at this
    exact this
  have hm1 : (X * 4294967296 + u1) / Y * 4294967296 + ((X * 4294967296 + u1) % Y * 4294967296 + u0) / Y < 18446744073709551616 := by
    have := step_lt hq1 hq0
    exact Nat.lt_of_lt_of_le this (by decide)
  have hm2 : (X * 4294967296 + u1) / Y * 4294967296 < 18446744073709551616 := Nat.lt_of_le_of_lt (Nat.le_add_right _ _) hm1
  have hwq : IntKind.u64.wrap (IntKind.u64.wrap ((((X * 4294967296 + u1) / Y : Nat) : Int) * 4294967296) + ((((X * 4294967296 + u1) % Y * 4294967296 + u0) / Y : Nat) : Int)) = (((X * 4294967296 + u1) / Y * 4294967296 + ((X * 4294967296 + u1) % Y * 4294967296 + u0) / Y : Nat) : Int) := by
    have a1 := urm (b := 4294967296) hm2
    have a2 := ura hm1
    rw [show (((4294967296 : Nat) : Int)) = 4294967296 from rfl] at a1
    rw [a1, a2]
  rw [hwq, hr, shr_nat (k := .u64) (Nat.le_trans hs (by decide)), s1, s2]
/-- The highest bit of a shifted limb is set. -/
theorem norm_lt {y s : Nat} (h : y < 2 ^ (64 - s)) (hs : s ≤ 64) : y * 2 ^ s < 18446744073709551616 := by
  have h1 := Nat.mul_lt_mul_of_pos_right h (Nat.pow_pos (n := s) (show 0 < 2 by decide))
  rw [← Nat.pow_add, show 64 - s + s = 64 by omega, ← W64] at h1
  exact h1
theorem norm_of {y : Nat} (h0 : 0 < y) (hy : y < 18446744073709551616) : ∃ s : Nat, s ≤ 63 ∧ nb y = 64 - s ∧ y < 2 ^ (64 - s) ∧ 9223372036854775808 ≤ y * 2 ^ s := by
  have h1 := (nb_le 64 y).2 hy
  have h2 := (nb_lt 0 y).2 (by rw [Nat.pow_zero]; exact h0)
  refine ⟨64 - nb y, by omega, by omega, ?_, ?_⟩
  · rw [show 64 - (64 - nb y) = nb y by omega]
    exact (nb_le (nb y) y).1 (Nat.le_refl _)
  · have h3 := (nb_lt (nb y - 1) y).1 (by omega)
    have h4 := Nat.mul_le_mul_right (2 ^ (64 - nb y)) h3
    rw [← Nat.pow_add, show nb y - 1 + (64 - nb y) = 63 by omega] at h4
    exact h4
theorem or_top {h l s : Nat} (hs : s ≤ 63) (hh : h * 2 ^ s < 18446744073709551616) (hl : l < 18446744073709551616) : Go.bits .or .u64 ((h * 2 ^ s : Nat) : Int) ((l / 2 ^ (64 - s) : Nat) : Int) = ((h * 2 ^ s + l / 2 ^ (64 - s) : Nat) : Int) := by
  have h1 : l / 2 ^ (64 - s) < 2 ^ s := by
    rw [Nat.div_lt_iff_lt_mul (Nat.pow_pos (by decide)), ← Nat.pow_add, show s + (64 - s) = 64 by omega, ← W64]; exact hl
  have h2 : h * 2 ^ s % 2 ^ s = 0 := Nat.mul_mod_left _ _
  have h3 : l / 2 ^ (64 - s) < 18446744073709551616 := Nat.lt_of_le_of_lt (Nat.div_le_self _ _) hl
  have e2 : ((2 : Int) ^ s) = ((2 ^ s : Nat) : Int) := by simp
  generalize h * 2 ^ s = Z at *
  generalize l / 2 ^ (64 - s) = q at *
  have hj := bits_join .u64 64 (by decide) (fun n h0 h1 => ur h0 (by simpa using h1)) s (Z : Int) (q : Int) (Int.natCast_nonneg _) (by rw [e2, ← Int.natCast_emod, h2]; rfl) (Int.ofNat_lt.2 hh) (Int.natCast_nonneg _) (by rw [e2]; exact Int.ofNat_lt.2 h1) (Int.ofNat_lt.2 h3)
  rw [hj]; simp
theorem shift_value {h l s : Nat} (hs : s ≤ 64) : (h * 18446744073709551616 + l) * 2 ^ s = (h * 2 ^ s + l / 2 ^ (64 - s)) * 18446744073709551616 + l * 2 ^ s % 18446744073709551616 := by
  have h1 : l * 2 ^ s / 18446744073709551616 = l / 2 ^ (64 - s) := by
    have e : (18446744073709551616 : Nat) = 2 ^ (64 - s) * 2 ^ s := by rw [← Nat.pow_add, show 64 - s + s = 64 by omega, ← W64]
    conv => lhs; rw [e, Nat.mul_div_mul_right _ _ (Nat.pow_pos (by decide))]
  have h2 := Nat.div_add_mod (l * 2 ^ s) 18446744073709551616
  rw [h1] at h2
  have h3 : (h * 18446744073709551616 + l) * 2 ^ s = h * 2 ^ s * 18446744073709551616 + l * 2 ^ s := by grind
  rw [h3]
  conv => lhs; rw [← h2]
  grind
theorem div64 {h l y : Nat} (hy : y < 18446744073709551616) (hl : l < 18446744073709551616) (hh : h < y) : Av (fun k => bits_Div64.f k h l y) ((((h * 18446744073709551616 + l) / y : Nat) : Int), (((h * 18446744073709551616 + l) % y : Nat) : Int)) := by
  have hy0 : 0 < y := Nat.lt_of_le_of_lt (Nat.zero_le _) hh
  have n1 : ¬ ((y : Nat) : Int) = 0 := fun e => Nat.ne_of_gt hy0 (Int.ofNat.inj e)
  have n2 : ¬ ((y : Nat) : Int) ≤ (h : Int) := fun e => absurd (Int.ofNat_le.1 e) (Nat.not_le.2 hh)
  unfold bits_Div64.f
  refine Av.ifn n1 (Av.ifn n2 ?_)
  by_cases h0 : h = 0
  · subst h0
    refine Av.ifp rfl (Av.ret' ?_)
    rw [tdu hl, tm (Int.natCast_nonneg _), ← Int.natCast_emod, Nat.zero_mul, Nat.zero_add]
  · refine Av.ifn (fun e => h0 (Int.ofNat.inj e)) ?_
    obtain ⟨s, s1, s2, s3, s4⟩ := norm_of hy0 hy
    have hlz := lz_f y hy
    have hs64 : (64 : Int) - (nb y : Int) = (s : Int) := by rw [s2]; omega
    rw [hs64] at hlz
    have sl : s < 18446744073709551616 := by omega
    have ws : IntKind.u64.wrap (s : Int) = (s : Int) := urn sl
    have w64 : IntKind.u64.wrap (64 - (s : Int)) = ((64 - s : Nat) : Int) := urs (a := 64) (b := s) (by decide) (by omega)
    have hY := norm_lt s3 (by omega)
    have hP : 0 < 2 ^ s := Nat.pow_pos (by decide)
    have hhs : h * 2 ^ s < y * 2 ^ s := Nat.mul_lt_mul_of_pos_right hh hP
    have hhb : h * 2 ^ s < 18446744073709551616 := Nat.lt_trans hhs hY
    have k1 := shl_u64 (x := y) (s := s) (by omega)
    have k2 := shl_u64 (x := h) (s := s) (by omega)
    have k3 := shl_u64 (x := l) (s := s) (by omega)
    rw [Nat.mod_eq_of_lt hY] at k1
    rw [Nat.mod_eq_of_lt hhb] at k2
    have k4 : shr .u64 (l : Int) ((64 - s : Nat) : Int) = _ := shr_nat (k := .u64) (Nat.sub_le _ _)
    have k5 := or_top s1 hhb hl
    have hval := shift_value (h := h) (l := l) (s := s) (by omega)
    have hX : h * 2 ^ s + l / 2 ^ (64 - s) < y * 2 ^ s := by
      have a1 : (h * 18446744073709551616 + l) * 2 ^ s < y * 18446744073709551616 * 2 ^ s := Nat.mul_lt_mul_of_pos_right (step_lt hh hl) hP
      rw [hval] at a1
      have a2 : y * 18446744073709551616 * 2 ^ s = y * 2 ^ s * 18446744073709551616 := by grind
      rw [a2] at a1
      have a3 : (h * 2 ^ s + l / 2 ^ (64 - s)) * 18446744073709551616 < y * 2 ^ s * 18446744073709551616 := Nat.lt_of_le_of_lt (Nat.le_add_right _ _) a1
      exact Nat.lt_of_mul_lt_mul_right a3
    have hlow : l * 2 ^ s % 18446744073709551616 < 18446744073709551616 := Nat.mod_lt _ (by decide)
    have ed : (h * 18446744073709551616 + l) * 2 ^ s / (y * 2 ^ s) = (h * 18446744073709551616 + l) / y := Nat.mul_div_mul_right _ _ hP
    have em : (h * 18446744073709551616 + l) * 2 ^ s % (y * 2 ^ s) / 2 ^ s = (h * 18446744073709551616 + l) % y := by
      rw [Nat.mul_mod_mul_right, Nat.mul_div_cancel _ hP]
    rw [hval] at ed em
    generalize h * 2 ^ s + l / 2 ^ (64 - s) = X at *
    generalize y * 2 ^ s = Y at *
    generalize l * 2 ^ s % 18446744073709551616 = lo at *
    have g1 : lo / 4294967296 < 4294967296 := by clear k1 k2 k3 k4 k5 ed em hval hlz ws w64 hs64; omega
    have g0 : lo % 4294967296 < 4294967296 := Nat.mod_lt _ (by decide)
    have hsplit : (X * 4294967296 + lo / 4294967296) * 4294967296 + lo % 4294967296 = X * 18446744073709551616 + lo := by clear k1 k2 k3 k4 k5 ed em hval hlz ws w64 hs64; omega
    have key := d64_norm (s := s) hY s4 hX g1 g0 s1
    rw [hsplit, ed, em] at key
    have hXb : X < 18446744073709551616 := Nat.lt_trans hX hY
    have hv0 : 0 < Y / 4294967296 := by clear k1 k2 k3 k4 k5 ed em hval hlz ws w64 hs64 key; omega
    have c1 : ((Y : Nat) : Int) / 4294967296 = ((Y / 4294967296 : Nat) : Int) := rfl
    have c2 : ((lo : Nat) : Int) / 4294967296 = ((lo / 4294967296 : Nat) : Int) := rfl
    have c3 : Go.bits .and .u64 ((Y : Nat) : Int) 4294967295 = ((Y % 4294967296 : Nat) : Int) := by rw [and32 (Int.natCast_nonneg _) (Int.ofNat_lt.2 hY), Int.natCast_emod]; rfl
    have c4 : Go.bits .and .u64 ((lo : Nat) : Int) 4294967295 = ((lo % 4294967296 : Nat) : Int) := by rw [and32 (Int.natCast_nonneg _) (Int.ofNat_lt.2 hlow), Int.natCast_emod]; rfl
    have c5 := tdu (x := X) (y := Y / 4294967296) hXb
    have c6 := guess_start (x := X) (v := Y / 4294967296) hXb
    have n3 : ¬ ((Y / 4294967296 : Nat) : Int) = 0 := fun e => Nat.ne_of_gt hv0 (Int.ofNat.inj e)
    refine Av.bind hlz ?_
    simp only [ws, w64, k1, k2, k3, k4, k5, c1, c2, c3, c4, c5, c6]
    exact Av.ifp (Int.natCast_nonneg _) (Av.ifp (Int.natCast_nonneg _) (Av.ifn n3 key))
theorem mul_split {q w x z hi lo : Nat} (h : 18446744073709551616 * hi + lo = q * w) (hlo : lo < 18446744073709551616) (hz : z < 18446744073709551616) : q * w ≤ x * 18446744073709551616 + z ↔ hi < x ∨ (hi = x ∧ lo ≤ z) := by
  rw [← h]; omega
theorem digit_l0 {v w X z : Nat} (hv0 : 0 < v) (hv : v < 18446744073709551616) (hw : w < 18446744073709551616) (hz : z < 18446744073709551616) (hX : X < (v + 1) * 18446744073709551616) :
    ∀ (g x : Nat), g < 18446744073709551616 → x < 18446744073709551616 → Gs 18446744073709551616 v w X z g x → Av (fun k => impl_digit.l0 k z v w g x) ((qh 18446744073709551616 (X * 18446744073709551616 + z) (v * 18446744073709551616 + w) : Nat) : Int) := by
  intro g
  induction g using Nat.strongRecOn with
  | _ g ih =>
    intro x hg hx hG
    have hM := mul64 g w hg hw
    have e0 := Nat.div_add_mod (g * w) 18446744073709551616
    have hlo : g * w % 18446744073709551616 < 18446744073709551616 := Nat.mod_lt _ (by decide)
    have hiff := mul_split (x := x) (z := z) e0 hlo hz
    have jT : g * w ≤ x * 18446744073709551616 + z → Av (fun k => impl_digit.j2 k z v w g x true) ((qh 18446744073709551616 (X * 18446744073709551616 + z) (v * 18446744073709551616 + w) : Nat) : Int) := by
      intro hc
      refine Av.succ ?_
      simp only [impl_digit.j2]
      refine Av.ifp (by decide) (Av.ret' ?_)
      rw [hG.done hv0 (by decide) (Nat.le_sub_one_of_lt hg) hc]
    have jF : x * 18446744073709551616 + z < g * w → Av (fun k => impl_digit.j2 k z v w g x false) ((qh 18446744073709551616 (X * 18446744073709551616 + z) (v * 18446744073709551616 + w) : Nat) : Int) := by
      intro hc
      obtain ⟨hg0, hG2⟩ := hG.next hv0 (by decide) (.inr hc)
      have wg : IntKind.u64.wrap ((g : Int) - 1) = ((g - 1 : Nat) : Int) := urs (b := 1) hg hg0
      obtain ⟨r, q, f1, f2, f3, f4⟩ := add64 x v 0 hx hv (by decide)
      have hz0 : ((0 : Nat) : Int) = 0 := rfl
      rw [hz0] at f1 f4
      have hq : (q = 1 ∧ 18446744073709551616 ≤ x + v) ∨ (q = 0 ∧ r = x + v) := by clear e0 hlo hiff hG hG2 wg hc hM; omega
      refine Av.succ ?_
      simp only [impl_digit.j2, wg]
      refine Av.ifn (by decide) (Av.bindc f1 ?_)
      rcases hq with ⟨rfl, hov⟩ | ⟨rfl, rfl⟩
      · refine Av.ifp rfl (Av.ret' ?_)
        rw [hG2.over hv0 (by decide) hw hX hov]
      · exact Av.ifn (by simp) (ih (g - 1) (Nat.sub_lt hg0 (by decide)) (x + v) (Nat.lt_of_le_of_lt (Nat.sub_le _ _) hg) f3 hG2)
    refine Av.succ ?_
    simp only [impl_digit.l0]
    refine Av.bindc hM ?_
    by_cases h1 : g * w / 18446744073709551616 < x
    · exact Av.ifp (Int.ofNat_lt.2 h1) (jT (hiff.2 (.inl h1)))
    · refine Av.ifn (fun h => h1 (Int.ofNat_lt.1 h)) ?_
      by_cases h2 : g * w / 18446744073709551616 = x
      · refine Av.ifp (congrArg Int.ofNat h2) ?_
        by_cases h3 : g * w % 18446744073709551616 ≤ z
        · rw [decide_eq_true (Int.ofNat_le.2 h3)]
          exact jT (hiff.2 (.inr ⟨h2, h3⟩))
        · rw [decide_eq_false (fun h => h3 (Int.ofNat_le.1 h))]
          exact jF (Nat.lt_of_not_le (fun h => by
            rcases hiff.1 h with h4 | h4
            · exact h1 h4
            · exact h3 h4.2))
      · refine Av.ifn (fun h => h2 (Int.ofNat.inj h)) ?_
        exact jF (Nat.lt_of_not_le (fun h => by
          rcases hiff.1 h with h4 | h4
          · exact h1 h4
          · exact h2 h4.1))
theorem digit_f {x y z v w : Nat} (hv0 : 0 < v) (hv : v < 18446744073709551616) (hw : w < 18446744073709551616) (hx : x < 18446744073709551616) (hy : y < 18446744073709551616) (hz : z < 18446744073709551616) (hX : x * 18446744073709551616 + y < (v + 1) * 18446744073709551616) :
    Av (fun k => impl_digit.f k x y z v w) ((qh 18446744073709551616 ((x * 18446744073709551616 + y) * 18446744073709551616 + z) (v * 18446744073709551616 + w) : Nat) : Int) := by
  unfold impl_digit.f
  have j0 : ∀ g r : Nat, g < 18446744073709551616 → r < 18446744073709551616 → Gs 18446744073709551616 v w (x * 18446744073709551616 + y) z g r → Av (fun k => impl_digit.j0 k z v w g r) ((qh 18446744073709551616 ((x * 18446744073709551616 + y) * 18446744073709551616 + z) (v * 18446744073709551616 + w) : Nat) : Int) := by
    intro g r hg hr hG
    refine Av.succ ?_
    simp only [impl_digit.j0]
    exact digit_l0 hv0 hv hw hz hX g r hg hr hG
  by_cases h : x < v
  · refine Av.ifp (Int.ofNat_lt.2 h) (Av.bind (div64 hv hy h) ?_)
    refine j0 _ _ ?_ (Nat.lt_trans (Nat.mod_lt _ hv0) hv) (Gs.start hv0 hz)
    exact (Nat.div_lt_iff_lt_mul hv0).2 (Nat.lt_of_lt_of_eq (step_lt h hy) (Nat.mul_comm _ _))
  · have hxv : x = v := by
      have h1 : x < v + 1 := by
        have h2 : x * 18446744073709551616 < (v + 1) * 18446744073709551616 := Nat.lt_of_le_of_lt (Nat.le_add_right _ _) hX
        exact Nat.lt_of_mul_lt_mul_right h2
      omega
    obtain ⟨r, q, f1, f2, f3, f4⟩ := add64 y v 0 hy hv (by decide)
    have hz0 : ((0 : Nat) : Int) = 0 := rfl
    rw [hz0] at f1 f4
    have hq : (q = 1 ∧ 18446744073709551616 ≤ y + v) ∨ (q = 0 ∧ r = y + v) := by clear hX f1; omega
    have hG : Gs 18446744073709551616 v w (x * 18446744073709551616 + y) z 18446744073709551615 (y + v) := by
      refine ⟨?_, qh_le⟩
      rw [hxv]; clear hX f1 f4 hq; omega
    refine Av.ifn (fun h2 => h (Int.ofNat_lt.1 h2)) (Av.bindc f1 ?_)
    rcases hq with ⟨rfl, hov⟩ | ⟨rfl, rfl⟩
    · refine Av.ifp rfl (Av.ret' ?_)
      rw [← hG.over hv0 (by decide) hw hX hov]; rfl
    · exact Av.ifn (by simp) (j0 _ _ (by decide) f3 hG)
theorem up_value {x s : Nat} (hs : s ≤ 64) : x * 2 ^ s % 18446744073709551616 + 18446744073709551616 * (x / 2 ^ (64 - s)) = x * 2 ^ s := by
  have h1 : x * 2 ^ s / 18446744073709551616 = x / 2 ^ (64 - s) := by
    have e : (18446744073709551616 : Nat) = 2 ^ (64 - s) * 2 ^ s := by rw [← Nat.pow_add, show 64 - s + s = 64 by omega, ← W64]
    conv => lhs; rw [e, Nat.mul_div_mul_right _ _ (Nat.pow_pos (by decide))]
  rw [← h1, Nat.add_comm]
  exact Nat.div_add_mod _ _
theorem ring_up (A x S P W z t : Int) (h : z + W * t = x * S) : A * S + z * P + t * (P * W) = (A + x * P) * S := by
  have : (A + x * P) * S = A * S + x * S * P := by grind
  rw [this, ← h]; grind
end Go.Proofs.Ytghhnjhjhjbljaa.C
