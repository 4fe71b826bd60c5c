/- Words and contracts that the laws of this claim lean on: numbers as limbs, and what the functions make of them. Conditions: those named in each theorem. -/
import Derived.Test.YtghhnjhjhjbljaaVEOwnWords
import Derived.Test.YtghhnjhjhjbljaaYE2
import Derived.Test.YtghhnjhjhjbljaaZE1
import Derived.Test.YtghhnjhjhjbljaaZE3
import Derived.Test.YtghhnjhjhjbljaaZE4
import Derived.Test.YtghhnjhjhjbljaaZE5
set_option linter.unusedVariables false
set_option linter.unusedSimpArgs false
set_option maxRecDepth 100000
namespace Go.Proofs.Ytghhnjhjhjbljaa.C
open Go.RowKit Go.Proofs.YtghhnjhjhjbljaaW.PrintWords Go.Proofs.YtghhnjhjhjbljaaW.PrintLast Go.Proofs.YtghhnjhjhjbljaaW.PrintMore
open Go.Proofs.Ytghhnjhjhjbljaa.M Go.Proofs.Ytghhnjhjhjbljaa.F
theorem back24 {o y c : Nat} (ho : o < 16777216) (hy : y < 16777216) (hc : c ≤ 1) : ∃ r q : Nat, Go.bits .and .i64 (wrap64 (wrap64 ((o : Int) + y) + c)) 16777215 = (r : Int) ∧ wrap64 (wrap64 ((o : Int) + y) + c) / 16777216 = (q : Int) ∧ q ≤ 1 ∧ r < 16777216 ∧ (r : Int) = o + y + c - 16777216 * q := by
  refine ⟨(o + y + c) % 16777216, (o + y + c) / 16777216, ?_, ?_, by omega, by omega, by omega⟩
  · rw [and24, wr (x := (o : Int) + y) (by omega) (by omega), wr (by omega) (by omega)]; omega
  · rw [wr (x := (o : Int) + y) (by omega) (by omega), wr (by omega) (by omega)]; omega
theorem btop24 {o c : Nat} (ho : o < 16777216) (hc : c ≤ 1) : ∃ r e : Nat, Go.bits .and .i64 (wrap64 ((o : Int) + c)) 16777215 = (r : Int) ∧ r < 16777216 ∧ (r : Int) = o + c - 16777216 * e := by
  refine ⟨(o + c) % 16777216, (o + c) / 16777216, ?_, by omega, by omega⟩
  rw [and24, wr (by omega) (by omega)]; omega
theorem ring_m1' {U g VM y Pj Pi c q B r o : Int} (hr : r = o - g * y - c + B * q) : U - g * (VM + y * Pi) * Pj + q * (Pj * (Pi * B)) = U - g * VM * Pj + c * (Pj * Pi) + (r - o) * (Pj * Pi) := by subst hr; grind
theorem ring_m2' {X VM y Pj Pi c q B r o : Int} (hr : r = o + y + c - B * q) : X + (VM + y * Pi) * Pj - q * (Pj * (Pi * B)) = X + VM * Pj - c * (Pj * Pi) + (r - o) * (Pj * Pi) := by subst hr; grind
/-- A digit of a list that stands for a value. -/
theorem Upto.dig {B : Nat} (hB : 2 ≤ B) {l : List Int} {i : Nat} {v : Int} (h : Upto B l i v) (j : Nat) : ∃ o : Nat, l.getD j 0 = (o : Int) ∧ o < B := by
  have hb := digs_getD h.digs (by omega) j
  obtain ⟨o, ho⟩ := Int.eq_ofNat_of_zero_le hb.1
  rw [ho] at hb
  exact ⟨o, ho, Int.ofNat_lt.1 hb.2⟩
theorem l4_s {U V g n j s Lu : Nat} {q : List Int} {r : List Int × List Int} (hg : g < 16777216) (hV : (E V).length = n) (hj : j + n < Lu) (hLu : Lu < 17592186044416)
    (fin : ∀ (l : List Int) (c : Nat), l.length = Lu → Upto 16777216 l (j + n + 1) ((U : Int) - g * V * 16777216 ^ j + c * 16777216 ^ (j + n)) → c < 16777216 → Av (fun k => spec_l02Div.l4 k n s l (E V) q j g c n) r) :
    ∀ (d i c : Nat) (l : List Int), n - i = d → i ≤ n → c < 16777216 → l.length = Lu → Upto 16777216 l (j + n + 1) ((U : Int) - g * (V % 16777216 ^ i : Nat) * 16777216 ^ j + c * 16777216 ^ (j + i)) → Av (fun k => spec_l02Div.l4 k n s l (E V) q j g c i) r
  | 0, i, c, l, hd, hi, hc, hl, h => by
    obtain rfl : i = n := by omega
    rw [← hV, mod_full _ V (by decide) (Nat.le_refl _), hV] at h
    exact fin l c hl h hc
  | d + 1, i, c, l, hd, hi, hc, hl, h => by
    have i1 : (i : Int) < n := by omega
    have i2 : n - (i + 1) = d := by omega
    have i3 : i + 1 ≤ n := by omega
    have i4 : i + j < l.length := by omega
    have i5 : ((i + j : Nat) : Int) < l.length := Int.ofNat_lt.2 i4
    have i6 : i + j < j + n + 1 := by omega
    have i7 : (i : Int) < (E V).length := by rw [hV]; exact i1
    have i8 : i + j < 4611686018427387904 := by omega
    have i9 : i < 4611686018427387904 := by omega
    have ij : i + j = j + i := Nat.add_comm _ _
    obtain ⟨o, ho, hob⟩ := h.dig (by decide) (i + j)
    have hy : V / 16777216 ^ i % 16777216 < 16777216 := Nat.mod_lt _ (by decide)
    have s1 := mod_step 16777216 V i
    have r1 := rdE V i
    have r2 : rd l ((i + j : Nat) : Int) = (o : Int) := rdn ho
    have e : wrap64 ((i : Int) + j) = ((i + j : Nat) : Int) := wrap_add i8
    have e1 : wrap64 ((i : Int) + 1) = ((i + 1 : Nat) : Int) := wrap_one i9
    refine Av.succ ?_
    simp only [spec_l02Div.l4, e, e1, r1, r2, Int.toNat_natCast]
    refine Av.ifp i1 (Av.ifp (Int.natCast_nonneg _) (Av.ifp i5 (Av.ifp (Int.natCast_nonneg _) (Av.ifp i7 ?_))))
    generalize V / 16777216 ^ i % 16777216 = y at *
    obtain ⟨t, w, f1, f2, ht, hw, he⟩ := msub24 hob hg hy hc
    rw [f1, f2]
    refine l4_s hg hV hj hLu fin d (i + 1) w _ i2 i3 hw (by rw [List.length_set]; exact hl) (h.put i4 i6 (below_nat ht) ?_)
    rw [s1, ho, ij]
    have e6 : ((16777216 : Nat) : Int) = 16777216 := rfl
    simp only [e6, Int.pow_add, Int.pow_succ, Int.pow_zero, Int.one_mul]
    exact ring_m1' he
theorem l5_s {V g n j s Lu : Nat} {X : Int} {q : List Int} {r : List Int × List Int} (hV : (E V).length = n) (hj : j + n < Lu) (hLu : Lu < 17592186044416)
    (fin : ∀ (l : List Int) (c : Nat), l.length = Lu → Upto 16777216 l (j + n + 1) (X + V * 16777216 ^ j - c * 16777216 ^ (j + n)) → c ≤ 1 → Av (fun k => spec_l02Div.l5 k n s l (E V) q j g c n) r) :
    ∀ (d i c : Nat) (l : List Int), n - i = d → i ≤ n → c ≤ 1 → l.length = Lu → Upto 16777216 l (j + n + 1) (X + (V % 16777216 ^ i : Nat) * 16777216 ^ j - c * 16777216 ^ (j + i)) → Av (fun k => spec_l02Div.l5 k n s l (E V) q j g c i) r
  | 0, i, c, l, hd, hi, hc, hl, h => by
    obtain rfl : i = n := by omega
    rw [← hV, mod_full _ V (by decide) (Nat.le_refl _), hV] at h
    exact fin l c hl h hc
  | d + 1, i, c, l, hd, hi, hc, hl, h => by
    have i1 : (i : Int) < n := by omega
    have i2 : n - (i + 1) = d := by omega
    have i3 : i + 1 ≤ n := by omega
    have i4 : i + j < l.length := by omega
    have i5 : ((i + j : Nat) : Int) < l.length := Int.ofNat_lt.2 i4
    have i6 : i + j < j + n + 1 := by omega
    have i7 : (i : Int) < (E V).length := by rw [hV]; exact i1
    have i8 : i + j < 4611686018427387904 := by omega
    have i9 : i < 4611686018427387904 := by omega
    have ij : i + j = j + i := Nat.add_comm _ _
    obtain ⟨o, ho, hob⟩ := h.dig (by decide) (i + j)
    have hy : V / 16777216 ^ i % 16777216 < 16777216 := Nat.mod_lt _ (by decide)
    have s1 := mod_step 16777216 V i
    have r1 := rdE V i
    have r2 : rd l ((i + j : Nat) : Int) = (o : Int) := rdn ho
    have e : wrap64 ((i : Int) + j) = ((i + j : Nat) : Int) := wrap_add i8
    have e1 : wrap64 ((i : Int) + 1) = ((i + 1 : Nat) : Int) := wrap_one i9
    refine Av.succ ?_
    simp only [spec_l02Div.l5, e, e1, r1, r2, Int.toNat_natCast]
    refine Av.ifp i1 (Av.ifp (Int.natCast_nonneg _) (Av.ifp i5 (Av.ifp (Int.natCast_nonneg _) (Av.ifp i7 ?_))))
    generalize V / 16777216 ^ i % 16777216 = y at *
    obtain ⟨t, w, f1, f2, hw, ht, he⟩ := back24 hob hy hc
    rw [f1, f2]
    refine l5_s hV hj hLu fin d (i + 1) w _ i2 i3 hw (by rw [List.length_set]; exact hl) (h.put i4 i6 (below_nat ht) ?_)
    rw [s1, ho, ij]
    have e6 : ((16777216 : Nat) : Int) = 16777216 := rfl
    simp only [e6, Int.pow_add, Int.pow_succ, Int.pow_zero, Int.one_mul]
    exact ring_m2' he
theorem nat_sub3 {U d V P : Nat} (h : d * V * P ≤ U) : ((U - d * V * P : Nat) : Int) = (U : Int) - d * V * P := by
  rw [Int.ofNat_sub h, Int.natCast_mul, Int.natCast_mul]
theorem back_one {Z K F : Int} {e : Nat} (he : e ≤ 1) (hF : F = Z + K - e * K) (h0 : 0 ≤ F) (h1 : F < K) (hZ : 0 ≤ Z) (hZK : Z < K) : F = Z := by
  have : e = 0 ∨ e = 1 := by omega
  rcases this with rfl | rfl
  · simp at hF; omega
  · simp at hF; omega
theorem upto_rp {B : Nat} {l : List Int} {i L : Nat} {v : Int} {n : Nat} (h : Upto B l i v) (hl : l.length = L) (hv : v = n) : Rp B l L n := ⟨hl, h.digs, by rw [h.val, hv]⟩
theorem ring_top {U g V Pj Pn c r o e B : Int} (hr : r = o - c + B * e) : U - g * V * Pj + c * (Pj * Pn) + (r - o) * (Pj * Pn) = U - g * V * Pj + e * (Pj * Pn * B) := by subst hr; grind
theorem ring_btop {X V Pj Pn c r o e B : Int} (hr : r = o + c - B * e) : X + V * Pj - c * (Pj * Pn) + (r - o) * (Pj * Pn) = X + V * Pj - e * (Pj * Pn * B) := by subst hr; grind
theorem ring_last {U g V d Pj K : Int} (hg : g = d + 1) : U - g * V * Pj + K + V * Pj = U - d * V * Pj + K := by subst hg; grind
/-- One digit, by its guess. -/
theorem dstep_s {U V g n j s Lu Lq : Nat} {u q : List Int} {r : List Int × List Int} (hV0 : 0 < V) (hV : (E V).length = n) (hVn : V < 16777216 ^ n) (hj : j + n < Lu) (hLu : Lu < 17592186044416) (hu : Rp 16777216 u Lu U) (hU : U < 16777216 ^ (j + n + 1)) (hq : q.length = Lq) (hjq : j < Lq)
    (hg : g < 16777216) (h1 : U / 16777216 ^ j / V ≤ g) (h2 : g ≤ U / 16777216 ^ j / V + 1)
    (fin : ∀ u', Rp 16777216 u' Lu (U - U / 16777216 ^ j / V * V * 16777216 ^ j) → Av (fun k => spec_l02Div.l2 k n s u' (E V) (q.set j ((U / 16777216 ^ j / V : Nat) : Int)) ((j : Int) - 1)) r) :
    Av (fun k => spec_l02Div.j5 k n s u (E V) q j g) r := by
  have hPj : 0 < 16777216 ^ j := Nat.pow_pos (by decide)
  obtain ⟨hle, hlt⟩ := div_left (U := U) hV0 hPj
  have hcast := nat_sub3 hle
  generalize hd : U / 16777216 ^ j / V = d at *
  have i1 : ((j + n : Nat) : Int) < Lu := Int.ofNat_lt.2 hj
  have i2 : (j : Int) < q.length := by rw [hq]; exact Int.ofNat_lt.2 hjq
  have i3 : j + n < 4611686018427387904 := by omega
  have i4 : j + n < j + n + 1 := Nat.lt_succ_self _
  have hj1 : wrap64 ((j : Int) - 1) = (j : Int) - 1 := by clear hcast; exact wr (by omega) (by omega)
  have e6 : ((16777216 : Nat) : Int) = 16777216 := rfl
  have u0 : Upto 16777216 u (j + n + 1) ((U : Int) - g * (V % 16777216 ^ 0 : Nat) * 16777216 ^ j + ((0 : Nat) : Int) * 16777216 ^ (j + 0)) := by
    have e0 : (U : Int) - g * (V % 16777216 ^ 0 : Nat) * 16777216 ^ j + ((0 : Nat) : Int) * 16777216 ^ (j + 0) = U := by
      rw [Nat.pow_zero, Nat.mod_one]; simp
    rw [e0]
    have hup : Upto 16777216 u u.length U := ⟨hu.digs, hu.val, fun k hk => by rw [List.getD_eq_getElem?_getD, List.getElem?_eq_none hk]; rfl⟩
    exact Upto.less (by decide) hup hU
  refine Av.succ ?_
  simp only [spec_l02Div.j5]
  refine l4_s hg hV hj hLu ?_ n 0 0 u rfl (Nat.zero_le _) (by decide) hu.len u0
  intro l c hl h hc
  have i5 : j + n < l.length := by rw [hl]; exact hj
  have i6 : ((j + n : Nat) : Int) < l.length := Int.ofNat_lt.2 i5
  obtain ⟨o, ho, hob⟩ := h.dig (by decide) (j + n)
  have r2 : rd l ((j + n : Nat) : Int) = (o : Int) := rdn ho
  have e : wrap64 ((j : Int) + n) = ((j + n : Nat) : Int) := wrap_add i3
  obtain ⟨t, z, f1, ht, he, hor⟩ := top24 hob hc
  have hup := h.put i5 i4 (below_nat ht) rfl
  rw [ho] at hup
  have ev : (U : Int) - g * V * 16777216 ^ j + c * 16777216 ^ (j + n) + ((t : Int) - (o : Nat)) * ((16777216 : Nat) : Int) ^ (j + n) = (U : Int) - g * V * 16777216 ^ j + z * 16777216 ^ (j + n + 1) := by
    simp only [e6, Int.pow_add, Int.pow_succ, Int.pow_zero, Int.one_mul]
    exact ring_top he
  rw [ev] at hup
  have hb := hup.bound (by decide)
  rw [e6] at hb
  refine Av.succ ?_
  simp only [spec_l02Div.l4, e, r2, f1, Int.toNat_natCast]
  refine Av.ifn (Int.lt_irrefl _) (Av.ifp (Int.natCast_nonneg _) (Av.ifp i6 (Av.bindc rfl ?_)))
  rcases hor with ⟨hneg, rfl⟩ | ⟨hneg, rfl⟩
  · -- one too much: it is given back
    refine Av.ifp hneg ?_
    have hgd := div_back hV0 hPj (by rw [hd]; exact h2) (X := (U : Int) - g * V * 16777216 ^ j + ((1 : Nat) : Int) * 16777216 ^ (j + n + 1)) (K := 16777216 ^ (j + n + 1)) (by simp) hb.2
    rw [hd] at hgd
    have hg1 : wrap64 ((g : Int) - 1) = (d : Int) := by clear hb hup ev he hcast h hneg; rw [hgd, wr (by omega) (by omega)]; omega
    rw [hg1]
    refine l5_s (V := V) (g := d) (n := n) (j := j) (s := s) (Lu := Lu) (X := (U : Int) - g * V * 16777216 ^ j + ((1 : Nat) : Int) * 16777216 ^ (j + n + 1)) (q := q) (r := r) hV hj hLu ?_ n 0 0 _ rfl (Nat.zero_le _) (by decide) (by rw [List.length_set]; exact hl) ?_
    rotate_left
    · have e0 : (U : Int) - g * V * 16777216 ^ j + ((1 : Nat) : Int) * 16777216 ^ (j + n + 1) + ((V % 16777216 ^ 0 : Nat) : Int) * 16777216 ^ j - ((0 : Nat) : Int) * 16777216 ^ (j + 0) = (U : Int) - g * V * 16777216 ^ j + ((1 : Nat) : Int) * 16777216 ^ (j + n + 1) := by
        rw [Nat.pow_zero, Nat.mod_one]; simp
      rw [e0]; exact hup
    · intro l2 c2 hl2 h2' hc2
      have k5 : j + n < l2.length := by rw [hl2]; exact hj
      have k6 : ((j + n : Nat) : Int) < l2.length := Int.ofNat_lt.2 k5
      obtain ⟨o2, ho2, hob2⟩ := h2'.dig (by decide) (j + n)
      have r3 : rd l2 ((j + n : Nat) : Int) = (o2 : Int) := rdn ho2
      obtain ⟨t2, z2, f2, ht2, he2⟩ := btop24 hob2 hc2
      have hz2 : z2 ≤ 1 := by clear hb hup ev he hcast h hneg h2'; omega
      have hup2 := h2'.put k5 i4 (below_nat ht2) rfl
      rw [ho2] at hup2
      have hgI : (g : Int) = d + 1 := by rw [hgd]; simp
      have ev2 : (U : Int) - g * V * 16777216 ^ j + ((1 : Nat) : Int) * 16777216 ^ (j + n + 1) + V * 16777216 ^ j - c2 * 16777216 ^ (j + n) + ((t2 : Int) - (o2 : Nat)) * ((16777216 : Nat) : Int) ^ (j + n) = ((U : Int) - d * V * 16777216 ^ j) + 16777216 ^ (j + n + 1) - z2 * 16777216 ^ (j + n + 1) := by
        have h9 : (U : Int) - g * V * 16777216 ^ j + 16777216 ^ (j + n + 1) + V * 16777216 ^ j = (U : Int) - d * V * 16777216 ^ j + 16777216 ^ (j + n + 1) := ring_last hgI
        simp only [e6, Int.natCast_one, Int.one_mul]
        rw [← h9]
        simp only [Int.pow_add, Int.pow_succ, Int.pow_zero, Int.one_mul]
        exact ring_btop he2
      rw [ev2] at hup2
      have hb2 := hup2.bound (by decide)
      rw [e6] at hb2
      have hZ0 : (0 : Int) ≤ (U : Int) - d * V * 16777216 ^ j := by
        have h8 : ((d * V * 16777216 ^ j : Nat) : Int) ≤ U := Int.ofNat_le.2 hle
        simp only [Int.natCast_mul, Int.natCast_pow] at h8
        exact Int.sub_nonneg_of_le h8
      have hZK : (U : Int) - d * V * 16777216 ^ j < 16777216 ^ (j + n + 1) := by
        have h8 : U - d * V * 16777216 ^ j < 16777216 ^ (j + n + 1) := Nat.lt_of_le_of_lt (Nat.sub_le _ _) hU
        have h9 := Int.ofNat_lt.2 h8
        rw [hcast] at h9
        simpa using h9
      have hfv := back_one hz2 rfl hb2.1 hb2.2 hZ0 hZK
      refine Av.succ ?_
      simp only [spec_l02Div.l5, e, r3, f2, Int.toNat_natCast, hj1]
      refine Av.ifn (Int.lt_irrefl _) (Av.ifp (Int.natCast_nonneg _) (Av.ifp k6 (Av.ifp (Int.natCast_nonneg _) (Av.ifp i2 ?_))))
      exact fin _ (upto_rp hup2 (by rw [List.length_set]; exact hl2) (by rw [hfv, hcast]; simp))
  · refine Av.ifn hneg ?_
    have hgd := div_keep hV0 hPj (by rw [hd]; exact h1) (X := (U : Int) - g * V * 16777216 ^ j + ((0 : Nat) : Int) * 16777216 ^ (j + n + 1)) (by simp) hb.1
    rw [hd] at hgd
    subst hgd
    rw [hj1]
    refine Av.ifp (Int.natCast_nonneg _) (Av.ifp i2 ?_)
    exact fin _ (upto_rp hup (by rw [List.length_set]; exact hl) (by rw [hcast]; simp))
/-- The guess, on its way. -/
theorem l3_s {V X z v w n j s : Nat} {u q : List Int} {r : List Int × List Int} (hn : 2 ≤ n) (hV : (E V).length = n) (hjn : j + n < u.length) (hu : u.length < 17592186044416) (hv0 : 0 < v) (hv : v < 16777216) (hw : w < 16777216) (hz : z < 16777216) (hX : X < (v + 1) * 16777216)
    (rv : rd (E V) ((n - 1 : Nat) : Int) = (v : Int)) (rw_ : rd (E V) ((n - 2 : Nat) : Int) = (w : Int)) (rz : rd u ((j + n - 2 : Nat) : Int) = (z : Int))
    (fin : Av (fun k => spec_l02Div.j5 k n s u (E V) q j ((qh 16777216 (X * 16777216 + z) (v * 16777216 + w) : Nat) : Int)) r) :
    ∀ (g x : Nat), g < 281474976710656 → x < 16777216 → Gs 16777216 v w X z g x → Av (fun k => spec_l02Div.l3 k n s u (E V) q j g x) r := by
  have w1 : wrap64 ((n : Int) - 1) = ((n - 1 : Nat) : Int) := wrap_pred (by omega) (by omega)
  have w2 : wrap64 ((n : Int) - 2) = ((n - 2 : Nat) : Int) := wrap_less (b := 2) (by omega) (by omega)
  have w3 : wrap64 ((j : Int) + n) = ((j + n : Nat) : Int) := wrap_add (by omega)
  have w4 : wrap64 (((j + n : Nat) : Int) - 2) = ((j + n - 2 : Nat) : Int) := wrap_less (b := 2) (by clear w1 w2 w3; omega) (by clear w1 w2 w3; omega)
  have n1 : ((n - 1 : Nat) : Int) < (E V).length := by rw [hV]; exact Int.ofNat_lt.2 (by clear w1 w2 w3 w4; omega)
  have n2 : ((n - 2 : Nat) : Int) < (E V).length := by rw [hV]; exact Int.ofNat_lt.2 (by clear w1 w2 w3 w4; omega)
  have n3 : ((j + n - 2 : Nat) : Int) < u.length := Int.ofNat_lt.2 (by clear w1 w2 w3 w4; omega)
  intro g
  induction g using Nat.strongRecOn with
  | _ g ih =>
    intro x hgb hx hG
    have ww : wrap64 ((x : Int) + (v : Int)) = ((x + v : Nat) : Int) := wrap_add (by clear w1 w2 w3 w4 n1 n2 n3; omega)
    have wor := or24 (r := x) (Nat.lt_trans hx (by decide)) hz
    have jT : (16777216 ≤ g ∨ x * 16777216 + z < g * w) → Av (fun k => spec_l02Div.j4 k n s u (E V) q j g x true) r := by
      intro hc
      obtain ⟨hg0, hG2⟩ := hG.next hv0 (by decide) hc
      have wg : wrap64 ((g : Int) - 1) = ((g - 1 : Nat) : Int) := wrap_pred (Nat.lt_trans hgb (by decide)) hg0
      refine Av.succ ?_
      simp only [spec_l02Div.j4, w1, rv, ww, wg]
      refine Av.ifp (by decide) (Av.ifp (Int.natCast_nonneg _) (Av.ifp n1 ?_))
      by_cases hB : 16777216 ≤ x + v
      · refine Av.ifp (Int.ofNat_le.2 hB) ?_
        rw [hG2.over hv0 (by decide) hw hX hB]
        exact fin
      · refine Av.ifn (fun h => hB (Int.ofNat_le.1 h)) ?_
        exact ih (g - 1) (Nat.sub_lt hg0 (by decide)) (x + v) (Nat.lt_of_le_of_lt (Nat.sub_le _ _) hgb) (Nat.lt_of_not_le hB) hG2
    refine Av.succ ?_
    simp only [spec_l02Div.l3, w2, w3, w4, rw_, rz, wor]
    by_cases hgB : 16777216 ≤ g
    · exact Av.ifp (Int.ofNat_le.2 hgB) (jT (.inl hgB))
    · refine Av.ifn (fun h => hgB (Int.ofNat_le.1 h)) (Av.ifp (Int.natCast_nonneg _) (Av.ifp n2 (Av.ifp (Int.natCast_nonneg _) (Av.ifp n3 ?_))))
      have hgl : g < 16777216 := Nat.lt_of_not_le hgB
      have wgw : wrap64 ((g : Int) * (w : Int)) = ((g * w : Nat) : Int) := by
        have hm : g * w ≤ 16777216 * 16777216 := Nat.mul_le_mul (Nat.le_of_lt hgl) (Nat.le_of_lt hw)
        rw [← Int.natCast_mul]
        generalize g * w = y at *
        clear w1 w2 w3 w4 n1 n2 n3 ww wor jT ih hG
        exact wr (by omega) (by omega)
      rw [wgw]
      by_cases ht : x * 16777216 + z < g * w
      · rw [decide_eq_true (Int.ofNat_lt.2 ht)]
        exact jT (.inr ht)
      · rw [decide_eq_false (fun h => ht (Int.ofNat_lt.1 h))]
        refine Av.succ ?_
        simp only [spec_l02Div.j4]
        refine Av.ifn (by decide) ?_
        rw [hG.done hv0 (by decide) (Nat.le_sub_one_of_lt hgl) (Nat.le_of_not_lt ht)]
        exact fin
theorem over0_loop (a b : Nat) (hb0 : 0 < b) (hb : b < 18446744073709551616) (hl : (D a).length < 17592186044416) : ∀ (m : Nat) (q : List Int), m ≤ (D a).length → Rp 18446744073709551616 q (D a).length (a / 18446744073709551616 ^ m / b * 18446744073709551616 ^ m) →
    Av (fun k => impl_nat_over.l0 k (D a) (D b) q ((a / 18446744073709551616 ^ m % b : Nat) : Int) ((m : Int) - 1)) (D (a / b), D (a % b))
  | 0, q, hm, hq => by
    refine Av.succ ?_
    simp only [impl_nat_over.l0]
    refine Av.ifn (by omega) ?_
    have hr : a % b < 18446744073709551616 := Nat.lt_trans (Nat.mod_lt _ hb0) hb
    have hv := hq.val
    simp only [Nat.pow_zero, Nat.div_one, Nat.mul_one] at hv
    simp only [Nat.pow_zero, Nat.div_one]
    refine Av.bind (trim_f' hq.digs (by rw [hq.len]; omega) hv) (Av.bind (trim_f' (n := a % b) ?_ (by simp) (by simp [vl])) Av.ret)
    intro x hx
    simp at hx
    subst hx
    exact ⟨Int.natCast_nonneg _, Int.ofNat_lt.2 hr⟩
  | m + 1, q, hm, hq => by
    have i1 : (m : Int) < (D a).length := by omega
    have i2 : m < (D a).length := by omega
    have i3 : m < 4611686018427387904 := by omega
    have e0 : ((m + 1 : Nat) : Int) - 1 = (m : Int) := by omega
    have hw : wrap64 ((m : Int) - 1) = (m : Int) - 1 := wr (by omega) (by omega)
    have hlb : 0 < (D b).length := (D_lt 0 b).2 (by rw [Nat.pow_zero]; exact hb0)
    have hb1 := rdD b 0
    rw [Nat.pow_zero, Nat.div_one, Nat.mod_eq_of_lt hb] at hb1
    have ha1 := rdD a m
    have hx : a / 18446744073709551616 ^ m % 18446744073709551616 < 18446744073709551616 := Nat.mod_lt _ (by decide)
    have hr : a / 18446744073709551616 ^ (m + 1) % b < b := Nat.mod_lt _ hb0
    obtain ⟨s1, s2⟩ := div_step1 (A := a) hb0 18446744073709551616 m (by decide)
    have hlt : (a / 18446744073709551616 ^ (m + 1) % b * 18446744073709551616 + a / 18446744073709551616 ^ m % 18446744073709551616) / b < 18446744073709551616 :=
      (Nat.div_lt_iff_lt_mul hb0).2 (Nat.lt_of_lt_of_eq (step_lt hr hx) (Nat.mul_comm _ _))
    have hp := hq.put (by decide) i2 hlt
    rw [← s1] at hp
    have ih := over0_loop a b hb0 hb hl m _ (Nat.le_of_lt i2) hp
    rw [s2] at ih
    have hdv := div64 (h := a / 18446744073709551616 ^ (m + 1) % b) (l := a / 18446744073709551616 ^ m % 18446744073709551616) hb hx hr
    have hlb' : (0 : Int) < (D b).length := Int.ofNat_lt.2 hlb
    have hql : (m : Int) < q.length := by rw [hq.len]; exact i1
    have z0 : ((0 : Nat) : Int) = 0 := rfl
    rw [z0] at hb1
    refine Av.succ ?_
    rw [e0]
    simp only [impl_nat_over.l0, ha1, hb1, hw]
    refine Av.ifp (Int.natCast_nonneg _) (Av.ifp (Int.natCast_nonneg _) (Av.ifp i1 (Av.ifp hlb' (Av.bind hdv (Av.ifp hql ?_)))))
    rw [Int.toNat_natCast]
    exact ih
theorem below_limb {r : Nat} (h : r < 18446744073709551616) : 0 ≤ (r : Int) ∧ (r : Int) < ((18446744073709551616 : Nat) : Int) := ⟨Int.natCast_nonneg _, Int.ofNat_lt.2 h⟩
theorem lin_mac1 (W hi lo xy c s1 c1 : Int) (e0 : W * hi + lo = xy) (e1 : s1 = lo + c + 0 - W * c1) : s1 = xy + c - W * (hi + c1) := by grind
theorem mac1 (x y c : Nat) (hx : x < 18446744073709551616) (hy : y < 18446744073709551616) (hc : c < 18446744073709551616) : ∃ (m s : Int × Int) (t q : Nat), bits_Mul64.f x y = some m ∧ bits_Add64.f m.2 c 0 = some s ∧ s.1 = (t : Int) ∧ IntKind.u64.wrap (m.1 + s.2) = (q : Int) ∧ t < 18446744073709551616 ∧ q < 18446744073709551616 ∧ (t : Int) = x * y + c - 18446744073709551616 * q := by
  have hxy := mul_lt hx hy
  have hM := mul64 x y hx hy
  have e0 := Nat.div_add_mod (x * y) 18446744073709551616
  have r0 : x * y % 18446744073709551616 < 18446744073709551616 := Nat.mod_lt _ (by decide)
  have ec : ((x * y : Nat) : Int) = (x : Int) * y := Int.natCast_mul x y
  generalize x * y / 18446744073709551616 = hi at *
  generalize x * y % 18446744073709551616 = lo at *
  generalize (x : Int) * y = XY at *
  generalize x * y = xy at *
  obtain ⟨s1, c1, f1, g1, l1, e1⟩ := add64 lo c 0 r0 hc (by decide)
  have e0' : (18446744073709551616 : Int) * hi + lo = XY := by rw [← ec, ← e0]; simp
  have e3 := lin_mac1 _ _ _ _ _ _ _ e0' e1
  have hS : XY + c < 18446744073709551616 * 18446744073709551616 := by
    clear e1 e3 e0 e0' f1
    omega
  have hq := lt_mac _ _ _ _ (by decide) e3 (Int.natCast_nonneg _) hS
  have e5 : (s1 : Int) = XY + c - 18446744073709551616 * ((hi + c1 : Nat) : Int) := by rw [Int.natCast_add]; exact e3
  have hq2 : hi + c1 < 18446744073709551616 := by
    have : ((hi + c1 : Nat) : Int) < 18446744073709551616 := by rw [Int.natCast_add]; exact hq
    exact Int.ofNat_lt.1 this
  have z : (((0 : Nat) : Int)) = 0 := rfl
  rw [z] at f1
  exact ⟨_, _, s1, hi + c1, hM, f1, rfl, ura hq2, l1, hq2, e5⟩
theorem ring_o1 {U g VM y Pj Pi c b c' b' B t o r : Int} (ht : t = g * y + c - B * c') (hr : r = o - t - b + B * b') : U - g * (VM + y * Pi) * Pj + (c' + b') * (Pj * (Pi * B)) = U - g * VM * Pj + (c + b) * (Pj * Pi) + (r - o) * (Pj * Pi) := by subst hr; subst ht; grind
theorem ring_otop {U g V Pj Pn c b r o e B : Int} (hr : r = o - c - b + B * e) : U - g * V * Pj + (c + b) * (Pj * Pn) + (r - o) * (Pj * Pn) = U - g * V * Pj + e * (Pj * Pn * B) := by subst hr; grind
/-- A list of V in n limbs. -/
structure Vl64 (l : List Int) (n V : Nat) : Prop where
  len : l.length = n
  get : ∀ i, i < n → rd l (i : Int) = ((V / 18446744073709551616 ^ i % 18446744073709551616 : Nat) : Int)
  lt : V < 18446744073709551616 ^ n
theorem o2_s {U V g n j s Lu : Nat} {vl' q : List Int} {r : List Int × List Int} (hg : g < 18446744073709551616) (hV : Vl64 vl' n V) (hj : j + n < Lu) (hLu : Lu < 17592186044416)
    (fin : ∀ (l : List Int) (c b : Nat), l.length = Lu → Upto 18446744073709551616 l (j + n + 1) ((U : Int) - g * V * 18446744073709551616 ^ j + ((c : Int) + b) * 18446744073709551616 ^ (j + n)) → c < 18446744073709551616 → b ≤ 1 → Av (fun k => impl_nat_over.l2 k n s l vl' q j g b c n n) r) :
    ∀ (d i c b : Nat) (l : List Int), n - i = d → i ≤ n → c < 18446744073709551616 → b ≤ 1 → l.length = Lu → Upto 18446744073709551616 l (j + n + 1) ((U : Int) - g * (V % 18446744073709551616 ^ i : Nat) * 18446744073709551616 ^ j + ((c : Int) + b) * 18446744073709551616 ^ (j + i)) → Av (fun k => impl_nat_over.l2 k n s l vl' q j g b c n i) r
  | 0, i, c, b, l, hd, hi, hc, hb, hl, h => by
    obtain rfl : i = n := by omega
    rw [Nat.mod_eq_of_lt hV.lt] at h
    exact fin l c b hl h hc hb
  | d + 1, i, c, b, l, hd, hi, hc, hb, hl, h => by
    have i1 : (i : Int) < n := by omega
    have i2 : n - (i + 1) = d := by omega
    have i3 : i + 1 ≤ n := by omega
    have i4 : j + i < l.length := by omega
    have i5 : ((j + i : Nat) : Int) < l.length := Int.ofNat_lt.2 i4
    have i6 : j + i < j + n + 1 := by omega
    have i7 : (i : Int) < vl'.length := by rw [hV.len]; exact i1
    have i8 : j + i < 4611686018427387904 := by omega
    have i9 : i < 4611686018427387904 := by omega
    have r1 := hV.get i (by omega)
    obtain ⟨o, ho, hob⟩ := h.dig (by decide) (j + i)
    have hy : V / 18446744073709551616 ^ i % 18446744073709551616 < 18446744073709551616 := Nat.mod_lt _ (by decide)
    have s1 := mod_step 18446744073709551616 V i
    have r2 : rd l ((j + i : Nat) : Int) = (o : Int) := rdn ho
    have e : wrap64 ((j : Int) + i) = ((j + i : Nat) : Int) := wrap_add i8
    have e1 : wrap64 ((i : Int) + 1) = ((i + 1 : Nat) : Int) := wrap_one i9
    generalize V / 18446744073709551616 ^ i % 18446744073709551616 = y at *
    obtain ⟨m1, m2, t, c', f1, f2, f3, f4, ht, hc', he⟩ := mac1 g y c hg hy hc
    obtain ⟨w, b', k1, k2, k3, k4⟩ := sub64 o t b hob ht hb
    refine Av.succ ?_
    simp only [impl_nat_over.l2, e, e1, r1, r2, f1, f2, f3, f4, k1, Option.bind_some, Int.toNat_natCast]
    refine Av.ifp i1 (Av.ifp (Int.natCast_nonneg _) (Av.ifp i7 (Av.ifp (Int.natCast_nonneg _) (Av.ifp i5 ?_))))
    refine o2_s hg hV hj hLu fin d (i + 1) c' b' _ i2 i3 hc' k2 (by rw [List.length_set]; exact hl) (h.put i4 i6 (below_limb k3) ?_)
    rw [s1, ho]
    have e6 : ((18446744073709551616 : Nat) : Int) = 18446744073709551616 := rfl
    simp only [e6, Int.pow_add, Int.pow_succ, Int.pow_zero, Int.one_mul]
    exact ring_o1 he k4
theorem o3_s {V g n j s Lu : Nat} {X : Int} {vl' q : List Int} {r : List Int × List Int} (hV : Vl64 vl' n V) (hj : j + n < Lu) (hLu : Lu < 17592186044416)
    (fin : ∀ (l : List Int) (c : Nat), l.length = Lu → Upto 18446744073709551616 l (j + n + 1) (X + V * 18446744073709551616 ^ j - c * 18446744073709551616 ^ (j + n)) → c ≤ 1 → Av (fun k => impl_nat_over.l3 k n s l vl' q j g c n n) r) :
    ∀ (d i c : Nat) (l : List Int), n - i = d → i ≤ n → c ≤ 1 → l.length = Lu → Upto 18446744073709551616 l (j + n + 1) (X + (V % 18446744073709551616 ^ i : Nat) * 18446744073709551616 ^ j - c * 18446744073709551616 ^ (j + i)) → Av (fun k => impl_nat_over.l3 k n s l vl' q j g c n i) r
  | 0, i, c, l, hd, hi, hc, hl, h => by
    obtain rfl : i = n := by omega
    rw [Nat.mod_eq_of_lt hV.lt] at h
    exact fin l c hl h hc
  | d + 1, i, c, l, hd, hi, hc, hl, h => by
    have i1 : (i : Int) < n := by omega
    have i2 : n - (i + 1) = d := by omega
    have i3 : i + 1 ≤ n := by omega
    have i4 : j + i < l.length := by omega
    have i5 : ((j + i : Nat) : Int) < l.length := Int.ofNat_lt.2 i4
    have i6 : j + i < j + n + 1 := by omega
    have i7 : (i : Int) < vl'.length := by rw [hV.len]; exact i1
    have i8 : j + i < 4611686018427387904 := by omega
    have i9 : i < 4611686018427387904 := by omega
    have r1 := hV.get i (by omega)
    obtain ⟨o, ho, hob⟩ := h.dig (by decide) (j + i)
    have hy : V / 18446744073709551616 ^ i % 18446744073709551616 < 18446744073709551616 := Nat.mod_lt _ (by decide)
    have s1 := mod_step 18446744073709551616 V i
    have r2 : rd l ((j + i : Nat) : Int) = (o : Int) := rdn ho
    have e : wrap64 ((j : Int) + i) = ((j + i : Nat) : Int) := wrap_add i8
    have e1 : wrap64 ((i : Int) + 1) = ((i + 1 : Nat) : Int) := wrap_one i9
    generalize V / 18446744073709551616 ^ i % 18446744073709551616 = y at *
    obtain ⟨w, c', k1, k2, k3, k4⟩ := add64 o y c hob hy hc
    refine Av.succ ?_
    simp only [impl_nat_over.l3, e, e1, r1, r2, k1, Option.bind_some, Int.toNat_natCast]
    refine Av.ifp i1 (Av.ifp (Int.natCast_nonneg _) (Av.ifp i5 (Av.ifp (Int.natCast_nonneg _) (Av.ifp i7 ?_))))
    refine o3_s hV hj hLu fin d (i + 1) c' _ i2 i3 k2 (by rw [List.length_set]; exact hl) (h.put i4 i6 (below_limb k3) ?_)
    rw [s1, ho]
    have e6 : ((18446744073709551616 : Nat) : Int) = 18446744073709551616 := rfl
    simp only [e6, Int.pow_add, Int.pow_succ, Int.pow_zero, Int.one_mul]
    exact ring_m2' k4
theorem wtop {o c : Nat} (ho : o < 18446744073709551616) (hc : c ≤ 1) : ∃ r e : Nat, IntKind.u64.wrap ((o : Int) + c) = (r : Int) ∧ r < 18446744073709551616 ∧ e ≤ 1 ∧ (r : Int) = o + c - 18446744073709551616 * e := by
  refine ⟨(o + c) % 18446744073709551616, (o + c) / 18446744073709551616, ?_, by omega, by omega, by omega⟩
  rw [uw]; omega
/-- One digit, by its guess. -/
theorem dstep_f {U V g n j s Lu Lq : Nat} {u vl' q : List Int} {r : List Int × List Int} (hV0 : 0 < V) (hV : Vl64 vl' n V) (hj : j + n < Lu) (hLu : Lu < 17592186044416) (hu : Rp 18446744073709551616 u Lu U) (hU : U < 18446744073709551616 ^ (j + n + 1)) (hq : q.length = Lq) (hjq : j < Lq)
    (hg : g < 18446744073709551616) (h1 : U / 18446744073709551616 ^ j / V ≤ g) (h2 : g ≤ U / 18446744073709551616 ^ j / V + 1)
    (fin : ∀ u', Rp 18446744073709551616 u' Lu (U - U / 18446744073709551616 ^ j / V * V * 18446744073709551616 ^ j) → Av (fun k => impl_nat_over.l1 k n s u' vl' (q.set j ((U / 18446744073709551616 ^ j / V : Nat) : Int)) ((j : Int) - 1)) r) :
    Av (fun k => impl_nat_over.l2 k n s u vl' q j g 0 0 n 0) r := by
  have hPj : 0 < 18446744073709551616 ^ j := Nat.pow_pos (by decide)
  obtain ⟨hle, hlt⟩ := div_left (U := U) hV0 hPj
  have hcast := nat_sub3 hle
  generalize hd : U / 18446744073709551616 ^ j / V = d at *
  have i1 : ((j + n : Nat) : Int) < Lu := Int.ofNat_lt.2 hj
  have i2 : (j : Int) < q.length := by rw [hq]; exact Int.ofNat_lt.2 hjq
  have i3 : j + n < 4611686018427387904 := by omega
  have i4 : j + n < j + n + 1 := Nat.lt_succ_self _
  have hj1 : wrap64 ((j : Int) - 1) = (j : Int) - 1 := by clear hcast; exact wr (by omega) (by omega)
  have e6 : ((18446744073709551616 : Nat) : Int) = 18446744073709551616 := rfl
  have u0 : Upto 18446744073709551616 u (j + n + 1) ((U : Int) - g * (V % 18446744073709551616 ^ 0 : Nat) * 18446744073709551616 ^ j + (((0 : Nat) : Int) + (0 : Nat)) * 18446744073709551616 ^ (j + 0)) := by
    have e0 : (U : Int) - g * (V % 18446744073709551616 ^ 0 : Nat) * 18446744073709551616 ^ j + (((0 : Nat) : Int) + (0 : Nat)) * 18446744073709551616 ^ (j + 0) = U := by
      rw [Nat.pow_zero, Nat.mod_one]; simp
    rw [e0]
    have hup : Upto 18446744073709551616 u u.length U := ⟨hu.digs, hu.val, fun k hk => by rw [List.getD_eq_getElem?_getD, List.getElem?_eq_none hk]; rfl⟩
    exact Upto.less (by decide) hup hU
  refine o2_s hg hV hj hLu ?_ n 0 0 0 u rfl (Nat.zero_le _) (by decide) (by decide) hu.len u0
  intro l c b hl h hc hb1
  have i5 : j + n < l.length := by rw [hl]; exact hj
  have i6 : ((j + n : Nat) : Int) < l.length := Int.ofNat_lt.2 i5
  obtain ⟨o, ho, hob⟩ := h.dig (by decide) (j + n)
  have r2 : rd l ((j + n : Nat) : Int) = (o : Int) := rdn ho
  have e : wrap64 ((j : Int) + n) = ((j + n : Nat) : Int) := wrap_add i3
  obtain ⟨t, z, f1, hz, ht, he⟩ := sub64 o c b hob hc hb1
  have hup := h.put i5 i4 (below_limb ht) rfl
  rw [ho] at hup
  have ev : (U : Int) - g * V * 18446744073709551616 ^ j + ((c : Int) + b) * 18446744073709551616 ^ (j + n) + ((t : Int) - (o : Nat)) * ((18446744073709551616 : Nat) : Int) ^ (j + n) = (U : Int) - g * V * 18446744073709551616 ^ j + z * 18446744073709551616 ^ (j + n + 1) := by
    simp only [e6, Int.pow_add, Int.pow_succ, Int.pow_zero, Int.one_mul]
    exact ring_otop he
  rw [ev] at hup
  have hb := hup.bound (by decide)
  rw [e6] at hb
  refine Av.succ ?_
  simp only [impl_nat_over.l2, e, r2, f1, Option.bind_some, Int.toNat_natCast]
  refine Av.ifn (Int.lt_irrefl _) (Av.ifp (Int.natCast_nonneg _) (Av.ifp i6 ?_))
  have hz01 : z = 0 ∨ z = 1 := by clear hb hup ev he hcast h; omega
  rcases hz01 with rfl | rfl
  · refine Av.ifn (by simp) ?_
    have hgd := div_keep hV0 hPj (by rw [hd]; exact h1) (X := (U : Int) - g * V * 18446744073709551616 ^ j + ((0 : Nat) : Int) * 18446744073709551616 ^ (j + n + 1)) (by simp) hb.1
    rw [hd] at hgd
    subst hgd
    rw [hj1]
    refine Av.ifp (Int.natCast_nonneg _) (Av.ifp i2 ?_)
    exact fin _ (upto_rp hup (by rw [List.length_set]; exact hl) (by rw [hcast]; simp))
  · -- one too much: it is given back
    refine Av.ifp rfl ?_
    have hgd := div_back hV0 hPj (by rw [hd]; exact h2) (X := (U : Int) - g * V * 18446744073709551616 ^ j + ((1 : Nat) : Int) * 18446744073709551616 ^ (j + n + 1)) (K := 18446744073709551616 ^ (j + n + 1)) (by simp) hb.2
    rw [hd] at hgd
    have hg1 : IntKind.u64.wrap ((g : Int) - 1) = (d : Int) := by
      have := urs (a := g) (b := 1) hg (by rw [hgd]; exact Nat.le_add_left _ _)
      rw [hgd, Nat.add_sub_cancel] at this
      rw [hgd]; exact this
    rw [hg1]
    refine o3_s (V := V) (g := d) (n := n) (j := j) (s := s) (Lu := Lu) (X := (U : Int) - g * V * 18446744073709551616 ^ j + ((1 : Nat) : Int) * 18446744073709551616 ^ (j + n + 1)) (q := q) (r := r) hV hj hLu ?_ n 0 0 _ rfl (Nat.zero_le _) (by decide) (by rw [List.length_set]; exact hl) ?_
    rotate_left
    · have e0 : (U : Int) - g * V * 18446744073709551616 ^ j + ((1 : Nat) : Int) * 18446744073709551616 ^ (j + n + 1) + ((V % 18446744073709551616 ^ 0 : Nat) : Int) * 18446744073709551616 ^ j - ((0 : Nat) : Int) * 18446744073709551616 ^ (j + 0) = (U : Int) - g * V * 18446744073709551616 ^ j + ((1 : Nat) : Int) * 18446744073709551616 ^ (j + n + 1) := by
        rw [Nat.pow_zero, Nat.mod_one]; simp
      rw [e0]; exact hup
    · intro l2 c2 hl2 h2' hc2
      have k5 : j + n < l2.length := by rw [hl2]; exact hj
      have k6 : ((j + n : Nat) : Int) < l2.length := Int.ofNat_lt.2 k5
      obtain ⟨o2, ho2, hob2⟩ := h2'.dig (by decide) (j + n)
      have r3 : rd l2 ((j + n : Nat) : Int) = (o2 : Int) := rdn ho2
      obtain ⟨t2, z2, f2, ht2, hz2, he2⟩ := wtop hob2 hc2
      have hup2 := h2'.put k5 i4 (below_limb ht2) rfl
      rw [ho2] at hup2
      have hgI : (g : Int) = d + 1 := by rw [hgd]; simp
      have ev2 : (U : Int) - g * V * 18446744073709551616 ^ j + ((1 : Nat) : Int) * 18446744073709551616 ^ (j + n + 1) + V * 18446744073709551616 ^ j - c2 * 18446744073709551616 ^ (j + n) + ((t2 : Int) - (o2 : Nat)) * ((18446744073709551616 : Nat) : Int) ^ (j + n) = ((U : Int) - d * V * 18446744073709551616 ^ j) + 18446744073709551616 ^ (j + n + 1) - z2 * 18446744073709551616 ^ (j + n + 1) := by
        have h9 : (U : Int) - g * V * 18446744073709551616 ^ j + 18446744073709551616 ^ (j + n + 1) + V * 18446744073709551616 ^ j = (U : Int) - d * V * 18446744073709551616 ^ j + 18446744073709551616 ^ (j + n + 1) := ring_last hgI
        simp only [e6, Int.natCast_one, Int.one_mul]
        rw [← h9]
        simp only [Int.pow_add, Int.pow_succ, Int.pow_zero, Int.one_mul]
        exact ring_btop he2
      rw [ev2] at hup2
      have hb2 := hup2.bound (by decide)
      rw [e6] at hb2
      have hZ0 : (0 : Int) ≤ (U : Int) - d * V * 18446744073709551616 ^ j := by
        have h8 : ((d * V * 18446744073709551616 ^ j : Nat) : Int) ≤ U := Int.ofNat_le.2 hle
        simp only [Int.natCast_mul, Int.natCast_pow] at h8
        exact Int.sub_nonneg_of_le h8
      have hZK : (U : Int) - d * V * 18446744073709551616 ^ j < 18446744073709551616 ^ (j + n + 1) := by
        have h8 : U - d * V * 18446744073709551616 ^ j < 18446744073709551616 ^ (j + n + 1) := Nat.lt_of_le_of_lt (Nat.sub_le _ _) hU
        have h9 := Int.ofNat_lt.2 h8
        rw [hcast] at h9
        simpa using h9
      have hfv := back_one hz2 rfl hb2.1 hb2.2 hZ0 hZK
      refine Av.succ ?_
      simp only [impl_nat_over.l3, e, r3, f2, Int.toNat_natCast, hj1]
      refine Av.ifn (Int.lt_irrefl _) (Av.ifp (Int.natCast_nonneg _) (Av.ifp k6 (Av.ifp (Int.natCast_nonneg _) (Av.ifp i2 ?_))))
      exact fin _ (upto_rp hup2 (by rw [List.length_set]; exact hl2) (by rw [hfv, hcast]; simp))
theorem take_upto {B : Nat} (hB : 2 ≤ B) {l : List Int} {n v : Nat} (h : Upto B l n v) (hn : n ≤ l.length) : Digs B (l.take n) ∧ vl B (l.take n) = v := by
  have hb := h.bound hB
  have hv : v < B ^ n := by
    have : ((v : Nat) : Int) < ((B ^ n : Nat) : Int) := by rw [Int.natCast_pow]; exact hb.2
    exact Int.ofNat_lt.1 this
  have hl : (l.take n).length = n := by rw [List.length_take]; omega
  refine ⟨digs_take h.digs n, vl_of_getD hB (by rw [hl]; exact hv) (fun j hj => ?_)⟩
  rw [hl] at hj
  rw [← h.get hB j, List.getD_eq_getElem?_getD, List.getD_eq_getElem?_getD, List.getElem?_take, if_pos hj]
theorem o1_s {A V n s Lu Lq : Nat} {vl' : List Int} (hs : s ≤ 63) (hn : 2 ≤ n) (hV : Vl64 vl' n V) (hV1 : 18446744073709551616 ^ (n - 1) ≤ V) (hLu : Lu < 17592186044416) : ∀ (m U t : Nat) (u q : List Int), Dv 18446744073709551616 A V m U (t * 18446744073709551616 ^ m) → Rp 18446744073709551616 u Lu U → Rp 18446744073709551616 q Lq (t * 18446744073709551616 ^ m) → m ≤ Lq → m + n ≤ Lu → Lq < 17592186044416 →
    Av (fun k => impl_nat_over.l1 k n s u vl' q ((m : Int) - 1)) (D (A / V), D (A % V / 2 ^ s))
  | 0, U, t, u, q, hD, hu, hq, hm, hmn, hLq => by
    have hV0 : 0 < V := Nat.lt_of_lt_of_le (Nat.pow_pos (by decide)) hV1
    obtain ⟨h1, h2⟩ := hD.done hV0
    have hUV : U < V := by have := hD.lt; simpa using this
    have hUn : U < 18446744073709551616 ^ n := Nat.lt_trans hUV hV.lt
    have hup : Upto 18446744073709551616 u u.length U := ⟨hu.digs, hu.val, fun k hk => by rw [List.getD_eq_getElem?_getD, List.getElem?_eq_none hk]; rfl⟩
    have hun := Upto.less (by decide) hup hUn
    have hnu : n ≤ u.length := by rw [hu.len]; omega
    obtain ⟨hd, hv⟩ := take_upto (by decide) hun hnu
    have hlen : (D U).length < 17592186044416 := Nat.lt_of_le_of_lt ((D_le n U).2 hUn) (by omega)
    rw [← h1, ← h2]
    refine Av.succ ?_
    simp only [impl_nat_over.l1, Int.toNat_natCast]
    refine Av.ifn (by omega) (Av.bind (trim_f' hq.digs (by rw [hq.len]; omega) hq.val) (Av.ifp (Int.natCast_nonneg _) (Av.ifp (Int.ofNat_le.2 hnu) ?_)))
    exact Av.bind (trim_f' hd (by rw [List.length_take]; omega) hv) (Av.bind (down_f U s (Nat.lt_succ_of_le hs) hlen) Av.ret)
  | m + 1, U, t, u, q, hD, hu, hq, hm, hmn, hLq => by
    have hV2 := hV.lt
    have hV0 : 0 < V := Nat.lt_of_lt_of_le (Nat.pow_pos (by decide)) hV1
    have hjn : m + n < Lu := by omega
    have hmq : m < Lq := by omega
    have hjn' : m + n < u.length := by rw [hu.len]; exact hjn
    have j1 : m + n < 4611686018427387904 := by omega
    have j2 : 1 ≤ m + n := by omega
    have j2' : 2 ≤ m + n := by omega
    have j3 : 1 ≤ n := by omega
    have j4 : n < 4611686018427387904 := by omega
    have j5 : ((m + n : Nat) : Int) < u.length := Int.ofNat_lt.2 hjn'
    have j6 : ((m + n - 1 : Nat) : Int) < u.length := Int.ofNat_lt.2 (by omega)
    have j6' : ((m + n - 2 : Nat) : Int) < u.length := Int.ofNat_lt.2 (by omega)
    have j7 : ((n - 1 : Nat) : Int) < vl'.length := by rw [hV.len]; omega
    have j7' : ((n - 2 : Nat) : Int) < vl'.length := by rw [hV.len]; omega
    have j8 : ((m + 1 : Nat) : Int) - 1 = (m : Int) := by omega
    have j9 : n - 1 < n := by omega
    have j10 : n - 2 < n := by omega
    have hU : U < 18446744073709551616 ^ (m + n + 1) := by
      have h1 := hD.lt
      have h2 : V * 18446744073709551616 ^ (m + 1) ≤ 18446744073709551616 ^ n * 18446744073709551616 ^ (m + 1) := Nat.mul_le_mul_right _ (Nat.le_of_lt hV2)
      rw [← Nat.pow_add, show n + (m + 1) = m + n + 1 by omega] at h2
      exact Nat.lt_of_lt_of_le h1 h2
    obtain ⟨g1, g2, g3, g4, g5, g6⟩ := hD.guess (n := n) (by decide) hn hV1 hV2 rfl rfl rfl rfl rfl
    have hdig := hD.digit (by decide) hV0
    have hstep := hD.step (by decide) hV0
    have hvB : V / 18446744073709551616 ^ (n - 1) % 18446744073709551616 < 18446744073709551616 := Nat.mod_lt _ (by decide)
    have hxB : U / 18446744073709551616 ^ (m + n) % 18446744073709551616 < 18446744073709551616 := Nat.mod_lt _ (by decide)
    have hyB : U / 18446744073709551616 ^ (m + n - 1) % 18446744073709551616 < 18446744073709551616 := Nat.mod_lt _ (by decide)
    have rx := rdn (hu.get (by decide) (m + n))
    have ry := rdn (hu.get (by decide) (m + n - 1))
    have rz := rdn (hu.get (by decide) (m + n - 2))
    have rv := hV.get (n - 1) j9
    have rw_ := hV.get (n - 2) j10
    have hqh : qh 18446744073709551616 ((U / 18446744073709551616 ^ (m + n) % 18446744073709551616 * 18446744073709551616 + U / 18446744073709551616 ^ (m + n - 1) % 18446744073709551616) * 18446744073709551616 + U / 18446744073709551616 ^ (m + n - 2) % 18446744073709551616) (V / 18446744073709551616 ^ (n - 1) % 18446744073709551616 * 18446744073709551616 + V / 18446744073709551616 ^ (n - 2) % 18446744073709551616) < 18446744073709551616 := Nat.lt_of_le_of_lt qh_le (by decide)
    have hp := hq.put (by decide) hmq hdig
    have hsum : t * 18446744073709551616 ^ (m + 1) + U / 18446744073709551616 ^ m / V * 18446744073709551616 ^ m = (t * 18446744073709551616 + U / 18446744073709551616 ^ m / V) * 18446744073709551616 ^ m := by
      rw [Nat.pow_succ, Nat.add_mul, Nat.mul_comm (18446744073709551616 ^ m) 18446744073709551616, Nat.mul_assoc]
    rw [hsum] at hstep
    generalize U / 18446744073709551616 ^ (m + n) % 18446744073709551616 = x at *
    generalize U / 18446744073709551616 ^ (m + n - 1) % 18446744073709551616 = y at *
    generalize U / 18446744073709551616 ^ (m + n - 2) % 18446744073709551616 = z at *
    generalize V / 18446744073709551616 ^ (n - 1) % 18446744073709551616 = v at *
    generalize V / 18446744073709551616 ^ (n - 2) % 18446744073709551616 = w at *
    have w1 : wrap64 ((n : Int) - 1) = ((n - 1 : Nat) : Int) := wrap_pred j4 j3
    have w2 : wrap64 ((n : Int) - 2) = ((n - 2 : Nat) : Int) := wrap_less (b := 2) j4 hn
    have w3 : wrap64 ((m : Int) + n) = ((m + n : Nat) : Int) := wrap_add j1
    have w4 : wrap64 (((m + n : Nat) : Int) - 1) = ((m + n - 1 : Nat) : Int) := wrap_pred j1 j2
    have w5 : wrap64 (((m + n : Nat) : Int) - 2) = ((m + n - 2 : Nat) : Int) := wrap_less (b := 2) j1 j2'
    have hdg := digit_f (x := x) (y := y) (z := z) (v := v) (w := w) g1 hvB g2 hxB hyB g3 g4
    refine Av.succ ?_
    rw [j8]
    simp only [impl_nat_over.l1, w1, w2, w3, w4, w5, rx, ry, rz, rv, rw_]
    refine Av.ifp (Int.natCast_nonneg _) (Av.ifp (Int.natCast_nonneg _) (Av.ifp j5 (Av.ifp (Int.natCast_nonneg _) (Av.ifp j6 (Av.ifp (Int.natCast_nonneg _) (Av.ifp j6' (Av.ifp (Int.natCast_nonneg _) (Av.ifp j7 (Av.ifp (Int.natCast_nonneg _) (Av.ifp j7' (Av.bind hdg ?_)))))))))))
    refine dstep_f hV0 hV hjn hLu hu hU hq.len hmq hqh g5 g6 ?_
    intro u' hu'
    exact o1_s hs hn hV hV1 hLu m _ _ u' _ hstep hu' hp (Nat.le_of_lt hmq) (Nat.le_of_lt hjn) hLq
theorem fx_take {B n V : Nat} (h : V < B ^ n) (hB : B = 18446744073709551616) : Vl64 ((fx B (n + 1) V).take n) n V := by
  subst hB
  refine ⟨by rw [List.length_take, fx_length]; omega, fun i hi => ?_, h⟩
  unfold rd
  rw [Int.toNat_natCast, List.getD_eq_getElem?_getD, List.getElem?_take, if_pos hi, ← List.getD_eq_getElem?_getD, fx_getD (by omega)]
theorem over_f (a b : Nat) (hb0 : 0 < b) (ha : (D a).length < 17592186044415) (hb : (D b).length < 17592186044415) : Av (fun k => impl_nat_over.f k (D a) (D b)) (D (a / b), D (a % b)) := by
  unfold impl_nat_over.f
  refine Av.bind (cmp_f a b (by omega) (by omega)) ?_
  have hc := @cmpv_neg a b
  by_cases h : a < b
  · refine Av.ifp (hc.2 h) (Av.ret' ?_)
    rw [Nat.div_eq_of_lt h, Nat.mod_eq_of_lt h, D_zero]
  · refine Av.ifn (fun h2 => h (hc.1 h2)) ?_
    have hab : b ≤ a := Nat.le_of_not_lt h
    have hnl := D_mono hab
    have hpos : 0 < (D b).length := (D_lt 0 b).2 (by rw [Nat.pow_zero]; exact hb0)
    by_cases h1 : (D b).length = 1
    · have hbW : b < 18446744073709551616 := by
        have := (D_le 1 b).1 (Nat.le_of_eq h1); rw [Nat.pow_one] at this; exact this
      refine Av.ifp (by rw [h1]; rfl) (Av.ifp (Int.natCast_nonneg _) (Av.ifp (by omega) ?_))
      rw [Int.toNat_natCast]
      have hlt : a < 18446744073709551616 ^ (D a).length := (D_le _ a).1 (Nat.le_refl _)
      have hz := Rp.zeros (B := 18446744073709551616) (by decide) (D a).length
      have h2 := over0_loop a b hb0 hbW (Nat.lt_succ_of_lt ha) (D a).length (List.replicate (D a).length 0) (Nat.le_refl _) (by rw [Nat.div_eq_of_lt hlt]; simpa using hz)
      rw [Nat.div_eq_of_lt hlt] at h2
      have hw : wrap64 (((D a).length : Int) - 1) = ((D a).length : Int) - 1 := wr (by omega) (by omega)
      rw [hw]
      simpa using h2
    · have hn2 : 2 ≤ (D b).length := by omega
      have hV1 : 18446744073709551616 ^ ((D b).length - 1) ≤ b := (D_lt _ b).1 (by omega)
      have hV2 : b < 18446744073709551616 ^ (D b).length := (D_le _ b).1 (Nat.le_refl _)
      generalize hne : (D b).length = n at *
      have j1 : ¬ ((n : Nat) : Int) = 1 := by omega
      have j3 : 1 ≤ n := by omega
      have j4 : n < 4611686018427387904 := by omega
      have j5 : (D a).length < 4611686018427387904 := by omega
      have j6 : (D a).length - n < 4611686018427387904 := by omega
      have j7 : ((n - 1 : Nat) : Int) < n := by omega
      have j8 : (n - 1).succ = n := by omega
      have j9 : n ≤ n + 1 := by omega
      have j10 : (D a).length - n + 1 ≤ 35184372088832 := by omega
      have j11 : (((D a).length - n : Nat) : Int) = (((D a).length - n + 1 : Nat) : Int) - 1 := by omega
      have j12 : (D a).length < 35184372088831 := by omega
      have j13 : n < 35184372088831 := by omega
      have j14 : (D a).length + 1 < 17592186044416 := by omega
      have j15 : (D a).length - n + 1 < 17592186044416 := by omega
      have j16 : (D a).length - n + 1 + n ≤ (D a).length + 1 := by omega
      have htop : b / 18446744073709551616 ^ (n - 1) < 18446744073709551616 := by
        rw [Nat.div_lt_iff_lt_mul (Nat.pow_pos (by decide)), Nat.mul_comm, ← Nat.pow_succ, j8]; exact hV2
      have htop0 : 0 < b / 18446744073709551616 ^ (n - 1) := Nat.div_pos hV1 (Nat.pow_pos (by decide))
      have rt := rdD b (n - 1)
      rw [Nat.mod_eq_of_lt htop] at rt
      obtain ⟨s, s1, s2, s3, s4⟩ := norm_of htop0 htop
      have hlz := lz_f _ htop
      have hs64 : (64 : Int) - (nb (b / 18446744073709551616 ^ (n - 1)) : Int) = (s : Int) := by rw [s2]; clear hlz rt; omega
      rw [hs64] at hlz
      have hP : 0 < 2 ^ s := Nat.pow_pos (by decide)
      have hVlt : b * 2 ^ s < 18446744073709551616 ^ n := by
        rw [Nat.div_lt_iff_lt_mul (Nat.pow_pos (by decide))] at s3
        have h5 := Nat.mul_lt_mul_of_pos_right s3 hP
        have e : 2 ^ (64 - s) * 18446744073709551616 ^ (n - 1) * 2 ^ s = 18446744073709551616 ^ n := by
          have e1 : 2 ^ (64 - s) * 18446744073709551616 ^ (n - 1) * 2 ^ s = 2 ^ (64 - s) * 2 ^ s * 18446744073709551616 ^ (n - 1) := by grind
          rw [e1, ← Nat.pow_add, show 64 - s + s = 64 by omega, ← W64, Nat.mul_comm, ← Nat.pow_succ, j8]
        rw [e] at h5; exact h5
      have hVge : 18446744073709551616 ^ (n - 1) ≤ b * 2 ^ s := Nat.le_trans hV1 (Nat.le_mul_of_pos_right _ hP)
      have hAl : a < 18446744073709551616 ^ (D a).length := (D_le _ a).1 (Nat.le_refl _)
      have hAlt : a * 2 ^ s < 18446744073709551616 ^ ((D a).length + 1) := by
        have h5 := Nat.mul_lt_mul_of_pos_right hAl hP
        have h6 : 2 ^ s ≤ 18446744073709551616 := by
          have : 2 ^ s ≤ 2 ^ 64 := Nat.pow_le_pow_right (by decide) (Nat.le_trans s1 (by decide))
          exact this
        rw [Nat.pow_succ]
        exact Nat.lt_of_lt_of_le h5 (Nat.mul_le_mul_left _ h6)
      have hua := fx_upto (B := 18446744073709551616) (by decide) (L := (D a).length + 1) (n := a * 2 ^ s) (k := (D a).length + 1) hAlt (Nat.le_refl _)
      have hAV : a * 2 ^ s < b * 2 ^ s * 18446744073709551616 ^ ((D a).length - n + 1) := by
        have h5 := Nat.mul_lt_mul_of_pos_right hAl hP
        have h6 : 18446744073709551616 ^ (D a).length = 18446744073709551616 ^ (n - 1) * 18446744073709551616 ^ ((D a).length - n + 1) := by
          rw [← Nat.pow_add]; congr 1; clear rt hlz hs64; omega
        rw [h6] at h5
        have h7 : 18446744073709551616 ^ (n - 1) * 18446744073709551616 ^ ((D a).length - n + 1) * 2 ^ s ≤ b * 18446744073709551616 ^ ((D a).length - n + 1) * 2 ^ s := Nat.mul_le_mul_right _ (Nat.mul_le_mul_right _ hV1)
        have e : b * 18446744073709551616 ^ ((D a).length - n + 1) * 2 ^ s = b * 2 ^ s * 18446744073709551616 ^ ((D a).length - n + 1) := by grind
        rw [e] at h7
        exact Nat.lt_of_lt_of_le h5 h7
      have hD : Dv 18446744073709551616 (a * 2 ^ s) (b * 2 ^ s) ((D a).length - n + 1) (a * 2 ^ s) (0 * 18446744073709551616 ^ ((D a).length - n + 1)) := by rw [Nat.zero_mul]; exact Dv.start hAV
      have hz := Rp.zeros (B := 18446744073709551616) (by decide) ((D a).length - n + 1)
      have key := o1_s (s := s) s1 hn2 (fx_take hVlt rfl) hVge j14 ((D a).length - n + 1) (a * 2 ^ s) 0 (fx 18446744073709551616 ((D a).length + 1) (a * 2 ^ s)) (List.replicate ((D a).length - n + 1) 0) hD ⟨fx_length _ _ _, hua.digs, hua.val⟩ (by rw [Nat.zero_mul]; exact hz) (Nat.le_refl _) j16 j15
      have ed : a * 2 ^ s / (b * 2 ^ s) = a / b := Nat.mul_div_mul_right _ _ hP
      have em : a * 2 ^ s % (b * 2 ^ s) / 2 ^ s = a % b := by
        rw [Nat.mul_mod_mul_right, Nat.mul_div_cancel _ hP]
      rw [ed, em] at key
      have w1 : wrap64 ((n : Int) - 1) = ((n - 1 : Nat) : Int) := wrap_pred j4 j3
      have w2 : wrap64 (((D a).length : Int) - (n : Int)) = (((D a).length - n : Nat) : Int) := wrap_less j5 hnl
      have w3 : wrap64 ((((D a).length - n : Nat) : Int) + 1) = (((D a).length - n + 1 : Nat) : Int) := wrap_one j6
      refine Av.ifn j1 ?_
      have hupb := up_f b s s1 (by rw [hne]; exact j13)
      rw [hne] at hupb
      simp only [w1, w2, w3, rt]
      refine Av.ifp (Int.natCast_nonneg _) (Av.ifp j7 (Av.bind hlz (Av.bind (up_f a s s1 j12) (Av.bind hupb (Av.ifp (Int.natCast_nonneg _) (Av.ifp (by rw [fx_length]; exact Int.ofNat_le.2 j9) (Av.ifp (Int.natCast_nonneg _) (Av.ifp (by rw [Int.toNat_natCast]; exact j10) ?_))))))))
      rw [Int.toNat_natCast, Int.toNat_natCast, j11]
      exact key
theorem below_mul {p z Q S : Nat} (hp : p < Q) (hz : z % Q = 0) (h : z < Q * S) : p + z < Q * S := by
  obtain ⟨c, rfl⟩ := Nat.dvd_of_mod_eq_zero hz
  have h1 : c < S := Nat.lt_of_mul_lt_mul_left h
  have h2 := Nat.mul_le_mul_left Q h1
  rw [Nat.mul_succ] at h2
  omega
theorem W24 : (16777216 : Nat) = 2 ^ 24 := rfl
theorem shl_i64' {y t : Nat} (ht : t ≤ 24) (hy : y < 16777216) : shl .i64 (y : Int) (t : Int) = ((y * 2 ^ t : Nat) : Int) := by
  have h2 : 2 ^ t ≤ 16777216 := by
    have : 2 ^ t ≤ 2 ^ 24 := Nat.pow_le_pow_right (by decide) ht
    omega
  have h3 : y * 2 ^ t ≤ 16777215 * 16777216 := Nat.mul_le_mul (by omega) h2
  unfold shl
  rw [Int.toNat_natCast, Nat.min_eq_left (show t ≤ IntKind.i64.bits from Nat.le_trans ht (by decide)), i64_w]
  have e : (2 : Int) ^ t = ((2 ^ t : Nat) : Int) := by simp
  rw [e, ← Int.natCast_mul]
  generalize y * 2 ^ t = z at *
  exact wr (by omega) (by omega)
theorem down24 {x y s : Nat} (hs : s ≤ 23) (hx : x < 16777216) (hy : y < 16777216) : Go.bits .and .i64 (Go.bits .or .i64 (shr .i64 (x : Int) (s : Int)) (shl .i64 (y : Int) ((24 - s : Nat) : Int))) 16777215 = ((x / 2 ^ s + y * 2 ^ (24 - s) % 16777216 : Nat) : Int) := by
  have h1 := down_lt (t := 24) (s := s) (x := x) (by omega) (by rw [← W24]; exact hx)
  have h2 : y * 2 ^ (24 - s) % 2 ^ (24 - s) = 0 := Nat.mul_mod_left _ _
  have h3 := down_dvd (t := 24) (s := s) (y := y) (by omega)
  have h4 : y * 2 ^ (24 - s) < 281474976710656 := by
    have h5 : 2 ^ (24 - s) ≤ 16777216 := by
      have : 2 ^ (24 - s) ≤ 2 ^ 24 := Nat.pow_le_pow_right (by decide) (by omega)
      omega
    have h6 : y * 2 ^ (24 - s) ≤ 16777215 * 16777216 := Nat.mul_le_mul (by omega) h5
    omega
  have h7 : y * 2 ^ (24 - s) % 16777216 < 2 ^ (24 - s) * 2 ^ s := by
    rw [← Nat.pow_add, show 24 - s + s = 24 by omega, ← W24]
    exact Nat.mod_lt _ (by decide)
  rw [← W24] at h3
  have h8 := below_mul h1 h3 h7
  rw [← Nat.pow_add, show 24 - s + s = 24 by omega, ← W24] at h8
  rw [shr_nat (k := .i64) (Nat.le_trans hs (by decide)), shl_i64' (by omega) hy]
  have hc : Go.bits .or .i64 ((x / 2 ^ s : Nat) : Int) ((y * 2 ^ (24 - s) : Nat) : Int) = Go.bits .or .i64 ((y * 2 ^ (24 - s) : Nat) : Int) ((x / 2 ^ s : Nat) : Int) := by simp only [Go.bits, BitVec.or_comm]
  rw [hc, or_low h4 h2 h1 (by omega), and24]
  generalize y * 2 ^ (24 - s) = z at *
  generalize x / 2 ^ s = p at *
  clear h1 h2 h3 h7 hc
  omega
theorem down_dig24 (a i s : Nat) (hs : s ≤ 23) : a / 2 ^ s / 16777216 ^ i % 16777216 = a / 16777216 ^ i % 16777216 / 2 ^ s + a / 16777216 ^ (i + 1) % 16777216 * 2 ^ (24 - s) % 16777216 := by
  have h := dig_shift (t := 24) (s := s) (by omega) (a / 16777216 ^ i)
  rw [← W24, Nat.div_div_eq_div_mul, Nat.div_div_eq_div_mul] at h
  rw [Nat.div_div_eq_div_mul, Nat.mul_comm (2 ^ s), h, Nat.pow_succ]
theorem l6_s {U n s Lu Q Lq : Nat} {u q : List Int} (hs : s ≤ 23) (hu : Rp 16777216 u Lu U) (hn : n < Lu) (hLu : Lu < 17592186044416) (hq : Rp 16777216 q Lq Q) (hLq : Lq < 17592186044416) (hlt : U / 2 ^ s < 16777216 ^ n) :
    ∀ (d i : Nat) (l : List Int), n - i = d → i ≤ n → l.length = n → (∀ j, j < i → l.getD j 0 = ((U / 2 ^ s / 16777216 ^ j % 16777216 : Nat) : Int)) → Av (fun k => spec_l02Div.l6 k n s u q l i) (E Q, E (U / 2 ^ s))
  | 0, i, l, hd, hi, hl, h => by
    obtain rfl : i = n := by omega
    refine Av.succ ?_
    simp only [spec_l02Div.l6]
    refine Av.ifn (Int.lt_irrefl _) (Av.bind (trim_s' hq.digs (by rw [hq.len]; omega) hq.val) (Av.bind (trim_s' (n := U / 2 ^ s) ?_ (by rw [hl]; omega) (vl_of_getD (by decide) (by rw [hl]; exact hlt) (fun j hj => h j (by rw [← hl]; exact hj)))) Av.ret))
    intro x hx
    obtain ⟨j, hj, rfl⟩ := List.getElem_of_mem hx
    have h1 := h j (by rw [← hl]; exact hj)
    rw [List.getD_eq_getElem?_getD, List.getElem?_eq_getElem hj] at h1
    simp only [Option.getD_some] at h1
    rw [h1]
    exact below_nat (Nat.mod_lt _ (by decide))
  | d + 1, i, l, hd, hi, hl, h => by
    have i1 : (i : Int) < n := by omega
    have i2 : n - (i + 1) = d := by omega
    have i3 : i + 1 ≤ n := by omega
    have i4 : i < l.length := by omega
    have i5 : (i : Int) < l.length := Int.ofNat_lt.2 i4
    have i6 : (i : Int) < u.length := by rw [hu.len]; omega
    have i7 : ((i + 1 : Nat) : Int) < u.length := by rw [hu.len]; omega
    have i8 : i < 4611686018427387904 := by omega
    have hx : U / 16777216 ^ i % 16777216 < 16777216 := Nat.mod_lt _ (by decide)
    have hy : U / 16777216 ^ (i + 1) % 16777216 < 16777216 := Nat.mod_lt _ (by decide)
    have r1 := rdn (hu.get (by decide) i)
    have r2 := rdn (hu.get (by decide) (i + 1))
    have e1 : wrap64 ((i : Int) + 1) = ((i + 1 : Nat) : Int) := wrap_one i8
    have es : IntKind.u64.wrap (24 - (s : Int)) = ((24 - s : Nat) : Int) := by clear i1 i5 i6 i7 r1 r2 e1; rw [ur (by omega) (by omega)]; omega
    refine Av.succ ?_
    simp only [spec_l02Div.l6, e1, es, r1, r2, Int.toNat_natCast]
    rw [down24 hs hx hy, ← down_dig24 U i s hs]
    refine Av.ifp i1 (Av.ifp (Int.natCast_nonneg _) (Av.ifp i6 (Av.ifp (Int.natCast_nonneg _) (Av.ifp (Int.natCast_nonneg _) (Av.ifp i7 (Av.ifp (Int.natCast_nonneg _) (Av.ifp i5 ?_)))))))
    refine l6_s hs hu hn hLu hq hLq hlt d (i + 1) _ i2 i3 (by rw [List.length_set]; exact hl) ?_
    intro j hj
    rw [getD_set i4]
    by_cases hij : i = j
    · subst hij; rw [if_pos rfl]
    · rw [if_neg hij]; exact h j (Nat.lt_of_le_of_ne (Nat.le_of_lt_succ hj) (Ne.symm hij))
end Go.Proofs.Ytghhnjhjhjbljaa.C
