/- A number comes back from its great number; its bits tell it; what is greater has no fewer bits. Conditions: none beyond the given statement's. -/
import Derived.Test.YtohfimjpfnnpgaaYH1
import Derived.Test.YtohfimjpfnnpgaaZH1
import Derived.Test.YtohfimjpfnnpgaaZH2
import Derived.Test.YtohfimjpfnnpgaaZH4
import Derived.Test.YtohfimjpfnnpgaaZH5
set_option linter.unusedVariables false
set_option linter.unusedSimpArgs false
namespace Go.Proofs.Ytohfimjpfnnpgaa.Pure
open Go.RowKit Go.Proofs.YtohfimjpfnnpgaaW.PrintWords Go.Proofs.YtohfimjpfnnpgaaW.PrintLast Go.Proofs.YtohfimjpfnnpgaaW.PrintMore Go.Proofs.Ytohfimjpfnnpgaa.M Go.Proofs.Ytohfimjpfnnpgaa.C Go.Proofs.Ytohfimjpfnnpgaa.F

theorem bitsof_g (a : ByteArray) : Av (fun k => impl_BitsOf.f k a) (if gok a then (nb (bv a) : Int) else -1) := by
  unfold impl_BitsOf.f
  refine Av.bindc (gok_f a) ?_
  cases hg : gok a with
  | false => exact Av.ifn (by decide) (Av.ret' rfl)
  | true =>
    have hs := gok_size' hg
    exact Av.ifp rfl (Av.bind (natOf_f a (by omega)) (Av.bind (size_f _ (by have := (Sm.gb (bv_gb hg)).1; omega)) (Av.ret' rfl)))
theorem nb_mono {m n : Nat} (h : m ≤ n) : nb m ≤ nb n := (nb_le _ _).2 (Nat.lt_of_le_of_lt h ((nb_le _ _).1 (Nat.le_refl _)))
theorem gok_n {n : Nat} (h : n < 1000000000000) : gok (bts n) = true := gok_bts.2 (Nat.lt_trans h (by decide))
theorem sm_n {n : Nat} (h : n < 1000000000000) : Sm n := Sm.gb (Nat.lt_trans h (by decide))
theorem bts_small {n : Nat} (h : n < 1000000000000) : (bts n).size ≤ 160 := gok_size' (gok_n h)
theorem greatof_g {n : Nat} (h : n < 1000000000000) : Av (fun k => impl_GreatOf.f k n) (bts n) := by
  unfold impl_GreatOf.f
  exact Av.ifn (by omega) (Av.bind (small_f n (by omega)) (Av.bind (text_f' (sm_n h)) Av.ret))
theorem greatint_g {n : Nat} (h : n < 1000000000000) : Av (fun k => impl_GreatInt.f k (bts n)) ((n : Int), true) := by
  unfold impl_GreatInt.f
  have hn := natOf_f (bts n) (by have := bts_small h; omega)
  rw [bv_bts] at hn
  have hb : nb n ≤ 40 := (nb_le _ _).2 (Nat.lt_trans h (by decide))
  refine Av.bind hn (Av.bindc (gok_f _) ?_)
  rw [gok_n h]
  refine Av.ifp rfl (Av.bind (size_f n (by have := (sm_n h).1; omega)) (Av.succ ?_))
  simp only [impl_GreatInt.j0]
  rw [decide_eq_false (by omega)]
  refine Av.ifn (by decide) (Av.bindc rfl ?_)
  have hl := D_lt 0 n
  rw [Nat.pow_zero] at hl
  by_cases h0 : n = 0
  · subst h0
    exact Av.ifp (by rw [D_zero]; rfl) (Av.ret' rfl)
  · have hp := hl.2 (by omega)
    refine Av.ifn (by rw [beq_iff_eq]; omega) (Av.ifp (by omega) (Av.ret' ?_))
    have e : rd (D n) 0 = (n : Int) := by
      have := rdD n 0
      rw [Nat.pow_zero, Nat.div_one, Nat.mod_eq_of_lt (by omega)] at this
      exact this
    rw [e, wr (by omega) (by omega)]
theorem bitof_g {n : Nat} (h : n < 1000000000000) (j : Nat) (hj : j < 64) : Av (fun k => impl_BitOf.f k (bts n) j) ((n / 2 ^ j % 2 : Nat) : Int) := by
  unfold impl_BitOf.f
  have hn := natOf_f (bts n) (by have := bts_small h; omega)
  rw [bv_bts] at hn
  refine Av.bindc (gok_f _) ?_
  rw [gok_n h]
  have hm : n / 2 ^ j % 2 < 2 := Nat.mod_lt _ (by decide)
  refine Av.ifp rfl (Av.bind hn (Av.bindc (bit_f n j (by have := (sm_n h).1; omega) (by omega)) (Av.ret' ?_)))
  generalize n / 2 ^ j % 2 = q at hm
  exact wr (by omega) (by omega)
theorem sgn_neg' (a b : Nat) : sgn a b = -sgn b a := by
  unfold sgn
  repeat' split
  all_goals omega
theorem cgv_neg (a b : ByteArray) : cgv a b = wrap64 (-cgv b a) := by
  unfold cgv
  rw [Bool.and_comm]
  cases gok b && gok a with
  | false =>
    rw [if_neg (by decide), if_neg (by decide)]
    decide +kernel
  | true =>
    rw [if_pos rfl, if_pos rfl, sgn_neg']
    unfold sgn
    repeat' split
    all_goals decide +kernel
theorem bits128 : gok (⟨#[128]⟩ : ByteArray) = true ∧ bv (⟨#[128]⟩ : ByteArray) = 128 ∧ nb 128 = 8 := by decide +kernel
theorem ends {n : Nat} (h : n < 1000000000000) (a : ByteArray) : Av (fun k => laws_FnGreatInts.j2 k n (bts n) n true n a false) true := by
  refine Av.succ ?_
  simp only [laws_FnGreatInts.j2]
  obtain ⟨b1, b2, b3⟩ := bits128
  have hb := bitsof_g (⟨#[128]⟩ : ByteArray)
  rw [b1, if_pos rfl, b2, b3] at hb
  refine Av.ifn (by decide) (Av.ifp trivial (Av.ifp trivial (Av.ifp trivial (Av.bindc (gok_f _) (Av.ifp (gok_n h) (Av.bind hb (Av.ifp rfl (Av.bindc (gok_f a) (Av.bindc (gok_s a) (Av.ret' ?_))))))))))
  simp
theorem pairs_g {n : Nat} (h : n < 1000000000000) (b : List Int) (hb : b.length ≤ 1048576) : Av (fun k => laws_FnGreatInts.j1 k b n (bts n) n true n) true := by
  refine Av.succ ?_
  simp only [laws_FnGreatInts.j1]
  obtain ⟨x, y, hxy⟩ := drawtwo_s b hb
  have hd : Av (fun k => spec_DrawCompareGreat.f k b) (x, y) := by
    unfold spec_DrawCompareGreat.f
    exact Av.bind hxy Av.ret
  refine Av.bind hd (Av.bind (compare_f x y) (Av.bind (compare_s x y) (Av.ifp rfl (Av.bind (compare_f y x) (Av.ifp (cgv_neg x y) ?_)))))
  by_cases c : cgv x y = 1
  · refine Av.ifp c (Av.bind (bitsof_g x) (Av.bind (bitsof_g y) ?_))
    have hlt : decide ((if gok x then (nb (bv x) : Int) else -1) < (if gok y then (nb (bv y) : Int) else -1)) = false := by
      unfold cgv at c
      cases hx : gok x with
      | false => rw [hx] at c; simp at c
      | true =>
        cases hy : gok y with
        | false => rw [hx, hy] at c; simp at c
        | true =>
          rw [hx, hy, Bool.and_self, if_pos rfl] at c
          have hp := (@sgn_pos (bv x) (bv y)).1 (by omega)
          have hm := nb_mono (Nat.le_of_lt hp)
          rw [if_pos rfl, if_pos rfl, decide_eq_false_iff_not]
          omega
    rw [hlt]
    exact ends h x
  · exact Av.ifn c (ends h x)
theorem half_n (e j : Nat) : e / 2 ^ j = 2 * (e / 2 ^ (j + 1)) + e / 2 ^ j % 2 := by
  rw [Nat.pow_succ, ← Nat.div_div_eq_div_mul]; omega
theorem bits_loop {n : Nat} (h : n < 1000000000000) (b : List Int) (hb : b.length ≤ 1048576) : ∀ j : Nat, j ≤ 40 → Av (fun k => laws_FnGreatInts.l0 k b n (bts n) n true ((n / 2 ^ j : Nat) : Int) ((j : Int) - 1)) true
  | 0, hj => by
    refine Av.succ ?_
    simp only [laws_FnGreatInts.l0]
    rw [Nat.pow_zero, Nat.div_one]
    exact Av.ifn (by decide) (pairs_g h b hb)
  | j + 1, hj => by
    have ih := bits_loop h b hb j (Nat.le_of_succ_le hj)
    have hm := half_n n j
    have hq : n / 2 ^ (j + 1) ≤ n := Nat.div_le_self _ _
    have hr : n / 2 ^ j % 2 < 2 := Nat.mod_lt _ (by decide)
    have hbit := bitof_g h j (by omega)
    rw [hm] at ih
    generalize n / 2 ^ j % 2 = r at *
    generalize n / 2 ^ (j + 1) = q at *
    clear hm
    have e0 : ((j + 1 : Nat) : Int) - 1 = (j : Int) := by omega
    have w1 : wrap64 ((j : Int) - 1) = (j : Int) - 1 := wr (by omega) (by omega)
    have w2 : wrap64 (2 * (q : Int)) = 2 * (q : Int) := wr (by omega) (by omega)
    have w3 : wrap64 (2 * (q : Int) + (r : Int)) = ((2 * q + r : Nat) : Int) := by rw [wr (by omega) (by omega)]; omega
    refine Av.succ ?_
    rw [e0]
    simp only [laws_FnGreatInts.l0, w1, w2]
    refine Av.ifp (by omega) (Av.ifp (by omega) (Av.bind hbit ?_))
    rw [w3]
    exact ih
theorem FnGreatInts : laws_FnGreatInts.Pure := by
  intro b hb1 hb2 hb3
  refine Av.get (g := fun k => laws_FnGreatInts.f k b) ?_
  unfold laws_FnGreatInts.f
  refine Av.bindc (show laws_big.f b = some (decide ((b.length : Int) > 1048576)) from rfl) ?_
  by_cases c : (b.length : Int) > 1048576
  · exact Av.ifp (decide_eq_true c) Av.ret
  have hb : b.length ≤ 1048576 := by omega
  obtain ⟨l, hl, h2, h3⟩ := places_s b hb
  have at_ : ∀ j : Nat, j < 12 → 0 ≤ rd l (j : Int) ∧ rd l (j : Int) < 10000 := by
    intro j hj
    have : rd l (j : Int) = l[j] := by
      unfold rd
      rw [Int.toNat_natCast, List.getD_eq_getElem?_getD, List.getElem?_eq_getElem (by omega)]; rfl
    rw [this]
    exact h3 _ (List.getElem_mem _)
  obtain ⟨a0, a1⟩ := at_ 0 (by decide)
  obtain ⟨b0, b1⟩ := at_ 1 (by decide)
  obtain ⟨c0, c1⟩ := at_ 2 (by decide)
  have e0 : ((0 : Nat) : Int) = 0 := rfl
  have e1 : ((1 : Nat) : Int) = 1 := rfl
  have e2 : ((2 : Nat) : Int) = 2 := rfl
  rw [e0] at a0 a1
  rw [e1] at b0 b1
  rw [e2] at c0 c1
  refine Av.ifn (by rw [decide_eq_false c]; decide) (Av.bind hl (Av.ifp (by omega) (Av.ifp (by omega) (Av.ifp (by omega) ?_))))
  obtain ⟨n, hn, hn2⟩ : ∃ n : Nat, wrap64 ((wrap64 ((wrap64 ((rd l 0) * 100000000)) + (wrap64 ((rd l 1) * 10000)))) + (rd l 2)) = (n : Int) ∧ n < 1000000000000 := by
    generalize rd l 0 = x at *
    generalize rd l 1 = y at *
    generalize rd l 2 = z at *
    have w1 : wrap64 (x * 100000000) = x * 100000000 := wr (by omega) (by omega)
    have w2 : wrap64 (y * 10000) = y * 10000 := wr (by omega) (by omega)
    have w3 : wrap64 (x * 100000000 + y * 10000) = x * 100000000 + y * 10000 := wr (by omega) (by omega)
    have w4 : wrap64 (x * 100000000 + y * 10000 + z) = x * 100000000 + y * 10000 + z := wr (by omega) (by omega)
    refine ⟨(x * 100000000 + y * 10000 + z).toNat, ?_, by clear w1 w2 w3 w4; omega⟩
    rw [w1, w2, w3, w4]
    exact (Int.toNat_of_nonneg (by clear w1 w2 w3 w4; omega)).symm
  rw [hn]
  have hbits := bitsof_g (bts n)
  rw [gok_n hn2, if_pos rfl, bv_bts] at hbits
  have hnb : nb n ≤ 40 := (nb_le _ _).2 (Nat.lt_trans hn2 (by decide))
  have hloop := bits_loop hn2 b hb (nb n) hnb
  rw [Nat.div_eq_of_lt ((nb_le _ _).1 (Nat.le_refl _))] at hloop
  have w : wrap64 ((nb n : Int) - 1) = (nb n : Int) - 1 := wr (by omega) (by omega)
  refine Av.bind (greatof_g hn2) (Av.bind (greatint_g hn2) (Av.bind hbits ?_))
  rw [w]
  exact hloop
end Go.Proofs.Ytohfimjpfnnpgaa.Pure
