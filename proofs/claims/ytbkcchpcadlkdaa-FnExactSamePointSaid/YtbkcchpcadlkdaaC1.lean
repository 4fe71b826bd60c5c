/- Contracts of the least functions: is a text a great number; limbs without zeros at the end; limbs of a text; comparisons. Conditions: those named in each theorem. -/
import Derived.Test.YtbkcchpcadlkdaaM2
import Derived.Test.YtbkcchpcadlkdaaFx2
import Derived.Test.YtbkcchpcadlkdaaFx4
import Derived.Test.YtbkcchpcadlkdaaFx5
import Derived.Test.YtbkcchpcadlkdaaFx6
set_option linter.unusedVariables false
set_option linter.unusedSimpArgs false
namespace Go.Proofs.Ytbkcchpcadlkdaa.C
open Go.RowKit Go.Proofs.YtbkcchpcadlkdaaW.PrintWords Go.Proofs.YtbkcchpcadlkdaaW.PrintLast Go.Proofs.YtbkcchpcadlkdaaW.PrintMore Go.Proofs.Ytbkcchpcadlkdaa.M Go.Proofs.Ytbkcchpcadlkdaa.F

/-- The limbs of a number: 64 bits each in the program, 24 bits each in the reference. -/
abbrev D (n : Nat) : List Int := dg 18446744073709551616 n
abbrev E (n : Nat) : List Int := dg 16777216 n
theorem D_lt (j n : Nat) : j < (D n).length ↔ 18446744073709551616 ^ j ≤ n := dg_length_lt (by decide) j n
theorem D_le (j n : Nat) : (D n).length ≤ j ↔ n < 18446744073709551616 ^ j := dg_length_le (by decide) j n
theorem E_lt (j n : Nat) : j < (E n).length ↔ 16777216 ^ j ≤ n := dg_length_lt (by decide) j n
theorem E_le (j n : Nat) : (E n).length ≤ j ↔ n < 16777216 ^ j := dg_length_le (by decide) j n
theorem rdD (n j : Nat) : rd (D n) (j : Int) = ((n / 18446744073709551616 ^ j % 18446744073709551616 : Nat) : Int) := by
  unfold rd; rw [Int.toNat_natCast, dg_getD (by decide)]
theorem rdE (n j : Nat) : rd (E n) (j : Int) = ((n / 16777216 ^ j % 16777216 : Nat) : Int) := by
  unfold rd; rw [Int.toNat_natCast, dg_getD (by decide)]
theorem D_zero : D 0 = [] := rfl
theorem E_zero : E 0 = [] := rfl
theorem D_size (s : ByteArray) : (D (bv s)).length ≤ s.size := (D_le _ _).2 (Nat.lt_of_lt_of_le (bv_lt s) (Nat.pow_le_pow_left (by decide) _))
theorem E_size (s : ByteArray) : (E (bv s)).length ≤ s.size := (E_le _ _).2 (Nat.lt_of_lt_of_le (bv_lt s) (Nat.pow_le_pow_left (by decide) _))
theorem gok_f (s : ByteArray) : impl_GreatOk.f s = some (gok s) := by
  unfold impl_GreatOk.f gok
  by_cases h1 : (s.size : Int) ≤ 160
  · rw [if_pos h1]
    by_cases h2 : s.size = 0
    · rw [if_pos (toList_nil_iff.2 h2)]; simp [h2]
    · rw [if_neg (fun h => h2 (toList_nil_iff.1 h)), if_pos (by omega)]
      have h3 : s.size ≤ 160 := by omega
      simp [h2, h3]
      by_cases hb : bt s 0 = 0 <;> simp [hb]
  · rw [if_neg h1]
    have h3 : ¬ s.size ≤ 160 := by omega
    simp [h3]
theorem gok_s (s : ByteArray) : spec_GreatOk.f s = some (gok s) := gok_f s

theorem vl_take_succ (B : Nat) (l : List Int) (m : Nat) : vl B (l.take (m + 1)) = vl B (l.take m) + B ^ m * l.getD m 0 := by
  by_cases h : m < l.length
  · rw [List.take_succ_eq_append_getElem h, vl_snoc, List.length_take, Nat.min_eq_left (by omega), List.getD_eq_getElem?_getD, List.getElem?_eq_getElem h]
    rfl
  · rw [List.take_of_length_le (by omega), List.take_of_length_le (by omega), List.getD_eq_getElem?_getD, List.getElem?_eq_none (by omega)]
    simp
theorem take_is_dg {B : Nat} (hB : 2 ≤ B) {l : List Int} (h : Digs B l) (m : Nat) (hm : m ≤ l.length) (h0 : m = 0 ∨ l.getD (m - 1) 0 ≠ 0) : l.take m = dg B (vl B (l.take m)).toNat := by
  apply dg_unique hB (digs_take h m)
  intro hne
  have hl : (l.take m).length = m := by rw [List.length_take]; omega
  have hm0 : m ≠ 0 := by rintro rfl; exact hne (by simp)
  rcases h0 with h0 | h0
  · exact absurd h0 hm0
  · rw [List.getLast_eq_getElem]
    intro he
    apply h0
    rw [List.getD_eq_getElem?_getD, List.getElem?_eq_getElem (by omega)]
    simp only [List.getElem_take, hl] at he
    exact he

theorem trim_s_loop {l : List Int} (h : Digs 16777216 l) (hl : l.length < 4611686018427387904) : ∀ m : Nat, m ≤ l.length → vl 16777216 (l.take m) = vl 16777216 l → Av (fun k => spec_l02Trim.l0 k l m) (E (vl 16777216 l).toNat)
  | 0, _, hv => by
    refine Av.succ ?_
    simp only [spec_l02Trim.l0]
    simp (disch := omega) only [wr, if_pos, if_neg]
    refine Av.ret' ?_
    have := take_is_dg (by decide) h 0 (by omega) (.inl rfl)
    rw [hv] at this
    simpa using this
  | m + 1, hm, hv => by
    have hm' : (rd l (((m + 1 : Nat) : Int) - 1)) = l.getD m 0 := by unfold rd; congr 1; omega
    refine Av.succ ?_
    simp only [spec_l02Trim.l0]
    simp (disch := omega) only [wr, if_pos, if_neg]
    by_cases h0 : l.getD m 0 = 0
    · refine Av.ifp (by rw [hm', h0]) ?_
      have e : ((m + 1 : Nat) : Int) - 1 = m := by omega
      rw [e]
      refine trim_s_loop h hl m (by omega) ?_
      rw [← hv, vl_take_succ, h0]; simp
    · refine Av.ifn (by rw [hm']; exact h0) ?_
      refine Av.ret' ?_
      have := take_is_dg (by decide) h (m + 1) hm (.inr (by simpa using h0))
      rw [hv] at this
      rw [Int.toNat_natCast]
      exact this
theorem trim_s {l : List Int} (h : Digs 16777216 l) (hl : l.length < 4611686018427387904) : Av (fun k => spec_l02Trim.f k l) (E (vl 16777216 l).toNat) :=
  trim_s_loop h hl l.length (Nat.le_refl _) (by rw [List.take_length])
theorem trim_f_loop : ∀ (m : Nat) {l : List Int}, l.length = m → Digs 18446744073709551616 l → l.length < 4611686018427387904 → Av (fun k => impl_nat_trim.l0 k l) (D (vl 18446744073709551616 l).toNat)
  | 0, l, hm, h, hl => by
    obtain rfl := List.eq_nil_of_length_eq_zero hm
    refine Av.succ ?_
    simp only [impl_nat_trim.l0]
    exact Av.ifn (by simp) Av.ret
  | m + 1, l, hm, h, hl => by
    have hm' : (rd l ((l.length : Int) - 1)) = l.getD m 0 := by unfold rd; congr 1; omega
    refine Av.succ ?_
    simp only [impl_nat_trim.l0]
    simp (disch := omega) only [wr, if_pos, if_neg]
    have hv := vl_take_succ 18446744073709551616 l m
    rw [List.take_of_length_le (by omega)] at hv
    by_cases h0 : l.getD m 0 = 0
    · refine Av.ifp (by rw [hm', h0]) ?_
      have e : ((l.length : Int) - 1).toNat = m := by omega
      rw [e, hv, h0, Int.mul_zero, Int.add_zero]
      exact trim_f_loop m (by rw [List.length_take]; omega) (digs_take h m) (by rw [List.length_take]; omega)
    · refine Av.ifn (by rw [hm']; exact h0) ?_
      refine Av.ret' ?_
      have := take_is_dg (by decide) h (m + 1) (by omega) (.inr (by simpa using h0))
      rwa [List.take_of_length_le (by omega)] at this
theorem trim_f {l : List Int} (h : Digs 18446744073709551616 l) (hl : l.length < 4611686018427387904) : Av (fun k => impl_nat_trim.f k l) (D (vl 18446744073709551616 l).toNat) :=
  trim_f_loop l.length rfl h hl
theorem trim_f' {l : List Int} {n : Nat} (h : Digs 18446744073709551616 l) (hl : l.length < 4611686018427387904) (hn : vl 18446744073709551616 l = n) : Av (fun k => impl_nat_trim.f k l) (D n) := by
  have := trim_f h hl
  rw [hn, Int.toNat_natCast] at this
  exact this
theorem trim_s' {l : List Int} {n : Nat} (h : Digs 16777216 l) (hl : l.length < 4611686018427387904) (hn : vl 16777216 l = n) : Av (fun k => spec_l02Trim.f k l) (E n) := by
  have := trim_s h hl
  rw [hn, Int.toNat_natCast] at this
  exact this

/-! ### small -/
theorem small_f (n : Nat) (h : n < 18446744073709551616) : Av (fun k => impl_small.f k n) (D n) := by
  unfold impl_small.f
  refine Av.bind (a := D n) ?_ Av.ret
  rw [ur (by omega) (by omega)]
  exact trim_f' (by intro x hx; simp at hx; subst hx; constructor <;> omega) (by simp) (by simp [vl])

/-! ### comparisons -/
theorem sm_split (B : Int) (f : Nat → Int) (n : Nat) : sm B f (n + 1) = sm B f n + f n * B ^ n := rfl
/-- Digits that agree from place m on: what lies below decides. -/
theorem cmp_digits {B : Nat} (hB : 2 ≤ B) {a b m : Nat} (hab : ∀ j, m < j → a / B ^ j % B = b / B ^ j % B) (hl : a / B ^ m % B < b / B ^ m % B) (hsame : ∃ L, a < B ^ L ∧ b < B ^ L) : a < b := by
  have key : ∀ L, a < B ^ L → b < B ^ L → a / B ^ (m + 1) = b / B ^ (m + 1) := by
    intro L ha hb
    have : ∀ d j, L - j = d → m < j → a / B ^ j = b / B ^ j := by
      intro d
      induction d with
      | zero =>
        intro j hj _
        have hp : B ^ L ≤ B ^ j := Nat.pow_le_pow_right (by omega) (by omega)
        rw [Nat.div_eq_of_lt (by omega), Nat.div_eq_of_lt (by omega)]
      | succ d ih =>
        intro j hj hmj
        have h1 := ih (j + 1) (by omega) (by omega)
        have h2 := hab j hmj
        rw [Nat.pow_succ, ← Nat.div_div_eq_div_mul, ← Nat.div_div_eq_div_mul] at h1
        have e1 := Nat.div_add_mod (a / B ^ j) B
        have e2 := Nat.div_add_mod (b / B ^ j) B
        rw [h1, h2] at e1
        omega
    exact this _ (m + 1) rfl (by omega)
  obtain ⟨L, ha, hb⟩ := hsame
  have h1 := key L ha hb
  rw [Nat.pow_succ, ← Nat.div_div_eq_div_mul, ← Nat.div_div_eq_div_mul] at h1
  have e1 := Nat.div_add_mod (a / B ^ m) B
  have e2 := Nat.div_add_mod (b / B ^ m) B
  rw [h1] at e1
  have h2 : a / B ^ m < b / B ^ m := by omega
  have hp := Nat.pow_pos (n := m) (show 0 < B by omega)
  rcases Nat.lt_or_ge a b with h | h
  · exact h
  · have := Nat.div_le_div_right (c := B ^ m) h
    omega
theorem eq_digits {B : Nat} (hB : 2 ≤ B) {a b : Nat} (hab : ∀ j, a / B ^ j % B = b / B ^ j % B) : a = b := by
  have h1 : dg B a = dg B b := by
    have : ∀ x y : Nat, (∀ j, x / B ^ j % B = y / B ^ j % B) → (dg B x).length ≤ (dg B y).length := by
      intro x y h
      rw [dg_length_le hB]
      rcases Nat.lt_or_ge x (B ^ (dg B y).length) with h1 | h1
      · exact h1
      · exfalso
        have hx : x ≠ 0 := by have := Nat.pow_pos (n := (dg B y).length) (show 0 < B by omega); omega
        have hl := (dg_length_lt hB _ _).2 h1
        have h2 := dg_last hB x hx
        rw [dg_getD hB, h] at h2
        apply h2
        have h3 : y < B ^ ((dg B x).length - 1) := by
          refine Nat.lt_of_lt_of_le ((dg_length_le hB _ _).1 (Nat.le_refl _)) (Nat.pow_le_pow_right (by omega) (by omega))
        rw [Nat.div_eq_of_lt h3]; simp
    have hlen : (dg B a).length = (dg B b).length := Nat.le_antisymm (this a b hab) (this b a (fun j => (hab j).symm))
    apply List.ext_getElem? 
    intro j
    by_cases hj : j < (dg B a).length
    · have e1 := dg_getD hB j a
      have e2 := dg_getD hB j b
      rw [List.getD_eq_getElem?_getD, List.getElem?_eq_getElem hj] at e1
      rw [List.getD_eq_getElem?_getD, List.getElem?_eq_getElem (by omega)] at e2
      rw [List.getElem?_eq_getElem hj, List.getElem?_eq_getElem (by omega)]
      simp only [Option.getD_some] at e1 e2
      rw [e1, e2, hab j]
    · rw [List.getElem?_eq_none (by omega), List.getElem?_eq_none (by omega)]
  have := congrArg (vl B) h1
  rw [vl_dg hB, vl_dg hB] at this
  omega
theorem rd_dg {B : Nat} (hB : 2 ≤ B) (n j : Nat) : rd (dg B n) (j : Int) = ((n / B ^ j % B : Nat) : Int) := by
  unfold rd; rw [Int.toNat_natCast, dg_getD hB]
/-- The sign of a comparison. -/
def sgn (a b : Nat) : Int := if a < b then -1 else if a = b then 0 else 1
theorem len_lt {B : Nat} (hB : 2 ≤ B) {a b : Nat} (h : (dg B a).length < (dg B b).length) : a < b := by
  have h1 := (dg_length_le hB (dg B a).length a).1 (Nat.le_refl _)
  have h2 := (dg_length_lt hB (dg B a).length b).1 h
  omega
/-- What cmp answers: its sign is the comparison's. -/
def cmpv (a b : Nat) : Int := if (D a).length = (D b).length then sgn a b else ((D a).length : Int) - (D b).length
theorem cmpv_neg {a b : Nat} : cmpv a b < 0 ↔ a < b := by
  unfold cmpv sgn
  by_cases h : (D a).length = (D b).length
  · rw [if_pos h]; repeat' split
    all_goals omega
  · rw [if_neg h]
    constructor
    · intro h1; exact len_lt (by decide) (show (D a).length < (D b).length by omega)
    · intro h1
      rcases Nat.lt_or_ge (D a).length (D b).length with h2 | h2
      · omega
      · have := len_lt (by decide) (show (D b).length < (D a).length by omega)
        omega
theorem cmpv_zero {a b : Nat} : cmpv a b = 0 ↔ a = b := by
  unfold cmpv sgn
  by_cases h : (D a).length = (D b).length
  · rw [if_pos h]; repeat' split
    all_goals omega
  · rw [if_neg h]
    constructor
    · intro h1; omega
    · rintro rfl; omega
theorem cmpv_pos {a b : Nat} : 0 < cmpv a b ↔ b < a := by
  have h1 := @cmpv_neg a b
  have h2 := @cmpv_zero a b
  omega
end Go.Proofs.Ytbkcchpcadlkdaa.C
