/- Plain words on numbers: an answer that comes with enough rounds; wraps; the digits of a number to a base, the lowest first. Conditions: those named in each theorem. -/
import Derived.Test.YtbkcchpcadlkdaaOwnWords
set_option linter.unusedVariables false
set_option linter.unusedSimpArgs false
namespace Go.Proofs.Ytbkcchpcadlkdaa.M
open Go.RowKit Go.Proofs.YtbkcchpcadlkdaaW.PrintWords Go.Proofs.YtbkcchpcadlkdaaW.PrintLast Go.Proofs.YtbkcchpcadlkdaaW.PrintMore

/-- With enough rounds g answers r. -/
def Av {α : Type} (g : Nat → Option α) (r : α) : Prop := ∃ k0, ∀ k, k0 ≤ k → g k = some r
theorem Av.pure {α : Type} {g : Nat → Option α} {r : α} (h : ∀ k, g k = some r) : Av g r := ⟨0, fun k _ => h k⟩
theorem Av.ret {α : Type} {r : α} : Av (fun _ => some r) r := ⟨0, fun _ _ => rfl⟩
theorem Av.ret' {α : Type} {r : α} {r' : α} (h : r' = r) : Av (fun _ => some r') r := ⟨0, fun _ _ => by rw [h]⟩
theorem Av.get {α : Type} {g : Nat → Option α} {r : α} (h : Av g r) : ∃ k, g k = some r := let ⟨k, hk⟩ := h; ⟨k, hk k (Nat.le_refl _)⟩
theorem Av.congr {α : Type} {g g' : Nat → Option α} {r : α} (h : ∀ k, g k = g' k) (e : Av g' r) : Av g r := let ⟨k, hk⟩ := e; ⟨k, fun j hj => (h j).trans (hk j hj)⟩
theorem Av.succ {α : Type} {g : Nat → Option α} {r : α} (e : Av (fun k => g (k + 1)) r) : Av g r := by
  obtain ⟨k, hk⟩ := e
  refine ⟨k + 1, fun j hj => ?_⟩
  obtain ⟨m, rfl⟩ : ∃ m, j = m + 1 := ⟨j - 1, by omega⟩
  exact hk m (by omega)
theorem Av.bind {α β : Type} {g : Nat → Option α} {h : Nat → α → Option β} {a : α} {r : β} (ha : Av g a) (hb : Av (fun k => h k a) r) : Av (fun k => (g k).bind (h k)) r := by
  obtain ⟨k1, h1⟩ := ha
  obtain ⟨k2, h2⟩ := hb
  refine ⟨max k1 k2, fun k hk => ?_⟩
  show (g k).bind (h k) = some r
  rw [h1 k (by omega), Option.bind_some]
  exact h2 k (by omega)
theorem Av.bindc {α β : Type} {x : Option α} {h : Nat → α → Option β} {a : α} {r : β} (ha : x = some a) (hb : Av (fun k => h k a) r) : Av (fun k => x.bind (h k)) r := by
  rw [ha]; exact hb
theorem Av.ifp {α : Type} {g : Nat → Option α} {r : α} {h : Nat → Option α} {c : Prop} [Decidable c] (hc : c) (e : Av g r) : Av (fun k => if c then g k else h k) r := by
  simp only [if_pos hc]; exact e
theorem Av.ifn {α : Type} {g : Nat → Option α} {r : α} {h : Nat → Option α} {c : Prop} [Decidable c] (hc : ¬ c) (e : Av h r) : Av (fun k => if c then g k else h k) r := by
  simp only [if_neg hc]; exact e
theorem wr {x : Int} (h0 : -9223372036854775808 ≤ x) (h1 : x < 9223372036854775808) : wrap64 x = x := by unfold wrap64; omega
theorem uw (x : Int) : IntKind.u64.wrap x = x % 18446744073709551616 := by simp [IntKind.wrap, IntKind.bits, IntKind.signed]
theorem ur {x : Int} (h0 : 0 ≤ x) (h1 : x < 18446744073709551616) : IntKind.u64.wrap x = x := by rw [uw]; omega
theorem wf64 {x : Int} (h : (Lit.int .i64 x).wf = true) : -9223372036854775808 ≤ x ∧ x < 9223372036854775808 := by
  simp only [Lit.wf, IntKind.min, IntKind.max, IntKind.signed, IntKind.bits, Bool.and_eq_true, decide_eq_true_eq, if_true] at h
  omega

/-! ### the digits of a number -/
def dgF (B : Nat) : Nat → Nat → List Int
  | 0, _ => []
  | f + 1, n => if n = 0 then [] else ((n % B : Nat) : Int) :: dgF B f (n / B)
/-- The digits of n to the base B, the lowest first; the last one is not 0. -/
def dg (B n : Nat) : List Int := dgF B n n
theorem dgF_enough (B : Nat) (hB : 2 ≤ B) : ∀ (f n : Nat), n ≤ f → dgF B f n = dgF B n n
  | 0, n, h => by obtain rfl : n = 0 := by omega
                  rfl
  | f + 1, 0, h => rfl
  | f + 1, n + 1, h => by
    have hd : (n + 1) / B ≤ n := by
      have : (n + 1) / B < n + 1 := Nat.div_lt_self (by omega) hB
      omega
    simp only [dgF]
    rw [dgF_enough B hB f _ (by omega), dgF_enough B hB n _ hd]
theorem dg_zero (B : Nat) : dg B 0 = [] := rfl
theorem dg_pos {B n : Nat} (hB : 2 ≤ B) (h : n ≠ 0) : dg B n = ((n % B : Nat) : Int) :: dg B (n / B) := by
  obtain ⟨m, rfl⟩ : ∃ m, n = m + 1 := ⟨n - 1, by omega⟩
  have hd : (m + 1) / B ≤ m := by
    have : (m + 1) / B < m + 1 := Nat.div_lt_self (by omega) hB
    omega
  show dgF B (m + 1) (m + 1) = _
  simp only [dgF]
  rw [if_neg (by omega), dgF_enough B hB m _ hd]
  rfl
/-- The value of digits, by Horner. -/
def vl (B : Nat) : List Int → Int
  | [] => 0
  | x :: xs => x + B * vl B xs
def Digs (B : Nat) (l : List Int) : Prop := ∀ x ∈ l, 0 ≤ x ∧ x < B
theorem Digs.cons {B : Nat} {x : Int} {l : List Int} : Digs B (x :: l) ↔ (0 ≤ x ∧ x < B) ∧ Digs B l := by simp [Digs]
theorem digs_dg {B : Nat} (hB : 2 ≤ B) (n : Nat) : Digs B (dg B n) := by
  induction n using Nat.strongRecOn with
  | _ n ih =>
    by_cases h : n = 0
    · subst h; intro x hx; simp [dg_zero] at hx
    · rw [dg_pos hB h, Digs.cons]
      have := Nat.mod_lt n (show 0 < B by omega)
      exact ⟨⟨by omega, by omega⟩, ih _ (Nat.div_lt_self (by omega) hB)⟩
theorem vl_dg {B : Nat} (hB : 2 ≤ B) (n : Nat) : vl B (dg B n) = n := by
  induction n using Nat.strongRecOn with
  | _ n ih =>
    by_cases h : n = 0
    · subst h; rfl
    · rw [dg_pos hB h]
      simp only [vl]
      rw [ih _ (Nat.div_lt_self (by omega) hB)]
      have := Nat.div_add_mod n B
      have h2 : ((B * (n / B) + n % B : Nat) : Int) = (n : Int) := by rw [this]
      simp only [Int.natCast_add, Int.natCast_mul] at h2
      omega
theorem vl_bound {B : Nat} (hB : 2 ≤ B) : ∀ {l : List Int}, Digs B l → 0 ≤ vl B l ∧ vl B l < (B : Int) ^ l.length
  | [], _ => by simp [vl]
  | x :: xs, h => by
    obtain ⟨hx, hs⟩ := Digs.cons.1 h
    have ih := vl_bound hB hs
    simp only [vl, List.length_cons]
    have hb : (0 : Int) ≤ B := by omega
    constructor
    · have := Int.mul_nonneg hb ih.1
      omega
    · have h1 : vl B xs + 1 ≤ (B : Int) ^ xs.length := by omega
      have h2 := Int.mul_le_mul_of_nonneg_left h1 hb
      rw [Int.mul_add, Int.mul_one] at h2
      have h3 : (B : Int) ^ (xs.length + 1) = B * B ^ xs.length := by rw [Int.pow_succ, Int.mul_comm]
      omega
/-- Digits whose last one is not 0 are the digits of their value. -/
theorem dg_unique {B : Nat} (hB : 2 ≤ B) : ∀ {l : List Int}, Digs B l → (∀ h : l ≠ [], l.getLast h ≠ 0) → l = dg B (vl B l).toNat
  | [], _, _ => rfl
  | x :: xs, h, hl => by
    obtain ⟨hx, hs⟩ := Digs.cons.1 h
    have hb : (0 : Int) ≤ B := by omega
    have ih := dg_unique hB hs (fun hne => by have := hl (by simp); rwa [List.getLast_cons hne] at this)
    have hv := vl_bound hB hs
    obtain ⟨m, hm⟩ := Int.eq_ofNat_of_zero_le hv.1
    obtain ⟨d, rfl⟩ := Int.eq_ofNat_of_zero_le hx.1
    rw [hm] at ih
    simp only [Int.toNat_natCast] at ih
    have hval : vl B ((d : Int) :: xs) = ((d + B * m : Nat) : Int) := by simp only [vl, hm]; simp
    rw [hval, Int.toNat_natCast]
    have hd : d < B := by omega
    have hne : d + B * m ≠ 0 := by
      intro h0
      have hd0 : d = 0 := by omega
      have hm0 : m = 0 := by
        rcases Nat.eq_zero_or_pos m with h1 | h1
        · exact h1
        · have := Nat.mul_pos (show 0 < B by omega) h1
          omega
      subst hd0; subst hm0
      rw [dg_zero] at ih
      subst ih
      exact hl (by simp) (by simp)
    rw [dg_pos hB hne]
    have e1 : (d + B * m) % B = d := by rw [Nat.add_mul_mod_self_left]; exact Nat.mod_eq_of_lt hd
    have e2 : (d + B * m) / B = m := by rw [Nat.add_mul_div_left _ _ (by omega), Nat.div_eq_of_lt hd]; omega
    rw [e1, e2, ← ih]
theorem dg_getD {B : Nat} (hB : 2 ≤ B) : ∀ (j n : Nat), (dg B n).getD j 0 = ((n / B ^ j % B : Nat) : Int)
  | j, 0 => by simp [dg_zero]
  | 0, n + 1 => by rw [dg_pos hB (by omega)]; simp
  | j + 1, n + 1 => by
    rw [dg_pos hB (by omega)]
    simp only [List.getD_cons_succ]
    rw [dg_getD hB j, Nat.div_div_eq_div_mul, Nat.pow_succ, Nat.mul_comm B]
theorem dg_length_lt {B : Nat} (hB : 2 ≤ B) : ∀ (j n : Nat), j < (dg B n).length ↔ B ^ j ≤ n
  | j, 0 => by
    have := Nat.pow_pos (n := j) (show 0 < B by omega)
    simp [dg_zero]
    omega
  | 0, n + 1 => by rw [dg_pos hB (by omega)]; simp
  | j + 1, n + 1 => by
    rw [dg_pos hB (by omega)]
    simp only [List.length_cons, Nat.add_lt_add_iff_right]
    rw [dg_length_lt hB j, Nat.le_div_iff_mul_le (by omega), ← Nat.pow_succ]
theorem dg_length_le {B : Nat} (hB : 2 ≤ B) (j n : Nat) : (dg B n).length ≤ j ↔ n < B ^ j := by
  have := dg_length_lt hB j n
  omega
theorem dg_nil {B n : Nat} (hB : 2 ≤ B) : dg B n = [] ↔ n = 0 := by
  constructor
  · intro h
    by_cases h0 : n = 0
    · exact h0
    · rw [dg_pos hB h0] at h; cases h
  · rintro rfl; rfl
theorem dg_last {B : Nat} (hB : 2 ≤ B) (n : Nat) (h : n ≠ 0) : (dg B n).getD ((dg B n).length - 1) 0 ≠ 0 := by
  have hl : 0 < (dg B n).length := by rw [dg_length_lt hB]; simp; omega
  have h1 : B ^ ((dg B n).length - 1) ≤ n := by rw [← dg_length_lt hB]; omega
  have h2 : n < B ^ (dg B n).length := (dg_length_le hB _ _).1 (Nat.le_refl _)
  rw [dg_getD hB]
  have hp := Nat.pow_pos (n := (dg B n).length - 1) (show 0 < B by omega)
  have h3 : n / B ^ ((dg B n).length - 1) < B := by
    rw [Nat.div_lt_iff_lt_mul hp]
    have : (dg B n).length = (dg B n).length - 1 + 1 := by omega
    rw [this, Nat.pow_succ, Nat.mul_comm] at h2
    exact h2
  rw [Nat.mod_eq_of_lt h3]
  have := (Nat.le_div_iff_mul_le (k := B ^ ((dg B n).length - 1)) (x := 1) (y := n) hp).2 (by omega)
  omega

/-! ### sums of digits -/
/-- f 0 + f 1 B + .. + f (n - 1) B ^ (n - 1). -/
def sm (B : Int) (f : Nat → Int) : Nat → Int
  | 0 => 0
  | n + 1 => sm B f n + f n * B ^ n
theorem sm_congr {B : Int} {f g : Nat → Int} : ∀ {n : Nat}, (∀ j, j < n → f j = g j) → sm B f n = sm B g n
  | 0, _ => rfl
  | n + 1, h => by simp only [sm]; rw [sm_congr (fun j hj => h j (by omega)), h n (by omega)]
theorem sm_front (B : Int) (f : Nat → Int) : ∀ n, sm B f (n + 1) = f 0 + B * sm B (fun j => f (j + 1)) n
  | 0 => by simp [sm]
  | n + 1 => by
    have ih := sm_front B f n
    rw [sm, ih]
    simp only [sm]
    rw [Int.pow_succ]
    grind
theorem sm_getD (B : Nat) : ∀ (l : List Int), sm B (fun j => l.getD j 0) l.length = vl B l
  | [] => rfl
  | x :: xs => by
    rw [List.length_cons, sm_front]
    simp only [List.getD_cons_zero, List.getD_cons_succ, vl]
    rw [sm_getD B xs]
theorem sm_zero_above {B : Int} {f : Nat → Int} {n : Nat} : ∀ {m : Nat}, n ≤ m → (∀ j, n ≤ j → j < m → f j = 0) → sm B f m = sm B f n
  | 0, h, _ => by obtain rfl : n = 0 := by omega
                  rfl
  | m + 1, h, h0 => by
    by_cases hn : n = m + 1
    · subst hn; rfl
    · rw [sm, h0 m (by omega) (by omega), sm_zero_above (by omega) (fun j h1 h2 => h0 j h1 (by omega))]
      simp
theorem sm_dg {B : Nat} (hB : 2 ≤ B) (n L : Nat) (h : n < B ^ L) : sm B (fun j => (dg B n).getD j 0) L = n := by
  have hl := (dg_length_le hB L n).2 h
  rw [sm_zero_above hl (fun j h1 h2 => by rw [List.getD_eq_getElem?_getD, List.getElem?_eq_none h1]; rfl), sm_getD, vl_dg hB]
theorem sm_bound {B : Nat} (hB : 2 ≤ B) {f : Nat → Int} : ∀ {n : Nat}, (∀ j, j < n → 0 ≤ f j ∧ f j < B) → 0 ≤ sm B f n ∧ sm B f n < (B : Int) ^ n
  | 0, _ => by simp [sm]
  | n + 1, h => by
    have ih := sm_bound hB (f := f) (n := n) (fun j hj => h j (by omega))
    have hf := h n (by omega)
    have hp : (0 : Int) ≤ (B : Int) ^ n := Int.pow_nonneg (by omega)
    simp only [sm]
    constructor
    · have := Int.mul_nonneg hf.1 hp; omega
    · have h1 : f n + 1 ≤ (B : Int) := by omega
      have h2 := Int.mul_le_mul_of_nonneg_right h1 hp
      have h3 : (B : Int) ^ (n + 1) = B * B ^ n := by rw [Int.pow_succ, Int.mul_comm]
      grind
/-- Digits in range, of whatever length, and without zeros at the end, are told by their sum. -/
theorem list_is_dg {B : Nat} (hB : 2 ≤ B) {l : List Int} (h : Digs B l) (hl : ∀ h : l ≠ [], l.getLast h ≠ 0) {n : Nat} (hn : vl B l = n) : l = dg B n := by
  have := dg_unique hB h hl
  rw [hn] at this
  exact this
end Go.Proofs.Ytbkcchpcadlkdaa.M
