/- Words and contracts that the laws of this claim lean on: numbers as limbs, and what the functions make of them. Conditions: those named in each theorem. -/
import Derived.Test.YtohfimjpfnnpgaaVHOwnWords
import Derived.Test.YtohfimjpfnnpgaaZH0
import Derived.Test.YtohfimjpfnnpgaaZH1
import Derived.Test.YtohfimjpfnnpgaaZH4
set_option linter.unusedVariables false
set_option linter.unusedSimpArgs false
set_option maxRecDepth 100000
namespace Go.Proofs.Ytohfimjpfnnpgaa.M
open Go.RowKit Go.Proofs.YtohfimjpfnnpgaaW.PrintWords Go.Proofs.YtohfimjpfnnpgaaW.PrintLast Go.Proofs.YtohfimjpfnnpgaaW.PrintMore
/-- With enough rounds g answers r. -/
def Av {α : Type} (g : Nat → Option α) (r : α) : Prop := ∃ k0, ∀ k, k0 ≤ k → g k = some r
theorem Av.pure {α : Type} {g : Nat → Option α} {r : α} (h : ∀ k, g k = some r) : Av g r := ⟨0, fun k _ => h k⟩
theorem Av.ret {α : Type} {r : α} : Av (fun _ => some r) r := ⟨0, fun _ _ => rfl⟩
theorem Av.ret' {α : Type} {r : α} {r' : α} (h : r' = r) : Av (fun _ => some r') r := ⟨0, fun _ _ => by rw [h]⟩
theorem Av.get {α : Type} {g : Nat → Option α} {r : α} (h : Av g r) : ∃ k, g k = some r := let ⟨k, hk⟩ := h; ⟨k, hk k (Nat.le_refl _)⟩
theorem Av.congr {α : Type} {g g' : Nat → Option α} {r : α} (h : ∀ k, g k = g' k) (e : Av g' r) : Av g r := let ⟨k, hk⟩ := e; ⟨k, fun j hj => (h j).trans (hk j hj)⟩
theorem Av.succ {α : Type} {g : Nat → Option α} {r : α} (e : Av (fun k => g (k + 1)) r) : Av g r := by
  obtain ⟨k, hk⟩ := e
  refine ⟨k + 1, fun j hj => ?_⟩
  obtain ⟨m, rfl⟩ : ∃ m, j = m + 1 := ⟨j - 1, by omega⟩
  exact hk m (by omega)
theorem Av.bind {α β : Type} {g : Nat → Option α} {h : Nat → α → Option β} {a : α} {r : β} (ha : Av g a) (hb : Av (fun k => h k a) r) : Av (fun k => (g k).bind (h k)) r := by
  obtain ⟨k1, h1⟩ := ha
  obtain ⟨k2, h2⟩ := hb
  refine ⟨max k1 k2, fun k hk => ?_⟩
  show (g k).bind (h k) = some r
  rw [h1 k (by omega), Option.bind_some]
  exact h2 k (by omega)
theorem Av.bindc {α β : Type} {x : Option α} {h : Nat → α → Option β} {a : α} {r : β} (ha : x = some a) (hb : Av (fun k => h k a) r) : Av (fun k => x.bind (h k)) r := by
  rw [ha]; exact hb
theorem Av.ifp {α : Type} {g : Nat → Option α} {r : α} {h : Nat → Option α} {c : Prop} [Decidable c] (hc : c) (e : Av g r) : Av (fun k => if c then g k else h k) r := by
  simp only [if_pos hc]; exact e
theorem Av.ifn {α : Type} {g : Nat → Option α} {r : α} {h : Nat → Option α} {c : Prop} [Decidable c] (hc : ¬ c) (e : Av h r) : Av (fun k => if c then g k else h k) r := by
  simp only [if_neg hc]; exact e
theorem wr {x : Int} (h0 : -9223372036854775808 ≤ x) (h1 : x < 9223372036854775808) : wrap64 x = x := by unfold wrap64; omega
theorem uw (x : Int) : IntKind.u64.wrap x = x % 18446744073709551616 := by simp [IntKind.wrap, IntKind.bits, IntKind.signed]
theorem ur {x : Int} (h0 : 0 ≤ x) (h1 : x < 18446744073709551616) : IntKind.u64.wrap x = x := by rw [uw]; omega
def dgF (B : Nat) : Nat → Nat → List Int
  | 0, _ => []
  | f + 1, n => if n = 0 then [] else ((n % B : Nat) : Int) :: dgF B f (n / B)
/-- The digits of n to the base B, the lowest first; the last one is not 0. -/
def dg (B n : Nat) : List Int := dgF B n n
theorem dgF_enough (B : Nat) (hB : 2 ≤ B) : ∀ (f n : Nat), n ≤ f → dgF B f n = dgF B n n
  | 0, n, h => by obtain rfl : n = 0 := by omega
                  rfl
  | f + 1, 0, h => rfl
  | f + 1, n + 1, h => by
    have hd : (n + 1) / B ≤ n := by
      have : (n + 1) / B < n + 1 := Nat.div_lt_self (by omega) hB
      omega
    simp only [dgF]
    rw [dgF_enough B hB f _ (by omega), dgF_enough B hB n _ hd]
theorem dg_zero (B : Nat) : dg B 0 = [] := rfl
theorem dg_pos {B n : Nat} (hB : 2 ≤ B) (h : n ≠ 0) : dg B n = ((n % B : Nat) : Int) :: dg B (n / B) := by
  obtain ⟨m, rfl⟩ : ∃ m, n = m + 1 := ⟨n - 1, by omega⟩
  have hd : (m + 1) / B ≤ m := by
    have : (m + 1) / B < m + 1 := Nat.div_lt_self (by omega) hB
    omega
  show dgF B (m + 1) (m + 1) = _
  simp only [dgF]
  rw [if_neg (by omega), dgF_enough B hB m _ hd]
  rfl
/-- The value of digits, by Horner. -/
def vl (B : Nat) : List Int → Int
  | [] => 0
  | x :: xs => x + B * vl B xs
def Digs (B : Nat) (l : List Int) : Prop := ∀ x ∈ l, 0 ≤ x ∧ x < B
theorem Digs.cons {B : Nat} {x : Int} {l : List Int} : Digs B (x :: l) ↔ (0 ≤ x ∧ x < B) ∧ Digs B l := by simp [Digs]
theorem digs_dg {B : Nat} (hB : 2 ≤ B) (n : Nat) : Digs B (dg B n) := by
  induction n using Nat.strongRecOn with
  | _ n ih =>
    by_cases h : n = 0
    · subst h; intro x hx; simp [dg_zero] at hx
    · rw [dg_pos hB h, Digs.cons]
      have := Nat.mod_lt n (show 0 < B by omega)
      exact ⟨⟨by omega, by omega⟩, ih _ (Nat.div_lt_self (by omega) hB)⟩
theorem vl_dg {B : Nat} (hB : 2 ≤ B) (n : Nat) : vl B (dg B n) = n := by
  induction n using Nat.strongRecOn with
  | _ n ih =>
    by_cases h : n = 0
    · subst h; rfl
    · rw [dg_pos hB h]
      simp only [vl]
      rw [ih _ (Nat.div_lt_self (by omega) hB)]
      have := Nat.div_add_mod n B
      have h2 : ((B * (n / B) + n % B : Nat) : Int) = (n : Int) := by rw [this]
      simp only [Int.natCast_add, Int.natCast_mul] at h2
      omega
theorem vl_bound {B : Nat} (hB : 2 ≤ B) : ∀ {l : List Int}, Digs B l → 0 ≤ vl B l ∧ vl B l < (B : Int) ^ l.length
  | [], _ => by simp [vl]
  | x :: xs, h => by
    obtain ⟨hx, hs⟩ := Digs.cons.1 h
    have ih := vl_bound hB hs
    simp only [vl, List.length_cons]
    have hb : (0 : Int) ≤ B := by omega
    constructor
    · have := Int.mul_nonneg hb ih.1
      omega
    · have h1 : vl B xs + 1 ≤ (B : Int) ^ xs.length := by omega
      have h2 := Int.mul_le_mul_of_nonneg_left h1 hb
      rw [Int.mul_add, Int.mul_one] at h2
      have h3 : (B : Int) ^ (xs.length + 1) = B * B ^ xs.length := by rw [Int.pow_succ, Int.mul_comm]
      omega
/-- Digits whose last one is not 0 are the digits of their value. -/
theorem dg_unique {B : Nat} (hB : 2 ≤ B) : ∀ {l : List Int}, Digs B l → (∀ h : l ≠ [], l.getLast h ≠ 0) → l = dg B (vl B l).toNat
  | [], _, _ => rfl
  | x :: xs, h, hl => by
    obtain ⟨hx, hs⟩ := Digs.cons.1 h
    have hb : (0 : Int) ≤ B := by omega
    have ih := dg_unique hB hs (fun hne => by have := hl (by simp); rwa [List.getLast_cons hne] at this)
    have hv := vl_bound hB hs
    obtain ⟨m, hm⟩ := Int.eq_ofNat_of_zero_le hv.1
    obtain ⟨d, rfl⟩ := Int.eq_ofNat_of_zero_le hx.1
    rw [hm] at ih
    simp only [Int.toNat_natCast] at ih
    have hval : vl B ((d : Int) :: xs) = ((d + B * m : Nat) : Int) := by simp only [vl, hm]; simp
    rw [hval, Int.toNat_natCast]
    have hd : d < B := by omega
    have hne : d + B * m ≠ 0 := by
      intro h0
      have hd0 : d = 0 := by omega
      have hm0 : m = 0 := by
        rcases Nat.eq_zero_or_pos m with h1 | h1
        · exact h1
        · have := Nat.mul_pos (show 0 < B by omega) h1
          omega
      subst hd0; subst hm0
      rw [dg_zero] at ih
      subst ih
      exact hl (by simp) (by simp)
    rw [dg_pos hB hne]
    have e1 : (d + B * m) % B = d := by rw [Nat.add_mul_mod_self_left]; exact Nat.mod_eq_of_lt hd
    have e2 : (d + B * m) / B = m := by rw [Nat.add_mul_div_left _ _ (by omega), Nat.div_eq_of_lt hd]; omega
    rw [e1, e2, ← ih]
theorem dg_getD {B : Nat} (hB : 2 ≤ B) : ∀ (j n : Nat), (dg B n).getD j 0 = ((n / B ^ j % B : Nat) : Int)
  | j, 0 => by simp [dg_zero]
  | 0, n + 1 => by rw [dg_pos hB (by omega)]; simp
  | j + 1, n + 1 => by
    rw [dg_pos hB (by omega)]
    simp only [List.getD_cons_succ]
    rw [dg_getD hB j, Nat.div_div_eq_div_mul, Nat.pow_succ, Nat.mul_comm B]
theorem dg_length_lt {B : Nat} (hB : 2 ≤ B) : ∀ (j n : Nat), j < (dg B n).length ↔ B ^ j ≤ n
  | j, 0 => by
    have := Nat.pow_pos (n := j) (show 0 < B by omega)
    simp [dg_zero]
    omega
  | 0, n + 1 => by rw [dg_pos hB (by omega)]; simp
  | j + 1, n + 1 => by
    rw [dg_pos hB (by omega)]
    simp only [List.length_cons, Nat.add_lt_add_iff_right]
    rw [dg_length_lt hB j, Nat.le_div_iff_mul_le (by omega), ← Nat.pow_succ]
theorem dg_length_le {B : Nat} (hB : 2 ≤ B) (j n : Nat) : (dg B n).length ≤ j ↔ n < B ^ j := by
  have := dg_length_lt hB j n
  omega
theorem dg_last {B : Nat} (hB : 2 ≤ B) (n : Nat) (h : n ≠ 0) : (dg B n).getD ((dg B n).length - 1) 0 ≠ 0 := by
  have hl : 0 < (dg B n).length := by rw [dg_length_lt hB]; simp; omega
  have h1 : B ^ ((dg B n).length - 1) ≤ n := by rw [← dg_length_lt hB]; omega
  have h2 : n < B ^ (dg B n).length := (dg_length_le hB _ _).1 (Nat.le_refl _)
  rw [dg_getD hB]
  have hp := Nat.pow_pos (n := (dg B n).length - 1) (show 0 < B by omega)
  have h3 : n / B ^ ((dg B n).length - 1) < B := by
    rw [Nat.div_lt_iff_lt_mul hp]
    have : (dg B n).length = (dg B n).length - 1 + 1 := by omega
    rw [this, Nat.pow_succ, Nat.mul_comm] at h2
    exact h2
  rw [Nat.mod_eq_of_lt h3]
  have := (Nat.le_div_iff_mul_le (k := B ^ ((dg B n).length - 1)) (x := 1) (y := n) hp).2 (by omega)
  omega
/-- f 0 + f 1 B + .. + f (n - 1) B ^ (n - 1). -/
def sm (B : Int) (f : Nat → Int) : Nat → Int
  | 0 => 0
  | n + 1 => sm B f n + f n * B ^ n
theorem sm_congr {B : Int} {f g : Nat → Int} : ∀ {n : Nat}, (∀ j, j < n → f j = g j) → sm B f n = sm B g n
  | 0, _ => rfl
  | n + 1, h => by simp only [sm]; rw [sm_congr (fun j hj => h j (by omega)), h n (by omega)]
theorem sm_front (B : Int) (f : Nat → Int) : ∀ n, sm B f (n + 1) = f 0 + B * sm B (fun j => f (j + 1)) n
  | 0 => by simp [sm]
  | n + 1 => by
    have ih := sm_front B f n
    rw [sm, ih]
    simp only [sm]
    rw [Int.pow_succ]
    grind
theorem sm_getD (B : Nat) : ∀ (l : List Int), sm B (fun j => l.getD j 0) l.length = vl B l
  | [] => rfl
  | x :: xs => by
    rw [List.length_cons, sm_front]
    simp only [List.getD_cons_zero, List.getD_cons_succ, vl]
    rw [sm_getD B xs]
theorem sm_zero_above {B : Int} {f : Nat → Int} {n : Nat} : ∀ {m : Nat}, n ≤ m → (∀ j, n ≤ j → j < m → f j = 0) → sm B f m = sm B f n
  | 0, h, _ => by obtain rfl : n = 0 := by omega
                  rfl
  | m + 1, h, h0 => by
    by_cases hn : n = m + 1
    · subst hn; rfl
    · rw [sm, h0 m (by omega) (by omega), sm_zero_above (by omega) (fun j h1 h2 => h0 j h1 (by omega))]
      simp
theorem sm_dg {B : Nat} (hB : 2 ≤ B) (n L : Nat) (h : n < B ^ L) : sm B (fun j => (dg B n).getD j 0) L = n := by
  have hl := (dg_length_le hB L n).2 h
  rw [sm_zero_above hl (fun j h1 h2 => by rw [List.getD_eq_getElem?_getD, List.getElem?_eq_none h1]; rfl), sm_getD, vl_dg hB]
/-- Digits in range, of whatever length, and without zeros at the end, are told by their sum. -/
theorem list_is_dg {B : Nat} (hB : 2 ≤ B) {l : List Int} (h : Digs B l) (hl : ∀ h : l ≠ [], l.getLast h ≠ 0) {n : Nat} (hn : vl B l = n) : l = dg B n := by
  have := dg_unique hB h hl
  rw [hn] at this
  exact this
theorem digs_append {B : Nat} {a b : List Int} : Digs B (a ++ b) ↔ Digs B a ∧ Digs B b := by
  unfold Digs; simp only [List.mem_append]
  exact ⟨fun h => ⟨fun x hx => h x (.inl hx), fun x hx => h x (.inr hx)⟩, fun h x hx => hx.elim (h.1 x) (h.2 x)⟩
theorem digs_reverse {B : Nat} {a : List Int} : Digs B a.reverse ↔ Digs B a := by unfold Digs; simp
theorem digs_take {B : Nat} {a : List Int} (h : Digs B a) (n : Nat) : Digs B (a.take n) := fun x hx => h x (List.mem_of_mem_take hx)
theorem digs_getD {B : Nat} {a : List Int} (h : Digs B a) (hB : 0 < B) (j : Nat) : 0 ≤ a.getD j 0 ∧ a.getD j 0 < B := by
  by_cases hj : j < a.length
  · rw [List.getD_eq_getElem?_getD, List.getElem?_eq_getElem hj]
    exact h _ (List.getElem_mem hj)
  · rw [List.getD_eq_getElem?_getD, List.getElem?_eq_none (by omega)]
    exact ⟨Int.le_refl _, by simpa using hB⟩
theorem vl_append (B : Nat) : ∀ (a b : List Int), vl B (a ++ b) = vl B a + B ^ a.length * vl B b
  | [], b => by simp [vl]
  | x :: xs, b => by
    simp only [List.cons_append, vl, List.length_cons]
    rw [vl_append B xs b, Int.pow_succ]
    grind
theorem vl_snoc (B : Nat) (a : List Int) (x : Int) : vl B (a ++ [x]) = vl B a + B ^ a.length * x := by
  rw [vl_append]; simp [vl]
theorem vl_of_getD {B : Nat} (hB : 2 ≤ B) {l : List Int} {n : Nat} (hn : n < B ^ l.length) (h : ∀ j, j < l.length → l.getD j 0 = ((n / B ^ j % B : Nat) : Int)) : vl B l = n := by
  rw [← sm_getD, ← sm_dg hB n l.length hn]
  exact sm_congr (fun j hj => by rw [h j hj, dg_getD hB])
theorem mem_bytesOf {s : ByteArray} {x : Int} (h : x ∈ bytesOf s) : 0 ≤ x ∧ x < 256 := by
  unfold bytesOf at h
  obtain ⟨b, _, rfl⟩ := List.mem_map.1 h
  have := b.toNat_lt
  omega
theorem digs_bytesOf (s : ByteArray) : Digs 256 (bytesOf s) := fun x hx => mem_bytesOf hx
theorem bytesOf_strOfNums {xs : List Int} (h : Digs 256 xs) : bytesOf (strOfNums xs) = xs := by
  unfold bytesOf
  rw [strOfNums_data, List.map_map]
  conv => rhs; rw [← List.map_id xs]
  apply List.map_congr_left
  intro x hx
  have := h x hx
  simp only [Function.comp, id]
  have h2 : x.toNat < 256 := by omega
  have : (UInt8.ofNat x.toNat).toNat = x.toNat := by simp [UInt8.toNat_ofNat, Nat.mod_eq_of_lt h2]
  rw [this]; omega
theorem strOfNums_bytesOf (s : ByteArray) : strOfNums (bytesOf s) = s := by
  have h : (strOfNums (bytesOf s)).data.toList = s.data.toList := by
    rw [strOfNums_data]
    unfold bytesOf
    rw [List.map_map]
    conv => rhs; rw [← List.map_id s.data.toList]
    apply List.map_congr_left
    intro b _
    simp
  obtain ⟨⟨l⟩⟩ := s
  have h2 := congrArg List.toArray h
  simp only [Array.toArray_toList] at h2
  generalize hq : strOfNums (bytesOf (ByteArray.mk ⟨l⟩)) = q at h2
  obtain ⟨d⟩ := q
  simp only at h2
  rw [h2]
theorem bytesOf_inj {s t : ByteArray} (h : bytesOf s = bytesOf t) : s = t := by rw [← strOfNums_bytesOf s, h, strOfNums_bytesOf]
theorem toList_loop (s : ByteArray) : ∀ (n i : Nat) (r : List UInt8), n = s.size - i → ByteArray.toList.loop s i r = r.reverse ++ s.data.toList.drop i
  | 0, i, r, h => by
    unfold ByteArray.toList.loop
    rw [if_neg (by omega), List.drop_of_length_le (by rw [data_length]; omega), List.append_nil]
  | n + 1, i, r, h => by
    unfold ByteArray.toList.loop
    have hi : i < s.size := by omega
    have hl : i < s.data.toList.length := by rw [data_length]; exact hi
    rw [if_pos hi, toList_loop s n (i + 1) _ (by omega), List.drop_eq_getElem_cons hl]
    have e : s.get! i = s.data.toList[i] := by
      have h2 : i < s.data.size := hi
      simp only [ByteArray.get!]
      rw [getElem!_pos s.data i h2]
      simp
    rw [e]
    simp
theorem toList_data (s : ByteArray) : s.toList = s.data.toList := by
  unfold ByteArray.toList
  rw [toList_loop s s.size 0 [] (by omega)]
  simp
theorem toList_nil_iff {s : ByteArray} : s.toList = ([] : List UInt8) ↔ s.size = 0 := by
  rw [toList_data, ← data_length]
  constructor
  · intro h; rw [h]; rfl
  · exact List.eq_nil_of_length_eq_zero
/-- The number of a text's bytes, the highest first. -/
def bv (s : ByteArray) : Nat := (vl 256 (bytesOf s).reverse).toNat
/-- The text of a number: its bytes, the highest first, none of them 0 ahead. -/
def bts (n : Nat) : ByteArray := strOfNums (dg 256 n).reverse
theorem bv_val (s : ByteArray) : vl 256 (bytesOf s).reverse = bv s := by
  have := (vl_bound (B := 256) (by decide) (digs_reverse.2 (digs_bytesOf s))).1
  unfold bv; omega
theorem bv_lt (s : ByteArray) : bv s < 256 ^ s.size := by
  have h := (vl_bound (B := 256) (by decide) (digs_reverse.2 (digs_bytesOf s))).2
  rw [bv_val, List.length_reverse, bytesOf_length] at h
  have : ((bv s : Nat) : Int) < ((256 ^ s.size : Nat) : Int) := by rw [Int.natCast_pow]; exact h
  omega
theorem bytesOf_bts (n : Nat) : bytesOf (bts n) = (dg 256 n).reverse := bytesOf_strOfNums (digs_reverse.2 (digs_dg (by decide) n))
theorem bts_size (n : Nat) : (bts n).size = (dg 256 n).length := by rw [← bytesOf_length, bytesOf_bts, List.length_reverse]
theorem bv_bts (n : Nat) : bv (bts n) = n := by
  unfold bv
  rw [bytesOf_bts, List.reverse_reverse, vl_dg (by decide)]; rfl
theorem bts_size_le (n j : Nat) : (bts n).size ≤ j ↔ n < 256 ^ j := by rw [bts_size, dg_length_le (by decide)]
theorem bts_size_lt (n j : Nat) : j < (bts n).size ↔ 256 ^ j ≤ n := by rw [bts_size, dg_length_lt (by decide)]
/-- Byte i of a text of a number. -/
theorem bt_rev (s : ByteArray) (j : Nat) (h : j < s.size) : bt s ((s.size : Int) - 1 - j) = ((bv s / 256 ^ j % 256 : Nat) : Int) := by
  have hb := digs_reverse.2 (digs_bytesOf s)
  have hd : ∀ (l : List Int) (j : Nat), Digs 256 l → l.getD j 0 = (((vl 256 l).toNat / 256 ^ j % 256 : Nat) : Int) := by
    intro l
    induction l with
    | nil => intro j _; simp [vl]
    | cons x xs ih =>
      intro j hx
      obtain ⟨h1, h2⟩ := Digs.cons.1 hx
      have hv := (vl_bound (B := 256) (by decide) h2).1
      cases j with
      | zero => simp only [List.getD_cons_zero, vl, Nat.pow_zero, Nat.div_one]; omega
      | succ j =>
        simp only [List.getD_cons_succ, vl]
        rw [ih j h2, Nat.pow_succ, Nat.mul_comm, ← Nat.div_div_eq_div_mul]
        have : (x + ((256 : Nat) : Int) * vl 256 xs).toNat / 256 = (vl 256 xs).toNat := by omega
        rw [this]
  have := hd _ j hb
  rw [← rd_bytesOf]
  unfold rd bv
  rw [← this]
  have hlen := bytesOf_length s
  rw [List.getD_eq_getElem?_getD, List.getD_eq_getElem?_getD, List.getElem?_reverse (by omega)]
  have e : ((s.size : Int) - 1 - j).toNat = (bytesOf s).length - 1 - j := by omega
  rw [e]
theorem bt_first (s : ByteArray) (h : 0 < s.size) : bt s 0 = ((bv s / 256 ^ (s.size - 1) : Nat) : Int) := by
  have h1 := bt_rev s (s.size - 1) (by omega)
  have e : (s.size : Int) - 1 - ((s.size - 1 : Nat) : Int) = 0 := by omega
  rw [e] at h1
  rw [h1]
  have h2 := bv_lt s
  have h3 : bv s / 256 ^ (s.size - 1) < 256 := by
    rw [Nat.div_lt_iff_lt_mul (Nat.pow_pos (by decide))]
    have : s.size = s.size - 1 + 1 := by omega
    rw [this, Nat.pow_succ, Nat.mul_comm] at h2
    exact h2
  rw [Nat.mod_eq_of_lt h3]
/-- A text without a byte 0 ahead is the text of its number. -/
theorem bts_bv (s : ByteArray) (h : 0 < s.size → bt s 0 ≠ 0) : bts (bv s) = s := by
  apply bytesOf_inj
  rw [bytesOf_bts, ← List.reverse_reverse (bytesOf s)]
  congr 1
  symm
  apply list_is_dg (by decide) (digs_reverse.2 (digs_bytesOf s)) ?_ (bv_val s)
  intro hne
  rw [List.getLast_reverse]
  have hl := bytesOf_length s
  have hpos : 0 < (bytesOf s).length := by
    rcases Nat.eq_zero_or_pos (bytesOf s).length with h0 | h0
    · exfalso; apply hne; rw [List.eq_nil_of_length_eq_zero h0]; rfl
    · exact h0
  have h1 := h (by omega)
  rw [← rd_bytesOf] at h1
  unfold rd at h1
  rw [List.head_eq_getElem]
  rw [List.getD_eq_getElem?_getD, List.getElem?_eq_getElem (by simpa using hpos)] at h1
  exact h1
/-- Is a text a great number? -/
def gok (s : ByteArray) : Bool := decide (s.size ≤ 160) && (decide (s.size = 0) || decide (bt s 0 ≠ 0))
theorem gok_iff {s : ByteArray} : gok s = true ↔ s.size ≤ 160 ∧ (s.size = 0 ∨ bt s 0 ≠ 0) := by simp [gok]
/-- The bound of great numbers. -/
def GB : Nat := 256 ^ 160
theorem gok_bts {n : Nat} : gok (bts n) = true ↔ n < GB := by
  rw [gok_iff, bts_size_le]
  constructor
  · exact fun h => h.1
  · intro h
    refine ⟨h, ?_⟩
    by_cases h0 : n = 0
    · left; subst h0; rfl
    · right
      have hp : 0 < (bts n).size := by rw [bts_size_lt]; simp; omega
      rw [bt_first _ hp, bv_bts]
      have h1 : 256 ^ ((bts n).size - 1) ≤ n := by rw [← bts_size_lt]; omega
      have := Nat.div_pos h1 (Nat.pow_pos (by decide))
      omega
/-- A great number is the text of a number below the bound. -/
theorem gok_cases {s : ByteArray} (h : gok s = true) : ∃ n, n < GB ∧ s = bts n := by
  obtain ⟨h1, h2⟩ := gok_iff.1 h
  have e := bts_bv s (fun hp => by rcases h2 with h2 | h2; · omega
                                   · exact h2)
  exact ⟨bv s, by rw [← gok_bts, e]; exact h, e.symm⟩
end Go.Proofs.Ytohfimjpfnnpgaa.M
namespace Go.Proofs.Ytohfimjpfnnpgaa.C
open Go.RowKit Go.Proofs.YtohfimjpfnnpgaaW.PrintWords Go.Proofs.YtohfimjpfnnpgaaW.PrintLast Go.Proofs.YtohfimjpfnnpgaaW.PrintMore
open Go.Proofs.Ytohfimjpfnnpgaa.M Go.Proofs.Ytohfimjpfnnpgaa.F
/-- The limbs of a number: 64 bits each in the program, 24 bits each in the reference. -/
abbrev D (n : Nat) : List Int := dg 18446744073709551616 n
abbrev E (n : Nat) : List Int := dg 16777216 n
theorem D_lt (j n : Nat) : j < (D n).length ↔ 18446744073709551616 ^ j ≤ n := dg_length_lt (by decide) j n
theorem D_le (j n : Nat) : (D n).length ≤ j ↔ n < 18446744073709551616 ^ j := dg_length_le (by decide) j n
theorem E_le (j n : Nat) : (E n).length ≤ j ↔ n < 16777216 ^ j := dg_length_le (by decide) j n
theorem rdD (n j : Nat) : rd (D n) (j : Int) = ((n / 18446744073709551616 ^ j % 18446744073709551616 : Nat) : Int) := by
  unfold rd; rw [Int.toNat_natCast, dg_getD (by decide)]
theorem rdE (n j : Nat) : rd (E n) (j : Int) = ((n / 16777216 ^ j % 16777216 : Nat) : Int) := by
  unfold rd; rw [Int.toNat_natCast, dg_getD (by decide)]
theorem D_zero : D 0 = [] := rfl
theorem gok_f (s : ByteArray) : impl_GreatOk.f s = some (gok s) := by
  unfold impl_GreatOk.f gok
  by_cases h1 : (s.size : Int) ≤ 160
  · rw [if_pos h1]
    by_cases h2 : s.size = 0
    · rw [if_pos (toList_nil_iff.2 h2)]; simp [h2]
    · rw [if_neg (fun h => h2 (toList_nil_iff.1 h)), if_pos (by omega)]
      have h3 : s.size ≤ 160 := by omega
      simp [h2, h3]
      by_cases hb : bt s 0 = 0 <;> simp [hb]
  · rw [if_neg h1]
    have h3 : ¬ s.size ≤ 160 := by omega
    simp [h3]
theorem gok_s (s : ByteArray) : spec_GreatOk.f s = some (gok s) := gok_f s
theorem vl_take_succ (B : Nat) (l : List Int) (m : Nat) : vl B (l.take (m + 1)) = vl B (l.take m) + B ^ m * l.getD m 0 := by
  by_cases h : m < l.length
  · rw [List.take_succ_eq_append_getElem h, vl_snoc, List.length_take, Nat.min_eq_left (by omega), List.getD_eq_getElem?_getD, List.getElem?_eq_getElem h]
    rfl
  · rw [List.take_of_length_le (by omega), List.take_of_length_le (by omega), List.getD_eq_getElem?_getD, List.getElem?_eq_none (by omega)]
    simp
theorem take_is_dg {B : Nat} (hB : 2 ≤ B) {l : List Int} (h : Digs B l) (m : Nat) (hm : m ≤ l.length) (h0 : m = 0 ∨ l.getD (m - 1) 0 ≠ 0) : l.take m = dg B (vl B (l.take m)).toNat := by
  apply dg_unique hB (digs_take h m)
  intro hne
  have hl : (l.take m).length = m := by rw [List.length_take]; omega
  have hm0 : m ≠ 0 := by rintro rfl; exact hne (by simp)
  rcases h0 with h0 | h0
  · exact absurd h0 hm0
  · rw [List.getLast_eq_getElem]
    intro he
    apply h0
    rw [List.getD_eq_getElem?_getD, List.getElem?_eq_getElem (by omega)]
    simp only [List.getElem_take, hl] at he
    exact he
theorem trim_s_loop {l : List Int} (h : Digs 16777216 l) (hl : l.length < 4611686018427387904) : ∀ m : Nat, m ≤ l.length → vl 16777216 (l.take m) = vl 16777216 l → Av (fun k => spec_l02Trim.l0 k l m) (E (vl 16777216 l).toNat)
  | 0, _, hv => by
    refine Av.succ ?_
    simp only [spec_l02Trim.l0]
    simp (disch := omega) only [wr, if_pos, if_neg]
    refine Av.ret' ?_
    have := take_is_dg (by decide) h 0 (by omega) (.inl rfl)
    rw [hv] at this
    simpa using this
  | m + 1, hm, hv => by
    have hm' : (rd l (((m + 1 : Nat) : Int) - 1)) = l.getD m 0 := by unfold rd; congr 1; omega
    refine Av.succ ?_
    simp only [spec_l02Trim.l0]
    simp (disch := omega) only [wr, if_pos, if_neg]
    by_cases h0 : l.getD m 0 = 0
    · refine Av.ifp (by rw [hm', h0]) ?_
      have e : ((m + 1 : Nat) : Int) - 1 = m := by omega
      rw [e]
      refine trim_s_loop h hl m (by omega) ?_
      rw [← hv, vl_take_succ, h0]; simp
    · refine Av.ifn (by rw [hm']; exact h0) ?_
      refine Av.ret' ?_
      have := take_is_dg (by decide) h (m + 1) hm (.inr (by simpa using h0))
      rw [hv] at this
      rw [Int.toNat_natCast]
      exact this
theorem trim_s {l : List Int} (h : Digs 16777216 l) (hl : l.length < 4611686018427387904) : Av (fun k => spec_l02Trim.f k l) (E (vl 16777216 l).toNat) :=
  trim_s_loop h hl l.length (Nat.le_refl _) (by rw [List.take_length])
theorem trim_f_loop : ∀ (m : Nat) {l : List Int}, l.length = m → Digs 18446744073709551616 l → l.length < 4611686018427387904 → Av (fun k => impl_nat_trim.l0 k l) (D (vl 18446744073709551616 l).toNat)
  | 0, l, hm, h, hl => by
    obtain rfl := List.eq_nil_of_length_eq_zero hm
    refine Av.succ ?_
    simp only [impl_nat_trim.l0]
    exact Av.ifn (by simp) Av.ret
  | m + 1, l, hm, h, hl => by
    have hm' : (rd l ((l.length : Int) - 1)) = l.getD m 0 := by unfold rd; congr 1; omega
    refine Av.succ ?_
    simp only [impl_nat_trim.l0]
    simp (disch := omega) only [wr, if_pos, if_neg]
    have hv := vl_take_succ 18446744073709551616 l m
    rw [List.take_of_length_le (by omega)] at hv
    by_cases h0 : l.getD m 0 = 0
    · refine Av.ifp (by rw [hm', h0]) ?_
      have e : ((l.length : Int) - 1).toNat = m := by omega
      rw [e, hv, h0, Int.mul_zero, Int.add_zero]
      exact trim_f_loop m (by rw [List.length_take]; omega) (digs_take h m) (by rw [List.length_take]; omega)
    · refine Av.ifn (by rw [hm']; exact h0) ?_
      refine Av.ret' ?_
      have := take_is_dg (by decide) h (m + 1) (by omega) (.inr (by simpa using h0))
      rwa [List.take_of_length_le (by omega)] at this
theorem trim_f {l : List Int} (h : Digs 18446744073709551616 l) (hl : l.length < 4611686018427387904) : Av (fun k => impl_nat_trim.f k l) (D (vl 18446744073709551616 l).toNat) :=
  trim_f_loop l.length rfl h hl
theorem trim_f' {l : List Int} {n : Nat} (h : Digs 18446744073709551616 l) (hl : l.length < 4611686018427387904) (hn : vl 18446744073709551616 l = n) : Av (fun k => impl_nat_trim.f k l) (D n) := by
  have := trim_f h hl
  rw [hn, Int.toNat_natCast] at this
  exact this
theorem trim_s' {l : List Int} {n : Nat} (h : Digs 16777216 l) (hl : l.length < 4611686018427387904) (hn : vl 16777216 l = n) : Av (fun k => spec_l02Trim.f k l) (E n) := by
  have := trim_s h hl
  rw [hn, Int.toNat_natCast] at this
  exact this
theorem small_f (n : Nat) (h : n < 18446744073709551616) : Av (fun k => impl_small.f k n) (D n) := by
  unfold impl_small.f
  refine Av.bind (a := D n) ?_ Av.ret
  rw [ur (by omega) (by omega)]
  exact trim_f' (by intro x hx; simp at hx; subst hx; constructor <;> omega) (by simp) (by simp [vl])
/-- Digits that agree from place m on: what lies below decides. -/
theorem cmp_digits {B : Nat} (hB : 2 ≤ B) {a b m : Nat} (hab : ∀ j, m < j → a / B ^ j % B = b / B ^ j % B) (hl : a / B ^ m % B < b / B ^ m % B) (hsame : ∃ L, a < B ^ L ∧ b < B ^ L) : a < b := by
  have key : ∀ L, a < B ^ L → b < B ^ L → a / B ^ (m + 1) = b / B ^ (m + 1) := by
    intro L ha hb
    have : ∀ d j, L - j = d → m < j → a / B ^ j = b / B ^ j := by
      intro d
      induction d with
      | zero =>
        intro j hj _
        have hp : B ^ L ≤ B ^ j := Nat.pow_le_pow_right (by omega) (by omega)
        rw [Nat.div_eq_of_lt (by omega), Nat.div_eq_of_lt (by omega)]
      | succ d ih =>
        intro j hj hmj
        have h1 := ih (j + 1) (by omega) (by omega)
        have h2 := hab j hmj
        rw [Nat.pow_succ, ← Nat.div_div_eq_div_mul, ← Nat.div_div_eq_div_mul] at h1
        have e1 := Nat.div_add_mod (a / B ^ j) B
        have e2 := Nat.div_add_mod (b / B ^ j) B
        rw [h1, h2] at e1
        omega
    exact this _ (m + 1) rfl (by omega)
  obtain ⟨L, ha, hb⟩ := hsame
  have h1 := key L ha hb
  rw [Nat.pow_succ, ← Nat.div_div_eq_div_mul, ← Nat.div_div_eq_div_mul] at h1
  have e1 := Nat.div_add_mod (a / B ^ m) B
  have e2 := Nat.div_add_mod (b / B ^ m) B
  rw [h1] at e1
  have h2 : a / B ^ m < b / B ^ m := by omega
  have hp := Nat.pow_pos (n := m) (show 0 < B by omega)
  rcases Nat.lt_or_ge a b with h | h
  · exact h
  · have := Nat.div_le_div_right (c := B ^ m) h
    omega
theorem eq_digits {B : Nat} (hB : 2 ≤ B) {a b : Nat} (hab : ∀ j, a / B ^ j % B = b / B ^ j % B) : a = b := by
  have h1 : dg B a = dg B b := by
    have : ∀ x y : Nat, (∀ j, x / B ^ j % B = y / B ^ j % B) → (dg B x).length ≤ (dg B y).length := by
      intro x y h
      rw [dg_length_le hB]
      rcases Nat.lt_or_ge x (B ^ (dg B y).length) with h1 | h1
      · exact h1
      · exfalso
        have hx : x ≠ 0 := by have := Nat.pow_pos (n := (dg B y).length) (show 0 < B by omega); omega
        have hl := (dg_length_lt hB _ _).2 h1
        have h2 := dg_last hB x hx
        rw [dg_getD hB, h] at h2
        apply h2
        have h3 : y < B ^ ((dg B x).length - 1) := by
          refine Nat.lt_of_lt_of_le ((dg_length_le hB _ _).1 (Nat.le_refl _)) (Nat.pow_le_pow_right (by omega) (by omega))
        rw [Nat.div_eq_of_lt h3]; simp
    have hlen : (dg B a).length = (dg B b).length := Nat.le_antisymm (this a b hab) (this b a (fun j => (hab j).symm))
    apply List.ext_getElem? 
    intro j
    by_cases hj : j < (dg B a).length
    · have e1 := dg_getD hB j a
      have e2 := dg_getD hB j b
      rw [List.getD_eq_getElem?_getD, List.getElem?_eq_getElem hj] at e1
      rw [List.getD_eq_getElem?_getD, List.getElem?_eq_getElem (by omega)] at e2
      rw [List.getElem?_eq_getElem hj, List.getElem?_eq_getElem (by omega)]
      simp only [Option.getD_some] at e1 e2
      rw [e1, e2, hab j]
    · rw [List.getElem?_eq_none (by omega), List.getElem?_eq_none (by omega)]
  have := congrArg (vl B) h1
  rw [vl_dg hB, vl_dg hB] at this
  omega
theorem rd_dg {B : Nat} (hB : 2 ≤ B) (n j : Nat) : rd (dg B n) (j : Int) = ((n / B ^ j % B : Nat) : Int) := by
  unfold rd; rw [Int.toNat_natCast, dg_getD hB]
/-- The sign of a comparison. -/
def sgn (a b : Nat) : Int := if a < b then -1 else if a = b then 0 else 1
theorem cmp_f_loop (a b : Nat) (hl : (D a).length = (D b).length) (hl2 : (D a).length < 4611686018427387904) : ∀ m : Nat, m ≤ (D a).length → (∀ j, m ≤ j → a / 18446744073709551616 ^ j % 18446744073709551616 = b / 18446744073709551616 ^ j % 18446744073709551616) → Av (fun k => impl_nat_cmp.l0 k (D a) (D b) ((m : Int) - 1)) (sgn a b)
  | 0, _, hab => by
    refine Av.succ ?_
    simp only [impl_nat_cmp.l0]
    refine Av.ifn (by omega) ?_
    refine Av.ret' ?_
    have := eq_digits (B := 18446744073709551616) (by decide) (fun j => hab j (by omega))
    subst this
    simp [sgn]
  | m + 1, hm, hab => by
    refine Av.succ ?_
    simp only [impl_nat_cmp.l0]
    have e : (((m + 1 : Nat) : Int) - 1) = (m : Int) := by omega
    rw [e]
    simp (disch := omega) only [wr, if_pos, if_neg]
    rw [rd_dg (by decide), rd_dg (by decide)]
    have hs : ∃ L, a < 18446744073709551616 ^ L ∧ b < 18446744073709551616 ^ L := ⟨(D a).length, (dg_length_le (by decide) _ _).1 (Nat.le_refl _), (dg_length_le (by decide) _ _).1 (by rw [hl]; exact Nat.le_refl _)⟩
    by_cases h0 : a / 18446744073709551616 ^ m % 18446744073709551616 = b / 18446744073709551616 ^ m % 18446744073709551616
    · refine Av.ifp (by rw [h0]) ?_
      refine cmp_f_loop a b hl hl2 m (by omega) (fun j hj => ?_)
      by_cases hjm : j = m
      · rw [hjm]; exact h0
      · exact hab j (by omega)
    · refine Av.ifn (by omega) ?_
      by_cases h1 : a / 18446744073709551616 ^ m % 18446744073709551616 < b / 18446744073709551616 ^ m % 18446744073709551616
      · refine Av.ifp (by omega) (Av.ret' ?_)
        have := cmp_digits (by decide) (fun j hj => hab j (by omega)) h1 hs
        simp [sgn, this]
      · refine Av.ifn (by omega) (Av.ret' ?_)
        have := cmp_digits (by decide) (fun j hj => (hab j (by omega)).symm) (show b / 18446744073709551616 ^ m % 18446744073709551616 < a / 18446744073709551616 ^ m % 18446744073709551616 by omega) (hs.imp fun L h => ⟨h.2, h.1⟩)
        unfold sgn; rw [if_neg (by omega), if_neg (by omega)]
theorem len_lt {B : Nat} (hB : 2 ≤ B) {a b : Nat} (h : (dg B a).length < (dg B b).length) : a < b := by
  have h1 := (dg_length_le hB (dg B a).length a).1 (Nat.le_refl _)
  have h2 := (dg_length_lt hB (dg B a).length b).1 h
  omega
/-- What cmp answers: its sign is the comparison's. -/
def cmpv (a b : Nat) : Int := if (D a).length = (D b).length then sgn a b else ((D a).length : Int) - (D b).length
theorem cmpv_neg {a b : Nat} : cmpv a b < 0 ↔ a < b := by
  unfold cmpv sgn
  by_cases h : (D a).length = (D b).length
  · rw [if_pos h]; repeat' split
    all_goals omega
  · rw [if_neg h]
    constructor
    · intro h1; exact len_lt (by decide) (show (D a).length < (D b).length by omega)
    · intro h1
      rcases Nat.lt_or_ge (D a).length (D b).length with h2 | h2
      · omega
      · have := len_lt (by decide) (show (D b).length < (D a).length by omega)
        omega
theorem cmpv_zero {a b : Nat} : cmpv a b = 0 ↔ a = b := by
  unfold cmpv sgn
  by_cases h : (D a).length = (D b).length
  · rw [if_pos h]; repeat' split
    all_goals omega
  · rw [if_neg h]
    constructor
    · intro h1; omega
    · rintro rfl; omega
theorem cmp_f (a b : Nat) (ha : (D a).length < 4611686018427387904) (hb : (D b).length < 4611686018427387904) : Av (fun k => impl_nat_cmp.f k (D a) (D b)) (cmpv a b) := by
  unfold impl_nat_cmp.f cmpv
  by_cases h : (D a).length = (D b).length
  · refine Av.ifp (by omega) ?_
    rw [if_pos h, wr (by omega) (by omega)]
    refine cmp_f_loop a b h ha _ (Nat.le_refl _) (fun j hj => ?_)
    have h1 := (dg_length_le (B := 18446744073709551616) (by decide) j a).1 hj
    have h2 := (dg_length_le (B := 18446744073709551616) (by decide) j b).1 (by rw [← h]; exact hj)
    rw [Nat.div_eq_of_lt h1, Nat.div_eq_of_lt h2]
  · refine Av.ifn (by omega) ?_
    rw [if_neg h, wr (by omega) (by omega)]
    exact Av.ret
theorem cmp_s_loop (a b : Nat) (hl : (E a).length = (E b).length) (hl2 : (E a).length < 4611686018427387904) : ∀ m : Nat, m ≤ (E a).length → (∀ j, m ≤ j → a / 16777216 ^ j % 16777216 = b / 16777216 ^ j % 16777216) → Av (fun k => spec_l02Cmp.l0 k (E a) (E b) ((m : Int) - 1)) (sgn a b)
  | 0, _, hab => by
    refine Av.succ ?_
    simp only [spec_l02Cmp.l0]
    refine Av.ifn (by omega) ?_
    refine Av.ret' ?_
    have := eq_digits (B := 16777216) (by decide) (fun j => hab j (by omega))
    subst this
    simp [sgn]
  | m + 1, hm, hab => by
    refine Av.succ ?_
    simp only [spec_l02Cmp.l0]
    have e : (((m + 1 : Nat) : Int) - 1) = (m : Int) := by omega
    rw [e]
    simp (disch := omega) only [wr, if_pos, if_neg]
    rw [rd_dg (by decide), rd_dg (by decide)]
    have hs : ∃ L, a < 16777216 ^ L ∧ b < 16777216 ^ L := ⟨(E a).length, (dg_length_le (by decide) _ _).1 (Nat.le_refl _), (dg_length_le (by decide) _ _).1 (by rw [hl]; exact Nat.le_refl _)⟩
    by_cases h0 : a / 16777216 ^ m % 16777216 = b / 16777216 ^ m % 16777216
    · refine Av.ifp (by rw [h0]) ?_
      refine cmp_s_loop a b hl hl2 m (by omega) (fun j hj => ?_)
      by_cases hjm : j = m
      · rw [hjm]; exact h0
      · exact hab j (by omega)
    · refine Av.ifn (by omega) ?_
      by_cases h1 : a / 16777216 ^ m % 16777216 < b / 16777216 ^ m % 16777216
      · refine Av.ifp (by omega) (Av.ret' ?_)
        have := cmp_digits (by decide) (fun j hj => hab j (by omega)) h1 hs
        simp [sgn, this]
      · refine Av.ifn (by omega) (Av.ret' ?_)
        have := cmp_digits (by decide) (fun j hj => (hab j (by omega)).symm) (show b / 16777216 ^ m % 16777216 < a / 16777216 ^ m % 16777216 by omega) (hs.imp fun L h => ⟨h.2, h.1⟩)
        unfold sgn; rw [if_neg (by omega), if_neg (by omega)]
theorem cmp_s (a b : Nat) (ha : (E a).length < 4611686018427387904) (hb : (E b).length < 4611686018427387904) : Av (fun k => spec_l02Cmp.f k (E a) (E b)) (sgn a b) := by
  unfold spec_l02Cmp.f
  by_cases h : (E a).length = (E b).length
  · refine Av.ifp (by omega) ?_
    rw [wr (by omega) (by omega)]
    refine cmp_s_loop a b h ha _ (Nat.le_refl _) (fun j hj => ?_)
    have h1 := (dg_length_le (B := 16777216) (by decide) j a).1 hj
    have h2 := (dg_length_le (B := 16777216) (by decide) j b).1 (by rw [← h]; exact hj)
    rw [Nat.div_eq_of_lt h1, Nat.div_eq_of_lt h2]
  · refine Av.ifn (by omega) ?_
    by_cases h1 : (E a).length < (E b).length
    · refine Av.ifp (by omega) (Av.ret' ?_)
      have := len_lt (by decide) h1
      simp [sgn, this]
    · refine Av.ifn (by omega) (Av.ret' ?_)
      have := len_lt (by decide) (show (E b).length < (E a).length by omega)
      unfold sgn; rw [if_neg (by omega), if_neg (by omega)]
theorem td {a b : Int} (h : 0 ≤ a) : a.tdiv b = a / b := Int.tdiv_eq_ediv_of_nonneg h
theorem tm {a b : Int} (h : 0 ≤ a) : a.tmod b = a % b := Int.tmod_eq_emod_of_nonneg h
theorem vl_set (B : Nat) : ∀ (l : List Int) (i : Nat) (v : Int), i < l.length → vl B (l.set i v) = vl B l + (v - l.getD i 0) * B ^ i
  | [], i, v, h => by simp at h
  | x :: xs, 0, v, h => by simp [vl]; omega
  | x :: xs, i + 1, v, h => by
    have ih := vl_set B xs i v (by simpa using h)
    simp only [List.set_cons_succ, vl, List.getD_cons_succ]
    rw [ih, Int.pow_succ]
    grind
theorem digs_set {B : Nat} {l : List Int} {i : Nat} {v : Int} (h : Digs B l) (hv : 0 ≤ v ∧ v < B) : Digs B (l.set i v) := by
  intro x hx
  rcases List.mem_or_eq_of_mem_set hx with h1 | h1
  · exact h x h1
  · rw [h1]; exact hv
theorem getD_set {l : List Int} {i j : Nat} {v : Int} (h : i < l.length) : (l.set i v).getD j 0 = if i = j then v else l.getD j 0 := by
  rw [List.getD_eq_getElem?_getD, List.getElem?_set]
  by_cases e : i = j
  · rw [if_pos e, if_pos e, if_pos h]; rfl
  · rw [if_neg e, if_neg e, List.getD_eq_getElem?_getD]
theorem vl_zeros (B n : Nat) : vl B (List.replicate n 0) = 0 := by
  induction n with
  | zero => rfl
  | succ n ih => rw [List.replicate_succ]; simp [vl, ih]
theorem digs_zeros {B : Nat} (hB : 0 < B) (n : Nat) : Digs B (List.replicate n 0) := by
  intro x hx
  have := List.eq_of_mem_replicate hx
  omega
theorem getD_zeros (n j : Nat) : (List.replicate n (0 : Int)).getD j 0 = 0 := by
  rw [List.getD_eq_getElem?_getD, List.getElem?_replicate]; split <;> rfl
theorem gok_size' {s : ByteArray} (h : gok s = true) : s.size ≤ 160 := (gok_iff.1 h).1
theorem or8 (r : Nat) (hr : r < 8) {x b : Int} (hx : x % 256 ^ (r + 1) = 0) (h0 : 0 ≤ x) (h1 : x < 18446744073709551616) (hb : 0 ≤ b) (hb1 : b < 256) :
    Go.bits .or .u64 x (shl .u64 b (8 * r)) = x + b * 256 ^ r := by
  have key : ∀ (i : Nat) (y : Int), i ≤ 64 → x % 2 ^ i = 0 → 0 ≤ y → y < 2 ^ i → y < 2 ^ 64 → Go.bits .or .u64 x y = x + y := fun i y hi hx hy hy1 hy2 =>
    bits_join .u64 64 (by decide) (fun n h0 h1 => ur h0 (by simpa using h1)) i x y h0 hx (by simpa using h1) hy hy1 hy2
  have hs : shl .u64 b (8 * r) = b * 256 ^ r := by
    unfold shl
    have : r = 0 ∨ r = 1 ∨ r = 2 ∨ r = 3 ∨ r = 4 ∨ r = 5 ∨ r = 6 ∨ r = 7 := by omega
    rcases this with rfl | rfl | rfl | rfl | rfl | rfl | rfl | rfl <;> (simp only [IntKind.bits]; rw [uw]; simp; try omega)
  rw [hs]
  have : r = 0 ∨ r = 1 ∨ r = 2 ∨ r = 3 ∨ r = 4 ∨ r = 5 ∨ r = 6 ∨ r = 7 := by omega
  rcases this with rfl | rfl | rfl | rfl | rfl | rfl | rfl | rfl
  · exact key 8 _ (by decide) (by simpa using hx) (by omega) (by simp; omega) (by simp; omega)
  · exact key 16 _ (by decide) (by simpa using hx) (by omega) (by simp; omega) (by simp; omega)
  · exact key 24 _ (by decide) (by simpa using hx) (by omega) (by simp; omega) (by simp; omega)
  · exact key 32 _ (by decide) (by simpa using hx) (by omega) (by simp; omega) (by simp; omega)
  · exact key 40 _ (by decide) (by simpa using hx) (by omega) (by simp; omega) (by simp; omega)
  · exact key 48 _ (by decide) (by simpa using hx) (by omega) (by simp; omega) (by simp; omega)
  · exact key 56 _ (by decide) (by simpa using hx) (by omega) (by simp; omega) (by simp; omega)
  · exact key 64 _ (by decide) (by simpa using hx) (by omega) (by simp; omega) (by simp; omega)
/-- What natOf's limbs hold when the bytes above place m are in. -/
structure NInv (N m : Nat) (l : List Int) : Prop where
  digs : Digs 18446744073709551616 l
  val : vl 18446744073709551616 l = ((N / 256 ^ m * 256 ^ m : Nat) : Int)
  low : ∀ q, 8 * q + 8 ≤ m → l.getD q 0 = 0
  part : l.getD (m / 8) 0 % 256 ^ (m % 8) = 0
theorem pow_split (m : Nat) : (256 : Int) ^ (m % 8) * 18446744073709551616 ^ (m / 8) = 256 ^ m := by
  have e : (18446744073709551616 : Int) = 256 ^ 8 := by decide
  rw [e, ← Int.pow_mul, ← Int.pow_add]
  congr 1; omega
theorem NInv.step {N m : Nat} {l : List Int} (h : NInv N (m + 1) l) (hl : m / 8 < l.length) :
    l.getD (m / 8) 0 % 256 ^ (m % 8 + 1) = 0 ∧ NInv N m (l.set (m / 8) (l.getD (m / 8) 0 + ((N / 256 ^ m % 256 : Nat) : Int) * 256 ^ (m % 8))) := by
  have hb : N / 256 ^ m % 256 < 256 := Nat.mod_lt _ (by decide)
  generalize hbv : N / 256 ^ m % 256 = b at hb
  have hx := digs_getD h.digs (by decide) (m / 8)
  generalize hxv : l.getD (m / 8) 0 = x at hx
  have hal : x % 256 ^ (m % 8 + 1) = 0 := by
    by_cases h8 : m % 8 = 7
    · have := h.low (m / 8) (by omega)
      rw [hxv] at this; subst this; simp
    · have := h.part
      have e1 : (m + 1) / 8 = m / 8 := by omega
      have e2 : (m + 1) % 8 = m % 8 + 1 := by omega
      rw [e1, e2, hxv] at this
      exact this
  have hr : 0 ≤ x + (b : Int) * 256 ^ (m % 8) ∧ x + (b : Int) * 256 ^ (m % 8) < 18446744073709551616 ∧ (x + (b : Int) * 256 ^ (m % 8)) % 256 ^ (m % 8) = 0 := by
    have : m % 8 < 8 := by omega
    generalize m % 8 = r at this hal
    have : r = 0 ∨ r = 1 ∨ r = 2 ∨ r = 3 ∨ r = 4 ∨ r = 5 ∨ r = 6 ∨ r = 7 := by omega
    rcases this with rfl | rfl | rfl | rfl | rfl | rfl | rfl | rfl <;> simp at hal ⊢ <;> simp at hx <;> omega
  refine ⟨hal, digs_set h.digs ⟨hr.1, by simpa using hr.2.1⟩, ?_, ?_, ?_⟩
  · rw [vl_set _ _ _ _ hl, h.val, hxv]
    have e : x + (b : Int) * 256 ^ (m % 8) - x = b * 256 ^ (m % 8) := by omega
    have e2 : (((18446744073709551616 : Nat) : Int)) = 18446744073709551616 := rfl
    rw [e, e2, Int.mul_assoc, pow_split]
    have h1 := Nat.div_add_mod (N / 256 ^ m) 256
    rw [Nat.div_div_eq_div_mul, ← Nat.pow_succ, hbv] at h1
    have h2 : N / 256 ^ m * 256 ^ m = N / 256 ^ (m + 1) * 256 ^ (m + 1) + b * 256 ^ m := by
      rw [← h1, Nat.add_mul, Nat.pow_succ]
      congr 1
      rw [Nat.mul_comm 256, Nat.mul_assoc, Nat.mul_comm 256]
    rw [h2]
    simp
  · intro q hq
    rw [getD_set hl, if_neg (by omega)]
    exact h.low q (by omega)
  · rw [getD_set hl, if_pos rfl]
    exact hr.2.2
theorem NInv.start {N m L : Nat} (h : N < 256 ^ m) : NInv N m (List.replicate L 0) :=
  ⟨digs_zeros (by decide) _, by rw [vl_zeros, Nat.div_eq_of_lt h]; simp, fun q _ => getD_zeros _ _, by rw [getD_zeros]; simp⟩
theorem natOf_loop (s : ByteArray) (hs : s.size < 4611686018427387904) : ∀ (m : Nat) (l : List Int), m ≤ s.size → l.length = (s.size + 7) / 8 → NInv (bv s) m l → Av (fun k => impl_natOf.l0 k s l s.size ((s.size : Int) - m)) (D (bv s))
  | 0, l, hm, hl, h => by
    refine Av.succ ?_
    simp only [impl_natOf.l0]
    refine Av.ifn (by omega) ?_
    refine Av.bind ?_ Av.ret
    refine trim_f' h.digs (by omega) ?_
    have := h.val
    simpa using this
  | m + 1, l, hm, hl, h => by
    refine Av.succ ?_
    simp only [impl_natOf.l0]
    obtain ⟨hal, hst⟩ := h.step (show m / 8 < l.length by omega)
    have e1 : (s.size : Int) - 1 - ((s.size : Int) - ((m + 1 : Nat) : Int)) = m := by omega
    have hbt := bt_rev s m (by omega)
    have e2 : (s.size : Int) - ((m + 1 : Nat) : Int) = (s.size : Int) - 1 - m := by omega
    have hb := bt_range s ((s.size : Int) - 1 - m)
    have hb' := bt_range s ((s.size : Int) - ((m + 1 : Nat) : Int))
    simp (disch := omega) only [wr, td, tm, ur, if_pos, if_neg, e1]
    have e3 : ((m : Int) / 8).toNat = m / 8 := by omega
    have e4 : ((s.size : Int) - ((m + 1 : Nat) : Int) + 1) = (s.size : Int) - m := by omega
    have hx := digs_getD h.digs (by decide) (m / 8)
    have e5 : Go.bits .or .u64 (rd l ((m : Int) / 8)) (shl .u64 (bt s ((s.size : Int) - ((m + 1 : Nat) : Int))) (8 * ((m : Int) % 8))) = l.getD (m / 8) 0 + ((bv s / 256 ^ m % 256 : Nat) : Int) * 256 ^ (m % 8) := by
      have h8 := or8 (m % 8) (by omega) (x := l.getD (m / 8) 0) (b := bt s ((s.size : Int) - 1 - m)) hal hx.1 hx.2 (by omega) (by omega)
      rw [← hbt, ← h8]
      unfold rd
      rw [e2, e3]
      congr 2
    rw [e3, e4, e5]
    exact natOf_loop s hs m _ (by omega) (by rw [List.length_set]; exact hl) hst
theorem natOf_f (s : ByteArray) (hs : s.size < 281474976710656) : Av (fun k => impl_natOf.f k s) (D (bv s)) := by
  unfold impl_natOf.f
  simp (disch := omega) only [wr, td, if_pos, if_neg]
  have e : (((s.size : Int) + 7) / 8).toNat = (s.size + 7) / 8 := by omega
  rw [e]
  have := natOf_loop s (by omega) s.size (List.replicate ((s.size + 7) / 8) 0) (Nat.le_refl _) (by simp) (NInv.start (bv_lt s))
  simpa using this
theorem in_loop (s : ByteArray) (hs : s.size < 17592186044416) : ∀ (d j : Nat) (l : List Int), s.size + 3 ≤ 3 * (j + d) → 3 * j < s.size + 3 → l.length = j → Digs 16777216 l → vl 16777216 l = ((bv s % 16777216 ^ j : Nat) : Int) → Av (fun k => spec_l02In.l0 k s l ((s.size : Int) - 3 * j)) (E (bv s))
  | 0, j, l, h1, h2, hl, hd, hv => by omega
  | d + 1, j, l, h1, h2, hl, hd, hv => by
    refine Av.succ ?_
    simp only [spec_l02In.l0]
    by_cases hj : s.size ≤ 3 * j
    · refine Av.ifn (by omega) ?_
      refine Av.bind ?_ Av.ret
      refine trim_s' hd (by omega) ?_
      rw [hv, Nat.mod_eq_of_lt]
      refine Nat.lt_of_lt_of_le (bv_lt s) ?_
      have e : (16777216 : Nat) = 256 ^ 3 := rfl
      rw [e, ← Nat.pow_mul]
      exact Nat.pow_le_pow_right (by decide) hj
    · refine Av.ifp (by omega) ?_
      rw [wr (by omega) (by omega)]
      have fin : ∀ n : Int, n = ((bv s / 16777216 ^ j % 16777216 : Nat) : Int) → Av (fun k => spec_l02In.l1 k s l ((s.size : Int) - 3 * j) n ((s.size : Int) - 3 * j)) (E (bv s)) := by
        intro n hn
        refine Av.succ ?_
        simp only [spec_l02In.l1]
        refine Av.ifn (by omega) ?_
        refine Av.ifp (by omega) ?_
        rw [wr (by omega) (by omega)]
        have hlt : bv s / 16777216 ^ j % 16777216 < 16777216 := Nat.mod_lt _ (by decide)
        have e : (s.size : Int) - 3 * j - 3 = (s.size : Int) - 3 * ((j + 1 : Nat) : Int) := by omega
        rw [e]
        refine in_loop s hs d (j + 1) _ (by omega) (by omega) (by simp; omega) (digs_append.2 ⟨hd, ?_⟩) ?_
        · intro x hx; simp at hx; subst hx; constructor <;> omega
        · rw [vl_snoc, hv, hl, hn, Nat.mod_pow_succ]; simp
      have e3 : (16777216 : Nat) ^ j = 256 ^ (3 * j) := by rw [Nat.pow_mul]
      have b0 : 3 * j < s.size → bt s ((s.size : Int) - 3 * j - 1) = ((bv s / 16777216 ^ j % 256 : Nat) : Int) := fun h => by
        rw [e3, ← bt_rev s (3 * j) h]; congr 1; omega
      have b1 : 3 * j + 1 < s.size → bt s ((s.size : Int) - 3 * j - 2) = ((bv s / 16777216 ^ j / 256 % 256 : Nat) : Int) := fun h => by
        rw [e3, Nat.div_div_eq_div_mul, ← Nat.pow_succ, ← bt_rev s (3 * j + 1) h]; congr 1; omega
      have b2 : 3 * j + 2 < s.size → bt s ((s.size : Int) - 3 * j - 3) = ((bv s / 16777216 ^ j / 256 / 256 % 256 : Nat) : Int) := fun h => by
        have e5 : bv s / 256 ^ (3 * j + 2) = bv s / 256 ^ (3 * j) / 256 / 256 := by rw [Nat.div_div_eq_div_mul, Nat.div_div_eq_div_mul, Nat.pow_add]
        rw [e3, ← e5, ← bt_rev s (3 * j + 2) h]; congr 1; omega
      have hY : bv s / 16777216 ^ j < 256 ^ (s.size - 3 * j) := by
        rw [Nat.div_lt_iff_lt_mul (Nat.pow_pos (by decide)), e3, ← Nat.pow_add]
        have : s.size - 3 * j + 3 * j = s.size := by omega
        rw [this]; exact bv_lt s
      generalize bv s / 16777216 ^ j = Y at *
      refine Av.succ ?_
      simp only [spec_l02In.l1]
      refine Av.ifp (by omega) ?_
      -- the first of three bytes
      by_cases c3 : 3 * j + 2 < s.size
      · have t2 := b2 c3
        have t1 := b1 (by omega)
        have t0 := b0 (by omega)
        simp (disch := omega) only [wr, if_pos, if_neg]
        refine Av.succ ?_
        simp only [spec_l02In.l1]
        simp (disch := omega) only [wr, if_pos, if_neg]
        refine Av.succ ?_
        simp only [spec_l02In.l1]
        have e1 : (s.size : Int) - 3 * j - 3 + 1 = (s.size : Int) - 3 * j - 2 := by omega
        have e2 : (s.size : Int) - 3 * j - 2 + 1 = (s.size : Int) - 3 * j - 1 := by omega
        have e4 : (s.size : Int) - 3 * j - 1 + 1 = (s.size : Int) - 3 * j := by omega
        rw [e1, e2]
        simp (disch := omega) only [wr, if_pos, if_neg]
        rw [e4]
        refine fin _ ?_
        rw [t0, t1, t2]
        omega
      · by_cases c2 : 3 * j + 1 < s.size
        · have t1 := b1 c2
          have t0 := b0 (by omega)
          have hz : s.size - 3 * j = 2 := by omega
          rw [hz] at hY
          simp (disch := omega) only [wr, if_pos, if_neg]
          refine Av.succ ?_
          simp only [spec_l02In.l1]
          have e1 : (s.size : Int) - 3 * j - 3 + 1 = (s.size : Int) - 3 * j - 2 := by omega
          have e2 : (s.size : Int) - 3 * j - 2 + 1 = (s.size : Int) - 3 * j - 1 := by omega
          have e4 : (s.size : Int) - 3 * j - 1 + 1 = (s.size : Int) - 3 * j := by omega
          rw [e1, e2]
          simp (disch := omega) only [wr, if_pos, if_neg]
          refine Av.succ ?_
          simp only [spec_l02In.l1]
          simp (disch := omega) only [wr, if_pos, if_neg]
          rw [e4]
          refine fin _ ?_
          rw [t0, t1]
          omega
        · have t0 := b0 (by omega)
          have hz : s.size - 3 * j = 1 := by omega
          rw [hz] at hY
          simp (disch := omega) only [wr, if_pos, if_neg]
          refine Av.succ ?_
          simp only [spec_l02In.l1]
          have e1 : (s.size : Int) - 3 * j - 3 + 1 = (s.size : Int) - 3 * j - 2 := by omega
          have e2 : (s.size : Int) - 3 * j - 2 + 1 = (s.size : Int) - 3 * j - 1 := by omega
          have e4 : (s.size : Int) - 3 * j - 1 + 1 = (s.size : Int) - 3 * j := by omega
          rw [e1, e2]
          simp (disch := omega) only [wr, if_pos, if_neg]
          refine Av.succ ?_
          simp only [spec_l02In.l1]
          simp (disch := omega) only [wr, if_pos, if_neg]
          rw [e4]
          refine fin _ ?_
          rw [t0]
          omega
theorem in_s (s : ByteArray) (hs : s.size < 17592186044416) : Av (fun k => spec_l02In.f k s) (E (bv s)) := by
  unfold spec_l02In.f
  have := in_loop s hs (s.size + 3) 0 [] (by omega) (by omega) rfl (by intro x hx; cases hx) (by simp [vl, Nat.mod_one])
  simpa using this
/-- Sums of small numbers aren't wrapped. -/
theorem wrap_add {a b : Nat} (h : a + b < 4611686018427387904) : wrap64 ((a : Int) + b) = ((a + b : Nat) : Int) := by rw [wr (by omega) (by omega)]; omega
theorem wrap_one {a : Nat} (h : a < 4611686018427387904) : wrap64 ((a : Int) + 1) = ((a + 1 : Nat) : Int) := by rw [wr (by omega) (by omega)]; omega
theorem mod_step (B a i : Nat) : ((a % B ^ (i + 1) : Nat) : Int) = (a % B ^ i : Nat) + ((a / B ^ i % B : Nat) : Int) * (B : Int) ^ i := by
  rw [Nat.mod_pow_succ, Int.natCast_add, Int.natCast_mul, Int.natCast_pow, Int.mul_comm]
theorem vl_set0 {B : Nat} {l : List Int} {i : Nat} (v : Int) (h : i < l.length) (h0 : l.getD i 0 = 0) : vl B (l.set i v) = vl B l + v * B ^ i := by
  rw [vl_set B l i v h, h0, Int.sub_zero]
theorem mod_full (B n : Nat) (hB : 2 ≤ B) {i : Nat} (h : (dg B n).length ≤ i) : n % B ^ i = n := Nat.mod_eq_of_lt ((dg_length_le hB i n).1 h)
theorem dg_len_mono {B : Nat} (hB : 2 ≤ B) {a b : Nat} (h : a ≤ b) : (dg B a).length ≤ (dg B b).length := by
  rw [dg_length_le hB]
  exact Nat.lt_of_le_of_lt h ((dg_length_le hB _ _).1 (Nat.le_refl _))
theorem D_mono {a b : Nat} (h : a ≤ b) : (D a).length ≤ (D b).length := dg_len_mono (by decide) h
theorem E_mono {a b : Nat} (h : a ≤ b) : (E a).length ≤ (E b).length := dg_len_mono (by decide) h
/-- l holds v below place i and nothing from there on. -/
structure Upto (B : Nat) (l : List Int) (i : Nat) (v : Int) : Prop where
  digs : Digs B l
  val : vl B l = v
  zero : ∀ j, i ≤ j → l.getD j 0 = 0
theorem Upto.start {B : Nat} (hB : 0 < B) (n : Nat) : Upto B (List.replicate n 0) 0 0 := ⟨digs_zeros hB n, vl_zeros B n, fun j _ => getD_zeros n j⟩
theorem Upto.set {B : Nat} {l : List Int} {i : Nat} {v x w : Int} (h : Upto B l i v) (hi : i < l.length) (hx : 0 ≤ x ∧ x < B) (hw : w = v + x * B ^ i) : Upto B (l.set i x) (i + 1) w :=
  ⟨digs_set h.digs hx, by rw [vl_set0 x hi (h.zero i (Nat.le_refl _)), h.val, hw], fun j hj => by rw [getD_set hi, if_neg (by omega)]; exact h.zero j (by omega)⟩
theorem Upto.more {B : Nat} {l : List Int} {i j : Nat} {v : Int} (h : Upto B l i v) (hij : i ≤ j) : Upto B l j v := ⟨h.digs, h.val, fun m hm => h.zero m (by omega)⟩
theorem and24 (n : Int) : Go.bits .and .i64 n 16777215 = n % 16777216 := by
  have h1 : (BitVec.ofInt 64 16777215).toNat = 2 ^ 24 - 1 := by decide
  have key : (BitVec.ofInt 64 n &&& BitVec.ofInt 64 16777215).toNat = (n % ((2 ^ 64 : Nat) : Int)).toNat % 2 ^ 24 := by
    rw [BitVec.toNat_and, BitVec.toNat_ofInt, h1, Nat.and_two_pow_sub_one_eq_mod]
  show IntKind.i64.wrap ((BitVec.ofInt 64 n &&& BitVec.ofInt 64 16777215).toNat : Nat) = n % 16777216
  rw [key, IntKind.wrap_i64]
  omega
/-- What the limbs that are written so far say. -/
structure Pre (l : List Int) (i : Nat) (v : Int) : Prop where
  len : l.length = i
  digs : Digs 16777216 l
  val : vl 16777216 l = v
theorem Pre.start : Pre [] 0 0 := ⟨rfl, (by intro x hx; cases hx), rfl⟩
theorem below_nat {r : Nat} (h : r < 16777216) : 0 ≤ (r : Int) ∧ (r : Int) < 16777216 := ⟨Int.natCast_nonneg _, Int.ofNat_lt.2 h⟩
theorem mac24 {x y o c : Nat} (hx : x < 16777216) (hy : y < 16777216) (ho : o < 16777216) (hc : c < 16777216) : ∃ r q : Nat, Go.bits .and .i64 (wrap64 (wrap64 ((o : Int) + wrap64 ((x : Int) * y)) + c)) 16777215 = (r : Int) ∧ wrap64 (wrap64 ((o : Int) + wrap64 ((x : Int) * y)) + c) / 16777216 = (q : Int) ∧ r < 16777216 ∧ q < 16777216 ∧ (r : Int) = x * y + o + c - 16777216 * q := by
  have hm : x * y ≤ 16777215 * 16777215 := Nat.mul_le_mul (by omega) (by omega)
  rw [← Int.natCast_mul]
  generalize x * y = z at *
  clear hx hy
  refine ⟨(z + o + c) % 16777216, (z + o + c) / 16777216, ?_, ?_, by omega, by omega, by omega⟩
  · rw [and24, wr (x := (z : Int)) (by omega) (by omega), wr (x := (o : Int) + z) (by omega) (by omega), wr (by omega) (by omega)]; omega
  · rw [wr (x := (z : Int)) (by omega) (by omega), wr (x := (o : Int) + z) (by omega) (by omega), wr (by omega) (by omega)]; omega
theorem ring_mac24 (v x w P Q c y o W q r : Int) (hr : r = x * y + o + c - W * q) : v + x * w * P - c * (P * Q) + (r - o) * (P * Q) = v + x * (w + y * Q) * P - q * (P * Q * W) := by subst hr; grind
/-- What the limbs of a product say: v and, from place i on, nothing. -/
structure Up24 (l : List Int) (L i : Nat) (v : Int) : Prop where
  len : l.length = L
  digs : Digs 16777216 l
  val : vl 16777216 l = v
  zero : ∀ j, i ≤ j → l.getD j 0 = 0
theorem Up24.start (n : Nat) : Up24 (List.replicate n 0) n 0 0 := ⟨by simp, digs_zeros (by decide) n, vl_zeros _ n, fun j _ => getD_zeros n j⟩
theorem Up24.more {l : List Int} {L i j : Nat} {v : Int} (h : Up24 l L i v) (hij : i ≤ j) : Up24 l L j v := ⟨h.len, h.digs, h.val, fun m hm => h.zero m (Nat.le_trans hij hm)⟩
theorem mul_s_in (a b : Nat) (i : Nat) (r : List Int) (v : Int) (L : Nat) (hi : i < (E a).length) (hiL : (E a).length + (E b).length < 17592186044416) (hL : L = (E a).length + (E b).length)
    (fin : ∀ (l : List Int) (c : Nat), Up24 l L (i + (E b).length) (v + (a / 16777216 ^ i % 16777216 : Nat) * b * 16777216 ^ i - c * 16777216 ^ (i + (E b).length)) → c < 16777216 →
      Av (fun k => spec_l02Mul.l0 k (E a) (E b) (l.set (i + (E b).length) c) ((i + 1 : Nat) : Int)) r) : ∀ (d m c : Nat) (l : List Int), (E b).length - m = d → m ≤ (E b).length → c < 16777216 → Up24 l L (i + (E b).length) (v + (a / 16777216 ^ i % 16777216 : Nat) * (b % 16777216 ^ m : Nat) * 16777216 ^ i - c * 16777216 ^ (i + m)) →
    Av (fun k => spec_l02Mul.l1 k (E a) (E b) l i c m) r
  | 0, m, c, l, hd, hm, hc, h => by
    obtain rfl : m = (E b).length := by omega
    have e : wrap64 ((i : Int) + (E b).length) = ((i + (E b).length : Nat) : Int) := wrap_add (by omega)
    have e1 : wrap64 ((i : Int) + 1) = ((i + 1 : Nat) : Int) := wrap_one (by omega)
    have i5 : ((i + (E b).length : Nat) : Int) < l.length := by rw [h.len]; omega
    refine Av.succ ?_
    simp only [spec_l02Mul.l1, e, e1, Int.toNat_natCast]
    refine Av.ifn (by omega) (Av.ifp (Int.natCast_nonneg _) (Av.ifp i5 ?_))
    refine fin l c ?_ hc
    rw [mod_full _ b (by decide) (Nat.le_refl _)] at h
    exact h
  | d + 1, m, c, l, hd, hm, hc, h => by
    have i1 : i + m < l.length := by rw [h.len]; omega
    have i2 : i + m < i + (E b).length := by omega
    have i3 : (E b).length - (m + 1) = d := by omega
    have i4 : m + 1 ≤ (E b).length := by omega
    have i6 : ((i + m : Nat) : Int) < l.length := Int.ofNat_lt.2 i1
    have i7 : (m : Int) < (E b).length := by omega
    have i8 : (i : Int) < (E a).length := by omega
    have e : wrap64 ((i : Int) + m) = ((i + m : Nat) : Int) := wrap_add (by omega)
    have e1 : wrap64 ((m : Int) + 1) = ((m + 1 : Nat) : Int) := wrap_one (by omega)
    have hx : a / 16777216 ^ i % 16777216 < 16777216 := Nat.mod_lt _ (by decide)
    have hy : b / 16777216 ^ m % 16777216 < 16777216 := Nat.mod_lt _ (by decide)
    have hs := mod_step 16777216 b m
    have r1 := rdE a i
    have r2 := rdE b m
    have hob := digs_getD h.digs (by decide) (i + m)
    obtain ⟨o, hoe⟩ := Int.eq_ofNat_of_zero_le hob.1
    have r3 : rd l ((i + m : Nat) : Int) = (o : Int) := by unfold rd; rw [Int.toNat_natCast]; exact hoe
    have ho2 : o < 16777216 := by rw [hoe] at hob; exact Int.ofNat_lt.1 hob.2
    refine Av.succ ?_
    simp only [spec_l02Mul.l1, e, e1, r1, r2, r3, Int.toNat_natCast]
    refine Av.ifp i7 (Av.ifp (Int.natCast_nonneg _) (Av.ifp i6 (Av.ifp (Int.natCast_nonneg _) (Av.ifp i8 (Av.ifp (Int.natCast_nonneg _) ?_)))))
    generalize b / 16777216 ^ m % 16777216 = y at *
    have fin' := mul_s_in a b i r v L hi hiL hL fin d (m + 1)
    generalize a / 16777216 ^ i % 16777216 = x at *
    obtain ⟨t, q, f1, f2, ht, hq, he⟩ := mac24 hx hy ho2 hc
    rw [f1, f2]
    refine fin' q _ i3 i4 hq ⟨by rw [List.length_set]; exact h.len, digs_set h.digs (below_nat ht), ?_, ?_⟩
    · have e6 : ((16777216 : Nat) : Int) = 16777216 := rfl
      rw [vl_set _ _ _ _ i1, h.val, hs, hoe]
      simp only [e6]
      rw [← Nat.add_assoc, Int.pow_succ, Int.pow_add]
      try simp only [Int.ofNat_eq_natCast]
      exact ring_mac24 _ _ _ _ _ _ _ _ _ _ _ he
    · intro j hj
      rw [getD_set i1, if_neg (Nat.ne_of_lt (Nat.lt_of_lt_of_le i2 hj))]
      exact h.zero j hj
theorem mul_s_loop (a b : Nat) (hl : (E a).length + (E b).length < 17592186044416) : ∀ (d i : Nat) (l : List Int), (E a).length - i = d → i ≤ (E a).length → Up24 l ((E a).length + (E b).length) (i + (E b).length) (((a % 16777216 ^ i : Nat) : Int) * b) →
    Av (fun k => spec_l02Mul.l0 k (E a) (E b) l i) (E (a * b))
  | 0, i, l, hd, hi, h => by
    obtain rfl : i = (E a).length := by omega
    refine Av.succ ?_
    simp only [spec_l02Mul.l0]
    refine Av.ifn (by omega) (Av.bind ?_ Av.ret)
    refine trim_s' h.digs (by rw [h.len]; omega) ?_
    rw [h.val, mod_full _ a (by decide) (Nat.le_refl _)]
    simp
  | d + 1, i, l, hd, hi, h => by
    have i1 : (i : Int) < (E a).length := by omega
    have i2 : i < (E a).length := by omega
    have i3 : (E a).length - (i + 1) = d := by omega
    have i4 : i + (E b).length < (E a).length + (E b).length := by omega
    refine Av.succ ?_
    simp only [spec_l02Mul.l0]
    refine Av.ifp i1 ?_
    refine mul_s_in a b i _ (((a % 16777216 ^ i : Nat) : Int) * b) _ i2 hl rfl ?_ _ 0 0 l rfl (Nat.zero_le _) (by decide) ?_
    · intro l2 c h2 hc
      have h3 : i + (E b).length < l2.length := by rw [h2.len]; exact i4
      have e2 : i + 1 + (E b).length = i + (E b).length + 1 := by omega
      refine mul_s_loop a b hl d (i + 1) _ i3 i2 ⟨by rw [List.length_set]; exact h2.len, digs_set h2.digs (below_nat hc), ?_, ?_⟩
      · rw [vl_set0 _ h3 (h2.zero _ (Nat.le_refl _)), h2.val, mod_step]
        have e6 : ((16777216 : Nat) : Int) = 16777216 := rfl
        simp only [e6]
        grind
      · intro j hj
        rw [getD_set h3, if_neg (by omega)]
        exact h2.zero j (by omega)
    · rw [Nat.pow_zero, Nat.mod_one]
      have e : ((a % 16777216 ^ i : Nat) : Int) * b + ((a / 16777216 ^ i % 16777216 : Nat) : Int) * ((0 : Nat) : Int) * 16777216 ^ i - ((0 : Nat) : Int) * 16777216 ^ (i + 0) = ((a % 16777216 ^ i : Nat) : Int) * b := by simp
      rw [e]; exact h
end Go.Proofs.Ytohfimjpfnnpgaa.C
