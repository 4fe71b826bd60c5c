/- Words and contracts that the laws of this claim lean on: numbers as limbs, and what the functions make of them. Conditions: those named in each theorem. -/
import Derived.Test.YtohfimjpfnnpgaaOwnWords
import Derived.Test.YtohfimjpfnnpgaaZB0
import Derived.Test.YtohfimjpfnnpgaaZB2
set_option linter.unusedVariables false
set_option linter.unusedSimpArgs false
set_option maxRecDepth 100000
namespace Go.Proofs.Ytohfimjpfnnpgaa.M
open Go.RowKit Go.Proofs.YtohfimjpfnnpgaaW.PrintWords Go.Proofs.YtohfimjpfnnpgaaW.PrintLast Go.Proofs.YtohfimjpfnnpgaaW.PrintMore
/-- With enough rounds g answers r. -/
def Av {α : Type} (g : Nat → Option α) (r : α) : Prop := ∃ k0, ∀ k, k0 ≤ k → g k = some r
theorem Av.pure {α : Type} {g : Nat → Option α} {r : α} (h : ∀ k, g k = some r) : Av g r := ⟨0, fun k _ => h k⟩
theorem Av.ret {α : Type} {r : α} : Av (fun _ => some r) r := ⟨0, fun _ _ => rfl⟩
theorem Av.ret' {α : Type} {r : α} {r' : α} (h : r' = r) : Av (fun _ => some r') r := ⟨0, fun _ _ => by rw [h]⟩
theorem Av.get {α : Type} {g : Nat → Option α} {r : α} (h : Av g r) : ∃ k, g k = some r := let ⟨k, hk⟩ := h; ⟨k, hk k (Nat.le_refl _)⟩
theorem Av.congr {α : Type} {g g' : Nat → Option α} {r : α} (h : ∀ k, g k = g' k) (e : Av g' r) : Av g r := let ⟨k, hk⟩ := e; ⟨k, fun j hj => (h j).trans (hk j hj)⟩
theorem Av.succ {α : Type} {g : Nat → Option α} {r : α} (e : Av (fun k => g (k + 1)) r) : Av g r := by
  obtain ⟨k, hk⟩ := e
  refine ⟨k + 1, fun j hj => ?_⟩
  obtain ⟨m, rfl⟩ : ∃ m, j = m + 1 := ⟨j - 1, by omega⟩
  exact hk m (by omega)
theorem Av.bind {α β : Type} {g : Nat → Option α} {h : Nat → α → Option β} {a : α} {r : β} (ha : Av g a) (hb : Av (fun k => h k a) r) : Av (fun k => (g k).bind (h k)) r := by
  obtain ⟨k1, h1⟩ := ha
  obtain ⟨k2, h2⟩ := hb
  refine ⟨max k1 k2, fun k hk => ?_⟩
  show (g k).bind (h k) = some r
  rw [h1 k (by omega), Option.bind_some]
  exact h2 k (by omega)
theorem Av.bindc {α β : Type} {x : Option α} {h : Nat → α → Option β} {a : α} {r : β} (ha : x = some a) (hb : Av (fun k => h k a) r) : Av (fun k => x.bind (h k)) r := by
  rw [ha]; exact hb
theorem Av.ifp {α : Type} {g : Nat → Option α} {r : α} {h : Nat → Option α} {c : Prop} [Decidable c] (hc : c) (e : Av g r) : Av (fun k => if c then g k else h k) r := by
  simp only [if_pos hc]; exact e
theorem Av.ifn {α : Type} {g : Nat → Option α} {r : α} {h : Nat → Option α} {c : Prop} [Decidable c] (hc : ¬ c) (e : Av h r) : Av (fun k => if c then g k else h k) r := by
  simp only [if_neg hc]; exact e
theorem wr {x : Int} (h0 : -9223372036854775808 ≤ x) (h1 : x < 9223372036854775808) : wrap64 x = x := by unfold wrap64; omega
theorem uw (x : Int) : IntKind.u64.wrap x = x % 18446744073709551616 := by simp [IntKind.wrap, IntKind.bits, IntKind.signed]
theorem ur {x : Int} (h0 : 0 ≤ x) (h1 : x < 18446744073709551616) : IntKind.u64.wrap x = x := by rw [uw]; omega
def dgF (B : Nat) : Nat → Nat → List Int
  | 0, _ => []
  | f + 1, n => if n = 0 then [] else ((n % B : Nat) : Int) :: dgF B f (n / B)
/-- The digits of n to the base B, the lowest first; the last one is not 0. -/
def dg (B n : Nat) : List Int := dgF B n n
theorem dgF_enough (B : Nat) (hB : 2 ≤ B) : ∀ (f n : Nat), n ≤ f → dgF B f n = dgF B n n
  | 0, n, h => by obtain rfl : n = 0 := by omega
                  rfl
  | f + 1, 0, h => rfl
  | f + 1, n + 1, h => by
    have hd : (n + 1) / B ≤ n := by
      have : (n + 1) / B < n + 1 := Nat.div_lt_self (by omega) hB
      omega
    simp only [dgF]
    rw [dgF_enough B hB f _ (by omega), dgF_enough B hB n _ hd]
theorem dg_zero (B : Nat) : dg B 0 = [] := rfl
theorem dg_pos {B n : Nat} (hB : 2 ≤ B) (h : n ≠ 0) : dg B n = ((n % B : Nat) : Int) :: dg B (n / B) := by
  obtain ⟨m, rfl⟩ : ∃ m, n = m + 1 := ⟨n - 1, by omega⟩
  have hd : (m + 1) / B ≤ m := by
    have : (m + 1) / B < m + 1 := Nat.div_lt_self (by omega) hB
    omega
  show dgF B (m + 1) (m + 1) = _
  simp only [dgF]
  rw [if_neg (by omega), dgF_enough B hB m _ hd]
  rfl
/-- The value of digits, by Horner. -/
def vl (B : Nat) : List Int → Int
  | [] => 0
  | x :: xs => x + B * vl B xs
def Digs (B : Nat) (l : List Int) : Prop := ∀ x ∈ l, 0 ≤ x ∧ x < B
theorem Digs.cons {B : Nat} {x : Int} {l : List Int} : Digs B (x :: l) ↔ (0 ≤ x ∧ x < B) ∧ Digs B l := by simp [Digs]
theorem digs_dg {B : Nat} (hB : 2 ≤ B) (n : Nat) : Digs B (dg B n) := by
  induction n using Nat.strongRecOn with
  | _ n ih =>
    by_cases h : n = 0
    · subst h; intro x hx; simp [dg_zero] at hx
    · rw [dg_pos hB h, Digs.cons]
      have := Nat.mod_lt n (show 0 < B by omega)
      exact ⟨⟨by omega, by omega⟩, ih _ (Nat.div_lt_self (by omega) hB)⟩
theorem vl_dg {B : Nat} (hB : 2 ≤ B) (n : Nat) : vl B (dg B n) = n := by
  induction n using Nat.strongRecOn with
  | _ n ih =>
    by_cases h : n = 0
    · subst h; rfl
    · rw [dg_pos hB h]
      simp only [vl]
      rw [ih _ (Nat.div_lt_self (by omega) hB)]
      have := Nat.div_add_mod n B
      have h2 : ((B * (n / B) + n % B : Nat) : Int) = (n : Int) := by rw [this]
      simp only [Int.natCast_add, Int.natCast_mul] at h2
      omega
theorem vl_bound {B : Nat} (hB : 2 ≤ B) : ∀ {l : List Int}, Digs B l → 0 ≤ vl B l ∧ vl B l < (B : Int) ^ l.length
  | [], _ => by simp [vl]
  | x :: xs, h => by
    obtain ⟨hx, hs⟩ := Digs.cons.1 h
    have ih := vl_bound hB hs
    simp only [vl, List.length_cons]
    have hb : (0 : Int) ≤ B := by omega
    constructor
    · have := Int.mul_nonneg hb ih.1
      omega
    · have h1 : vl B xs + 1 ≤ (B : Int) ^ xs.length := by omega
      have h2 := Int.mul_le_mul_of_nonneg_left h1 hb
      rw [Int.mul_add, Int.mul_one] at h2
      have h3 : (B : Int) ^ (xs.length + 1) = B * B ^ xs.length := by rw [Int.pow_succ, Int.mul_comm]
      omega
/-- Digits whose last one is not 0 are the digits of their value. -/
theorem dg_unique {B : Nat} (hB : 2 ≤ B) : ∀ {l : List Int}, Digs B l → (∀ h : l ≠ [], l.getLast h ≠ 0) → l = dg B (vl B l).toNat
  | [], _, _ => rfl
  | x :: xs, h, hl => by
    obtain ⟨hx, hs⟩ := Digs.cons.1 h
    have hb : (0 : Int) ≤ B := by omega
    have ih := dg_unique hB hs (fun hne => by have := hl (by simp); rwa [List.getLast_cons hne] at this)
    have hv := vl_bound hB hs
    obtain ⟨m, hm⟩ := Int.eq_ofNat_of_zero_le hv.1
    obtain ⟨d, rfl⟩ := Int.eq_ofNat_of_zero_le hx.1
    rw [hm] at ih
    simp only [Int.toNat_natCast] at ih
    have hval : vl B ((d : Int) :: xs) = ((d + B * m : Nat) : Int) := by simp only [vl, hm]; simp
    rw [hval, Int.toNat_natCast]
    have hd : d < B := by omega
    have hne : d + B * m ≠ 0 := by
      intro h0
      have hd0 : d = 0 := by omega
      have hm0 : m = 0 := by
        rcases Nat.eq_zero_or_pos m with h1 | h1
        · exact h1
        · have := Nat.mul_pos (show 0 < B by omega) h1
          omega
      subst hd0; subst hm0
      rw [dg_zero] at ih
      subst ih
      exact hl (by simp) (by simp)
    rw [dg_pos hB hne]
    have e1 : (d + B * m) % B = d := by rw [Nat.add_mul_mod_self_left]; exact Nat.mod_eq_of_lt hd
    have e2 : (d + B * m) / B = m := by rw [Nat.add_mul_div_left _ _ (by omega), Nat.div_eq_of_lt hd]; omega
    rw [e1, e2, ← ih]
theorem dg_getD {B : Nat} (hB : 2 ≤ B) : ∀ (j n : Nat), (dg B n).getD j 0 = ((n / B ^ j % B : Nat) : Int)
  | j, 0 => by simp [dg_zero]
  | 0, n + 1 => by rw [dg_pos hB (by omega)]; simp
  | j + 1, n + 1 => by
    rw [dg_pos hB (by omega)]
    simp only [List.getD_cons_succ]
    rw [dg_getD hB j, Nat.div_div_eq_div_mul, Nat.pow_succ, Nat.mul_comm B]
theorem dg_length_lt {B : Nat} (hB : 2 ≤ B) : ∀ (j n : Nat), j < (dg B n).length ↔ B ^ j ≤ n
  | j, 0 => by
    have := Nat.pow_pos (n := j) (show 0 < B by omega)
    simp [dg_zero]
    omega
  | 0, n + 1 => by rw [dg_pos hB (by omega)]; simp
  | j + 1, n + 1 => by
    rw [dg_pos hB (by omega)]
    simp only [List.length_cons, Nat.add_lt_add_iff_right]
    rw [dg_length_lt hB j, Nat.le_div_iff_mul_le (by omega), ← Nat.pow_succ]
theorem dg_length_le {B : Nat} (hB : 2 ≤ B) (j n : Nat) : (dg B n).length ≤ j ↔ n < B ^ j := by
  have := dg_length_lt hB j n
  omega
theorem dg_last {B : Nat} (hB : 2 ≤ B) (n : Nat) (h : n ≠ 0) : (dg B n).getD ((dg B n).length - 1) 0 ≠ 0 := by
  have hl : 0 < (dg B n).length := by rw [dg_length_lt hB]; simp; omega
  have h1 : B ^ ((dg B n).length - 1) ≤ n := by rw [← dg_length_lt hB]; omega
  have h2 : n < B ^ (dg B n).length := (dg_length_le hB _ _).1 (Nat.le_refl _)
  rw [dg_getD hB]
  have hp := Nat.pow_pos (n := (dg B n).length - 1) (show 0 < B by omega)
  have h3 : n / B ^ ((dg B n).length - 1) < B := by
    rw [Nat.div_lt_iff_lt_mul hp]
    have : (dg B n).length = (dg B n).length - 1 + 1 := by omega
    rw [this, Nat.pow_succ, Nat.mul_comm] at h2
    exact h2
  rw [Nat.mod_eq_of_lt h3]
  have := (Nat.le_div_iff_mul_le (k := B ^ ((dg B n).length - 1)) (x := 1) (y := n) hp).2 (by omega)
  omega
/-- Digits in range, of whatever length, and without zeros at the end, are told by their sum. -/
theorem list_is_dg {B : Nat} (hB : 2 ≤ B) {l : List Int} (h : Digs B l) (hl : ∀ h : l ≠ [], l.getLast h ≠ 0) {n : Nat} (hn : vl B l = n) : l = dg B n := by
  have := dg_unique hB h hl
  rw [hn] at this
  exact this
theorem digs_reverse {B : Nat} {a : List Int} : Digs B a.reverse ↔ Digs B a := by unfold Digs; simp
theorem digs_take {B : Nat} {a : List Int} (h : Digs B a) (n : Nat) : Digs B (a.take n) := fun x hx => h x (List.mem_of_mem_take hx)
theorem digs_getD {B : Nat} {a : List Int} (h : Digs B a) (hB : 0 < B) (j : Nat) : 0 ≤ a.getD j 0 ∧ a.getD j 0 < B := by
  by_cases hj : j < a.length
  · rw [List.getD_eq_getElem?_getD, List.getElem?_eq_getElem hj]
    exact h _ (List.getElem_mem hj)
  · rw [List.getD_eq_getElem?_getD, List.getElem?_eq_none (by omega)]
    exact ⟨Int.le_refl _, by simpa using hB⟩
theorem vl_append (B : Nat) : ∀ (a b : List Int), vl B (a ++ b) = vl B a + B ^ a.length * vl B b
  | [], b => by simp [vl]
  | x :: xs, b => by
    simp only [List.cons_append, vl, List.length_cons]
    rw [vl_append B xs b, Int.pow_succ]
    grind
theorem vl_snoc (B : Nat) (a : List Int) (x : Int) : vl B (a ++ [x]) = vl B a + B ^ a.length * x := by
  rw [vl_append]; simp [vl]
theorem mem_bytesOf {s : ByteArray} {x : Int} (h : x ∈ bytesOf s) : 0 ≤ x ∧ x < 256 := by
  unfold bytesOf at h
  obtain ⟨b, _, rfl⟩ := List.mem_map.1 h
  have := b.toNat_lt
  omega
theorem digs_bytesOf (s : ByteArray) : Digs 256 (bytesOf s) := fun x hx => mem_bytesOf hx
theorem bytesOf_strOfNums {xs : List Int} (h : Digs 256 xs) : bytesOf (strOfNums xs) = xs := by
  unfold bytesOf
  rw [strOfNums_data, List.map_map]
  conv => rhs; rw [← List.map_id xs]
  apply List.map_congr_left
  intro x hx
  have := h x hx
  simp only [Function.comp, id]
  have h2 : x.toNat < 256 := by omega
  have : (UInt8.ofNat x.toNat).toNat = x.toNat := by simp [UInt8.toNat_ofNat, Nat.mod_eq_of_lt h2]
  rw [this]; omega
theorem strOfNums_bytesOf (s : ByteArray) : strOfNums (bytesOf s) = s := by
  have h : (strOfNums (bytesOf s)).data.toList = s.data.toList := by
    rw [strOfNums_data]
    unfold bytesOf
    rw [List.map_map]
    conv => rhs; rw [← List.map_id s.data.toList]
    apply List.map_congr_left
    intro b _
    simp
  obtain ⟨⟨l⟩⟩ := s
  have h2 := congrArg List.toArray h
  simp only [Array.toArray_toList] at h2
  generalize hq : strOfNums (bytesOf (ByteArray.mk ⟨l⟩)) = q at h2
  obtain ⟨d⟩ := q
  simp only at h2
  rw [h2]
theorem bytesOf_inj {s t : ByteArray} (h : bytesOf s = bytesOf t) : s = t := by rw [← strOfNums_bytesOf s, h, strOfNums_bytesOf]
theorem toList_loop (s : ByteArray) : ∀ (n i : Nat) (r : List UInt8), n = s.size - i → ByteArray.toList.loop s i r = r.reverse ++ s.data.toList.drop i
  | 0, i, r, h => by
    unfold ByteArray.toList.loop
    rw [if_neg (by omega), List.drop_of_length_le (by rw [data_length]; omega), List.append_nil]
  | n + 1, i, r, h => by
    unfold ByteArray.toList.loop
    have hi : i < s.size := by omega
    have hl : i < s.data.toList.length := by rw [data_length]; exact hi
    rw [if_pos hi, toList_loop s n (i + 1) _ (by omega), List.drop_eq_getElem_cons hl]
    have e : s.get! i = s.data.toList[i] := by
      have h2 : i < s.data.size := hi
      simp only [ByteArray.get!]
      rw [getElem!_pos s.data i h2]
      simp
    rw [e]
    simp
theorem toList_data (s : ByteArray) : s.toList = s.data.toList := by
  unfold ByteArray.toList
  rw [toList_loop s s.size 0 [] (by omega)]
  simp
theorem toList_eq_iff {s t : ByteArray} : s.toList = t.toList ↔ s = t := by
  constructor
  · intro h
    rw [toList_data, toList_data] at h
    apply bytesOf_inj
    unfold bytesOf
    rw [h]
  · rintro rfl; rfl
theorem toList_nil_iff {s : ByteArray} : s.toList = ([] : List UInt8) ↔ s.size = 0 := by
  rw [toList_data, ← data_length]
  constructor
  · intro h; rw [h]; rfl
  · exact List.eq_nil_of_length_eq_zero
/-- The number of a text's bytes, the highest first. -/
def bv (s : ByteArray) : Nat := (vl 256 (bytesOf s).reverse).toNat
/-- The text of a number: its bytes, the highest first, none of them 0 ahead. -/
def bts (n : Nat) : ByteArray := strOfNums (dg 256 n).reverse
theorem bv_val (s : ByteArray) : vl 256 (bytesOf s).reverse = bv s := by
  have := (vl_bound (B := 256) (by decide) (digs_reverse.2 (digs_bytesOf s))).1
  unfold bv; omega
theorem bv_lt (s : ByteArray) : bv s < 256 ^ s.size := by
  have h := (vl_bound (B := 256) (by decide) (digs_reverse.2 (digs_bytesOf s))).2
  rw [bv_val, List.length_reverse, bytesOf_length] at h
  have : ((bv s : Nat) : Int) < ((256 ^ s.size : Nat) : Int) := by rw [Int.natCast_pow]; exact h
  omega
theorem bytesOf_bts (n : Nat) : bytesOf (bts n) = (dg 256 n).reverse := bytesOf_strOfNums (digs_reverse.2 (digs_dg (by decide) n))
theorem bts_size (n : Nat) : (bts n).size = (dg 256 n).length := by rw [← bytesOf_length, bytesOf_bts, List.length_reverse]
theorem bv_bts (n : Nat) : bv (bts n) = n := by
  unfold bv
  rw [bytesOf_bts, List.reverse_reverse, vl_dg (by decide)]; rfl
theorem bts_size_le (n j : Nat) : (bts n).size ≤ j ↔ n < 256 ^ j := by rw [bts_size, dg_length_le (by decide)]
theorem bts_size_lt (n j : Nat) : j < (bts n).size ↔ 256 ^ j ≤ n := by rw [bts_size, dg_length_lt (by decide)]
/-- Byte i of a text of a number. -/
theorem bt_rev (s : ByteArray) (j : Nat) (h : j < s.size) : bt s ((s.size : Int) - 1 - j) = ((bv s / 256 ^ j % 256 : Nat) : Int) := by
  have hb := digs_reverse.2 (digs_bytesOf s)
  have hd : ∀ (l : List Int) (j : Nat), Digs 256 l → l.getD j 0 = (((vl 256 l).toNat / 256 ^ j % 256 : Nat) : Int) := by
    intro l
    induction l with
    | nil => intro j _; simp [vl]
    | cons x xs ih =>
      intro j hx
      obtain ⟨h1, h2⟩ := Digs.cons.1 hx
      have hv := (vl_bound (B := 256) (by decide) h2).1
      cases j with
      | zero => simp only [List.getD_cons_zero, vl, Nat.pow_zero, Nat.div_one]; omega
      | succ j =>
        simp only [List.getD_cons_succ, vl]
        rw [ih j h2, Nat.pow_succ, Nat.mul_comm, ← Nat.div_div_eq_div_mul]
        have : (x + ((256 : Nat) : Int) * vl 256 xs).toNat / 256 = (vl 256 xs).toNat := by omega
        rw [this]
  have := hd _ j hb
  rw [← rd_bytesOf]
  unfold rd bv
  rw [← this]
  have hlen := bytesOf_length s
  rw [List.getD_eq_getElem?_getD, List.getD_eq_getElem?_getD, List.getElem?_reverse (by omega)]
  have e : ((s.size : Int) - 1 - j).toNat = (bytesOf s).length - 1 - j := by omega
  rw [e]
theorem bt_first (s : ByteArray) (h : 0 < s.size) : bt s 0 = ((bv s / 256 ^ (s.size - 1) : Nat) : Int) := by
  have h1 := bt_rev s (s.size - 1) (by omega)
  have e : (s.size : Int) - 1 - ((s.size - 1 : Nat) : Int) = 0 := by omega
  rw [e] at h1
  rw [h1]
  have h2 := bv_lt s
  have h3 : bv s / 256 ^ (s.size - 1) < 256 := by
    rw [Nat.div_lt_iff_lt_mul (Nat.pow_pos (by decide))]
    have : s.size = s.size - 1 + 1 := by omega
    rw [this, Nat.pow_succ, Nat.mul_comm] at h2
    exact h2
  rw [Nat.mod_eq_of_lt h3]
/-- A text without a byte 0 ahead is the text of its number. -/
theorem bts_bv (s : ByteArray) (h : 0 < s.size → bt s 0 ≠ 0) : bts (bv s) = s := by
  apply bytesOf_inj
  rw [bytesOf_bts, ← List.reverse_reverse (bytesOf s)]
  congr 1
  symm
  apply list_is_dg (by decide) (digs_reverse.2 (digs_bytesOf s)) ?_ (bv_val s)
  intro hne
  rw [List.getLast_reverse]
  have hl := bytesOf_length s
  have hpos : 0 < (bytesOf s).length := by
    rcases Nat.eq_zero_or_pos (bytesOf s).length with h0 | h0
    · exfalso; apply hne; rw [List.eq_nil_of_length_eq_zero h0]; rfl
    · exact h0
  have h1 := h (by omega)
  rw [← rd_bytesOf] at h1
  unfold rd at h1
  rw [List.head_eq_getElem]
  rw [List.getD_eq_getElem?_getD, List.getElem?_eq_getElem (by simpa using hpos)] at h1
  exact h1
/-- Is a text a great number? -/
def gok (s : ByteArray) : Bool := decide (s.size ≤ 160) && (decide (s.size = 0) || decide (bt s 0 ≠ 0))
theorem gok_iff {s : ByteArray} : gok s = true ↔ s.size ≤ 160 ∧ (s.size = 0 ∨ bt s 0 ≠ 0) := by simp [gok]
/-- The bound of great numbers. -/
def GB : Nat := 256 ^ 160
theorem gok_bts {n : Nat} : gok (bts n) = true ↔ n < GB := by
  rw [gok_iff, bts_size_le]
  constructor
  · exact fun h => h.1
  · intro h
    refine ⟨h, ?_⟩
    by_cases h0 : n = 0
    · left; subst h0; rfl
    · right
      have hp : 0 < (bts n).size := by rw [bts_size_lt]; simp; omega
      rw [bt_first _ hp, bv_bts]
      have h1 : 256 ^ ((bts n).size - 1) ≤ n := by rw [← bts_size_lt]; omega
      have := Nat.div_pos h1 (Nat.pow_pos (by decide))
      omega
/-- A great number is the text of a number below the bound. -/
theorem gok_cases {s : ByteArray} (h : gok s = true) : ∃ n, n < GB ∧ s = bts n := by
  obtain ⟨h1, h2⟩ := gok_iff.1 h
  have e := bts_bv s (fun hp => by rcases h2 with h2 | h2; · omega
                                   · exact h2)
  exact ⟨bv s, by rw [← gok_bts, e]; exact h, e.symm⟩
end Go.Proofs.Ytohfimjpfnnpgaa.M
namespace Go.Proofs.Ytohfimjpfnnpgaa.C
open Go.RowKit Go.Proofs.YtohfimjpfnnpgaaW.PrintWords Go.Proofs.YtohfimjpfnnpgaaW.PrintLast Go.Proofs.YtohfimjpfnnpgaaW.PrintMore
open Go.Proofs.Ytohfimjpfnnpgaa.M Go.Proofs.Ytohfimjpfnnpgaa.F
/-- The limbs of a number: 64 bits each in the program, 24 bits each in the reference. -/
abbrev D (n : Nat) : List Int := dg 18446744073709551616 n
abbrev E (n : Nat) : List Int := dg 16777216 n
theorem D_lt (j n : Nat) : j < (D n).length ↔ 18446744073709551616 ^ j ≤ n := dg_length_lt (by decide) j n
theorem D_le (j n : Nat) : (D n).length ≤ j ↔ n < 18446744073709551616 ^ j := dg_length_le (by decide) j n
theorem E_le (j n : Nat) : (E n).length ≤ j ↔ n < 16777216 ^ j := dg_length_le (by decide) j n
theorem rdD (n j : Nat) : rd (D n) (j : Int) = ((n / 18446744073709551616 ^ j % 18446744073709551616 : Nat) : Int) := by
  unfold rd; rw [Int.toNat_natCast, dg_getD (by decide)]
theorem gok_f (s : ByteArray) : impl_GreatOk.f s = some (gok s) := by
  unfold impl_GreatOk.f gok
  by_cases h1 : (s.size : Int) ≤ 160
  · rw [if_pos h1]
    by_cases h2 : s.size = 0
    · rw [if_pos (toList_nil_iff.2 h2)]; simp [h2]
    · rw [if_neg (fun h => h2 (toList_nil_iff.1 h)), if_pos (by omega)]
      have h3 : s.size ≤ 160 := by omega
      simp [h2, h3]
      by_cases hb : bt s 0 = 0 <;> simp [hb]
  · rw [if_neg h1]
    have h3 : ¬ s.size ≤ 160 := by omega
    simp [h3]
theorem gok_s (s : ByteArray) : spec_GreatOk.f s = some (gok s) := gok_f s
theorem vl_take_succ (B : Nat) (l : List Int) (m : Nat) : vl B (l.take (m + 1)) = vl B (l.take m) + B ^ m * l.getD m 0 := by
  by_cases h : m < l.length
  · rw [List.take_succ_eq_append_getElem h, vl_snoc, List.length_take, Nat.min_eq_left (by omega), List.getD_eq_getElem?_getD, List.getElem?_eq_getElem h]
    rfl
  · rw [List.take_of_length_le (by omega), List.take_of_length_le (by omega), List.getD_eq_getElem?_getD, List.getElem?_eq_none (by omega)]
    simp
theorem take_is_dg {B : Nat} (hB : 2 ≤ B) {l : List Int} (h : Digs B l) (m : Nat) (hm : m ≤ l.length) (h0 : m = 0 ∨ l.getD (m - 1) 0 ≠ 0) : l.take m = dg B (vl B (l.take m)).toNat := by
  apply dg_unique hB (digs_take h m)
  intro hne
  have hl : (l.take m).length = m := by rw [List.length_take]; omega
  have hm0 : m ≠ 0 := by rintro rfl; exact hne (by simp)
  rcases h0 with h0 | h0
  · exact absurd h0 hm0
  · rw [List.getLast_eq_getElem]
    intro he
    apply h0
    rw [List.getD_eq_getElem?_getD, List.getElem?_eq_getElem (by omega)]
    simp only [List.getElem_take, hl] at he
    exact he
theorem trim_f_loop : ∀ (m : Nat) {l : List Int}, l.length = m → Digs 18446744073709551616 l → l.length < 4611686018427387904 → Av (fun k => impl_nat_trim.l0 k l) (D (vl 18446744073709551616 l).toNat)
  | 0, l, hm, h, hl => by
    obtain rfl := List.eq_nil_of_length_eq_zero hm
    refine Av.succ ?_
    simp only [impl_nat_trim.l0]
    exact Av.ifn (by simp) Av.ret
  | m + 1, l, hm, h, hl => by
    have hm' : (rd l ((l.length : Int) - 1)) = l.getD m 0 := by unfold rd; congr 1; omega
    refine Av.succ ?_
    simp only [impl_nat_trim.l0]
    simp (disch := omega) only [wr, if_pos, if_neg]
    have hv := vl_take_succ 18446744073709551616 l m
    rw [List.take_of_length_le (by omega)] at hv
    by_cases h0 : l.getD m 0 = 0
    · refine Av.ifp (by rw [hm', h0]) ?_
      have e : ((l.length : Int) - 1).toNat = m := by omega
      rw [e, hv, h0, Int.mul_zero, Int.add_zero]
      exact trim_f_loop m (by rw [List.length_take]; omega) (digs_take h m) (by rw [List.length_take]; omega)
    · refine Av.ifn (by rw [hm']; exact h0) ?_
      refine Av.ret' ?_
      have := take_is_dg (by decide) h (m + 1) (by omega) (.inr (by simpa using h0))
      rwa [List.take_of_length_le (by omega)] at this
theorem trim_f {l : List Int} (h : Digs 18446744073709551616 l) (hl : l.length < 4611686018427387904) : Av (fun k => impl_nat_trim.f k l) (D (vl 18446744073709551616 l).toNat) :=
  trim_f_loop l.length rfl h hl
theorem trim_f' {l : List Int} {n : Nat} (h : Digs 18446744073709551616 l) (hl : l.length < 4611686018427387904) (hn : vl 18446744073709551616 l = n) : Av (fun k => impl_nat_trim.f k l) (D n) := by
  have := trim_f h hl
  rw [hn, Int.toNat_natCast] at this
  exact this
theorem small_f (n : Nat) (h : n < 18446744073709551616) : Av (fun k => impl_small.f k n) (D n) := by
  unfold impl_small.f
  refine Av.bind (a := D n) ?_ Av.ret
  rw [ur (by omega) (by omega)]
  exact trim_f' (by intro x hx; simp at hx; subst hx; constructor <;> omega) (by simp) (by simp [vl])
/-- Digits that agree from place m on: what lies below decides. -/
theorem cmp_digits {B : Nat} (hB : 2 ≤ B) {a b m : Nat} (hab : ∀ j, m < j → a / B ^ j % B = b / B ^ j % B) (hl : a / B ^ m % B < b / B ^ m % B) (hsame : ∃ L, a < B ^ L ∧ b < B ^ L) : a < b := by
  have key : ∀ L, a < B ^ L → b < B ^ L → a / B ^ (m + 1) = b / B ^ (m + 1) := by
    intro L ha hb
    have : ∀ d j, L - j = d → m < j → a / B ^ j = b / B ^ j := by
      intro d
      induction d with
      | zero =>
        intro j hj _
        have hp : B ^ L ≤ B ^ j := Nat.pow_le_pow_right (by omega) (by omega)
        rw [Nat.div_eq_of_lt (by omega), Nat.div_eq_of_lt (by omega)]
      | succ d ih =>
        intro j hj hmj
        have h1 := ih (j + 1) (by omega) (by omega)
        have h2 := hab j hmj
        rw [Nat.pow_succ, ← Nat.div_div_eq_div_mul, ← Nat.div_div_eq_div_mul] at h1
        have e1 := Nat.div_add_mod (a / B ^ j) B
        have e2 := Nat.div_add_mod (b / B ^ j) B
        rw [h1, h2] at e1
        omega
    exact this _ (m + 1) rfl (by omega)
  obtain ⟨L, ha, hb⟩ := hsame
  have h1 := key L ha hb
  rw [Nat.pow_succ, ← Nat.div_div_eq_div_mul, ← Nat.div_div_eq_div_mul] at h1
  have e1 := Nat.div_add_mod (a / B ^ m) B
  have e2 := Nat.div_add_mod (b / B ^ m) B
  rw [h1] at e1
  have h2 : a / B ^ m < b / B ^ m := by omega
  have hp := Nat.pow_pos (n := m) (show 0 < B by omega)
  rcases Nat.lt_or_ge a b with h | h
  · exact h
  · have := Nat.div_le_div_right (c := B ^ m) h
    omega
theorem eq_digits {B : Nat} (hB : 2 ≤ B) {a b : Nat} (hab : ∀ j, a / B ^ j % B = b / B ^ j % B) : a = b := by
  have h1 : dg B a = dg B b := by
    have : ∀ x y : Nat, (∀ j, x / B ^ j % B = y / B ^ j % B) → (dg B x).length ≤ (dg B y).length := by
      intro x y h
      rw [dg_length_le hB]
      rcases Nat.lt_or_ge x (B ^ (dg B y).length) with h1 | h1
      · exact h1
      · exfalso
        have hx : x ≠ 0 := by have := Nat.pow_pos (n := (dg B y).length) (show 0 < B by omega); omega
        have hl := (dg_length_lt hB _ _).2 h1
        have h2 := dg_last hB x hx
        rw [dg_getD hB, h] at h2
        apply h2
        have h3 : y < B ^ ((dg B x).length - 1) := by
          refine Nat.lt_of_lt_of_le ((dg_length_le hB _ _).1 (Nat.le_refl _)) (Nat.pow_le_pow_right (by omega) (by omega))
        rw [Nat.div_eq_of_lt h3]; simp
    have hlen : (dg B a).length = (dg B b).length := Nat.le_antisymm (this a b hab) (this b a (fun j => (hab j).symm))
    apply List.ext_getElem? 
    intro j
    by_cases hj : j < (dg B a).length
    · have e1 := dg_getD hB j a
      have e2 := dg_getD hB j b
      rw [List.getD_eq_getElem?_getD, List.getElem?_eq_getElem hj] at e1
      rw [List.getD_eq_getElem?_getD, List.getElem?_eq_getElem (by omega)] at e2
      rw [List.getElem?_eq_getElem hj, List.getElem?_eq_getElem (by omega)]
      simp only [Option.getD_some] at e1 e2
      rw [e1, e2, hab j]
    · rw [List.getElem?_eq_none (by omega), List.getElem?_eq_none (by omega)]
  have := congrArg (vl B) h1
  rw [vl_dg hB, vl_dg hB] at this
  omega
theorem rd_dg {B : Nat} (hB : 2 ≤ B) (n j : Nat) : rd (dg B n) (j : Int) = ((n / B ^ j % B : Nat) : Int) := by
  unfold rd; rw [Int.toNat_natCast, dg_getD hB]
/-- The sign of a comparison. -/
def sgn (a b : Nat) : Int := if a < b then -1 else if a = b then 0 else 1
theorem cmp_f_loop (a b : Nat) (hl : (D a).length = (D b).length) (hl2 : (D a).length < 4611686018427387904) : ∀ m : Nat, m ≤ (D a).length → (∀ j, m ≤ j → a / 18446744073709551616 ^ j % 18446744073709551616 = b / 18446744073709551616 ^ j % 18446744073709551616) → Av (fun k => impl_nat_cmp.l0 k (D a) (D b) ((m : Int) - 1)) (sgn a b)
  | 0, _, hab => by
    refine Av.succ ?_
    simp only [impl_nat_cmp.l0]
    refine Av.ifn (by omega) ?_
    refine Av.ret' ?_
    have := eq_digits (B := 18446744073709551616) (by decide) (fun j => hab j (by omega))
    subst this
    simp [sgn]
  | m + 1, hm, hab => by
    refine Av.succ ?_
    simp only [impl_nat_cmp.l0]
    have e : (((m + 1 : Nat) : Int) - 1) = (m : Int) := by omega
    rw [e]
    simp (disch := omega) only [wr, if_pos, if_neg]
    rw [rd_dg (by decide), rd_dg (by decide)]
    have hs : ∃ L, a < 18446744073709551616 ^ L ∧ b < 18446744073709551616 ^ L := ⟨(D a).length, (dg_length_le (by decide) _ _).1 (Nat.le_refl _), (dg_length_le (by decide) _ _).1 (by rw [hl]; exact Nat.le_refl _)⟩
    by_cases h0 : a / 18446744073709551616 ^ m % 18446744073709551616 = b / 18446744073709551616 ^ m % 18446744073709551616
    · refine Av.ifp (by rw [h0]) ?_
      refine cmp_f_loop a b hl hl2 m (by omega) (fun j hj => ?_)
      by_cases hjm : j = m
      · rw [hjm]; exact h0
      · exact hab j (by omega)
    · refine Av.ifn (by omega) ?_
      by_cases h1 : a / 18446744073709551616 ^ m % 18446744073709551616 < b / 18446744073709551616 ^ m % 18446744073709551616
      · refine Av.ifp (by omega) (Av.ret' ?_)
        have := cmp_digits (by decide) (fun j hj => hab j (by omega)) h1 hs
        simp [sgn, this]
      · refine Av.ifn (by omega) (Av.ret' ?_)
        have := cmp_digits (by decide) (fun j hj => (hab j (by omega)).symm) (show b / 18446744073709551616 ^ m % 18446744073709551616 < a / 18446744073709551616 ^ m % 18446744073709551616 by omega) (hs.imp fun L h => ⟨h.2, h.1⟩)
        unfold sgn; rw [if_neg (by omega), if_neg (by omega)]
theorem len_lt {B : Nat} (hB : 2 ≤ B) {a b : Nat} (h : (dg B a).length < (dg B b).length) : a < b := by
  have h1 := (dg_length_le hB (dg B a).length a).1 (Nat.le_refl _)
  have h2 := (dg_length_lt hB (dg B a).length b).1 h
  omega
/-- What cmp answers: its sign is the comparison's. -/
def cmpv (a b : Nat) : Int := if (D a).length = (D b).length then sgn a b else ((D a).length : Int) - (D b).length
theorem cmpv_neg {a b : Nat} : cmpv a b < 0 ↔ a < b := by
  unfold cmpv sgn
  by_cases h : (D a).length = (D b).length
  · rw [if_pos h]; repeat' split
    all_goals omega
  · rw [if_neg h]
    constructor
    · intro h1; exact len_lt (by decide) (show (D a).length < (D b).length by omega)
    · intro h1
      rcases Nat.lt_or_ge (D a).length (D b).length with h2 | h2
      · omega
      · have := len_lt (by decide) (show (D b).length < (D a).length by omega)
        omega
theorem cmpv_zero {a b : Nat} : cmpv a b = 0 ↔ a = b := by
  unfold cmpv sgn
  by_cases h : (D a).length = (D b).length
  · rw [if_pos h]; repeat' split
    all_goals omega
  · rw [if_neg h]
    constructor
    · intro h1; omega
    · rintro rfl; omega
theorem cmpv_pos {a b : Nat} : 0 < cmpv a b ↔ b < a := by
  have h1 := @cmpv_neg a b
  have h2 := @cmpv_zero a b
  omega
theorem cmp_f (a b : Nat) (ha : (D a).length < 4611686018427387904) (hb : (D b).length < 4611686018427387904) : Av (fun k => impl_nat_cmp.f k (D a) (D b)) (cmpv a b) := by
  unfold impl_nat_cmp.f cmpv
  by_cases h : (D a).length = (D b).length
  · refine Av.ifp (by omega) ?_
    rw [if_pos h, wr (by omega) (by omega)]
    refine cmp_f_loop a b h ha _ (Nat.le_refl _) (fun j hj => ?_)
    have h1 := (dg_length_le (B := 18446744073709551616) (by decide) j a).1 hj
    have h2 := (dg_length_le (B := 18446744073709551616) (by decide) j b).1 (by rw [← h]; exact hj)
    rw [Nat.div_eq_of_lt h1, Nat.div_eq_of_lt h2]
  · refine Av.ifn (by omega) ?_
    rw [if_neg h, wr (by omega) (by omega)]
    exact Av.ret
theorem td {a b : Int} (h : 0 ≤ a) : a.tdiv b = a / b := Int.tdiv_eq_ediv_of_nonneg h
theorem tm {a b : Int} (h : 0 ≤ a) : a.tmod b = a % b := Int.tmod_eq_emod_of_nonneg h
theorem vl_set (B : Nat) : ∀ (l : List Int) (i : Nat) (v : Int), i < l.length → vl B (l.set i v) = vl B l + (v - l.getD i 0) * B ^ i
  | [], i, v, h => by simp at h
  | x :: xs, 0, v, h => by simp [vl]; omega
  | x :: xs, i + 1, v, h => by
    have ih := vl_set B xs i v (by simpa using h)
    simp only [List.set_cons_succ, vl, List.getD_cons_succ]
    rw [ih, Int.pow_succ]
    grind
theorem digs_set {B : Nat} {l : List Int} {i : Nat} {v : Int} (h : Digs B l) (hv : 0 ≤ v ∧ v < B) : Digs B (l.set i v) := by
  intro x hx
  rcases List.mem_or_eq_of_mem_set hx with h1 | h1
  · exact h x h1
  · rw [h1]; exact hv
theorem getD_set {l : List Int} {i j : Nat} {v : Int} (h : i < l.length) : (l.set i v).getD j 0 = if i = j then v else l.getD j 0 := by
  rw [List.getD_eq_getElem?_getD, List.getElem?_set]
  by_cases e : i = j
  · rw [if_pos e, if_pos e, if_pos h]; rfl
  · rw [if_neg e, if_neg e, List.getD_eq_getElem?_getD]
theorem vl_zeros (B n : Nat) : vl B (List.replicate n 0) = 0 := by
  induction n with
  | zero => rfl
  | succ n ih => rw [List.replicate_succ]; simp [vl, ih]
theorem digs_zeros {B : Nat} (hB : 0 < B) (n : Nat) : Digs B (List.replicate n 0) := by
  intro x hx
  have := List.eq_of_mem_replicate hx
  omega
theorem getD_zeros (n j : Nat) : (List.replicate n (0 : Int)).getD j 0 = 0 := by
  rw [List.getD_eq_getElem?_getD, List.getElem?_replicate]; split <;> rfl
theorem or8 (r : Nat) (hr : r < 8) {x b : Int} (hx : x % 256 ^ (r + 1) = 0) (h0 : 0 ≤ x) (h1 : x < 18446744073709551616) (hb : 0 ≤ b) (hb1 : b < 256) :
    Go.bits .or .u64 x (shl .u64 b (8 * r)) = x + b * 256 ^ r := by
  have key : ∀ (i : Nat) (y : Int), i ≤ 64 → x % 2 ^ i = 0 → 0 ≤ y → y < 2 ^ i → y < 2 ^ 64 → Go.bits .or .u64 x y = x + y := fun i y hi hx hy hy1 hy2 =>
    bits_join .u64 64 (by decide) (fun n h0 h1 => ur h0 (by simpa using h1)) i x y h0 hx (by simpa using h1) hy hy1 hy2
  have hs : shl .u64 b (8 * r) = b * 256 ^ r := by
    unfold shl
    have : r = 0 ∨ r = 1 ∨ r = 2 ∨ r = 3 ∨ r = 4 ∨ r = 5 ∨ r = 6 ∨ r = 7 := by omega
    rcases this with rfl | rfl | rfl | rfl | rfl | rfl | rfl | rfl <;> (simp only [IntKind.bits]; rw [uw]; simp; try omega)
  rw [hs]
  have : r = 0 ∨ r = 1 ∨ r = 2 ∨ r = 3 ∨ r = 4 ∨ r = 5 ∨ r = 6 ∨ r = 7 := by omega
  rcases this with rfl | rfl | rfl | rfl | rfl | rfl | rfl | rfl
  · exact key 8 _ (by decide) (by simpa using hx) (by omega) (by simp; omega) (by simp; omega)
  · exact key 16 _ (by decide) (by simpa using hx) (by omega) (by simp; omega) (by simp; omega)
  · exact key 24 _ (by decide) (by simpa using hx) (by omega) (by simp; omega) (by simp; omega)
  · exact key 32 _ (by decide) (by simpa using hx) (by omega) (by simp; omega) (by simp; omega)
  · exact key 40 _ (by decide) (by simpa using hx) (by omega) (by simp; omega) (by simp; omega)
  · exact key 48 _ (by decide) (by simpa using hx) (by omega) (by simp; omega) (by simp; omega)
  · exact key 56 _ (by decide) (by simpa using hx) (by omega) (by simp; omega) (by simp; omega)
  · exact key 64 _ (by decide) (by simpa using hx) (by omega) (by simp; omega) (by simp; omega)
/-- What natOf's limbs hold when the bytes above place m are in. -/
structure NInv (N m : Nat) (l : List Int) : Prop where
  digs : Digs 18446744073709551616 l
  val : vl 18446744073709551616 l = ((N / 256 ^ m * 256 ^ m : Nat) : Int)
  low : ∀ q, 8 * q + 8 ≤ m → l.getD q 0 = 0
  part : l.getD (m / 8) 0 % 256 ^ (m % 8) = 0
theorem pow_split (m : Nat) : (256 : Int) ^ (m % 8) * 18446744073709551616 ^ (m / 8) = 256 ^ m := by
  have e : (18446744073709551616 : Int) = 256 ^ 8 := by decide
  rw [e, ← Int.pow_mul, ← Int.pow_add]
  congr 1; omega
theorem NInv.step {N m : Nat} {l : List Int} (h : NInv N (m + 1) l) (hl : m / 8 < l.length) :
    l.getD (m / 8) 0 % 256 ^ (m % 8 + 1) = 0 ∧ NInv N m (l.set (m / 8) (l.getD (m / 8) 0 + ((N / 256 ^ m % 256 : Nat) : Int) * 256 ^ (m % 8))) := by
  have hb : N / 256 ^ m % 256 < 256 := Nat.mod_lt _ (by decide)
  generalize hbv : N / 256 ^ m % 256 = b at hb
  have hx := digs_getD h.digs (by decide) (m / 8)
  generalize hxv : l.getD (m / 8) 0 = x at hx
  have hal : x % 256 ^ (m % 8 + 1) = 0 := by
    by_cases h8 : m % 8 = 7
    · have := h.low (m / 8) (by omega)
      rw [hxv] at this; subst this; simp
    · have := h.part
      have e1 : (m + 1) / 8 = m / 8 := by omega
      have e2 : (m + 1) % 8 = m % 8 + 1 := by omega
      rw [e1, e2, hxv] at this
      exact this
  have hr : 0 ≤ x + (b : Int) * 256 ^ (m % 8) ∧ x + (b : Int) * 256 ^ (m % 8) < 18446744073709551616 ∧ (x + (b : Int) * 256 ^ (m % 8)) % 256 ^ (m % 8) = 0 := by
    have : m % 8 < 8 := by omega
    generalize m % 8 = r at this hal
    have : r = 0 ∨ r = 1 ∨ r = 2 ∨ r = 3 ∨ r = 4 ∨ r = 5 ∨ r = 6 ∨ r = 7 := by omega
    rcases this with rfl | rfl | rfl | rfl | rfl | rfl | rfl | rfl <;> simp at hal ⊢ <;> simp at hx <;> omega
  refine ⟨hal, digs_set h.digs ⟨hr.1, by simpa using hr.2.1⟩, ?_, ?_, ?_⟩
  · rw [vl_set _ _ _ _ hl, h.val, hxv]
    have e : x + (b : Int) * 256 ^ (m % 8) - x = b * 256 ^ (m % 8) := by omega
    have e2 : (((18446744073709551616 : Nat) : Int)) = 18446744073709551616 := rfl
    rw [e, e2, Int.mul_assoc, pow_split]
    have h1 := Nat.div_add_mod (N / 256 ^ m) 256
    rw [Nat.div_div_eq_div_mul, ← Nat.pow_succ, hbv] at h1
    have h2 : N / 256 ^ m * 256 ^ m = N / 256 ^ (m + 1) * 256 ^ (m + 1) + b * 256 ^ m := by
      rw [← h1, Nat.add_mul, Nat.pow_succ]
      congr 1
      rw [Nat.mul_comm 256, Nat.mul_assoc, Nat.mul_comm 256]
    rw [h2]
    simp
  · intro q hq
    rw [getD_set hl, if_neg (by omega)]
    exact h.low q (by omega)
  · rw [getD_set hl, if_pos rfl]
    exact hr.2.2
theorem NInv.start {N m L : Nat} (h : N < 256 ^ m) : NInv N m (List.replicate L 0) :=
  ⟨digs_zeros (by decide) _, by rw [vl_zeros, Nat.div_eq_of_lt h]; simp, fun q _ => getD_zeros _ _, by rw [getD_zeros]; simp⟩
theorem natOf_loop (s : ByteArray) (hs : s.size < 4611686018427387904) : ∀ (m : Nat) (l : List Int), m ≤ s.size → l.length = (s.size + 7) / 8 → NInv (bv s) m l → Av (fun k => impl_natOf.l0 k s l s.size ((s.size : Int) - m)) (D (bv s))
  | 0, l, hm, hl, h => by
    refine Av.succ ?_
    simp only [impl_natOf.l0]
    refine Av.ifn (by omega) ?_
    refine Av.bind ?_ Av.ret
    refine trim_f' h.digs (by omega) ?_
    have := h.val
    simpa using this
  | m + 1, l, hm, hl, h => by
    refine Av.succ ?_
    simp only [impl_natOf.l0]
    obtain ⟨hal, hst⟩ := h.step (show m / 8 < l.length by omega)
    have e1 : (s.size : Int) - 1 - ((s.size : Int) - ((m + 1 : Nat) : Int)) = m := by omega
    have hbt := bt_rev s m (by omega)
    have e2 : (s.size : Int) - ((m + 1 : Nat) : Int) = (s.size : Int) - 1 - m := by omega
    have hb := bt_range s ((s.size : Int) - 1 - m)
    have hb' := bt_range s ((s.size : Int) - ((m + 1 : Nat) : Int))
    simp (disch := omega) only [wr, td, tm, ur, if_pos, if_neg, e1]
    have e3 : ((m : Int) / 8).toNat = m / 8 := by omega
    have e4 : ((s.size : Int) - ((m + 1 : Nat) : Int) + 1) = (s.size : Int) - m := by omega
    have hx := digs_getD h.digs (by decide) (m / 8)
    have e5 : Go.bits .or .u64 (rd l ((m : Int) / 8)) (shl .u64 (bt s ((s.size : Int) - ((m + 1 : Nat) : Int))) (8 * ((m : Int) % 8))) = l.getD (m / 8) 0 + ((bv s / 256 ^ m % 256 : Nat) : Int) * 256 ^ (m % 8) := by
      have h8 := or8 (m % 8) (by omega) (x := l.getD (m / 8) 0) (b := bt s ((s.size : Int) - 1 - m)) hal hx.1 hx.2 (by omega) (by omega)
      rw [← hbt, ← h8]
      unfold rd
      rw [e2, e3]
      congr 2
    rw [e3, e4, e5]
    exact natOf_loop s hs m _ (by omega) (by rw [List.length_set]; exact hl) hst
theorem natOf_f (s : ByteArray) (hs : s.size < 281474976710656) : Av (fun k => impl_natOf.f k s) (D (bv s)) := by
  unfold impl_natOf.f
  simp (disch := omega) only [wr, td, if_pos, if_neg]
  have e : (((s.size : Int) + 7) / 8).toNat = (s.size + 7) / 8 := by omega
  rw [e]
  have := natOf_loop s (by omega) s.size (List.replicate ((s.size + 7) / 8) 0) (Nat.le_refl _) (by simp) (NInv.start (bv_lt s))
  simpa using this
/-- Sums of small numbers aren't wrapped. -/
theorem wrap_add {a b : Nat} (h : a + b < 4611686018427387904) : wrap64 ((a : Int) + b) = ((a + b : Nat) : Int) := by rw [wr (by omega) (by omega)]; omega
theorem wrap_one {a : Nat} (h : a < 4611686018427387904) : wrap64 ((a : Int) + 1) = ((a + 1 : Nat) : Int) := by rw [wr (by omega) (by omega)]; omega
theorem wrap_pred {a : Nat} (h : a < 4611686018427387904) (hb : 1 ≤ a) : wrap64 ((a : Int) - 1) = ((a - 1 : Nat) : Int) := by rw [wr (by omega) (by omega)]; omega
theorem mod_step (B a i : Nat) : ((a % B ^ (i + 1) : Nat) : Int) = (a % B ^ i : Nat) + ((a / B ^ i % B : Nat) : Int) * (B : Int) ^ i := by
  rw [Nat.mod_pow_succ, Int.natCast_add, Int.natCast_mul, Int.natCast_pow, Int.mul_comm]
theorem vl_set0 {B : Nat} {l : List Int} {i : Nat} (v : Int) (h : i < l.length) (h0 : l.getD i 0 = 0) : vl B (l.set i v) = vl B l + v * B ^ i := by
  rw [vl_set B l i v h, h0, Int.sub_zero]
theorem rd0 {l : List Int} {i : Nat} (h : l.length ≤ i) : rd l (i : Int) = 0 := by
  unfold rd; rw [Int.toNat_natCast, List.getD_eq_getElem?_getD, List.getElem?_eq_none h]; rfl
theorem mod_full (B n : Nat) (hB : 2 ≤ B) {i : Nat} (h : (dg B n).length ≤ i) : n % B ^ i = n := Nat.mod_eq_of_lt ((dg_length_le hB i n).1 h)
theorem dg_len_mono {B : Nat} (hB : 2 ≤ B) {a b : Nat} (h : a ≤ b) : (dg B a).length ≤ (dg B b).length := by
  rw [dg_length_le hB]
  exact Nat.lt_of_le_of_lt h ((dg_length_le hB _ _).1 (Nat.le_refl _))
theorem D_mono {a b : Nat} (h : a ≤ b) : (D a).length ≤ (D b).length := dg_len_mono (by decide) h
theorem E_mono {a b : Nat} (h : a ≤ b) : (E a).length ≤ (E b).length := dg_len_mono (by decide) h
theorem ring_plus (A B P W x y c q : Int) : A + x * P + (B + y * P) - q * (P * W) = A + B - c * P + (x + y + c - W * q) * P := by grind
theorem ring_zero (P : Int) : ((0 : Nat) : Int) + ((0 : Nat) : Int) - ((0 : Nat) : Int) * P = 0 := by simp
theorem add64 (a b c : Nat) (ha : a < 18446744073709551616) (hb : b < 18446744073709551616) (hc : c ≤ 1) : ∃ r q : Nat, bits_Add64.f a b c = some ((r : Int), (q : Int)) ∧ q ≤ 1 ∧ r < 18446744073709551616 ∧ (r : Int) = a + b + c - 18446744073709551616 * q := by
  refine ⟨(a + b + c) % 18446744073709551616, (a + b + c) / 18446744073709551616, ?_, by omega, by omega, by omega⟩
  unfold bits_Add64.f
  rw [if_pos (by omega)]
  simp
/-- l holds v below place i and nothing from there on. -/
structure Upto (B : Nat) (l : List Int) (i : Nat) (v : Int) : Prop where
  digs : Digs B l
  val : vl B l = v
  zero : ∀ j, i ≤ j → l.getD j 0 = 0
theorem Upto.start {B : Nat} (hB : 0 < B) (n : Nat) : Upto B (List.replicate n 0) 0 0 := ⟨digs_zeros hB n, vl_zeros B n, fun j _ => getD_zeros n j⟩
theorem Upto.set {B : Nat} {l : List Int} {i : Nat} {v x w : Int} (h : Upto B l i v) (hi : i < l.length) (hx : 0 ≤ x ∧ x < B) (hw : w = v + x * B ^ i) : Upto B (l.set i x) (i + 1) w :=
  ⟨digs_set h.digs hx, by rw [vl_set0 x hi (h.zero i (Nat.le_refl _)), h.val, hw], fun j hj => by rw [getD_set hi, if_neg (by omega)]; exact h.zero j (by omega)⟩
theorem Upto.more {B : Nat} {l : List Int} {i j : Nat} {v : Int} (h : Upto B l i v) (hij : i ≤ j) : Upto B l j v := ⟨h.digs, h.val, fun m hm => h.zero m (by omega)⟩
theorem plus_loop (a b : Nat) (hab : (D b).length ≤ (D a).length) (hl : (D a).length < 35184372088832) : ∀ (d i c : Nat) (l : List Int), (D a).length - i = d → i ≤ (D a).length → c ≤ 1 → l.length = (D a).length + 1 →
    Upto 18446744073709551616 l i (((a % 18446744073709551616 ^ i : Nat) : Int) + (b % 18446744073709551616 ^ i : Nat) - c * 18446744073709551616 ^ i) → Av (fun k => impl_nat_plus.l0 k (D a) (D b) l c (D a).length i) (D (a + b))
  | 0, i, c, l, hd, hi, hc, hL, h => by
    obtain rfl : i = (D a).length := by omega
    refine Av.succ ?_
    simp only [impl_nat_plus.l0]
    refine Av.ifn (by omega) (Av.ifp (by omega) (Av.ifp (by omega) (Av.bind ?_ Av.ret)))
    rw [Int.toNat_natCast]
    have h2 := h.set (x := c) (w := ((a + b : Nat) : Int)) (by omega) (by omega) (by
      rw [mod_full _ a (by decide) (Nat.le_refl _), mod_full _ b (by decide) hab]
      simp)
    exact trim_f' h2.digs (by rw [List.length_set]; omega) h2.val
  | d + 1, i, c, l, hd, hi, hc, hL, h => by
    refine Av.succ ?_
    simp only [impl_nat_plus.l0]
    have next : Av (fun k => (bits_Add64.f (rd (D a) i) (rd (D b) i) c).bind fun bt => if (i : Int) < (l.length : Int) then impl_nat_plus.l0 k (D a) (D b) (l.set (i : Int).toNat bt.1) bt.2 (D a).length (wrap64 (i + 1)) else none) (D (a + b)) := by
      rw [rdD, rdD]
      have e : wrap64 ((i : Int) + 1) = ((i + 1 : Nat) : Int) := by rw [wr (by omega) (by omega)]; omega
      have i1 : (i : Int) < l.length := by omega
      have i2 : i < l.length := by omega
      have i3 : (D a).length - (i + 1) = d := by omega
      have i4 : i + 1 ≤ (D a).length := by omega
      have h1 : a / 18446744073709551616 ^ i % 18446744073709551616 < 18446744073709551616 := Nat.mod_lt _ (by decide)
      have h2 : b / 18446744073709551616 ^ i % 18446744073709551616 < 18446744073709551616 := Nat.mod_lt _ (by decide)
      have s1 := mod_step 18446744073709551616 a i
      have s2 := mod_step 18446744073709551616 b i
      generalize a / 18446744073709551616 ^ i % 18446744073709551616 = x at *
      generalize b / 18446744073709551616 ^ i % 18446744073709551616 = y at *
      obtain ⟨r, q, hf, hq, hr, he⟩ := add64 x y c h1 h2 hc
      rw [e, hf, Int.toNat_natCast]
      simp only [Option.bind_some]
      refine Av.ifp i1 ?_
      refine plus_loop a b hab hl d (i + 1) q _ i3 i4 hq (by rw [List.length_set]; exact hL) (h.set i2 ⟨Int.natCast_nonneg _, Int.ofNat_lt.2 hr⟩ ?_)
      rw [s1, s2, Int.pow_succ, he]
      generalize (18446744073709551616 : Int) ^ i = P at *
      have e6 : ((18446744073709551616 : Nat) : Int) = 18446744073709551616 := rfl
      try simp only [e6]
      exact ring_plus _ _ _ _ _ _ _ _
    refine Av.ifp (by omega) ?_
    by_cases hb : i < (D b).length
    · exact Av.ifp (by omega) (Av.ifp (by omega) (Av.ifp (by omega) next))
    · rw [rd0 (l := D b) (by omega)] at next
      exact Av.ifn (by omega) (Av.ifp (by omega) (Av.ifp (by omega) next))
theorem plus_j0 (a b : Nat) (hab : (D b).length ≤ (D a).length) (hl : (D a).length < 35184372088832) : Av (fun k => impl_nat_plus.j0 k (D a) (D b)) (D (a + b)) := by
  refine Av.succ ?_
  simp only [impl_nat_plus.j0]
  have e : wrap64 (((D a).length : Int) + 1) = (((D a).length + 1 : Nat) : Int) := by rw [wr (by omega) (by omega)]; omega
  rw [e, Int.toNat_natCast]
  refine Av.ifp (by omega) (Av.ifp (by omega) ?_)
  have := plus_loop a b hab hl _ 0 0 (List.replicate ((D a).length + 1) 0) rfl (by omega) (by omega) (by simp) (by
    rw [Nat.pow_zero, Nat.mod_one, Nat.mod_one, ring_zero]; exact Upto.start (by decide) _)
  exact this
theorem plus_f (a b : Nat) (ha : (D a).length < 35184372088832) (hb : (D b).length < 35184372088832) : Av (fun k => impl_nat_plus.f k (D a) (D b)) (D (a + b)) := by
  unfold impl_nat_plus.f
  by_cases h : (D a).length < (D b).length
  · refine Av.ifp (by omega) ?_
    rw [Nat.add_comm]
    exact plus_j0 b a (by omega) hb
  · exact Av.ifn (by omega) (plus_j0 a b (by omega) ha)
theorem and32 {x : Int} (h0 : 0 ≤ x) (h1 : x < 18446744073709551616) : Go.bits .and .u64 x 4294967295 = x % 4294967296 :=
  bits_mask .u64 64 (by decide) (fun n h0 h1 => ur h0 (by simpa using h1)) 32 (by decide) x h0 (by simpa using h1)
theorem mul_lt {a b B : Nat} (ha : a < B) (hb : b < B) : a * b ≤ (B - 1) * (B - 1) := Nat.mul_le_mul (by omega) (by omega)
theorem ring_mul (a b c d H : Nat) : (H * a + b) * (H * c + d) = a * c * (H * H) + (a * d + b * c) * H + b * d := by grind
theorem ring_mac (v x w P Q c y o W q : Int) : v + x * w * P - c * (P * Q) + (x * y + o + c - W * q - o) * (P * Q) = v + x * (w + y * Q) * P - q * (P * Q * W) := by grind
theorem mul64 (x y : Nat) (hx : x < 18446744073709551616) (hy : y < 18446744073709551616) : bits_Mul64.f x y = some (((x * y / 18446744073709551616 : Nat) : Int), ((x * y % 18446744073709551616 : Nat) : Int)) := by
  unfold bits_Mul64.f
  have ex := Nat.div_add_mod x 4294967296
  have ey := Nat.div_add_mod y 4294967296
  have c1 : (x : Int) / 4294967296 = ((x / 4294967296 : Nat) : Int) := by omega
  have c2 : (y : Int) / 4294967296 = ((y / 4294967296 : Nat) : Int) := by omega
  have c3 : (x : Int) % 4294967296 = ((x % 4294967296 : Nat) : Int) := by omega
  have c4 : (y : Int) % 4294967296 = ((y % 4294967296 : Nat) : Int) := by omega
  rw [and32 (x := (x : Int)) (by omega) (by omega), and32 (x := (y : Int)) (by omega) (by omega), c1, c2, c3, c4]
  have hx1 : x / 4294967296 < 4294967296 := by omega
  have hy1 : y / 4294967296 < 4294967296 := by omega
  have hx0 : x % 4294967296 < 4294967296 := by omega
  have hy0 : y % 4294967296 < 4294967296 := by omega
  generalize x / 4294967296 = x1 at *
  generalize y / 4294967296 = y1 at *
  generalize x % 4294967296 = x0 at *
  generalize y % 4294967296 = y0 at *
  have p11 := mul_lt hx1 hy1
  have p10 := mul_lt hx1 hy0
  have p01 := mul_lt hx0 hy1
  have p00 := mul_lt hx0 hy0
  have exy : x * y = x1 * y1 * 18446744073709551616 + (x1 * y0 + x0 * y1) * 4294967296 + x0 * y0 := by
    rw [← ex, ← ey]; exact ring_mul x1 x0 y1 y0 4294967296
  simp only [← Int.natCast_mul]
  rw [exy]
  generalize x1 * y1 = A at *
  generalize x1 * y0 = Bq at *
  generalize x0 * y1 = Cq at *
  generalize x0 * y0 = Dq at *
  clear ex ey c1 c2 c3 c4 exy hx hy hx1 hy1 hx0 hy0
  have d0 : (Dq : Int) / 4294967296 = ((Dq / 4294967296 : Nat) : Int) := by omega
  have q0 := Nat.div_add_mod Dq 4294967296
  have r0 : Dq % 4294967296 < 4294967296 := Nat.mod_lt _ (by decide)
  rw [ur (x := (Dq : Int)) (by omega) (by omega), d0]
  generalize Dq / 4294967296 = u at *
  generalize Dq % 4294967296 = u0 at *
  have d1 : (Bq : Int) + u = ((Bq + u : Nat) : Int) := by omega
  rw [ur (x := (Bq : Int)) (by omega) (by omega), d1, ur (x := ((Bq + u : Nat) : Int)) (by omega) (by omega), and32 (x := ((Bq + u : Nat) : Int)) (by omega) (by omega)]
  have d2 : ((Bq + u : Nat) : Int) / 4294967296 = (((Bq + u) / 4294967296 : Nat) : Int) := by omega
  have d3 : ((Bq + u : Nat) : Int) % 4294967296 = (((Bq + u) % 4294967296 : Nat) : Int) := by omega
  have q1 := Nat.div_add_mod (Bq + u) 4294967296
  have r1 : (Bq + u) % 4294967296 < 4294967296 := Nat.mod_lt _ (by decide)
  rw [d2, d3]
  generalize (Bq + u) / 4294967296 = w2 at *
  generalize (Bq + u) % 4294967296 = w1 at *
  have d4 : (w1 : Int) + Cq = ((w1 + Cq : Nat) : Int) := by omega
  rw [ur (x := (Cq : Int)) (by omega) (by omega), d4, ur (x := ((w1 + Cq : Nat) : Int)) (by omega) (by omega)]
  have d5 : ((w1 + Cq : Nat) : Int) / 4294967296 = (((w1 + Cq) / 4294967296 : Nat) : Int) := by omega
  have q2 := Nat.div_add_mod (w1 + Cq) 4294967296
  have r2 : (w1 + Cq) % 4294967296 < 4294967296 := Nat.mod_lt _ (by decide)
  rw [d5]
  generalize (w1 + Cq) / 4294967296 = z at *
  generalize (w1 + Cq) % 4294967296 = z0 at *
  have e : A * 18446744073709551616 + (Bq + Cq) * 4294967296 + Dq = 18446744073709551616 * (A + w2 + z) + (4294967296 * z0 + u0) := by omega
  have h1 : (A * 18446744073709551616 + (Bq + Cq) * 4294967296 + Dq) / 18446744073709551616 = A + w2 + z := by
    rw [e, Nat.mul_add_div (by decide), Nat.div_eq_of_lt (by omega)]; rfl
  have h2 : A + w2 + z < 18446744073709551616 := by omega
  rw [h1, ur (x := (A : Int)) (by omega) (by omega), ur (x := (A : Int) + w2) (by omega) (by omega), ur (x := (A : Int) + w2 + z) (by omega) (by omega), uw]
  rfl
theorem lin_mac (W hi lo xy o c s1 c1 s2 c2 : Int) (e0 : W * hi + lo = xy) (e1 : s1 = lo + o + 0 - W * c1) (e2 : s2 = s1 + c + 0 - W * c2) : s2 = xy + o + c - W * (hi + c1 + c2) := by grind
theorem lt_mac (W q S s : Int) (hW : 0 ≤ W) (e : s = S - W * q) (hs : 0 ≤ s) (hS : S < W * W) : q < W := by
  rcases Int.lt_or_le q W with h | h
  · exact h
  · have := Int.mul_le_mul_of_nonneg_left h hW
    omega
/-- One place of a product. -/
theorem mac64 (x y o c : Nat) (hx : x < 18446744073709551616) (hy : y < 18446744073709551616) (ho : o < 18446744073709551616) (hc : c < 18446744073709551616) : ∃ (m s w : Int × Int) (t q : Nat), bits_Mul64.f x y = some m ∧ bits_Add64.f m.2 o 0 = some s ∧ bits_Add64.f s.1 c 0 = some w ∧ w.1 = (t : Int) ∧ IntKind.u64.wrap ((IntKind.u64.wrap (m.1 + s.2)) + w.2) = (q : Int) ∧ t < 18446744073709551616 ∧ q < 18446744073709551616 ∧ (t : Int) = x * y + o + c - 18446744073709551616 * q := by
  have hxy := mul_lt hx hy
  have hM := mul64 x y hx hy
  have e0 := Nat.div_add_mod (x * y) 18446744073709551616
  have r0 : x * y % 18446744073709551616 < 18446744073709551616 := Nat.mod_lt _ (by decide)
  have ec : ((x * y : Nat) : Int) = (x : Int) * y := Int.natCast_mul x y
  generalize x * y / 18446744073709551616 = hi at *
  generalize x * y % 18446744073709551616 = lo at *
  generalize (x : Int) * y = XY at *
  generalize x * y = xy at *
  obtain ⟨s1, c1, f1, g1, l1, e1⟩ := add64 lo o 0 r0 ho (by decide)
  obtain ⟨s2, c2, f2, g2, l2, e2⟩ := add64 s1 c 0 l1 hc (by decide)
  have e0' : (18446744073709551616 : Int) * hi + lo = XY := by rw [← ec, ← e0]; simp
  have e3 := lin_mac _ _ _ _ _ _ _ _ _ _ e0' e1 e2
  have hS : XY + o + c < 18446744073709551616 * 18446744073709551616 := by
    clear e1 e2 e3 e0 e0' f1 f2
    omega
  have hq := lt_mac _ _ _ _ (by decide) e3 (Int.natCast_nonneg _) hS
  have e4 : ((hi + c1 + c2 : Nat) : Int) = hi + c1 + c2 := by simp
  have e5 : (s2 : Int) = XY + o + c - 18446744073709551616 * ((hi + c1 + c2 : Nat) : Int) := by rw [e4]; exact e3
  clear e1 e2 e0 e0' ec hS e3 hxy
  have z : (((0 : Nat) : Int)) = 0 := rfl
  rw [z] at f1 f2
  refine ⟨_, _, _, s2, hi + c1 + c2, hM, f1, f2, rfl, ?_, l2, by clear e5; omega, e5⟩
  simp only []
  rw [ur (x := (hi : Int) + c1) (by omega) (by omega), ur (x := (hi : Int) + c1 + c2) (by omega) (by omega)]
  rfl
/-- The value of digits, kept from the eyes of omega. -/
structure Vl (B : Nat) (l : List Int) (v : Int) : Prop where
  val : vl B l = v
theorem times_in (b x : Nat) (A : List Int) (i : Nat) (r : List Int) (v : Int) (hx : x < 18446744073709551616) (hiL : i + (D b).length < 35184372088832) (n0 : Int) (r' : List Int)
    (fin : ∀ (l : List Int) (c : Nat), l.length = r'.length → Digs 18446744073709551616 l → (∀ j, i + (D b).length ≤ j → l.getD j 0 = 0) → Vl 18446744073709551616 l (v + x * b * 18446744073709551616 ^ i - c * 18446744073709551616 ^ (i + (D b).length)) → c < 18446744073709551616 →
      Av (fun k => impl_nat_times.l0 k (D b) (l.set (i + (D b).length) c) A n0 ((i : Int) + 1)) r) : ∀ (d m c : Nat) (l : List Int), (D b).length - m = d → m ≤ (D b).length → c < 18446744073709551616 → l.length = r'.length → i + (D b).length < r'.length → Digs 18446744073709551616 l → (∀ j, i + (D b).length ≤ j → l.getD j 0 = 0) →
    Vl 18446744073709551616 l (v + x * (b % 18446744073709551616 ^ m : Nat) * 18446744073709551616 ^ i - c * 18446744073709551616 ^ (i + m)) →
    Av (fun k => impl_nat_times.l1 k (D b) l i x c A n0 i (D b) (D b).length m) r
  | 0, m, c, l, hd, hm, hc, hL, hr, hg, hz, hv => by
    obtain rfl : m = (D b).length := by omega
    refine Av.succ ?_
    simp only [impl_nat_times.l1]
    have e : wrap64 ((i : Int) + (D b).length) = ((i + (D b).length : Nat) : Int) := wrap_add (by omega)
    rw [e, wr (x := (i : Int) + 1) (by omega) (by omega)]
    refine Av.ifn (by omega) (Av.ifp (by omega) (Av.ifp (by omega) ?_))
    rw [Int.toNat_natCast]
    refine fin l c hL hg hz ⟨?_⟩ hc
    rw [hv.val, mod_full _ b (by decide) (Nat.le_refl _)]
  | d + 1, m, c, l, hd, hm, hc, hL, hr, hg, hz, hv => by
    have i1 : i + m < l.length := by omega
    have i2 : i + m < i + (D b).length := by omega
    have i3 : (D b).length - (m + 1) = d := by omega
    have i4 : m + 1 ≤ (D b).length := by omega
    have i6 : ((i + m : Nat) : Int) < l.length := by omega
    have i7 : (m : Int) < (D b).length := by omega
    have i8 : (0 : Int) ≤ m := by omega
    have e : wrap64 ((i : Int) + m) = ((i + m : Nat) : Int) := wrap_add (by omega)
    have i9 : m < 4611686018427387904 := by clear e; omega
    have e1 : wrap64 ((m : Int) + 1) = ((m + 1 : Nat) : Int) := wrap_one i9
    refine Av.succ ?_
    simp only [impl_nat_times.l1, e, e1, if_pos i7, if_pos i8]
    rw [rdD]
    have hy : b / 18446744073709551616 ^ m % 18446744073709551616 < 18446744073709551616 := Nat.mod_lt _ (by decide)
    have hs := mod_step 18446744073709551616 b m
    generalize b / 18446744073709551616 ^ m % 18446744073709551616 = y at *
    have hj0 : (0 : Int) ≤ ((i + m : Nat) : Int) := Int.natCast_nonneg _
    simp only [if_pos hj0, if_pos i6]
    have ho : rd l ((i + m : Nat) : Int) = l.getD (i + m) 0 := by unfold rd; rw [Int.toNat_natCast]
    have hob := digs_getD hg (by decide) (i + m)
    obtain ⟨o, hoe⟩ := Int.eq_ofNat_of_zero_le hob.1
    rw [ho]
    rw [hoe]
    rw [hoe] at hob
    have ho2 : o < 18446744073709551616 := Int.ofNat_lt.1 hob.2
    obtain ⟨m1, m2, m3, t, q, f1, f2, f3, f4, f5, ht, hq, he⟩ := mac64 x y o c hx hy ho2 hc
    simp only [Int.ofNat_eq_natCast, f1, f2, f3, f4, f5, Option.bind_some, Int.toNat_natCast]
    refine times_in b x A i r v hx hiL n0 r' fin d (m + 1) q _ i3 i4 hq (by rw [List.length_set]; exact hL) hr (digs_set hg ⟨Int.natCast_nonneg _, Int.ofNat_lt.2 ht⟩) ?_ ⟨?_⟩
    · intro j hj
      have i5 : i + m ≠ j := Nat.ne_of_lt (Nat.lt_of_lt_of_le i2 hj)
      rw [getD_set i1, if_neg i5]
      exact hz j hj
    · rw [vl_set _ _ _ _ i1, hv.val, hs, hoe, he]
      have e6 : ((18446744073709551616 : Nat) : Int) = 18446744073709551616 := rfl
      try simp only [e6]
      rw [← Nat.add_assoc, Int.pow_succ, Int.pow_add]
      generalize (18446744073709551616 : Int) ^ i = P at *
      generalize (18446744073709551616 : Int) ^ m = Q at *
      try simp only [Int.ofNat_eq_natCast]
      exact ring_mac _ _ _ _ _ _ _ _ _ _
theorem times_loop (a b : Nat) (hl : (D a).length + (D b).length < 35184372088832) : ∀ (d i : Nat) (l : List Int), (D a).length - i = d → i ≤ (D a).length → l.length = (D a).length + (D b).length → Upto 18446744073709551616 l (i + (D b).length) (((a % 18446744073709551616 ^ i : Nat) : Int) * b) →
    Av (fun k => impl_nat_times.l0 k (D b) l (D a) (D a).length i) (D (a * b))
  | 0, i, l, hd, hi, hL, h => by
    obtain rfl : i = (D a).length := by omega
    refine Av.succ ?_
    simp only [impl_nat_times.l0]
    refine Av.ifn (by omega) (Av.bind ?_ Av.ret)
    refine trim_f' h.digs (by omega) ?_
    rw [h.val, mod_full _ a (by decide) (Nat.le_refl _)]
    simp
  | d + 1, i, l, hd, hi, hL, h => by
    refine Av.succ ?_
    simp only [impl_nat_times.l0]
    refine Av.ifp (by omega) (Av.ifp (by omega) (Av.ifp (by omega) ?_))
    rw [rdD]
    refine times_in b (a / 18446744073709551616 ^ i % 18446744073709551616) (D a) i _ (((a % 18446744073709551616 ^ i : Nat) : Int) * b) (Nat.mod_lt _ (by decide)) (by omega) (D a).length l ?_ _ 0 0 l rfl (by omega) (by omega) rfl (by omega) h.digs h.zero ⟨?_⟩
    · intro l2 c h1 h2 h3 h4 h5
      have e : (i : Int) + 1 = ((i + 1 : Nat) : Int) := by omega
      rw [e]
      have h6 : Upto 18446744073709551616 l2 (i + (D b).length) _ := ⟨h2, h4.val, h3⟩
      have h7 := h6.set (x := (c : Int)) (w := ((a % 18446744073709551616 ^ (i + 1) : Nat) : Int) * b) (by omega) (by omega) (by
        rw [mod_step]
        have e6 : ((18446744073709551616 : Nat) : Int) = 18446744073709551616 := rfl
        try simp only [e6]
        grind)
      refine times_loop a b hl d (i + 1) _ (by omega) (by omega) (by rw [List.length_set]; omega) ?_
      have e2 : i + 1 + (D b).length = i + (D b).length + 1 := by omega
      rw [e2]
      exact h7
    · rw [h.val]; simp [Nat.mod_one]
theorem times_f (a b : Nat) (hl : (D a).length + (D b).length < 35184372088832) : Av (fun k => impl_nat_times.f k (D a) (D b)) (D (a * b)) := by
  unfold impl_nat_times.f
  have e : wrap64 (((D a).length : Int) + (D b).length) = (((D a).length + (D b).length : Nat) : Int) := by rw [wr (by omega) (by omega)]; omega
  rw [e, Int.toNat_natCast]
  refine Av.ifp (by omega) (Av.ifp (by omega) ?_)
  have h := times_loop a b hl _ 0 (List.replicate ((D a).length + (D b).length) 0) rfl (by omega) (by simp) (by
    simp only [Nat.pow_zero, Nat.mod_one]
    have := (Upto.start (B := 18446744073709551616) (by decide) ((D a).length + (D b).length)).more (j := 0 + (D b).length) (by omega)
    simpa using this)
  exact h
theorem mod_div_mod {b : Nat} (hb : 0 < b) (x : Nat) {t r : Nat} (h : r < t) : x % b ^ t / b ^ r % b = x / b ^ r % b := by
  have e : b ^ t = b ^ r * b ^ (t - r) := by rw [← Nat.pow_add]; congr 1; omega
  rw [e, Nat.mod_mul_right_div_self]
  apply Nat.mod_mod_of_dvd
  have : t - r = t - r - 1 + 1 := by omega
  rw [this, Nat.pow_succ]
  exact Nat.dvd_mul_left _ _
/-- The lesser digits inside a digit. -/
theorem dig_sub {b : Nat} (hb : 0 < b) (n t q : Nat) {r : Nat} (h : r < t) : n / (b ^ t) ^ q % b ^ t / b ^ r % b = n / b ^ (t * q + r) % b := by
  rw [mod_div_mod hb _ h, Nat.div_div_eq_div_mul, ← Nat.pow_mul, ← Nat.pow_add]
theorem natCast_div_pow (a j : Nat) : ((a : Int) / 2 ^ j) = ((a / 2 ^ j : Nat) : Int) := by
  have e : (2 : Int) ^ j = ((2 ^ j : Nat) : Int) := by simp
  rw [e]; rfl
/-- The number of the first i figures. -/
def fv (s : ByteArray) : Nat → Nat
  | 0 => 0
  | i + 1 => 10 * fv s i + (bt s i - 48).toNat
/-- Is byte i a figure? -/
def fig (s : ByteArray) (i : Nat) : Bool := decide (48 ≤ bt s i) && decide (bt s i ≤ 57)
/-- Are the first n bytes figures? -/
def figN (s : ByteArray) : Nat → Bool
  | 0 => true
  | n + 1 => figN s n && fig s n
theorem figN_of {s : ByteArray} : ∀ {n m : Nat}, figN s n = true → m < n → fig s m = true
  | 0, m, _, h => by omega
  | n + 1, m, h, hm => by
    simp only [figN, Bool.and_eq_true] at h
    by_cases e : m = n
    · subst e; exact h.2
    · exact figN_of h.1 (by omega)
theorem figN_not {s : ByteArray} {n m : Nat} (h : fig s m = false) (hm : m < n) : figN s n = false := by
  cases hf : figN s n with
  | false => rfl
  | true => rw [figN_of hf hm] at h; cases h
theorem fv_lt {s : ByteArray} : ∀ {n : Nat}, figN s n = true → fv s n < 10 ^ n
  | 0, _ => by simp [fv]
  | n + 1, h => by
    simp only [figN, Bool.and_eq_true] at h
    have ih := fv_lt h.1
    have hf := h.2
    simp only [fig, Bool.and_eq_true, decide_eq_true_eq] at hf
    have h9 : (bt s n - 48).toNat ≤ 9 := by omega
    simp only [fv]
    rw [Nat.pow_succ]
    generalize 10 ^ n = P at *
    omega
end Go.Proofs.Ytohfimjpfnnpgaa.C
