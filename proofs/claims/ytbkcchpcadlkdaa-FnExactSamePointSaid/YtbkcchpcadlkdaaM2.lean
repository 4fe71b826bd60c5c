/- Plain words on texts as numbers: a text's bytes, the highest first, and the text of a number. Conditions: those named in each theorem. -/
import Derived.Test.YtbkcchpcadlkdaaM1
set_option linter.unusedVariables false
set_option linter.unusedSimpArgs false
namespace Go.Proofs.Ytbkcchpcadlkdaa.M
open Go.RowKit Go.Proofs.YtbkcchpcadlkdaaW.PrintWords Go.Proofs.YtbkcchpcadlkdaaW.PrintLast Go.Proofs.YtbkcchpcadlkdaaW.PrintMore

theorem digs_append {B : Nat} {a b : List Int} : Digs B (a ++ b) ↔ Digs B a ∧ Digs B b := by
  unfold Digs; simp only [List.mem_append]
  exact ⟨fun h => ⟨fun x hx => h x (.inl hx), fun x hx => h x (.inr hx)⟩, fun h x hx => hx.elim (h.1 x) (h.2 x)⟩
theorem digs_reverse {B : Nat} {a : List Int} : Digs B a.reverse ↔ Digs B a := by unfold Digs; simp
theorem digs_take {B : Nat} {a : List Int} (h : Digs B a) (n : Nat) : Digs B (a.take n) := fun x hx => h x (List.mem_of_mem_take hx)
theorem digs_getD {B : Nat} {a : List Int} (h : Digs B a) (hB : 0 < B) (j : Nat) : 0 ≤ a.getD j 0 ∧ a.getD j 0 < B := by
  by_cases hj : j < a.length
  · rw [List.getD_eq_getElem?_getD, List.getElem?_eq_getElem hj]
    exact h _ (List.getElem_mem hj)
  · rw [List.getD_eq_getElem?_getD, List.getElem?_eq_none (by omega)]
    exact ⟨Int.le_refl _, by simpa using hB⟩
theorem vl_append (B : Nat) : ∀ (a b : List Int), vl B (a ++ b) = vl B a + B ^ a.length * vl B b
  | [], b => by simp [vl]
  | x :: xs, b => by
    simp only [List.cons_append, vl, List.length_cons]
    rw [vl_append B xs b, Int.pow_succ]
    grind
theorem vl_snoc (B : Nat) (a : List Int) (x : Int) : vl B (a ++ [x]) = vl B a + B ^ a.length * x := by
  rw [vl_append]; simp [vl]

theorem vl_of_getD {B : Nat} (hB : 2 ≤ B) {l : List Int} {n : Nat} (hn : n < B ^ l.length) (h : ∀ j, j < l.length → l.getD j 0 = ((n / B ^ j % B : Nat) : Int)) : vl B l = n := by
  rw [← sm_getD, ← sm_dg hB n l.length hn]
  exact sm_congr (fun j hj => by rw [h j hj, dg_getD hB])

/-! ### a text's bytes -/
theorem mem_bytesOf {s : ByteArray} {x : Int} (h : x ∈ bytesOf s) : 0 ≤ x ∧ x < 256 := by
  unfold bytesOf at h
  obtain ⟨b, _, rfl⟩ := List.mem_map.1 h
  have := b.toNat_lt
  omega
theorem digs_bytesOf (s : ByteArray) : Digs 256 (bytesOf s) := fun x hx => mem_bytesOf hx
theorem bytesOf_strOfNums {xs : List Int} (h : Digs 256 xs) : bytesOf (strOfNums xs) = xs := by
  unfold bytesOf
  rw [strOfNums_data, List.map_map]
  conv => rhs; rw [← List.map_id xs]
  apply List.map_congr_left
  intro x hx
  have := h x hx
  simp only [Function.comp, id]
  have h2 : x.toNat < 256 := by omega
  have : (UInt8.ofNat x.toNat).toNat = x.toNat := by simp [UInt8.toNat_ofNat, Nat.mod_eq_of_lt h2]
  rw [this]; omega
theorem strOfNums_bytesOf (s : ByteArray) : strOfNums (bytesOf s) = s := by
  have h : (strOfNums (bytesOf s)).data.toList = s.data.toList := by
    rw [strOfNums_data]
    unfold bytesOf
    rw [List.map_map]
    conv => rhs; rw [← List.map_id s.data.toList]
    apply List.map_congr_left
    intro b _
    simp
  obtain ⟨⟨l⟩⟩ := s
  have h2 := congrArg List.toArray h
  simp only [Array.toArray_toList] at h2
  generalize hq : strOfNums (bytesOf (ByteArray.mk ⟨l⟩)) = q at h2
  obtain ⟨d⟩ := q
  simp only at h2
  rw [h2]
theorem bytesOf_inj {s t : ByteArray} (h : bytesOf s = bytesOf t) : s = t := by rw [← strOfNums_bytesOf s, h, strOfNums_bytesOf]
theorem toList_loop (s : ByteArray) : ∀ (n i : Nat) (r : List UInt8), n = s.size - i → ByteArray.toList.loop s i r = r.reverse ++ s.data.toList.drop i
  | 0, i, r, h => by
    unfold ByteArray.toList.loop
    rw [if_neg (by omega), List.drop_of_length_le (by rw [data_length]; omega), List.append_nil]
  | n + 1, i, r, h => by
    unfold ByteArray.toList.loop
    have hi : i < s.size := by omega
    have hl : i < s.data.toList.length := by rw [data_length]; exact hi
    rw [if_pos hi, toList_loop s n (i + 1) _ (by omega), List.drop_eq_getElem_cons hl]
    have e : s.get! i = s.data.toList[i] := by
      have h2 : i < s.data.size := hi
      simp only [ByteArray.get!]
      rw [getElem!_pos s.data i h2]
      simp
    rw [e]
    simp
theorem toList_data (s : ByteArray) : s.toList = s.data.toList := by
  unfold ByteArray.toList
  rw [toList_loop s s.size 0 [] (by omega)]
  simp
theorem toList_eq_iff {s t : ByteArray} : s.toList = t.toList ↔ s = t := by
  constructor
  · intro h
    rw [toList_data, toList_data] at h
    apply bytesOf_inj
    unfold bytesOf
    rw [h]
  · rintro rfl; rfl
theorem toList_nil_iff {s : ByteArray} : s.toList = ([] : List UInt8) ↔ s.size = 0 := by
  rw [toList_data, ← data_length]
  constructor
  · intro h; rw [h]; rfl
  · exact List.eq_nil_of_length_eq_zero

/-! ### numbers of texts -/
/-- The number of a text's bytes, the highest first. -/
def bv (s : ByteArray) : Nat := (vl 256 (bytesOf s).reverse).toNat
/-- The text of a number: its bytes, the highest first, none of them 0 ahead. -/
def bts (n : Nat) : ByteArray := strOfNums (dg 256 n).reverse
theorem bv_val (s : ByteArray) : vl 256 (bytesOf s).reverse = bv s := by
  have := (vl_bound (B := 256) (by decide) (digs_reverse.2 (digs_bytesOf s))).1
  unfold bv; omega
theorem bv_lt (s : ByteArray) : bv s < 256 ^ s.size := by
  have h := (vl_bound (B := 256) (by decide) (digs_reverse.2 (digs_bytesOf s))).2
  rw [bv_val, List.length_reverse, bytesOf_length] at h
  have : ((bv s : Nat) : Int) < ((256 ^ s.size : Nat) : Int) := by rw [Int.natCast_pow]; exact h
  omega
theorem bytesOf_bts (n : Nat) : bytesOf (bts n) = (dg 256 n).reverse := bytesOf_strOfNums (digs_reverse.2 (digs_dg (by decide) n))
theorem bts_size (n : Nat) : (bts n).size = (dg 256 n).length := by rw [← bytesOf_length, bytesOf_bts, List.length_reverse]
theorem bv_bts (n : Nat) : bv (bts n) = n := by
  unfold bv
  rw [bytesOf_bts, List.reverse_reverse, vl_dg (by decide)]; rfl
theorem bts_inj {a b : Nat} (h : bts a = bts b) : a = b := by rw [← bv_bts a, h, bv_bts]
theorem bts_zero : bts 0 = (⟨#[]⟩ : ByteArray) := rfl
theorem bts_size_le (n j : Nat) : (bts n).size ≤ j ↔ n < 256 ^ j := by rw [bts_size, dg_length_le (by decide)]
theorem bts_size_lt (n j : Nat) : j < (bts n).size ↔ 256 ^ j ≤ n := by rw [bts_size, dg_length_lt (by decide)]
/-- Byte i of a text of a number. -/
theorem bt_rev (s : ByteArray) (j : Nat) (h : j < s.size) : bt s ((s.size : Int) - 1 - j) = ((bv s / 256 ^ j % 256 : Nat) : Int) := by
  have hb := digs_reverse.2 (digs_bytesOf s)
  have hd : ∀ (l : List Int) (j : Nat), Digs 256 l → l.getD j 0 = (((vl 256 l).toNat / 256 ^ j % 256 : Nat) : Int) := by
    intro l
    induction l with
    | nil => intro j _; simp [vl]
    | cons x xs ih =>
      intro j hx
      obtain ⟨h1, h2⟩ := Digs.cons.1 hx
      have hv := (vl_bound (B := 256) (by decide) h2).1
      cases j with
      | zero => simp only [List.getD_cons_zero, vl, Nat.pow_zero, Nat.div_one]; omega
      | succ j =>
        simp only [List.getD_cons_succ, vl]
        rw [ih j h2, Nat.pow_succ, Nat.mul_comm, ← Nat.div_div_eq_div_mul]
        have : (x + ((256 : Nat) : Int) * vl 256 xs).toNat / 256 = (vl 256 xs).toNat := by omega
        rw [this]
  have := hd _ j hb
  rw [← rd_bytesOf]
  unfold rd bv
  rw [← this]
  have hlen := bytesOf_length s
  rw [List.getD_eq_getElem?_getD, List.getD_eq_getElem?_getD, List.getElem?_reverse (by omega)]
  have e : ((s.size : Int) - 1 - j).toNat = (bytesOf s).length - 1 - j := by omega
  rw [e]
theorem bt_first (s : ByteArray) (h : 0 < s.size) : bt s 0 = ((bv s / 256 ^ (s.size - 1) : Nat) : Int) := by
  have h1 := bt_rev s (s.size - 1) (by omega)
  have e : (s.size : Int) - 1 - ((s.size - 1 : Nat) : Int) = 0 := by omega
  rw [e] at h1
  rw [h1]
  have h2 := bv_lt s
  have h3 : bv s / 256 ^ (s.size - 1) < 256 := by
    rw [Nat.div_lt_iff_lt_mul (Nat.pow_pos (by decide))]
    have : s.size = s.size - 1 + 1 := by omega
    rw [this, Nat.pow_succ, Nat.mul_comm] at h2
    exact h2
  rw [Nat.mod_eq_of_lt h3]
/-- A text without a byte 0 ahead is the text of its number. -/
theorem bts_bv (s : ByteArray) (h : 0 < s.size → bt s 0 ≠ 0) : bts (bv s) = s := by
  apply bytesOf_inj
  rw [bytesOf_bts, ← List.reverse_reverse (bytesOf s)]
  congr 1
  symm
  apply list_is_dg (by decide) (digs_reverse.2 (digs_bytesOf s)) ?_ (bv_val s)
  intro hne
  rw [List.getLast_reverse]
  have hl := bytesOf_length s
  have hpos : 0 < (bytesOf s).length := by
    rcases Nat.eq_zero_or_pos (bytesOf s).length with h0 | h0
    · exfalso; apply hne; rw [List.eq_nil_of_length_eq_zero h0]; rfl
    · exact h0
  have h1 := h (by omega)
  rw [← rd_bytesOf] at h1
  unfold rd at h1
  rw [List.head_eq_getElem]
  rw [List.getD_eq_getElem?_getD, List.getElem?_eq_getElem (by simpa using hpos)] at h1
  exact h1

/-- Is a text a great number? -/
def gok (s : ByteArray) : Bool := decide (s.size ≤ 160) && (decide (s.size = 0) || decide (bt s 0 ≠ 0))
theorem gok_iff {s : ByteArray} : gok s = true ↔ s.size ≤ 160 ∧ (s.size = 0 ∨ bt s 0 ≠ 0) := by simp [gok]
/-- The bound of great numbers. -/
def GB : Nat := 256 ^ 160
theorem gok_bts {n : Nat} : gok (bts n) = true ↔ n < GB := by
  rw [gok_iff, bts_size_le]
  constructor
  · exact fun h => h.1
  · intro h
    refine ⟨h, ?_⟩
    by_cases h0 : n = 0
    · left; subst h0; rfl
    · right
      have hp : 0 < (bts n).size := by rw [bts_size_lt]; simp; omega
      rw [bt_first _ hp, bv_bts]
      have h1 : 256 ^ ((bts n).size - 1) ≤ n := by rw [← bts_size_lt]; omega
      have := Nat.div_pos h1 (Nat.pow_pos (by decide))
      omega
/-- A great number is the text of a number below the bound. -/
theorem gok_cases {s : ByteArray} (h : gok s = true) : ∃ n, n < GB ∧ s = bts n := by
  obtain ⟨h1, h2⟩ := gok_iff.1 h
  have e := bts_bv s (fun hp => by rcases h2 with h2 | h2; · omega
                                   · exact h2)
  exact ⟨bv s, by rw [← gok_bts, e]; exact h, e.symm⟩
end Go.Proofs.Ytbkcchpcadlkdaa.M
