/- Contracts: the limbs of a text, in the program and in the reference. Conditions: those named in each theorem. -/
import Derived.Test.YtbkcchpcadlkdaaC1
import Derived.Test.YtbkcchpcadlkdaaFx4
import Derived.Test.YtbkcchpcadlkdaaFx6
set_option linter.unusedVariables false
set_option linter.unusedSimpArgs false
namespace Go.Proofs.Ytbkcchpcadlkdaa.C
open Go.RowKit Go.Proofs.YtbkcchpcadlkdaaW.PrintWords Go.Proofs.YtbkcchpcadlkdaaW.PrintLast Go.Proofs.YtbkcchpcadlkdaaW.PrintMore Go.Proofs.Ytbkcchpcadlkdaa.M Go.Proofs.Ytbkcchpcadlkdaa.F

theorem td {a b : Int} (h : 0 ≤ a) : a.tdiv b = a / b := Int.tdiv_eq_ediv_of_nonneg h
theorem tm {a b : Int} (h : 0 ≤ a) : a.tmod b = a % b := Int.tmod_eq_emod_of_nonneg h
theorem vl_set (B : Nat) : ∀ (l : List Int) (i : Nat) (v : Int), i < l.length → vl B (l.set i v) = vl B l + (v - l.getD i 0) * B ^ i
  | [], i, v, h => by simp at h
  | x :: xs, 0, v, h => by simp [vl]; omega
  | x :: xs, i + 1, v, h => by
    have ih := vl_set B xs i v (by simpa using h)
    simp only [List.set_cons_succ, vl, List.getD_cons_succ]
    rw [ih, Int.pow_succ]
    grind
theorem digs_set {B : Nat} {l : List Int} {i : Nat} {v : Int} (h : Digs B l) (hv : 0 ≤ v ∧ v < B) : Digs B (l.set i v) := by
  intro x hx
  rcases List.mem_or_eq_of_mem_set hx with h1 | h1
  · exact h x h1
  · rw [h1]; exact hv
theorem getD_set {l : List Int} {i j : Nat} {v : Int} (h : i < l.length) : (l.set i v).getD j 0 = if i = j then v else l.getD j 0 := by
  rw [List.getD_eq_getElem?_getD, List.getElem?_set]
  by_cases e : i = j
  · rw [if_pos e, if_pos e, if_pos h]; rfl
  · rw [if_neg e, if_neg e, List.getD_eq_getElem?_getD]
theorem vl_zeros (B n : Nat) : vl B (List.replicate n 0) = 0 := by
  induction n with
  | zero => rfl
  | succ n ih => rw [List.replicate_succ]; simp [vl, ih]
theorem digs_zeros {B : Nat} (hB : 0 < B) (n : Nat) : Digs B (List.replicate n 0) := by
  intro x hx
  have := List.eq_of_mem_replicate hx
  omega
theorem getD_zeros (n j : Nat) : (List.replicate n (0 : Int)).getD j 0 = 0 := by
  rw [List.getD_eq_getElem?_getD, List.getElem?_replicate]; split <;> rfl

/-! ### natOf -/
theorem or8 (r : Nat) (hr : r < 8) {x b : Int} (hx : x % 256 ^ (r + 1) = 0) (h0 : 0 ≤ x) (h1 : x < 18446744073709551616) (hb : 0 ≤ b) (hb1 : b < 256) :
    Go.bits .or .u64 x (shl .u64 b (8 * r)) = x + b * 256 ^ r := by
  have key : ∀ (i : Nat) (y : Int), i ≤ 64 → x % 2 ^ i = 0 → 0 ≤ y → y < 2 ^ i → y < 2 ^ 64 → Go.bits .or .u64 x y = x + y := fun i y hi hx hy hy1 hy2 =>
    bits_join .u64 64 (by decide) (fun n h0 h1 => ur h0 (by simpa using h1)) i x y h0 hx (by simpa using h1) hy hy1 hy2
  have hs : shl .u64 b (8 * r) = b * 256 ^ r := by
    unfold shl
    have : r = 0 ∨ r = 1 ∨ r = 2 ∨ r = 3 ∨ r = 4 ∨ r = 5 ∨ r = 6 ∨ r = 7 := by omega
    rcases this with rfl | rfl | rfl | rfl | rfl | rfl | rfl | rfl <;> (simp only [IntKind.bits]; rw [uw]; simp; try omega)
  rw [hs]
  have : r = 0 ∨ r = 1 ∨ r = 2 ∨ r = 3 ∨ r = 4 ∨ r = 5 ∨ r = 6 ∨ r = 7 := by omega
  rcases this with rfl | rfl | rfl | rfl | rfl | rfl | rfl | rfl
  · exact key 8 _ (by decide) (by simpa using hx) (by omega) (by simp; omega) (by simp; omega)
  · exact key 16 _ (by decide) (by simpa using hx) (by omega) (by simp; omega) (by simp; omega)
  · exact key 24 _ (by decide) (by simpa using hx) (by omega) (by simp; omega) (by simp; omega)
  · exact key 32 _ (by decide) (by simpa using hx) (by omega) (by simp; omega) (by simp; omega)
  · exact key 40 _ (by decide) (by simpa using hx) (by omega) (by simp; omega) (by simp; omega)
  · exact key 48 _ (by decide) (by simpa using hx) (by omega) (by simp; omega) (by simp; omega)
  · exact key 56 _ (by decide) (by simpa using hx) (by omega) (by simp; omega) (by simp; omega)
  · exact key 64 _ (by decide) (by simpa using hx) (by omega) (by simp; omega) (by simp; omega)
/-- What natOf's limbs hold when the bytes above place m are in. -/
structure NInv (N m : Nat) (l : List Int) : Prop where
  digs : Digs 18446744073709551616 l
  val : vl 18446744073709551616 l = ((N / 256 ^ m * 256 ^ m : Nat) : Int)
  low : ∀ q, 8 * q + 8 ≤ m → l.getD q 0 = 0
  part : l.getD (m / 8) 0 % 256 ^ (m % 8) = 0
theorem pow_split (m : Nat) : (256 : Int) ^ (m % 8) * 18446744073709551616 ^ (m / 8) = 256 ^ m := by
  have e : (18446744073709551616 : Int) = 256 ^ 8 := by decide
  rw [e, ← Int.pow_mul, ← Int.pow_add]
  congr 1; omega
theorem NInv.step {N m : Nat} {l : List Int} (h : NInv N (m + 1) l) (hl : m / 8 < l.length) :
    l.getD (m / 8) 0 % 256 ^ (m % 8 + 1) = 0 ∧ NInv N m (l.set (m / 8) (l.getD (m / 8) 0 + ((N / 256 ^ m % 256 : Nat) : Int) * 256 ^ (m % 8))) := by
  have hb : N / 256 ^ m % 256 < 256 := Nat.mod_lt _ (by decide)
  generalize hbv : N / 256 ^ m % 256 = b at hb
  have hx := digs_getD h.digs (by decide) (m / 8)
  generalize hxv : l.getD (m / 8) 0 = x at hx
  have hal : x % 256 ^ (m % 8 + 1) = 0 := by
    by_cases h8 : m % 8 = 7
    · have := h.low (m / 8) (by omega)
      rw [hxv] at this; subst this; simp
    · have := h.part
      have e1 : (m + 1) / 8 = m / 8 := by omega
      have e2 : (m + 1) % 8 = m % 8 + 1 := by omega
      rw [e1, e2, hxv] at this
      exact this
  have hr : 0 ≤ x + (b : Int) * 256 ^ (m % 8) ∧ x + (b : Int) * 256 ^ (m % 8) < 18446744073709551616 ∧ (x + (b : Int) * 256 ^ (m % 8)) % 256 ^ (m % 8) = 0 := by
    have : m % 8 < 8 := by omega
    generalize m % 8 = r at this hal
    have : r = 0 ∨ r = 1 ∨ r = 2 ∨ r = 3 ∨ r = 4 ∨ r = 5 ∨ r = 6 ∨ r = 7 := by omega
    rcases this with rfl | rfl | rfl | rfl | rfl | rfl | rfl | rfl <;> simp at hal ⊢ <;> simp at hx <;> omega
  refine ⟨hal, digs_set h.digs ⟨hr.1, by simpa using hr.2.1⟩, ?_, ?_, ?_⟩
  · rw [vl_set _ _ _ _ hl, h.val, hxv]
    have e : x + (b : Int) * 256 ^ (m % 8) - x = b * 256 ^ (m % 8) := by omega
    have e2 : (((18446744073709551616 : Nat) : Int)) = 18446744073709551616 := rfl
    rw [e, e2, Int.mul_assoc, pow_split]
    have h1 := Nat.div_add_mod (N / 256 ^ m) 256
    rw [Nat.div_div_eq_div_mul, ← Nat.pow_succ, hbv] at h1
    have h2 : N / 256 ^ m * 256 ^ m = N / 256 ^ (m + 1) * 256 ^ (m + 1) + b * 256 ^ m := by
      rw [← h1, Nat.add_mul, Nat.pow_succ]
      congr 1
      rw [Nat.mul_comm 256, Nat.mul_assoc, Nat.mul_comm 256]
    rw [h2]
    simp
  · intro q hq
    rw [getD_set hl, if_neg (by omega)]
    exact h.low q (by omega)
  · rw [getD_set hl, if_pos rfl]
    exact hr.2.2
theorem NInv.start {N m L : Nat} (h : N < 256 ^ m) : NInv N m (List.replicate L 0) :=
  ⟨digs_zeros (by decide) _, by rw [vl_zeros, Nat.div_eq_of_lt h]; simp, fun q _ => getD_zeros _ _, by rw [getD_zeros]; simp⟩
theorem natOf_loop (s : ByteArray) (hs : s.size < 4611686018427387904) : ∀ (m : Nat) (l : List Int), m ≤ s.size → l.length = (s.size + 7) / 8 → NInv (bv s) m l → Av (fun k => impl_natOf.l0 k s l s.size ((s.size : Int) - m)) (D (bv s))
  | 0, l, hm, hl, h => by
    refine Av.succ ?_
    simp only [impl_natOf.l0]
    refine Av.ifn (by omega) ?_
    refine Av.bind ?_ Av.ret
    refine trim_f' h.digs (by omega) ?_
    have := h.val
    simpa using this
  | m + 1, l, hm, hl, h => by
    refine Av.succ ?_
    simp only [impl_natOf.l0]
    obtain ⟨hal, hst⟩ := h.step (show m / 8 < l.length by omega)
    have e1 : (s.size : Int) - 1 - ((s.size : Int) - ((m + 1 : Nat) : Int)) = m := by omega
    have hbt := bt_rev s m (by omega)
    have e2 : (s.size : Int) - ((m + 1 : Nat) : Int) = (s.size : Int) - 1 - m := by omega
    have hb := bt_range s ((s.size : Int) - 1 - m)
    have hb' := bt_range s ((s.size : Int) - ((m + 1 : Nat) : Int))
    simp (disch := omega) only [wr, td, tm, ur, if_pos, if_neg, e1]
    have e3 : ((m : Int) / 8).toNat = m / 8 := by omega
    have e4 : ((s.size : Int) - ((m + 1 : Nat) : Int) + 1) = (s.size : Int) - m := by omega
    have hx := digs_getD h.digs (by decide) (m / 8)
    have e5 : Go.bits .or .u64 (rd l ((m : Int) / 8)) (shl .u64 (bt s ((s.size : Int) - ((m + 1 : Nat) : Int))) (8 * ((m : Int) % 8))) = l.getD (m / 8) 0 + ((bv s / 256 ^ m % 256 : Nat) : Int) * 256 ^ (m % 8) := by
      have h8 := or8 (m % 8) (by omega) (x := l.getD (m / 8) 0) (b := bt s ((s.size : Int) - 1 - m)) hal hx.1 hx.2 (by omega) (by omega)
      rw [← hbt, ← h8]
      unfold rd
      rw [e2, e3]
      congr 2
    rw [e3, e4, e5]
    exact natOf_loop s hs m _ (by omega) (by rw [List.length_set]; exact hl) hst
theorem natOf_f (s : ByteArray) (hs : s.size < 281474976710656) : Av (fun k => impl_natOf.f k s) (D (bv s)) := by
  unfold impl_natOf.f
  simp (disch := omega) only [wr, td, if_pos, if_neg]
  have e : (((s.size : Int) + 7) / 8).toNat = (s.size + 7) / 8 := by omega
  rw [e]
  have := natOf_loop s (by omega) s.size (List.replicate ((s.size + 7) / 8) 0) (Nat.le_refl _) (by simp) (NInv.start (bv_lt s))
  simpa using this

/-! ### l02In -/
theorem in_loop (s : ByteArray) (hs : s.size < 17592186044416) : ∀ (d j : Nat) (l : List Int), s.size + 3 ≤ 3 * (j + d) → 3 * j < s.size + 3 → l.length = j → Digs 16777216 l → vl 16777216 l = ((bv s % 16777216 ^ j : Nat) : Int) → Av (fun k => spec_l02In.l0 k s l ((s.size : Int) - 3 * j)) (E (bv s))
  | 0, j, l, h1, h2, hl, hd, hv => by omega
  | d + 1, j, l, h1, h2, hl, hd, hv => by
    refine Av.succ ?_
    simp only [spec_l02In.l0]
    by_cases hj : s.size ≤ 3 * j
    · refine Av.ifn (by omega) ?_
      refine Av.bind ?_ Av.ret
      refine trim_s' hd (by omega) ?_
      rw [hv, Nat.mod_eq_of_lt]
      refine Nat.lt_of_lt_of_le (bv_lt s) ?_
      have e : (16777216 : Nat) = 256 ^ 3 := rfl
      rw [e, ← Nat.pow_mul]
      exact Nat.pow_le_pow_right (by decide) hj
    · refine Av.ifp (by omega) ?_
      rw [wr (by omega) (by omega)]
      have fin : ∀ n : Int, n = ((bv s / 16777216 ^ j % 16777216 : Nat) : Int) → Av (fun k => spec_l02In.l1 k s l ((s.size : Int) - 3 * j) n ((s.size : Int) - 3 * j)) (E (bv s)) := by
        intro n hn
        refine Av.succ ?_
        simp only [spec_l02In.l1]
        refine Av.ifn (by omega) ?_
        refine Av.ifp (by omega) ?_
        rw [wr (by omega) (by omega)]
        have hlt : bv s / 16777216 ^ j % 16777216 < 16777216 := Nat.mod_lt _ (by decide)
        have e : (s.size : Int) - 3 * j - 3 = (s.size : Int) - 3 * ((j + 1 : Nat) : Int) := by omega
        rw [e]
        refine in_loop s hs d (j + 1) _ (by omega) (by omega) (by simp; omega) (digs_append.2 ⟨hd, ?_⟩) ?_
        · intro x hx; simp at hx; subst hx; constructor <;> omega
        · rw [vl_snoc, hv, hl, hn, Nat.mod_pow_succ]; simp
      have e3 : (16777216 : Nat) ^ j = 256 ^ (3 * j) := by rw [Nat.pow_mul]
      have b0 : 3 * j < s.size → bt s ((s.size : Int) - 3 * j - 1) = ((bv s / 16777216 ^ j % 256 : Nat) : Int) := fun h => by
        rw [e3, ← bt_rev s (3 * j) h]; congr 1; omega
      have b1 : 3 * j + 1 < s.size → bt s ((s.size : Int) - 3 * j - 2) = ((bv s / 16777216 ^ j / 256 % 256 : Nat) : Int) := fun h => by
        rw [e3, Nat.div_div_eq_div_mul, ← Nat.pow_succ, ← bt_rev s (3 * j + 1) h]; congr 1; omega
      have b2 : 3 * j + 2 < s.size → bt s ((s.size : Int) - 3 * j - 3) = ((bv s / 16777216 ^ j / 256 / 256 % 256 : Nat) : Int) := fun h => by
        have e5 : bv s / 256 ^ (3 * j + 2) = bv s / 256 ^ (3 * j) / 256 / 256 := by rw [Nat.div_div_eq_div_mul, Nat.div_div_eq_div_mul, Nat.pow_add]
        rw [e3, ← e5, ← bt_rev s (3 * j + 2) h]; congr 1; omega
      have hY : bv s / 16777216 ^ j < 256 ^ (s.size - 3 * j) := by
        rw [Nat.div_lt_iff_lt_mul (Nat.pow_pos (by decide)), e3, ← Nat.pow_add]
        have : s.size - 3 * j + 3 * j = s.size := by omega
        rw [this]; exact bv_lt s
      generalize bv s / 16777216 ^ j = Y at *
      refine Av.succ ?_
      simp only [spec_l02In.l1]
      refine Av.ifp (by omega) ?_
      -- the first of three bytes
      by_cases c3 : 3 * j + 2 < s.size
      · have t2 := b2 c3
        have t1 := b1 (by omega)
        have t0 := b0 (by omega)
        simp (disch := omega) only [wr, if_pos, if_neg]
        refine Av.succ ?_
        simp only [spec_l02In.l1]
        simp (disch := omega) only [wr, if_pos, if_neg]
        refine Av.succ ?_
        simp only [spec_l02In.l1]
        have e1 : (s.size : Int) - 3 * j - 3 + 1 = (s.size : Int) - 3 * j - 2 := by omega
        have e2 : (s.size : Int) - 3 * j - 2 + 1 = (s.size : Int) - 3 * j - 1 := by omega
        have e4 : (s.size : Int) - 3 * j - 1 + 1 = (s.size : Int) - 3 * j := by omega
        rw [e1, e2]
        simp (disch := omega) only [wr, if_pos, if_neg]
        rw [e4]
        refine fin _ ?_
        rw [t0, t1, t2]
        omega
      · by_cases c2 : 3 * j + 1 < s.size
        · have t1 := b1 c2
          have t0 := b0 (by omega)
          have hz : s.size - 3 * j = 2 := by omega
          rw [hz] at hY
          simp (disch := omega) only [wr, if_pos, if_neg]
          refine Av.succ ?_
          simp only [spec_l02In.l1]
          have e1 : (s.size : Int) - 3 * j - 3 + 1 = (s.size : Int) - 3 * j - 2 := by omega
          have e2 : (s.size : Int) - 3 * j - 2 + 1 = (s.size : Int) - 3 * j - 1 := by omega
          have e4 : (s.size : Int) - 3 * j - 1 + 1 = (s.size : Int) - 3 * j := by omega
          rw [e1, e2]
          simp (disch := omega) only [wr, if_pos, if_neg]
          refine Av.succ ?_
          simp only [spec_l02In.l1]
          simp (disch := omega) only [wr, if_pos, if_neg]
          rw [e4]
          refine fin _ ?_
          rw [t0, t1]
          omega
        · have t0 := b0 (by omega)
          have hz : s.size - 3 * j = 1 := by omega
          rw [hz] at hY
          simp (disch := omega) only [wr, if_pos, if_neg]
          refine Av.succ ?_
          simp only [spec_l02In.l1]
          have e1 : (s.size : Int) - 3 * j - 3 + 1 = (s.size : Int) - 3 * j - 2 := by omega
          have e2 : (s.size : Int) - 3 * j - 2 + 1 = (s.size : Int) - 3 * j - 1 := by omega
          have e4 : (s.size : Int) - 3 * j - 1 + 1 = (s.size : Int) - 3 * j := by omega
          rw [e1, e2]
          simp (disch := omega) only [wr, if_pos, if_neg]
          refine Av.succ ?_
          simp only [spec_l02In.l1]
          simp (disch := omega) only [wr, if_pos, if_neg]
          rw [e4]
          refine fin _ ?_
          rw [t0]
          omega
theorem in_s (s : ByteArray) (hs : s.size < 17592186044416) : Av (fun k => spec_l02In.f k s) (E (bv s)) := by
  unfold spec_l02In.f
  have := in_loop s hs (s.size + 3) 0 [] (by omega) (by omega) rfl (by intro x hx; cases hx) (by simp [vl, Nat.mod_one])
  simpa using this
end Go.Proofs.Ytbkcchpcadlkdaa.C
