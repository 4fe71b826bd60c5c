/- Contracts: the reference's functions on bits and small numbers. Conditions: those named in each theorem. -/
import Derived.Test.YtbkcchpcadlkdaaC3
import Derived.Test.YtbkcchpcadlkdaaFx4
import Derived.Test.YtbkcchpcadlkdaaFx5
import Derived.Test.YtbkcchpcadlkdaaFx6
set_option linter.unusedVariables false
set_option linter.unusedSimpArgs false
namespace Go.Proofs.Ytbkcchpcadlkdaa.C
open Go.RowKit Go.Proofs.YtbkcchpcadlkdaaW.PrintWords Go.Proofs.YtbkcchpcadlkdaaW.PrintLast Go.Proofs.YtbkcchpcadlkdaaW.PrintMore Go.Proofs.Ytbkcchpcadlkdaa.M Go.Proofs.Ytbkcchpcadlkdaa.F

theorem wi {n : Int} (h0 : 0 ≤ n) (h1 : n < 2 ^ 63) : IntKind.i64.wrap n = n := by rw [i64_w]; exact wr (by omega) (by omega)
theorem and1i {k : Int} (h0 : 0 ≤ k) (h1 : k < 9223372036854775808) : Go.bits .and .i64 k 1 = k % 2 :=
  bits_mask .i64 63 (by decide) (fun n h0 h1 => wi h0 h1) 1 (by decide) k h0 (by simpa using h1)
theorem gok_size {s : ByteArray} (h : gok s = true) : s.size ≤ 160 := (gok_iff.1 h).1
theorem bitof_s (s : ByteArray) (h : gok s = true) (j : Nat) (hj : j < 9223372036854775808) : spec_BitOf.f s j = some ((bv s / 2 ^ j % 2 : Nat) : Int) := by
  have hs := gok_size h
  unfold spec_BitOf.f
  rw [gok_s, h, Option.bind_some, if_pos rfl]
  rw [if_neg (by omega)]
  simp (disch := omega) only [td, tm, wr]
  by_cases hb : s.size ≤ j / 8
  · rw [if_pos (by omega)]
    have h1 := bv_lt s
    have h2 : (256 : Nat) ^ s.size ≤ 2 ^ j := by
      have : (256 : Nat) = 2 ^ 8 := rfl
      rw [this, ← Nat.pow_mul]
      exact Nat.pow_le_pow_right (by decide) (by omega)
    rw [Nat.div_eq_of_lt (Nat.lt_of_lt_of_le h1 h2)]; rfl
  · rw [if_neg (by omega), if_pos (by omega), if_pos (by omega), ur (by omega) (by omega), if_pos (by omega)]
    have e1 : (s.size : Int) - 1 - (j : Int) / 8 = (s.size : Int) - 1 - ((j / 8 : Nat) : Int) := by omega
    rw [e1, bt_rev s (j / 8) (by omega)]
    have e2 : min ((j : Int) % 8).toNat IntKind.i64.bits = j % 8 := by simp only [IntKind.bits]; omega
    have hlt : bv s / 256 ^ (j / 8) % 256 < 256 := Nat.mod_lt _ (by decide)
    rw [wr (by omega) (by omega)]
    unfold shr
    rw [e2, natCast_div_pow]
    have h4 := dig_sub (b := 2) (by decide) (bv s) 8 (j / 8) (r := j % 8) (by omega)
    have e5 : 8 * (j / 8) + j % 8 = j := by omega
    have e6 : (2 : Nat) ^ 8 = 256 := rfl
    rw [e5, e6] at h4
    have h5 : bv s / 256 ^ (j / 8) % 256 / 2 ^ (j % 8) < 256 := Nat.lt_of_le_of_lt (Nat.div_le_self _ _) hlt
    rw [and1i (Int.natCast_nonneg _) (Int.ofNat_lt.2 (Nat.lt_trans h5 (by decide))), ← h4, Int.natCast_emod]
    rfl
theorem bitof_neg (s : ByteArray) (h : gok s = true) (j : Int) (hj : j < 0) : spec_BitOf.f s j = some 0 := by
  unfold spec_BitOf.f
  rw [gok_s, h, Option.bind_some, if_pos rfl]
  rw [if_pos hj]
theorem bitof_bad (s : ByteArray) (h : gok s = false) (j : Int) : spec_BitOf.f s j = some 0 := by
  unfold spec_BitOf.f
  rw [gok_s, h]; rfl
/-! ### BitsOf -/
theorem nb_double {x : Nat} (h : 0 < x) : nb (2 * x) = nb x + 1 := by
  have := nb_up (n := 2 * x) (s := 1) (by simp; omega)
  rw [Nat.pow_one, Nat.mul_div_cancel_left _ (by decide)] at this
  exact this
theorem bitsof_loop (n : Nat) (hn : n < 1000000) : ∀ (d x m : Nat), 8 - nb x = d → 0 < x → x < 256 → m ≤ n → 8 ≤ m + nb x → Av (fun k => spec_BitsOf.l0 k m x) ((m + nb x - 8 : Nat) : Int)
  | 0, x, m, hd, h0, h1, hm, hx => by
    have h8 := (nb_le 8 x).2 h1
    have h7 := (nb_lt 7 x).1 (by omega)
    refine Av.succ ?_
    simp only [spec_BitsOf.l0]
    refine Av.ifn (by omega) (Av.ret' ?_)
    congr 1; omega
  | d + 1, x, m, hd, h0, h1, hm, hx => by
    have h7 := (nb_le 7 x).1 (by omega)
    have h2 := nb_double h0
    refine Av.succ ?_
    simp only [spec_BitsOf.l0]
    refine Av.ifp (by omega) ?_
    have e1 : wrap64 ((m : Int) - 1) = ((m - 1 : Nat) : Int) := by rw [wr (by omega) (by omega)]; omega
    have e2 : (x : Int) * 2 % 256 = ((2 * x : Nat) : Int) := by omega
    rw [e1, e2]
    have h3 := bitsof_loop n hn d (2 * x) (m - 1) (by omega) (by omega) (by omega) (by omega) (by omega)
    have e3 : m + nb x - 8 = m - 1 + nb (2 * x) - 8 := by omega
    rw [e3]; exact h3
theorem bitsof_s (s : ByteArray) (h : gok s = true) : Av (fun k => spec_BitsOf.f k s) (nb (bv s) : Int) := by
  obtain ⟨hs, h0⟩ := gok_iff.1 h
  unfold spec_BitsOf.f
  refine Av.bindc (by rw [gok_s, h]) (Av.ifp (by decide) ?_)
  have e1 : wrap64 (8 * (s.size : Int)) = ((8 * s.size : Nat) : Int) := by rw [wr (by omega) (by omega)]; omega
  rw [e1]
  by_cases hz : s.size = 0
  · refine Av.ifn (by omega) (Av.ret' ?_)
    have hb : bv s = 0 := by
      have := bv_lt s
      rw [hz] at this; simp at this; omega
    rw [hb, hz]; rfl
  · refine Av.ifp (by omega) (Av.ifp (by omega) ?_)
    have hf := bt_first s (by omega)
    have hr := bt_range s 0
    have hne : bt s 0 ≠ 0 := by
      rcases h0 with h0 | h0
      · exact absurd h0 hz
      · exact h0
    generalize hbd : bv s / 256 ^ (s.size - 1) = b at hf
    have e2 : (256 : Nat) ^ (s.size - 1) = 2 ^ (8 * (s.size - 1)) := by rw [Nat.pow_mul]
    have hge : 2 ^ (8 * (s.size - 1)) ≤ bv s := by
      rw [← e2]
      rcases Nat.lt_or_ge (bv s) (256 ^ (s.size - 1)) with h1 | h1
      · rw [Nat.div_eq_of_lt h1] at hbd; omega
      · exact h1
    have hn := nb_up hge
    rw [← e2, hbd] at hn
    rw [hf]
    have h8 := (nb_le 8 b).2 (by omega)
    have h3 := bitsof_loop (8 * s.size) (by omega) _ b (8 * s.size) rfl (by omega) (by omega) (Nat.le_refl _) (by omega)
    have e3 : 8 * s.size + nb b - 8 = nb (bv s) := by omega
    rw [e3] at h3
    exact h3
theorem bitsof_bad (s : ByteArray) (h : gok s = false) : Av (fun k => spec_BitsOf.f k s) (-1) := by
  unfold spec_BitsOf.f
  refine Av.bindc (by rw [gok_s, h]) (Av.ifn (by decide) Av.ret)
/-! ### GreatOf -/
theorem dg_rev_step {m : Nat} : (dg 256 m).reverse = if m = 0 then [] else (dg 256 (m / 256)).reverse ++ [((m % 256 : Nat) : Int)] := by
  by_cases h : m = 0
  · rw [if_pos h, h]; rfl
  · rw [if_neg h, dg_pos (by decide) h, List.reverse_cons]
theorem greatof_loop (n : Nat) (hn : n < 9223372036854775808) : ∀ (m : Nat), m ≤ 8 → Av (fun k => spec_GreatOf.l0 k n (dg 256 (n / 256 ^ m)).reverse ((m : Int) - 1)) (bts n)
  | 0, _ => by
    refine Av.succ ?_
    simp only [spec_GreatOf.l0]
    refine Av.ifn (by omega) (Av.ret' ?_)
    simp [bts]
  | m + 1, hm => by
    refine Av.succ ?_
    simp only [spec_GreatOf.l0]
    have e : ((m + 1 : Nat) : Int) - 1 = m := by omega
    rw [e]
    simp (disch := omega) only [ur, wr]
    have es : shr .i64 (n : Int) (8 * (m : Int)) % 256 = ((n / 256 ^ m % 256 : Nat) : Int) := by
      unfold shr
      have e2 : min (8 * (m : Int)).toNat IntKind.i64.bits = 8 * m := by simp only [IntKind.bits]; omega
      have e3 : (2 : Nat) ^ (8 * m) = 256 ^ m := by rw [Nat.pow_mul]
      rw [e2, natCast_div_pow, e3]; omega
    rw [es]
    have ih := greatof_loop n hn m (by omega)
    have hq : n / 256 ^ (m + 1) = n / 256 ^ m / 256 := by rw [Nat.pow_succ, Nat.div_div_eq_div_mul]
    have hst := @dg_rev_step (n / 256 ^ m)
    rw [hq]
    generalize n / 256 ^ m = Y at *
    have hlen : (dg 256 (Y / 256)).reverse.length ≤ 8 := by
      rw [List.length_reverse, dg_length_le (by decide)]
      have : Y / 256 ≤ n := by
        have h1 : n / 256 ^ (m + 1) ≤ n := Nat.div_le_self _ _
        omega
      omega
    refine Av.ifp (by omega) (Av.ifp (by omega) ?_)
    by_cases hz : Y % 256 = 0
    · refine Av.ifp (by omega) ?_
      by_cases hy : Y = 0
      · subst hy
        refine Av.ifn (by simp [dg_zero]) ?_
        rw [if_pos rfl] at hst
        have e4 : (dg 256 (0 / 256)).reverse = [] := rfl
        rw [e4]; rw [hst] at ih; exact ih
      · rw [if_neg hy] at hst
        have hl : 0 < (dg 256 (Y / 256)).reverse.length := by
          rw [List.length_reverse, dg_length_lt (by decide)]; simp; omega
        refine Av.ifp (by omega) (Av.ifp (by omega) ?_)
        rw [← hst]; exact ih
    · refine Av.ifn (by omega) (Av.ifp (by omega) ?_)
      rw [if_neg (by rintro rfl; exact hz rfl)] at hst
      rw [← hst]; exact ih
theorem greatof_s (n : Nat) (hn : n < 9223372036854775808) : Av (fun k => spec_GreatOf.f k n) (bts n) := by
  unfold spec_GreatOf.f
  refine Av.ifn (by omega) ?_
  have h := greatof_loop n hn 8 (by omega)
  rw [Nat.div_eq_of_lt (by omega)] at h
  exact h
theorem greatof_neg (n : Int) (hn : n < 0) : Av (fun k => spec_GreatOf.f k n) (⟨#[]⟩ : ByteArray) := by
  unfold spec_GreatOf.f
  exact Av.ifp hn Av.ret
/-! ### GreatInt -/
theorem bv_prefix (s : ByteArray) (m : Nat) (h : m < s.size) : bv s / 256 ^ (s.size - (m + 1)) = bv s / 256 ^ (s.size - m) * 256 + bv s / 256 ^ (s.size - (m + 1)) % 256 := by
  have e : s.size - m = s.size - (m + 1) + 1 := by omega
  rw [e, Nat.pow_succ, ← Nat.div_div_eq_div_mul]
  have := Nat.div_add_mod (bv s / 256 ^ (s.size - (m + 1))) 256
  omega
theorem or8i {x b : Nat} (hx : x < 36028797018963968) (hb : b < 256) : Go.bits .or .i64 (wrap64 ((x : Int) * 256)) (wrap64 (b : Int)) = ((x * 256 + b : Nat) : Int) := by
  rw [wr (by omega) (by omega), wr (by omega) (by omega)]
  have := bits_join .i64 63 (by decide) (fun n h0 h1 => wi h0 h1) 8 ((x : Int) * 256) b (by omega) (by simp) (by simp; omega) (by omega) (by simp; omega) (by simp; omega)
  rw [this]; omega
theorem greatint_loop (s : ByteArray) (h8 : s.size ≤ 8) (hv : bv s < 9223372036854775808) : ∀ (d m : Nat), s.size - m = d → m ≤ s.size → Av (fun k => spec_GreatInt.l0 k s ((bv s / 256 ^ (s.size - m) : Nat) : Int) m) ((bv s : Int), true)
  | 0, m, hd, hm => by
    refine Av.succ ?_
    simp only [spec_GreatInt.l0]
    refine Av.ifn (by omega) (Av.ret' ?_)
    rw [hd]; simp
  | d + 1, m, hd, hm => by
    refine Av.succ ?_
    simp only [spec_GreatInt.l0]
    refine Av.ifp (by omega) (Av.ifp (by omega) ?_)
    have hb := bt_rev s (s.size - (m + 1)) (by omega)
    have e1 : (s.size : Int) - 1 - ((s.size - (m + 1) : Nat) : Int) = m := by omega
    rw [e1] at hb
    have hp := bv_prefix s m (by omega)
    have hq : bv s / 256 ^ (s.size - (m + 1)) ≤ bv s := Nat.div_le_self _ _
    have hlt : bv s / 256 ^ (s.size - (m + 1)) % 256 < 256 := Nat.mod_lt _ (by decide)
    have ih := greatint_loop s h8 hv d (m + 1) (by omega) (by omega)
    have e2 : wrap64 ((m : Int) + 1) = ((m + 1 : Nat) : Int) := by rw [wr (by omega) (by omega)]; omega
    rw [e2, hb]
    generalize bv s / 256 ^ (s.size - (m + 1)) = Y at *
    generalize bv s / 256 ^ (s.size - m) = Z at *
    rw [or8i (by omega) hlt, ← hp]
    exact ih
theorem size_big {s : ByteArray} (h : gok s = true) {j : Nat} : j < s.size ↔ 256 ^ j ≤ bv s := by
  obtain ⟨n, hn, rfl⟩ := gok_cases h
  rw [bv_bts, bts_size_lt]
/-- What GreatInt answers of a great number. -/
def giv (n : Nat) : Int × Bool := if n < 9223372036854775808 then ((n : Int), true) else (0, false)
theorem greatint_s (s : ByteArray) (h : gok s = true) : Av (fun k => spec_GreatInt.f k s) (giv (bv s)) := by
  unfold spec_GreatInt.f
  refine Av.bindc (by rw [gok_s, h]) (Av.ifp (by decide) ?_)
  have hb8 := size_big h (j := 8)
  have hlt := bv_lt s
  have tt : giv (bv s) = (0, false) → Av (fun k => spec_GreatInt.j0 k s true) (giv (bv s)) := fun e => by
    refine Av.succ ?_
    simp only [spec_GreatInt.j0]
    exact Av.ifp (by decide) (Av.ret' e.symm)
  have ff : bv s < 9223372036854775808 → s.size ≤ 8 → Av (fun k => spec_GreatInt.j0 k s false) (giv (bv s)) := fun e e8 => by
    refine Av.succ ?_
    simp only [spec_GreatInt.j0]
    refine Av.ifn (by decide) ?_
    have := greatint_loop s e8 e s.size 0 (by omega) (by omega)
    rw [Nat.sub_zero, Nat.div_eq_of_lt (bv_lt s)] at this
    unfold giv; rw [if_pos e]; exact this
  by_cases h9 : 8 < s.size
  · refine Av.ifp (by omega) (tt ?_)
    unfold giv
    rw [if_neg]
    have := hb8.1 h9
    omega
  · refine Av.ifn (by omega) ?_
    by_cases h8 : s.size = 8
    · refine Av.ifp (by omega) (Av.ifp (by omega) ?_)
      have hf := bt_first s (by omega)
      rw [h8] at hf
      by_cases hbt : bt s 0 > 127
      · rw [decide_eq_true hbt]
        refine tt ?_
        unfold giv
        rw [if_neg]
        omega
      · rw [decide_eq_false hbt]
        refine ff ?_ (by omega)
        omega
    · refine Av.ifn (by omega) (ff ?_ (by omega))
      have : (256 : Nat) ^ s.size ≤ 256 ^ 7 := Nat.pow_le_pow_right (by decide) (by omega)
      omega
theorem greatint_bad (s : ByteArray) (h : gok s = false) : Av (fun k => spec_GreatInt.f k s) (0, false) := by
  unfold spec_GreatInt.f
  refine Av.bindc (by rw [gok_s, h]) (Av.ifn (by decide) ?_)
  refine Av.succ ?_
  simp only [spec_GreatInt.j0]
  exact Av.ifp (by decide) Av.ret
end Go.Proofs.Ytbkcchpcadlkdaa.C
