/- Words and contracts that the laws of this claim lean on: numbers as limbs, and what the functions make of them. Conditions: those named in each theorem. -/
import Derived.Test.YtghhnjhjhjbljaaVEOwnWords
import Derived.Test.YtghhnjhjhjbljaaYE1
import Derived.Test.YtghhnjhjhjbljaaZE0
import Derived.Test.YtghhnjhjhjbljaaZE1
import Derived.Test.YtghhnjhjhjbljaaZE2
import Derived.Test.YtghhnjhjhjbljaaZE3
import Derived.Test.YtghhnjhjhjbljaaZE4
set_option linter.unusedVariables false
set_option linter.unusedSimpArgs false
set_option maxRecDepth 100000
namespace Go.Proofs.Ytghhnjhjhjbljaa.C
open Go.RowKit Go.Proofs.YtghhnjhjhjbljaaW.PrintWords Go.Proofs.YtghhnjhjhjbljaaW.PrintLast Go.Proofs.YtghhnjhjhjbljaaW.PrintMore
open Go.Proofs.Ytghhnjhjhjbljaa.M Go.Proofs.Ytghhnjhjhjbljaa.F
/-- The guess for a step by the digits that it is told by. -/
theorem Dv.guess {B A V U q j n : Nat} (hB : 2 ≤ B) (h : Dv B A V (j + 1) U q) (hn : 2 ≤ n) (hV1 : B ^ (n - 1) ≤ V) (hV2 : V < B ^ n) {x y z v w : Nat}
    (hx : x = U / B ^ (j + n) % B) (hy : y = U / B ^ (j + n - 1) % B) (hz : z = U / B ^ (j + n - 2) % B) (hv : v = V / B ^ (n - 1) % B) (hw : w = V / B ^ (n - 2) % B) :
    0 < v ∧ w < B ∧ z < B ∧ x * B + y < (v + 1) * B ∧ U / B ^ j / V ≤ qh B ((x * B + y) * B + z) (v * B + w) ∧ qh B ((x * B + y) * B + z) (v * B + w) ≤ U / B ^ j / V + 1 := by
  have hB0 : 0 < B := by omega
  have hlt := h.lt
  have p1 : B ^ n = B ^ (n - 1) * B := by rw [← Nat.pow_succ]; congr 1; omega
  have p2 : B ^ (n - 1) = B ^ (n - 2) * B := by rw [← Nat.pow_succ]; congr 1; omega
  have hP2 : 0 < B ^ (n - 2) := Nat.pow_pos hB0
  have hP1 : 0 < B ^ (n - 1) := Nat.pow_pos hB0
  have hPj : 0 < B ^ j := Nat.pow_pos hB0
  -- the window
  have hW : U / B ^ j < V * B := by
    rw [Nat.div_lt_iff_lt_mul hPj, Nat.mul_assoc, Nat.mul_comm B, ← Nat.pow_succ]; exact hlt
  generalize hWd : U / B ^ j = W at *
  have ex : U / B ^ (j + n) = W / B ^ n := by rw [Nat.pow_add, ← Nat.div_div_eq_div_mul, hWd]
  have ey : U / B ^ (j + n - 1) = W / B ^ (n - 1) := by rw [show j + n - 1 = j + (n - 1) by omega, Nat.pow_add, ← Nat.div_div_eq_div_mul, hWd]
  have ez : U / B ^ (j + n - 2) = W / B ^ (n - 2) := by rw [show j + n - 2 = j + (n - 2) by omega, Nat.pow_add, ← Nat.div_div_eq_div_mul, hWd]
  rw [ex] at hx; rw [ey] at hy; rw [ez] at hz
  have hv' : v = V / B ^ (n - 1) := by
    rw [hv]; apply Nat.mod_eq_of_lt
    rw [Nat.div_lt_iff_lt_mul hP1, Nat.mul_comm, ← p1]; exact hV2
  have hxv : W / B ^ n ≤ v := by
    have h2 : W / B ^ (n - 1) / B = W / B ^ n := by rw [Nat.div_div_eq_div_mul, ← p1]
    have h3 : W / B ^ (n - 1) < (v + 1) * B := by
      rw [Nat.div_lt_iff_lt_mul hP1]
      have h4 : V < (v + 1) * B ^ (n - 1) := by
        rw [hv']
        have h8 := Nat.div_add_mod V (B ^ (n - 1))
        have h9 := Nat.mod_lt V hP1
        rw [Nat.add_mul, Nat.one_mul, Nat.mul_comm (V / _)]
        omega
      have h5 : (V + 1) * B ≤ (v + 1) * B ^ (n - 1) * B := Nat.mul_le_mul_right B h4
      have h6 : (v + 1) * B ^ (n - 1) * B = (v + 1) * B * B ^ (n - 1) := by grind
      have h7 : (V + 1) * B = V * B + B := by grind
      omega
    rw [← h2]
    have : W / B ^ (n - 1) / B < v + 1 := by rw [Nat.div_lt_iff_lt_mul hB0]; exact h3
    omega
  have hvB : v < B := by rw [hv]; exact Nat.mod_lt _ hB0
  have hx' : x = W / B ^ n := by rw [hx]; exact Nat.mod_eq_of_lt (by omega)
  have exy : x * B + y = W / B ^ (n - 1) := by
    rw [hx', hy, p1, ← Nat.div_div_eq_div_mul]
    have := Nat.div_add_mod (W / B ^ (n - 1)) B
    rw [Nat.mul_comm] at this
    omega
  have exyz : (x * B + y) * B + z = W / B ^ (n - 2) := by
    rw [exy, hz, p2, ← Nat.div_div_eq_div_mul]
    have := Nat.div_add_mod (W / B ^ (n - 2)) B
    rw [Nat.mul_comm] at this
    omega
  have evw : v * B + w = V / B ^ (n - 2) := by
    rw [hv', hw, p2, ← Nat.div_div_eq_div_mul]
    have := Nat.div_add_mod (V / B ^ (n - 2)) B
    rw [Nat.mul_comm] at this
    omega
  have hv0 : 0 < v := by
    rw [hv']; exact Nat.div_pos hV1 hP1
  have hyB : y < B := by rw [hy]; exact Nat.mod_lt _ hB0
  have hwB : w < B := by rw [hw]; exact Nat.mod_lt _ hB0
  have hzB : z < B := by rw [hz]; exact Nat.mod_lt _ hB0
  have hnear := qh_near (B := B) (P := B ^ (n - 2)) (v := v) (w := w) (rv := V % B ^ (n - 2)) (T := W / B ^ (n - 2)) (rw := W % B ^ (n - 2)) (W := W) (V := V) hB0 hv0 (Nat.mod_lt _ hP2) (Nat.mod_lt _ hP2)
    (by rw [evw, Nat.mul_comm]; exact (Nat.div_add_mod _ _).symm) (by rw [Nat.mul_comm]; exact (Nat.div_add_mod _ _).symm) hW
  rw [exyz]
  refine ⟨hv0, hwB, hzB, ?_, hnear.1, hnear.2⟩
  rw [exy]
  have h2 : W / B ^ (n - 1) / B = W / B ^ n := by rw [Nat.div_div_eq_div_mul, ← p1]
  have h3 : W / B ^ (n - 1) / B < v + 1 := by omega
  rwa [Nat.div_lt_iff_lt_mul hB0] at h3
/-- A digit of a number that is shifted to the right. -/
theorem dig_shift {t s : Nat} (h : s ≤ t) (Y : Nat) : Y / 2 ^ s % 2 ^ t = Y % 2 ^ t / 2 ^ s + Y / 2 ^ t % 2 ^ t * 2 ^ (t - s) % 2 ^ t := by
  have e : (2 : Nat) ^ t = 2 ^ s * 2 ^ (t - s) := by rw [← Nat.pow_add]; congr 1; omega
  have e2 : (2 : Nat) ^ t = 2 ^ (t - s) * 2 ^ s := by rw [e, Nat.mul_comm]
  generalize 2 ^ s = P at *
  generalize 2 ^ (t - s) = Q at *
  have h1 : Y % 2 ^ t / P = Y / P % Q := by rw [e, Nat.mod_mul_right_div_self]
  have h2 : Y / P % 2 ^ t = Y / P % Q + Q * (Y / 2 ^ t % P) := by
    rw [e2, Nat.mod_mul, Nat.div_div_eq_div_mul, ← e, e2]
  have h3 : Y / 2 ^ t % 2 ^ t * Q % 2 ^ t = Q * (Y / 2 ^ t % P) := by
    have h4 : ∀ z : Nat, z * Q % (Q * P) = Q * (z % P) := fun z => by rw [Nat.mul_comm z, Nat.mul_mod_mul_left]
    have h5 : Y / 2 ^ t % 2 ^ t % P = Y / 2 ^ t % P := Nat.mod_mod_of_dvd _ ⟨Q, e⟩
    have h6 := h4 (Y / 2 ^ t % 2 ^ t)
    rw [← e2, h5] at h6
    exact h6
  rw [h1, h2, h3]
theorem down_lt {t s x : Nat} (h : s ≤ t) (hx : x < 2 ^ t) : x / 2 ^ s < 2 ^ (t - s) := by
  rw [Nat.div_lt_iff_lt_mul (Nat.pow_pos (by decide)), ← Nat.pow_add]
  have : t - s + s = t := by omega
  rw [this]; exact hx
theorem down_dvd {t s y : Nat} (h : s ≤ t) : y * 2 ^ (t - s) % 2 ^ t % 2 ^ (t - s) = 0 := by
  rw [Nat.mod_mod_of_dvd _ ⟨2 ^ s, by rw [← Nat.pow_add]; congr 1; omega⟩, Nat.mul_mod_left]
/-- The limbs of a shifted number, one of them. -/
theorem down64 {x y s : Nat} (hs : s < 64) (hx : x < 18446744073709551616) : Go.bits .or .u64 (x / 2 ^ s : Nat) (y * 2 ^ (64 - s) % 18446744073709551616 : Nat) = ((x / 2 ^ s + y * 2 ^ (64 - s) % 18446744073709551616 : Nat) : Int) := by
  have e64 : (2 : Nat) ^ 64 = 18446744073709551616 := rfl
  have h1 := down_lt (t := 64) (s := s) (x := x) (by omega) (by rw [e64]; exact hx)
  have h2 := down_dvd (t := 64) (s := s) (y := y) (by omega)
  have h3 : y * 2 ^ (64 - s) % 18446744073709551616 < 18446744073709551616 := Nat.mod_lt _ (by decide)
  rw [e64] at h2
  generalize y * 2 ^ (64 - s) % 18446744073709551616 = Z at *
  have h4 : x / 2 ^ s < 18446744073709551616 := Nat.lt_of_le_of_lt (Nat.div_le_self _ _) hx
  generalize x / 2 ^ s = q at *
  have hc : Go.bits .or .u64 (q : Int) (Z : Int) = Go.bits .or .u64 (Z : Int) (q : Int) := by simp only [Go.bits, BitVec.or_comm]
  have e2 : ((2 : Int) ^ (64 - s)) = ((2 ^ (64 - s) : Nat) : Int) := by simp
  have hj := bits_join .u64 64 (by decide) (fun n h0 h1 => ur h0 (by simpa using h1)) (64 - s) (Z : Int) (q : Int) (Int.natCast_nonneg _) (by rw [e2, ← Int.natCast_emod, h2]; rfl) (Int.ofNat_lt.2 h3) (Int.natCast_nonneg _) (by rw [e2]; exact Int.ofNat_lt.2 h1) (Int.ofNat_lt.2 h4)
  rw [hc, hj, Int.natCast_add, Int.add_comm]
theorem shr_nat {k : IntKind} {x s : Nat} (hs : s ≤ k.bits) : shr k (x : Int) (s : Int) = ((x / 2 ^ s : Nat) : Int) := by
  unfold shr
  rw [Int.toNat_natCast, Nat.min_eq_left hs, natCast_div_pow']
theorem shl_u64 {x s : Nat} (hs : s ≤ 64) : shl .u64 (x : Int) (s : Int) = ((x * 2 ^ s % 18446744073709551616 : Nat) : Int) := by
  unfold shl
  rw [Int.toNat_natCast, Nat.min_eq_left (show s ≤ IntKind.u64.bits from hs), uw]
  have e : (2 : Int) ^ s = ((2 ^ s : Nat) : Int) := by simp
  rw [e, ← Int.natCast_mul]
  rfl
theorem rd_get {l : List Int} {i : Nat} : rd l (i : Int) = l.getD i 0 := by unfold rd; rw [Int.toNat_natCast]
theorem W64 : (18446744073709551616 : Nat) = 2 ^ 64 := rfl
theorem down_dig (a i s : Nat) (hs : s < 64) : a / 2 ^ s / 18446744073709551616 ^ i % 18446744073709551616 = a / 18446744073709551616 ^ i % 18446744073709551616 / 2 ^ s + a / 18446744073709551616 ^ (i + 1) % 18446744073709551616 * 2 ^ (64 - s) % 18446744073709551616 := by
  have h := dig_shift (t := 64) (s := s) (by omega) (a / 18446744073709551616 ^ i)
  rw [← W64, Nat.div_div_eq_div_mul, Nat.div_div_eq_div_mul] at h
  rw [Nat.div_div_eq_div_mul, Nat.mul_comm (2 ^ s), h, Nat.pow_succ]
/-- What is shifted so far: the digits below place i. -/
structure Dn (a s : Nat) (l : List Int) (i : Nat) : Prop where
  len : l.length = (D a).length
  lo : ∀ j, j < i → l.getD j 0 = ((a / 2 ^ s / 18446744073709551616 ^ j % 18446744073709551616 : Nat) : Int)
  hi : ∀ j, i ≤ j → l.getD j 0 = ((a / 18446744073709551616 ^ j % 18446744073709551616 : Nat) : Int)
theorem down_loop (a s : Nat) (hs : s < 64) (hl : (D a).length < 17592186044416) : ∀ (d i : Nat) (l : List Int), (D a).length - i = d → i ≤ (D a).length → Dn a s l i → Av (fun k => impl_nat_down.l0 k (D a) s l (D a).length i) (D (a / 2 ^ s))
  | 0, i, l, hd, hi, h => by
    obtain rfl : i = (D a).length := by omega
    refine Av.succ ?_
    simp only [impl_nat_down.l0]
    refine Av.ifn (by omega) (Av.bind ?_ Av.ret)
    have hlt : a / 2 ^ s < 18446744073709551616 ^ l.length := by
      rw [h.len]
      exact Nat.lt_of_le_of_lt (Nat.div_le_self _ _) ((D_le _ a).1 (Nat.le_refl _))
    refine trim_f' (n := a / 2 ^ s) ?_ (by rw [h.len]; omega) (vl_of_getD (by decide) hlt (fun j hj => h.lo j (by rw [← h.len]; exact hj)))
    intro x hx
    obtain ⟨j, hj, rfl⟩ := List.getElem_of_mem hx
    have h1 := h.lo j (by rw [← h.len]; exact hj)
    rw [List.getD_eq_getElem?_getD, List.getElem?_eq_getElem hj] at h1
    simp only [Option.getD_some] at h1
    rw [h1]
    exact ⟨Int.natCast_nonneg _, Int.ofNat_lt.2 (Nat.mod_lt _ (by decide))⟩
  | d + 1, i, l, hd, hi, h => by
    have i1 : (i : Int) < (D a).length := by omega
    have i2 : i < l.length := by rw [h.len]; omega
    have i3 : (D a).length - (i + 1) = d := by omega
    have i4 : i + 1 ≤ (D a).length := by omega
    have i5 : (i : Int) < l.length := Int.ofNat_lt.2 i2
    have i6 : i < 4611686018427387904 := by omega
    have e1 : wrap64 ((i : Int) + 1) = ((i + 1 : Nat) : Int) := wrap_one i6
    have es : wrap64 (64 - (s : Int)) = ((64 - s : Nat) : Int) := by clear i1 i2 i5 e1 i6 i4; rw [wr (by omega) (by omega)]; omega
    have hx : a / 18446744073709551616 ^ i % 18446744073709551616 < 18446744073709551616 := Nat.mod_lt _ (by decide)
    have hdig := down_dig a i s hs
    have r1 : rd l (i : Int) = ((a / 18446744073709551616 ^ i % 18446744073709551616 : Nat) : Int) := by rw [rd_get]; exact h.hi i (Nat.le_refl _)
    have r2 := rdD a (i + 1)
    have hsh : shr .u64 ((a / 18446744073709551616 ^ i % 18446744073709551616 : Nat) : Int) (s : Int) = _ := shr_nat (k := .u64) (Nat.le_of_lt hs)
    refine Av.succ ?_
    simp only [impl_nat_down.l0, e1, es, r1, r2, hsh, Int.toNat_natCast]
    refine Av.ifp i1 (Av.ifp (Int.natCast_nonneg _) (Av.ifp i5 (Av.ifp (Int.natCast_nonneg _) (Av.bindc rfl ?_))))
    by_cases hlast : i + 1 < (D a).length
    · refine Av.ifp (Int.ofNat_lt.2 hlast) (Av.ifp (Int.natCast_nonneg _) (Av.ifp (Int.natCast_nonneg _) ?_))
      have r3 : rd (l.set i ((a / 18446744073709551616 ^ i % 18446744073709551616 / 2 ^ s : Nat) : Int)) (i : Int) = ((a / 18446744073709551616 ^ i % 18446744073709551616 / 2 ^ s : Nat) : Int) := by
        rw [rd_get, getD_set i2, if_pos rfl]
      rw [r3, shl_u64 (by omega), down64 hs hx, ← hdig, List.set_set]
      refine down_loop a s hs hl d (i + 1) _ i3 i4 ⟨by rw [List.length_set]; exact h.len, ?_, ?_⟩
      · intro j hj
        rw [getD_set i2]
        by_cases hij : i = j
        · subst hij; rw [if_pos rfl]
        · rw [if_neg hij]; exact h.lo j (Nat.lt_of_le_of_ne (Nat.le_of_lt_succ hj) (Ne.symm hij))
      · intro j hj
        rw [getD_set i2, if_neg (Nat.ne_of_lt hj)]
        exact h.hi j (Nat.le_of_lt hj)
    · refine Av.ifn (fun hc => hlast (Int.ofNat_lt.1 hc)) ?_
      have hz : a / 18446744073709551616 ^ (i + 1) % 18446744073709551616 = 0 := by
        have h1 : a < 18446744073709551616 ^ (i + 1) := (D_le _ a).1 (Nat.le_of_not_lt hlast)
        rw [Nat.div_eq_of_lt h1]
      rw [hz, Nat.zero_mul, Nat.zero_mod, Nat.add_zero] at hdig
      rw [← hdig]
      refine down_loop a s hs hl d (i + 1) _ i3 i4 ⟨by rw [List.length_set]; exact h.len, ?_, ?_⟩
      · intro j hj
        rw [getD_set i2]
        by_cases hij : i = j
        · subst hij; rw [if_pos rfl]
        · rw [if_neg hij]; exact h.lo j (Nat.lt_of_le_of_ne (Nat.le_of_lt_succ hj) (Ne.symm hij))
      · intro j hj
        rw [getD_set i2, if_neg (Nat.ne_of_lt hj)]
        exact h.hi j (Nat.le_of_lt hj)
theorem down_f (a s : Nat) (hs : s < 64) (hl : (D a).length < 17592186044416) : Av (fun k => impl_nat_down.f k (D a) s) (D (a / 2 ^ s)) := by
  unfold impl_nat_down.f impl_nat_uint64.f
  refine Av.bindc (if_pos hl) ?_
  exact down_loop a s hs hl (D a).length 0 (D a) (by omega) (by omega) ⟨rfl, fun j hj => by omega, fun j _ => by rw [← rd_get]; exact rdD a j⟩
/-- A number that a limb holds. -/
theorem urn {n : Nat} (h : n < 18446744073709551616) : IntKind.u64.wrap (n : Int) = (n : Int) := ur (Int.natCast_nonneg _) (Int.ofNat_lt.2 h)
theorem urm {a b : Nat} (h : a * b < 18446744073709551616) : IntKind.u64.wrap ((a : Int) * b) = ((a * b : Nat) : Int) := by rw [← Int.natCast_mul]; exact urn h
theorem ura {a b : Nat} (h : a + b < 18446744073709551616) : IntKind.u64.wrap ((a : Int) + b) = ((a + b : Nat) : Int) := by rw [← Int.natCast_add]; exact urn h
theorem urs {a b : Nat} (h : a < 18446744073709551616) (hb : b ≤ a) : IntKind.u64.wrap ((a : Int) - b) = ((a - b : Nat) : Int) := by
  rw [← Int.ofNat_sub hb]; exact urn (Nat.lt_of_le_of_lt (Nat.sub_le _ _) h)
theorem tdu {x y : Nat} (h : x < 18446744073709551616) : IntKind.u64.wrap (Int.tdiv (x : Int) (y : Int)) = ((x / y : Nat) : Int) := by
  rw [td (Int.natCast_nonneg _), ← Int.natCast_ediv]; exact urn (Nat.lt_of_le_of_lt (Nat.div_le_self _ _) h)
/-- What comes round again. -/
theorem wrap_rem {a b c r : Nat} (h : a + b = c + r) (hr : r < 18446744073709551616) : IntKind.u64.wrap (IntKind.u64.wrap (IntKind.u64.wrap (a : Int) + b) - IntKind.u64.wrap (c : Int)) = (r : Int) := by
  rw [uw, uw, uw, uw]; omega
/-- The guess by halves of a limb: the first. -/
theorem d64_l0 {Y s v w X z u0 : Nat} {r : Int × Int} (hv0 : 0 < v) (hv : v < 4294967296) (hw : w < 4294967296) (hz : z < 4294967296) (hX : X < (v + 1) * 4294967296)
    (fin : Av (fun k => bits_Div64.j2 k Y s v w X z u0 ((qh 4294967296 (X * 4294967296 + z) (v * 4294967296 + w) : Nat) : Int)) r) :
    ∀ (g x : Nat), g < 18446744073709551616 → x < 4294967296 → Gs 4294967296 v w X z g x → Av (fun k => bits_Div64.l0 k Y s v w X z u0 g x) r := by
  intro g
  induction g using Nat.strongRecOn with
  | _ g ih =>
    intro x hgb hx hG
    have ww : IntKind.u64.wrap ((x : Int) + (v : Int)) = ((x + v : Nat) : Int) := ura (by omega)
    have jT : (4294967296 ≤ g ∨ x * 4294967296 + z < g * w) → Av (fun k => bits_Div64.j1 k Y s v w X z u0 g x true) r := by
      intro hc
      obtain ⟨hg0, hG2⟩ := hG.next hv0 (by decide) hc
      have wg : IntKind.u64.wrap ((g : Int) - 1) = ((g - 1 : Nat) : Int) := urs (b := 1) hgb hg0
      refine Av.succ ?_
      simp only [bits_Div64.j1, ww, wg]
      refine Av.ifp (by decide) ?_
      by_cases hB : 4294967296 ≤ x + v
      · refine Av.ifp (Int.ofNat_le.2 hB) ?_
        rw [hG2.over hv0 (by decide) hw hX hB]
        exact fin
      · refine Av.ifn (fun h => hB (Int.ofNat_le.1 h)) ?_
        exact ih (g - 1) (Nat.sub_lt hg0 (by decide)) (x + v) (Nat.lt_of_le_of_lt (Nat.sub_le _ _) hgb) (Nat.lt_of_not_le hB) hG2
    refine Av.succ ?_
    simp only [bits_Div64.l0]
    by_cases hgB : 4294967296 ≤ g
    · exact Av.ifp (Int.ofNat_le.2 hgB) (jT (.inl hgB))
    · refine Av.ifn (fun h => hgB (Int.ofNat_le.1 h)) ?_
      have hgl : g < 4294967296 := Nat.lt_of_not_le hgB
      have hm : g * w ≤ 4294967295 * 4294967295 := Nat.mul_le_mul (Nat.le_of_lt_succ hgl) (Nat.le_of_lt_succ hw)
      have w1 : IntKind.u64.wrap ((g : Int) * (w : Int)) = ((g * w : Nat) : Int) := urm (Nat.lt_of_le_of_lt hm (by decide))
      have w2 : IntKind.u64.wrap (4294967296 * (x : Int)) = ((4294967296 * x : Nat) : Int) := urm (a := 4294967296) (by clear ww jT ih hG w1; omega)
      have w3 : IntKind.u64.wrap (((4294967296 * x : Nat) : Int) + (z : Int)) = ((4294967296 * x + z : Nat) : Int) := ura (by clear ww jT ih hG w1 w2; omega)
      rw [w1, w2, w3]
      by_cases ht : x * 4294967296 + z < g * w
      · rw [decide_eq_true (Int.ofNat_lt.2 (by rw [Nat.mul_comm 4294967296]; exact ht))]
        exact jT (.inr ht)
      · rw [decide_eq_false (fun h => ht (by have := Int.ofNat_lt.1 h; rw [Nat.mul_comm 4294967296] at this; exact this))]
        refine Av.succ ?_
        simp only [bits_Div64.j1]
        refine Av.ifn (by decide) ?_
        rw [hG.done hv0 (by decide) (Nat.le_sub_one_of_lt hgl) (Nat.le_of_not_lt ht)]
        exact fin
/-- The second; what it comes to. -/
theorem d64_l1 {Y s v w X z q1 : Nat} {r : Int × Int} (hv0 : 0 < v) (hv : v < 4294967296) (hw : w < 4294967296) (hz : z < 4294967296) (hX : X < (v + 1) * 4294967296)
    (fin : ∀ g : Nat, g = qh 4294967296 (X * 4294967296 + z) (v * 4294967296 + w) → (IntKind.u64.wrap (IntKind.u64.wrap ((q1 : Int) * 4294967296) + g), shr .u64 (IntKind.u64.wrap (IntKind.u64.wrap (IntKind.u64.wrap ((X : Int) * 4294967296) + z) - IntKind.u64.wrap ((g : Int) * Y))) s) = r) :
    ∀ (g x : Nat), g < 18446744073709551616 → x < 4294967296 → Gs 4294967296 v w X z g x → Av (fun k => bits_Div64.l1 k Y s v w z q1 x X g) r := by
  intro g
  induction g using Nat.strongRecOn with
  | _ g ih =>
    intro x hgb hx hG
    have ww : IntKind.u64.wrap ((x : Int) + (v : Int)) = ((x + v : Nat) : Int) := ura (by omega)
    have jT : (4294967296 ≤ g ∨ x * 4294967296 + z < g * w) → Av (fun k => bits_Div64.j4 k Y s v w z q1 x X g true) r := by
      intro hc
      obtain ⟨hg0, hG2⟩ := hG.next hv0 (by decide) hc
      have wg : IntKind.u64.wrap ((g : Int) - 1) = ((g - 1 : Nat) : Int) := urs (b := 1) hgb hg0
      refine Av.succ ?_
      simp only [bits_Div64.j4, ww, wg]
      refine Av.ifp (by decide) ?_
      by_cases hB : 4294967296 ≤ x + v
      · refine Av.ifp (Int.ofNat_le.2 hB) (Av.ifp (Int.natCast_nonneg _) (Av.ret' ?_))
        exact fin _ (hG2.over hv0 (by decide) hw hX hB)
      · refine Av.ifn (fun h => hB (Int.ofNat_le.1 h)) ?_
        exact ih (g - 1) (Nat.sub_lt hg0 (by decide)) (x + v) (Nat.lt_of_le_of_lt (Nat.sub_le _ _) hgb) (Nat.lt_of_not_le hB) hG2
    refine Av.succ ?_
    simp only [bits_Div64.l1]
    by_cases hgB : 4294967296 ≤ g
    · exact Av.ifp (Int.ofNat_le.2 hgB) (jT (.inl hgB))
    · refine Av.ifn (fun h => hgB (Int.ofNat_le.1 h)) ?_
      have hgl : g < 4294967296 := Nat.lt_of_not_le hgB
      have hm : g * w ≤ 4294967295 * 4294967295 := Nat.mul_le_mul (Nat.le_of_lt_succ hgl) (Nat.le_of_lt_succ hw)
      have w1 : IntKind.u64.wrap ((g : Int) * (w : Int)) = ((g * w : Nat) : Int) := urm (Nat.lt_of_le_of_lt hm (by decide))
      have w2 : IntKind.u64.wrap (4294967296 * (x : Int)) = ((4294967296 * x : Nat) : Int) := urm (a := 4294967296) (by clear ww jT ih hG w1; omega)
      have w3 : IntKind.u64.wrap (((4294967296 * x : Nat) : Int) + (z : Int)) = ((4294967296 * x + z : Nat) : Int) := ura (by clear ww jT ih hG w1 w2; omega)
      rw [w1, w2, w3]
      by_cases ht : x * 4294967296 + z < g * w
      · rw [decide_eq_true (Int.ofNat_lt.2 (by rw [Nat.mul_comm 4294967296]; exact ht))]
        exact jT (.inr ht)
      · rw [decide_eq_false (fun h => ht (by have := Int.ofNat_lt.1 h; rw [Nat.mul_comm 4294967296] at this; exact this))]
        refine Av.succ ?_
        simp only [bits_Div64.j4]
        refine Av.ifn (by decide) (Av.ifp (Int.natCast_nonneg _) (Av.ret' ?_))
        exact fin _ (hG.done hv0 (by decide) (Nat.le_sub_one_of_lt hgl) (Nat.le_of_not_lt ht))
/-- The two halves of a divisor. -/
theorem halves (Y : Nat) : Y / 4294967296 * 4294967296 + Y % 4294967296 = Y := by omega
theorem guess_start {x v : Nat} (hx : x < 18446744073709551616) : IntKind.u64.wrap ((x : Int) - IntKind.u64.wrap (((x / v : Nat) : Int) * (v : Int))) = ((x % v : Nat) : Int) := by
  have h1 := Nat.div_mul_le_self x v
  rw [urm (Nat.lt_of_le_of_lt h1 hx), urs hx h1]
  congr 1
  have := Nat.div_add_mod x v
  rw [Nat.mul_comm] at this
  omega
theorem two_steps {X B u1 u0 Y : Nat} (hY : 0 < Y) : ((X * B + u1) * B + u0) / Y = (X * B + u1) / Y * B + ((X * B + u1) % Y * B + u0) / Y ∧ ((X * B + u1) * B + u0) % Y = ((X * B + u1) % Y * B + u0) % Y := by
  generalize X * B + u1 = T
  have h2 := Nat.div_add_mod T Y
  have h3 : T * B + u0 = (T % Y * B + u0) + Y * (T / Y * B) := by
    conv => lhs; rw [← h2]
    grind
  rw [h3]
  constructor
  · rw [Nat.add_mul_div_left _ _ hY]; omega
  · rw [Nat.add_mul_mod_self_left]
theorem step_lt {X B u Y : Nat} (hX : X < Y) (hu : u < B) : X * B + u < Y * B := by
  have := Nat.mul_le_mul_right B hX
  rw [Nat.succ_mul] at this
  omega
/-- By a divisor whose highest bit is set. -/
theorem d64_norm {Y s X u1 u0 : Nat} (hY : Y < 18446744073709551616) (hY2 : 9223372036854775808 ≤ Y) (hX : X < Y) (h1 : u1 < 4294967296) (h0 : u0 < 4294967296) (hs : s ≤ 63) :
    Av (fun k => bits_Div64.l0 k Y s ((Y / 4294967296 : Nat) : Int) ((Y % 4294967296 : Nat) : Int) X u1 u0 ((X / (Y / 4294967296) : Nat) : Int) ((X % (Y / 4294967296) : Nat) : Int))
      (((((X * 4294967296 + u1) * 4294967296 + u0) / Y : Nat) : Int), ((((X * 4294967296 + u1) * 4294967296 + u0) % Y / 2 ^ s : Nat) : Int)) := by
  have hv0 : 0 < Y / 4294967296 := by omega
  have hv : Y / 4294967296 < 4294967296 := by omega
  have hw : Y % 4294967296 < 4294967296 := by omega
  have hY0 : 0 < Y := by omega
  have hXb : X < 18446744073709551616 := Nat.lt_trans hX hY
  have hXv : X < (Y / 4294967296 + 1) * 4294967296 := by omega
  have hT1 := step_lt hX h1
  have hlt1 := step_lt (Nat.mod_lt (X * 4294967296 + u1) hY0) h0
  have hrb : (X * 4294967296 + u1) % Y < 18446744073709551616 := Nat.lt_trans (Nat.mod_lt _ hY0) hY
  have hrv : (X * 4294967296 + u1) % Y < (Y / 4294967296 + 1) * 4294967296 := by
    have := Nat.mod_lt (X * 4294967296 + u1) hY0
    clear hT1 hlt1; omega
  obtain ⟨s1, s2⟩ := two_steps (X := X) (B := 4294967296) (u1 := u1) (u0 := u0) hY0
  have e1 := qh_exact (B := 4294967296) (T := X * 4294967296 + u1) hY0 hT1
  have e0 := qh_exact (B := 4294967296) (T := (X * 4294967296 + u1) % Y * 4294967296 + u0) hY0 hlt1
  have hq1 : (X * 4294967296 + u1) / Y < 4294967296 := (Nat.div_lt_iff_lt_mul hY0).2 (Nat.lt_of_lt_of_eq hT1 (Nat.mul_comm _ _))
  have hq0 : ((X * 4294967296 + u1) % Y * 4294967296 + u0) / Y < 4294967296 := (Nat.div_lt_iff_lt_mul hY0).2 (Nat.lt_of_lt_of_eq hlt1 (Nat.mul_comm _ _))
  have hdm := Nat.div_add_mod (X * 4294967296 + u1) Y
  have hdm0 := Nat.div_add_mod ((X * 4294967296 + u1) % Y * 4294967296 + u0) Y
  rw [Nat.mul_comm Y] at hdm hdm0
  have hr0 : ((X * 4294967296 + u1) % Y * 4294967296 + u0) % Y < 18446744073709551616 := Nat.lt_trans (Nat.mod_lt _ hY0) hY
  have hG1 := Gs.start (B := 4294967296) (v := Y / 4294967296) (w := Y % 4294967296) (X := X) (z := u1) hv0 h1
  refine d64_l0 hv0 hv hw h1 hXv ?_ _ _ (Nat.lt_of_le_of_lt (Nat.div_le_self _ _) hXb) (Nat.lt_trans (Nat.mod_lt _ hv0) hv) hG1
  rw [halves, e1]
  -- the second half
  have hw21 : IntKind.u64.wrap (IntKind.u64.wrap (IntKind.u64.wrap ((X : Int) * 4294967296) + (u1 : Int)) - IntKind.u64.wrap ((((X * 4294967296 + u1) / Y : Nat) : Int) * (Y : Int))) = (((X * 4294967296 + u1) % Y : Nat) : Int) := by
    have := wrap_rem (a := X * 4294967296) (b := u1) (c := (X * 4294967296 + u1) / Y * Y) (r := (X * 4294967296 + u1) % Y) hdm.symm hrb
    rw [Int.natCast_mul, Int.natCast_mul] at this
    exact this
  have hne : ¬ ((Y / 4294967296 : Nat) : Int) = 0 := fun h => Nat.ne_of_gt hv0 (Int.ofNat.inj h)
  have hG0 := Gs.start (B := 4294967296) (v := Y / 4294967296) (w := Y % 4294967296) (X := (X * 4294967296 + u1) % Y) (z := u0) hv0 h0
  have htd := tdu (x := (X * 4294967296 + u1) % Y) (y := Y / 4294967296) hrb
  have hgs := guess_start (x := (X * 4294967296 + u1) % Y) (v := Y / 4294967296) hrb
  refine Av.succ ?_
  simp only [bits_Div64.j2, hw21, htd, hgs]
  refine Av.ifn hne ?_
  refine d64_l1 hv0 hv hw h0 hrv ?_ _ _ (Nat.lt_of_le_of_lt (Nat.div_le_self _ _) hrb) (Nat.lt_trans (Nat.mod_lt _ hv0) hv) hG0
  intro g hg
  rw [halves, e0] at hg
  subst hg
  have hr : IntKind.u64.wrap (IntKind.u64.wrap (IntKind.u64.wrap ((((X * 4294967296 + u1) % Y : Nat) : Int) * 4294967296) + (u0 : Int)) - IntKind.u64.wrap (((((X * 4294967296 + u1) % Y * 4294967296 + u0) / Y : Nat) : Int) * (Y : Int))) = ((((X * 4294967296 + u1) % Y * 4294967296 + u0) % Y : Nat) : Int) := by
    have := wrap_rem (a := (X * 4294967296 + u1) % Y * 4294967296) (b := u0) (c := ((X * 4294967296 + u1) % Y * 4294967296 + u0) / Y * Y) (r := ((X * 4294967296 + u1) % Y * 4294967296 + u0) % Y) hdm0.symm hr0
    rw [Int.natCast_mul, Int.natCast_mul] at this
    exact this
  have hm1 : (X * 4294967296 + u1) / Y * 4294967296 + ((X * 4294967296 + u1) % Y * 4294967296 + u0) / Y < 18446744073709551616 := by
    have := step_lt hq1 hq0
    exact Nat.lt_of_lt_of_le this (by decide)
  have hm2 : (X * 4294967296 + u1) / Y * 4294967296 < 18446744073709551616 := Nat.lt_of_le_of_lt (Nat.le_add_right _ _) hm1
  have hwq : IntKind.u64.wrap (IntKind.u64.wrap ((((X * 4294967296 + u1) / Y : Nat) : Int) * 4294967296) + ((((X * 4294967296 + u1) % Y * 4294967296 + u0) / Y : Nat) : Int)) = (((X * 4294967296 + u1) / Y * 4294967296 + ((X * 4294967296 + u1) % Y * 4294967296 + u0) / Y : Nat) : Int) := by
    have a1 := urm (b := 4294967296) hm2
    have a2 := ura hm1
    rw [show (((4294967296 : Nat) : Int)) = 4294967296 from rfl] at a1
    rw [a1, a2]
  rw [hwq, hr, shr_nat (k := .u64) (Nat.le_trans hs (by decide)), s1, s2]
/-- The highest bit of a shifted limb is set. -/
theorem norm_lt {y s : Nat} (h : y < 2 ^ (64 - s)) (hs : s ≤ 64) : y * 2 ^ s < 18446744073709551616 := by
  have h1 := Nat.mul_lt_mul_of_pos_right h (Nat.pow_pos (n := s) (show 0 < 2 by decide))
  rw [← Nat.pow_add, show 64 - s + s = 64 by omega, ← W64] at h1
  exact h1
theorem norm_of {y : Nat} (h0 : 0 < y) (hy : y < 18446744073709551616) : ∃ s : Nat, s ≤ 63 ∧ nb y = 64 - s ∧ y < 2 ^ (64 - s) ∧ 9223372036854775808 ≤ y * 2 ^ s := by
  have h1 := (nb_le 64 y).2 hy
  have h2 := (nb_lt 0 y).2 (by rw [Nat.pow_zero]; exact h0)
  refine ⟨64 - nb y, by omega, by omega, ?_, ?_⟩
  · rw [show 64 - (64 - nb y) = nb y by omega]
    exact (nb_le (nb y) y).1 (Nat.le_refl _)
  · have h3 := (nb_lt (nb y - 1) y).1 (by omega)
    have h4 := Nat.mul_le_mul_right (2 ^ (64 - nb y)) h3
    rw [← Nat.pow_add, show nb y - 1 + (64 - nb y) = 63 by omega] at h4
    exact h4
theorem or_top {h l s : Nat} (hs : s ≤ 63) (hh : h * 2 ^ s < 18446744073709551616) (hl : l < 18446744073709551616) : Go.bits .or .u64 ((h * 2 ^ s : Nat) : Int) ((l / 2 ^ (64 - s) : Nat) : Int) = ((h * 2 ^ s + l / 2 ^ (64 - s) : Nat) : Int) := by
  have h1 : l / 2 ^ (64 - s) < 2 ^ s := by
    rw [Nat.div_lt_iff_lt_mul (Nat.pow_pos (by decide)), ← Nat.pow_add, show s + (64 - s) = 64 by omega, ← W64]; exact hl
  have h2 : h * 2 ^ s % 2 ^ s = 0 := Nat.mul_mod_left _ _
  have h3 : l / 2 ^ (64 - s) < 18446744073709551616 := Nat.lt_of_le_of_lt (Nat.div_le_self _ _) hl
  have e2 : ((2 : Int) ^ s) = ((2 ^ s : Nat) : Int) := by simp
  generalize h * 2 ^ s = Z at *
  generalize l / 2 ^ (64 - s) = q at *
  have hj := bits_join .u64 64 (by decide) (fun n h0 h1 => ur h0 (by simpa using h1)) s (Z : Int) (q : Int) (Int.natCast_nonneg _) (by rw [e2, ← Int.natCast_emod, h2]; rfl) (Int.ofNat_lt.2 hh) (Int.natCast_nonneg _) (by rw [e2]; exact Int.ofNat_lt.2 h1) (Int.ofNat_lt.2 h3)
  rw [hj]; simp
theorem shift_value {h l s : Nat} (hs : s ≤ 64) : (h * 18446744073709551616 + l) * 2 ^ s = (h * 2 ^ s + l / 2 ^ (64 - s)) * 18446744073709551616 + l * 2 ^ s % 18446744073709551616 := by
  have h1 : l * 2 ^ s / 18446744073709551616 = l / 2 ^ (64 - s) := by
    have e : (18446744073709551616 : Nat) = 2 ^ (64 - s) * 2 ^ s := by rw [← Nat.pow_add, show 64 - s + s = 64 by omega, ← W64]
    conv => lhs; rw [e, Nat.mul_div_mul_right _ _ (Nat.pow_pos (by decide))]
  have h2 := Nat.div_add_mod (l * 2 ^ s) 18446744073709551616
  rw [h1] at h2
  have h3 : (h * 18446744073709551616 + l) * 2 ^ s = h * 2 ^ s * 18446744073709551616 + l * 2 ^ s := by grind
  rw [h3]
  conv => lhs; rw [← h2]
  grind
theorem div64 {h l y : Nat} (hy : y < 18446744073709551616) (hl : l < 18446744073709551616) (hh : h < y) : Av (fun k => bits_Div64.f k h l y) ((((h * 18446744073709551616 + l) / y : Nat) : Int), (((h * 18446744073709551616 + l) % y : Nat) : Int)) := by
  have hy0 : 0 < y := Nat.lt_of_le_of_lt (Nat.zero_le _) hh
  have n1 : ¬ ((y : Nat) : Int) = 0 := fun e => Nat.ne_of_gt hy0 (Int.ofNat.inj e)
  have n2 : ¬ ((y : Nat) : Int) ≤ (h : Int) := fun e => absurd (Int.ofNat_le.1 e) (Nat.not_le.2 hh)
  unfold bits_Div64.f
  refine Av.ifn n1 (Av.ifn n2 ?_)
  by_cases h0 : h = 0
  · subst h0
    refine Av.ifp rfl (Av.ret' ?_)
    rw [tdu hl, tm (Int.natCast_nonneg _), ← Int.natCast_emod, Nat.zero_mul, Nat.zero_add]
  · refine Av.ifn (fun e => h0 (Int.ofNat.inj e)) ?_
    obtain ⟨s, s1, s2, s3, s4⟩ := norm_of hy0 hy
    have hlz := lz_f y hy
    have hs64 : (64 : Int) - (nb y : Int) = (s : Int) := by rw [s2]; omega
    rw [hs64] at hlz
    have sl : s < 18446744073709551616 := by omega
    have ws : IntKind.u64.wrap (s : Int) = (s : Int) := urn sl
    have w64 : IntKind.u64.wrap (64 - (s : Int)) = ((64 - s : Nat) : Int) := urs (a := 64) (b := s) (by decide) (by omega)
    have hY := norm_lt s3 (by omega)
    have hP : 0 < 2 ^ s := Nat.pow_pos (by decide)
    have hhs : h * 2 ^ s < y * 2 ^ s := Nat.mul_lt_mul_of_pos_right hh hP
    have hhb : h * 2 ^ s < 18446744073709551616 := Nat.lt_trans hhs hY
    have k1 := shl_u64 (x := y) (s := s) (by omega)
    have k2 := shl_u64 (x := h) (s := s) (by omega)
    have k3 := shl_u64 (x := l) (s := s) (by omega)
    rw [Nat.mod_eq_of_lt hY] at k1
    rw [Nat.mod_eq_of_lt hhb] at k2
    have k4 : shr .u64 (l : Int) ((64 - s : Nat) : Int) = _ := shr_nat (k := .u64) (Nat.sub_le _ _)
    have k5 := or_top s1 hhb hl
    have hval := shift_value (h := h) (l := l) (s := s) (by omega)
    have hX : h * 2 ^ s + l / 2 ^ (64 - s) < y * 2 ^ s := by
      have a1 : (h * 18446744073709551616 + l) * 2 ^ s < y * 18446744073709551616 * 2 ^ s := Nat.mul_lt_mul_of_pos_right (step_lt hh hl) hP
      rw [hval] at a1
      have a2 : y * 18446744073709551616 * 2 ^ s = y * 2 ^ s * 18446744073709551616 := by grind
      rw [a2] at a1
      have a3 : (h * 2 ^ s + l / 2 ^ (64 - s)) * 18446744073709551616 < y * 2 ^ s * 18446744073709551616 := Nat.lt_of_le_of_lt (Nat.le_add_right _ _) a1
      exact Nat.lt_of_mul_lt_mul_right a3
    have hlow : l * 2 ^ s % 18446744073709551616 < 18446744073709551616 := Nat.mod_lt _ (by decide)
    have ed : (h * 18446744073709551616 + l) * 2 ^ s / (y * 2 ^ s) = (h * 18446744073709551616 + l) / y := Nat.mul_div_mul_right _ _ hP
    have em : (h * 18446744073709551616 + l) * 2 ^ s % (y * 2 ^ s) / 2 ^ s = (h * 18446744073709551616 + l) % y := by
      rw [Nat.mul_mod_mul_right, Nat.mul_div_cancel _ hP]
    rw [hval] at ed em
    generalize h * 2 ^ s + l / 2 ^ (64 - s) = X at *
    generalize y * 2 ^ s = Y at *
    generalize l * 2 ^ s % 18446744073709551616 = lo at *
    have g1 : lo / 4294967296 < 4294967296 := by clear k1 k2 k3 k4 k5 ed em hval hlz ws w64 hs64; omega
    have g0 : lo % 4294967296 < 4294967296 := Nat.mod_lt _ (by decide)
    have hsplit : (X * 4294967296 + lo / 4294967296) * 4294967296 + lo % 4294967296 = X * 18446744073709551616 + lo := by clear k1 k2 k3 k4 k5 ed em hval hlz ws w64 hs64; omega
    have key := d64_norm (s := s) hY s4 hX g1 g0 s1
    rw [hsplit, ed, em] at key
    have hXb : X < 18446744073709551616 := Nat.lt_trans hX hY
    have hv0 : 0 < Y / 4294967296 := by clear k1 k2 k3 k4 k5 ed em hval hlz ws w64 hs64 key; omega
    have c1 : ((Y : Nat) : Int) / 4294967296 = ((Y / 4294967296 : Nat) : Int) := rfl
    have c2 : ((lo : Nat) : Int) / 4294967296 = ((lo / 4294967296 : Nat) : Int) := rfl
    have c3 : Go.bits .and .u64 ((Y : Nat) : Int) 4294967295 = ((Y % 4294967296 : Nat) : Int) := by rw [and32 (Int.natCast_nonneg _) (Int.ofNat_lt.2 hY), Int.natCast_emod]; rfl
    have c4 : Go.bits .and .u64 ((lo : Nat) : Int) 4294967295 = ((lo % 4294967296 : Nat) : Int) := by rw [and32 (Int.natCast_nonneg _) (Int.ofNat_lt.2 hlow), Int.natCast_emod]; rfl
    have c5 := tdu (x := X) (y := Y / 4294967296) hXb
    have c6 := guess_start (x := X) (v := Y / 4294967296) hXb
    have n3 : ¬ ((Y / 4294967296 : Nat) : Int) = 0 := fun e => Nat.ne_of_gt hv0 (Int.ofNat.inj e)
    refine Av.bind hlz ?_
    simp only [ws, w64, k1, k2, k3, k4, k5, c1, c2, c3, c4, c5, c6]
    exact Av.ifp (Int.natCast_nonneg _) (Av.ifp (Int.natCast_nonneg _) (Av.ifn n3 key))
theorem mul_split {q w x z hi lo : Nat} (h : 18446744073709551616 * hi + lo = q * w) (hlo : lo < 18446744073709551616) (hz : z < 18446744073709551616) : q * w ≤ x * 18446744073709551616 + z ↔ hi < x ∨ (hi = x ∧ lo ≤ z) := by
  rw [← h]; omega
theorem digit_l0 {v w X z : Nat} (hv0 : 0 < v) (hv : v < 18446744073709551616) (hw : w < 18446744073709551616) (hz : z < 18446744073709551616) (hX : X < (v + 1) * 18446744073709551616) :
    ∀ (g x : Nat), g < 18446744073709551616 → x < 18446744073709551616 → Gs 18446744073709551616 v w X z g x → Av (fun k => impl_digit.l0 k z v w g x) ((qh 18446744073709551616 (X * 18446744073709551616 + z) (v * 18446744073709551616 + w) : Nat) : Int) := by
  intro g
  induction g using Nat.strongRecOn with
  | _ g ih =>
    intro x hg hx hG
    have hM := mul64 g w hg hw
    have e0 := Nat.div_add_mod (g * w) 18446744073709551616
    have hlo : g * w % 18446744073709551616 < 18446744073709551616 := Nat.mod_lt _ (by decide)
    have hiff := mul_split (x := x) (z := z) e0 hlo hz
    have jT : g * w ≤ x * 18446744073709551616 + z → Av (fun k => impl_digit.j2 k z v w g x true) ((qh 18446744073709551616 (X * 18446744073709551616 + z) (v * 18446744073709551616 + w) : Nat) : Int) := by
      intro hc
      refine Av.succ ?_
      simp only [impl_digit.j2]
      refine Av.ifp (by decide) (Av.ret' ?_)
      rw [hG.done hv0 (by decide) (Nat.le_sub_one_of_lt hg) hc]
    have jF : x * 18446744073709551616 + z < g * w → Av (fun k => impl_digit.j2 k z v w g x false) ((qh 18446744073709551616 (X * 18446744073709551616 + z) (v * 18446744073709551616 + w) : Nat) : Int) := by
      intro hc
      obtain ⟨hg0, hG2⟩ := hG.next hv0 (by decide) (.inr hc)
      have wg : IntKind.u64.wrap ((g : Int) - 1) = ((g - 1 : Nat) : Int) := urs (b := 1) hg hg0
      obtain ⟨r, q, f1, f2, f3, f4⟩ := add64 x v 0 hx hv (by decide)
      have hz0 : ((0 : Nat) : Int) = 0 := rfl
      rw [hz0] at f1 f4
      have hq : (q = 1 ∧ 18446744073709551616 ≤ x + v) ∨ (q = 0 ∧ r = x + v) := by clear e0 hlo hiff hG hG2 wg hc hM; omega
      refine Av.succ ?_
      simp only [impl_digit.j2, wg]
      refine Av.ifn (by decide) (Av.bindc f1 ?_)
      rcases hq with ⟨rfl, hov⟩ | ⟨rfl, rfl⟩
      · refine Av.ifp rfl (Av.ret' ?_)
        rw [hG2.over hv0 (by decide) hw hX hov]
      · exact Av.ifn (by simp) (ih (g - 1) (Nat.sub_lt hg0 (by decide)) (x + v) (Nat.lt_of_le_of_lt (Nat.sub_le _ _) hg) f3 hG2)
    refine Av.succ ?_
    simp only [impl_digit.l0]
    refine Av.bindc hM ?_
    by_cases h1 : g * w / 18446744073709551616 < x
    · exact Av.ifp (Int.ofNat_lt.2 h1) (jT (hiff.2 (.inl h1)))
    · refine Av.ifn (fun h => h1 (Int.ofNat_lt.1 h)) ?_
      by_cases h2 : g * w / 18446744073709551616 = x
      · refine Av.ifp (congrArg Int.ofNat h2) ?_
        by_cases h3 : g * w % 18446744073709551616 ≤ z
        · rw [decide_eq_true (Int.ofNat_le.2 h3)]
          exact jT (hiff.2 (.inr ⟨h2, h3⟩))
        · rw [decide_eq_false (fun h => h3 (Int.ofNat_le.1 h))]
          exact jF (Nat.lt_of_not_le (fun h => by
            rcases hiff.1 h with h4 | h4
            · exact h1 h4
            · exact h3 h4.2))
      · refine Av.ifn (fun h => h2 (Int.ofNat.inj h)) ?_
        exact jF (Nat.lt_of_not_le (fun h => by
          rcases hiff.1 h with h4 | h4
          · exact h1 h4
          · exact h2 h4.1))
theorem digit_f {x y z v w : Nat} (hv0 : 0 < v) (hv : v < 18446744073709551616) (hw : w < 18446744073709551616) (hx : x < 18446744073709551616) (hy : y < 18446744073709551616) (hz : z < 18446744073709551616) (hX : x * 18446744073709551616 + y < (v + 1) * 18446744073709551616) :
    Av (fun k => impl_digit.f k x y z v w) ((qh 18446744073709551616 ((x * 18446744073709551616 + y) * 18446744073709551616 + z) (v * 18446744073709551616 + w) : Nat) : Int) := by
  unfold impl_digit.f
  have j0 : ∀ g r : Nat, g < 18446744073709551616 → r < 18446744073709551616 → Gs 18446744073709551616 v w (x * 18446744073709551616 + y) z g r → Av (fun k => impl_digit.j0 k z v w g r) ((qh 18446744073709551616 ((x * 18446744073709551616 + y) * 18446744073709551616 + z) (v * 18446744073709551616 + w) : Nat) : Int) := by
    intro g r hg hr hG
    refine Av.succ ?_
    simp only [impl_digit.j0]
    exact digit_l0 hv0 hv hw hz hX g r hg hr hG
  by_cases h : x < v
  · refine Av.ifp (Int.ofNat_lt.2 h) (Av.bind (div64 hv hy h) ?_)
    refine j0 _ _ ?_ (Nat.lt_trans (Nat.mod_lt _ hv0) hv) (Gs.start hv0 hz)
    exact (Nat.div_lt_iff_lt_mul hv0).2 (Nat.lt_of_lt_of_eq (step_lt h hy) (Nat.mul_comm _ _))
  · have hxv : x = v := by
      have h1 : x < v + 1 := by
        have h2 : x * 18446744073709551616 < (v + 1) * 18446744073709551616 := Nat.lt_of_le_of_lt (Nat.le_add_right _ _) hX
        exact Nat.lt_of_mul_lt_mul_right h2
      omega
    obtain ⟨r, q, f1, f2, f3, f4⟩ := add64 y v 0 hy hv (by decide)
    have hz0 : ((0 : Nat) : Int) = 0 := rfl
    rw [hz0] at f1 f4
    have hq : (q = 1 ∧ 18446744073709551616 ≤ y + v) ∨ (q = 0 ∧ r = y + v) := by clear hX f1; omega
    have hG : Gs 18446744073709551616 v w (x * 18446744073709551616 + y) z 18446744073709551615 (y + v) := by
      refine ⟨?_, qh_le⟩
      rw [hxv]; clear hX f1 f4 hq; omega
    refine Av.ifn (fun h2 => h (Int.ofNat_lt.1 h2)) (Av.bindc f1 ?_)
    rcases hq with ⟨rfl, hov⟩ | ⟨rfl, rfl⟩
    · refine Av.ifp rfl (Av.ret' ?_)
      rw [← hG.over hv0 (by decide) hw hX hov]; rfl
    · exact Av.ifn (by simp) (j0 _ _ (by decide) f3 hG)
theorem up_value {x s : Nat} (hs : s ≤ 64) : x * 2 ^ s % 18446744073709551616 + 18446744073709551616 * (x / 2 ^ (64 - s)) = x * 2 ^ s := by
  have h1 : x * 2 ^ s / 18446744073709551616 = x / 2 ^ (64 - s) := by
    have e : (18446744073709551616 : Nat) = 2 ^ (64 - s) * 2 ^ s := by rw [← Nat.pow_add, show 64 - s + s = 64 by omega, ← W64]
    conv => lhs; rw [e, Nat.mul_div_mul_right _ _ (Nat.pow_pos (by decide))]
  rw [← h1, Nat.add_comm]
  exact Nat.div_add_mod _ _
theorem ring_up (A x S P W z t : Int) (h : z + W * t = x * S) : A * S + z * P + t * (P * W) = (A + x * P) * S := by
  have : (A + x * P) * S = A * S + x * S * P := by grind
  rw [this, ← h]; grind
theorem up_or {x c s : Nat} (hs : s ≤ 63) (hc : c < 2 ^ s) : Go.bits .or .u64 (c : Int) ((x * 2 ^ s % 18446744073709551616 : Nat) : Int) = ((c + x * 2 ^ s % 18446744073709551616 : Nat) : Int) ∧ c + x * 2 ^ s % 18446744073709551616 < 18446744073709551616 := by
  have h2 : x * 2 ^ s % 18446744073709551616 % 2 ^ s = 0 := by
    have e : (18446744073709551616 : Nat) = 2 ^ s * 2 ^ (64 - s) := by rw [← Nat.pow_add, show s + (64 - s) = 64 by omega, ← W64]
    rw [Nat.mod_mod_of_dvd _ ⟨2 ^ (64 - s), e⟩, Nat.mul_mod_left]
  have h3 : x * 2 ^ s % 18446744073709551616 < 2 ^ s * 2 ^ (64 - s) := by
    rw [← Nat.pow_add, show s + (64 - s) = 64 by omega, ← W64]; exact Nat.mod_lt _ (by decide)
  have h4 : c + x * 2 ^ s % 18446744073709551616 < 18446744073709551616 := by
    obtain ⟨m, hm⟩ := Nat.dvd_of_mod_eq_zero h2
    rw [hm] at h3
    have h5 : m < 2 ^ (64 - s) := Nat.lt_of_mul_lt_mul_left h3
    have h6 := Nat.mul_le_mul_left (2 ^ s) h5
    rw [Nat.mul_succ, ← Nat.pow_add, show s + (64 - s) = 64 by omega, ← W64] at h6
    rw [hm]; omega
  have h5 : x * 2 ^ s % 18446744073709551616 < 18446744073709551616 := Nat.mod_lt _ (by decide)
  have e2 : ((2 : Int) ^ s) = ((2 ^ s : Nat) : Int) := by simp
  have hcb : c < 18446744073709551616 := Nat.lt_of_le_of_lt (Nat.le_add_right _ _) h4
  refine ⟨?_, h4⟩
  clear h3 h4
  generalize x * 2 ^ s % 18446744073709551616 = Z at *
  have hcm : Go.bits .or .u64 (c : Int) (Z : Int) = Go.bits .or .u64 (Z : Int) (c : Int) := by simp only [Go.bits, BitVec.or_comm]
  have hj := bits_join .u64 64 (by decide) (fun n h0 h1 => ur h0 (by simpa using h1)) s (Z : Int) (c : Int) (Int.natCast_nonneg _) (by rw [e2, ← Int.natCast_emod, h2]; rfl) (Int.ofNat_lt.2 h5) (Int.natCast_nonneg _) (by rw [e2]; exact Int.ofNat_lt.2 hc) (Int.ofNat_lt.2 hcb)
  rw [hcm, hj, Int.natCast_add, Int.add_comm]
theorem up_loop (a s : Nat) (hs : s ≤ 63) (hl : (D a).length < 35184372088831) : ∀ (d i : Nat) (l : List Int), (D a).length - i = d → i ≤ (D a).length → l.length = (D a).length + 1 → Upto 18446744073709551616 l (i + 1) (((a % 18446744073709551616 ^ i * 2 ^ s : Nat) : Int)) →
    Av (fun k => impl_nat_up.l0 k s l (D a) (D a).length i) (fx 18446744073709551616 ((D a).length + 1) (a * 2 ^ s))
  | 0, i, l, hd, hi, hL, h => by
    obtain rfl : i = (D a).length := by omega
    refine Av.succ ?_
    simp only [impl_nat_up.l0]
    refine Av.ifn (Int.lt_irrefl _) (Av.ret' ?_)
    rw [mod_full _ a (by decide) (Nat.le_refl _)] at h
    have := fx_of (B := 18446744073709551616) (by decide) h.digs h.val
    rw [hL] at this
    exact this
  | d + 1, i, l, hd, hi, hL, h => by
    have i1 : (i : Int) < (D a).length := by omega
    have i2 : (D a).length - (i + 1) = d := by omega
    have i3 : i + 1 ≤ (D a).length := by omega
    have i4 : i < l.length := by omega
    have i5 : (i : Int) < l.length := Int.ofNat_lt.2 i4
    have i6 : i + 1 < l.length := by omega
    have i7 : ((i + 1 : Nat) : Int) < l.length := Int.ofNat_lt.2 i6
    have i8 : i < 4611686018427387904 := by omega
    have e1 : wrap64 ((i : Int) + 1) = ((i + 1 : Nat) : Int) := wrap_one i8
    have es : wrap64 (64 - (s : Int)) = ((64 - s : Nat) : Int) := wrap_less (a := 64) (by decide) (by omega)
    have hx : a / 18446744073709551616 ^ i % 18446744073709551616 < 18446744073709551616 := Nat.mod_lt _ (by decide)
    have s1 := Nat.mod_pow_succ (x := a) (b := 18446744073709551616) (k := i)
    have r1 := rdD a i
    have hcur := h.get (by decide) i
    have hlt : a % 18446744073709551616 ^ i * 2 ^ s / 18446744073709551616 ^ i < 2 ^ s := by
      rw [Nat.div_lt_iff_lt_mul (Nat.pow_pos (by decide)), Nat.mul_comm (2 ^ s)]
      exact Nat.mul_lt_mul_of_pos_right (Nat.mod_lt _ (Nat.pow_pos (by decide))) (Nat.pow_pos (by decide))
    have h2s : 2 ^ s < 18446744073709551616 := by
      have : 2 ^ s < 2 ^ 64 := Nat.pow_lt_pow_right (by decide) (by omega)
      exact this
    rw [Nat.mod_eq_of_lt (Nat.lt_trans hlt h2s)] at hcur
    generalize a % 18446744073709551616 ^ i * 2 ^ s / 18446744073709551616 ^ i = c at *
    have r2 : rd l (i : Int) = (c : Int) := by rw [rd_get]; exact hcur
    generalize hxe : a / 18446744073709551616 ^ i % 18446744073709551616 = x at *
    obtain ⟨f1, f2⟩ := up_or (x := x) hs hlt
    have f3 := shl_u64 (x := x) (s := s) (by omega)
    have f4 : shr .u64 (x : Int) ((64 - s : Nat) : Int) = _ := shr_nat (k := .u64) (Nat.sub_le _ _)
    have f5 : x / 2 ^ (64 - s) < 18446744073709551616 := Nat.lt_of_le_of_lt (Nat.div_le_self _ _) hx
    have hup := h.put i4 (Nat.lt_succ_self i) ⟨Int.natCast_nonneg _, Int.ofNat_lt.2 f2⟩ rfl
    have hval := up_value (x := x) (s := s) (by omega)
    have hvI : ((x * 2 ^ s % 18446744073709551616 : Nat) : Int) + 18446744073709551616 * ((x / 2 ^ (64 - s) : Nat) : Int) = (x : Int) * ((2 ^ s : Nat) : Int) := by
      have h9 := congrArg (Nat.cast : Nat → Int) hval
      rw [Int.natCast_add, Int.natCast_mul, Int.natCast_mul x] at h9
      exact h9
    have hset := hup.set (x := ((x / 2 ^ (64 - s) : Nat) : Int)) (w := ((a % 18446744073709551616 ^ (i + 1) * 2 ^ s : Nat) : Int)) (by rw [List.length_set]; exact i6) ⟨Int.natCast_nonneg _, Int.ofNat_lt.2 f5⟩ (by
      rw [hcur, s1]
      have e6 : ((18446744073709551616 : Nat) : Int) = 18446744073709551616 := rfl
      generalize x * 2 ^ s % 18446744073709551616 = z at *
      generalize x / 2 ^ (64 - s) = t at *
      generalize a % 18446744073709551616 ^ i = A at *
      rw [Int.natCast_mul, Int.natCast_add, Int.natCast_mul (18446744073709551616 ^ i), Int.natCast_pow 18446744073709551616, Int.natCast_mul A, Int.natCast_add c, e6, Int.pow_succ]
      generalize (18446744073709551616 : Int) ^ i = P
      generalize ((2 ^ s : Nat) : Int) = S at *
      have := ring_up (A : Int) (x : Int) S P 18446744073709551616 (z : Int) (t : Int) hvI
      grind)
    refine Av.succ ?_
    simp only [impl_nat_up.l0, e1, es, r1, r2, f1, f3, f4, Int.toNat_natCast]
    refine Av.ifp i1 (Av.ifp (Int.natCast_nonneg _) (Av.ifp i1 (Av.ifp i5 (Av.ifp (Int.natCast_nonneg _) (Av.ifp (Int.natCast_nonneg _) (Av.ifp (Int.natCast_nonneg _) (Av.ifp i7 ?_)))))))
    exact up_loop a s hs hl d (i + 1) _ i2 i3 (by rw [List.length_set, List.length_set]; exact hL) hset
theorem up_f (a s : Nat) (hs : s ≤ 63) (hl : (D a).length < 35184372088831) : Av (fun k => impl_nat_up.f k (D a) s) (fx 18446744073709551616 ((D a).length + 1) (a * 2 ^ s)) := by
  unfold impl_nat_up.f
  have e : wrap64 (((D a).length : Int) + 1) = (((D a).length + 1 : Nat) : Int) := wrap_one (by omega)
  rw [e, Int.toNat_natCast]
  refine Av.ifp (Int.natCast_nonneg _) (Av.ifp (by omega) ?_)
  refine up_loop a s hs hl _ 0 (List.replicate ((D a).length + 1) 0) rfl (Nat.zero_le _) (by simp) ?_
  rw [Nat.pow_zero, Nat.mod_one, Nat.zero_mul]
  exact (Upto.start (by decide) _).more (Nat.zero_le _)
theorem wi63 {n : Int} (h0 : 0 ≤ n) (h1 : n < 2 ^ 63) : IntKind.i64.wrap n = n := by rw [i64_w]; exact wr (by omega) (by omega)
theorem or24 {r x : Nat} (hr : r < 549755813888) (hx : x < 16777216) : Go.bits .or .i64 (wrap64 ((r : Int) * 16777216)) (x : Int) = ((r * 16777216 + x : Nat) : Int) := by
  rw [wr (by omega) (by omega)]
  have := bits_join .i64 63 (by decide) (fun n h0 h1 => wi63 h0 h1) 24 ((r : Int) * 16777216) x (by omega) (by omega) (by omega) (by omega) (by omega) (by omega)
  rw [this]; omega
theorem rdn {l : List Int} {j o : Nat} (h : l.getD j 0 = (o : Int)) : rd l (j : Int) = (o : Int) := by unfold rd; rw [Int.toNat_natCast]; exact h
/-- A list of so many digits with a value. -/
structure Rp (B : Nat) (l : List Int) (L v : Nat) : Prop where
  len : l.length = L
  digs : Digs B l
  val : vl B l = v
theorem Rp.get {B : Nat} (hB : 2 ≤ B) {l : List Int} {L v : Nat} (h : Rp B l L v) (j : Nat) : l.getD j 0 = ((v / B ^ j % B : Nat) : Int) := getD_of_vl hB h.digs h.val j
theorem Rp.zeros {B : Nat} (hB : 0 < B) (L : Nat) : Rp B (List.replicate L 0) L 0 := ⟨by simp, digs_zeros hB L, vl_zeros B L⟩
/-- A digit set where none was. -/
theorem Rp.put {B : Nat} (hB : 2 ≤ B) {l : List Int} {L t i x : Nat} (h : Rp B l L (t * B ^ (i + 1))) (hi : i < L) (hx : x < B) : Rp B (l.set i (x : Int)) L ((t * B + x) * B ^ i) := by
  have h0 := h.get hB i
  have hz : t * B ^ (i + 1) / B ^ i % B = 0 := by
    rw [Nat.pow_succ, Nat.mul_comm (B ^ i), ← Nat.mul_assoc, Nat.mul_div_cancel _ (Nat.pow_pos (by omega)), Nat.mul_mod_left]
  rw [hz] at h0
  refine ⟨by rw [List.length_set]; exact h.len, digs_set h.digs ⟨Int.natCast_nonneg _, Int.ofNat_lt.2 hx⟩, ?_⟩
  rw [vl_set0 (x : Int) (by rw [h.len]; exact hi) h0, h.val]
  rw [Nat.add_mul, Nat.pow_succ, Int.natCast_add, Int.natCast_mul x, Int.natCast_pow]
  congr 2
  grind
theorem tdw {X b : Nat} (h : X / b < 16777216) : wrap64 (Int.tdiv (X : Int) (b : Int)) = ((X / b : Nat) : Int) := by
  rw [td (Int.natCast_nonneg _), ← Int.natCast_ediv]
  generalize X / b = q at *
  exact wr (by omega) (by omega)
theorem tmw {X b : Nat} : Int.tmod (X : Int) (b : Int) = ((X % b : Nat) : Int) := by rw [tm (Int.natCast_nonneg _), ← Int.natCast_emod]
theorem div_step1 {A b : Nat} (hb : 0 < b) (B i : Nat) (hB : 0 < B) : A / B ^ i / b = A / B ^ (i + 1) / b * B + (A / B ^ (i + 1) % b * B + A / B ^ i % B) / b ∧ A / B ^ i % b = (A / B ^ (i + 1) % b * B + A / B ^ i % B) % b := by
  have h1 : A / B ^ i = A / B ^ (i + 1) * B + A / B ^ i % B := by
    rw [Nat.pow_succ, ← Nat.div_div_eq_div_mul, Nat.mul_comm]
    exact (Nat.div_add_mod _ _).symm
  have h2 := Nat.div_add_mod (A / B ^ (i + 1)) b
  generalize A / B ^ (i + 1) = Y at *
  generalize A / B ^ i % B = x at *
  rw [h1]
  have h3 : Y * B + x = (Y % b * B + x) + b * (Y / b * B) := by
    conv => lhs; rw [← h2]
    grind
  rw [h3]
  constructor
  · rw [Nat.add_mul_div_left _ _ hb]; omega
  · rw [Nat.add_mul_mod_self_left]
theorem div1_loop (a b : Nat) (hb0 : 0 < b) (hb : b < 16777216) (hl : (E a).length < 17592186044416) : ∀ (m : Nat) (q : List Int), m ≤ (E a).length → Rp 16777216 q (E a).length (a / 16777216 ^ m / b * 16777216 ^ m) →
    Av (fun k => spec_l02Div.l0 k (E a) (E b) q ((a / 16777216 ^ m % b : Nat) : Int) ((m : Int) - 1)) (E (a / b), E (a % b))
  | 0, q, hm, hq => by
    refine Av.succ ?_
    simp only [spec_l02Div.l0]
    refine Av.ifn (by omega) ?_
    have hr : a % b < 16777216 := Nat.lt_trans (Nat.mod_lt _ hb0) hb
    have hv := hq.val
    simp only [Nat.pow_zero, Nat.div_one, Nat.mul_one] at hv
    simp only [Nat.pow_zero, Nat.div_one]
    refine Av.bind (trim_s' hq.digs (by rw [hq.len]; omega) hv) (Av.bind (trim_s' (n := a % b) ?_ (by simp) (by simp [vl])) Av.ret)
    intro x hx
    simp at hx
    subst hx
    exact below_nat hr
  | m + 1, q, hm, hq => by
    have i1 : (m : Int) < (E a).length := by omega
    have i2 : m < (E a).length := by omega
    have i3 : m < 4611686018427387904 := by omega
    have hlb : (E b).length = 1 := by
      have h1 := (E_le 1 b).2 (by omega)
      have h2 := (E_lt 0 b).2 (by rw [Nat.pow_zero]; exact hb0)
      omega
    have hb1 := rdE b 0
    rw [Nat.pow_zero, Nat.div_one, Nat.mod_eq_of_lt hb] at hb1
    have ha1 := rdE a m
    have hx : a / 16777216 ^ m % 16777216 < 16777216 := Nat.mod_lt _ (by decide)
    have hr : a / 16777216 ^ (m + 1) % b < b := Nat.mod_lt _ hb0
    obtain ⟨s1, s2⟩ := div_step1 (A := a) hb0 16777216 m (by decide)
    have hlt : (a / 16777216 ^ (m + 1) % b * 16777216 + a / 16777216 ^ m % 16777216) / b < 16777216 := by
      rw [Nat.div_lt_iff_lt_mul hb0]; clear hq s1 s2 hb1 ha1; omega
    have hp := hq.put (by decide) i2 hlt
    rw [← s1] at hp
    have ih := div1_loop a b hb0 hb hl m _ (Nat.le_of_lt i2) hp
    rw [s2] at ih
    refine Av.succ ?_
    simp only [spec_l02Div.l0]
    have e0 : ((m + 1 : Nat) : Int) - 1 = (m : Int) := by clear hq s1 s2 hb1 ha1 ih hp; omega
    rw [e0]
    have hr2 : a / 16777216 ^ (m + 1) % b < 549755813888 := Nat.lt_trans hr (Nat.lt_trans hb (by decide))
    have hor := or24 hr2 hx
    have hw : wrap64 ((m : Int) - 1) = (m : Int) - 1 := by clear hq s1 s2 hb1 ha1 ih hp hor hr hr2 hlt hx; exact wr (by omega) (by omega)
    have hlb' : (0 : Int) < (E b).length := by rw [hlb]; decide
    have hne : ¬ ((b : Nat) : Int) = 0 := by clear hq s1 s2 hb1 ha1 ih hp hor hr hr2 hlt hx hw; omega
    have hql : (m : Int) < q.length := by rw [hq.len]; exact i1
    have z0 : ((0 : Nat) : Int) = 0 := rfl
    rw [z0] at hb1
    simp only [ha1, hb1, hor, hw]
    rw [tdw hlt, tmw, Int.toNat_natCast]
    exact Av.ifp (Int.natCast_nonneg _) (Av.ifp (Int.natCast_nonneg _) (Av.ifp i1 (Av.ifp hlb' (Av.ifn hne (Av.ifp hql ih)))))
theorem div_less (a b : Nat) (ha : (E a).length < 17592186044416) (hb : (E b).length < 17592186044416) (h : a < b) : Av (fun k => spec_l02Div.f k (E a) (E b)) (E (a / b), E (a % b)) := by
  unfold spec_l02Div.f
  refine Av.bind (cmp_s a b (by omega) (by omega)) (Av.ifp ?_ (Av.bindc rfl (Av.ifp (by simpa using ha) (Av.ret' ?_))))
  · unfold sgn; rw [if_pos h]; decide
  · rw [Nat.div_eq_of_lt h, Nat.mod_eq_of_lt h]; rfl
theorem div1_s (a b : Nat) (hb0 : 0 < b) (hb : b < 16777216) (hl : (E a).length < 17592186044416) : Av (fun k => spec_l02Div.f k (E a) (E b)) (E (a / b), E (a % b)) := by
  have hlb : (E b).length = 1 := by
    have h1 := (E_le 1 b).2 (by omega)
    have h2 := (E_lt 0 b).2 (by rw [Nat.pow_zero]; exact hb0)
    omega
  by_cases h : a < b
  · exact div_less a b hl (by omega) h
  · unfold spec_l02Div.f
    refine Av.bind (cmp_s a b (by omega) (by omega)) (Av.ifn ?_ (Av.ifp (by omega) (Av.ifp (by omega) (Av.ifp (by omega) ?_))))
    · unfold sgn; rw [if_neg h]; split <;> decide
    · rw [Int.toNat_natCast]
      have hlt : a < 16777216 ^ (E a).length := (E_le _ a).1 (Nat.le_refl _)
      have hz := Rp.zeros (B := 16777216) (by decide) (E a).length
      have hp : 1 ≤ (E a).length := (E_lt 0 a).2 (by rw [Nat.pow_zero]; omega)
      have h2 := div1_loop a b hb0 hb hl (E a).length (List.replicate (E a).length 0) (Nat.le_refl _) (by rw [Nat.div_eq_of_lt hlt]; simpa using hz)
      rw [Nat.div_eq_of_lt hlt] at h2
      have hw : wrap64 (((E a).length : Int) - 1) = ((E a).length : Int) - 1 := wr (by omega) (by omega)
      rw [hw]
      simpa using h2
theorem shl_i64 {x s : Nat} (hs : s ≤ 23) (hx : x < 16777216) : shl .i64 (x : Int) (s : Int) = ((x * 2 ^ s : Nat) : Int) := by
  have h2 : 2 ^ s ≤ 8388608 := by
    have : 2 ^ s ≤ 2 ^ 23 := Nat.pow_le_pow_right (by decide) hs
    omega
  have h3 : x * 2 ^ s ≤ 16777216 * 8388608 := Nat.mul_le_mul (Nat.le_of_lt hx) h2
  unfold shl
  rw [Int.toNat_natCast, Nat.min_eq_left (show s ≤ IntKind.i64.bits from Nat.le_trans hs (by decide)), i64_w]
  have e : (2 : Int) ^ s = ((2 ^ s : Nat) : Int) := by simp
  rw [e, ← Int.natCast_mul]
  generalize x * 2 ^ s = z at *
  exact wr (by omega) (by omega)
theorem or_low {y c s : Nat} (hy : y < 281474976710656) (hd : y % 2 ^ s = 0) (hc : c < 2 ^ s) (hs : s ≤ 40) : Go.bits .or .i64 (y : Int) (c : Int) = ((y + c : Nat) : Int) := by
  have e2 : ((2 : Int) ^ s) = ((2 ^ s : Nat) : Int) := by simp
  have h2 : 2 ^ s ≤ 1099511627776 := by
    have : 2 ^ s ≤ 2 ^ 40 := Nat.pow_le_pow_right (by decide) hs
    omega
  have hc2 : c < 9223372036854775808 := by omega
  have hy2 : y < 9223372036854775808 := by omega
  have hj := bits_join .i64 63 (by decide) (fun n h0 h1 => wi63 h0 h1) s (y : Int) (c : Int) (Int.natCast_nonneg _) (by rw [e2, ← Int.natCast_emod, hd]; rfl) (Int.ofNat_lt.2 hy2) (Int.natCast_nonneg _) (by rw [e2]; exact Int.ofNat_lt.2 hc) (Int.ofNat_lt.2 hc2)
  rw [hj]; simp
theorem left24 {x c s : Nat} (hs : s ≤ 23) (hx : x < 16777216) (hc : c < 2 ^ s) : ∃ r q : Nat, Go.bits .and .i64 (Go.bits .or .i64 (shl .i64 (x : Int) (s : Int)) (c : Int)) 16777215 = (r : Int) ∧ Go.bits .or .i64 (shl .i64 (x : Int) (s : Int)) (c : Int) / 16777216 = (q : Int) ∧ q < 2 ^ s ∧ r < 16777216 ∧ (r : Int) = x * (2 ^ s : Nat) + c - 16777216 * q := by
  have h2 : 2 ^ s ≤ 8388608 := by
    have : 2 ^ s ≤ 2 ^ 23 := Nat.pow_le_pow_right (by decide) hs
    omega
  have h3 : x * 2 ^ s ≤ 16777216 * 8388608 := Nat.mul_le_mul (Nat.le_of_lt hx) h2
  rw [shl_i64 hs hx, or_low (by omega) (Nat.mul_mod_left _ _) hc (by omega)]
  have h4 : x * 2 ^ s + c < 16777216 * 2 ^ s := by
    have : (x + 1) * 2 ^ s ≤ 16777216 * 2 ^ s := Nat.mul_le_mul_right _ hx
    rw [Nat.add_mul, Nat.one_mul] at this
    omega
  rw [← Int.natCast_mul]
  generalize x * 2 ^ s = y at *
  generalize 2 ^ s = S at *
  refine ⟨(y + c) % 16777216, (y + c) / 16777216, ?_, ?_, ?_, Nat.mod_lt _ (by decide), ?_⟩
  · rw [and24]; omega
  · omega
  · omega
  · omega
theorem ring_left (A x P S c q W r : Int) (hr : r = x * S + c - W * q) : (A + x * P) * S - q * (P * W) = A * S - c * P + P * r := by subst hr; grind
theorem left_loop (a s : Nat) (hs : s ≤ 23) (hl : (E a).length < 17592186044415) : ∀ (d i c : Nat) (l : List Int), (E a).length - i = d → i ≤ (E a).length → c < 2 ^ s → Pre l i (((a % 16777216 ^ i : Nat) : Int) * (2 ^ s : Nat) - c * 16777216 ^ i) →
    Av (fun k => spec_l02Left.l0 k (E a) s l c i) (fx 16777216 ((E a).length + 1) (a * 2 ^ s))
  | 0, i, c, l, hd, hi, hc, h => by
    obtain rfl : i = (E a).length := by omega
    refine Av.succ ?_
    simp only [spec_l02Left.l0]
    have h2 : 2 ^ s ≤ 8388608 := by
      have : 2 ^ s ≤ 2 ^ 23 := Nat.pow_le_pow_right (by decide) hs
      omega
    have hp := h.snoc (x := (c : Int)) (w := ((a * 2 ^ s : Nat) : Int)) (below_nat (Nat.lt_of_lt_of_le hc (Nat.le_trans h2 (by decide)))) (by
      rw [mod_full _ a (by decide) (Nat.le_refl _), Int.natCast_mul, Int.mul_comm (c : Int)]; omega)
    refine Av.ifn (by omega) (Av.ifp (by rw [h.len]; omega) (Av.ret' ?_))
    have := fx_of (B := 16777216) (by decide) hp.digs hp.val
    rw [hp.len] at this
    exact this
  | d + 1, i, c, l, hd, hi, hc, h => by
    have i1 : (i : Int) < (E a).length := by omega
    have i2 : (E a).length - (i + 1) = d := by omega
    have i3 : i + 1 ≤ (E a).length := by omega
    have i4 : l.length < 17592186044416 := by rw [h.len]; omega
    have i5 : i < 4611686018427387904 := by omega
    have e1 : wrap64 ((i : Int) + 1) = ((i + 1 : Nat) : Int) := wrap_one i5
    have hx : a / 16777216 ^ i % 16777216 < 16777216 := Nat.mod_lt _ (by decide)
    have s1 := mod_step 16777216 a i
    have r1 := rdE a i
    refine Av.succ ?_
    simp only [spec_l02Left.l0, e1]
    rw [r1]
    generalize a / 16777216 ^ i % 16777216 = x at *
    obtain ⟨r, q, f1, f2, hq, hr, he⟩ := left24 hs hx hc
    rw [f1, f2]
    refine Av.ifp i1 (Av.ifp (Int.natCast_nonneg _) (Av.ifp (Int.natCast_nonneg _) (Av.ifp i4 ?_)))
    refine left_loop a s hs hl d (i + 1) q _ i2 i3 hq (h.snoc (below_nat hr) ?_)
    rw [s1, Int.pow_succ]
    have e6 : ((16777216 : Nat) : Int) = 16777216 := rfl
    simp only [e6]
    exact ring_left _ _ _ _ _ _ _ _ he
theorem left_s (a s : Nat) (hs : s ≤ 23) (hl : (E a).length < 17592186044415) : Av (fun k => spec_l02Left.f k (E a) s) (fx 16777216 ((E a).length + 1) (a * 2 ^ s)) := by
  unfold spec_l02Left.f
  have e : wrap64 (((E a).length : Int) + 1) = (((E a).length + 1 : Nat) : Int) := wrap_one (by omega)
  rw [e, Int.toNat_natCast]
  refine Av.ifp (Int.natCast_nonneg _) (Av.ifp (by omega) ?_)
  refine left_loop a s hs hl _ 0 0 [] rfl (Nat.zero_le _) (Nat.pow_pos (by decide)) ?_
  rw [Nat.pow_zero, Nat.mod_one]
  have e0 : ((0 : Nat) : Int) * (2 ^ s : Nat) - ((0 : Nat) : Int) * 16777216 ^ 0 = 0 := by simp
  rw [e0]; exact Pre.start
theorem msub24 {o g y c : Nat} (ho : o < 16777216) (hg : g < 16777216) (hy : y < 16777216) (hc : c < 16777216) : ∃ r q : Nat, Go.bits .and .i64 (wrap64 (wrap64 ((o : Int) - wrap64 ((g : Int) * y)) - c)) 16777215 = (r : Int) ∧ wrap64 (-(wrap64 (wrap64 ((o : Int) - wrap64 ((g : Int) * y)) - c) / 16777216)) = (q : Int) ∧ r < 16777216 ∧ q < 16777216 ∧ (r : Int) = o - g * y - c + 16777216 * q := by
  have hm : g * y ≤ 16777215 * 16777215 := Nat.mul_le_mul (by omega) (by omega)
  rw [← Int.natCast_mul]
  generalize g * y = z at *
  clear hg hy
  have e1 : wrap64 (z : Int) = (z : Int) := wr (by omega) (by omega)
  have e2 : wrap64 ((o : Int) - z) = (o : Int) - z := wr (by omega) (by omega)
  have e3 : wrap64 ((o : Int) - z - c) = (o : Int) - z - c := wr (by omega) (by omega)
  rw [e1, e2, e3]
  clear e1 e2 e3
  refine ⟨(((o : Int) - z - c) % 16777216).toNat, (-(((o : Int) - z - c) / 16777216)).toNat, ?_, ?_, by omega, by omega, by omega⟩
  · rw [and24]; omega
  · rw [wr (by omega) (by omega)]; omega
theorem top24 {o c : Nat} (ho : o < 16777216) (hc : c < 16777216) : ∃ r e : Nat, Go.bits .and .i64 (wrap64 ((o : Int) - c)) 16777215 = (r : Int) ∧ r < 16777216 ∧ (r : Int) = o - c + 16777216 * e ∧ ((wrap64 ((o : Int) - c) < 0 ∧ e = 1) ∨ (¬ wrap64 ((o : Int) - c) < 0 ∧ e = 0)) := by
  rw [wr (x := (o : Int) - c) (by omega) (by omega)]
  by_cases h : o < c
  · exact ⟨(((o : Int) - c) % 16777216).toNat, 1, by rw [and24]; omega, by omega, by omega, .inl ⟨by omega, rfl⟩⟩
  · exact ⟨(((o : Int) - c) % 16777216).toNat, 0, by rw [and24]; omega, by omega, by omega, .inr ⟨by omega, rfl⟩⟩
end Go.Proofs.Ytghhnjhjhjbljaa.C
