/- Words and contracts that the laws of this claim lean on: numbers as limbs, and what the functions make of them. Conditions: those named in each theorem. -/
import Derived.Test.YtaaimkgpeilbbaaVFOwnWords
import Derived.Test.YtaaimkgpeilbbaaZF0
set_option linter.unusedVariables false
set_option linter.unusedSimpArgs false
set_option maxRecDepth 100000
namespace Go.Proofs.Ytaaimkgpeilbbaa.M
open Go.RowKit Go.Proofs.YtaaimkgpeilbbaaW.PrintWords Go.Proofs.YtaaimkgpeilbbaaW.PrintLast Go.Proofs.YtaaimkgpeilbbaaW.PrintMore
/-- With enough rounds g answers r. -/
def Av {α : Type} (g : Nat → Option α) (r : α) : Prop := ∃ k0, ∀ k, k0 ≤ k → g k = some r
theorem Av.pure {α : Type} {g : Nat → Option α} {r : α} (h : ∀ k, g k = some r) : Av g r := ⟨0, fun k _ => h k⟩
theorem Av.ret {α : Type} {r : α} : Av (fun _ => some r) r := ⟨0, fun _ _ => rfl⟩
theorem Av.ret' {α : Type} {r : α} {r' : α} (h : r' = r) : Av (fun _ => some r') r := ⟨0, fun _ _ => by rw [h]⟩
theorem Av.get {α : Type} {g : Nat → Option α} {r : α} (h : Av g r) : ∃ k, g k = some r := let ⟨k, hk⟩ := h; ⟨k, hk k (Nat.le_refl _)⟩
theorem Av.congr {α : Type} {g g' : Nat → Option α} {r : α} (h : ∀ k, g k = g' k) (e : Av g' r) : Av g r := let ⟨k, hk⟩ := e; ⟨k, fun j hj => (h j).trans (hk j hj)⟩
theorem Av.succ {α : Type} {g : Nat → Option α} {r : α} (e : Av (fun k => g (k + 1)) r) : Av g r := by
  obtain ⟨k, hk⟩ := e
  refine ⟨k + 1, fun j hj => ?_⟩
  obtain ⟨m, rfl⟩ : ∃ m, j = m + 1 := ⟨j - 1, by omega⟩
  exact hk m (by omega)
theorem Av.bind {α β : Type} {g : Nat → Option α} {h : Nat → α → Option β} {a : α} {r : β} (ha : Av g a) (hb : Av (fun k => h k a) r) : Av (fun k => (g k).bind (h k)) r := by
  obtain ⟨k1, h1⟩ := ha
  obtain ⟨k2, h2⟩ := hb
  refine ⟨max k1 k2, fun k hk => ?_⟩
  show (g k).bind (h k) = some r
  rw [h1 k (by omega), Option.bind_some]
  exact h2 k (by omega)
theorem Av.bindc {α β : Type} {x : Option α} {h : Nat → α → Option β} {a : α} {r : β} (ha : x = some a) (hb : Av (fun k => h k a) r) : Av (fun k => x.bind (h k)) r := by
  rw [ha]; exact hb
theorem Av.ifp {α : Type} {g : Nat → Option α} {r : α} {h : Nat → Option α} {c : Prop} [Decidable c] (hc : c) (e : Av g r) : Av (fun k => if c then g k else h k) r := by
  simp only [if_pos hc]; exact e
theorem Av.ifn {α : Type} {g : Nat → Option α} {r : α} {h : Nat → Option α} {c : Prop} [Decidable c] (hc : ¬ c) (e : Av h r) : Av (fun k => if c then g k else h k) r := by
  simp only [if_neg hc]; exact e
theorem wr {x : Int} (h0 : -9223372036854775808 ≤ x) (h1 : x < 9223372036854775808) : wrap64 x = x := by unfold wrap64; omega
theorem toList_loop (s : ByteArray) : ∀ (n i : Nat) (r : List UInt8), n = s.size - i → ByteArray.toList.loop s i r = r.reverse ++ s.data.toList.drop i
  | 0, i, r, h => by
    unfold ByteArray.toList.loop
    rw [if_neg (by omega), List.drop_of_length_le (by rw [data_length]; omega), List.append_nil]
  | n + 1, i, r, h => by
    unfold ByteArray.toList.loop
    have hi : i < s.size := by omega
    have hl : i < s.data.toList.length := by rw [data_length]; exact hi
    rw [if_pos hi, toList_loop s n (i + 1) _ (by omega), List.drop_eq_getElem_cons hl]
    have e : s.get! i = s.data.toList[i] := by
      have h2 : i < s.data.size := hi
      simp only [ByteArray.get!]
      rw [getElem!_pos s.data i h2]
      simp
    rw [e]
    simp
theorem toList_data (s : ByteArray) : s.toList = s.data.toList := by
  unfold ByteArray.toList
  rw [toList_loop s s.size 0 [] (by omega)]
  simp
theorem toList_nil_iff {s : ByteArray} : s.toList = ([] : List UInt8) ↔ s.size = 0 := by
  rw [toList_data, ← data_length]
  constructor
  · intro h; rw [h]; rfl
  · exact List.eq_nil_of_length_eq_zero
/-- Is a text a great number? -/
def gok (s : ByteArray) : Bool := decide (s.size ≤ 160) && (decide (s.size = 0) || decide (bt s 0 ≠ 0))
theorem gok_iff {s : ByteArray} : gok s = true ↔ s.size ≤ 160 ∧ (s.size = 0 ∨ bt s 0 ≠ 0) := by simp [gok]
end Go.Proofs.Ytaaimkgpeilbbaa.M
namespace Go.Proofs.Ytaaimkgpeilbbaa.C
open Go.RowKit Go.Proofs.YtaaimkgpeilbbaaW.PrintWords Go.Proofs.YtaaimkgpeilbbaaW.PrintLast Go.Proofs.YtaaimkgpeilbbaaW.PrintMore
open Go.Proofs.Ytaaimkgpeilbbaa.M Go.Proofs.Ytaaimkgpeilbbaa.F
theorem gok_f (s : ByteArray) : impl_GreatOk.f s = some (gok s) := by
  unfold impl_GreatOk.f gok
  by_cases h1 : (s.size : Int) ≤ 160
  · rw [if_pos h1]
    by_cases h2 : s.size = 0
    · rw [if_pos (toList_nil_iff.2 h2)]; simp [h2]
    · rw [if_neg (fun h => h2 (toList_nil_iff.1 h)), if_pos (by omega)]
      have h3 : s.size ≤ 160 := by omega
      simp [h2, h3]
      by_cases hb : bt s 0 = 0 <;> simp [hb]
  · rw [if_neg h1]
    have h3 : ¬ s.size ≤ 160 := by omega
    simp [h3]
theorem gok_s (s : ByteArray) : spec_GreatOk.f s = some (gok s) := gok_f s
theorem gok_size' {s : ByteArray} (h : gok s = true) : s.size ≤ 160 := (gok_iff.1 h).1
theorem wrap_one {a : Nat} (h : a < 4611686018427387904) : wrap64 ((a : Int) + 1) = ((a + 1 : Nat) : Int) := by rw [wr (by omega) (by omega)]; omega
/-- So many bytes 0. -/
def zrs (n : Nat) : ByteArray := strOfNums (List.replicate n 0)
theorem zrs_size (n : Nat) : (zrs n).size = n := by unfold zrs; rw [strOfNums_size, List.length_replicate]
theorem long_loop (n : Nat) (hn : n < 1000000) : ∀ (d i : Nat), n - i = d → i ≤ n → Av (fun k => spec_l01Long.l0 k n 0 (List.replicate n 0) i) (zrs n)
  | 0, i, hd, hi => by
    refine Av.succ ?_
    simp only [spec_l01Long.l0]
    exact Av.ifn (by omega) Av.ret
  | d + 1, i, hd, hi => by
    have e1 : wrap64 ((i : Int) + 1) = ((i + 1 : Nat) : Int) := wrap_one (by omega)
    refine Av.succ ?_
    simp only [spec_l01Long.l0, e1, Int.toNat_natCast]
    refine Av.ifp (by omega) (Av.ifp (by omega) (Av.ifp (by rw [List.length_replicate]; omega) ?_))
    rw [List.set_replicate_self]
    exact long_loop n hn d (i + 1) (by omega) (by omega)
theorem long_s (n : Nat) (hn : n < 1000000) : Av (fun k => spec_l01Long.f k n 0) (zrs n) := by
  unfold spec_l01Long.f
  rw [Int.toNat_natCast]
  exact Av.ifp (by omega) (Av.ifp (by omega) (long_loop n hn n 0 rfl (Nat.zero_le _)))
theorem repeat_f (n : Nat) (hn : n < 1000000) : strings_Repeat.f (⟨#[0]⟩ : ByteArray) n = some (zrs n) := by
  unfold strings_Repeat.f
  rw [if_pos ⟨by omega, by omega, by decide⟩, Int.toNat_natCast]
  congr 1
  have h := Go.Lib.repeatL_replicate 0 1 n
  rw [Nat.mul_one] at h
  have e : (⟨#[0]⟩ : ByteArray).data.toList = List.replicate 1 0 := rfl
  rw [e, h]
  have hz : (zrs n).data.toList = List.replicate n 0 := by
    unfold zrs
    rw [strOfNums_data, List.map_replicate]; rfl
  have : (zrs n).data = (List.replicate n (0 : UInt8)).toArray := by
    rw [← hz]
  cases hq : zrs n with
  | mk dt =>
    rw [hq] at this
    rw [← this]
theorem within_at (a lo hi : Int) : impl_within.f a lo hi = some (decide (lo ≤ a ∧ a ≤ hi)) := by
  unfold impl_within.f
  by_cases c : lo ≤ a
  · rw [if_pos c]; simp [c]
  · rw [if_neg c]; simp [c]
theorem in_at (a lo hi : Int) : spec_l01In.f a lo hi = some (decide (lo ≤ a ∧ a ≤ hi)) := by
  unfold spec_l01In.f
  by_cases c : a ≥ lo
  · rw [if_pos c]
    have : lo ≤ a := c
    simp [this]
  · rw [if_neg c]
    have : ¬ lo ≤ a := c
    simp [this]
/-- What FirstBytes answers. -/
def fbv (s : ByteArray) (w : Int) : ByteArray := if gok s && decide ((s.size : Int) ≤ w ∧ w ≤ 160) then zrs (w - s.size).toNat ++ s else (⟨#[]⟩ : ByteArray)
theorem firstbytes_s (s : ByteArray) (w : Int) : Av (fun k => spec_FirstBytes.f k s w) (fbv s w) := by
  unfold spec_FirstBytes.f fbv
  refine Av.bindc (gok_s s) ?_
  cases hg : gok s with
  | false => exact Av.ifn (by decide) Av.ret
  | true =>
    refine Av.ifp rfl (Av.bindc (in_at _ _ _) ?_)
    by_cases c : (s.size : Int) ≤ w ∧ w ≤ 160
    · rw [decide_eq_true c]
      obtain ⟨c1, c2⟩ := c
      obtain ⟨n, hn⟩ := Int.eq_ofNat_of_zero_le (show 0 ≤ w - s.size by omega)
      have e : wrap64 (w - (s.size : Int)) = (n : Int) := by rw [wr (by omega) (by omega)]; exact hn
      have hl := long_s n (by omega)
      rw [← e] at hl
      refine Av.ifp rfl (Av.bind hl (Av.ifp ?_ (Av.ret' ?_)))
      · rw [zrs_size]; have := gok_size' hg; omega
      · rw [hn, Int.toNat_natCast]; rfl
    · rw [decide_eq_false c]
      exact Av.ifn (by decide) Av.ret
theorem firstbytes_f (s : ByteArray) (w : Int) : impl_FirstBytes.f s w = some (fbv s w) := by
  unfold impl_FirstBytes.f fbv
  rw [gok_f, Option.bind_some]
  cases hg : gok s with
  | false => rfl
  | true =>
    rw [if_pos rfl, within_at, Option.bind_some]
    by_cases c : (s.size : Int) ≤ w ∧ w ≤ 160
    · rw [decide_eq_true c]
      obtain ⟨c1, c2⟩ := c
      obtain ⟨n, hn⟩ := Int.eq_ofNat_of_zero_le (show 0 ≤ w - s.size by omega)
      have e : wrap64 (w - (s.size : Int)) = (n : Int) := by rw [wr (by omega) (by omega)]; exact hn
      have hs := gok_size' hg
      rw [if_pos rfl, e, repeat_f n (by omega), Option.bind_some, if_pos (by rw [zrs_size]; omega), hn, Int.toNat_natCast]
      rfl
    · rw [decide_eq_false c]
      rfl
end Go.Proofs.Ytaaimkgpeilbbaa.C
