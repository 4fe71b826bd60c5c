/- Words and contracts that the laws of this claim lean on: numbers as limbs, and what the functions make of them. Conditions: those named in each theorem. -/
import Derived.Test.YtbkcchpcadlkdaaVUOwnWords
import Derived.Test.YtbkcchpcadlkdaaZU0
set_option linter.unusedVariables false
set_option linter.unusedSimpArgs false
set_option maxRecDepth 100000
namespace Go.Proofs.Ytbkcchpcadlkdaa.M
open Go.RowKit Go.Proofs.YtbkcchpcadlkdaaW.PrintWords Go.Proofs.YtbkcchpcadlkdaaW.PrintLast Go.Proofs.YtbkcchpcadlkdaaW.PrintMore
/-- With enough rounds g answers r. -/
def Av {α : Type} (g : Nat → Option α) (r : α) : Prop := ∃ k0, ∀ k, k0 ≤ k → g k = some r
theorem Av.pure {α : Type} {g : Nat → Option α} {r : α} (h : ∀ k, g k = some r) : Av g r := ⟨0, fun k _ => h k⟩
theorem Av.ret {α : Type} {r : α} : Av (fun _ => some r) r := ⟨0, fun _ _ => rfl⟩
theorem Av.ret' {α : Type} {r : α} {r' : α} (h : r' = r) : Av (fun _ => some r') r := ⟨0, fun _ _ => by rw [h]⟩
theorem Av.get {α : Type} {g : Nat → Option α} {r : α} (h : Av g r) : ∃ k, g k = some r := let ⟨k, hk⟩ := h; ⟨k, hk k (Nat.le_refl _)⟩
theorem Av.congr {α : Type} {g g' : Nat → Option α} {r : α} (h : ∀ k, g k = g' k) (e : Av g' r) : Av g r := let ⟨k, hk⟩ := e; ⟨k, fun j hj => (h j).trans (hk j hj)⟩
theorem Av.succ {α : Type} {g : Nat → Option α} {r : α} (e : Av (fun k => g (k + 1)) r) : Av g r := by
  obtain ⟨k, hk⟩ := e
  refine ⟨k + 1, fun j hj => ?_⟩
  obtain ⟨m, rfl⟩ : ∃ m, j = m + 1 := ⟨j - 1, by omega⟩
  exact hk m (by omega)
theorem Av.bind {α β : Type} {g : Nat → Option α} {h : Nat → α → Option β} {a : α} {r : β} (ha : Av g a) (hb : Av (fun k => h k a) r) : Av (fun k => (g k).bind (h k)) r := by
  obtain ⟨k1, h1⟩ := ha
  obtain ⟨k2, h2⟩ := hb
  refine ⟨max k1 k2, fun k hk => ?_⟩
  show (g k).bind (h k) = some r
  rw [h1 k (by omega), Option.bind_some]
  exact h2 k (by omega)
theorem Av.bindc {α β : Type} {x : Option α} {h : Nat → α → Option β} {a : α} {r : β} (ha : x = some a) (hb : Av (fun k => h k a) r) : Av (fun k => x.bind (h k)) r := by
  rw [ha]; exact hb
theorem Av.ifp {α : Type} {g : Nat → Option α} {r : α} {h : Nat → Option α} {c : Prop} [Decidable c] (hc : c) (e : Av g r) : Av (fun k => if c then g k else h k) r := by
  simp only [if_pos hc]; exact e
theorem Av.ifn {α : Type} {g : Nat → Option α} {r : α} {h : Nat → Option α} {c : Prop} [Decidable c] (hc : ¬ c) (e : Av h r) : Av (fun k => if c then g k else h k) r := by
  simp only [if_neg hc]; exact e
theorem wr {x : Int} (h0 : -9223372036854775808 ≤ x) (h1 : x < 9223372036854775808) : wrap64 x = x := by unfold wrap64; omega
/-- The value of digits, by Horner. -/
def vl (B : Nat) : List Int → Int
  | [] => 0
  | x :: xs => x + B * vl B xs
end Go.Proofs.Ytbkcchpcadlkdaa.M
namespace Go.Proofs.Ytbkcchpcadlkdaa.C
open Go.RowKit Go.Proofs.YtbkcchpcadlkdaaW.PrintWords Go.Proofs.YtbkcchpcadlkdaaW.PrintLast Go.Proofs.YtbkcchpcadlkdaaW.PrintMore
open Go.Proofs.Ytbkcchpcadlkdaa.M Go.Proofs.Ytbkcchpcadlkdaa.F
theorem wrap_one {a : Nat} (h : a < 4611686018427387904) : wrap64 ((a : Int) + 1) = ((a + 1 : Nat) : Int) := by rw [wr (by omega) (by omega)]; omega
/-- The sixteen figures. -/
def fgs : ByteArray := ⟨#[48, 49, 50, 51, 52, 53, 54, 55, 56, 57, 97, 98, 99, 100, 101, 102]⟩
/-- What a figure stands for; -1 for none. -/
def hxv (c : Int) : Int := Go.Lib.indexByte fgs.data.toList c.toNat.toUInt8
theorem hxv_f (c : Int) : strings_IndexByte.f fgs c = some (hxv c) := rfl
theorem hxv_all : ∀ c : Fin 256, spec_l01Value.f 1 ((c.val : Nat) : Int) = some (hxv ((c.val : Nat) : Int)) ∧ -1 ≤ hxv ((c.val : Nat) : Int) ∧ hxv ((c.val : Nat) : Int) < 16 := by decide +kernel
theorem val_k (k : Nat) (c : Int) : spec_l01Value.f (k + 1) c = spec_l01Value.f 1 c := by
  unfold spec_l01Value.f
  simp only [spec_l01Value.j0]
theorem bt_pos' (s : ByteArray) (i : Int) : ∃ c : Fin 256, bt s i = ((c.val : Nat) : Int) := by
  unfold bt
  split
  · exact ⟨⟨(s[i.toNat]).toNat, UInt8.toNat_lt _⟩, rfl⟩
  · exact ⟨0, rfl⟩
theorem value_s (s : ByteArray) (i : Int) : Av (fun k => spec_l01Value.f k (bt s i)) (hxv (bt s i)) := by
  obtain ⟨c, hc⟩ := bt_pos' s i
  rw [hc]
  refine Av.succ (Av.pure fun k => ?_)
  rw [val_k]; exact (hxv_all c).1
theorem hxv_in (s : ByteArray) (i : Int) : -1 ≤ hxv (bt s i) ∧ hxv (bt s i) < 16 := by
  obtain ⟨c, hc⟩ := bt_pos' s i
  rw [hc]; exact (hxv_all c).2
theorem join_all : ∀ h l : Fin 16, (Go.bits .or .i64 (wrap64 (((h.val : Nat) : Int) * 16)) ((l.val : Nat) : Int)) % 256 = (wrap64 ((wrap64 (16 * ((h.val : Nat) : Int))) + ((l.val : Nat) : Int))) % 256 := by decide +kernel
theorem join_eq {h l : Int} (h0 : 0 ≤ h) (h1 : h < 16) (l0 : 0 ≤ l) (l1 : l < 16) : (Go.bits .or .i64 (wrap64 (h * 16)) l) % 256 = (wrap64 ((wrap64 (16 * h)) + l)) % 256 := by
  obtain ⟨a, rfl⟩ := Int.eq_ofNat_of_zero_le h0
  obtain ⟨b, rfl⟩ := Int.eq_ofNat_of_zero_le l0
  exact join_all ⟨a, by omega⟩ ⟨b, by omega⟩
theorem unhex_loop (s : ByteArray) (n : Nat) (hn : s.size = 2 * n) (hs : n ≤ 20000) : ∀ (d m : Nat) (x : List Int), n - m = d → m ≤ n → x.length ≤ m → ∃ r, Av (fun k => spec_Unhex.l0 k s x ((2 * m : Nat) : Int)) r ∧ Av (fun k => impl_Unhex.l0 k s x ((2 * m : Nat) : Int)) r
  | 0, m, x, hd, hm, hx => by
    refine ⟨(strOfNums x, true), Av.succ ?_, Av.succ ?_⟩
    · simp only [spec_Unhex.l0]
      exact Av.ifn (by omega) Av.ret
    · simp only [impl_Unhex.l0]
      exact Av.ifn (by omega) Av.ret
  | d + 1, m, x, hd, hm, hx => by
    have e1 : wrap64 (((2 * m : Nat) : Int) + 1) = ((2 * m + 1 : Nat) : Int) := wrap_one (by omega)
    have e2 : wrap64 (((2 * m : Nat) : Int) + 2) = ((2 * (m + 1) : Nat) : Int) := by rw [wr (by omega) (by omega)]; omega
    have vh := value_s s ((2 * m : Nat) : Int)
    have vl := value_s s ((2 * m + 1 : Nat) : Int)
    obtain ⟨h0, h1⟩ := hxv_in s ((2 * m : Nat) : Int)
    obtain ⟨l0, l1⟩ := hxv_in s ((2 * m + 1 : Nat) : Int)
    have ih := hxv_f (bt s ((2 * m : Nat) : Int))
    have il := hxv_f (bt s ((2 * m + 1 : Nat) : Int))
    generalize hh : hxv (bt s ((2 * m : Nat) : Int)) = h at *
    generalize hl : hxv (bt s ((2 * m + 1 : Nat) : Int)) = l at *
    by_cases ch : h < 0
    · refine ⟨((⟨#[]⟩ : ByteArray), false), Av.succ ?_, Av.succ ?_⟩
      · simp only [spec_Unhex.l0, e1, e2]
        exact Av.ifp (by omega) (Av.ifp (by omega) (Av.bind vh (Av.ifp (by omega) (Av.ifp (by omega) (Av.bind vl (Av.ifp ch Av.ret))))))
      · simp only [impl_Unhex.l0, e1, e2]
        exact Av.ifp (by omega) (Av.ifp (by omega) (Av.bindc ih (Av.ifp (by omega) (Av.ifp (by omega) (Av.bindc il (Av.ifp ch Av.ret))))))
    by_cases cl : l < 0
    · refine ⟨((⟨#[]⟩ : ByteArray), false), Av.succ ?_, Av.succ ?_⟩
      · simp only [spec_Unhex.l0, e1, e2]
        exact Av.ifp (by omega) (Av.ifp (by omega) (Av.bind vh (Av.ifp (by omega) (Av.ifp (by omega) (Av.bind vl (Av.ifn ch (Av.ifp cl Av.ret)))))))
      · simp only [impl_Unhex.l0, e1, e2]
        exact Av.ifp (by omega) (Av.ifp (by omega) (Av.bindc ih (Av.ifp (by omega) (Av.ifp (by omega) (Av.bindc il (Av.ifn ch (Av.ifp cl Av.ret)))))))
    have ej := join_eq (h := h) (l := l) (by omega) h1 (by omega) l1
    obtain ⟨r, r1, r2⟩ := unhex_loop s n hn hs d (m + 1) (x ++ [(wrap64 ((wrap64 (16 * h)) + l)) % 256]) (by omega) (by omega) (by rw [List.length_append]; simp only [List.length_cons, List.length_nil]; omega)
    refine ⟨r, Av.succ ?_, Av.succ ?_⟩
    · simp only [spec_Unhex.l0, e1, e2]
      exact Av.ifp (by omega) (Av.ifp (by omega) (Av.bind vh (Av.ifp (by omega) (Av.ifp (by omega) (Av.bind vl (Av.ifn ch (Av.ifn cl (Av.ifp (by omega) r1))))))))
    · simp only [impl_Unhex.l0, e1, e2]
      refine Av.ifp (by omega) (Av.ifp (by omega) (Av.bindc ih (Av.ifp (by omega) (Av.ifp (by omega) (Av.bindc il (Av.ifn ch (Av.ifn cl (Av.ifp (by omega) ?_))))))))
      rw [ej]; exact r2
theorem unhex (s : ByteArray) : ∃ r, Av (fun k => spec_Unhex.f k s) r ∧ Av (fun k => impl_Unhex.f k s) r := by
  unfold spec_Unhex.f impl_Unhex.f
  have sT : Av (fun k => spec_Unhex.j0 k s true) ((⟨#[]⟩ : ByteArray), false) := by
    refine Av.succ ?_
    simp only [spec_Unhex.j0]
    exact Av.ifp (by decide) Av.ret
  have fT : Av (fun k => impl_Unhex.j0 k s true) ((⟨#[]⟩ : ByteArray), false) := by
    refine Av.succ ?_
    simp only [impl_Unhex.j0]
    exact Av.ifp (by decide) Av.ret
  by_cases c2 : ((s.size : Int) % 2) = 0
  · by_cases c : (s.size : Int) > 40000
    · refine ⟨_, Av.ifp c sT, Av.ifp c2 ?_⟩
      rw [decide_eq_true c]; exact fT
    · obtain ⟨r, r1, r2⟩ := unhex_loop s (s.size / 2) (by omega) (by omega) (s.size / 2) 0 [] rfl (Nat.zero_le _) (Nat.zero_le _)
      refine ⟨r, Av.ifn c ?_, Av.ifp c2 ?_⟩
      · have e : (((s.size : Int) % 2) != 0) = false := by rw [c2]; rfl
        rw [e]
        refine Av.succ ?_
        simp only [spec_Unhex.j0]
        exact Av.ifn (by decide) r1
      · rw [decide_eq_false c]
        refine Av.succ ?_
        simp only [impl_Unhex.j0]
        exact Av.ifn (by decide) r2
  · refine ⟨_, ?_, Av.ifn c2 fT⟩
    by_cases c : (s.size : Int) > 40000
    · exact Av.ifp c sT
    · have e : (((s.size : Int) % 2) != 0) = true := by rw [bne_iff_ne]; exact c2
      refine Av.ifn c ?_
      rw [e]; exact sT
end Go.Proofs.Ytbkcchpcadlkdaa.C
