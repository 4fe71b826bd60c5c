/- Words and contracts that the laws of this claim lean on: numbers as limbs, and what the functions make of them. Conditions: those named in each theorem. -/
import Derived.Test.YtaaimkgpeilbbaaVKOwnWords
import Derived.Test.YtaaimkgpeilbbaaZK0
set_option linter.unusedVariables false
set_option linter.unusedSimpArgs false
set_option maxRecDepth 100000
namespace Go.Proofs.Ytaaimkgpeilbbaa.M
open Go.RowKit Go.Proofs.YtaaimkgpeilbbaaW.PrintWords Go.Proofs.YtaaimkgpeilbbaaW.PrintLast Go.Proofs.YtaaimkgpeilbbaaW.PrintMore
/-- With enough rounds g answers r. -/
def Av {α : Type} (g : Nat → Option α) (r : α) : Prop := ∃ k0, ∀ k, k0 ≤ k → g k = some r
theorem Av.pure {α : Type} {g : Nat → Option α} {r : α} (h : ∀ k, g k = some r) : Av g r := ⟨0, fun k _ => h k⟩
theorem Av.ret {α : Type} {r : α} : Av (fun _ => some r) r := ⟨0, fun _ _ => rfl⟩
theorem Av.ret' {α : Type} {r : α} {r' : α} (h : r' = r) : Av (fun _ => some r') r := ⟨0, fun _ _ => by rw [h]⟩
theorem Av.get {α : Type} {g : Nat → Option α} {r : α} (h : Av g r) : ∃ k, g k = some r := let ⟨k, hk⟩ := h; ⟨k, hk k (Nat.le_refl _)⟩
theorem Av.congr {α : Type} {g g' : Nat → Option α} {r : α} (h : ∀ k, g k = g' k) (e : Av g' r) : Av g r := let ⟨k, hk⟩ := e; ⟨k, fun j hj => (h j).trans (hk j hj)⟩
theorem Av.succ {α : Type} {g : Nat → Option α} {r : α} (e : Av (fun k => g (k + 1)) r) : Av g r := by
  obtain ⟨k, hk⟩ := e
  refine ⟨k + 1, fun j hj => ?_⟩
  obtain ⟨m, rfl⟩ : ∃ m, j = m + 1 := ⟨j - 1, by omega⟩
  exact hk m (by omega)
theorem Av.bind {α β : Type} {g : Nat → Option α} {h : Nat → α → Option β} {a : α} {r : β} (ha : Av g a) (hb : Av (fun k => h k a) r) : Av (fun k => (g k).bind (h k)) r := by
  obtain ⟨k1, h1⟩ := ha
  obtain ⟨k2, h2⟩ := hb
  refine ⟨max k1 k2, fun k hk => ?_⟩
  show (g k).bind (h k) = some r
  rw [h1 k (by omega), Option.bind_some]
  exact h2 k (by omega)
theorem Av.bindc {α β : Type} {x : Option α} {h : Nat → α → Option β} {a : α} {r : β} (ha : x = some a) (hb : Av (fun k => h k a) r) : Av (fun k => x.bind (h k)) r := by
  rw [ha]; exact hb
theorem Av.ifp {α : Type} {g : Nat → Option α} {r : α} {h : Nat → Option α} {c : Prop} [Decidable c] (hc : c) (e : Av g r) : Av (fun k => if c then g k else h k) r := by
  simp only [if_pos hc]; exact e
theorem Av.ifn {α : Type} {g : Nat → Option α} {r : α} {h : Nat → Option α} {c : Prop} [Decidable c] (hc : ¬ c) (e : Av h r) : Av (fun k => if c then g k else h k) r := by
  simp only [if_neg hc]; exact e
theorem wr {x : Int} (h0 : -9223372036854775808 ≤ x) (h1 : x < 9223372036854775808) : wrap64 x = x := by unfold wrap64; omega
theorem toList_loop (s : ByteArray) : ∀ (n i : Nat) (r : List UInt8), n = s.size - i → ByteArray.toList.loop s i r = r.reverse ++ s.data.toList.drop i
  | 0, i, r, h => by
    unfold ByteArray.toList.loop
    rw [if_neg (by omega), List.drop_of_length_le (by rw [data_length]; omega), List.append_nil]
  | n + 1, i, r, h => by
    unfold ByteArray.toList.loop
    have hi : i < s.size := by omega
    have hl : i < s.data.toList.length := by rw [data_length]; exact hi
    rw [if_pos hi, toList_loop s n (i + 1) _ (by omega), List.drop_eq_getElem_cons hl]
    have e : s.get! i = s.data.toList[i] := by
      have h2 : i < s.data.size := hi
      simp only [ByteArray.get!]
      rw [getElem!_pos s.data i h2]
      simp
    rw [e]
    simp
theorem toList_data (s : ByteArray) : s.toList = s.data.toList := by
  unfold ByteArray.toList
  rw [toList_loop s s.size 0 [] (by omega)]
  simp
theorem toList_nil_iff {s : ByteArray} : s.toList = ([] : List UInt8) ↔ s.size = 0 := by
  rw [toList_data, ← data_length]
  constructor
  · intro h; rw [h]; rfl
  · exact List.eq_nil_of_length_eq_zero
end Go.Proofs.Ytaaimkgpeilbbaa.M
namespace Go.Proofs.Ytaaimkgpeilbbaa.C
open Go.RowKit Go.Proofs.YtaaimkgpeilbbaaW.PrintWords Go.Proofs.YtaaimkgpeilbbaaW.PrintLast Go.Proofs.YtaaimkgpeilbbaaW.PrintMore
open Go.Proofs.Ytaaimkgpeilbbaa.M Go.Proofs.Ytaaimkgpeilbbaa.F
theorem td {a b : Int} (h : 0 ≤ a) : a.tdiv b = a / b := Int.tdiv_eq_ediv_of_nonneg h
theorem wrap_one {a : Nat} (h : a < 4611686018427387904) : wrap64 ((a : Int) + 1) = ((a + 1 : Nat) : Int) := by rw [wr (by omega) (by omega)]; omega
theorem mark_loop : ∀ (f n : Nat) (t : ByteArray), n < 10 ^ f → n < 1000000 → t.size + f ≤ 1000 → ∃ r, Av (fun k => laws_markText.l0 k n t) r
  | 0, n, t, h, h2, ht => by
    refine ⟨(⟨#[109]⟩ : ByteArray) ++ t, Av.succ ?_⟩
    simp only [laws_markText.l0]
    rw [Nat.pow_zero] at h
    exact Av.ifn (by omega) (Av.ifp (by omega) Av.ret)
  | f + 1, n, t, h, h2, ht => by
    by_cases h0 : n = 0
    · refine ⟨(⟨#[109]⟩ : ByteArray) ++ t, Av.succ ?_⟩
      simp only [laws_markText.l0]
      exact Av.ifn (by omega) (Av.ifp (by omega) Av.ret)
    · have hs : (strOfNums ([(wrap64 (48 + (Int.tmod n 10))) % 256] : List Int)).size = 1 := by rw [strOfNums_size]; rfl
      obtain ⟨r, hr⟩ := mark_loop f (n / 10) ((strOfNums ([(wrap64 (48 + (Int.tmod n 10))) % 256] : List Int)) ++ t) (by
        rw [Nat.pow_succ] at h
        exact Nat.div_lt_of_lt_mul (by rw [Nat.mul_comm]; exact h)) (by omega) (by rw [ByteArray.size_append, hs]; omega)
      have w : wrap64 (Int.tdiv (n : Int) 10) = ((n / 10 : Nat) : Int) := by
        rw [td (by omega), wr (by omega) (by omega)]; omega
      refine ⟨r, Av.succ ?_⟩
      simp only [laws_markText.l0, w]
      exact Av.ifp (by omega) (Av.bindc rfl (Av.ifp (by rw [hs]; omega) hr))
theorem mark_some (n : Nat) (h : n < 1000000) : ∃ t, Av (fun k => laws_markText.f k n) t := by
  unfold laws_markText.f
  by_cases h0 : n = 0
  · exact ⟨_, Av.ifp (by omega) Av.ret⟩
  · obtain ⟨r, hr⟩ := mark_loop 6 n (⟨#[]⟩ : ByteArray) h h (by decide)
    exact ⟨r, Av.ifn (by omega) hr⟩
theorem rdOf_at {l : List ByteArray} {i : Nat} (h : i < l.length) : rdOf ByteArray.empty l (i : Int) = l[i] := by
  unfold rdOf
  rw [Int.toNat_natCast, List.getD_eq_getElem?_getD, List.getElem?_eq_getElem h]; rfl
theorem eqs_loop (l : List ByteArray) (hl : l.length < 1000000) : ∀ (d i : Nat), l.length - i = d → i ≤ l.length → Av (fun k => laws_eqStringS.l0 k l l i) true
  | 0, i, hd, hi => by
    refine Av.succ ?_
    simp only [laws_eqStringS.l0]
    exact Av.ifn (by omega) Av.ret
  | d + 1, i, hd, hi => by
    have e1 : wrap64 ((i : Int) + 1) = ((i + 1 : Nat) : Int) := wrap_one (by omega)
    refine Av.succ ?_
    simp only [laws_eqStringS.l0, e1]
    exact Av.ifp (by omega) (Av.ifp (by omega) (Av.ifp (by omega) (Av.ifp trivial (eqs_loop l hl d (i + 1) (by omega) (by omega)))))
theorem eqs_f (l : List ByteArray) (hl : l.length < 1000000) : Av (fun k => laws_eqStringS.f k l l) true := by
  unfold laws_eqStringS.f
  exact Av.ifp rfl (eqs_loop l hl l.length 0 (by omega) (by omega))
theorem marks_loop : ∀ (d i : Nat) (l : List ByteArray), l.length < 1000 → l.length - i = d → i ≤ l.length → ∃ l' : List ByteArray, l'.length = l.length ∧ (∀ j, j < i → l'[j]? = l[j]?) ∧ Av (fun k => laws_markStringS.l0 k l ((i + 1 : Nat) : Int) i) (((l.length + 1 : Nat) : Int), l') ∧ (∀ j, i ≤ j → (h : j < l'.length) → Av (fun k => laws_markText.f k ((j + 1 : Nat) : Int)) l'[j])
  | 0, i, l, hl, hd, hi => by
    obtain rfl : i = l.length := by omega
    refine ⟨l, rfl, fun _ _ => rfl, Av.succ ?_, fun j h1 h2 => by omega⟩
    simp only [laws_markStringS.l0]
    exact Av.ifn (by omega) Av.ret
  | d + 1, i, l, hl, hd, hi => by
    obtain ⟨t, ht⟩ := mark_some (i + 1) (by omega)
    obtain ⟨l', h1, h2, h3, h4⟩ := marks_loop d (i + 1) (l.set i t) (by rw [List.length_set]; omega) (by rw [List.length_set]; omega) (by rw [List.length_set]; omega)
    rw [List.length_set] at h1 h3
    have e1 : wrap64 ((i : Int) + 1) = ((i + 1 : Nat) : Int) := wrap_one (by omega)
    have e2 : wrap64 (((i + 1 : Nat) : Int) + 1) = ((i + 1 + 1 : Nat) : Int) := wrap_one (by omega)
    refine ⟨l', h1, ?_, Av.succ ?_, ?_⟩
    · intro j hj
      rw [h2 j (by omega), List.getElem?_set_ne (by omega)]
    · simp only [laws_markStringS.l0, e1, e2]
      refine Av.ifp (by omega) (Av.bind ht (Av.ifp (by omega) ?_))
      rw [Int.toNat_natCast]
      exact h3
    · intro j hj hjl
      by_cases c : j = i
      · subst c
        have := h2 j (Nat.lt_succ_self j)
        rw [List.getElem?_set_self (by omega), List.getElem?_eq_getElem hjl] at this
        rw [Option.some.inj this]
        exact ht
      · exact h4 j (by omega) hjl
theorem helds_loop (l : List ByteArray) (hl : l.length < 1000) (hm : ∀ j, (h : j < l.length) → Av (fun k => laws_markText.f k ((j + 1 : Nat) : Int)) l[j]) : ∀ (d i : Nat), l.length - i = d → i ≤ l.length → Av (fun k => laws_heldStringS.l0 k l ((i + 1 : Nat) : Int) i) ((l.length + 1 : Nat) : Int)
  | 0, i, hd, hi => by
    obtain rfl : i = l.length := by omega
    refine Av.succ ?_
    simp only [laws_heldStringS.l0]
    exact Av.ifn (by omega) Av.ret
  | d + 1, i, hd, hi => by
    have hil : i < l.length := by omega
    have e1 : wrap64 ((i : Int) + 1) = ((i + 1 : Nat) : Int) := wrap_one (by omega)
    have e2 : wrap64 (((i + 1 : Nat) : Int) + 1) = ((i + 1 + 1 : Nat) : Int) := wrap_one (by omega)
    refine Av.succ ?_
    simp only [laws_heldStringS.l0, e1, e2]
    refine Av.ifp (by omega) (Av.ifp (by omega) (Av.bind (hm i hil) (Av.ifp ?_ (helds_loop l hl hm d (i + 1) (by omega) (by omega)))))
    rw [rdOf_at hil]
/-- Marked words are held. -/
theorem marked (l : List ByteArray) (hl : l.length < 1000) : ∃ l' : List ByteArray, Av (fun k => laws_markStringS.f k l 1) (((l.length + 1 : Nat) : Int), l') ∧ Av (fun k => laws_heldStringS.f k l' 1) ((l.length + 1 : Nat) : Int) := by
  obtain ⟨l', h1, _, h3, h4⟩ := marks_loop l.length 0 l hl (by omega) (by omega)
  refine ⟨l', h3, ?_⟩
  have := helds_loop l' (by omega) (fun j h => h4 j (Nat.zero_le _) h) l'.length 0 (by omega) (by omega)
  rw [h1] at this
  exact this
theorem bt_pos (s : ByteArray) (i : Int) : 0 ≤ bt s i ∧ bt s i < 256 := by
  unfold bt
  split
  · constructor
    · exact Int.natCast_nonneg _
    · have := UInt8.toNat_lt (s[i.toNat])
      omega
  · decide
theorem within_f (s : ByteArray) (i : Int) : impl_within.f (wrap64 (bt s i)) 32 126 = some (decide (32 ≤ bt s i ∧ bt s i ≤ 126)) := by
  obtain ⟨h0, h1⟩ := bt_pos s i
  unfold impl_within.f
  rw [wr (by omega) (by omega)]
  by_cases c : 32 ≤ bt s i
  · rw [if_pos c]; simp [c]
  · rw [if_neg c]; simp [c]
theorem ext_nil (s : ByteArray) {b i : Nat} (hb : b ≤ i) (hi : i ≤ s.size) : (s.extract b i).toList = ([] : List UInt8) ↔ b = i := by
  rw [toList_nil_iff, ByteArray.size_extract, Nat.min_eq_left hi]; omega
/-- What both make of the words that are left over at the end. -/
def endw (x : List ByteArray) : List ByteArray × Bool := if 12 < x.length then ([], false) else (x, true)
theorem parts_loop (s : ByteArray) (hs : s.size ≤ 600) : ∀ (d i b : Nat) (x : List ByteArray), s.size - i = d → i ≤ s.size → b ≤ i → x.length ≤ i → ∃ r : List ByteArray × Bool, r.1.length ≤ 12 ∧ Av (fun k => spec_PartsOf.l0 k s x b i) r ∧ Av (fun k => impl_PartsOf.l0 k s x (s.extract b i) s.size i) r
  | 0, i, b, x, hd, hi, hb, hx => by
    obtain rfl : i = s.size := by omega
    have e1 : wrap64 ((s.size : Int) + 1) = ((s.size + 1 : Nat) : Int) := wrap_one (by omega)
    have fin : ∀ (x : List ByteArray) (b' : Int), Av (fun k => spec_PartsOf.l0 k s x b' ((s.size + 1 : Nat) : Int)) (endw x) := by
      intro x b'
      refine Av.succ ?_
      simp only [spec_PartsOf.l0]
      refine Av.ifn (by omega) ?_
      unfold endw
      by_cases c : 12 < x.length
      · rw [if_pos c]; exact Av.ifp (by omega) Av.ret
      · rw [if_neg c]; exact Av.ifn (by omega) Av.ret
    have hw : ∀ x : List ByteArray, (endw x).1.length ≤ 12 := by
      intro x; unfold endw; split
      · decide
      · simp only; omega
    have hS : ∀ r, Av (fun k => spec_PartsOf.j2 k s x b s.size false) r → Av (fun k => spec_PartsOf.l0 k s x b s.size) r := by
      intro r h
      refine Av.succ ?_
      simp only [spec_PartsOf.l0]
      refine Av.ifp (by omega) (Av.ifn (by omega) (Av.succ ?_))
      simp only [spec_PartsOf.j1]
      exact Av.ifn (by decide) (Av.ifn (by omega) h)
    by_cases c : b = s.size
    · refine ⟨endw x, hw x, hS _ (Av.succ ?_), Av.succ ?_⟩
      · simp only [spec_PartsOf.j2, e1]
        exact Av.ifn (by decide) (Av.ifn (by omega) (fin _ _))
      · simp only [impl_PartsOf.l0]
        refine Av.ifn (by omega) (Av.ifp ((ext_nil s hb hi).2 c) ?_)
        unfold endw
        by_cases c : 12 < x.length
        · rw [if_pos c]; exact Av.ifp (by omega) Av.ret
        · rw [if_neg c]; exact Av.ifn (by omega) Av.ret
    · refine ⟨endw (x ++ [s.extract b s.size]), hw _, hS _ (Av.succ ?_), Av.succ ?_⟩
      · simp only [spec_PartsOf.j2, e1, Int.toNat_natCast]
        exact Av.ifn (by decide) (Av.ifp (by omega) (Av.ifp (by omega) (Av.ifp (by omega) (Av.ifp (by omega) (Av.ifp (by omega) (fin _ _))))))
      · simp only [impl_PartsOf.l0]
        refine Av.ifn (by omega) (Av.ifn (fun h => c ((ext_nil s hb hi).1 h)) (Av.ifp (by omega) (Av.bindc rfl ?_)))
        unfold endw
        by_cases c : 12 < (x ++ [s.extract b s.size]).length
        · rw [if_pos c]; exact Av.ifp (by omega) Av.ret
        · rw [if_neg c]; exact Av.ifn (by omega) Av.ret
  | d + 1, i, b, x, hd, hi, hb, hx => by
    have hil : i < s.size := by omega
    have e1 : wrap64 ((i : Int) + 1) = ((i + 1 : Nat) : Int) := wrap_one (by omega)
    obtain ⟨p0, p1⟩ := bt_pos s i
    have hwi := within_f s i
    have hS : ∀ (c : Bool) r, decide (32 ≤ bt s i ∧ bt s i ≤ 126) = !c → Av (fun k => spec_PartsOf.j1 k s x b i c) r → Av (fun k => spec_PartsOf.l0 k s x b i) r := by
      intro c r hc h
      refine Av.succ ?_
      simp only [spec_PartsOf.l0]
      refine Av.ifp (by omega) (Av.ifp (by omega) (Av.ifp (by omega) ?_))
      by_cases c1 : bt s i < 32
      · have : c = true := by
          cases c with
          | true => rfl
          | false => rw [Bool.not_false, decide_eq_true_iff] at hc; omega
        rw [this] at h
        exact Av.ifp c1 h
      · have : decide (bt s i > 126) = c := by
          cases c with
          | true => rw [Bool.not_true, decide_eq_false_iff_not] at hc; rw [decide_eq_true_iff]; omega
          | false => rw [Bool.not_false, decide_eq_true_iff] at hc; rw [decide_eq_false_iff_not]; omega
        rw [← this] at h
        exact Av.ifn c1 h
    cases hc : decide (32 ≤ bt s i ∧ bt s i ≤ 126) with
    | false =>
      rw [hc] at hwi
      refine ⟨([], false), by decide, hS true _ hc (Av.succ ?_), Av.succ ?_⟩
      · simp only [spec_PartsOf.j1]
        exact Av.ifp (by decide) Av.ret
      · simp only [impl_PartsOf.l0]
        exact Av.ifp (by omega) (Av.ifp (by omega) (Av.ifp (by omega) (Av.bindc hwi (Av.ifn (by decide) Av.ret))))
    | true =>
      rw [hc] at hwi
      have hI : ∀ r (g : Nat → Option (List ByteArray × Bool)), Av g r → ∀ h : Nat → Option (List ByteArray × Bool), True := fun _ _ _ _ => trivial
      have hJ : ∀ r, Av (fun k => spec_PartsOf.j2 k s x b i (bt s i != 32)) r → Av (fun k => spec_PartsOf.l0 k s x b i) r := by
        intro r h
        refine hS false r hc (Av.succ ?_)
        simp only [spec_PartsOf.j1]
        exact Av.ifn (by decide) (Av.ifp (by omega) (Av.ifp (by omega) h))
      by_cases c32 : bt s i = 32
      · have hne : (bt s i != 32) = false := by rw [c32]; rfl
        rw [hne] at hJ
        have nil : ∀ j : Nat, j ≤ s.size → s.extract j j = (⟨#[]⟩ : ByteArray) := fun j _ => ByteArray.extract_same
        by_cases cb : b = i
        · subst cb
          obtain ⟨r, r1, r2, r3⟩ := parts_loop s hs d (b + 1) (b + 1) x (by omega) (by omega) (by omega) (by omega)
          rw [nil (b + 1) (by omega)] at r3
          refine ⟨r, r1, hJ r (Av.succ ?_), Av.succ ?_⟩
          · simp only [spec_PartsOf.j2, e1]
            exact Av.ifn (by decide) (Av.ifn (by omega) r2)
          · simp only [impl_PartsOf.l0, e1]
            refine Av.ifp (by omega) (Av.ifp (by omega) (Av.ifp (by omega) (Av.bindc hwi (Av.ifp rfl (Av.ifp c32 (Av.ifp ((ext_nil s hb hi).2 rfl) ?_))))))
            rw [nil b (by omega)]
            exact r3
        · obtain ⟨r, r1, r2, r3⟩ := parts_loop s hs d (i + 1) (i + 1) (x ++ [s.extract b i]) (by omega) (by omega) (by omega) (by rw [List.length_append]; simp only [List.length_cons, List.length_nil]; omega)
          rw [nil (i + 1) (by omega)] at r3
          refine ⟨r, r1, hJ r (Av.succ ?_), Av.succ ?_⟩
          · simp only [spec_PartsOf.j2, e1, Int.toNat_natCast]
            exact Av.ifn (by decide) (Av.ifp (by omega) (Av.ifp (by omega) (Av.ifp (by omega) (Av.ifp (by omega) (Av.ifp (by omega) r2)))))
          · simp only [impl_PartsOf.l0, e1]
            exact Av.ifp (by omega) (Av.ifp (by omega) (Av.ifp (by omega) (Av.bindc hwi (Av.ifp rfl (Av.ifp c32 (Av.ifn (fun h => cb ((ext_nil s hb hi).1 h)) (Av.ifp (by omega) r3)))))))
      · have hne : (bt s i != 32) = true := by rw [bne_iff_ne]; exact c32
        rw [hne] at hJ
        obtain ⟨r, r1, r2, r3⟩ := parts_loop s hs d (i + 1) b x (by omega) (by omega) (by omega) (by omega)
        have ea : s.extract b i ++ s.extract i (i + 1) = s.extract b (i + 1) := by
          rw [ByteArray.extract_append_extract, Nat.min_eq_left hb, Nat.max_eq_right (by omega)]
        refine ⟨r, r1, hJ r (Av.succ ?_), Av.succ ?_⟩
        · simp only [spec_PartsOf.j2, e1]
          exact Av.ifp trivial r2
        · simp only [impl_PartsOf.l0, e1, Int.toNat_natCast]
          rw [ea]
          refine Av.ifp (by omega) (Av.ifp (by omega) (Av.ifp (by omega) (Av.bindc hwi (Av.ifp rfl (Av.ifn c32 (Av.ifp (by omega) (Av.ifp (by omega) (Av.ifp ?_ r3))))))))
          rw [ByteArray.size_extract, ByteArray.size_extract]; omega
theorem partsof (s : ByteArray) : ∃ r : List ByteArray × Bool, r.1.length ≤ 12 ∧ Av (fun k => spec_PartsOf.f k s) r ∧ Av (fun k => impl_PartsOf.f k s) r := by
  unfold spec_PartsOf.f impl_PartsOf.f
  by_cases c : (s.size : Int) > 600
  · exact ⟨([], false), by decide, Av.bindc rfl (Av.ifp c Av.ret), Av.ifp c Av.ret⟩
  · obtain ⟨r, r1, r2, r3⟩ := parts_loop s (by omega) s.size 0 0 [] rfl (by omega) (by omega) (by simp)
    rw [ByteArray.extract_same] at r3
    exact ⟨r, r1, Av.bindc rfl (Av.ifn c r2), Av.ifn c r3⟩
end Go.Proofs.Ytaaimkgpeilbbaa.C
