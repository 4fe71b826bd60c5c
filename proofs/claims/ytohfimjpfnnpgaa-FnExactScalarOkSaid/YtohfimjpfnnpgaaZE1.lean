-- Made for this seat by a program of this session (wip/fork, wip/slim.py). Lean checks it.
import Derived.Test.YtohfimjpfnnpgaaFx0
import Derived.Test.YtohfimjpfnnpgaaZE0
namespace Go.Proofs.Ytohfimjpfnnpgaa.F
open Go.RowKit Go.Proofs.YtohfimjpfnnpgaaW.PrintWords Go.Proofs.YtohfimjpfnnpgaaW.PrintLast Go.Proofs.YtohfimjpfnnpgaaW.PrintMore
attribute [local go_sem] max2_int min2_int max_two min_two max_three min_three max_four min_four   -- for this text's walks alone
set_option linter.unusedVariables false
set_option linter.unusedSimpArgs false

/-! ### impl_RestOk: function 66 -/
def impl_RestOk.f (k : Nat) (a0 : ByteArray) (a1 : ByteArray) : Option (Bool) := (impl_areGreat.f k (([a0, a1] : List ByteArray))).bind fun t254 => (if t254 = true then ((impl_natOf.f k a0).bind fun t255 => ((impl_natOf.f k a1).bind fun t258 => ((impl_nat_cmp.f k t255 t258).bind fun t261 => (some (decide (t261 < 0)))))) else (some false))
set_option maxHeartbeats 8000000 in
set_option maxRecDepth 100000 in
theorem impl_RestOk.calls (k : Nat) (a0 : ByteArray) (a1 : ByteArray) (r : Bool) (w : World) (h : impl_RestOk.f k a0 a1 = some r) :
    Calls Try.prog 66 #[.string a0, .string a1] w fun e w' => e = .returned (.bool r) ∧ Below w.heap.size w w' := by
  have HB := Aside0.mk (Below.refl w.heap.size w)
  have H : ((impl_areGreat.f k (([a0, a1] : List ByteArray))).bind fun t254 => (if t254 = true then ((impl_natOf.f k a0).bind fun t255 => ((impl_natOf.f k a1).bind fun t258 => ((impl_nat_cmp.f k t255 t258).bind fun t261 => (some (decide (t261 < 0)))))) else (some false))) = some r := h
  clear h
  obtain ⟨y251, hy251⟩ : ∃ y_ : List ByteArray, y_ = (([a0, a1] : List ByteArray)) := ⟨_, rfl⟩
  replace H : ((impl_areGreat.f k y251).bind fun t254 => (if t254 = true then ((impl_natOf.f k a0).bind fun t255 => ((impl_natOf.f k a1).bind fun t258 => ((impl_nat_cmp.f k t255 t258).bind fun t261 => (some (decide (t261 < 0)))))) else (some false))) = some r := by first | (rw [hy251]; with_reducible exact H) | (have H2_ := (Option.bind_some _ _).symm.trans H; rw [hy251]; with_reducible exact H2_) | (have H2_ := (Option.bind_some _ _).symm.trans H; with_reducible exact H2_) | with_reducible exact H | (rw [hy251]; exact H) | exact H
  have Ny251 := Aside0.mk hy251
  clear hy251
  replace H := Option.bind_eq_some_iff.mp H
  obtain ⟨t254, A30, H⟩ := H
  have A3 := Aside0.mk A30
  clear A30
  by_cases c4 : t254 = true
  · subst c4
    have H1 : ((impl_natOf.f k a0).bind fun t255 => ((impl_natOf.f k a1).bind fun t258 => ((impl_nat_cmp.f k t255 t258).bind fun t261 => (some (decide (t261 < 0)))))) = some r := by rw [if_pos rfl] at H; exact H
    clear H
    have H := H1
    clear H1
    replace H := Option.bind_eq_some_iff.mp H
    obtain ⟨t255, A50, H⟩ := H
    have A5 := Aside0.mk A50
    clear A50
    replace H := Option.bind_eq_some_iff.mp H
    obtain ⟨t258, A60, H⟩ := H
    have A6 := Aside0.mk A60
    clear A60
    replace H := Option.bind_eq_some_iff.mp H
    obtain ⟨t261, A70, H⟩ := H
    have A7 := Aside0.mk A70
    clear A70
    obtain rfl := Option.some.inj H
    go_enter Try.func66, Try.ntmps66
    go_wp2_with (first | ((with_reducible refine gate_dst (N := 7) rfl ?_); refine Kd.R_lit Kd.string _ 9 ?hg (N := 7) ?hd (xs := ([a0, a1] : List ByteArray)) (inner := [.string a0, .string a1]) (ok := fun _ => True) (okp := fun _ => True) ?hr ?hp (fun _ hk => hk) trivial (Below.refl _ _) (Nat.le_refl _) (by simp) ?_; (case hd => rfl); (case hg => rfl); (case hr => first | (go_simp; done) | (go_simp; rfl)); (case hp => exact (Reps.one (show Kd.M Kd.string _ _ _ a0 [.string a0] from rfl) (Reps.one (show Kd.M Kd.string _ _ _ a1 [.string a1] from rfl) (Reps.none _ _)))); intro v252 w8 ho9 hb hg_ hnew_; clear hg_ hnew_; (first | rw [← Ny251.out] at ho9 | (simp only [Int.reduceToNat] at ho9; rw [← Ny251.out] at ho9)); have HO253 := Aside0.mk (Kd.R_lower ho9 (below_size (pB_ HB.out))); replace HB := Aside0.mk (below_step (pB_ HB.out) hb); clear hb ho9; obtain ⟨Ao10, co10, eo10⟩ := Kd.R_slice HO253.out; subst eo10) | ((with_reducible refine gate_callee (f := 85) rfl ?_); refine gL_ 8 Try.func85 rfl #[.slice Ao10 y251.length co10] ?_; (with_reducible refine (impl_areGreat.calls k _ _ y251 true _ ?side1 ?side2 A3.out).mono ?_); (case side1 => exact pC_ (Kd.R_reads' HO253.out).2.2); (case side2 => exact (Kd.R_reads' HO253.out).2.1); rintro e w' ⟨rfl, ⟨nd, rfl⟩⟩; refine ⟨_, rfl, ?_⟩) | (go_at_call 52; (with_reducible refine (impl_natOf.calls k a0 t255 _ A5.out).mono ?_); rintro e w11 ⟨v256, rfl, ho0, hb⟩; have HO257 := Aside0.mk (Kd.V_lower (Kd.V_mono (ok' := fun k_ => some k_ ≠ (.slice Ao10 y251.length co10 : Value).ownBlock) ho0 (fun k_ hk_ => (Kd.fresh' (Kd.R_lt (pR_ HO253.out)) k_ hk_))) (below_size (pB_ HB.out))); replace HO253 := Aside0.mk (Kd.R_below (pR_ HO253.out) hb); replace HB := Aside0.mk (below_step (pB_ HB.out) hb); clear hb ho0) | (go_at_call 52; (with_reducible refine (impl_natOf.calls k a1 t258 _ A6.out).mono ?_); rintro e w12 ⟨v259, rfl, ho0, hb⟩; replace HO257 := Aside0.mk (Kd.V_below (pV_ HO257.out) hb); have HO260 := Aside0.mk (Kd.V_lower (Kd.V_mono (ok' := fun k_ => some k_ ≠ (.slice Ao10 y251.length co10 : Value).ownBlock) ho0 (fun k_ hk_ => (Kd.fresh' (Kd.R_lt (pR_ HO253.out)) k_ hk_))) (below_size (pB_ HB.out))); replace HO253 := Aside0.mk (Kd.R_below (pR_ HO253.out) hb); replace HB := Aside0.mk (below_step (pB_ HB.out) hb); clear hb ho0; obtain ⟨Ao13, co13, eo13⟩ := Kd.V_slice HO257.out; subst eo13; obtain ⟨Ao14, co14, eo14⟩ := Kd.V_slice HO260.out; subst eo14) | (go_at_call 87; (with_reducible refine (impl_nat_cmp.calls k _ _ t255 _ _ t258 t261 _ ?side1 ?side2 ?side3 ?side4 A7.out).mono ?_); (case side1 => exact pC_ (Kd.V_reads' HO257.out).2.2); (case side2 => exact (Kd.V_reads' HO257.out).2.1); (case side3 => exact pC_ (Kd.V_reads' HO260.out).2.2); (case side4 => exact (Kd.V_reads' HO260.out).2.1); rintro e w' ⟨rfl, ⟨nd, rfl⟩⟩))
    go_ret
    exact ⟨by first | rfl | (simp [errW_none, errW_some] <;> rfl) | (simp [*, errW_none, errW_some] <;> rfl), pB_ HB.out⟩
  · replace c4 := Bool.eq_false_iff.mpr c4
    subst c4
    have H1 : (some false) = some r := by rw [if_neg (show ¬ (false = true) by decide)] at H; exact H
    clear H
    have H := H1
    clear H1
    obtain rfl := Option.some.inj H
    go_enter Try.func66, Try.ntmps66
    go_wp2_with (first | ((with_reducible refine gate_dst (N := 7) rfl ?_); refine Kd.R_lit Kd.string _ 9 ?hg (N := 7) ?hd (xs := ([a0, a1] : List ByteArray)) (inner := [.string a0, .string a1]) (ok := fun _ => True) (okp := fun _ => True) ?hr ?hp (fun _ hk => hk) trivial (Below.refl _ _) (Nat.le_refl _) (by simp) ?_; (case hd => rfl); (case hg => rfl); (case hr => first | (go_simp; done) | (go_simp; rfl)); (case hp => exact (Reps.one (show Kd.M Kd.string _ _ _ a0 [.string a0] from rfl) (Reps.one (show Kd.M Kd.string _ _ _ a1 [.string a1] from rfl) (Reps.none _ _)))); intro v252 w15 ho16 hb hg_ hnew_; clear hg_ hnew_; (first | rw [← Ny251.out] at ho16 | (simp only [Int.reduceToNat] at ho16; rw [← Ny251.out] at ho16)); have HO253 := Aside0.mk (Kd.R_lower ho16 (below_size (pB_ HB.out))); replace HB := Aside0.mk (below_step (pB_ HB.out) hb); clear hb ho16; obtain ⟨Ao17, co17, eo17⟩ := Kd.R_slice HO253.out; subst eo17) | ((with_reducible refine gate_callee (f := 85) rfl ?_); refine gL_ 8 Try.func85 rfl #[.slice Ao17 y251.length co17] ?_; (with_reducible refine (impl_areGreat.calls k _ _ y251 false _ ?side1 ?side2 A3.out).mono ?_); (case side1 => exact pC_ (Kd.R_reads' HO253.out).2.2); (case side2 => exact (Kd.R_reads' HO253.out).2.1); rintro e w' ⟨rfl, ⟨nd, rfl⟩⟩; refine ⟨_, rfl, ?_⟩))
    go_ret
    exact ⟨by first | rfl | (simp [errW_none, errW_some] <;> rfl) | (simp [*, errW_none, errW_some] <;> rfl), pB_ HB.out⟩

/-! ### impl_small: function 80 -/
def impl_small.f (k : Nat) (a0 : Int) : Option (List Int) := (impl_nat_trim.f k (([IntKind.u64.wrap (a0)] : List Int))).bind fun t265 => (some t265)
set_option maxHeartbeats 8000000 in
set_option maxRecDepth 100000 in
theorem impl_small.calls (k : Nat) (a0 : Int) (r : List Int) (w : World) (h : impl_small.f k a0 = some r) :
    Calls Try.prog 80 #[.int .i64 a0] w fun e w' => ∃ v0_ : Value, e = .returned (v0_) ∧ Kd.V (Kd.int .u64) 89 w' w.heap.size (fun k_ => (w.heap.size ≤ k_)) v0_ r ∧ Below w.heap.size w w' := by
  have HB := Aside0.mk (Below.refl w.heap.size w)
  have H : ((impl_nat_trim.f k (([IntKind.u64.wrap (a0)] : List Int))).bind fun t265 => (some t265)) = some r := h
  clear h
  obtain ⟨y262, hy262⟩ : ∃ y_ : List Int, y_ = (([IntKind.u64.wrap (a0)] : List Int)) := ⟨_, rfl⟩
  replace H : ((impl_nat_trim.f k y262).bind fun t265 => (some t265)) = some r := by first | (rw [hy262]; with_reducible exact H) | (have H2_ := (Option.bind_some _ _).symm.trans H; rw [hy262]; with_reducible exact H2_) | (have H2_ := (Option.bind_some _ _).symm.trans H; with_reducible exact H2_) | with_reducible exact H | (rw [hy262]; exact H) | exact H
  have Ny262 := Aside0.mk hy262
  clear hy262
  replace H := Option.bind_eq_some_iff.mp H
  obtain ⟨t265, A20, H⟩ := H
  have A2 := Aside0.mk A20
  clear A20
  obtain rfl := Option.some.inj H
  go_enter Try.func80, Try.ntmps80
  go_wp2_with (first | ((with_reducible refine gate_dst (N := 5) rfl ?_); refine Kd.R_lit (Kd.int .u64) _ 89 ?hg (N := 5) ?hd (xs := ([IntKind.u64.wrap (a0)] : List Int)) (inner := [.int .u64 (IntKind.u64.wrap (a0))]) (ok := fun _ => True) (okp := fun _ => True) ?hr ?hp (fun _ hk => hk) trivial (Below.refl _ _) (Nat.le_refl _) (by simp) ?_; (case hd => rfl); (case hg => rfl); (case hr => first | (go_simp; done) | (go_simp; rfl)); (case hp => exact (Reps.one (show Kd.M (Kd.int .u64) _ _ _ (IntKind.u64.wrap (a0)) [.int .u64 (IntKind.u64.wrap (a0))] from rfl) (Reps.none _ _))); intro v263 w3 ho4 hb hg_ hnew_; clear hg_ hnew_; (first | rw [← Ny262.out] at ho4 | (simp only [Int.reduceToNat] at ho4; rw [← Ny262.out] at ho4)); have HO264 := Aside0.mk (Kd.R_lower (Kd.R_newM (M := fun k_ => (w.heap.size ≤ k_)) ho4 (below_size (pB_ HB.out)) (fun k_ h_ => h_)) (below_size (pB_ HB.out))); replace HB := Aside0.mk (below_step (pB_ HB.out) hb); clear hb ho4; obtain ⟨Ao5, co5, eo5⟩ := Kd.R_slice HO264.out; subst eo5) | ((with_reducible refine gate_callee (f := 89) rfl ?_); refine gL_ 6 Try.func89 rfl #[.slice Ao5 y262.length co5] ?_; (with_reducible refine (impl_nat_trim.calls k (fun k_ => some k_ = (.slice Ao5 y262.length co5 : Value).ownBlock) _ _ y262 t265 _ ?side1 A2.out).mono ?_); (case side1 => exact Kd.R_V (Kd.R_tight rfl (HO264.out))); rintro e w6 ⟨v266, rfl, ho0, hb⟩; refine ⟨_, rfl, ?_⟩; have HO267 := Aside0.mk (Kd.V_lower (Kd.V_mono (ok' := fun k_ => (w.heap.size ≤ k_)) ho0 (fun k_ hk_ => Or.elim hk_ (fun hs_ => ((HO264.out).1 k_ hs_.symm).1) (fun hn_ => (Nat.le_trans (below_size (pB_ HB.out)) hn_)))) (below_size (pB_ HB.out))); replace HO264 := Aside0.mk (Kd.R_below (pR_ HO264.out) hb); replace HB := Aside0.mk (below_step (pB_ HB.out) hb); clear hb ho0))
  go_ret
  exact ⟨_, by first | rfl | (simp [errW_none, errW_some] <;> rfl) | (simp [*, errW_none, errW_some] <;> rfl), by (with_reducible repeat (first | apply Kd.V_alloc | apply Kd.V_drewN | apply Kd.V_drew)); exact HO267.out, pB_ HB.out⟩

/-! ### bits_Add64: function 110 (told by hand) -/
def bits_Add64.f (a0 : Int) (a1 : Int) (a2 : Int) : Option (Int × Int) := if 0 ≤ a0 ∧ 0 ≤ a1 ∧ 0 ≤ a2 ∧ a2 ≤ 1 then (some ((a0 + a1 + a2) % 18446744073709551616, (a0 + a1 + a2) / 18446744073709551616)) else (none)
theorem bits_Add64.run (a0 : Int) (a1 : Int) (a2 : Int) (r1 : Int) (r2 : Int) (h : bits_Add64.f a0 a1 a2 = some (r1, r2)) (w : World) :
    (callFunc 110 #[.int .u64 a0, .int .u64 a1, .int .u64 a2]).run Try.prog w = .ok (.value (.tuple #[.int .u64 r1, .int .u64 r2])) w := by
  unfold bits_Add64.f at h
  by_cases c : 0 ≤ a0 ∧ 0 ≤ a1 ∧ 0 ≤ a2 ∧ a2 ≤ 1
  · rw [if_pos c] at h
    obtain ⟨c0, c1, c2, c3⟩ := c
    obtain ⟨x, rfl⟩ := Int.eq_ofNat_of_zero_le c0
    obtain ⟨y, rfl⟩ := Int.eq_ofNat_of_zero_le c1
    obtain ⟨z, rfl⟩ := Int.eq_ofNat_of_zero_le c2
    simp only [Option.some.injEq, Prod.mk.injEq] at h
    obtain ⟨rfl, rfl⟩ := h
    rw [run_callFunc_extern Try.func110 (by kernel_rfl) (by kernel_rfl) (by kernel_rfl) (e := add64Entry) (by kernel_rfl), run_add64w x y z (by omega)]
    rfl
  · rw [if_neg c] at h
    exact absurd h (by simp)

/-! ### impl_nat_plus: function 96 -/
mutual
def impl_nat_plus.j0 : Nat → List Int → List Int → Option (List Int)
  | 0, _, _ => none
  | k + 1, x0, x1 => if 0 ≤ (wrap64 ((x0.length : Int) + 1)) then (if (wrap64 ((x0.length : Int) + 1) : Int).toNat ≤ 35184372088832 then (impl_nat_plus.l0 k x0 x1 (List.replicate (wrap64 ((x0.length : Int) + 1) : Int).toNat 0) 0 (x0.length : Int) 0) else (none)) else (none)
def impl_nat_plus.l0 : Nat → List Int → List Int → List Int → Int → Int → Int → Option (List Int)
  | 0, _, _, _, _, _, _ => none
  | k + 1, x0, x1, x5, x6, x21, x22 => if x22 < x21 then (if x22 < (x1.length : Int) then (if 0 ≤ x22 then (if x22 < (x0.length : Int) then ((bits_Add64.f (rd x0 x22) (rd x1 x22) x6).bind fun bt298 => (if x22 < (x5.length : Int) then (impl_nat_plus.l0 k x0 x1 (x5.set (x22 : Int).toNat bt298.1) bt298.2 x21 (wrap64 (x22 + 1))) else (none))) else (none)) else (none)) else (if 0 ≤ x22 then (if x22 < (x0.length : Int) then ((bits_Add64.f (rd x0 x22) 0 x6).bind fun bt302 => (if x22 < (x5.length : Int) then (impl_nat_plus.l0 k x0 x1 (x5.set (x22 : Int).toNat bt302.1) bt302.2 x21 (wrap64 (x22 + 1))) else (none))) else (none)) else (none))) else (if 0 ≤ (x0.length : Int) then (if (x0.length : Int) < (x5.length : Int) then ((impl_nat_trim.f k (x5.set ((x0.length : Int) : Int).toNat x6)).bind fun t306 => (some t306)) else (none)) else (none))
end
def impl_nat_plus.f (k : Nat) (l0 : List Int) (l1 : List Int) : Option (List Int) := if (l0.length : Int) < (l1.length : Int) then (impl_nat_plus.j0 k l1 l0) else (impl_nat_plus.j0 k l0 l1)
set_option maxHeartbeats 8000000 in
set_option maxRecDepth 100000 in
theorem impl_nat_plus.calls (k : Nat) (P0_ : Nat → Prop) (A0 : Option Addr) (c0 : Nat) (l0 : List Int) (P1_ : Nat → Prop) (A1 : Option Addr) (c1 : Nat) (l1 : List Int) (r : List Int) (w : World) (hs0 : Kd.V (Kd.int .u64) 89 w w.heap.size (fun k_ => P0_ k_) (.slice A0 l0.length c0) l0) (hs1 : Kd.V (Kd.int .u64) 89 w w.heap.size (fun k_ => P1_ k_) (.slice A1 l1.length c1) l1) (h : impl_nat_plus.f k l0 l1 = some r) :
    Calls Try.prog 96 #[.slice A0 l0.length c0, .slice A1 l1.length c1] w fun e w' => ∃ v0_ : Value, e = .returned (v0_) ∧ Kd.V (Kd.int .u64) 89 w' w.heap.size (fun k_ => ((P0_ k_ ∨ P1_ k_) ∨ w.heap.size ≤ k_)) v0_ r ∧ Below w.heap.size w w' := by
  have HO0 := Aside0.mk (show Kd.V (Kd.int .u64) 89 w w.heap.size (fun k_ => ((P0_ k_ ∨ P1_ k_) ∨ w.heap.size ≤ k_)) (.slice A0 l0.length c0) l0 from Kd.V_mono hs0 (fun k_ hk => .inl (.inl hk)))
  have HO1 := Aside0.mk (show Kd.V (Kd.int .u64) 89 w w.heap.size (fun k_ => ((P0_ k_ ∨ P1_ k_) ∨ w.heap.size ≤ k_)) (.slice A1 l1.length c1) l1 from Kd.V_mono hs1 (fun k_ hk => .inl (.inr hk)))
  have HB := Aside0.mk (Below.refl w.heap.size w)
  have H : (if (l0.length : Int) < (l1.length : Int) then (impl_nat_plus.j0 k l1 l0) else (impl_nat_plus.j0 k l0 l1)) = some r := h
  clear h
  have HC3 := Aside0.mk H
  clear H
  go_enter Try.func96, Try.ntmps96
  go_upto_if 13 with (fail)
  go_cut [0, 1] (fun v0 v1 wc => ∃ (kq : Nat) (x0_2 : List Int) (x1_2 : List Int), Aside0 (impl_nat_plus.j0 kq x0_2 x1_2 = some r) ∧ Aside0 (kq ≤ k) ∧ Aside0 (Kd.V (Kd.int .u64) 89 wc w.heap.size (fun k_ => ((P0_ k_ ∨ P1_ k_) ∨ w.heap.size ≤ k_)) v0 x0_2) ∧ Aside0 (Kd.V (Kd.int .u64) 89 wc w.heap.size (fun k_ => ((P0_ k_ ∨ P1_ k_) ∨ w.heap.size ≤ k_)) v1 x1_2) ∧ Aside0 (Below w.heap.size w wc))
  case first =>
    have H := HC3.out
    clear HC3
    by_cases c4 : (l0.length : Int) < (l1.length : Int)
    · rw [if_pos c4] at H
      have c4b0 : decide ((l0.length : Int) < (l1.length : Int)) = true := decide_eq_true c4
      have c4b1 : decide (l0.length < l1.length) = true := decide_eq_true (Int.ofNat_lt.mp c4)
      clear c4
      (first | rw [c4b0] | (simp only [i64_w, i32_w]; rw [c4b0]) | rw [c4b1] | skip)
      have H' := Aside0.mk H
      clear H
      go_wp2
      go_meet
      case rel => exact ⟨_, (l1), (l0), H', ⟨by first | omega | exact Nat.le_refl _⟩, ⟨by (with_reducible repeat (first | apply Kd.V_alloc | apply Kd.V_drewN | apply Kd.V_drew)); exact HO1.out⟩, ⟨by (with_reducible repeat (first | apply Kd.V_alloc | apply Kd.V_drewN | apply Kd.V_drew)); exact HO0.out⟩, ⟨pB_ HB.out⟩⟩
    rw [if_neg c4] at H
    have c4b0 : decide ((l0.length : Int) < (l1.length : Int)) = false := decide_eq_false c4
    have c4b1 : decide (l0.length < l1.length) = false := decide_eq_false (fun h => c4 (Int.ofNat_lt.mpr h))
    clear c4
    (first | rw [c4b0] | (simp only [i64_w, i32_w]; rw [c4b0]) | rw [c4b1] | skip)
    have H' := Aside0.mk H
    clear H
    go_wp2
    go_meet
    case rel => exact ⟨_, (l0), (l1), H', ⟨by first | omega | exact Nat.le_refl _⟩, ⟨by (with_reducible repeat (first | apply Kd.V_alloc | apply Kd.V_drewN | apply Kd.V_drew)); exact HO0.out⟩, ⟨by (with_reducible repeat (first | apply Kd.V_alloc | apply Kd.V_drewN | apply Kd.V_drew)); exact HO1.out⟩, ⟨pB_ HB.out⟩⟩
  clear HC3
  try clear c1
  try clear p2
  try clear c4
  try clear c4b0
  try clear c4b1
  obtain ⟨kq, x0_2, x1_2, HA, HJ2, HO_0, HO_1, HB⟩ := hcut
  rcases kq with _ | kj2
  · exact absurd HA.out (by simp [impl_nat_plus.j0])
  have H := HA.out
  clear HA
  simp only [impl_nat_plus.j0] at H
  obtain ⟨ji5, hji5⟩ : ∃ j_ : Int, (wrap64 ((x0_2.length : Int) + 1)) = j_ := ⟨_, rfl⟩
  first | rw [hji5] at H | simp only [hji5] at H | skip
  have hji5w : (IntKind.i64.wrap ((x0_2.length : Int) + 1)) = ji5 := (i64_w _).trans hji5
  by_cases c6 : 0 ≤ (ji5)
  rotate_left
  · rw [if_neg c6] at H
    exact absurd H (by simp)

  rw [if_pos c6] at H
  have c6b0 := eq_true c6
  have c6b1 : decide (0 ≤ (ji5)) = true := decide_eq_true c6
  clear c6
  by_cases c7 : (ji5 : Int).toNat ≤ 35184372088832
  rotate_left
  · rw [if_neg c7] at H; exact absurd H (by simp)
  rw [if_pos c7] at H
  have c7b0 := eq_true c7
  have c7b1 : decide ((ji5 : Int).toNat ≤ 35184372088832) = true := decide_eq_true c7
  clear c7
  obtain ⟨y293, hy293⟩ : ∃ y_ : List Int, y_ = (List.replicate (ji5 : Int).toNat 0) := ⟨_, rfl⟩
  first | rw [← hy293] at H | skip
  have Ny293 := Aside0.mk hy293
  clear hy293
  have H' := Aside0.mk H
  clear H
  obtain ⟨Ao8, co8, eo8⟩ := Kd.V_slice HO_0.out
  subst eo8
  go_wp2_with (first | ((with_reducible refine gate_dst (N := 19) rfl ?_); refine Kd.R_make (Kd.int .u64) _ 89 rfl (N := 19) rfl 56 _ _ rfl ji5 rfl rfl Try.underlying56 (.int .u64 0) 8 info89 rfl (by decide) (by omega) 0 (ok := fun _ => True) (okp := fun _ => True) rfl (fun _ hk => hk) trivial (od_) (Nat.le_trans (Nat.mul_le_mul_right _ (od_ : ji5.toNat ≤ 35184372088832)) (by omega)) (Below.refl _ _) (Nat.le_refl _) ?_; intro v294 w9 ho10 hb hg_ hnew_; clear hg_ hnew_; (first | rw [← Ny293.out] at ho10 | (simp only [Int.reduceToNat] at ho10; rw [← Ny293.out] at ho10)); replace HO_0 := Aside0.mk (Kd.V_elder' (pV_ HO_0.out) (Kd.R_base ho10) hb); replace HO_1 := Aside0.mk (Kd.V_elder' (pV_ HO_1.out) (Kd.R_base ho10) hb); have HO295 := Aside0.mk (Kd.R_lower (Kd.R_newM (M := fun k_ => (w.heap.size ≤ k_)) ho10 (below_size (pB_ HB.out)) (fun k_ h_ => h_)) (below_size (pB_ HB.out))); replace HB := Aside0.mk (below_step (pB_ HB.out) hb); clear hb ho10))
  go_loopg [6, 22] kj2 (fun kq v6 v22 w' => ∃ (x5_2 : List Int) (x6_2 : Int) (x22_2 : Int), v6 = .int .u64 x6_2 ∧ v22 = .int .i64 x22_2 ∧ Aside0 (impl_nat_plus.l0 kq x0_2 x1_2 x5_2 x6_2 (x0_2.length : Int) x22_2 = some r) ∧ Aside0 (kq ≤ kj2) ∧ Aside0 (Kd.V (Kd.int .u64) 89 w' w.heap.size (fun k_ => ((P0_ k_ ∨ P1_ k_) ∨ w.heap.size ≤ k_) ∧ some k_ ≠ (v294 : Value).ownBlock) (.slice Ao8 x0_2.length co8) x0_2) ∧ Aside0 (Kd.V (Kd.int .u64) 89 w' w.heap.size (fun k_ => ((P0_ k_ ∨ P1_ k_) ∨ w.heap.size ≤ k_) ∧ some k_ ≠ (v294 : Value).ownBlock) u1 x1_2) ∧ Aside0 (Kd.R (Kd.int .u64) 89 w' w.heap.size (fun k_ => (w.heap.size ≤ k_)) v294 x5_2) ∧ Aside0 (Below w.heap.size w w'))
  case atStart => exact ⟨(y293), (0), (0), (by first | rfl | (simp; done) | (simp [*]; done)), (by first | rfl | (simp; done) | (simp [*]; done)), H', ⟨Nat.le_refl _⟩, ⟨by (with_reducible repeat (first | apply Kd.V_alloc | apply Kd.V_drewN | apply Kd.V_drew)); exact HO_0.out⟩, ⟨by (with_reducible repeat (first | apply Kd.V_alloc | apply Kd.V_drewN | apply Kd.V_drew)); exact HO_1.out⟩, ⟨by (with_reducible repeat (first | apply Kd.R_alloc | apply Kd.R_drewN | apply Kd.R_drew)); exact Kd.R_mono HO295.out (fun _ hk => hk.1)⟩, ⟨pB_ HB.out⟩⟩
  clear H'
  try clear c1
  try clear p2
  try clear c4
  try clear c4b0
  try clear c4b1
  try clear c6
  try clear c6b0
  try clear c6b1
  try clear p6
  try clear c7
  try clear c7b0
  try clear c7b1
  try clear c9
  try clear p2
  obtain ⟨x5_2, x6_2, x22_2, rfl, rfl, HA, HK2, HO_0, HO_1, HO_5, HB⟩ := hrel
  rcases gk with _ | k2
  · exact absurd HA.out (by simp [impl_nat_plus.l0])
  have H := HA.out
  clear HA
  simp only [impl_nat_plus.l0] at H
  by_cases c11 : x22_2 < (x0_2.length : Int)
  rotate_left
  · rw [if_neg c11] at H
    have c11b0 : decide (x22_2 < (x0_2.length : Int)) = false := decide_eq_false c11
    clear c11
    by_cases c29 : 0 ≤ (x0_2.length : Int)
    rotate_left
    · rw [if_neg c29] at H; exact absurd H (by simp)
    rw [if_pos c29] at H
    have c29b0 : decide (0 ≤ (x0_2.length : Int)) = true := decide_eq_true c29
    have c29b1 : decide (0 ≤ x0_2.length) = true := decide_eq_true (by omega)
    clear c29
    by_cases c30 : (x0_2.length : Int) < (x5_2.length : Int)
    rotate_left
    · rw [if_neg c30] at H; exact absurd H (by simp)
    rw [if_pos c30] at H
    have c30b0 : decide ((x0_2.length : Int) < (x5_2.length : Int)) = true := decide_eq_true c30
    have c30b1 : decide (x0_2.length < x5_2.length) = true := decide_eq_true (Int.ofNat_lt.mp c30)
    clear c30
    obtain ⟨y305, hy305⟩ : ∃ y_ : List Int, y_ = (x5_2.set ((x0_2.length : Int) : Int).toNat x6_2) := ⟨_, rfl⟩
    first | rw [← hy305] at H | skip
    have Ny305 := Aside0.mk hy305
    clear hy305
    replace H := Option.bind_eq_some_iff.mp H
    obtain ⟨t306, A320, H⟩ := H
    have A32 := Aside0.mk A320
    clear A320
    obtain rfl := Option.some.inj H
    have p31 : 0 ≤ ((x0_2.length : Int) : Int) := od_
    have q31 : ((x0_2.length : Int) : Int) < ((x5_2.length : Int) : Int) := od_
    obtain ⟨go31, co31, eo31, gb31, gl31, cl31, HG31⟩ := Kd.R_form HO_5.out (by omega)
    (first | cases eo31 | (injection eo31 with ea_ en_ ec_; (first | subst ea_ | (injection ea_ with ea_; subst ea_)); subst ec_; clear en_))
    have GB31 := Aside0.mk gb31
    have GG31 := Aside0.mk HG31
    clear gb31 gl31 HG31
    obtain ⟨hx31_0, hf31_0⟩ := Kd.R_celln 0 HO_5.out ((x0_2.length : Int) : Int) p31 q31
    (try simp only [Int.toNat_natCast] at hx31_0)
    (try simp only [Int.toNat_natCast] at hf31_0)
    replace p31 := eq_true p31
    replace q31 := eq_true q31
    have HP33 := Kd.R_putg HO_5.out ((x0_2.length : Int) : Int) x6_2
    go_wp2_with (first | ((with_reducible refine gate_store (t := 89) (p := 51) rfl ?_); refine store_event (t := 89) (p := 51) (v := ?vo_w34) (w1 := (wr.setCell ⟨go31, ((x0_2.length : Int) : Int).toNat, none⟩ (.int .u64 x6_2))) ?hg ?ho ?hn ?hr ?_; (case ho => rfl); (case hg => rfl); (case hn => rfl); (case hr => first | (go_simp; done) | (go_simp; rfl)); intro w34 hw; have hg : wr.grownBy w34 (some go31) := (by rw [hw]; exact HP33.2); have hp_ : Kd.R (Kd.int .u64) 89 w34 w.heap.size (fun k_ => (w.heap.size ≤ k_)) (.slice (some ⟨go31, 0, none⟩) x5_2.length co31) y305 := (by rw [hw, Ny305.out]; exact HP33.1); clear HP33; replace HO_0 := Aside0.mk (Kd.V_afterv (v := (.slice (some ⟨go31, 0, none⟩) x5_2.length co31)) (v1 := (.slice (some ⟨go31, 0, none⟩) x5_2.length co31)) (ok := (fun k_ => ((P0_ k_ ∨ P1_ k_) ∨ w.heap.size ≤ k_))) (pV_ HO_0.out) hg (.inl rfl)); replace HO_1 := Aside0.mk (Kd.V_afterv (v := (.slice (some ⟨go31, 0, none⟩) x5_2.length co31)) (v1 := (.slice (some ⟨go31, 0, none⟩) x5_2.length co31)) (ok := (fun k_ => ((P0_ k_ ∨ P1_ k_) ∨ w.heap.size ≤ k_))) (pV_ HO_1.out) hg (.inl rfl)); replace HO_5 := Aside0.mk (hp_); replace HB := Aside0.mk ((by rw [hw]; exact below_set (HB.out) GB31.out : Below w.heap.size w w34)); clear hg hw hp_) | ((with_reducible refine gate_callee (f := 89) rfl ?_); refine goesL_ (some 53) rfl rfl Try.func89 (by kernel_rfl) rfl #[.slice (some ⟨go31, 0, none⟩) y305.length co31] rfl (by (try simp only [List.map_toArray, List.map_cons, List.map_nil]); first | done | (rw [show y305.length = x5_2.length from (Kd.R_reads' HO_5.out).1.symm] <;> rfl) | rfl | (simp only [List.length_drop, List.length_take]; rfl)) ?_; (with_reducible refine (impl_nat_trim.calls k2 (fun k_ => some k_ = (.slice (some ⟨go31, 0, none⟩) x5_2.length co31 : Value).ownBlock) _ _ y305 t306 _ ?side1 A32.out).mono ?_); (case side1 => rw [show y305.length = x5_2.length from (Kd.R_reads' HO_5.out).1.symm]; exact Kd.R_V (Kd.R_tight rfl (HO_5.out))); rintro e w35 ⟨v307, rfl, ho0, hb⟩; refine ⟨_, rfl, ?_⟩; replace HO_0 := Aside0.mk (Kd.V_below (pV_ HO_0.out) hb); replace HO_1 := Aside0.mk (Kd.V_below (pV_ HO_1.out) hb); have HO308 := Aside0.mk (Kd.V_lower (Kd.V_mono (ok' := fun k_ => ((P0_ k_ ∨ P1_ k_) ∨ w.heap.size ≤ k_)) ho0 (fun k_ hk_ => Or.elim hk_ (fun hs_ => (.inr (((HO_5.out).1 k_ hs_.symm)))) (fun hn_ => (.inr (Nat.le_trans (below_size (pB_ HB.out)) hn_))))) (below_size (pB_ HB.out))); replace HO_5 := Aside0.mk (Kd.R_below (pR_ HO_5.out) hb); replace HB := Aside0.mk (below_step (pB_ HB.out) hb); clear hb ho0))
    go_ret
    exact ⟨_, by first | rfl | (simp [errW_none, errW_some] <;> rfl) | (simp only [← hji5]; first | rfl | (simp [errW_none, errW_some] <;> rfl)) | (simp [*, errW_none, errW_some] <;> rfl), by (with_reducible repeat (first | apply Kd.V_alloc | apply Kd.V_drewN | apply Kd.V_drew)); exact HO308.out, pB_ HB.out⟩
  rw [if_pos c11] at H
  have c11b0 : decide (x22_2 < (x0_2.length : Int)) = true := decide_eq_true c11
  clear c11
  by_cases c12 : x22_2 < (x1_2.length : Int)
  rotate_left
  · rw [if_neg c12] at H
    have c12b0 : decide (x22_2 < (x1_2.length : Int)) = false := decide_eq_false c12
    clear c12
    by_cases c21 : 0 ≤ x22_2
    rotate_left
    · rw [if_neg c21] at H; exact absurd H (by simp)
    rw [if_pos c21] at H
    have c21b0 : decide (0 ≤ x22_2) = true := decide_eq_true c21
    clear c21
    by_cases c22 : x22_2 < (x0_2.length : Int)
    rotate_left
    · rw [if_neg c22] at H; exact absurd H (by simp)
    rw [if_pos c22] at H
    have c22b0 : decide (x22_2 < (x0_2.length : Int)) = true := decide_eq_true c22
    clear c22
    replace H := Option.bind_eq_some_iff.mp H
    obtain ⟨⟨t302, t303⟩, A230, H⟩ := H
    replace H : (if x22_2 < (x5_2.length : Int) then (impl_nat_plus.l0 k2 x0_2 x1_2 (x5_2.set (x22_2 : Int).toNat t302) t303 (x0_2.length : Int) (wrap64 (x22_2 + 1))) else (none)) = some r := H
    have A23 := Aside0.mk A230
    clear A230
    by_cases c24 : x22_2 < (x5_2.length : Int)
    rotate_left
    · rw [if_neg c24] at H; exact absurd H (by simp)
    rw [if_pos c24] at H
    have c24b0 : decide (x22_2 < (x5_2.length : Int)) = true := decide_eq_true c24
    clear c24
    obtain ⟨y304, hy304⟩ : ∃ y_ : List Int, y_ = (x5_2.set (x22_2 : Int).toNat t302) := ⟨_, rfl⟩
    first | rw [← hy304] at H | skip
    have Ny304 := Aside0.mk hy304
    clear hy304
    have H' := Aside0.mk H
    clear H
    obtain ⟨Ao26, co26, eo26⟩ := Kd.V_slice HO_1.out
    subst eo26
    have p301 : 0 ≤ (x22_2 : Int) := od_
    have q301 : x22_2 < (x0_2.length : Int) := od_
    obtain ⟨ad301, e301, hx301_0⟩ := Kd.at_int (Kd.V_reads' HO_0.out).2.2 x22_2 p301 q301
    cases e301
    replace p301 := eq_true p301
    replace q301 := eq_true q301
    go_wp2_with (first | ((with_reducible refine gate_callee (f := 110) rfl ?_); refine gX_ 42 rfl #[.int .u64 (rd x0_2 x22_2), .int .u64 0, .int .u64 x6_2] (bits_Add64.run (rd x0_2 x22_2) 0 x6_2 t302 t303 A23.out _) ?_; intro nd _; (try (rw [drewN_self wr]; generalize hq_ : World.drewN wr _ = wr; have n0_ : Aside0 (Kd.V (Kd.int .u64) 89 wr w.heap.size (fun k_ => ((P0_ k_ ∨ P1_ k_) ∨ w.heap.size ≤ k_) ∧ some k_ ≠ (v294 : Value).ownBlock) (.slice (some ad301) x0_2.length co8) x0_2) := ⟨by rw [← hq_]; exact (pV_ HO_0.out)⟩; have n1_ : Aside0 (Kd.V (Kd.int .u64) 89 wr w.heap.size (fun k_ => ((P0_ k_ ∨ P1_ k_) ∨ w.heap.size ≤ k_) ∧ some k_ ≠ (v294 : Value).ownBlock) (.slice Ao26 x1_2.length co26) x1_2) := ⟨by rw [← hq_]; exact (pV_ HO_1.out)⟩; have n2_ : Aside0 (Kd.R (Kd.int .u64) 89 wr w.heap.size (fun k_ => (w.heap.size ≤ k_)) v294 x5_2) := ⟨by rw [← hq_]; exact (pR_ HO_5.out)⟩; have n3_ : Aside0 (Below w.heap.size w wr) := ⟨by rw [← hq_]; exact (pB_ HB.out)⟩; clear HO_0 HO_1 HO_5 HB hq_; have HO_0 := n0_; have HO_1 := n1_; have HO_5 := n2_; have HB := n3_; clear n0_ n1_ n2_ n3_)); have p25 : 0 ≤ (x22_2 : Int) := od_; have q25 : (x22_2 : Int) < ((x5_2.length : Int) : Int) := od_; obtain ⟨go25, co25, eo25, gb25, gl25, cl25, HG25⟩ := Kd.R_form HO_5.out (by omega); (first | cases eo25 | (injection eo25 with ea_ en_ ec_; (first | subst ea_ | (injection ea_ with ea_; subst ea_)); subst ec_; clear en_)); have GB25 := Aside0.mk gb25; have GG25 := Aside0.mk HG25; clear gb25 gl25 HG25; obtain ⟨hx25_0, hf25_0⟩ := Kd.R_celln 0 HO_5.out (x22_2 : Int) p25 q25; replace p25 := eq_true p25; replace q25 := eq_true q25; obtain ⟨hy27_, hz27_⟩ := Kd.R_celln 0 HO_5.out (x22_2 : Int) (od_) (od_); have HP27 := Kd.R_putg HO_5.out (x22_2 : Int) t302) | ((with_reducible refine gate_store (t := 89) (p := 45) rfl ?_); refine store_event (t := 89) (p := 45) (v := ?vo_w28) (w1 := (wr.setCell ⟨go25, (x22_2 : Int).toNat, none⟩ (.int .u64 t302))) ?hg ?ho ?hn ?hr ?_; (case ho => rfl); (case hg => rfl); (case hn => rfl); (case hr => first | (go_simp; done) | (go_simp; rfl)); intro w28 hw; have hg : wr.grownBy w28 (some go25) := (by rw [hw]; exact HP27.2); have hp_ : Kd.R (Kd.int .u64) 89 w28 w.heap.size (fun k_ => (w.heap.size ≤ k_)) (.slice (some ⟨go25, 0, none⟩) x5_2.length co25) y304 := (by rw [hw, Ny304.out]; exact HP27.1); clear HP27; replace HO_0 := Aside0.mk (Kd.V_afterv (v := (.slice (some ⟨go25, 0, none⟩) x5_2.length co25)) (v1 := (.slice (some ⟨go25, 0, none⟩) x5_2.length co25)) (ok := (fun k_ => ((P0_ k_ ∨ P1_ k_) ∨ w.heap.size ≤ k_))) (pV_ HO_0.out) hg (.inl rfl)); replace HO_1 := Aside0.mk (Kd.V_afterv (v := (.slice (some ⟨go25, 0, none⟩) x5_2.length co25)) (v1 := (.slice (some ⟨go25, 0, none⟩) x5_2.length co25)) (ok := (fun k_ => ((P0_ k_ ∨ P1_ k_) ∨ w.heap.size ≤ k_))) (pV_ HO_1.out) hg (.inl rfl)); replace HO_5 := Aside0.mk (hp_); replace HB := Aside0.mk ((by rw [hw]; exact below_set (HB.out) GB25.out : Below w.heap.size w w28)); clear hg hw hp_))
    go_roundg k2
    case measure => have := HJ2.out; have := HK2.out; omega
    case rel => exact ⟨(y304), (t303), (wrap64 (x22_2 + 1)), (by first | rfl | (simp; done) | (simp [*]; done)), (by first | rfl | (simp; done) | (simp [*]; done)), H', ⟨by have := HJ2.out; have := HK2.out; omega⟩, ⟨by (with_reducible repeat (first | apply Kd.V_alloc | apply Kd.V_drewN | apply Kd.V_drew)); exact HO_0.out⟩, ⟨by (with_reducible repeat (first | apply Kd.V_alloc | apply Kd.V_drewN | apply Kd.V_drew)); exact HO_1.out⟩, ⟨by (with_reducible repeat (first | apply Kd.R_alloc | apply Kd.R_drewN | apply Kd.R_drew)); exact HO_5.out⟩, ⟨pB_ HB.out⟩⟩
  rw [if_pos c12] at H
  have c12b0 : decide (x22_2 < (x1_2.length : Int)) = true := decide_eq_true c12
  clear c12
  by_cases c13 : 0 ≤ x22_2
  rotate_left
  · rw [if_neg c13] at H; exact absurd H (by simp)
  rw [if_pos c13] at H
  have c13b0 : decide (0 ≤ x22_2) = true := decide_eq_true c13
  clear c13
  by_cases c14 : x22_2 < (x0_2.length : Int)
  rotate_left
  · rw [if_neg c14] at H; exact absurd H (by simp)
  rw [if_pos c14] at H
  have c14b0 : decide (x22_2 < (x0_2.length : Int)) = true := decide_eq_true c14
  clear c14
  replace H := Option.bind_eq_some_iff.mp H
  obtain ⟨⟨t298, t299⟩, A150, H⟩ := H
  replace H : (if x22_2 < (x5_2.length : Int) then (impl_nat_plus.l0 k2 x0_2 x1_2 (x5_2.set (x22_2 : Int).toNat t298) t299 (x0_2.length : Int) (wrap64 (x22_2 + 1))) else (none)) = some r := H
  have A15 := Aside0.mk A150
  clear A150
  by_cases c16 : x22_2 < (x5_2.length : Int)
  rotate_left
  · rw [if_neg c16] at H; exact absurd H (by simp)
  rw [if_pos c16] at H
  have c16b0 : decide (x22_2 < (x5_2.length : Int)) = true := decide_eq_true c16
  clear c16
  obtain ⟨y300, hy300⟩ : ∃ y_ : List Int, y_ = (x5_2.set (x22_2 : Int).toNat t298) := ⟨_, rfl⟩
  first | rw [← hy300] at H | skip
  have Ny300 := Aside0.mk hy300
  clear hy300
  have H' := Aside0.mk H
  clear H
  obtain ⟨Ao18, co18, eo18⟩ := Kd.V_slice HO_1.out
  subst eo18
  have p296 : 0 ≤ (x22_2 : Int) := od_
  have q296 : x22_2 < (x1_2.length : Int) := od_
  obtain ⟨ad296, e296, hx296_0⟩ := Kd.at_int (Kd.V_reads' HO_1.out).2.2 x22_2 p296 q296
  cases e296
  replace p296 := eq_true p296
  replace q296 := eq_true q296
  have p297 : 0 ≤ (x22_2 : Int) := od_
  have q297 : x22_2 < (x0_2.length : Int) := od_
  obtain ⟨ad297, e297, hx297_0⟩ := Kd.at_int (Kd.V_reads' HO_0.out).2.2 x22_2 p297 q297
  cases e297
  replace p297 := eq_true p297
  replace q297 := eq_true q297
  go_wp2_with (first | ((with_reducible refine gate_callee (f := 110) rfl ?_); refine gX_ 42 rfl #[.int .u64 (rd x0_2 x22_2), .int .u64 (rd x1_2 x22_2), .int .u64 x6_2] (bits_Add64.run (rd x0_2 x22_2) (rd x1_2 x22_2) x6_2 t298 t299 A15.out _) ?_; intro nd _; (try (rw [drewN_self wr]; generalize hq_ : World.drewN wr _ = wr; have n0_ : Aside0 (Kd.V (Kd.int .u64) 89 wr w.heap.size (fun k_ => ((P0_ k_ ∨ P1_ k_) ∨ w.heap.size ≤ k_) ∧ some k_ ≠ (v294 : Value).ownBlock) (.slice (some ad297) x0_2.length co8) x0_2) := ⟨by rw [← hq_]; exact (pV_ HO_0.out)⟩; have n1_ : Aside0 (Kd.V (Kd.int .u64) 89 wr w.heap.size (fun k_ => ((P0_ k_ ∨ P1_ k_) ∨ w.heap.size ≤ k_) ∧ some k_ ≠ (v294 : Value).ownBlock) (.slice (some ad296) x1_2.length co18) x1_2) := ⟨by rw [← hq_]; exact (pV_ HO_1.out)⟩; have n2_ : Aside0 (Kd.R (Kd.int .u64) 89 wr w.heap.size (fun k_ => (w.heap.size ≤ k_)) v294 x5_2) := ⟨by rw [← hq_]; exact (pR_ HO_5.out)⟩; have n3_ : Aside0 (Below w.heap.size w wr) := ⟨by rw [← hq_]; exact (pB_ HB.out)⟩; clear HO_0 HO_1 HO_5 HB hq_; have HO_0 := n0_; have HO_1 := n1_; have HO_5 := n2_; have HB := n3_; clear n0_ n1_ n2_ n3_)); have p17 : 0 ≤ (x22_2 : Int) := od_; have q17 : (x22_2 : Int) < ((x5_2.length : Int) : Int) := od_; obtain ⟨go17, co17, eo17, gb17, gl17, cl17, HG17⟩ := Kd.R_form HO_5.out (by omega); (first | cases eo17 | (injection eo17 with ea_ en_ ec_; (first | subst ea_ | (injection ea_ with ea_; subst ea_)); subst ec_; clear en_)); have GB17 := Aside0.mk gb17; have GG17 := Aside0.mk HG17; clear gb17 gl17 HG17; obtain ⟨hx17_0, hf17_0⟩ := Kd.R_celln 0 HO_5.out (x22_2 : Int) p17 q17; replace p17 := eq_true p17; replace q17 := eq_true q17; obtain ⟨hy19_, hz19_⟩ := Kd.R_celln 0 HO_5.out (x22_2 : Int) (od_) (od_); have HP19 := Kd.R_putg HO_5.out (x22_2 : Int) t298) | ((with_reducible refine gate_store (t := 89) (p := 45) rfl ?_); refine store_event (t := 89) (p := 45) (v := ?vo_w20) (w1 := (wr.setCell ⟨go17, (x22_2 : Int).toNat, none⟩ (.int .u64 t298))) ?hg ?ho ?hn ?hr ?_; (case ho => rfl); (case hg => rfl); (case hn => rfl); (case hr => first | (go_simp; done) | (go_simp; rfl)); intro w20 hw; have hg : wr.grownBy w20 (some go17) := (by rw [hw]; exact HP19.2); have hp_ : Kd.R (Kd.int .u64) 89 w20 w.heap.size (fun k_ => (w.heap.size ≤ k_)) (.slice (some ⟨go17, 0, none⟩) x5_2.length co17) y300 := (by rw [hw, Ny300.out]; exact HP19.1); clear HP19; replace HO_0 := Aside0.mk (Kd.V_afterv (v := (.slice (some ⟨go17, 0, none⟩) x5_2.length co17)) (v1 := (.slice (some ⟨go17, 0, none⟩) x5_2.length co17)) (ok := (fun k_ => ((P0_ k_ ∨ P1_ k_) ∨ w.heap.size ≤ k_))) (pV_ HO_0.out) hg (.inl rfl)); replace HO_1 := Aside0.mk (Kd.V_afterv (v := (.slice (some ⟨go17, 0, none⟩) x5_2.length co17)) (v1 := (.slice (some ⟨go17, 0, none⟩) x5_2.length co17)) (ok := (fun k_ => ((P0_ k_ ∨ P1_ k_) ∨ w.heap.size ≤ k_))) (pV_ HO_1.out) hg (.inl rfl)); replace HO_5 := Aside0.mk (hp_); replace HB := Aside0.mk ((by rw [hw]; exact below_set (HB.out) GB17.out : Below w.heap.size w w20)); clear hg hw hp_))
  go_roundg k2
  case measure => have := HJ2.out; have := HK2.out; omega
  case rel => exact ⟨(y300), (t299), (wrap64 (x22_2 + 1)), (by first | rfl | (simp; done) | (simp [*]; done)), (by first | rfl | (simp; done) | (simp [*]; done)), H', ⟨by have := HJ2.out; have := HK2.out; omega⟩, ⟨by (with_reducible repeat (first | apply Kd.V_alloc | apply Kd.V_drewN | apply Kd.V_drew)); exact HO_0.out⟩, ⟨by (with_reducible repeat (first | apply Kd.V_alloc | apply Kd.V_drewN | apply Kd.V_drew)); exact HO_1.out⟩, ⟨by (with_reducible repeat (first | apply Kd.R_alloc | apply Kd.R_drewN | apply Kd.R_drew)); exact HO_5.out⟩, ⟨pB_ HB.out⟩⟩

end Go.Proofs.Ytohfimjpfnnpgaa.F
