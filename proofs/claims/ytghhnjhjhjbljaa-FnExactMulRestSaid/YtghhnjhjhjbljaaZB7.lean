-- Made for this seat by a program of this session (wip/fork, wip/slim.py). Lean checks it.
import Derived.Test.YtghhnjhjhjbljaaFx0
import Derived.Test.YtghhnjhjhjbljaaZB0
import Derived.Test.YtghhnjhjhjbljaaZB2
import Derived.Test.YtghhnjhjhjbljaaZB3
import Derived.Test.YtghhnjhjhjbljaaZB4
import Derived.Test.YtghhnjhjhjbljaaZB6
namespace Go.Proofs.Ytghhnjhjhjbljaa.F
open Go.RowKit Go.Proofs.YtghhnjhjhjbljaaW.PrintWords Go.Proofs.YtghhnjhjhjbljaaW.PrintLast Go.Proofs.YtghhnjhjhjbljaaW.PrintMore
attribute [local go_sem] max2_int min2_int max_two min_two max_three min_three max_four min_four   -- for this text's walks alone
set_option linter.unusedVariables false
set_option linter.unusedSimpArgs false

/-! ### spec_MulRest: function 18 -/
def spec_MulRest.f (k : Nat) (a0 : ByteArray) (a1 : ByteArray) (a2 : ByteArray) : Option (ByteArray) := (spec_l04Two.f k a0 a1 a2).bind fun t593 => (if t593 = true then ((spec_l02In.f k a0).bind fun t594 => ((spec_l02In.f k a1).bind fun t597 => ((spec_l02In.f k a2).bind fun t600 => ((spec_l04Mul.f k t594 t597 t600).bind fun t603 => ((spec_l02Out.f k t603).bind fun t606 => (some t606)))))) else (some (⟨#[]⟩ : ByteArray)))
set_option maxHeartbeats 8000000 in
set_option maxRecDepth 100000 in
theorem spec_MulRest.calls (k : Nat) (a0 : ByteArray) (a1 : ByteArray) (a2 : ByteArray) (r : ByteArray) (w : World) (h : spec_MulRest.f k a0 a1 a2 = some r) :
    Calls Try.prog 18 #[.string a0, .string a1, .string a2] w fun e w' => e = .returned (.string r) ∧ Below w.heap.size w w' := by
  have HB := Aside0.mk (Below.refl w.heap.size w)
  have H : ((spec_l04Two.f k a0 a1 a2).bind fun t593 => (if t593 = true then ((spec_l02In.f k a0).bind fun t594 => ((spec_l02In.f k a1).bind fun t597 => ((spec_l02In.f k a2).bind fun t600 => ((spec_l04Mul.f k t594 t597 t600).bind fun t603 => ((spec_l02Out.f k t603).bind fun t606 => (some t606)))))) else (some (⟨#[]⟩ : ByteArray)))) = some r := h
  clear h
  replace H := Option.bind_eq_some_iff.mp H
  obtain ⟨t593, A40, H⟩ := H
  have A4 := Aside0.mk A40
  clear A40
  by_cases c5 : t593 = true
  · subst c5
    have H1 : ((spec_l02In.f k a0).bind fun t594 => ((spec_l02In.f k a1).bind fun t597 => ((spec_l02In.f k a2).bind fun t600 => ((spec_l04Mul.f k t594 t597 t600).bind fun t603 => ((spec_l02Out.f k t603).bind fun t606 => (some t606)))))) = some r := by rw [if_pos rfl] at H; exact H
    clear H
    have H := H1
    clear H1
    replace H := Option.bind_eq_some_iff.mp H
    obtain ⟨t594, A60, H⟩ := H
    have A6 := Aside0.mk A60
    clear A60
    replace H := Option.bind_eq_some_iff.mp H
    obtain ⟨t597, A70, H⟩ := H
    have A7 := Aside0.mk A70
    clear A70
    replace H := Option.bind_eq_some_iff.mp H
    obtain ⟨t600, A80, H⟩ := H
    have A8 := Aside0.mk A80
    clear A80
    replace H := Option.bind_eq_some_iff.mp H
    obtain ⟨t603, A90, H⟩ := H
    have A9 := Aside0.mk A90
    clear A90
    replace H := Option.bind_eq_some_iff.mp H
    obtain ⟨t606, A100, H⟩ := H
    have A10 := Aside0.mk A100
    clear A100
    obtain rfl := Option.some.inj H
    go_enter Try.func18, Try.ntmps18
    go_wp2_with (first | ((with_reducible refine gate_callee (f := 49) rfl ?_); refine gL_ 10 Try.func49 rfl #[.string a0, .string a1, .string a2] ?_; (with_reducible refine (spec_l04Two.calls k a0 a1 a2 true _ A4.out).mono ?_); rintro e w11 ⟨rfl, hb⟩; refine ⟨_, rfl, ?_⟩; replace HB := Aside0.mk (below_step (pB_ HB.out) hb); clear hb) | ((with_reducible refine gate_callee (f := 37) rfl ?_); refine gL_ 13 Try.func37 rfl #[.string a0] ?_; (with_reducible refine (spec_l02In.calls k a0 t594 _ A6.out).mono ?_); rintro e w12 ⟨v595, rfl, ho0, hb⟩; refine ⟨_, rfl, ?_⟩; have HO596 := Aside0.mk (Kd.V_lower (Kd.V_mono (ok' := fun k_ => True) ho0 (fun k_ hk_ => trivial)) (below_size (pB_ HB.out))); replace HB := Aside0.mk (below_step (pB_ HB.out) hb); clear hb ho0) | ((with_reducible refine gate_callee (f := 37) rfl ?_); refine gL_ 15 Try.func37 rfl #[.string a1] ?_; (with_reducible refine (spec_l02In.calls k a1 t597 _ A7.out).mono ?_); rintro e w13 ⟨v598, rfl, ho0, hb⟩; refine ⟨_, rfl, ?_⟩; replace HO596 := Aside0.mk (Kd.V_below (pV_ HO596.out) hb); have HO599 := Aside0.mk (Kd.V_lower (Kd.V_mono (ok' := fun k_ => True) ho0 (fun k_ hk_ => trivial)) (below_size (pB_ HB.out))); replace HB := Aside0.mk (below_step (pB_ HB.out) hb); clear hb ho0) | ((with_reducible refine gate_callee (f := 37) rfl ?_); refine gL_ 17 Try.func37 rfl #[.string a2] ?_; (with_reducible refine (spec_l02In.calls k a2 t600 _ A8.out).mono ?_); rintro e w14 ⟨v601, rfl, ho0, hb⟩; refine ⟨_, rfl, ?_⟩; replace HO596 := Aside0.mk (Kd.V_below (pV_ HO596.out) hb); replace HO599 := Aside0.mk (Kd.V_below (pV_ HO599.out) hb); have HO602 := Aside0.mk (Kd.V_lower (Kd.V_mono (ok' := fun k_ => True) ho0 (fun k_ hk_ => trivial)) (below_size (pB_ HB.out))); replace HB := Aside0.mk (below_step (pB_ HB.out) hb); clear hb ho0; obtain ⟨Ao15, co15, eo15⟩ := Kd.V_slice HO596.out; subst eo15; obtain ⟨Ao16, co16, eo16⟩ := Kd.V_slice HO599.out; subst eo16; obtain ⟨Ao17, co17, eo17⟩ := Kd.V_slice HO602.out; subst eo17) | ((with_reducible refine gate_callee (f := 50) rfl ?_); refine gL_ 18 Try.func50 rfl #[.slice Ao15 t594.length co15, .slice Ao16 t597.length co16, .slice Ao17 t600.length co17] ?_; (with_reducible refine (spec_l04Mul.calls k _ _ t594 _ _ t597 _ _ t600 t603 _ ?side1 ?side2 ?side3 ?side4 ?side5 ?side6 A9.out).mono ?_); (case side1 => exact pC_ (Kd.V_reads' HO596.out).2.2); (case side2 => exact (Kd.V_reads' HO596.out).2.1); (case side3 => exact pC_ (Kd.V_reads' HO599.out).2.2); (case side4 => exact (Kd.V_reads' HO599.out).2.1); (case side5 => exact pC_ (Kd.V_reads' HO602.out).2.2); (case side6 => exact (Kd.V_reads' HO602.out).2.1); rintro e w18 ⟨v604, rfl, ho0, hb⟩; refine ⟨_, rfl, ?_⟩; replace HO596 := Aside0.mk (Kd.V_below (pV_ HO596.out) hb); replace HO599 := Aside0.mk (Kd.V_below (pV_ HO599.out) hb); replace HO602 := Aside0.mk (Kd.V_below (pV_ HO602.out) hb); have HO605 := Aside0.mk (Kd.V_lower (Kd.V_mono (ok' := fun k_ => True) ho0 (fun k_ hk_ => trivial)) (below_size (pB_ HB.out))); replace HB := Aside0.mk (below_step (pB_ HB.out) hb); clear hb ho0; obtain ⟨Ao19, co19, eo19⟩ := Kd.V_slice HO605.out; subst eo19) | ((with_reducible refine gate_callee (f := 35) rfl ?_); refine gL_ 19 Try.func35 rfl #[.slice Ao19 t603.length co19] ?_; (with_reducible refine (spec_l02Out.calls k _ _ t603 t606 _ ?side1 ?side2 A10.out).mono ?_); (case side1 => exact pC_ (Kd.V_reads' HO605.out).2.2); (case side2 => exact (Kd.V_reads' HO605.out).2.1); rintro e w20 ⟨rfl, hb⟩; refine ⟨_, rfl, ?_⟩; replace HO596 := Aside0.mk (Kd.V_below (pV_ HO596.out) hb); replace HO599 := Aside0.mk (Kd.V_below (pV_ HO599.out) hb); replace HO602 := Aside0.mk (Kd.V_below (pV_ HO602.out) hb); replace HO605 := Aside0.mk (Kd.V_below (pV_ HO605.out) hb); replace HB := Aside0.mk (below_step (pB_ HB.out) hb); clear hb))
    go_ret
    exact ⟨by first | rfl | (simp [errW_none, errW_some] <;> rfl) | (simp [*, errW_none, errW_some] <;> rfl), pB_ HB.out⟩
  · replace c5 := Bool.eq_false_iff.mpr c5
    subst c5
    have H1 : (some (⟨#[]⟩ : ByteArray)) = some r := by rw [if_neg (show ¬ (false = true) by decide)] at H; exact H
    clear H
    have H := H1
    clear H1
    obtain rfl := Option.some.inj H
    go_enter Try.func18, Try.ntmps18
    go_wp2_with (first | ((with_reducible refine gate_callee (f := 49) rfl ?_); refine gL_ 10 Try.func49 rfl #[.string a0, .string a1, .string a2] ?_; (with_reducible refine (spec_l04Two.calls k a0 a1 a2 false _ A4.out).mono ?_); rintro e w21 ⟨rfl, hb⟩; refine ⟨_, rfl, ?_⟩; replace HB := Aside0.mk (below_step (pB_ HB.out) hb); clear hb))
    go_ret
    exact ⟨by first | rfl | (simp [errW_none, errW_some] <;> rfl) | (simp [*, errW_none, errW_some] <;> rfl), pB_ HB.out⟩

/-! ### impl_nat_times: function 87 -/
mutual
def impl_nat_times.l0 : Nat → List Int → List Int → List Int → Int → Int → Option (List Int)
  | 0, _, _, _, _, _ => none
  | k + 1, x1, x5, x20, x21, x22 => if x22 < x21 then (if 0 ≤ x22 then (if x22 < (x20.length : Int) then (impl_nat_times.l1 k x1 x5 x22 (rd x20 x22) 0 x20 x21 x22 x1 (x1.length : Int) 0) else (none)) else (none)) else ((impl_nat_trim.f k x5).bind fun t610 => (some t610))
def impl_nat_times.l1 : Nat → List Int → List Int → Int → Int → Int → List Int → Int → Int → List Int → Int → Int → Option (List Int)
  | 0, _, _, _, _, _, _, _, _, _, _, _ => none
  | k + 1, x1, x5, x6, x7, x8, x20, x21, x22, x27, x28, x29 => if x29 < x28 then (if 0 ≤ x29 then (if x29 < (x27.length : Int) then ((bits_Mul64.f x7 (rd x27 x29)).bind fun bt615 => (if 0 ≤ (wrap64 (x6 + x29)) then (if (wrap64 (x6 + x29)) < (x5.length : Int) then ((bits_Add64.f bt615.2 (rd x5 (wrap64 (x6 + x29))) 0).bind fun bt618 => ((bits_Add64.f bt618.1 x8 0).bind fun bt620 => (impl_nat_times.l1 k x1 (x5.set ((wrap64 (x6 + x29)) : Int).toNat bt620.1) x6 x7 (IntKind.u64.wrap ((IntKind.u64.wrap (bt615.1 + bt618.2)) + bt620.2)) x20 x21 x22 x27 x28 (wrap64 (x29 + 1))))) else (none)) else (none))) else (none)) else (none)) else (if 0 ≤ (wrap64 (x6 + (x1.length : Int))) then (if (wrap64 (x6 + (x1.length : Int))) < (x5.length : Int) then (impl_nat_times.l0 k x1 (x5.set ((wrap64 (x6 + (x1.length : Int))) : Int).toNat x8) x20 x21 (wrap64 (x22 + 1))) else (none)) else (none))
end
def impl_nat_times.f (k : Nat) (l0 : List Int) (l1 : List Int) : Option (List Int) := if 0 ≤ (wrap64 ((l0.length : Int) + (l1.length : Int))) then (if (wrap64 ((l0.length : Int) + (l1.length : Int)) : Int).toNat ≤ 35184372088832 then (impl_nat_times.l0 k l1 (List.replicate (wrap64 ((l0.length : Int) + (l1.length : Int)) : Int).toNat 0) l0 (l0.length : Int) 0) else (none)) else (none)
set_option maxHeartbeats 8000000 in
set_option maxRecDepth 100000 in
theorem impl_nat_times.calls (k : Nat) (A0 : Option Addr) (c0 : Nat) (l0 : List Int) (A1 : Option Addr) (c1 : Nat) (l1 : List Int) (r : List Int) (w : World) (hr0 : Kd.C (Kd.int .u64) w A0 l0.length l0) (hc0 : l0.length ≤ c0) (hr1 : Kd.C (Kd.int .u64) w A1 l1.length l1) (hc1 : l1.length ≤ c1) (h : impl_nat_times.f k l0 l1 = some r) :
    Calls Try.prog 87 #[.slice A0 l0.length c0, .slice A1 l1.length c1] w fun e w' => ∃ v0_ : Value, e = .returned (v0_) ∧ Kd.V (Kd.int .u64) 83 w' w.heap.size (fun k_ => (w.heap.size ≤ k_)) v0_ r ∧ Below w.heap.size w w' := by
  have HR0 := Aside0.mk hr0
  have HC0 := Aside0.mk hc0
  clear hr0 hc0
  have HR1 := Aside0.mk hr1
  have HC1 := Aside0.mk hc1
  clear hr1 hc1
  have HB := Aside0.mk (Below.refl w.heap.size w)
  have H : (if 0 ≤ (wrap64 ((l0.length : Int) + (l1.length : Int))) then (if (wrap64 ((l0.length : Int) + (l1.length : Int)) : Int).toNat ≤ 35184372088832 then (impl_nat_times.l0 k l1 (List.replicate (wrap64 ((l0.length : Int) + (l1.length : Int)) : Int).toNat 0) l0 (l0.length : Int) 0) else (none)) else (none)) = some r := h
  clear h
  obtain ⟨ji3, hji3⟩ : ∃ j_ : Int, (wrap64 ((l0.length : Int) + (l1.length : Int))) = j_ := ⟨_, rfl⟩
  first | rw [hji3] at H | simp only [hji3] at H | skip
  have hji3w : (IntKind.i64.wrap ((l0.length : Int) + (l1.length : Int))) = ji3 := (i64_w _).trans hji3
  by_cases c4 : 0 ≤ (ji3)
  rotate_left
  · rw [if_neg c4] at H
    exact absurd H (by simp)

  rw [if_pos c4] at H
  have c4b0 := eq_true c4
  have c4b1 : decide (0 ≤ (ji3)) = true := decide_eq_true c4
  clear c4
  by_cases c5 : (ji3 : Int).toNat ≤ 35184372088832
  rotate_left
  · rw [if_neg c5] at H; exact absurd H (by simp)
  rw [if_pos c5] at H
  have c5b0 := eq_true c5
  have c5b1 : decide ((ji3 : Int).toNat ≤ 35184372088832) = true := decide_eq_true c5
  clear c5
  obtain ⟨y607, hy607⟩ : ∃ y_ : List Int, y_ = (List.replicate (ji3 : Int).toNat 0) := ⟨_, rfl⟩
  first | rw [← hy607] at H | skip
  have Ny607 := Aside0.mk hy607
  clear hy607
  have H' := Aside0.mk H
  clear H
  go_enter Try.func87, Try.ntmps87
  go_wp2_with (first | ((with_reducible refine gate_dst (N := 19) rfl ?_); refine Kd.R_make (Kd.int .u64) _ 83 rfl (N := 19) rfl 48 _ _ rfl ji3 rfl rfl Try.underlying48 (.int .u64 0) 8 info83 rfl (by decide) (by omega) 0 (ok := fun _ => True) (okp := fun _ => True) rfl (fun _ hk => hk) trivial (od_) (Nat.le_trans (Nat.mul_le_mul_right _ (od_ : ji3.toNat ≤ 35184372088832)) (by omega)) (Below.refl _ _) (Nat.le_refl _) ?_; intro v608 w6 ho7 hb hg_ hnew_; clear hg_ hnew_; (first | rw [← Ny607.out] at ho7 | (simp only [Int.reduceToNat] at ho7; rw [← Ny607.out] at ho7)); have HO609 := Aside0.mk (Kd.R_lower (Kd.R_newM (M := fun k_ => (w.heap.size ≤ k_)) ho7 (below_size (pB_ HB.out)) (fun k_ h_ => h_)) (below_size (pB_ HB.out))); replace HB := Aside0.mk (below_step (pB_ HB.out) hb); clear hb ho7))
  go_loopg [22] k (fun kq v22 w' => ∃ (x5_1 : List Int) (x22_1 : Int), v22 = .int .i64 x22_1 ∧ Aside0 (impl_nat_times.l0 kq l1 x5_1 l0 (l0.length : Int) x22_1 = some r) ∧ Aside0 (kq ≤ k) ∧ Aside0 (Kd.R (Kd.int .u64) 83 w' w.heap.size (fun k_ => (w.heap.size ≤ k_)) v608 x5_1) ∧ Aside0 (Below w.heap.size w w'))
  case atStart => exact ⟨(y607), (0), (by first | rfl | (simp; done) | (simp [*]; done)), H', ⟨Nat.le_refl _⟩, ⟨by (with_reducible repeat (first | apply Kd.R_alloc | apply Kd.R_drewN | apply Kd.R_drew)); exact Kd.R_mono HO609.out (fun _ hk => hk.1)⟩, ⟨pB_ HB.out⟩⟩
  clear H'
  try clear c1
  try clear p2
  try clear c4
  try clear c4b0
  try clear c4b1
  try clear c5
  try clear c5b0
  try clear c5b1
  try clear p6
  obtain ⟨x5_1, x22_1, rfl, HA, HK1, HO_5, HB⟩ := hrel
  rcases gk with _ | k1
  · exact absurd HA.out (by simp [impl_nat_times.l0])
  have H := HA.out
  clear HA
  simp only [impl_nat_times.l0] at H
  by_cases c8 : x22_1 < (l0.length : Int)
  rotate_left
  · rw [if_neg c8] at H
    have c8b0 : decide (x22_1 < (l0.length : Int)) = false := decide_eq_false c8
    clear c8
    replace H := Option.bind_eq_some_iff.mp H
    obtain ⟨t610, A300, H⟩ := H
    have A30 := Aside0.mk A300
    clear A300
    obtain rfl := Option.some.inj H
    obtain ⟨Ao31, co31, eo31⟩ := Kd.R_slice HO_5.out
    subst eo31
    go_wp2_with (first | ((with_reducible refine gate_callee (f := 75) rfl ?_); refine gL_ 79 Try.func75 rfl #[.slice Ao31 x5_1.length co31] ?_; (with_reducible refine (impl_nat_trim.calls k1 (fun k_ => some k_ = (.slice Ao31 x5_1.length co31 : Value).ownBlock) _ _ x5_1 t610 _ ?side1 A30.out).mono ?_); (case side1 => exact Kd.R_V (Kd.R_tight rfl (HO_5.out))); rintro e w32 ⟨v611, rfl, ho0, hb⟩; refine ⟨_, rfl, ?_⟩; have HO612 := Aside0.mk (Kd.V_lower (Kd.V_mono (ok' := fun k_ => (w.heap.size ≤ k_)) ho0 (fun k_ hk_ => Or.elim hk_ (fun hs_ => ((HO_5.out).1 k_ hs_.symm)) (fun hn_ => (Nat.le_trans (below_size (pB_ HB.out)) hn_)))) (below_size (pB_ HB.out))); replace HO_5 := Aside0.mk (Kd.R_below (pR_ HO_5.out) hb); replace HB := Aside0.mk (below_step (pB_ HB.out) hb); clear hb ho0))
    go_ret
    exact ⟨_, by first | rfl | (simp [errW_none, errW_some] <;> rfl) | (simp only [← hji3]; first | rfl | (simp [errW_none, errW_some] <;> rfl)) | (simp [*, errW_none, errW_some] <;> rfl), by (with_reducible repeat (first | apply Kd.V_alloc | apply Kd.V_drewN | apply Kd.V_drew)); exact HO612.out, pB_ HB.out⟩
  rw [if_pos c8] at H
  have c8b0 : decide (x22_1 < (l0.length : Int)) = true := decide_eq_true c8
  clear c8
  by_cases c9 : 0 ≤ x22_1
  rotate_left
  · rw [if_neg c9] at H; exact absurd H (by simp)
  rw [if_pos c9] at H
  have c9b0 : decide (0 ≤ x22_1) = true := decide_eq_true c9
  clear c9
  by_cases c10 : x22_1 < (l0.length : Int)
  rotate_left
  · rw [if_neg c10] at H; exact absurd H (by simp)
  rw [if_pos c10] at H
  have c10b0 : decide (x22_1 < (l0.length : Int)) = true := decide_eq_true c10
  clear c10
  have H' := Aside0.mk H
  clear H
  have p613 : 0 ≤ (x22_1 : Int) := od_
  have q613 : x22_1 < (l0.length : Int) := od_
  obtain ⟨ad613, e613, hx613_0⟩ := Kd.at_int HR0.out x22_1 p613 q613
  cases e613
  replace hx613_0 := (HB.out.cell (World.block_lt_of_cell? w _ hx613_0)).trans hx613_0
  replace p613 := eq_true p613
  replace q613 := eq_true q613
  go_wp2
  go_loopg [8, 29] k1 (fun kq v8 v29 w' => ∃ (x5_2 : List Int) (x8_2 : Int) (x29_2 : Int), v8 = .int .u64 x8_2 ∧ v29 = .int .i64 x29_2 ∧ Aside0 (impl_nat_times.l1 kq l1 x5_2 x22_1 (rd l0 x22_1) x8_2 l0 (l0.length : Int) x22_1 l1 (l1.length : Int) x29_2 = some r) ∧ Aside0 (kq ≤ k1) ∧ Aside0 (Kd.R (Kd.int .u64) 83 w' w.heap.size (fun k_ => (w.heap.size ≤ k_)) v608 x5_2) ∧ Aside0 (Below w.heap.size w w'))
  case atStart => exact ⟨(x5_1), (0), (0), (by first | rfl | (simp; done) | (simp [*]; done)), (by first | rfl | (simp; done) | (simp [*]; done)), H', ⟨Nat.le_refl _⟩, ⟨by (with_reducible repeat (first | apply Kd.R_alloc | apply Kd.R_drewN | apply Kd.R_drew)); exact HO_5.out⟩, ⟨pB_ HB.out⟩⟩
  clear H'
  try clear c1
  try clear p2
  try clear c4
  try clear c4b0
  try clear c4b1
  try clear c5
  try clear c5b0
  try clear c5b1
  try clear p6
  try clear q6
  try clear hx6
  try clear c8
  try clear c8b0
  try clear c9
  try clear c9b0
  try clear c10
  try clear c10b0
  try clear hx613_0
  try clear p2
  try clear p6
  try clear p613
  try clear q613
  obtain ⟨x5_2, x8_2, x29_2, rfl, rfl, HA, HK2, HO_5, HB⟩ := hrel
  rcases gk with _ | k2
  · exact absurd HA.out (by simp [impl_nat_times.l1])
  have H := HA.out
  clear HA
  simp only [impl_nat_times.l1] at H
  by_cases c11 : x29_2 < (l1.length : Int)
  rotate_left
  · rw [if_neg c11] at H
    have c11b0 : decide (x29_2 < (l1.length : Int)) = false := decide_eq_false c11
    clear c11
    obtain ⟨ji24, hji24⟩ : ∃ j_ : Int, (wrap64 (x22_1 + (l1.length : Int))) = j_ := ⟨_, rfl⟩
    first | rw [hji24] at H | simp only [hji24] at H | skip
    have hji24w : (IntKind.i64.wrap (x22_1 + (l1.length : Int))) = ji24 := (i64_w _).trans hji24
    by_cases c25 : 0 ≤ (ji24)
    rotate_left
    · rw [if_neg c25] at H; exact absurd H (by simp)
    rw [if_pos c25] at H
    have c25b0 : decide (0 ≤ (ji24)) = true := decide_eq_true c25
    clear c25
    by_cases c26 : (ji24) < (x5_2.length : Int)
    rotate_left
    · rw [if_neg c26] at H; exact absurd H (by simp)
    rw [if_pos c26] at H
    have c26b0 : decide ((ji24) < (x5_2.length : Int)) = true := decide_eq_true c26
    clear c26
    obtain ⟨y623, hy623⟩ : ∃ y_ : List Int, y_ = (x5_2.set ((ji24) : Int).toNat x8_2) := ⟨_, rfl⟩
    first | rw [← hy623] at H | skip
    have Ny623 := Aside0.mk hy623
    clear hy623
    have H' := Aside0.mk H
    clear H
    have p27 : 0 ≤ ((ji24) : Int) := od_
    have q27 : ((ji24) : Int) < ((x5_2.length : Int) : Int) := od_
    obtain ⟨go27, co27, eo27, gb27, gl27, cl27, HG27⟩ := Kd.R_form HO_5.out (by omega)
    (first | cases eo27 | (injection eo27 with ea_ en_ ec_; (first | subst ea_ | (injection ea_ with ea_; subst ea_)); subst ec_; clear en_))
    have GB27 := Aside0.mk gb27
    have GG27 := Aside0.mk HG27
    clear gb27 gl27 HG27
    obtain ⟨hx27_0, hf27_0⟩ := Kd.R_celln 0 HO_5.out ((ji24) : Int) p27 q27
    replace p27 := eq_true p27
    replace q27 := eq_true q27
    have HP28 := Kd.R_putg HO_5.out ((ji24) : Int) x8_2
    go_wp2_with (first | ((with_reducible refine gate_store (t := 83) (p := 76) rfl ?_); refine store_event (t := 83) (p := 76) (v := ?vo_w29) (w1 := (wr.setCell ⟨go27, ((ji24) : Int).toNat, none⟩ (.int .u64 x8_2))) ?hg ?ho ?hn ?hr ?_; (case ho => rfl); (case hg => rfl); (case hn => rfl); (case hr => first | (go_simp; done) | (go_simp; rfl)); intro w29 hw; have hg : wr.grownBy w29 (some go27) := (by rw [hw]; exact HP28.2); have hp_ : Kd.R (Kd.int .u64) 83 w29 w.heap.size (fun k_ => (w.heap.size ≤ k_)) (.slice (some ⟨go27, 0, none⟩) x5_2.length co27) y623 := (by rw [hw, Ny623.out]; exact HP28.1); clear HP28; replace HO_5 := Aside0.mk (hp_); replace HB := Aside0.mk ((by rw [hw]; exact below_set (HB.out) GB27.out : Below w.heap.size w w29)); clear hg hw hp_))
    go_roundg k2
    case measure => have := HK1.out; have := HK2.out; omega
    case rel => exact ⟨(y623), (wrap64 (x22_1 + 1)), (by first | rfl | (simp; done) | (simp [*]; done)), H', ⟨by have := HK1.out; have := HK2.out; omega⟩, ⟨by (with_reducible repeat (first | apply Kd.R_alloc | apply Kd.R_drewN | apply Kd.R_drew)); exact HO_5.out⟩, ⟨pB_ HB.out⟩⟩
  rw [if_pos c11] at H
  have c11b0 : decide (x29_2 < (l1.length : Int)) = true := decide_eq_true c11
  clear c11
  by_cases c12 : 0 ≤ x29_2
  rotate_left
  · rw [if_neg c12] at H; exact absurd H (by simp)
  rw [if_pos c12] at H
  have c12b0 : decide (0 ≤ x29_2) = true := decide_eq_true c12
  clear c12
  by_cases c13 : x29_2 < (l1.length : Int)
  rotate_left
  · rw [if_neg c13] at H; exact absurd H (by simp)
  rw [if_pos c13] at H
  have c13b0 : decide (x29_2 < (l1.length : Int)) = true := decide_eq_true c13
  clear c13
  replace H := Option.bind_eq_some_iff.mp H
  obtain ⟨⟨t615, t616⟩, A140, H⟩ := H
  replace H : (if 0 ≤ (wrap64 (x22_1 + x29_2)) then (if (wrap64 (x22_1 + x29_2)) < (x5_2.length : Int) then ((bits_Add64.f t616 (rd x5_2 (wrap64 (x22_1 + x29_2))) 0).bind fun bt618 => ((bits_Add64.f bt618.1 x8_2 0).bind fun bt620 => (impl_nat_times.l1 k2 l1 (x5_2.set ((wrap64 (x22_1 + x29_2)) : Int).toNat bt620.1) x22_1 (rd l0 x22_1) (IntKind.u64.wrap ((IntKind.u64.wrap (t615 + bt618.2)) + bt620.2)) l0 (l0.length : Int) x22_1 l1 (l1.length : Int) (wrap64 (x29_2 + 1))))) else (none)) else (none)) = some r := H
  have A14 := Aside0.mk A140
  clear A140
  obtain ⟨ji15, hji15⟩ : ∃ j_ : Int, (wrap64 (x22_1 + x29_2)) = j_ := ⟨_, rfl⟩
  first | rw [hji15] at H | simp only [hji15] at H | skip
  (try rw [hji15] at A14)
  have hji15w : (IntKind.i64.wrap (x22_1 + x29_2)) = ji15 := (i64_w _).trans hji15
  by_cases c16 : 0 ≤ (ji15)
  rotate_left
  · rw [if_neg c16] at H; exact absurd H (by simp)
  rw [if_pos c16] at H
  have c16b0 : decide (0 ≤ (ji15)) = true := decide_eq_true c16
  clear c16
  by_cases c17 : (ji15) < (x5_2.length : Int)
  rotate_left
  · rw [if_neg c17] at H; exact absurd H (by simp)
  rw [if_pos c17] at H
  have c17b0 : decide ((ji15) < (x5_2.length : Int)) = true := decide_eq_true c17
  clear c17
  replace H := Option.bind_eq_some_iff.mp H
  obtain ⟨⟨t618, t619⟩, A180, H⟩ := H
  replace H : ((bits_Add64.f t618 x8_2 0).bind fun bt620 => (impl_nat_times.l1 k2 l1 (x5_2.set ((ji15) : Int).toNat bt620.1) x22_1 (rd l0 x22_1) (IntKind.u64.wrap ((IntKind.u64.wrap (t615 + t619)) + bt620.2)) l0 (l0.length : Int) x22_1 l1 (l1.length : Int) (wrap64 (x29_2 + 1)))) = some r := H
  have A18 := Aside0.mk A180
  clear A180
  replace H := Option.bind_eq_some_iff.mp H
  obtain ⟨⟨t620, t621⟩, A190, H⟩ := H
  replace H : (impl_nat_times.l1 k2 l1 (x5_2.set ((ji15) : Int).toNat t620) x22_1 (rd l0 x22_1) (IntKind.u64.wrap ((IntKind.u64.wrap (t615 + t619)) + t621)) l0 (l0.length : Int) x22_1 l1 (l1.length : Int) (wrap64 (x29_2 + 1))) = some r := H
  have A19 := Aside0.mk A190
  clear A190
  obtain ⟨y622, hy622⟩ : ∃ y_ : List Int, y_ = (x5_2.set ((ji15) : Int).toNat t620) := ⟨_, rfl⟩
  first | rw [← hy622] at H | skip
  have Ny622 := Aside0.mk hy622
  clear hy622
  have H' := Aside0.mk H
  clear H
  have p614 : 0 ≤ (x29_2 : Int) := od_
  have q614 : x29_2 < (l1.length : Int) := od_
  obtain ⟨ad614, e614, hx614_0⟩ := Kd.at_int HR1.out x29_2 p614 q614
  cases e614
  replace hx614_0 := (HB.out.cell (World.block_lt_of_cell? w _ hx614_0)).trans hx614_0
  replace p614 := eq_true p614
  replace q614 := eq_true q614
  go_wp2_with (first | ((with_reducible refine gate_callee (f := 82) rfl ?_); refine gL_ 37 Try.func82 rfl #[.int .u64 (rd l0 x22_1), .int .u64 (rd l1 x29_2)] ?_; (with_reducible refine (bits_Mul64.calls (rd l0 x22_1) (rd l1 x29_2) t615 t616 _ A14.out).mono ?_); rintro e w' ⟨rfl, ⟨nd, rfl⟩⟩; refine ⟨_, rfl, ?_⟩; (try (rw [drewN_self wr]; generalize hq_ : World.drewN wr _ = wr; have n0_ : Aside0 (Kd.R (Kd.int .u64) 83 wr w.heap.size (fun k_ => (w.heap.size ≤ k_)) v608 x5_2) := ⟨by rw [← hq_]; exact (pR_ HO_5.out)⟩; have n1_ : Aside0 (Below w.heap.size w wr) := ⟨by rw [← hq_]; exact (pB_ HB.out)⟩; clear HO_5 HB hq_; have HO_5 := n0_; have HB := n1_; clear n0_ n1_)); obtain ⟨Ao21, co21, eo21⟩ := Kd.R_slice HO_5.out; subst eo21; have p617 : 0 ≤ ((ji15) : Int) := od_; have q617 : (ji15) < (x5_2.length : Int) := od_; obtain ⟨ad617, e617, hx617_0⟩ := Kd.at_int (Kd.R_reads' HO_5.out).2.2 (ji15) p617 q617; cases e617; replace p617 := eq_true p617; replace q617 := eq_true q617) | ((with_reducible refine gate_callee (f := 83) rfl ?_); refine goesX_ (some 48) rfl rfl #[.int .u64 t616, .int .u64 (rd x5_2 (ji15)), .int .u64 0] rfl (by (try simp only [List.map_toArray, List.map_cons, List.map_nil]); first | done | (simp only [hji15]; rfl) | rfl) (bits_Add64.run t616 (rd x5_2 (ji15)) 0 t618 t619 A18.out _) ?_; intro nd _; (try (rw [drewN_self wr]; generalize hq_ : World.drewN wr _ = wr; have n0_ : Aside0 (Kd.R (Kd.int .u64) 83 wr w.heap.size (fun k_ => (w.heap.size ≤ k_)) (.slice (some ad617) x5_2.length co21) x5_2) := ⟨by rw [← hq_]; exact (pR_ HO_5.out)⟩; have n1_ : Aside0 (Below w.heap.size w wr) := ⟨by rw [← hq_]; exact (pB_ HB.out)⟩; clear HO_5 HB hq_; have HO_5 := n0_; have HB := n1_; clear n0_ n1_))) | ((with_reducible refine gate_callee (f := 83) rfl ?_); refine gX_ 57 rfl #[.int .u64 t618, .int .u64 x8_2, .int .u64 0] (bits_Add64.run t618 x8_2 0 t620 t621 A19.out _) ?_; intro nd _; (try (rw [drewN_self wr]; generalize hq_ : World.drewN wr _ = wr; have n0_ : Aside0 (Kd.R (Kd.int .u64) 83 wr w.heap.size (fun k_ => (w.heap.size ≤ k_)) (.slice (some ad617) x5_2.length co21) x5_2) := ⟨by rw [← hq_]; exact (pR_ HO_5.out)⟩; have n1_ : Aside0 (Below w.heap.size w wr) := ⟨by rw [← hq_]; exact (pB_ HB.out)⟩; clear HO_5 HB hq_; have HO_5 := n0_; have HB := n1_; clear n0_ n1_)); have p20 : 0 ≤ ((ji15) : Int) := od_; have q20 : ((ji15) : Int) < ((x5_2.length : Int) : Int) := od_; obtain ⟨go20, co20, eo20, gb20, gl20, cl20, HG20⟩ := Kd.R_form HO_5.out (by omega); (first | cases eo20 | (injection eo20 with ea_ en_ ec_; (first | subst ea_ | (injection ea_ with ea_; subst ea_)); subst ec_; clear en_)); have GB20 := Aside0.mk gb20; have GG20 := Aside0.mk HG20; clear gb20 gl20 HG20; (first | simp only [add_plain] at hx617_0 | skip); obtain ⟨hx20_0, hf20_0⟩ := Kd.R_celln 0 HO_5.out ((ji15) : Int) p20 q20; replace p20 := eq_true p20; replace q20 := eq_true q20; obtain ⟨hy22_, hz22_⟩ := Kd.R_celln 0 HO_5.out ((ji15) : Int) (od_) (od_); have HP22 := Kd.R_putg HO_5.out ((ji15) : Int) t620) | ((with_reducible refine gate_store (t := 83) (p := 68) rfl ?_); refine store_event (t := 83) (p := 68) (v := ?vo_w23) (w1 := (wr.setCell ⟨go20, ((ji15) : Int).toNat, none⟩ (.int .u64 t620))) ?hg ?ho ?hn ?hr ?_; (case ho => rfl); (case hg => rfl); (case hn => rfl); (case hr => first | (go_simp; done) | (go_simp; rfl)); intro w23 hw; have hg : wr.grownBy w23 (some go20) := (by rw [hw]; exact HP22.2); have hp_ : Kd.R (Kd.int .u64) 83 w23 w.heap.size (fun k_ => (w.heap.size ≤ k_)) (.slice (some ⟨go20, 0, none⟩) x5_2.length co21) y622 := (by rw [hw, Ny622.out]; exact HP22.1); clear HP22; replace HO_5 := Aside0.mk (hp_); replace HB := Aside0.mk ((by rw [hw]; exact below_set (HB.out) GB20.out : Below w.heap.size w w23)); clear hg hw hp_))
  go_roundg k2
  case measure => have := HK1.out; have := HK2.out; omega
  case rel => exact ⟨(y622), (IntKind.u64.wrap ((IntKind.u64.wrap (t615 + t619)) + t621)), (wrap64 (x29_2 + 1)), (by first | rfl | (simp; done) | (simp [*]; done)), (by first | rfl | (simp; done) | (simp [*]; done)), H', ⟨by have := HK1.out; have := HK2.out; omega⟩, ⟨by (with_reducible repeat (first | apply Kd.R_alloc | apply Kd.R_drewN | apply Kd.R_drew)); exact HO_5.out⟩, ⟨pB_ HB.out⟩⟩

/-! ### impl_prime_mul: function 51 -/
def impl_prime_mul.f (k : Nat) (l0 : List Int) (l1 : List Int) (l2 : List Int) : Option (List Int) := (impl_nat_times.f k l1 l2).bind fun t624 => ((impl_nat_rest.f k t624 l0).bind fun t627 => (some t627))
set_option maxHeartbeats 8000000 in
set_option maxRecDepth 100000 in
theorem impl_prime_mul.calls (k : Nat) (A0 : Option Addr) (c0 : Nat) (l0 : List Int) (A1 : Option Addr) (c1 : Nat) (l1 : List Int) (A2 : Option Addr) (c2 : Nat) (l2 : List Int) (r : List Int) (w : World) (hr0 : Kd.C (Kd.int .u64) w A0 l0.length l0) (hc0 : l0.length ≤ c0) (hr1 : Kd.C (Kd.int .u64) w A1 l1.length l1) (hc1 : l1.length ≤ c1) (hr2 : Kd.C (Kd.int .u64) w A2 l2.length l2) (hc2 : l2.length ≤ c2) (h : impl_prime_mul.f k l0 l1 l2 = some r) :
    Calls Try.prog 51 #[.slice A0 l0.length c0, .slice A1 l1.length c1, .slice A2 l2.length c2] w fun e w' => ∃ v0_ : Value, e = .returned (v0_) ∧ Kd.V (Kd.int .u64) 83 w' w.heap.size (fun k_ => (w.heap.size ≤ k_)) v0_ r ∧ Below w.heap.size w w' := by
  have HR0 := Aside0.mk hr0
  have HC0 := Aside0.mk hc0
  clear hr0 hc0
  have HR1 := Aside0.mk hr1
  have HC1 := Aside0.mk hc1
  clear hr1 hc1
  have HR2 := Aside0.mk hr2
  have HC2 := Aside0.mk hc2
  clear hr2 hc2
  have HB := Aside0.mk (Below.refl w.heap.size w)
  have H : ((impl_nat_times.f k l1 l2).bind fun t624 => ((impl_nat_rest.f k t624 l0).bind fun t627 => (some t627))) = some r := h
  clear h
  replace H := Option.bind_eq_some_iff.mp H
  obtain ⟨t624, A40, H⟩ := H
  have A4 := Aside0.mk A40
  clear A40
  replace H := Option.bind_eq_some_iff.mp H
  obtain ⟨t627, A50, H⟩ := H
  have A5 := Aside0.mk A50
  clear A50
  obtain rfl := Option.some.inj H
  go_enter Try.func51, Try.ntmps51
  go_wp2_with (first | ((with_reducible refine gate_callee (f := 87) rfl ?_); refine gL_ 9 Try.func87 rfl #[.slice A1 l1.length c1, .slice A2 l2.length c2] ?_; (with_reducible refine (impl_nat_times.calls k _ _ l1 _ _ l2 t624 _ ?side1 ?side2 ?side3 ?side4 A4.out).mono ?_); (case side1 => exact pC_ HR1.out); (case side2 => exact HC1.out); (case side3 => exact pC_ HR2.out); (case side4 => exact HC2.out); rintro e w6 ⟨v625, rfl, ho0, hb⟩; refine ⟨_, rfl, ?_⟩; have HO626 := Aside0.mk (Kd.V_lower (Kd.V_mono (ok' := fun k_ => (w.heap.size ≤ k_)) ho0 (fun k_ hk_ => (Nat.le_trans (below_size (pB_ HB.out)) hk_))) (below_size (pB_ HB.out))); replace HB := Aside0.mk (below_step (pB_ HB.out) hb); clear hb ho0; obtain ⟨Ao7, co7, eo7⟩ := Kd.V_slice HO626.out; subst eo7) | ((with_reducible refine gate_callee (f := 48) rfl ?_); refine gL_ 11 Try.func48 rfl #[.slice Ao7 t624.length co7, .slice A0 l0.length c0] ?_; (with_reducible refine (impl_nat_rest.calls k (fun k_ => (w.heap.size ≤ k_)) _ _ t624 _ _ l0 t627 _ ?side1 ?side2 ?side3 A5.out).mono ?_); (case side1 => exact HO626.out); (case side2 => exact pC_ (Kd.C_below HR0.out HB.out)); (case side3 => exact HC0.out); rintro e w8 ⟨v628, rfl, ho0, hb⟩; refine ⟨_, rfl, ?_⟩; replace HO626 := Aside0.mk (Kd.V_below (pV_ HO626.out) hb); have HO629 := Aside0.mk (Kd.V_lower (Kd.V_mono (ok' := fun k_ => (w.heap.size ≤ k_)) ho0 (fun k_ hk_ => Or.elim hk_ (fun hs_ => hs_) (fun hn_ => (Nat.le_trans (below_size (pB_ HB.out)) hn_)))) (below_size (pB_ HB.out))); replace HB := Aside0.mk (below_step (pB_ HB.out) hb); clear hb ho0))
  go_ret
  exact ⟨_, by first | rfl | (simp [errW_none, errW_some] <;> rfl) | (simp [*, errW_none, errW_some] <;> rfl), by (with_reducible repeat (first | apply Kd.V_alloc | apply Kd.V_drewN | apply Kd.V_drew)); exact HO629.out, pB_ HB.out⟩

/-! ### impl_MulRest: function 19 -/
def impl_MulRest.f (k : Nat) (a0 : ByteArray) (a1 : ByteArray) (a2 : ByteArray) : Option (ByteArray) := (impl_modulus.f k a2 (([a0, a1] : List ByteArray))).bind fun bt633 => (if bt633.2 = true then ((impl_natOf.f k a0).bind fun t637 => ((impl_natOf.f k a1).bind fun t640 => ((impl_prime_mul.f k bt633.1 t637 t640).bind fun t643 => ((impl_nat_text.f k t643).bind fun t646 => (some t646))))) else (some (⟨#[]⟩ : ByteArray)))
set_option maxHeartbeats 8000000 in
set_option maxRecDepth 100000 in
theorem impl_MulRest.calls (k : Nat) (a0 : ByteArray) (a1 : ByteArray) (a2 : ByteArray) (r : ByteArray) (w : World) (h : impl_MulRest.f k a0 a1 a2 = some r) :
    Calls Try.prog 19 #[.string a0, .string a1, .string a2] w fun e w' => e = .returned (.string r) ∧ Below w.heap.size w w' := by
  have HB := Aside0.mk (Below.refl w.heap.size w)
  have H : ((impl_modulus.f k a2 (([a0, a1] : List ByteArray))).bind fun bt633 => (if bt633.2 = true then ((impl_natOf.f k a0).bind fun t637 => ((impl_natOf.f k a1).bind fun t640 => ((impl_prime_mul.f k bt633.1 t637 t640).bind fun t643 => ((impl_nat_text.f k t643).bind fun t646 => (some t646))))) else (some (⟨#[]⟩ : ByteArray)))) = some r := h
  clear h
  obtain ⟨y630, hy630⟩ : ∃ y_ : List ByteArray, y_ = (([a0, a1] : List ByteArray)) := ⟨_, rfl⟩
  replace H : ((impl_modulus.f k a2 y630).bind fun bt633 => (if bt633.2 = true then ((impl_natOf.f k a0).bind fun t637 => ((impl_natOf.f k a1).bind fun t640 => ((impl_prime_mul.f k bt633.1 t637 t640).bind fun t643 => ((impl_nat_text.f k t643).bind fun t646 => (some t646))))) else (some (⟨#[]⟩ : ByteArray)))) = some r := by first | (rw [hy630]; with_reducible exact H) | (have H2_ := (Option.bind_some _ _).symm.trans H; rw [hy630]; with_reducible exact H2_) | (have H2_ := (Option.bind_some _ _).symm.trans H; with_reducible exact H2_) | with_reducible exact H | (rw [hy630]; exact H) | exact H
  have Ny630 := Aside0.mk hy630
  clear hy630
  replace H := Option.bind_eq_some_iff.mp H
  obtain ⟨⟨t633, t636⟩, A40, H⟩ := H
  replace H : (if t636 = true then ((impl_natOf.f k a0).bind fun t637 => ((impl_natOf.f k a1).bind fun t640 => ((impl_prime_mul.f k t633 t637 t640).bind fun t643 => ((impl_nat_text.f k t643).bind fun t646 => (some t646))))) else (some (⟨#[]⟩ : ByteArray))) = some r := H
  have A4 := Aside0.mk A40
  clear A40
  by_cases c5 : t636 = true
  · subst c5
    have H1 : ((impl_natOf.f k a0).bind fun t637 => ((impl_natOf.f k a1).bind fun t640 => ((impl_prime_mul.f k t633 t637 t640).bind fun t643 => ((impl_nat_text.f k t643).bind fun t646 => (some t646))))) = some r := by rw [if_pos rfl] at H; exact H
    clear H
    have H := H1
    clear H1
    replace H := Option.bind_eq_some_iff.mp H
    obtain ⟨t637, A60, H⟩ := H
    have A6 := Aside0.mk A60
    clear A60
    replace H := Option.bind_eq_some_iff.mp H
    obtain ⟨t640, A70, H⟩ := H
    have A7 := Aside0.mk A70
    clear A70
    replace H := Option.bind_eq_some_iff.mp H
    obtain ⟨t643, A80, H⟩ := H
    have A8 := Aside0.mk A80
    clear A80
    replace H := Option.bind_eq_some_iff.mp H
    obtain ⟨t646, A90, H⟩ := H
    have A9 := Aside0.mk A90
    clear A90
    obtain rfl := Option.some.inj H
    go_enter Try.func19, Try.ntmps19
    go_wp2_with (first | ((with_reducible refine gate_dst (N := 13) rfl ?_); refine Kd.R_lit Kd.string _ 9 ?hg (N := 13) ?hd (xs := ([a0, a1] : List ByteArray)) (inner := [.string a0, .string a1]) (ok := fun _ => True) (okp := fun _ => True) ?hr ?hp (fun _ hk => hk) trivial (Below.refl _ _) (Nat.le_refl _) (by simp) ?_; (case hd => rfl); (case hg => rfl); (case hr => first | (go_simp; done) | (go_simp; rfl)); (case hp => exact (Reps.one (show Kd.M Kd.string _ _ _ a0 [.string a0] from rfl) (Reps.one (show Kd.M Kd.string _ _ _ a1 [.string a1] from rfl) (Reps.none _ _)))); intro v631 w10 ho11 hb hg_ hnew_; clear hg_ hnew_; (first | rw [← Ny630.out] at ho11 | (simp only [Int.reduceToNat] at ho11; rw [← Ny630.out] at ho11)); have HO632 := Aside0.mk (Kd.R_lower ho11 (below_size (pB_ HB.out))); replace HB := Aside0.mk (below_step (pB_ HB.out) hb); clear hb ho11; obtain ⟨Ao12, co12, eo12⟩ := Kd.R_slice HO632.out; subst eo12) | ((with_reducible refine gate_callee (f := 38) rfl ?_); refine gL_ 14 Try.func38 rfl #[.string a2, .slice Ao12 y630.length co12] ?_; (with_reducible refine (impl_modulus.calls k a2 _ _ y630 t633 true _ ?side1 ?side2 A4.out).mono ?_); (case side1 => exact pC_ (Kd.R_reads' HO632.out).2.2); (case side2 => exact (Kd.R_reads' HO632.out).2.1); rintro e w13 ⟨v634, rfl, ho0, hb⟩; refine ⟨_, rfl, ?_⟩; have HO635 := Aside0.mk (Kd.V_lower (Kd.V_mono (ok' := fun k_ => some k_ ≠ (.slice Ao12 y630.length co12 : Value).ownBlock) ho0 (fun k_ hk_ => (Kd.fresh' (Kd.R_lt (pR_ HO632.out)) k_ hk_))) (below_size (pB_ HB.out))); replace HO632 := Aside0.mk (Kd.R_below (pR_ HO632.out) hb); replace HB := Aside0.mk (below_step (pB_ HB.out) hb); clear hb ho0) | ((with_reducible refine gate_callee (f := 41) rfl ?_); refine gL_ 21 Try.func41 rfl #[.string a0] ?_; (with_reducible refine (impl_natOf.calls k a0 t637 _ A6.out).mono ?_); rintro e w14 ⟨v638, rfl, ho0, hb⟩; refine ⟨_, rfl, ?_⟩; replace HO635 := Aside0.mk (Kd.V_below (pV_ HO635.out) hb); have HO639 := Aside0.mk (Kd.V_lower (Kd.V_mono (ok' := fun k_ => some k_ ≠ (.slice Ao12 y630.length co12 : Value).ownBlock) ho0 (fun k_ hk_ => (Kd.fresh' (Kd.R_lt (pR_ HO632.out)) k_ hk_))) (below_size (pB_ HB.out))); replace HO632 := Aside0.mk (Kd.R_below (pR_ HO632.out) hb); replace HB := Aside0.mk (below_step (pB_ HB.out) hb); clear hb ho0) | ((with_reducible refine gate_callee (f := 41) rfl ?_); refine gL_ 23 Try.func41 rfl #[.string a1] ?_; (with_reducible refine (impl_natOf.calls k a1 t640 _ A7.out).mono ?_); rintro e w15 ⟨v641, rfl, ho0, hb⟩; refine ⟨_, rfl, ?_⟩; replace HO635 := Aside0.mk (Kd.V_below (pV_ HO635.out) hb); replace HO639 := Aside0.mk (Kd.V_below (pV_ HO639.out) hb); have HO642 := Aside0.mk (Kd.V_lower (Kd.V_mono (ok' := fun k_ => some k_ ≠ (.slice Ao12 y630.length co12 : Value).ownBlock) ho0 (fun k_ hk_ => (Kd.fresh' (Kd.R_lt (pR_ HO632.out)) k_ hk_))) (below_size (pB_ HB.out))); replace HO632 := Aside0.mk (Kd.R_below (pR_ HO632.out) hb); replace HB := Aside0.mk (below_step (pB_ HB.out) hb); clear hb ho0; obtain ⟨Ao16, co16, eo16⟩ := Kd.V_slice HO635.out; subst eo16; obtain ⟨Ao17, co17, eo17⟩ := Kd.V_slice HO639.out; subst eo17; obtain ⟨Ao18, co18, eo18⟩ := Kd.V_slice HO642.out; subst eo18) | ((with_reducible refine gate_callee (f := 51) rfl ?_); refine gL_ 24 Try.func51 rfl #[.slice Ao16 t633.length co16, .slice Ao17 t637.length co17, .slice Ao18 t640.length co18] ?_; (with_reducible refine (impl_prime_mul.calls k _ _ t633 _ _ t637 _ _ t640 t643 _ ?side1 ?side2 ?side3 ?side4 ?side5 ?side6 A8.out).mono ?_); (case side1 => exact pC_ (Kd.V_reads' HO635.out).2.2); (case side2 => exact (Kd.V_reads' HO635.out).2.1); (case side3 => exact pC_ (Kd.V_reads' HO639.out).2.2); (case side4 => exact (Kd.V_reads' HO639.out).2.1); (case side5 => exact pC_ (Kd.V_reads' HO642.out).2.2); (case side6 => exact (Kd.V_reads' HO642.out).2.1); rintro e w19 ⟨v644, rfl, ho0, hb⟩; refine ⟨_, rfl, ?_⟩; replace HO635 := Aside0.mk (Kd.V_below (pV_ HO635.out) hb); replace HO639 := Aside0.mk (Kd.V_below (pV_ HO639.out) hb); replace HO642 := Aside0.mk (Kd.V_below (pV_ HO642.out) hb); have HO645 := Aside0.mk (Kd.V_lower (Kd.V_mono (ok' := fun k_ => some k_ ≠ (.slice Ao12 y630.length co12 : Value).ownBlock) ho0 (fun k_ hk_ => (Kd.fresh' (Kd.R_lt (pR_ HO632.out)) k_ hk_))) (below_size (pB_ HB.out))); replace HO632 := Aside0.mk (Kd.R_below (pR_ HO632.out) hb); replace HB := Aside0.mk (below_step (pB_ HB.out) hb); clear hb ho0; obtain ⟨Ao20, co20, eo20⟩ := Kd.V_slice HO645.out; subst eo20) | ((with_reducible refine gate_callee (f := 42) rfl ?_); refine gL_ 25 Try.func42 rfl #[.slice Ao20 t643.length co20] ?_; (with_reducible refine (impl_nat_text.calls k _ _ t643 t646 _ ?side1 ?side2 A9.out).mono ?_); (case side1 => exact pC_ (Kd.V_reads' HO645.out).2.2); (case side2 => exact (Kd.V_reads' HO645.out).2.1); rintro e w21 ⟨rfl, hb⟩; refine ⟨_, rfl, ?_⟩; replace HO632 := Aside0.mk (Kd.R_below (pR_ HO632.out) hb); replace HO635 := Aside0.mk (Kd.V_below (pV_ HO635.out) hb); replace HO639 := Aside0.mk (Kd.V_below (pV_ HO639.out) hb); replace HO642 := Aside0.mk (Kd.V_below (pV_ HO642.out) hb); replace HO645 := Aside0.mk (Kd.V_below (pV_ HO645.out) hb); replace HB := Aside0.mk (below_step (pB_ HB.out) hb); clear hb))
    go_ret
    exact ⟨by first | rfl | (simp [errW_none, errW_some] <;> rfl) | (simp [*, errW_none, errW_some] <;> rfl), pB_ HB.out⟩
  · replace c5 := Bool.eq_false_iff.mpr c5
    subst c5
    have H1 : (some (⟨#[]⟩ : ByteArray)) = some r := by rw [if_neg (show ¬ (false = true) by decide)] at H; exact H
    clear H
    have H := H1
    clear H1
    obtain rfl := Option.some.inj H
    go_enter Try.func19, Try.ntmps19
    go_wp2_with (first | ((with_reducible refine gate_dst (N := 13) rfl ?_); refine Kd.R_lit Kd.string _ 9 ?hg (N := 13) ?hd (xs := ([a0, a1] : List ByteArray)) (inner := [.string a0, .string a1]) (ok := fun _ => True) (okp := fun _ => True) ?hr ?hp (fun _ hk => hk) trivial (Below.refl _ _) (Nat.le_refl _) (by simp) ?_; (case hd => rfl); (case hg => rfl); (case hr => first | (go_simp; done) | (go_simp; rfl)); (case hp => exact (Reps.one (show Kd.M Kd.string _ _ _ a0 [.string a0] from rfl) (Reps.one (show Kd.M Kd.string _ _ _ a1 [.string a1] from rfl) (Reps.none _ _)))); intro v631 w22 ho23 hb hg_ hnew_; clear hg_ hnew_; (first | rw [← Ny630.out] at ho23 | (simp only [Int.reduceToNat] at ho23; rw [← Ny630.out] at ho23)); have HO632 := Aside0.mk (Kd.R_lower ho23 (below_size (pB_ HB.out))); replace HB := Aside0.mk (below_step (pB_ HB.out) hb); clear hb ho23; obtain ⟨Ao24, co24, eo24⟩ := Kd.R_slice HO632.out; subst eo24) | ((with_reducible refine gate_callee (f := 38) rfl ?_); refine gL_ 14 Try.func38 rfl #[.string a2, .slice Ao24 y630.length co24] ?_; (with_reducible refine (impl_modulus.calls k a2 _ _ y630 t633 false _ ?side1 ?side2 A4.out).mono ?_); (case side1 => exact pC_ (Kd.R_reads' HO632.out).2.2); (case side2 => exact (Kd.R_reads' HO632.out).2.1); rintro e w25 ⟨v634, rfl, ho0, hb⟩; refine ⟨_, rfl, ?_⟩; have HO635 := Aside0.mk (Kd.V_lower (Kd.V_mono (ok' := fun k_ => some k_ ≠ (.slice Ao24 y630.length co24 : Value).ownBlock) ho0 (fun k_ hk_ => (Kd.fresh' (Kd.R_lt (pR_ HO632.out)) k_ hk_))) (below_size (pB_ HB.out))); replace HO632 := Aside0.mk (Kd.R_below (pR_ HO632.out) hb); replace HB := Aside0.mk (below_step (pB_ HB.out) hb); clear hb ho0))
    go_ret
    exact ⟨by first | rfl | (simp [errW_none, errW_some] <;> rfl) | (simp [*, errW_none, errW_some] <;> rfl), pB_ HB.out⟩

/-! ### laws_FnExactMulRest: function 6 -/
def laws_FnExactMulRest.f (k : Nat) (a0 : ByteArray) (a1 : ByteArray) (a2 : ByteArray) : Option (Bool) := if (a0.size : Int) > 1048576 then (some true) else (if (a1.size : Int) > 1048576 then (some true) else (if (a2.size : Int) > 1048576 then (some true) else ((spec_MulRest.f k a0 a1 a2).bind fun t647 => ((impl_MulRest.f k a0 a1 a2).bind fun t648 => (if t648.toList = t647.toList then (some true) else (some false))))))
set_option maxHeartbeats 8000000 in
set_option maxRecDepth 100000 in
theorem laws_FnExactMulRest.calls (k : Nat) (a0 : ByteArray) (a1 : ByteArray) (a2 : ByteArray) (r : Bool) (w : World) (h : laws_FnExactMulRest.f k a0 a1 a2 = some r) :
    Calls Try.prog 6 #[.string a0, .string a1, .string a2] w fun e w' => e = .returned (.bool r) ∧ Below w.heap.size w w' := by
  have HB := Aside0.mk (Below.refl w.heap.size w)
  have H : (if (a0.size : Int) > 1048576 then (some true) else (if (a1.size : Int) > 1048576 then (some true) else (if (a2.size : Int) > 1048576 then (some true) else ((spec_MulRest.f k a0 a1 a2).bind fun t647 => ((impl_MulRest.f k a0 a1 a2).bind fun t648 => (if t648.toList = t647.toList then (some true) else (some false))))))) = some r := h
  clear h
  by_cases c4 : (a0.size : Int) > 1048576
  · rw [if_pos c4] at H
    have c4b0 : decide (1048576 < (a0.size : Int)) = true := decide_eq_true c4
    have c4b1 : decide (1048576 < a0.size) = true := decide_eq_true (by omega)
    clear c4
    obtain rfl := Option.some.inj H
    go_enter Try.func6, Try.ntmps6
    go_wp2
    go_ret
    exact ⟨by first | rfl | (simp [errW_none, errW_some] <;> rfl) | (simp [*, errW_none, errW_some] <;> rfl), pB_ HB.out⟩
  rw [if_neg c4] at H
  have c4b0 : decide (1048576 < (a0.size : Int)) = false := decide_eq_false c4
  have c4b1 : decide (1048576 < a0.size) = false := decide_eq_false (by omega)
  clear c4
  by_cases c5 : (a1.size : Int) > 1048576
  · rw [if_pos c5] at H
    have c5b0 : decide (1048576 < (a1.size : Int)) = true := decide_eq_true c5
    have c5b1 : decide (1048576 < a1.size) = true := decide_eq_true (by omega)
    clear c5
    obtain rfl := Option.some.inj H
    go_enter Try.func6, Try.ntmps6
    go_wp2
    go_ret
    exact ⟨by first | rfl | (simp [errW_none, errW_some] <;> rfl) | (simp [*, errW_none, errW_some] <;> rfl), pB_ HB.out⟩
  rw [if_neg c5] at H
  have c5b0 : decide (1048576 < (a1.size : Int)) = false := decide_eq_false c5
  have c5b1 : decide (1048576 < a1.size) = false := decide_eq_false (by omega)
  clear c5
  by_cases c6 : (a2.size : Int) > 1048576
  · rw [if_pos c6] at H
    have c6b0 : decide (1048576 < (a2.size : Int)) = true := decide_eq_true c6
    have c6b1 : decide (1048576 < a2.size) = true := decide_eq_true (by omega)
    clear c6
    obtain rfl := Option.some.inj H
    go_enter Try.func6, Try.ntmps6
    go_wp2
    go_ret
    exact ⟨by first | rfl | (simp [errW_none, errW_some] <;> rfl) | (simp [*, errW_none, errW_some] <;> rfl), pB_ HB.out⟩
  rw [if_neg c6] at H
  have c6b0 : decide (1048576 < (a2.size : Int)) = false := decide_eq_false c6
  have c6b1 : decide (1048576 < a2.size) = false := decide_eq_false (by omega)
  clear c6
  replace H := Option.bind_eq_some_iff.mp H
  obtain ⟨t647, A70, H⟩ := H
  have A7 := Aside0.mk A70
  clear A70
  replace H := Option.bind_eq_some_iff.mp H
  obtain ⟨t648, A80, H⟩ := H
  have A8 := Aside0.mk A80
  clear A80
  by_cases c9 : t648.toList = t647.toList
  rotate_left
  · rw [if_neg c9] at H
    have c9b0 : (t648.toList == t647.toList) = false := beq_eq_false_iff_ne.mpr c9
    have c9b1 : (t648.toList != t647.toList) = true := bne_iff_ne.mpr c9
    obtain rfl := Option.some.inj H
    go_enter Try.func6, Try.ntmps6
    go_wp2_with (first | ((with_reducible refine gate_callee (f := 18) rfl ?_); refine gL_ 21 Try.func18 rfl #[.string a0, .string a1, .string a2] ?_; (with_reducible refine (spec_MulRest.calls k a0 a1 a2 t647 _ A7.out).mono ?_); rintro e w12 ⟨rfl, hb⟩; refine ⟨_, rfl, ?_⟩; replace HB := Aside0.mk (below_step (pB_ HB.out) hb); clear hb) | ((with_reducible refine gate_callee (f := 19) rfl ?_); refine gL_ 25 Try.func19 rfl #[.string a0, .string a1, .string a2] ?_; (with_reducible refine (impl_MulRest.calls k a0 a1 a2 t648 _ A8.out).mono ?_); rintro e w13 ⟨rfl, hb⟩; refine ⟨_, rfl, ?_⟩; replace HB := Aside0.mk (below_step (pB_ HB.out) hb); clear hb))
    go_ret
    exact ⟨by first | rfl | (simp [errW_none, errW_some] <;> rfl) | (simp [*, errW_none, errW_some] <;> rfl), pB_ HB.out⟩

  rw [if_pos c9] at H
  have c9b0 : (t648.toList == t647.toList) = true := beq_iff_eq.mpr c9
  have c9b1 : (t648.toList != t647.toList) = false := bne_eq_false_iff_eq.mpr c9
  clear c9
  obtain rfl := Option.some.inj H
  go_enter Try.func6, Try.ntmps6
  go_wp2_with (first | ((with_reducible refine gate_callee (f := 18) rfl ?_); refine gL_ 21 Try.func18 rfl #[.string a0, .string a1, .string a2] ?_; (with_reducible refine (spec_MulRest.calls k a0 a1 a2 t647 _ A7.out).mono ?_); rintro e w10 ⟨rfl, hb⟩; refine ⟨_, rfl, ?_⟩; replace HB := Aside0.mk (below_step (pB_ HB.out) hb); clear hb) | ((with_reducible refine gate_callee (f := 19) rfl ?_); refine gL_ 25 Try.func19 rfl #[.string a0, .string a1, .string a2] ?_; (with_reducible refine (impl_MulRest.calls k a0 a1 a2 t648 _ A8.out).mono ?_); rintro e w11 ⟨rfl, hb⟩; refine ⟨_, rfl, ?_⟩; replace HB := Aside0.mk (below_step (pB_ HB.out) hb); clear hb))
  go_ret
  exact ⟨by first | rfl | (simp [errW_none, errW_some] <;> rfl) | (simp [*, errW_none, errW_some] <;> rfl), pB_ HB.out⟩
/-- THE ONE PURE STATEMENT of laws_FnExactMulRest: yours. -/
def laws_FnExactMulRest.Pure : Prop := ∀ (a0 : ByteArray) (a1 : ByteArray) (a2 : ByteArray), a0.size ≤ 140737488351232 → a1.size ≤ 140737488351232 → a2.size ≤ 140737488351232 → ∃ k, laws_FnExactMulRest.f k a0 a1 a2 = some true
theorem laws_FnExactMulRest.walk (P : laws_FnExactMulRest.Pure) (a0 : ByteArray) (a1 : ByteArray) (a2 : ByteArray) (w : World) (w0 : a0.size ≤ 140737488351232) (w1 : a1.size ≤ 140737488351232) (w2 : a2.size ≤ 140737488351232) :
    Calls Try.prog 6 #[.string a0, .string a1, .string a2] w fun e w' => e = .returned (.bool true) ∧ Below w.heap.size w w' := by
  obtain ⟨k, h⟩ := P a0 a1 a2 w0 w1 w2
  refine (laws_FnExactMulRest.calls k a0 a1 a2 true w h).mono ?_
  rintro e w' ⟨rfl, hd⟩
  exact ⟨rfl, hd⟩

end Go.Proofs.Ytghhnjhjhjbljaa.F
