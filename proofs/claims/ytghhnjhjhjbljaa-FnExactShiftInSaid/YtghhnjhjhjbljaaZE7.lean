-- Made for this seat by a program of this session (wip/fork, wip/slim.py). Lean checks it.
import Derived.Test.YtghhnjhjhjbljaaVEFx0
import Derived.Test.YtghhnjhjhjbljaaZE0
import Derived.Test.YtghhnjhjhjbljaaZE1
import Derived.Test.YtghhnjhjhjbljaaZE2
import Derived.Test.YtghhnjhjhjbljaaZE3
import Derived.Test.YtghhnjhjhjbljaaZE6
namespace Go.Proofs.Ytghhnjhjhjbljaa.F
open Go.RowKit Go.Proofs.YtghhnjhjhjbljaaW.PrintWords Go.Proofs.YtghhnjhjhjbljaaW.PrintLast Go.Proofs.YtghhnjhjhjbljaaW.PrintMore
attribute [local go_sem] max2_int min2_int max_two min_two max_three min_three max_four min_four   -- for this text's walks alone
set_option linter.unusedVariables false
set_option linter.unusedSimpArgs false

/-! ### impl_prime_pow: function 57 -/
def impl_prime_pow.l0 : Nat → List Int → List Int → List Int → List Int → Int → Option (List Int)
  | 0, _, _, _, _, _ => none
  | k + 1, x0, x1, x2, x7, x8 => if x8 ≥ 0 then ((impl_prime_mul.f k x0 x7 x7).bind fun t684 => ((impl_nat_bit.f x2 x8).bind fun t687 => (if t687 = 1 then ((impl_prime_mul.f k x0 t684 x1).bind fun t688 => (impl_prime_pow.l0 k x0 x1 x2 t688 (wrap64 (x8 - 1)))) else (impl_prime_pow.l0 k x0 x1 x2 t684 (wrap64 (x8 - 1)))))) else (some x7)
def impl_prime_pow.f (k : Nat) (l0 : List Int) (l1 : List Int) (l2 : List Int) : Option (List Int) := (impl_small.f k 1).bind fun t677 => ((impl_nat_rest.f k t677 l0).bind fun t680 => ((impl_nat_size.f k l2).bind fun t683 => (impl_prime_pow.l0 k l0 l1 l2 t680 (wrap64 (t683 - 1)))))
set_option maxHeartbeats 8000000 in
set_option maxRecDepth 100000 in
theorem impl_prime_pow.calls (k : Nat) (A0 : Option Addr) (c0 : Nat) (l0 : List Int) (A1 : Option Addr) (c1 : Nat) (l1 : List Int) (A2 : Option Addr) (c2 : Nat) (l2 : List Int) (r : List Int) (w : World) (hr0 : Kd.C (Kd.int .u64) w A0 l0.length l0) (hc0 : l0.length ≤ c0) (hr1 : Kd.C (Kd.int .u64) w A1 l1.length l1) (hc1 : l1.length ≤ c1) (hr2 : Kd.C (Kd.int .u64) w A2 l2.length l2) (hc2 : l2.length ≤ c2) (h : impl_prime_pow.f k l0 l1 l2 = some r) :
    Calls Try.prog 57 #[.slice A0 l0.length c0, .slice A1 l1.length c1, .slice A2 l2.length c2] w fun e w' => ∃ v0_ : Value, e = .returned (v0_) ∧ Kd.V (Kd.int .u64) 83 w' w.heap.size (fun k_ => (w.heap.size ≤ k_)) v0_ r ∧ Below w.heap.size w w' := by
  have HR0 := Aside0.mk hr0
  have HC0 := Aside0.mk hc0
  clear hr0 hc0
  have HR1 := Aside0.mk hr1
  have HC1 := Aside0.mk hc1
  clear hr1 hc1
  have HR2 := Aside0.mk hr2
  have HC2 := Aside0.mk hc2
  clear hr2 hc2
  have HB := Aside0.mk (Below.refl w.heap.size w)
  have H : ((impl_small.f k 1).bind fun t677 => ((impl_nat_rest.f k t677 l0).bind fun t680 => ((impl_nat_size.f k l2).bind fun t683 => (impl_prime_pow.l0 k l0 l1 l2 t680 (wrap64 (t683 - 1)))))) = some r := h
  clear h
  replace H := Option.bind_eq_some_iff.mp H
  obtain ⟨t677, A40, H⟩ := H
  have A4 := Aside0.mk A40
  clear A40
  replace H := Option.bind_eq_some_iff.mp H
  obtain ⟨t680, A50, H⟩ := H
  have A5 := Aside0.mk A50
  clear A50
  replace H := Option.bind_eq_some_iff.mp H
  obtain ⟨t683, A60, H⟩ := H
  have A6 := Aside0.mk A60
  clear A60
  have H' := Aside0.mk H
  clear H
  go_enter Try.func57, Try.ntmps57
  go_wp2_with (first | ((with_reducible refine gate_callee (f := 70) rfl ?_); refine gL_ 9 Try.func70 rfl #[.int .i64 1] ?_; (with_reducible refine (impl_small.calls k 1 t677 _ A4.out).mono ?_); rintro e w7 ⟨v678, rfl, ho0, hb⟩; refine ⟨_, rfl, ?_⟩; have HO679 := Aside0.mk (Kd.V_lower (Kd.V_mono (ok' := fun k_ => (w.heap.size ≤ k_)) ho0 (fun k_ hk_ => (Nat.le_trans (below_size (pB_ HB.out)) hk_))) (below_size (pB_ HB.out))); replace HB := Aside0.mk (below_step (pB_ HB.out) hb); clear hb ho0; obtain ⟨Ao8, co8, eo8⟩ := Kd.V_slice HO679.out; subst eo8) | ((with_reducible refine gate_callee (f := 48) rfl ?_); refine gL_ 11 Try.func48 rfl #[.slice Ao8 t677.length co8, .slice A0 l0.length c0] ?_; (with_reducible refine (impl_nat_rest.calls k (fun k_ => (w.heap.size ≤ k_)) _ _ t677 _ _ l0 t680 _ ?side1 ?side2 ?side3 A5.out).mono ?_); (case side1 => exact HO679.out); (case side2 => exact pC_ (Kd.C_below HR0.out HB.out)); (case side3 => exact HC0.out); rintro e w9 ⟨v681, rfl, ho0, hb⟩; refine ⟨_, rfl, ?_⟩; replace HO679 := Aside0.mk (Kd.V_below (pV_ HO679.out) hb); have HO682 := Aside0.mk (Kd.V_lower (Kd.V_mono (ok' := fun k_ => (w.heap.size ≤ k_)) ho0 (fun k_ hk_ => Or.elim hk_ (fun hs_ => hs_) (fun hn_ => (Nat.le_trans (below_size (pB_ HB.out)) hn_)))) (below_size (pB_ HB.out))); replace HB := Aside0.mk (below_step (pB_ HB.out) hb); clear hb ho0) | ((with_reducible refine gate_callee (f := 76) rfl ?_); refine gL_ 13 Try.func76 rfl #[.slice A2 l2.length c2] ?_; (with_reducible refine (impl_nat_size.calls k _ _ l2 t683 _ ?side1 ?side2 A6.out).mono ?_); (case side1 => exact pC_ (Kd.C_below HR2.out HB.out)); (case side2 => exact HC2.out); rintro e w' ⟨rfl, ⟨nd, rfl⟩⟩; refine ⟨_, rfl, ?_⟩))
  go_loopg [7, 8] k (fun kq v7 v8 w' => ∃ (x7_1 : List Int) (x8_1 : Int), v8 = .int .i64 x8_1 ∧ Aside0 (impl_prime_pow.l0 kq l0 l1 l2 x7_1 x8_1 = some r) ∧ Aside0 (kq ≤ k) ∧ Aside0 (Kd.V (Kd.int .u64) 83 w' w.heap.size (fun k_ => (w.heap.size ≤ k_)) v7 x7_1) ∧ Aside0 (Below w.heap.size w w'))
  case atStart => exact ⟨(t680), (wrap64 (t683 - 1)), (by first | rfl | (simp; done) | (simp [*]; done)), H', ⟨Nat.le_refl _⟩, ⟨by (with_reducible repeat (first | apply Kd.V_alloc | apply Kd.V_drewN | apply Kd.V_drew)); exact HO682.out⟩, ⟨pB_ HB.out⟩⟩
  clear H'
  try clear c1
  try clear c2
  try clear p2
  try clear c4
  try clear c5
  try clear p6
  try clear c7
  obtain ⟨x7_1, x8_1, rfl, HA, HK1, HO_7, HB⟩ := hrel
  rcases gk with _ | k1
  · exact absurd HA.out (by simp [impl_prime_pow.l0])
  have H := HA.out
  clear HA
  simp only [impl_prime_pow.l0] at H
  by_cases c10 : x8_1 ≥ 0
  rotate_left
  · rw [if_neg c10] at H
    have c10b0 : decide (0 ≤ x8_1) = false := decide_eq_false c10
    clear c10
    obtain rfl := Option.some.inj H
    go_wp2
    go_ret
    exact ⟨_, by first | rfl | (simp [errW_none, errW_some] <;> rfl) | (simp [*, errW_none, errW_some] <;> rfl), by (with_reducible repeat (first | apply Kd.V_alloc | apply Kd.V_drewN | apply Kd.V_drew)); exact HO_7.out, pB_ HB.out⟩

  rw [if_pos c10] at H
  have c10b0 : decide (0 ≤ x8_1) = true := decide_eq_true c10
  clear c10
  replace H := Option.bind_eq_some_iff.mp H
  obtain ⟨t684, A110, H⟩ := H
  have A11 := Aside0.mk A110
  clear A110
  replace H := Option.bind_eq_some_iff.mp H
  obtain ⟨t687, A120, H⟩ := H
  have A12 := Aside0.mk A120
  clear A120
  by_cases c13 : t687 = 1
  rotate_left
  · rw [if_neg c13] at H
    have c13b0 : (t687 == 1) = false := beq_eq_false_iff_ne.mpr c13
    have c13b1 : (t687 != 1) = true := bne_iff_ne.mpr c13
    have H' := Aside0.mk H
    clear H
    obtain ⟨Ao19, co19, eo19⟩ := Kd.V_slice HO_7.out
    subst eo19
    go_wp2_with (first | ((with_reducible refine gate_callee (f := 51) rfl ?_); refine gL_ 22 Try.func51 rfl #[.slice A0 l0.length c0, .slice Ao19 x7_1.length co19, .slice Ao19 x7_1.length co19] ?_; (with_reducible refine (impl_prime_mul.calls k1 _ _ l0 _ _ x7_1 _ _ x7_1 t684 _ ?side1 ?side2 ?side3 ?side4 ?side5 ?side6 A11.out).mono ?_); (case side1 => exact pC_ (Kd.C_below HR0.out HB.out)); (case side2 => exact HC0.out); (case side3 => exact pC_ (Kd.V_reads' HO_7.out).2.2); (case side4 => exact (Kd.V_reads' HO_7.out).2.1); (case side5 => exact pC_ (Kd.V_reads' HO_7.out).2.2); (case side6 => exact (Kd.V_reads' HO_7.out).2.1); rintro e w20 ⟨v685, rfl, ho0, hb⟩; refine ⟨_, rfl, ?_⟩; replace HO_7 := Aside0.mk (Kd.V_below (pV_ HO_7.out) hb); have HO686 := Aside0.mk (Kd.V_lower (Kd.V_mono (ok' := fun k_ => (w.heap.size ≤ k_)) ho0 (fun k_ hk_ => (Nat.le_trans (below_size (pB_ HB.out)) hk_))) (below_size (pB_ HB.out))); replace HB := Aside0.mk (below_step (pB_ HB.out) hb); clear hb ho0) | ((with_reducible refine gate_callee (f := 72) rfl ?_); refine gL_ 25 Try.func72 rfl #[.slice A2 l2.length c2, .int .i64 x8_1] ?_; (with_reducible refine (impl_nat_bit.calls _ _ l2 x8_1 t687 _ ?side1 ?side2 A12.out).mono ?_); (case side1 => exact pC_ (Kd.C_below HR2.out HB.out)); (case side2 => exact HC2.out); rintro e w' ⟨rfl, ⟨nd, rfl⟩⟩; refine ⟨_, rfl, ?_⟩))
    go_roundg k1
    case measure => have := HK1.out; omega
    case rel => exact ⟨(t684), (wrap64 (x8_1 - 1)), (by first | rfl | (simp; done) | (simp [*]; done)), H', ⟨by have := HK1.out; omega⟩, ⟨by (with_reducible repeat (first | apply Kd.V_alloc | apply Kd.V_drewN | apply Kd.V_drew)); exact HO686.out⟩, ⟨pB_ HB.out⟩⟩
  rw [if_pos c13] at H
  have c13b0 : (t687 == 1) = true := beq_iff_eq.mpr c13
  have c13b1 : (t687 != 1) = false := bne_eq_false_iff_eq.mpr c13
  clear c13
  replace H := Option.bind_eq_some_iff.mp H
  obtain ⟨t688, A140, H⟩ := H
  have A14 := Aside0.mk A140
  clear A140
  have H' := Aside0.mk H
  clear H
  obtain ⟨Ao15, co15, eo15⟩ := Kd.V_slice HO_7.out
  subst eo15
  go_wp2_with (first | ((with_reducible refine gate_callee (f := 51) rfl ?_); refine gL_ 22 Try.func51 rfl #[.slice A0 l0.length c0, .slice Ao15 x7_1.length co15, .slice Ao15 x7_1.length co15] ?_; (with_reducible refine (impl_prime_mul.calls k1 _ _ l0 _ _ x7_1 _ _ x7_1 t684 _ ?side1 ?side2 ?side3 ?side4 ?side5 ?side6 A11.out).mono ?_); (case side1 => exact pC_ (Kd.C_below HR0.out HB.out)); (case side2 => exact HC0.out); (case side3 => exact pC_ (Kd.V_reads' HO_7.out).2.2); (case side4 => exact (Kd.V_reads' HO_7.out).2.1); (case side5 => exact pC_ (Kd.V_reads' HO_7.out).2.2); (case side6 => exact (Kd.V_reads' HO_7.out).2.1); rintro e w16 ⟨v685, rfl, ho0, hb⟩; refine ⟨_, rfl, ?_⟩; replace HO_7 := Aside0.mk (Kd.V_below (pV_ HO_7.out) hb); have HO686 := Aside0.mk (Kd.V_lower (Kd.V_mono (ok' := fun k_ => (w.heap.size ≤ k_)) ho0 (fun k_ hk_ => (Nat.le_trans (below_size (pB_ HB.out)) hk_))) (below_size (pB_ HB.out))); replace HB := Aside0.mk (below_step (pB_ HB.out) hb); clear hb ho0) | ((with_reducible refine gate_callee (f := 72) rfl ?_); refine gL_ 25 Try.func72 rfl #[.slice A2 l2.length c2, .int .i64 x8_1] ?_; (with_reducible refine (impl_nat_bit.calls _ _ l2 x8_1 t687 _ ?side1 ?side2 A12.out).mono ?_); (case side1 => exact pC_ (Kd.C_below HR2.out HB.out)); (case side2 => exact HC2.out); rintro e w' ⟨rfl, ⟨nd, rfl⟩⟩; refine ⟨_, rfl, ?_⟩; obtain ⟨Ao17, co17, eo17⟩ := Kd.V_slice HO686.out; subst eo17) | ((with_reducible refine gate_callee (f := 51) rfl ?_); refine gL_ 30 Try.func51 rfl #[.slice A0 l0.length c0, .slice Ao17 t684.length co17, .slice A1 l1.length c1] ?_; (with_reducible refine (impl_prime_mul.calls k1 _ _ l0 _ _ t684 _ _ l1 t688 _ ?side1 ?side2 ?side3 ?side4 ?side5 ?side6 A14.out).mono ?_); (case side1 => exact pC_ (Kd.C_below HR0.out (pB_ HB.out))); (case side2 => exact HC0.out); (case side3 => exact pC_ (Kd.V_reads' HO686.out).2.2); (case side4 => exact (Kd.V_reads' HO686.out).2.1); (case side5 => exact pC_ (Kd.C_below HR1.out (pB_ HB.out))); (case side6 => exact HC1.out); rintro e w18 ⟨v689, rfl, ho0, hb⟩; refine ⟨_, rfl, ?_⟩; replace HO_7 := Aside0.mk (Kd.V_below (pV_ HO_7.out) hb); replace HO686 := Aside0.mk (Kd.V_below (pV_ HO686.out) hb); have HO690 := Aside0.mk (Kd.V_lower (Kd.V_mono (ok' := fun k_ => (w.heap.size ≤ k_)) ho0 (fun k_ hk_ => (Nat.le_trans (below_size (pB_ HB.out)) hk_))) (below_size (pB_ HB.out))); replace HB := Aside0.mk (below_step (pB_ HB.out) hb); clear hb ho0))
  go_roundg k1
  case measure => have := HK1.out; omega
  case rel => exact ⟨(t688), (wrap64 (x8_1 - 1)), (by first | rfl | (simp; done) | (simp [*]; done)), H', ⟨by have := HK1.out; omega⟩, ⟨by (with_reducible repeat (first | apply Kd.V_alloc | apply Kd.V_drewN | apply Kd.V_drew)); exact HO690.out⟩, ⟨pB_ HB.out⟩⟩

/-! ### impl_LimbsOf: function 89 -/
def impl_LimbsOf.f (a0 : ByteArray) : Option (Int) := (impl_GreatOk.f a0).bind fun t691 => (if t691 = true then (some (wrap64 (Int.tdiv (wrap64 ((a0.size : Int) + 2)) 3))) else (some 0))
set_option maxHeartbeats 8000000 in
set_option maxRecDepth 100000 in
theorem impl_LimbsOf.calls (a0 : ByteArray) (r : Int) (w : World) (h : impl_LimbsOf.f a0 = some r) :
    Calls Try.prog 89 #[.string a0] w fun e w' => e = .returned (.int .i64 r) ∧ Drawn0 w w' := by
  have H : ((impl_GreatOk.f a0).bind fun t691 => (if t691 = true then (some (wrap64 (Int.tdiv (wrap64 ((a0.size : Int) + 2)) 3))) else (some 0))) = some r := h
  clear h
  replace H := Option.bind_eq_some_iff.mp H
  obtain ⟨t691, A20, H⟩ := H
  have A2 := Aside0.mk A20
  clear A20
  by_cases c3 : t691 = true
  · subst c3
    have H1 : (some (wrap64 (Int.tdiv (wrap64 ((a0.size : Int) + 2)) 3))) = some r := by rw [if_pos rfl] at H; exact H
    clear H
    have H := H1
    clear H1
    obtain rfl := Option.some.inj H
    go_enter Try.func89, Try.ntmps89
    go_wp2_with (first | ((with_reducible refine gate_callee (f := 47) rfl ?_); refine gL_ 4 Try.func47 rfl #[.string a0] ?_; (with_reducible refine (impl_GreatOk.calls a0 true _ A2.out).mono ?_); rintro e w' ⟨rfl, ⟨nd, rfl⟩⟩; refine ⟨_, rfl, ?_⟩))
    go_ret
    exact ⟨by first | rfl | (simp; done) | (simp [*]; done), by repeat (first | exact Drawn0.refl _ | apply Drawn0.step)⟩
  · replace c3 := Bool.eq_false_iff.mpr c3
    subst c3
    have H1 : (some 0) = some r := by rw [if_neg (show ¬ (false = true) by decide)] at H; exact H
    clear H
    have H := H1
    clear H1
    obtain rfl := Option.some.inj H
    go_enter Try.func89, Try.ntmps89
    go_wp2_with (first | ((with_reducible refine gate_callee (f := 47) rfl ?_); refine gL_ 4 Try.func47 rfl #[.string a0] ?_; (with_reducible refine (impl_GreatOk.calls a0 false _ A2.out).mono ?_); rintro e w' ⟨rfl, ⟨nd, rfl⟩⟩; refine ⟨_, rfl, ?_⟩))
    go_ret
    exact ⟨by first | rfl | (simp; done) | (simp [*]; done), by repeat (first | exact Drawn0.refl _ | apply Drawn0.step)⟩

/-! ### impl_prime_shift: function 55 -/
def impl_prime_shift.f (k : Nat) (l0 : List Int) : Option (List Int) := (impl_small.f k 2).bind fun t692 => ((impl_nat_text.f k l0).bind fun t695 => ((impl_LimbsOf.f t695).bind fun t696 => ((impl_small.f k (wrap64 (24 * t696))).bind fun t697 => ((impl_prime_pow.f k l0 t692 t697).bind fun t700 => (some t700)))))
set_option maxHeartbeats 8000000 in
set_option maxRecDepth 100000 in
theorem impl_prime_shift.calls (k : Nat) (A0 : Option Addr) (c0 : Nat) (l0 : List Int) (r : List Int) (w : World) (hr0 : Kd.C (Kd.int .u64) w A0 l0.length l0) (hc0 : l0.length ≤ c0) (h : impl_prime_shift.f k l0 = some r) :
    Calls Try.prog 55 #[.slice A0 l0.length c0] w fun e w' => ∃ v0_ : Value, e = .returned (v0_) ∧ Kd.V (Kd.int .u64) 83 w' w.heap.size (fun k_ => (w.heap.size ≤ k_)) v0_ r ∧ Below w.heap.size w w' := by
  have HR0 := Aside0.mk hr0
  have HC0 := Aside0.mk hc0
  clear hr0 hc0
  have HB := Aside0.mk (Below.refl w.heap.size w)
  have H : ((impl_small.f k 2).bind fun t692 => ((impl_nat_text.f k l0).bind fun t695 => ((impl_LimbsOf.f t695).bind fun t696 => ((impl_small.f k (wrap64 (24 * t696))).bind fun t697 => ((impl_prime_pow.f k l0 t692 t697).bind fun t700 => (some t700)))))) = some r := h
  clear h
  replace H := Option.bind_eq_some_iff.mp H
  obtain ⟨t692, A20, H⟩ := H
  have A2 := Aside0.mk A20
  clear A20
  replace H := Option.bind_eq_some_iff.mp H
  obtain ⟨t695, A30, H⟩ := H
  have A3 := Aside0.mk A30
  clear A30
  replace H := Option.bind_eq_some_iff.mp H
  obtain ⟨t696, A40, H⟩ := H
  have A4 := Aside0.mk A40
  clear A40
  replace H := Option.bind_eq_some_iff.mp H
  obtain ⟨t697, A50, H⟩ := H
  have A5 := Aside0.mk A50
  clear A50
  replace H := Option.bind_eq_some_iff.mp H
  obtain ⟨t700, A60, H⟩ := H
  have A6 := Aside0.mk A60
  clear A60
  obtain rfl := Option.some.inj H
  go_enter Try.func55, Try.ntmps55
  go_wp2_with (first | ((with_reducible refine gate_callee (f := 70) rfl ?_); refine gL_ 4 Try.func70 rfl #[.int .i64 2] ?_; (with_reducible refine (impl_small.calls k 2 t692 _ A2.out).mono ?_); rintro e w7 ⟨v693, rfl, ho0, hb⟩; refine ⟨_, rfl, ?_⟩; have HO694 := Aside0.mk (Kd.V_lower (Kd.V_mono (ok' := fun k_ => (w.heap.size ≤ k_)) ho0 (fun k_ hk_ => (Nat.le_trans (below_size (pB_ HB.out)) hk_))) (below_size (pB_ HB.out))); replace HB := Aside0.mk (below_step (pB_ HB.out) hb); clear hb ho0) | ((with_reducible refine gate_callee (f := 42) rfl ?_); refine gL_ 6 Try.func42 rfl #[.slice A0 l0.length c0] ?_; (with_reducible refine (impl_nat_text.calls k _ _ l0 t695 _ ?side1 ?side2 A3.out).mono ?_); (case side1 => exact pC_ (Kd.C_below HR0.out HB.out)); (case side2 => exact HC0.out); rintro e w8 ⟨rfl, hb⟩; refine ⟨_, rfl, ?_⟩; replace HO694 := Aside0.mk (Kd.V_below (pV_ HO694.out) hb); replace HB := Aside0.mk (below_step (pB_ HB.out) hb); clear hb) | ((with_reducible refine gate_callee (f := 89) rfl ?_); refine gL_ 7 Try.func89 rfl #[.string t695] ?_; (with_reducible refine (impl_LimbsOf.calls t695 t696 _ A4.out).mono ?_); rintro e w' ⟨rfl, ⟨nd, rfl⟩⟩; refine ⟨_, rfl, ?_⟩) | ((with_reducible refine gate_callee (f := 70) rfl ?_); refine gL_ 9 Try.func70 rfl #[.int .i64 (wrap64 (24 * t696))] ?_; (with_reducible refine (impl_small.calls k (wrap64 (24 * t696)) t697 _ A5.out).mono ?_); rintro e w9 ⟨v698, rfl, ho0, hb⟩; refine ⟨_, rfl, ?_⟩; replace HO694 := Aside0.mk (Kd.V_below (pV_ HO694.out) hb); have HO699 := Aside0.mk (Kd.V_lower (Kd.V_mono (ok' := fun k_ => (w.heap.size ≤ k_)) ho0 (fun k_ hk_ => (Nat.le_trans (below_size (pB_ HB.out)) hk_))) (below_size (pB_ HB.out))); replace HB := Aside0.mk (below_step (pB_ HB.out) hb); clear hb ho0; obtain ⟨Ao10, co10, eo10⟩ := Kd.V_slice HO694.out; subst eo10; obtain ⟨Ao11, co11, eo11⟩ := Kd.V_slice HO699.out; subst eo11) | ((with_reducible refine gate_callee (f := 57) rfl ?_); refine gL_ 10 Try.func57 rfl #[.slice A0 l0.length c0, .slice Ao10 t692.length co10, .slice Ao11 t697.length co11] ?_; (with_reducible refine (impl_prime_pow.calls k _ _ l0 _ _ t692 _ _ t697 t700 _ ?side1 ?side2 ?side3 ?side4 ?side5 ?side6 A6.out).mono ?_); (case side1 => exact pC_ (Kd.C_below HR0.out HB.out)); (case side2 => exact HC0.out); (case side3 => exact pC_ (Kd.V_reads' HO694.out).2.2); (case side4 => exact (Kd.V_reads' HO694.out).2.1); (case side5 => exact pC_ (Kd.V_reads' HO699.out).2.2); (case side6 => exact (Kd.V_reads' HO699.out).2.1); rintro e w12 ⟨v701, rfl, ho0, hb⟩; refine ⟨_, rfl, ?_⟩; replace HO694 := Aside0.mk (Kd.V_below (pV_ HO694.out) hb); replace HO699 := Aside0.mk (Kd.V_below (pV_ HO699.out) hb); have HO702 := Aside0.mk (Kd.V_lower (Kd.V_mono (ok' := fun k_ => (w.heap.size ≤ k_)) ho0 (fun k_ hk_ => (Nat.le_trans (below_size (pB_ HB.out)) hk_))) (below_size (pB_ HB.out))); replace HB := Aside0.mk (below_step (pB_ HB.out) hb); clear hb ho0))
  go_ret
  exact ⟨_, by first | rfl | (simp [errW_none, errW_some] <;> rfl) | (simp [*, errW_none, errW_some] <;> rfl), by (with_reducible repeat (first | apply Kd.V_alloc | apply Kd.V_drewN | apply Kd.V_drew)); exact HO702.out, pB_ HB.out⟩

/-! ### impl_ShiftOf: function 21 -/
def impl_ShiftOf.f (k : Nat) (a0 : ByteArray) : Option (ByteArray) := (impl_odd.f k a0 ([] : List ByteArray)).bind fun bt703 => (if bt703.2 = true then ((impl_prime_shift.f k bt703.1).bind fun t707 => ((impl_nat_text.f k t707).bind fun t710 => (some t710))) else (some (⟨#[]⟩ : ByteArray)))
set_option maxHeartbeats 8000000 in
set_option maxRecDepth 100000 in
theorem impl_ShiftOf.calls (k : Nat) (a0 : ByteArray) (r : ByteArray) (w : World) (h : impl_ShiftOf.f k a0 = some r) :
    Calls Try.prog 21 #[.string a0] w fun e w' => e = .returned (.string r) ∧ Below w.heap.size w w' := by
  have HB := Aside0.mk (Below.refl w.heap.size w)
  have H : ((impl_odd.f k a0 ([] : List ByteArray)).bind fun bt703 => (if bt703.2 = true then ((impl_prime_shift.f k bt703.1).bind fun t707 => ((impl_nat_text.f k t707).bind fun t710 => (some t710))) else (some (⟨#[]⟩ : ByteArray)))) = some r := h
  clear h
  replace H := Option.bind_eq_some_iff.mp H
  obtain ⟨⟨t703, t706⟩, A20, H⟩ := H
  replace H : (if t706 = true then ((impl_prime_shift.f k t703).bind fun t707 => ((impl_nat_text.f k t707).bind fun t710 => (some t710))) else (some (⟨#[]⟩ : ByteArray))) = some r := H
  have A2 := Aside0.mk A20
  clear A20
  by_cases c3 : t706 = true
  · subst c3
    have H1 : ((impl_prime_shift.f k t703).bind fun t707 => ((impl_nat_text.f k t707).bind fun t710 => (some t710))) = some r := by rw [if_pos rfl] at H; exact H
    clear H
    have H := H1
    clear H1
    replace H := Option.bind_eq_some_iff.mp H
    obtain ⟨t707, A40, H⟩ := H
    have A4 := Aside0.mk A40
    clear A40
    replace H := Option.bind_eq_some_iff.mp H
    obtain ⟨t710, A50, H⟩ := H
    have A5 := Aside0.mk A50
    clear A50
    obtain rfl := Option.some.inj H
    go_enter Try.func21, Try.ntmps21
    go_wp2_with (first | ((with_reducible refine gate_callee (f := 54) rfl ?_); refine gL_ 7 Try.func54 rfl #[.string a0, .slice none 0 0] ?_; (refine (impl_odd.calls k a0 _ _ ([] : List ByteArray) t703 true _ ?side1 ?side2 A2.out).mono ?_); (case side1 => exact Kd.C_nil _ _); (case side2 => exact Nat.le_refl _); rintro e w6 ⟨v704, rfl, ho0, hb⟩; refine ⟨_, rfl, ?_⟩; have HO705 := Aside0.mk (Kd.V_lower (Kd.V_mono (ok' := fun k_ => True) ho0 (fun k_ hk_ => trivial)) (below_size (pB_ HB.out))); replace HB := Aside0.mk (below_step (pB_ HB.out) hb); clear hb ho0; obtain ⟨Ao7, co7, eo7⟩ := Kd.V_slice HO705.out; subst eo7) | ((with_reducible refine gate_callee (f := 55) rfl ?_); refine gL_ 13 Try.func55 rfl #[.slice Ao7 t703.length co7] ?_; (with_reducible refine (impl_prime_shift.calls k _ _ t703 t707 _ ?side1 ?side2 A4.out).mono ?_); (case side1 => exact pC_ (Kd.V_reads' HO705.out).2.2); (case side2 => exact (Kd.V_reads' HO705.out).2.1); rintro e w8 ⟨v708, rfl, ho0, hb⟩; refine ⟨_, rfl, ?_⟩; replace HO705 := Aside0.mk (Kd.V_below (pV_ HO705.out) hb); have HO709 := Aside0.mk (Kd.V_lower (Kd.V_mono (ok' := fun k_ => True) ho0 (fun k_ hk_ => trivial)) (below_size (pB_ HB.out))); replace HB := Aside0.mk (below_step (pB_ HB.out) hb); clear hb ho0; obtain ⟨Ao9, co9, eo9⟩ := Kd.V_slice HO709.out; subst eo9) | ((with_reducible refine gate_callee (f := 42) rfl ?_); refine gL_ 14 Try.func42 rfl #[.slice Ao9 t707.length co9] ?_; (with_reducible refine (impl_nat_text.calls k _ _ t707 t710 _ ?side1 ?side2 A5.out).mono ?_); (case side1 => exact pC_ (Kd.V_reads' HO709.out).2.2); (case side2 => exact (Kd.V_reads' HO709.out).2.1); rintro e w10 ⟨rfl, hb⟩; refine ⟨_, rfl, ?_⟩; replace HO705 := Aside0.mk (Kd.V_below (pV_ HO705.out) hb); replace HO709 := Aside0.mk (Kd.V_below (pV_ HO709.out) hb); replace HB := Aside0.mk (below_step (pB_ HB.out) hb); clear hb))
    go_ret
    exact ⟨by first | rfl | (simp [errW_none, errW_some] <;> rfl) | (simp [*, errW_none, errW_some] <;> rfl), pB_ HB.out⟩
  · replace c3 := Bool.eq_false_iff.mpr c3
    subst c3
    have H1 : (some (⟨#[]⟩ : ByteArray)) = some r := by rw [if_neg (show ¬ (false = true) by decide)] at H; exact H
    clear H
    have H := H1
    clear H1
    obtain rfl := Option.some.inj H
    go_enter Try.func21, Try.ntmps21
    go_wp2_with (first | ((with_reducible refine gate_callee (f := 54) rfl ?_); refine gL_ 7 Try.func54 rfl #[.string a0, .slice none 0 0] ?_; (refine (impl_odd.calls k a0 _ _ ([] : List ByteArray) t703 false _ ?side1 ?side2 A2.out).mono ?_); (case side1 => exact Kd.C_nil _ _); (case side2 => exact Nat.le_refl _); rintro e w11 ⟨v704, rfl, ho0, hb⟩; refine ⟨_, rfl, ?_⟩; have HO705 := Aside0.mk (Kd.V_lower (Kd.V_mono (ok' := fun k_ => True) ho0 (fun k_ hk_ => trivial)) (below_size (pB_ HB.out))); replace HB := Aside0.mk (below_step (pB_ HB.out) hb); clear hb ho0))
    go_ret
    exact ⟨by first | rfl | (simp [errW_none, errW_some] <;> rfl) | (simp [*, errW_none, errW_some] <;> rfl), pB_ HB.out⟩

/-! ### laws_FnExactShiftOf: function 7 -/
def laws_FnExactShiftOf.f (k : Nat) (a0 : ByteArray) : Option (Bool) := if (a0.size : Int) > 1048576 then (some true) else ((spec_ShiftOf.f k a0).bind fun t711 => ((impl_ShiftOf.f k a0).bind fun t712 => (if t712.toList = t711.toList then (some true) else (some false))))
set_option maxHeartbeats 8000000 in
set_option maxRecDepth 100000 in
theorem laws_FnExactShiftOf.calls (k : Nat) (a0 : ByteArray) (r : Bool) (w : World) (h : laws_FnExactShiftOf.f k a0 = some r) :
    Calls Try.prog 7 #[.string a0] w fun e w' => e = .returned (.bool r) ∧ Below w.heap.size w w' := by
  have HB := Aside0.mk (Below.refl w.heap.size w)
  have H : (if (a0.size : Int) > 1048576 then (some true) else ((spec_ShiftOf.f k a0).bind fun t711 => ((impl_ShiftOf.f k a0).bind fun t712 => (if t712.toList = t711.toList then (some true) else (some false))))) = some r := h
  clear h
  by_cases c2 : (a0.size : Int) > 1048576
  · rw [if_pos c2] at H
    have c2b0 : decide (1048576 < (a0.size : Int)) = true := decide_eq_true c2
    have c2b1 : decide (1048576 < a0.size) = true := decide_eq_true (by omega)
    clear c2
    obtain rfl := Option.some.inj H
    go_enter Try.func7, Try.ntmps7
    go_wp2
    go_ret
    exact ⟨by first | rfl | (simp [errW_none, errW_some] <;> rfl) | (simp [*, errW_none, errW_some] <;> rfl), pB_ HB.out⟩
  rw [if_neg c2] at H
  have c2b0 : decide (1048576 < (a0.size : Int)) = false := decide_eq_false c2
  have c2b1 : decide (1048576 < a0.size) = false := decide_eq_false (by omega)
  clear c2
  replace H := Option.bind_eq_some_iff.mp H
  obtain ⟨t711, A30, H⟩ := H
  have A3 := Aside0.mk A30
  clear A30
  replace H := Option.bind_eq_some_iff.mp H
  obtain ⟨t712, A40, H⟩ := H
  have A4 := Aside0.mk A40
  clear A40
  by_cases c5 : t712.toList = t711.toList
  rotate_left
  · rw [if_neg c5] at H
    have c5b0 : (t712.toList == t711.toList) = false := beq_eq_false_iff_ne.mpr c5
    have c5b1 : (t712.toList != t711.toList) = true := bne_iff_ne.mpr c5
    obtain rfl := Option.some.inj H
    go_enter Try.func7, Try.ntmps7
    go_wp2_with (first | ((with_reducible refine gate_callee (f := 20) rfl ?_); refine gL_ 9 Try.func20 rfl #[.string a0] ?_; (with_reducible refine (spec_ShiftOf.calls k a0 t711 _ A3.out).mono ?_); rintro e w8 ⟨rfl, hb⟩; refine ⟨_, rfl, ?_⟩; replace HB := Aside0.mk (below_step (pB_ HB.out) hb); clear hb) | ((with_reducible refine gate_callee (f := 21) rfl ?_); refine gL_ 11 Try.func21 rfl #[.string a0] ?_; (with_reducible refine (impl_ShiftOf.calls k a0 t712 _ A4.out).mono ?_); rintro e w9 ⟨rfl, hb⟩; refine ⟨_, rfl, ?_⟩; replace HB := Aside0.mk (below_step (pB_ HB.out) hb); clear hb))
    go_ret
    exact ⟨by first | rfl | (simp [errW_none, errW_some] <;> rfl) | (simp [*, errW_none, errW_some] <;> rfl), pB_ HB.out⟩

  rw [if_pos c5] at H
  have c5b0 : (t712.toList == t711.toList) = true := beq_iff_eq.mpr c5
  have c5b1 : (t712.toList != t711.toList) = false := bne_eq_false_iff_eq.mpr c5
  clear c5
  obtain rfl := Option.some.inj H
  go_enter Try.func7, Try.ntmps7
  go_wp2_with (first | ((with_reducible refine gate_callee (f := 20) rfl ?_); refine gL_ 9 Try.func20 rfl #[.string a0] ?_; (with_reducible refine (spec_ShiftOf.calls k a0 t711 _ A3.out).mono ?_); rintro e w6 ⟨rfl, hb⟩; refine ⟨_, rfl, ?_⟩; replace HB := Aside0.mk (below_step (pB_ HB.out) hb); clear hb) | ((with_reducible refine gate_callee (f := 21) rfl ?_); refine gL_ 11 Try.func21 rfl #[.string a0] ?_; (with_reducible refine (impl_ShiftOf.calls k a0 t712 _ A4.out).mono ?_); rintro e w7 ⟨rfl, hb⟩; refine ⟨_, rfl, ?_⟩; replace HB := Aside0.mk (below_step (pB_ HB.out) hb); clear hb))
  go_ret
  exact ⟨by first | rfl | (simp [errW_none, errW_some] <;> rfl) | (simp [*, errW_none, errW_some] <;> rfl), pB_ HB.out⟩
/-- THE ONE PURE STATEMENT of laws_FnExactShiftOf: yours. -/
def laws_FnExactShiftOf.Pure : Prop := ∀ (a0 : ByteArray), a0.size ≤ 140737488351232 → ∃ k, laws_FnExactShiftOf.f k a0 = some true
theorem laws_FnExactShiftOf.walk (P : laws_FnExactShiftOf.Pure) (a0 : ByteArray) (w : World) (w0 : a0.size ≤ 140737488351232) :
    Calls Try.prog 7 #[.string a0] w fun e w' => e = .returned (.bool true) ∧ Below w.heap.size w w' := by
  obtain ⟨k, h⟩ := P a0 w0
  refine (laws_FnExactShiftOf.calls k a0 true w h).mono ?_
  rintro e w' ⟨rfl, hd⟩
  exact ⟨rfl, hd⟩

/-! ### spec_BitsOf: function 90 -/
def spec_BitsOf.l0 : Nat → Int → Int → Option (Int)
  | 0, _, _ => none
  | k + 1, x3, x4 => if x4 < 128 then (spec_BitsOf.l0 k (wrap64 (x3 - 1)) ((x4 * 2) % 256)) else (some x3)
def spec_BitsOf.f (k : Nat) (a0 : ByteArray) : Option (Int) := (spec_GreatOk.f a0).bind fun t713 => (if t713 = true then (if (a0.size : Int) > 0 then (if 0 < (a0.size : Int) then (spec_BitsOf.l0 k (wrap64 (8 * (a0.size : Int))) (bt a0 0)) else (none)) else (some (wrap64 (8 * (a0.size : Int))))) else (some (-1)))
set_option maxHeartbeats 8000000 in
set_option maxRecDepth 100000 in
theorem spec_BitsOf.calls (k : Nat) (a0 : ByteArray) (r : Int) (w : World) (h : spec_BitsOf.f k a0 = some r) :
    Calls Try.prog 90 #[.string a0] w fun e w' => e = .returned (.int .i64 r) ∧ Drawn0 w w' := by
  have H : ((spec_GreatOk.f a0).bind fun t713 => (if t713 = true then (if (a0.size : Int) > 0 then (if 0 < (a0.size : Int) then (spec_BitsOf.l0 k (wrap64 (8 * (a0.size : Int))) (bt a0 0)) else (none)) else (some (wrap64 (8 * (a0.size : Int))))) else (some (-1)))) = some r := h
  clear h
  replace H := Option.bind_eq_some_iff.mp H
  obtain ⟨t713, A20, H⟩ := H
  have A2 := Aside0.mk A20
  clear A20
  by_cases c3 : t713 = true
  · subst c3
    have H1 : (if (a0.size : Int) > 0 then (if 0 < (a0.size : Int) then (spec_BitsOf.l0 k (wrap64 (8 * (a0.size : Int))) (bt a0 0)) else (none)) else (some (wrap64 (8 * (a0.size : Int))))) = some r := by rw [if_pos rfl] at H; exact H
    clear H
    have H := H1
    clear H1
    by_cases c4 : (a0.size : Int) > 0
    rotate_left
    · rw [if_neg c4] at H
      have c4b0 : decide (0 < (a0.size : Int)) = false := decide_eq_false c4
      have c4b1 : decide (0 < a0.size) = false := decide_eq_false (by omega)
      clear c4
      obtain rfl := Option.some.inj H
      go_enter Try.func90, Try.ntmps90
      go_wp2_with (first | ((with_reducible refine gate_callee (f := 43) rfl ?_); refine gL_ 6 Try.func43 rfl #[.string a0] ?_; (with_reducible refine (spec_GreatOk.calls a0 true _ A2.out).mono ?_); rintro e w' ⟨rfl, ⟨nd, rfl⟩⟩; refine ⟨_, rfl, ?_⟩))
      go_ret
      exact ⟨by first | rfl | (simp; done) | (simp [*]; done), by repeat (first | exact Drawn0.refl _ | apply Drawn0.step)⟩
    rw [if_pos c4] at H
    have c4b0 : decide (0 < (a0.size : Int)) = true := decide_eq_true c4
    have c4b1 : decide (0 < a0.size) = true := decide_eq_true (by omega)
    clear c4
    by_cases c5 : 0 < (a0.size : Int)
    rotate_left
    · rw [if_neg c5] at H; exact absurd H (by simp)
    rw [if_pos c5] at H
    have c5b0 : decide (0 < (a0.size : Int)) = true := decide_eq_true c5
    have c5b1 : decide (0 < a0.size) = true := decide_eq_true (by omega)
    clear c5
    have H' := Aside0.mk H
    clear H
    go_enter Try.func90, Try.ntmps90
    go_wp2_with (first | ((with_reducible refine gate_callee (f := 43) rfl ?_); refine gL_ 6 Try.func43 rfl #[.string a0] ?_; (with_reducible refine (spec_GreatOk.calls a0 true _ A2.out).mono ?_); rintro e w' ⟨rfl, ⟨nd, rfl⟩⟩; refine ⟨_, rfl, ?_⟩; have p6 : 0 ≤ (0 : Int) := (by omega); have q6 : 0 < a0.size := (by have : (0 : Int) < (a0.size : Int) := od_; omega); have hx6 : ∀ h : 0 < a0.size, ((a0[0]'h).toNat : Int) = bt a0 0 := bt_at a0 0; clear p6; have qi6 : (0 < (a0.size : Int)) = True := eq_true (od_); replace q6 := eq_true q6))
    go_loopg [3, 4] k (fun kq v3 v4 w' => ∃ (x3_1 : Int) (x4_1 : Int), v3 = .int .i64 x3_1 ∧ v4 = .int .u8 x4_1 ∧ Aside0 (spec_BitsOf.l0 kq x3_1 x4_1 = some r) ∧ Aside0 (kq ≤ k) ∧ Drawn0 w w')
    case atStart => exact ⟨(wrap64 (8 * (a0.size : Int))), (bt a0 0), (by first | rfl | (simp; done) | (simp [*]; done)), (by first | rfl | (simp; done) | (simp [*]; done)), H', ⟨Nat.le_refl _⟩, by repeat (first | exact Drawn0.refl _ | apply Drawn0.step)⟩
    clear H'
    try clear p2
    try clear c3
    try clear c4
    try clear c4b0
    try clear c4b1
    try clear c5
    try clear c5b0
    try clear c5b1
    try clear p6
    try clear q6
    try clear hx6
    try clear qi6
    try clear p6
    try clear q6
    obtain ⟨x3_1, x4_1, rfl, rfl, HA, HK1, ⟨m1, rfl⟩⟩ := hrel
    rcases gk with _ | k1
    · exact absurd HA.out (by simp [spec_BitsOf.l0])
    have H := HA.out
    clear HA
    simp only [spec_BitsOf.l0] at H
    by_cases c7 : x4_1 < 128
    rotate_left
    · rw [if_neg c7] at H
      have c7b0 : decide (x4_1 < 128) = false := decide_eq_false c7
      clear c7
      obtain rfl := Option.some.inj H
      go_wp2
      go_ret
      exact ⟨by first | rfl | (simp; done) | (simp [*]; done), by repeat (first | exact Drawn0.refl _ | apply Drawn0.step)⟩
    rw [if_pos c7] at H
    have c7b0 : decide (x4_1 < 128) = true := decide_eq_true c7
    clear c7
    have H' := Aside0.mk H
    clear H
    go_wp2
    go_roundg k1
    case measure => have := HK1.out; omega
    case rel => exact ⟨(wrap64 (x3_1 - 1)), ((x4_1 * 2) % 256), (by first | rfl | (simp; done) | (simp [*]; done)), (by first | rfl | (simp; done) | (simp [*]; done)), H', ⟨by have := HK1.out; omega⟩, by repeat (first | exact Drawn0.refl _ | apply Drawn0.step)⟩
  · replace c3 := Bool.eq_false_iff.mpr c3
    subst c3
    have H1 : (some (-1)) = some r := by rw [if_neg (show ¬ (false = true) by decide)] at H; exact H
    clear H
    have H := H1
    clear H1
    obtain rfl := Option.some.inj H
    go_enter Try.func90, Try.ntmps90
    go_wp2_with (first | ((with_reducible refine gate_callee (f := 43) rfl ?_); refine gL_ 6 Try.func43 rfl #[.string a0] ?_; (with_reducible refine (spec_GreatOk.calls a0 false _ A2.out).mono ?_); rintro e w' ⟨rfl, ⟨nd, rfl⟩⟩; refine ⟨_, rfl, ?_⟩))
    go_ret
    exact ⟨by first | rfl | (simp; done) | (simp [*]; done), by repeat (first | exact Drawn0.refl _ | apply Drawn0.step)⟩

/-! ### spec_l04Pow: function 56 -/
def spec_l04Pow.l0 : Nat → List Int → ByteArray → List Int → List Int → Int → Option (List Int)
  | 0, _, _, _, _, _ => none
  | k + 1, x0, x1, x2, x8, x9 => if x9 ≥ 0 then ((spec_l04Mul.f k x8 x8 x2).bind fun t724 => ((spec_BitOf.f x1 x9).bind fun t727 => (if t727 = 1 then ((spec_l04Mul.f k t724 x0 x2).bind fun t728 => (spec_l04Pow.l0 k x0 x1 x2 t728 (wrap64 (x9 - 1)))) else (spec_l04Pow.l0 k x0 x1 x2 t724 (wrap64 (x9 - 1)))))) else (some x8)
def spec_l04Pow.f (k : Nat) (l0 : List Int) (a1 : ByteArray) (l2 : List Int) : Option (List Int) := (spec_l02Div.f k (([1] : List Int)) l2).bind fun bt717 => ((spec_BitsOf.f k a1).bind fun t723 => (spec_l04Pow.l0 k l0 a1 l2 bt717.2 (wrap64 (t723 - 1))))
set_option maxHeartbeats 8000000 in
set_option maxRecDepth 100000 in
theorem spec_l04Pow.calls (k : Nat) (A0 : Option Addr) (c0 : Nat) (l0 : List Int) (a1 : ByteArray) (A2 : Option Addr) (c2 : Nat) (l2 : List Int) (r : List Int) (w : World) (hr0 : Kd.C (Kd.int .i64) w A0 l0.length l0) (hc0 : l0.length ≤ c0) (hr2 : Kd.C (Kd.int .i64) w A2 l2.length l2) (hc2 : l2.length ≤ c2) (h : spec_l04Pow.f k l0 a1 l2 = some r) :
    Calls Try.prog 56 #[.slice A0 l0.length c0, .string a1, .slice A2 l2.length c2] w fun e w' => ∃ v0_ : Value, e = .returned (v0_) ∧ Kd.V (Kd.int .i64) 3 w' w.heap.size (fun k_ => (w.heap.size ≤ k_)) v0_ r ∧ Below w.heap.size w w' := by
  have HR0 := Aside0.mk hr0
  have HC0 := Aside0.mk hc0
  clear hr0 hc0
  have HR2 := Aside0.mk hr2
  have HC2 := Aside0.mk hc2
  clear hr2 hc2
  have HB := Aside0.mk (Below.refl w.heap.size w)
  have H : ((spec_l02Div.f k (([1] : List Int)) l2).bind fun bt717 => ((spec_BitsOf.f k a1).bind fun t723 => (spec_l04Pow.l0 k l0 a1 l2 bt717.2 (wrap64 (t723 - 1))))) = some r := h
  clear h
  obtain ⟨y714, hy714⟩ : ∃ y_ : List Int, y_ = (([1] : List Int)) := ⟨_, rfl⟩
  replace H : ((spec_l02Div.f k y714 l2).bind fun bt717 => ((spec_BitsOf.f k a1).bind fun t723 => (spec_l04Pow.l0 k l0 a1 l2 bt717.2 (wrap64 (t723 - 1))))) = some r := by first | (rw [hy714]; with_reducible exact H) | (have H2_ := (Option.bind_some _ _).symm.trans H; rw [hy714]; with_reducible exact H2_) | (have H2_ := (Option.bind_some _ _).symm.trans H; with_reducible exact H2_) | with_reducible exact H | (rw [hy714]; exact H) | exact H
  have Ny714 := Aside0.mk hy714
  clear hy714
  replace H := Option.bind_eq_some_iff.mp H
  obtain ⟨⟨t717, t720⟩, A40, H⟩ := H
  replace H : ((spec_BitsOf.f k a1).bind fun t723 => (spec_l04Pow.l0 k l0 a1 l2 t720 (wrap64 (t723 - 1)))) = some r := H
  have A4 := Aside0.mk A40
  clear A40
  replace H := Option.bind_eq_some_iff.mp H
  obtain ⟨t723, A50, H⟩ := H
  have A5 := Aside0.mk A50
  clear A50
  have H' := Aside0.mk H
  clear H
  go_enter Try.func56, Try.ntmps56
  go_wp2_with (first | ((with_reducible refine gate_dst (N := 11) rfl ?_); refine Kd.R_lit (Kd.int .i64) _ 3 ?hg (N := 11) ?hd (xs := ([1] : List Int)) (inner := [.int .i64 1]) (ok := fun _ => True) (okp := fun _ => True) ?hr ?hp (fun _ hk => hk) trivial (Below.refl _ _) (Nat.le_refl _) (by simp) ?_; (case hd => rfl); (case hg => rfl); (case hr => first | (go_simp; done) | (go_simp; rfl)); (case hp => exact (Reps.one (show Kd.M (Kd.int .i64) _ _ _ 1 [.int .i64 1] from rfl) (Reps.none _ _))); intro v715 w6 ho7 hb hg_ hnew_; clear hg_ hnew_; (first | rw [← Ny714.out] at ho7 | (simp only [Int.reduceToNat] at ho7; rw [← Ny714.out] at ho7)); have HO716 := Aside0.mk (Kd.R_lower (Kd.R_newM (M := fun k_ => (w.heap.size ≤ k_)) ho7 (below_size (pB_ HB.out)) (fun k_ h_ => h_)) (below_size (pB_ HB.out))); replace HB := Aside0.mk (below_step (pB_ HB.out) hb); clear hb ho7; obtain ⟨Ao8, co8, eo8⟩ := Kd.R_slice HO716.out; subst eo8) | ((with_reducible refine gate_callee (f := 44) rfl ?_); refine gL_ 13 Try.func44 rfl #[.slice Ao8 y714.length co8, .slice A2 l2.length c2] ?_; (with_reducible refine (spec_l02Div.calls k _ _ y714 _ _ l2 t717 t720 _ ?side1 ?side2 ?side3 ?side4 A4.out).mono ?_); (case side1 => exact pC_ (Kd.R_reads' HO716.out).2.2); (case side2 => exact (Kd.R_reads' HO716.out).2.1); (case side3 => exact pC_ (Kd.C_below HR2.out HB.out)); (case side4 => exact HC2.out); rintro e w9 ⟨v718, v721, rfl, ho0, ho1, hb⟩; refine ⟨_, rfl, ?_⟩; have HO719 := Aside0.mk (Kd.V_lower (Kd.V_mono (ok' := fun k_ => (w.heap.size ≤ k_) ∧ some k_ ≠ (.slice Ao8 y714.length co8 : Value).ownBlock) ho0 (fun k_ hk_ => ⟨(Nat.le_trans (below_size (pB_ HB.out)) hk_), (Kd.fresh' (Kd.R_lt (pR_ HO716.out)) k_ hk_)⟩)) (below_size (pB_ HB.out))); have HO722 := Aside0.mk (Kd.V_lower (Kd.V_mono (ok' := fun k_ => (w.heap.size ≤ k_) ∧ some k_ ≠ (.slice Ao8 y714.length co8 : Value).ownBlock) ho1 (fun k_ hk_ => ⟨(Nat.le_trans (below_size (pB_ HB.out)) hk_), (Kd.fresh' (Kd.R_lt (pR_ HO716.out)) k_ hk_)⟩)) (below_size (pB_ HB.out))); replace HO716 := Aside0.mk (Kd.R_below (pR_ HO716.out) hb); replace HB := Aside0.mk (below_step (pB_ HB.out) hb); clear hb ho0 ho1) | ((with_reducible refine gate_callee (f := 90) rfl ?_); refine gL_ 17 Try.func90 rfl #[.string a1] ?_; (with_reducible refine (spec_BitsOf.calls k a1 t723 _ A5.out).mono ?_); rintro e w' ⟨rfl, ⟨nd, rfl⟩⟩; refine ⟨_, rfl, ?_⟩))
  go_loopg [8, 9] k (fun kq v8 v9 w' => ∃ (x8_1 : List Int) (x9_1 : Int), v9 = .int .i64 x9_1 ∧ Aside0 (spec_l04Pow.l0 kq l0 a1 l2 x8_1 x9_1 = some r) ∧ Aside0 (kq ≤ k) ∧ Aside0 (Kd.V (Kd.int .i64) 3 w' w.heap.size (fun k_ => (w.heap.size ≤ k_)) v8 x8_1) ∧ Aside0 (Below w.heap.size w w'))
  case atStart => exact ⟨(t720), (wrap64 (t723 - 1)), (by first | rfl | (simp; done) | (simp [*]; done)), H', ⟨Nat.le_refl _⟩, ⟨by (with_reducible repeat (first | apply Kd.V_alloc | apply Kd.V_drewN | apply Kd.V_drew)); exact Kd.V_mono HO722.out (fun _ hk => hk.1)⟩, ⟨pB_ HB.out⟩⟩
  clear H'
  try clear c2
  try clear p2
  try clear c4
  try clear c5
  try clear p6
  try clear c9
  obtain ⟨x8_1, x9_1, rfl, HA, HK1, HO_8, HB⟩ := hrel
  rcases gk with _ | k1
  · exact absurd HA.out (by simp [spec_l04Pow.l0])
  have H := HA.out
  clear HA
  simp only [spec_l04Pow.l0] at H
  by_cases c10 : x9_1 ≥ 0
  rotate_left
  · rw [if_neg c10] at H
    have c10b0 : decide (0 ≤ x9_1) = false := decide_eq_false c10
    clear c10
    obtain rfl := Option.some.inj H
    go_wp2
    go_ret
    exact ⟨_, by first | rfl | (simp [errW_none, errW_some] <;> rfl) | (simp [*, errW_none, errW_some] <;> rfl), by (with_reducible repeat (first | apply Kd.V_alloc | apply Kd.V_drewN | apply Kd.V_drew)); exact HO_8.out, pB_ HB.out⟩

  rw [if_pos c10] at H
  have c10b0 : decide (0 ≤ x9_1) = true := decide_eq_true c10
  clear c10
  replace H := Option.bind_eq_some_iff.mp H
  obtain ⟨t724, A110, H⟩ := H
  have A11 := Aside0.mk A110
  clear A110
  replace H := Option.bind_eq_some_iff.mp H
  obtain ⟨t727, A120, H⟩ := H
  have A12 := Aside0.mk A120
  clear A120
  by_cases c13 : t727 = 1
  rotate_left
  · rw [if_neg c13] at H
    have c13b0 : (t727 == 1) = false := beq_eq_false_iff_ne.mpr c13
    have c13b1 : (t727 != 1) = true := bne_iff_ne.mpr c13
    have H' := Aside0.mk H
    clear H
    obtain ⟨Ao19, co19, eo19⟩ := Kd.V_slice HO_8.out
    subst eo19
    go_wp2_with (first | ((with_reducible refine gate_callee (f := 50) rfl ?_); refine gL_ 26 Try.func50 rfl #[.slice Ao19 x8_1.length co19, .slice Ao19 x8_1.length co19, .slice A2 l2.length c2] ?_; (with_reducible refine (spec_l04Mul.calls k1 _ _ x8_1 _ _ x8_1 _ _ l2 t724 _ ?side1 ?side2 ?side3 ?side4 ?side5 ?side6 A11.out).mono ?_); (case side1 => exact pC_ (Kd.V_reads' HO_8.out).2.2); (case side2 => exact (Kd.V_reads' HO_8.out).2.1); (case side3 => exact pC_ (Kd.V_reads' HO_8.out).2.2); (case side4 => exact (Kd.V_reads' HO_8.out).2.1); (case side5 => exact pC_ (Kd.C_below HR2.out HB.out)); (case side6 => exact HC2.out); rintro e w20 ⟨v725, rfl, ho0, hb⟩; refine ⟨_, rfl, ?_⟩; replace HO_8 := Aside0.mk (Kd.V_below (pV_ HO_8.out) hb); have HO726 := Aside0.mk (Kd.V_lower (Kd.V_mono (ok' := fun k_ => (w.heap.size ≤ k_)) ho0 (fun k_ hk_ => (Nat.le_trans (below_size (pB_ HB.out)) hk_))) (below_size (pB_ HB.out))); replace HB := Aside0.mk (below_step (pB_ HB.out) hb); clear hb ho0) | ((with_reducible refine gate_callee (f := 34) rfl ?_); refine gL_ 29 Try.func34 rfl #[.string a1, .int .i64 x9_1] ?_; (with_reducible refine (spec_BitOf.calls a1 x9_1 t727 _ A12.out).mono ?_); rintro e w' ⟨rfl, ⟨nd, rfl⟩⟩; refine ⟨_, rfl, ?_⟩))
    go_roundg k1
    case measure => have := HK1.out; omega
    case rel => exact ⟨(t724), (wrap64 (x9_1 - 1)), (by first | rfl | (simp; done) | (simp [*]; done)), H', ⟨by have := HK1.out; omega⟩, ⟨by (with_reducible repeat (first | apply Kd.V_alloc | apply Kd.V_drewN | apply Kd.V_drew)); exact HO726.out⟩, ⟨pB_ HB.out⟩⟩
  rw [if_pos c13] at H
  have c13b0 : (t727 == 1) = true := beq_iff_eq.mpr c13
  have c13b1 : (t727 != 1) = false := bne_eq_false_iff_eq.mpr c13
  clear c13
  replace H := Option.bind_eq_some_iff.mp H
  obtain ⟨t728, A140, H⟩ := H
  have A14 := Aside0.mk A140
  clear A140
  have H' := Aside0.mk H
  clear H
  obtain ⟨Ao15, co15, eo15⟩ := Kd.V_slice HO_8.out
  subst eo15
  go_wp2_with (first | ((with_reducible refine gate_callee (f := 50) rfl ?_); refine gL_ 26 Try.func50 rfl #[.slice Ao15 x8_1.length co15, .slice Ao15 x8_1.length co15, .slice A2 l2.length c2] ?_; (with_reducible refine (spec_l04Mul.calls k1 _ _ x8_1 _ _ x8_1 _ _ l2 t724 _ ?side1 ?side2 ?side3 ?side4 ?side5 ?side6 A11.out).mono ?_); (case side1 => exact pC_ (Kd.V_reads' HO_8.out).2.2); (case side2 => exact (Kd.V_reads' HO_8.out).2.1); (case side3 => exact pC_ (Kd.V_reads' HO_8.out).2.2); (case side4 => exact (Kd.V_reads' HO_8.out).2.1); (case side5 => exact pC_ (Kd.C_below HR2.out HB.out)); (case side6 => exact HC2.out); rintro e w16 ⟨v725, rfl, ho0, hb⟩; refine ⟨_, rfl, ?_⟩; replace HO_8 := Aside0.mk (Kd.V_below (pV_ HO_8.out) hb); have HO726 := Aside0.mk (Kd.V_lower (Kd.V_mono (ok' := fun k_ => (w.heap.size ≤ k_)) ho0 (fun k_ hk_ => (Nat.le_trans (below_size (pB_ HB.out)) hk_))) (below_size (pB_ HB.out))); replace HB := Aside0.mk (below_step (pB_ HB.out) hb); clear hb ho0) | ((with_reducible refine gate_callee (f := 34) rfl ?_); refine gL_ 29 Try.func34 rfl #[.string a1, .int .i64 x9_1] ?_; (with_reducible refine (spec_BitOf.calls a1 x9_1 t727 _ A12.out).mono ?_); rintro e w' ⟨rfl, ⟨nd, rfl⟩⟩; refine ⟨_, rfl, ?_⟩; obtain ⟨Ao17, co17, eo17⟩ := Kd.V_slice HO726.out; subst eo17) | ((with_reducible refine gate_callee (f := 50) rfl ?_); refine gL_ 34 Try.func50 rfl #[.slice Ao17 t724.length co17, .slice A0 l0.length c0, .slice A2 l2.length c2] ?_; (with_reducible refine (spec_l04Mul.calls k1 _ _ t724 _ _ l0 _ _ l2 t728 _ ?side1 ?side2 ?side3 ?side4 ?side5 ?side6 A14.out).mono ?_); (case side1 => exact pC_ (Kd.V_reads' HO726.out).2.2); (case side2 => exact (Kd.V_reads' HO726.out).2.1); (case side3 => exact pC_ (Kd.C_below HR0.out (pB_ HB.out))); (case side4 => exact HC0.out); (case side5 => exact pC_ (Kd.C_below HR2.out (pB_ HB.out))); (case side6 => exact HC2.out); rintro e w18 ⟨v729, rfl, ho0, hb⟩; refine ⟨_, rfl, ?_⟩; replace HO_8 := Aside0.mk (Kd.V_below (pV_ HO_8.out) hb); replace HO726 := Aside0.mk (Kd.V_below (pV_ HO726.out) hb); have HO730 := Aside0.mk (Kd.V_lower (Kd.V_mono (ok' := fun k_ => (w.heap.size ≤ k_)) ho0 (fun k_ hk_ => (Nat.le_trans (below_size (pB_ HB.out)) hk_))) (below_size (pB_ HB.out))); replace HB := Aside0.mk (below_step (pB_ HB.out) hb); clear hb ho0))
  go_roundg k1
  case measure => have := HK1.out; omega
  case rel => exact ⟨(t728), (wrap64 (x9_1 - 1)), (by first | rfl | (simp; done) | (simp [*]; done)), H', ⟨by have := HK1.out; omega⟩, ⟨by (with_reducible repeat (first | apply Kd.V_alloc | apply Kd.V_drewN | apply Kd.V_drew)); exact HO730.out⟩, ⟨pB_ HB.out⟩⟩

/-! ### spec_PowRest: function 22 -/
def spec_PowRest.j0 : Nat → ByteArray → ByteArray → ByteArray → Bool → Option (ByteArray)
  | 0, _, _, _, _ => none
  | k + 1, x0, x1, x2, x20 => if x20 = true then (some (⟨#[]⟩ : ByteArray)) else ((spec_l02In.f k x0).bind fun t734 => ((spec_l02In.f k x2).bind fun t737 => ((spec_l04Pow.f k t734 x1 t737).bind fun t740 => ((spec_l02Out.f k t740).bind fun t743 => (some t743)))))
def spec_PowRest.f (k : Nat) (a0 : ByteArray) (a1 : ByteArray) (a2 : ByteArray) : Option (ByteArray) := (spec_l04Mod.f a2).bind fun t731 => (if t731 = true then ((spec_RestOk.f k a0 a2).bind fun t732 => (if t732 = true then ((spec_GreatOk.f a1).bind fun t733 => (spec_PowRest.j0 k a0 a1 a2 (!t733))) else (spec_PowRest.j0 k a0 a1 a2 true))) else (spec_PowRest.j0 k a0 a1 a2 true))
set_option maxHeartbeats 8000000 in
set_option maxRecDepth 100000 in
theorem spec_PowRest.calls (k : Nat) (a0 : ByteArray) (a1 : ByteArray) (a2 : ByteArray) (r : ByteArray) (w : World) (h : spec_PowRest.f k a0 a1 a2 = some r) :
    Calls Try.prog 22 #[.string a0, .string a1, .string a2] w fun e w' => e = .returned (.string r) ∧ Below w.heap.size w w' := by
  have HB := Aside0.mk (Below.refl w.heap.size w)
  have H : ((spec_l04Mod.f a2).bind fun t731 => (if t731 = true then ((spec_RestOk.f k a0 a2).bind fun t732 => (if t732 = true then ((spec_GreatOk.f a1).bind fun t733 => (spec_PowRest.j0 k a0 a1 a2 (!t733))) else (spec_PowRest.j0 k a0 a1 a2 true))) else (spec_PowRest.j0 k a0 a1 a2 true))) = some r := h
  clear h
  have HC4 := Aside0.mk H
  clear H
  go_enter Try.func22, Try.ntmps22
  go_upto_region 1 with (fail)
  go_cut [20] (fun v20 wc => ∃ (kq : Nat) (x20_3 : Bool), v20 = .bool x20_3 ∧ Aside0 (spec_PowRest.j0 kq a0 a1 a2 x20_3 = some r) ∧ Aside0 (kq ≤ k) ∧ Aside0 (Below w.heap.size w wc))
  case first =>
    have H := HC4.out
    clear HC4
    replace H := Option.bind_eq_some_iff.mp H
    obtain ⟨t731, A50, H⟩ := H
    have A5 := Aside0.mk A50
    clear A50
    by_cases c6 : t731 = true
    · subst c6
      have H1 : ((spec_RestOk.f k a0 a2).bind fun t732 => (if t732 = true then ((spec_GreatOk.f a1).bind fun t733 => (spec_PowRest.j0 k a0 a1 a2 (!t733))) else (spec_PowRest.j0 k a0 a1 a2 true))) = some r := by rw [if_pos rfl] at H; exact H
      clear H
      have H := H1
      clear H1
      replace H := Option.bind_eq_some_iff.mp H
      obtain ⟨t732, A70, H⟩ := H
      have A7 := Aside0.mk A70
      clear A70
      by_cases c8 : t732 = true
      · subst c8
        have H1 : ((spec_GreatOk.f a1).bind fun t733 => (spec_PowRest.j0 k a0 a1 a2 (!t733))) = some r := by rw [if_pos rfl] at H; exact H
        clear H
        have H := H1
        clear H1
        replace H := Option.bind_eq_some_iff.mp H
        obtain ⟨t733, A90, H⟩ := H
        have A9 := Aside0.mk A90
        clear A90
        have H' := Aside0.mk H
        clear H
        go_wp2_with (first | ((with_reducible refine gate_callee (f := 32) rfl ?_); refine gL_ 8 Try.func32 rfl #[.string a2] ?_; (with_reducible refine (spec_l04Mod.calls a2 true _ A5.out).mono ?_); rintro e w' ⟨rfl, ⟨nd, rfl⟩⟩; refine ⟨_, rfl, ?_⟩) | (go_at_call 33; (with_reducible refine (spec_RestOk.calls k a0 a2 true _ A7.out).mono ?_); rintro e w10 ⟨rfl, hb⟩; replace HB := Aside0.mk (below_step (pB_ HB.out) hb); clear hb) | (go_at_call 43; (with_reducible refine (spec_GreatOk.calls a1 t733 _ A9.out).mono ?_); rintro e w' ⟨rfl, ⟨nd, rfl⟩⟩))
        go_meet
        case rel => exact ⟨_, (!t733), (by first | rfl | (simp; done) | (simp [*]; done)), H', ⟨by first | omega | exact Nat.le_refl _⟩, ⟨pB_ HB.out⟩⟩
      · replace c8 := Bool.eq_false_iff.mpr c8
        subst c8
        have H1 : (spec_PowRest.j0 k a0 a1 a2 true) = some r := by rw [if_neg (show ¬ (false = true) by decide)] at H; exact H
        clear H
        have H := H1
        clear H1
        have H' := Aside0.mk H
        clear H
        go_wp2_with (first | ((with_reducible refine gate_callee (f := 32) rfl ?_); refine gL_ 8 Try.func32 rfl #[.string a2] ?_; (with_reducible refine (spec_l04Mod.calls a2 true _ A5.out).mono ?_); rintro e w' ⟨rfl, ⟨nd, rfl⟩⟩; refine ⟨_, rfl, ?_⟩) | (go_at_call 33; (with_reducible refine (spec_RestOk.calls k a0 a2 false _ A7.out).mono ?_); rintro e w11 ⟨rfl, hb⟩; replace HB := Aside0.mk (below_step (pB_ HB.out) hb); clear hb))
        go_meet
        case rel => exact ⟨_, (true), (by first | rfl | (simp; done) | (simp [*]; done)), H', ⟨by first | omega | exact Nat.le_refl _⟩, ⟨pB_ HB.out⟩⟩
    · replace c6 := Bool.eq_false_iff.mpr c6
      subst c6
      have H1 : (spec_PowRest.j0 k a0 a1 a2 true) = some r := by rw [if_neg (show ¬ (false = true) by decide)] at H; exact H
      clear H
      have H := H1
      clear H1
      have H' := Aside0.mk H
      clear H
      go_wp2_with (first | ((with_reducible refine gate_callee (f := 32) rfl ?_); refine gL_ 8 Try.func32 rfl #[.string a2] ?_; (with_reducible refine (spec_l04Mod.calls a2 false _ A5.out).mono ?_); rintro e w' ⟨rfl, ⟨nd, rfl⟩⟩; refine ⟨_, rfl, ?_⟩))
      go_meet
      case rel => exact ⟨_, (true), (by first | rfl | (simp; done) | (simp [*]; done)), H', ⟨by first | omega | exact Nat.le_refl _⟩, ⟨pB_ HB.out⟩⟩
  clear HC4
  try clear c2
  try clear p2
  try clear c3
  try clear c6
  try clear c8
  obtain ⟨kq, x20_3, rfl, HA, HJ3, HB⟩ := hcut
  rcases kq with _ | kj3
  · exact absurd HA.out (by simp [spec_PowRest.j0])
  have H := HA.out
  clear HA
  simp only [spec_PowRest.j0] at H
  by_cases c12 : x20_3 = true
  · subst c12
    have H1 : (some (⟨#[]⟩ : ByteArray)) = some r := by rw [if_pos rfl] at H; exact H
    clear H
    have H := H1
    clear H1
    obtain rfl := Option.some.inj H
    go_wp2
    go_ret
    exact ⟨by first | rfl | (simp [errW_none, errW_some] <;> rfl) | (simp [*, errW_none, errW_some] <;> rfl), pB_ HB.out⟩
  · replace c12 := Bool.eq_false_iff.mpr c12
    subst c12
    have H1 : ((spec_l02In.f kj3 a0).bind fun t734 => ((spec_l02In.f kj3 a2).bind fun t737 => ((spec_l04Pow.f kj3 t734 a1 t737).bind fun t740 => ((spec_l02Out.f kj3 t740).bind fun t743 => (some t743))))) = some r := by rw [if_neg (show ¬ (false = true) by decide)] at H; exact H
    clear H
    have H := H1
    clear H1
    replace H := Option.bind_eq_some_iff.mp H
    obtain ⟨t734, A130, H⟩ := H
    have A13 := Aside0.mk A130
    clear A130
    replace H := Option.bind_eq_some_iff.mp H
    obtain ⟨t737, A140, H⟩ := H
    have A14 := Aside0.mk A140
    clear A140
    replace H := Option.bind_eq_some_iff.mp H
    obtain ⟨t740, A150, H⟩ := H
    have A15 := Aside0.mk A150
    clear A150
    replace H := Option.bind_eq_some_iff.mp H
    obtain ⟨t743, A160, H⟩ := H
    have A16 := Aside0.mk A160
    clear A160
    obtain rfl := Option.some.inj H
    go_wp2_with (first | ((with_reducible refine gate_callee (f := 37) rfl ?_); refine gL_ 22 Try.func37 rfl #[.string a0] ?_; (with_reducible refine (spec_l02In.calls kj3 a0 t734 _ A13.out).mono ?_); rintro e w17 ⟨v735, rfl, ho0, hb⟩; refine ⟨_, rfl, ?_⟩; have HO736 := Aside0.mk (Kd.V_lower (Kd.V_mono (ok' := fun k_ => True) ho0 (fun k_ hk_ => trivial)) (below_size (pB_ HB.out))); replace HB := Aside0.mk (below_step (pB_ HB.out) hb); clear hb ho0) | ((with_reducible refine gate_callee (f := 37) rfl ?_); refine gL_ 25 Try.func37 rfl #[.string a2] ?_; (with_reducible refine (spec_l02In.calls kj3 a2 t737 _ A14.out).mono ?_); rintro e w18 ⟨v738, rfl, ho0, hb⟩; refine ⟨_, rfl, ?_⟩; replace HO736 := Aside0.mk (Kd.V_below (pV_ HO736.out) hb); have HO739 := Aside0.mk (Kd.V_lower (Kd.V_mono (ok' := fun k_ => True) ho0 (fun k_ hk_ => trivial)) (below_size (pB_ HB.out))); replace HB := Aside0.mk (below_step (pB_ HB.out) hb); clear hb ho0; obtain ⟨Ao19, co19, eo19⟩ := Kd.V_slice HO736.out; subst eo19; obtain ⟨Ao20, co20, eo20⟩ := Kd.V_slice HO739.out; subst eo20) | ((with_reducible refine gate_callee (f := 56) rfl ?_); refine gL_ 26 Try.func56 rfl #[.slice Ao19 t734.length co19, .string a1, .slice Ao20 t737.length co20] ?_; (with_reducible refine (spec_l04Pow.calls kj3 _ _ t734 a1 _ _ t737 t740 _ ?side1 ?side2 ?side3 ?side4 A15.out).mono ?_); (case side1 => exact pC_ (Kd.V_reads' HO736.out).2.2); (case side2 => exact (Kd.V_reads' HO736.out).2.1); (case side3 => exact pC_ (Kd.V_reads' HO739.out).2.2); (case side4 => exact (Kd.V_reads' HO739.out).2.1); rintro e w21 ⟨v741, rfl, ho0, hb⟩; refine ⟨_, rfl, ?_⟩; replace HO736 := Aside0.mk (Kd.V_below (pV_ HO736.out) hb); replace HO739 := Aside0.mk (Kd.V_below (pV_ HO739.out) hb); have HO742 := Aside0.mk (Kd.V_lower (Kd.V_mono (ok' := fun k_ => True) ho0 (fun k_ hk_ => trivial)) (below_size (pB_ HB.out))); replace HB := Aside0.mk (below_step (pB_ HB.out) hb); clear hb ho0; obtain ⟨Ao22, co22, eo22⟩ := Kd.V_slice HO742.out; subst eo22) | ((with_reducible refine gate_callee (f := 35) rfl ?_); refine gL_ 27 Try.func35 rfl #[.slice Ao22 t740.length co22] ?_; (with_reducible refine (spec_l02Out.calls kj3 _ _ t740 t743 _ ?side1 ?side2 A16.out).mono ?_); (case side1 => exact pC_ (Kd.V_reads' HO742.out).2.2); (case side2 => exact (Kd.V_reads' HO742.out).2.1); rintro e w23 ⟨rfl, hb⟩; refine ⟨_, rfl, ?_⟩; replace HO736 := Aside0.mk (Kd.V_below (pV_ HO736.out) hb); replace HO739 := Aside0.mk (Kd.V_below (pV_ HO739.out) hb); replace HO742 := Aside0.mk (Kd.V_below (pV_ HO742.out) hb); replace HB := Aside0.mk (below_step (pB_ HB.out) hb); clear hb))
    go_ret
    exact ⟨by first | rfl | (simp [errW_none, errW_some] <;> rfl) | (simp [*, errW_none, errW_some] <;> rfl), pB_ HB.out⟩

/-! ### impl_PowRest: function 23 -/
def impl_PowRest.j0 : Nat → ByteArray → ByteArray → List Int → Bool → Option (ByteArray)
  | 0, _, _, _, _ => none
  | k + 1, x0, x1, x7, x22 => if x22 = true then (some (⟨#[]⟩ : ByteArray)) else ((impl_natOf.f k x0).bind fun t752 => ((impl_natOf.f k x1).bind fun t755 => ((impl_prime_pow.f k x7 t752 t755).bind fun t758 => ((impl_nat_text.f k t758).bind fun t761 => (some t761)))))
def impl_PowRest.f (k : Nat) (a0 : ByteArray) (a1 : ByteArray) (a2 : ByteArray) : Option (ByteArray) := (impl_modulus.f k a2 (([a0] : List ByteArray))).bind fun bt747 => (if bt747.2 = true then ((impl_GreatOk.f a1).bind fun t751 => (impl_PowRest.j0 k a0 a1 bt747.1 (!t751))) else (impl_PowRest.j0 k a0 a1 bt747.1 true))
set_option maxHeartbeats 8000000 in
set_option maxRecDepth 100000 in
theorem impl_PowRest.calls (k : Nat) (a0 : ByteArray) (a1 : ByteArray) (a2 : ByteArray) (r : ByteArray) (w : World) (h : impl_PowRest.f k a0 a1 a2 = some r) :
    Calls Try.prog 23 #[.string a0, .string a1, .string a2] w fun e w' => e = .returned (.string r) ∧ Below w.heap.size w w' := by
  have HB := Aside0.mk (Below.refl w.heap.size w)
  have H : ((impl_modulus.f k a2 (([a0] : List ByteArray))).bind fun bt747 => (if bt747.2 = true then ((impl_GreatOk.f a1).bind fun t751 => (impl_PowRest.j0 k a0 a1 bt747.1 (!t751))) else (impl_PowRest.j0 k a0 a1 bt747.1 true))) = some r := h
  clear h
  obtain ⟨y744, hy744⟩ : ∃ y_ : List ByteArray, y_ = (([a0] : List ByteArray)) := ⟨_, rfl⟩
  replace H : ((impl_modulus.f k a2 y744).bind fun bt747 => (if bt747.2 = true then ((impl_GreatOk.f a1).bind fun t751 => (impl_PowRest.j0 k a0 a1 bt747.1 (!t751))) else (impl_PowRest.j0 k a0 a1 bt747.1 true))) = some r := by first | (rw [hy744]; with_reducible exact H) | (have H2_ := (Option.bind_some _ _).symm.trans H; rw [hy744]; with_reducible exact H2_) | (have H2_ := (Option.bind_some _ _).symm.trans H; with_reducible exact H2_) | with_reducible exact H | (rw [hy744]; exact H) | exact H
  have Ny744 := Aside0.mk hy744
  clear hy744
  replace H := Option.bind_eq_some_iff.mp H
  obtain ⟨⟨t747, t750⟩, A40, H⟩ := H
  replace H : (if t750 = true then ((impl_GreatOk.f a1).bind fun t751 => (impl_PowRest.j0 k a0 a1 t747 (!t751))) else (impl_PowRest.j0 k a0 a1 t747 true)) = some r := H
  have A4 := Aside0.mk A40
  clear A40
  have HC5 := Aside0.mk H
  clear H
  go_enter Try.func23, Try.ntmps23
  go_upto_region 2 with (first | ((with_reducible refine gate_dst (N := 12) rfl ?_); refine Kd.R_lit Kd.string _ 9 ?hg (N := 12) ?hd (xs := ([a0] : List ByteArray)) (inner := [.string a0]) (ok := fun _ => True) (okp := fun _ => True) ?hr ?hp (fun _ hk => hk) trivial (Below.refl _ _) (Nat.le_refl _) (by simp) ?_; (case hd => rfl); (case hg => rfl); (case hr => first | (go_simp; done) | (go_simp; rfl)); (case hp => exact (Reps.one (show Kd.M Kd.string _ _ _ a0 [.string a0] from rfl) (Reps.none _ _))); intro v745 w6 ho7 hb hg_ hnew_; clear hg_ hnew_; (first | rw [← Ny744.out] at ho7 | (simp only [Int.reduceToNat] at ho7; rw [← Ny744.out] at ho7)); have HO746 := Aside0.mk (Kd.R_lower ho7 (below_size (pB_ HB.out))); replace HB := Aside0.mk (below_step (pB_ HB.out) hb); clear hb ho7; obtain ⟨Ao8, co8, eo8⟩ := Kd.R_slice HO746.out; subst eo8) | ((with_reducible refine gate_callee (f := 38) rfl ?_); refine gL_ 13 Try.func38 rfl #[.string a2, .slice Ao8 y744.length co8] ?_; (with_reducible refine (impl_modulus.calls k a2 _ _ y744 t747 t750 _ ?side1 ?side2 A4.out).mono ?_); (case side1 => exact pC_ (Kd.R_reads' HO746.out).2.2); (case side2 => exact (Kd.R_reads' HO746.out).2.1); rintro e w9 ⟨v748, rfl, ho0, hb⟩; refine ⟨_, rfl, ?_⟩; have HO749 := Aside0.mk (Kd.V_lower (Kd.V_mono (ok' := fun k_ => some k_ ≠ (.slice Ao8 y744.length co8 : Value).ownBlock) ho0 (fun k_ hk_ => (Kd.fresh' (Kd.R_lt (pR_ HO746.out)) k_ hk_))) (below_size (pB_ HB.out))); replace HO746 := Aside0.mk (Kd.R_below (pR_ HO746.out) hb); replace HB := Aside0.mk (below_step (pB_ HB.out) hb); clear hb ho0))
  (try simp only [Act.put, List.setIfInBounds_toArray, List.set_cons_zero, List.set_cons_succ])
  go_cut [22] (fun v22 wc => ∃ (kq : Nat) (x22_4 : Bool), v22 = .bool x22_4 ∧ Aside0 (impl_PowRest.j0 kq a0 a1 t747 x22_4 = some r) ∧ Aside0 (kq ≤ k) ∧ Aside0 (Kd.V (Kd.int .u64) 83 wc w.heap.size (fun _ => True) v748 t747) ∧ Aside0 (Below w.heap.size w wc))
  case first =>
    have H := HC5.out
    clear HC5
    by_cases c10 : t750 = true
    · subst c10
      have H1 : ((impl_GreatOk.f a1).bind fun t751 => (impl_PowRest.j0 k a0 a1 t747 (!t751))) = some r := by rw [if_pos rfl] at H; exact H
      clear H
      have H := H1
      clear H1
      replace H := Option.bind_eq_some_iff.mp H
      obtain ⟨t751, A110, H⟩ := H
      have A11 := Aside0.mk A110
      clear A110
      have H' := Aside0.mk H
      clear H
      go_wp2_with (first | (go_at_call 47; (with_reducible refine (impl_GreatOk.calls a1 t751 _ A11.out).mono ?_); rintro e w' ⟨rfl, ⟨nd, rfl⟩⟩))
      go_meet
      case rel => exact ⟨_, (!t751), (by first | rfl | (simp; done) | (simp [*]; done)), H', ⟨by first | omega | exact Nat.le_refl _⟩, ⟨by (with_reducible repeat (first | apply Kd.V_alloc | apply Kd.V_drewN | apply Kd.V_drew)); exact Kd.V_mono HO749.out (fun _ hk => trivial)⟩, ⟨pB_ HB.out⟩⟩
    · replace c10 := Bool.eq_false_iff.mpr c10
      subst c10
      have H1 : (impl_PowRest.j0 k a0 a1 t747 true) = some r := by rw [if_neg (show ¬ (false = true) by decide)] at H; exact H
      clear H
      have H := H1
      clear H1
      have H' := Aside0.mk H
      clear H
      go_wp2
      go_meet
      case rel => exact ⟨_, (true), (by first | rfl | (simp; done) | (simp [*]; done)), H', ⟨by first | omega | exact Nat.le_refl _⟩, ⟨by (with_reducible repeat (first | apply Kd.V_alloc | apply Kd.V_drewN | apply Kd.V_drew)); exact Kd.V_mono HO749.out (fun _ hk => trivial)⟩, ⟨pB_ HB.out⟩⟩
  clear HC5
  try clear c1
  try clear c2
  try clear p2
  try clear c3
  try clear c10
  obtain ⟨kq, x22_4, rfl, HA, HJ4, HO_7, HB⟩ := hcut
  rcases kq with _ | kj4
  · exact absurd HA.out (by simp [impl_PowRest.j0])
  have H := HA.out
  clear HA
  simp only [impl_PowRest.j0] at H
  by_cases c12 : x22_4 = true
  · subst c12
    have H1 : (some (⟨#[]⟩ : ByteArray)) = some r := by rw [if_pos rfl] at H; exact H
    clear H
    have H := H1
    clear H1
    obtain rfl := Option.some.inj H
    go_wp2
    go_ret
    exact ⟨by first | rfl | (simp [errW_none, errW_some] <;> rfl) | (simp [*, errW_none, errW_some] <;> rfl), pB_ HB.out⟩
  · replace c12 := Bool.eq_false_iff.mpr c12
    subst c12
    have H1 : ((impl_natOf.f kj4 a0).bind fun t752 => ((impl_natOf.f kj4 a1).bind fun t755 => ((impl_prime_pow.f kj4 t747 t752 t755).bind fun t758 => ((impl_nat_text.f kj4 t758).bind fun t761 => (some t761))))) = some r := by rw [if_neg (show ¬ (false = true) by decide)] at H; exact H
    clear H
    have H := H1
    clear H1
    replace H := Option.bind_eq_some_iff.mp H
    obtain ⟨t752, A130, H⟩ := H
    have A13 := Aside0.mk A130
    clear A130
    replace H := Option.bind_eq_some_iff.mp H
    obtain ⟨t755, A140, H⟩ := H
    have A14 := Aside0.mk A140
    clear A140
    replace H := Option.bind_eq_some_iff.mp H
    obtain ⟨t758, A150, H⟩ := H
    have A15 := Aside0.mk A150
    clear A150
    replace H := Option.bind_eq_some_iff.mp H
    obtain ⟨t761, A160, H⟩ := H
    have A16 := Aside0.mk A160
    clear A160
    obtain rfl := Option.some.inj H
    go_wp2_with (first | ((with_reducible refine gate_callee (f := 41) rfl ?_); refine gL_ 25 Try.func41 rfl #[.string a0] ?_; (with_reducible refine (impl_natOf.calls kj4 a0 t752 _ A13.out).mono ?_); rintro e w17 ⟨v753, rfl, ho0, hb⟩; refine ⟨_, rfl, ?_⟩; replace HO_7 := Aside0.mk (Kd.V_below (pV_ HO_7.out) hb); have HO754 := Aside0.mk (Kd.V_lower (Kd.V_mono (ok' := fun k_ => True) ho0 (fun k_ hk_ => trivial)) (below_size (pB_ HB.out))); replace HB := Aside0.mk (below_step (pB_ HB.out) hb); clear hb ho0) | ((with_reducible refine gate_callee (f := 41) rfl ?_); refine gL_ 27 Try.func41 rfl #[.string a1] ?_; (with_reducible refine (impl_natOf.calls kj4 a1 t755 _ A14.out).mono ?_); rintro e w18 ⟨v756, rfl, ho0, hb⟩; refine ⟨_, rfl, ?_⟩; replace HO_7 := Aside0.mk (Kd.V_below (pV_ HO_7.out) hb); replace HO754 := Aside0.mk (Kd.V_below (pV_ HO754.out) hb); have HO757 := Aside0.mk (Kd.V_lower (Kd.V_mono (ok' := fun k_ => True) ho0 (fun k_ hk_ => trivial)) (below_size (pB_ HB.out))); replace HB := Aside0.mk (below_step (pB_ HB.out) hb); clear hb ho0; obtain ⟨Ao19, co19, eo19⟩ := Kd.V_slice HO_7.out; subst eo19; obtain ⟨Ao20, co20, eo20⟩ := Kd.V_slice HO754.out; subst eo20; obtain ⟨Ao21, co21, eo21⟩ := Kd.V_slice HO757.out; subst eo21) | ((with_reducible refine gate_callee (f := 57) rfl ?_); refine gL_ 28 Try.func57 rfl #[.slice Ao19 t747.length co19, .slice Ao20 t752.length co20, .slice Ao21 t755.length co21] ?_; (with_reducible refine (impl_prime_pow.calls kj4 _ _ t747 _ _ t752 _ _ t755 t758 _ ?side1 ?side2 ?side3 ?side4 ?side5 ?side6 A15.out).mono ?_); (case side1 => exact pC_ (Kd.V_reads' HO_7.out).2.2); (case side2 => exact (Kd.V_reads' HO_7.out).2.1); (case side3 => exact pC_ (Kd.V_reads' HO754.out).2.2); (case side4 => exact (Kd.V_reads' HO754.out).2.1); (case side5 => exact pC_ (Kd.V_reads' HO757.out).2.2); (case side6 => exact (Kd.V_reads' HO757.out).2.1); rintro e w22 ⟨v759, rfl, ho0, hb⟩; refine ⟨_, rfl, ?_⟩; replace HO_7 := Aside0.mk (Kd.V_below (pV_ HO_7.out) hb); replace HO754 := Aside0.mk (Kd.V_below (pV_ HO754.out) hb); replace HO757 := Aside0.mk (Kd.V_below (pV_ HO757.out) hb); have HO760 := Aside0.mk (Kd.V_lower (Kd.V_mono (ok' := fun k_ => True) ho0 (fun k_ hk_ => trivial)) (below_size (pB_ HB.out))); replace HB := Aside0.mk (below_step (pB_ HB.out) hb); clear hb ho0; obtain ⟨Ao23, co23, eo23⟩ := Kd.V_slice HO760.out; subst eo23) | ((with_reducible refine gate_callee (f := 42) rfl ?_); refine gL_ 29 Try.func42 rfl #[.slice Ao23 t758.length co23] ?_; (with_reducible refine (impl_nat_text.calls kj4 _ _ t758 t761 _ ?side1 ?side2 A16.out).mono ?_); (case side1 => exact pC_ (Kd.V_reads' HO760.out).2.2); (case side2 => exact (Kd.V_reads' HO760.out).2.1); rintro e w24 ⟨rfl, hb⟩; refine ⟨_, rfl, ?_⟩; replace HO_7 := Aside0.mk (Kd.V_below (pV_ HO_7.out) hb); replace HO754 := Aside0.mk (Kd.V_below (pV_ HO754.out) hb); replace HO757 := Aside0.mk (Kd.V_below (pV_ HO757.out) hb); replace HO760 := Aside0.mk (Kd.V_below (pV_ HO760.out) hb); replace HB := Aside0.mk (below_step (pB_ HB.out) hb); clear hb))
    go_ret
    exact ⟨by first | rfl | (simp [errW_none, errW_some] <;> rfl) | (simp [*, errW_none, errW_some] <;> rfl), pB_ HB.out⟩

/-! ### laws_FnExactPowRest: function 8 -/
def laws_FnExactPowRest.f (k : Nat) (a0 : ByteArray) (a1 : ByteArray) (a2 : ByteArray) : Option (Bool) := if (a0.size : Int) > 1048576 then (some true) else (if (a1.size : Int) > 1048576 then (some true) else (if (a2.size : Int) > 1048576 then (some true) else ((spec_PowRest.f k a0 a1 a2).bind fun t762 => ((impl_PowRest.f k a0 a1 a2).bind fun t763 => (if t763.toList = t762.toList then (some true) else (some false))))))
set_option maxHeartbeats 8000000 in
set_option maxRecDepth 100000 in
theorem laws_FnExactPowRest.calls (k : Nat) (a0 : ByteArray) (a1 : ByteArray) (a2 : ByteArray) (r : Bool) (w : World) (h : laws_FnExactPowRest.f k a0 a1 a2 = some r) :
    Calls Try.prog 8 #[.string a0, .string a1, .string a2] w fun e w' => e = .returned (.bool r) ∧ Below w.heap.size w w' := by
  have HB := Aside0.mk (Below.refl w.heap.size w)
  have H : (if (a0.size : Int) > 1048576 then (some true) else (if (a1.size : Int) > 1048576 then (some true) else (if (a2.size : Int) > 1048576 then (some true) else ((spec_PowRest.f k a0 a1 a2).bind fun t762 => ((impl_PowRest.f k a0 a1 a2).bind fun t763 => (if t763.toList = t762.toList then (some true) else (some false))))))) = some r := h
  clear h
  by_cases c4 : (a0.size : Int) > 1048576
  · rw [if_pos c4] at H
    have c4b0 : decide (1048576 < (a0.size : Int)) = true := decide_eq_true c4
    have c4b1 : decide (1048576 < a0.size) = true := decide_eq_true (by omega)
    clear c4
    obtain rfl := Option.some.inj H
    go_enter Try.func8, Try.ntmps8
    go_wp2
    go_ret
    exact ⟨by first | rfl | (simp [errW_none, errW_some] <;> rfl) | (simp [*, errW_none, errW_some] <;> rfl), pB_ HB.out⟩
  rw [if_neg c4] at H
  have c4b0 : decide (1048576 < (a0.size : Int)) = false := decide_eq_false c4
  have c4b1 : decide (1048576 < a0.size) = false := decide_eq_false (by omega)
  clear c4
  by_cases c5 : (a1.size : Int) > 1048576
  · rw [if_pos c5] at H
    have c5b0 : decide (1048576 < (a1.size : Int)) = true := decide_eq_true c5
    have c5b1 : decide (1048576 < a1.size) = true := decide_eq_true (by omega)
    clear c5
    obtain rfl := Option.some.inj H
    go_enter Try.func8, Try.ntmps8
    go_wp2
    go_ret
    exact ⟨by first | rfl | (simp [errW_none, errW_some] <;> rfl) | (simp [*, errW_none, errW_some] <;> rfl), pB_ HB.out⟩
  rw [if_neg c5] at H
  have c5b0 : decide (1048576 < (a1.size : Int)) = false := decide_eq_false c5
  have c5b1 : decide (1048576 < a1.size) = false := decide_eq_false (by omega)
  clear c5
  by_cases c6 : (a2.size : Int) > 1048576
  · rw [if_pos c6] at H
    have c6b0 : decide (1048576 < (a2.size : Int)) = true := decide_eq_true c6
    have c6b1 : decide (1048576 < a2.size) = true := decide_eq_true (by omega)
    clear c6
    obtain rfl := Option.some.inj H
    go_enter Try.func8, Try.ntmps8
    go_wp2
    go_ret
    exact ⟨by first | rfl | (simp [errW_none, errW_some] <;> rfl) | (simp [*, errW_none, errW_some] <;> rfl), pB_ HB.out⟩
  rw [if_neg c6] at H
  have c6b0 : decide (1048576 < (a2.size : Int)) = false := decide_eq_false c6
  have c6b1 : decide (1048576 < a2.size) = false := decide_eq_false (by omega)
  clear c6
  replace H := Option.bind_eq_some_iff.mp H
  obtain ⟨t762, A70, H⟩ := H
  have A7 := Aside0.mk A70
  clear A70
  replace H := Option.bind_eq_some_iff.mp H
  obtain ⟨t763, A80, H⟩ := H
  have A8 := Aside0.mk A80
  clear A80
  by_cases c9 : t763.toList = t762.toList
  rotate_left
  · rw [if_neg c9] at H
    have c9b0 : (t763.toList == t762.toList) = false := beq_eq_false_iff_ne.mpr c9
    have c9b1 : (t763.toList != t762.toList) = true := bne_iff_ne.mpr c9
    obtain rfl := Option.some.inj H
    go_enter Try.func8, Try.ntmps8
    go_wp2_with (first | ((with_reducible refine gate_callee (f := 22) rfl ?_); refine gL_ 21 Try.func22 rfl #[.string a0, .string a1, .string a2] ?_; (with_reducible refine (spec_PowRest.calls k a0 a1 a2 t762 _ A7.out).mono ?_); rintro e w12 ⟨rfl, hb⟩; refine ⟨_, rfl, ?_⟩; replace HB := Aside0.mk (below_step (pB_ HB.out) hb); clear hb) | ((with_reducible refine gate_callee (f := 23) rfl ?_); refine gL_ 25 Try.func23 rfl #[.string a0, .string a1, .string a2] ?_; (with_reducible refine (impl_PowRest.calls k a0 a1 a2 t763 _ A8.out).mono ?_); rintro e w13 ⟨rfl, hb⟩; refine ⟨_, rfl, ?_⟩; replace HB := Aside0.mk (below_step (pB_ HB.out) hb); clear hb))
    go_ret
    exact ⟨by first | rfl | (simp [errW_none, errW_some] <;> rfl) | (simp [*, errW_none, errW_some] <;> rfl), pB_ HB.out⟩

  rw [if_pos c9] at H
  have c9b0 : (t763.toList == t762.toList) = true := beq_iff_eq.mpr c9
  have c9b1 : (t763.toList != t762.toList) = false := bne_eq_false_iff_eq.mpr c9
  clear c9
  obtain rfl := Option.some.inj H
  go_enter Try.func8, Try.ntmps8
  go_wp2_with (first | ((with_reducible refine gate_callee (f := 22) rfl ?_); refine gL_ 21 Try.func22 rfl #[.string a0, .string a1, .string a2] ?_; (with_reducible refine (spec_PowRest.calls k a0 a1 a2 t762 _ A7.out).mono ?_); rintro e w10 ⟨rfl, hb⟩; refine ⟨_, rfl, ?_⟩; replace HB := Aside0.mk (below_step (pB_ HB.out) hb); clear hb) | ((with_reducible refine gate_callee (f := 23) rfl ?_); refine gL_ 25 Try.func23 rfl #[.string a0, .string a1, .string a2] ?_; (with_reducible refine (impl_PowRest.calls k a0 a1 a2 t763 _ A8.out).mono ?_); rintro e w11 ⟨rfl, hb⟩; refine ⟨_, rfl, ?_⟩; replace HB := Aside0.mk (below_step (pB_ HB.out) hb); clear hb))
  go_ret
  exact ⟨by first | rfl | (simp [errW_none, errW_some] <;> rfl) | (simp [*, errW_none, errW_some] <;> rfl), pB_ HB.out⟩
/-- THE ONE PURE STATEMENT of laws_FnExactPowRest: yours. -/
def laws_FnExactPowRest.Pure : Prop := ∀ (a0 : ByteArray) (a1 : ByteArray) (a2 : ByteArray), a0.size ≤ 140737488351232 → a1.size ≤ 140737488351232 → a2.size ≤ 140737488351232 → ∃ k, laws_FnExactPowRest.f k a0 a1 a2 = some true
theorem laws_FnExactPowRest.walk (P : laws_FnExactPowRest.Pure) (a0 : ByteArray) (a1 : ByteArray) (a2 : ByteArray) (w : World) (w0 : a0.size ≤ 140737488351232) (w1 : a1.size ≤ 140737488351232) (w2 : a2.size ≤ 140737488351232) :
    Calls Try.prog 8 #[.string a0, .string a1, .string a2] w fun e w' => e = .returned (.bool true) ∧ Below w.heap.size w w' := by
  obtain ⟨k, h⟩ := P a0 a1 a2 w0 w1 w2
  refine (laws_FnExactPowRest.calls k a0 a1 a2 true w h).mono ?_
  rintro e w' ⟨rfl, hd⟩
  exact ⟨rfl, hd⟩

end Go.Proofs.Ytghhnjhjhjbljaa.F
