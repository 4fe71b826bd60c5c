-- Made for this seat by a program of this session (wip/fork). Lean checks it.
import Derived.Test.YtbkcchpcadlkdaaFx0
import Derived.Test.YtbkcchpcadlkdaaFx2
import Derived.Test.YtbkcchpcadlkdaaFx4
import Derived.Test.YtbkcchpcadlkdaaFx6
namespace Go.Proofs.Ytbkcchpcadlkdaa.F
open Go.RowKit Go.Proofs.YtbkcchpcadlkdaaW.PrintWords Go.Proofs.YtbkcchpcadlkdaaW.PrintLast Go.Proofs.YtbkcchpcadlkdaaW.PrintMore
attribute [local go_sem] max2_int min2_int max_two min_two max_three min_three max_four min_four   -- for this text's walks alone
set_option linter.unusedVariables false
set_option linter.unusedSimpArgs false

/-! ### spec_LowInverse: function 37 -/
mutual
def spec_LowInverse.j0 : Nat → ByteArray → Bool → Option (Int)
  | 0, _, _ => none
  | k + 1, x0, x13 => if x13 = true then (some 0) else ((spec_l02In.f k x0).bind fun t269 => (if 0 < (t269.length : Int) then (spec_LowInverse.l0 k (rd t269 0) 1 0) else (none)))
def spec_LowInverse.l0 : Nat → Int → Int → Int → Option (Int)
  | 0, _, _, _ => none
  | k + 1, x3, x4, x5 => if x5 < 5 then (spec_LowInverse.l0 k x3 (Go.bits .and .i64 (wrap64 (x4 * (wrap64 (2 - (Go.bits .and .i64 (wrap64 (x3 * x4)) 16777215))))) 16777215) (wrap64 (x5 + 1))) else (some (Go.bits .and .i64 (wrap64 (16777216 - x4)) 16777215))
end
def spec_LowInverse.f (k : Nat) (a0 : ByteArray) : Option (Int) := (spec_GreatOk.f a0).bind fun t267 => (if t267 = true then ((spec_BitOf.f a0 0).bind fun t268 => (spec_LowInverse.j0 k a0 (t268 == 0))) else (spec_LowInverse.j0 k a0 true))
set_option maxHeartbeats 8000000 in
set_option maxRecDepth 100000 in
theorem spec_LowInverse.calls (k : Nat) (a0 : ByteArray) (r : Int) (w : World) (h : spec_LowInverse.f k a0 = some r) :
    Calls Try.prog 37 #[.string a0] w fun e w' => e = .returned (.int .i64 r) ∧ Below w.heap.size w w' := by
  have HB := Aside0.mk (Below.refl w.heap.size w)
  have H : ((spec_GreatOk.f a0).bind fun t267 => (if t267 = true then ((spec_BitOf.f a0 0).bind fun t268 => (spec_LowInverse.j0 k a0 (t268 == 0))) else (spec_LowInverse.j0 k a0 true))) = some r := h
  clear h
  have HC2 := Aside0.mk H
  clear H
  go_enter Try.func37, Try.ntmps37
  go_upto_region 1 with (fail)
  go_cut [13] (fun v13 wc => ∃ (kq : Nat) (x13_1 : Bool), v13 = .bool x13_1 ∧ Aside0 (spec_LowInverse.j0 kq a0 x13_1 = some r) ∧ Aside0 (kq ≤ k) ∧ Aside0 (Below w.heap.size w wc))
  case first =>
    have H := HC2.out
    clear HC2
    replace H := Option.bind_eq_some_iff.mp H
    obtain ⟨t267, A30, H⟩ := H
    have A3 := Aside0.mk A30
    clear A30
    by_cases c4 : t267 = true
    · subst c4
      have H1 : ((spec_BitOf.f a0 0).bind fun t268 => (spec_LowInverse.j0 k a0 (t268 == 0))) = some r := by rw [if_pos rfl] at H; exact H
      clear H
      have H := H1
      clear H1
      replace H := Option.bind_eq_some_iff.mp H
      obtain ⟨t268, A50, H⟩ := H
      have A5 := Aside0.mk A50
      clear A50
      have H' := Aside0.mk H
      clear H
      go_wp2_with (first | ((with_reducible refine gate_callee (f := 15) rfl ?_); refine gL_ 7 Try.func15 rfl #[.string a0] ?_; (with_reducible refine (spec_GreatOk.calls a0 true _ A3.out).mono ?_); rintro e w' ⟨rfl, ⟨nd, rfl⟩⟩; refine ⟨_, rfl, ?_⟩) | (go_at_call 27; (with_reducible refine (spec_BitOf.calls a0 0 t268 _ A5.out).mono ?_); rintro e w' ⟨rfl, ⟨nd, rfl⟩⟩))
      go_meet
      case rel => exact ⟨_, ((t268 == 0)), (by first | rfl | (simp; done) | (simp [*]; done)), H', ⟨by first | omega | exact Nat.le_refl _⟩, ⟨pB_ HB.out⟩⟩
    · replace c4 := Bool.eq_false_iff.mpr c4
      subst c4
      have H1 : (spec_LowInverse.j0 k a0 true) = some r := by rw [if_neg (show ¬ (false = true) by decide)] at H; exact H
      clear H
      have H := H1
      clear H1
      have H' := Aside0.mk H
      clear H
      go_wp2_with (first | ((with_reducible refine gate_callee (f := 15) rfl ?_); refine gL_ 7 Try.func15 rfl #[.string a0] ?_; (with_reducible refine (spec_GreatOk.calls a0 false _ A3.out).mono ?_); rintro e w' ⟨rfl, ⟨nd, rfl⟩⟩; refine ⟨_, rfl, ?_⟩))
      go_meet
      case rel => exact ⟨_, (true), (by first | rfl | (simp; done) | (simp [*]; done)), H', ⟨by first | omega | exact Nat.le_refl _⟩, ⟨pB_ HB.out⟩⟩
  clear HC2
  try clear c1
  try clear p2
  try clear c3
  try clear c4
  obtain ⟨kq, x13_1, rfl, HA, HJ1, HB⟩ := hcut
  rcases kq with _ | kj1
  · exact absurd HA.out (by simp [spec_LowInverse.j0])
  have H := HA.out
  clear HA
  simp only [spec_LowInverse.j0] at H
  by_cases c6 : x13_1 = true
  · subst c6
    have H1 : (some 0) = some r := by rw [if_pos rfl] at H; exact H
    clear H
    have H := H1
    clear H1
    obtain rfl := Option.some.inj H
    go_wp2
    go_ret
    exact ⟨by first | rfl | (simp [errW_none, errW_some] <;> rfl) | (simp [*, errW_none, errW_some] <;> rfl), pB_ HB.out⟩
  · replace c6 := Bool.eq_false_iff.mpr c6
    subst c6
    have H1 : ((spec_l02In.f kj1 a0).bind fun t269 => (if 0 < (t269.length : Int) then (spec_LowInverse.l0 kj1 (rd t269 0) 1 0) else (none))) = some r := by rw [if_neg (show ¬ (false = true) by decide)] at H; exact H
    clear H
    have H := H1
    clear H1
    replace H := Option.bind_eq_some_iff.mp H
    obtain ⟨t269, A70, H⟩ := H
    have A7 := Aside0.mk A70
    clear A70
    by_cases c8 : 0 < (t269.length : Int)
    rotate_left
    · rw [if_neg c8] at H
      exact absurd H (by simp)

    rw [if_pos c8] at H
    have c8b0 : decide (0 < (t269.length : Int)) = true := decide_eq_true c8
    have c8b1 : decide (0 < t269.length) = true := decide_eq_true (by omega)
    clear c8
    have H' := Aside0.mk H
    clear H
    go_wp2_with (first | ((with_reducible refine gate_callee (f := 48) rfl ?_); refine gL_ 15 Try.func48 rfl #[.string a0] ?_; (with_reducible refine (spec_l02In.calls kj1 a0 t269 _ A7.out).mono ?_); rintro e w9 ⟨v270, rfl, ho0, hb⟩; refine ⟨_, rfl, ?_⟩; have HO271 := Aside0.mk (Kd.V_lower (Kd.V_mono (ok' := fun k_ => True) ho0 (fun k_ hk_ => trivial)) (below_size (pB_ HB.out))); replace HB := Aside0.mk (below_step (pB_ HB.out) hb); clear hb ho0; obtain ⟨Ao10, co10, eo10⟩ := Kd.V_slice HO271.out; subst eo10; have p272 : 0 ≤ (0 : Int) := (by omega); have q272 : 0 < (t269.length : Int) := od_; obtain ⟨ad272, e272, hx272_0⟩ := Kd.at_int (Kd.V_reads' HO271.out).2.2 0 p272 q272; cases e272; have qi272 : (0 < t269.length) = True := eq_true (by omega); (try rw [show ((0 : Int)).toNat = 0 from rfl] at hx272_0); (try rw [Addr.add_zero'] at hx272_0); replace p272 := eq_true p272; replace q272 := eq_true q272))
    go_loopg [4, 5] kj1 (fun kq v4 v5 w' => ∃ (x4_2 : Int) (x5_2 : Int), v4 = .int .i64 x4_2 ∧ v5 = .int .i64 x5_2 ∧ Aside0 (spec_LowInverse.l0 kq (rd t269 0) x4_2 x5_2 = some r) ∧ Aside0 (kq ≤ kj1) ∧ Aside0 (Below w.heap.size w w'))
    case atStart => exact ⟨(1), (0), (by first | rfl | (simp; done) | (simp [*]; done)), (by first | rfl | (simp; done) | (simp [*]; done)), H', ⟨Nat.le_refl _⟩, ⟨pB_ HB.out⟩⟩
    clear H'
    try clear c1
    try clear p2
    try clear q2
    try clear hx2
    try clear qi2
    try clear c3
    try clear c4
    try clear c6
    try clear c8
    try clear c8b0
    try clear c8b1
    try clear hx272_0
    try clear p2
    try clear p272
    try clear q272
    obtain ⟨x4_2, x5_2, rfl, rfl, HA, HK2, HB⟩ := hrel
    rcases gk with _ | k2
    · exact absurd HA.out (by simp [spec_LowInverse.l0])
    have H := HA.out
    clear HA
    simp only [spec_LowInverse.l0] at H
    by_cases c11 : x5_2 < 5
    rotate_left
    · rw [if_neg c11] at H
      have c11b0 : decide (x5_2 < 5) = false := decide_eq_false c11
      clear c11
      obtain rfl := Option.some.inj H
      go_wp2
      go_ret
      exact ⟨by first | rfl | (simp [errW_none, errW_some] <;> rfl) | (simp [*, errW_none, errW_some] <;> rfl), pB_ HB.out⟩
    rw [if_pos c11] at H
    have c11b0 : decide (x5_2 < 5) = true := decide_eq_true c11
    clear c11
    have H' := Aside0.mk H
    clear H
    go_wp2
    go_roundg k2
    case measure => have := HJ1.out; have := HK2.out; omega
    case rel => exact ⟨(Go.bits .and .i64 (wrap64 (x4_2 * (wrap64 (2 - (Go.bits .and .i64 (wrap64 ((rd t269 0) * x4_2)) 16777215))))) 16777215), (wrap64 (x5_2 + 1)), (by first | rfl | (simp; done) | (simp [*]; done)), (by first | rfl | (simp; done) | (simp [*]; done)), H', ⟨by have := HJ1.out; have := HK2.out; omega⟩, ⟨pB_ HB.out⟩⟩
/-! ### impl_nat_even: function 49 -/
def impl_nat_even.f (l0 : List Int) : Option (Bool) := (impl_nat_bit.f l0 0).bind fun t273 => (some (t273 == 0))
set_option maxHeartbeats 8000000 in
set_option maxRecDepth 100000 in
theorem impl_nat_even.calls (A0 : Option Addr) (c0 : Nat) (l0 : List Int) (r : Bool) (w : World) (hr0 : Kd.C (Kd.int .u64) w A0 l0.length l0) (hc0 : l0.length ≤ c0) (h : impl_nat_even.f l0 = some r) :
    Calls Try.prog 49 #[.slice A0 l0.length c0] w fun e w' => e = .returned (.bool r) ∧ Drawn0 w w' := by
  have HR0 := Aside0.mk hr0
  have HC0 := Aside0.mk hc0
  clear hr0 hc0
  have H : ((impl_nat_bit.f l0 0).bind fun t273 => (some (t273 == 0))) = some r := h
  clear h
  replace H := Option.bind_eq_some_iff.mp H
  obtain ⟨t273, A20, H⟩ := H
  have A2 := Aside0.mk A20
  clear A20
  obtain rfl := Option.some.inj H
  go_enter Try.func49, Try.ntmps49
  go_wp2_with (first | ((with_reducible refine gate_callee (f := 41) rfl ?_); refine gL_ 4 Try.func41 rfl #[.slice A0 l0.length c0, .int .i64 0] ?_; (with_reducible refine (impl_nat_bit.calls _ _ l0 0 t273 _ ?side1 ?side2 A2.out).mono ?_); (case side1 => exact pC_ HR0.out); (case side2 => exact HC0.out); rintro e w' ⟨rfl, ⟨nd, rfl⟩⟩; refine ⟨_, rfl, ?_⟩))
  go_ret
  exact ⟨by first | rfl | (simp; done) | (simp [*]; done), by repeat (first | exact Drawn0.refl _ | apply Drawn0.step)⟩

/-! ### impl_LowInverse: function 38 -/
mutual
def impl_LowInverse.j0 : Nat → List Int → Bool → Option (Int)
  | 0, _, _ => none
  | k + 1, x3, x13 => if x13 = true then (some 0) else (impl_LowInverse.l0 k x3 1 0)
def impl_LowInverse.l0 : Nat → List Int → Int → Int → Option (Int)
  | 0, _, _, _ => none
  | k + 1, x3, x4, x14 => if x14 < 5 then (if 0 < (x3.length : Int) then (impl_LowInverse.l0 k x3 (IntKind.u64.wrap (x4 * (IntKind.u64.wrap (2 - (IntKind.u64.wrap ((rd x3 0) * x4)))))) (wrap64 (x14 + 1))) else (none)) else (some (wrap64 (Go.bits .and .u64 (IntKind.u64.wrap (-x4)) 16777215)))
end
def impl_LowInverse.f (k : Nat) (a0 : ByteArray) : Option (Int) := (impl_natOf.f k a0).bind fun t274 => ((impl_GreatOk.f a0).bind fun t277 => (if t277 = true then ((impl_nat_even.f t274).bind fun t278 => (impl_LowInverse.j0 k t274 t278)) else (impl_LowInverse.j0 k t274 true)))
set_option maxHeartbeats 8000000 in
set_option maxRecDepth 100000 in
theorem impl_LowInverse.calls (k : Nat) (a0 : ByteArray) (r : Int) (w : World) (h : impl_LowInverse.f k a0 = some r) :
    Calls Try.prog 38 #[.string a0] w fun e w' => e = .returned (.int .i64 r) ∧ Below w.heap.size w w' := by
  have HB := Aside0.mk (Below.refl w.heap.size w)
  have H : ((impl_natOf.f k a0).bind fun t274 => ((impl_GreatOk.f a0).bind fun t277 => (if t277 = true then ((impl_nat_even.f t274).bind fun t278 => (impl_LowInverse.j0 k t274 t278)) else (impl_LowInverse.j0 k t274 true)))) = some r := h
  clear h
  replace H := Option.bind_eq_some_iff.mp H
  obtain ⟨t274, A20, H⟩ := H
  have A2 := Aside0.mk A20
  clear A20
  have HC3 := Aside0.mk H
  clear H
  go_enter Try.func38, Try.ntmps38
  go_upto_region 2 with (first | ((with_reducible refine gate_callee (f := 40) rfl ?_); refine gL_ 6 Try.func40 rfl #[.string a0] ?_; (with_reducible refine (impl_natOf.calls k a0 t274 _ A2.out).mono ?_); rintro e w4 ⟨v275, rfl, ho0, hb⟩; refine ⟨_, rfl, ?_⟩; have HO276 := Aside0.mk (Kd.V_lower (Kd.V_mono (ok' := fun k_ => True) ho0 (fun k_ hk_ => trivial)) (below_size (pB_ HB.out))); replace HB := Aside0.mk (below_step (pB_ HB.out) hb); clear hb ho0))
  (try simp only [Act.put, List.setIfInBounds_toArray, List.set_cons_zero, List.set_cons_succ])
  go_cut [13] (fun v13 wc => ∃ (kq : Nat) (x13_2 : Bool), v13 = .bool x13_2 ∧ Aside0 (impl_LowInverse.j0 kq t274 x13_2 = some r) ∧ Aside0 (kq ≤ k) ∧ Aside0 (Kd.V (Kd.int .u64) 45 wc w.heap.size (fun _ => True) v275 t274) ∧ Aside0 (Below w.heap.size w wc))
  case first =>
    have H := HC3.out
    clear HC3
    replace H := Option.bind_eq_some_iff.mp H
    obtain ⟨t277, A50, H⟩ := H
    have A5 := Aside0.mk A50
    clear A50
    by_cases c6 : t277 = true
    · subst c6
      have H1 : ((impl_nat_even.f t274).bind fun t278 => (impl_LowInverse.j0 k t274 t278)) = some r := by rw [if_pos rfl] at H; exact H
      clear H
      have H := H1
      clear H1
      replace H := Option.bind_eq_some_iff.mp H
      obtain ⟨t278, A70, H⟩ := H
      have A7 := Aside0.mk A70
      clear A70
      have H' := Aside0.mk H
      clear H
      go_wp2_with (first | ((with_reducible refine gate_callee (f := 16) rfl ?_); refine gL_ 8 Try.func16 rfl #[.string a0] ?_; (with_reducible refine (impl_GreatOk.calls a0 true _ A5.out).mono ?_); rintro e w' ⟨rfl, ⟨nd, rfl⟩⟩; refine ⟨_, rfl, ?_⟩; obtain ⟨Ao8, co8, eo8⟩ := Kd.V_slice HO276.out; subst eo8) | (go_at_call 49; (with_reducible refine (impl_nat_even.calls _ _ t274 t278 _ ?side1 ?side2 A7.out).mono ?_); (case side1 => exact pC_ (Kd.V_reads' HO276.out).2.2); (case side2 => exact (Kd.V_reads' HO276.out).2.1); rintro e w' ⟨rfl, ⟨nd, rfl⟩⟩))
      go_meet
      case rel => exact ⟨_, (t278), (by first | rfl | (simp; done) | (simp [*]; done)), H', ⟨by first | omega | exact Nat.le_refl _⟩, ⟨by (with_reducible repeat (first | apply Kd.V_alloc | apply Kd.V_drewN | apply Kd.V_drew)); exact HO276.out⟩, ⟨pB_ HB.out⟩⟩
    · replace c6 := Bool.eq_false_iff.mpr c6
      subst c6
      have H1 : (impl_LowInverse.j0 k t274 true) = some r := by rw [if_neg (show ¬ (false = true) by decide)] at H; exact H
      clear H
      have H := H1
      clear H1
      have H' := Aside0.mk H
      clear H
      go_wp2_with (first | ((with_reducible refine gate_callee (f := 16) rfl ?_); refine gL_ 8 Try.func16 rfl #[.string a0] ?_; (with_reducible refine (impl_GreatOk.calls a0 false _ A5.out).mono ?_); rintro e w' ⟨rfl, ⟨nd, rfl⟩⟩; refine ⟨_, rfl, ?_⟩))
      go_meet
      case rel => exact ⟨_, (true), (by first | rfl | (simp; done) | (simp [*]; done)), H', ⟨by first | omega | exact Nat.le_refl _⟩, ⟨by (with_reducible repeat (first | apply Kd.V_alloc | apply Kd.V_drewN | apply Kd.V_drew)); exact HO276.out⟩, ⟨pB_ HB.out⟩⟩
  clear HC3
  try clear c1
  try clear p2
  try clear c3
  try clear c4
  try clear c6
  obtain ⟨kq, x13_2, rfl, HA, HJ2, HO_3, HB⟩ := hcut
  rcases kq with _ | kj2
  · exact absurd HA.out (by simp [impl_LowInverse.j0])
  have H := HA.out
  clear HA
  simp only [impl_LowInverse.j0] at H
  by_cases c9 : x13_2 = true
  · subst c9
    have H1 : (some 0) = some r := by rw [if_pos rfl] at H; exact H
    clear H
    have H := H1
    clear H1
    obtain rfl := Option.some.inj H
    go_wp2
    go_ret
    exact ⟨by first | rfl | (simp [errW_none, errW_some] <;> rfl) | (simp [*, errW_none, errW_some] <;> rfl), pB_ HB.out⟩
  · replace c9 := Bool.eq_false_iff.mpr c9
    subst c9
    have H1 : (impl_LowInverse.l0 kj2 t274 1 0) = some r := by rw [if_neg (show ¬ (false = true) by decide)] at H; exact H
    clear H
    have H := H1
    clear H1
    have H' := Aside0.mk H
    clear H
    go_wp2
    go_loopg [4, 14] kj2 (fun kq v4 v14 w' => ∃ (x4_2 : Int) (x14_2 : Int), v4 = .int .u64 x4_2 ∧ v14 = .int .i64 x14_2 ∧ Aside0 (impl_LowInverse.l0 kq t274 x4_2 x14_2 = some r) ∧ Aside0 (kq ≤ kj2) ∧ Aside0 (Kd.V (Kd.int .u64) 45 w' w.heap.size (fun _ => True) v275 t274) ∧ Aside0 (Below w.heap.size w w'))
    case atStart => exact ⟨(1), (0), (by first | rfl | (simp; done) | (simp [*]; done)), (by first | rfl | (simp; done) | (simp [*]; done)), H', ⟨Nat.le_refl _⟩, ⟨by (with_reducible repeat (first | apply Kd.V_alloc | apply Kd.V_drewN | apply Kd.V_drew)); exact HO_3.out⟩, ⟨pB_ HB.out⟩⟩
    clear H'
    try clear c1
    try clear p2
    try clear c3
    try clear c4
    try clear c6
    try clear c9
    try clear p2
    obtain ⟨x4_2, x14_2, rfl, rfl, HA, HK2, HO_3, HB⟩ := hrel
    rcases gk with _ | k2
    · exact absurd HA.out (by simp [impl_LowInverse.l0])
    have H := HA.out
    clear HA
    simp only [impl_LowInverse.l0] at H
    by_cases c10 : x14_2 < 5
    rotate_left
    · rw [if_neg c10] at H
      have c10b0 : decide (x14_2 < 5) = false := decide_eq_false c10
      clear c10
      obtain rfl := Option.some.inj H
      go_wp2
      go_ret
      exact ⟨by first | rfl | (simp [errW_none, errW_some] <;> rfl) | (simp [*, errW_none, errW_some] <;> rfl), pB_ HB.out⟩

    rw [if_pos c10] at H
    have c10b0 : decide (x14_2 < 5) = true := decide_eq_true c10
    clear c10
    by_cases c11 : 0 < (t274.length : Int)
    rotate_left
    · rw [if_neg c11] at H; exact absurd H (by simp)
    rw [if_pos c11] at H
    have c11b0 : decide (0 < (t274.length : Int)) = true := decide_eq_true c11
    have c11b1 : decide (0 < t274.length) = true := decide_eq_true (by omega)
    clear c11
    have H' := Aside0.mk H
    clear H
    obtain ⟨Ao12, co12, eo12⟩ := Kd.V_slice HO_3.out
    subst eo12
    have p279 : 0 ≤ (0 : Int) := (by omega)
    have q279 : 0 < (t274.length : Int) := od_
    obtain ⟨ad279, e279, hx279_0⟩ := Kd.at_int (Kd.V_reads' HO_3.out).2.2 0 p279 q279
    cases e279
    have qi279 : (0 < t274.length) = True := eq_true (by omega)
    (try rw [show ((0 : Int)).toNat = 0 from rfl] at hx279_0)
    (try rw [Addr.add_zero'] at hx279_0)
    replace p279 := eq_true p279
    replace q279 := eq_true q279
    go_wp2
    go_roundg k2
    case measure => have := HJ2.out; have := HK2.out; omega
    case rel => exact ⟨(IntKind.u64.wrap (x4_2 * (IntKind.u64.wrap (2 - (IntKind.u64.wrap ((rd t274 0) * x4_2)))))), (wrap64 (x14_2 + 1)), (by first | rfl | (simp; done) | (simp [*]; done)), (by first | rfl | (simp; done) | (simp [*]; done)), H', ⟨by have := HJ2.out; have := HK2.out; omega⟩, ⟨by (with_reducible repeat (first | apply Kd.V_alloc | apply Kd.V_drewN | apply Kd.V_drew)); exact HO_3.out⟩, ⟨pB_ HB.out⟩⟩
/-! ### laws_FnExactLowInverse: function 14 -/
def laws_FnExactLowInverse.f (k : Nat) (a0 : ByteArray) : Option (Bool) := if (a0.size : Int) > 1048576 then (some true) else ((spec_LowInverse.f k a0).bind fun t280 => ((impl_LowInverse.f k a0).bind fun t281 => (if t281 = t280 then (some true) else (some false))))
set_option maxHeartbeats 8000000 in
set_option maxRecDepth 100000 in
theorem laws_FnExactLowInverse.calls (k : Nat) (a0 : ByteArray) (r : Bool) (w : World) (h : laws_FnExactLowInverse.f k a0 = some r) :
    Calls Try.prog 14 #[.string a0] w fun e w' => e = .returned (.bool r) ∧ Below w.heap.size w w' := by
  have HB := Aside0.mk (Below.refl w.heap.size w)
  have H : (if (a0.size : Int) > 1048576 then (some true) else ((spec_LowInverse.f k a0).bind fun t280 => ((impl_LowInverse.f k a0).bind fun t281 => (if t281 = t280 then (some true) else (some false))))) = some r := h
  clear h
  by_cases c2 : (a0.size : Int) > 1048576
  · rw [if_pos c2] at H
    have c2b0 : decide (1048576 < (a0.size : Int)) = true := decide_eq_true c2
    have c2b1 : decide (1048576 < a0.size) = true := decide_eq_true (by omega)
    clear c2
    obtain rfl := Option.some.inj H
    go_enter Try.func14, Try.ntmps14
    go_wp2
    go_ret
    exact ⟨by first | rfl | (simp [errW_none, errW_some] <;> rfl) | (simp [*, errW_none, errW_some] <;> rfl), pB_ HB.out⟩
  rw [if_neg c2] at H
  have c2b0 : decide (1048576 < (a0.size : Int)) = false := decide_eq_false c2
  have c2b1 : decide (1048576 < a0.size) = false := decide_eq_false (by omega)
  clear c2
  replace H := Option.bind_eq_some_iff.mp H
  obtain ⟨t280, A30, H⟩ := H
  have A3 := Aside0.mk A30
  clear A30
  replace H := Option.bind_eq_some_iff.mp H
  obtain ⟨t281, A40, H⟩ := H
  have A4 := Aside0.mk A40
  clear A40
  by_cases c5 : t281 = t280
  rotate_left
  · rw [if_neg c5] at H
    have c5b0 : (t281 == t280) = false := beq_eq_false_iff_ne.mpr c5
    have c5b1 : (t281 != t280) = true := bne_iff_ne.mpr c5
    obtain rfl := Option.some.inj H
    go_enter Try.func14, Try.ntmps14
    go_wp2_with (first | ((with_reducible refine gate_callee (f := 37) rfl ?_); refine gL_ 9 Try.func37 rfl #[.string a0] ?_; (with_reducible refine (spec_LowInverse.calls k a0 t280 _ A3.out).mono ?_); rintro e w8 ⟨rfl, hb⟩; refine ⟨_, rfl, ?_⟩; replace HB := Aside0.mk (below_step (pB_ HB.out) hb); clear hb) | ((with_reducible refine gate_callee (f := 38) rfl ?_); refine gL_ 11 Try.func38 rfl #[.string a0] ?_; (with_reducible refine (impl_LowInverse.calls k a0 t281 _ A4.out).mono ?_); rintro e w9 ⟨rfl, hb⟩; refine ⟨_, rfl, ?_⟩; replace HB := Aside0.mk (below_step (pB_ HB.out) hb); clear hb))
    go_ret
    exact ⟨by first | rfl | (simp [errW_none, errW_some] <;> rfl) | (simp [*, errW_none, errW_some] <;> rfl), pB_ HB.out⟩

  rw [if_pos c5] at H
  have c5b0 : (t281 == t280) = true := beq_iff_eq.mpr c5
  have c5b1 : (t281 != t280) = false := bne_eq_false_iff_eq.mpr c5
  clear c5
  obtain rfl := Option.some.inj H
  go_enter Try.func14, Try.ntmps14
  go_wp2_with (first | ((with_reducible refine gate_callee (f := 37) rfl ?_); refine gL_ 9 Try.func37 rfl #[.string a0] ?_; (with_reducible refine (spec_LowInverse.calls k a0 t280 _ A3.out).mono ?_); rintro e w6 ⟨rfl, hb⟩; refine ⟨_, rfl, ?_⟩; replace HB := Aside0.mk (below_step (pB_ HB.out) hb); clear hb) | ((with_reducible refine gate_callee (f := 38) rfl ?_); refine gL_ 11 Try.func38 rfl #[.string a0] ?_; (with_reducible refine (impl_LowInverse.calls k a0 t281 _ A4.out).mono ?_); rintro e w7 ⟨rfl, hb⟩; refine ⟨_, rfl, ?_⟩; replace HB := Aside0.mk (below_step (pB_ HB.out) hb); clear hb))
  go_ret
  exact ⟨by first | rfl | (simp [errW_none, errW_some] <;> rfl) | (simp [*, errW_none, errW_some] <;> rfl), pB_ HB.out⟩
/-- THE ONE PURE STATEMENT of laws_FnExactLowInverse: yours. -/
def laws_FnExactLowInverse.Pure : Prop := ∀ (a0 : ByteArray), a0.size ≤ 140737488351232 → ∃ k, laws_FnExactLowInverse.f k a0 = some true
theorem laws_FnExactLowInverse.walk (P : laws_FnExactLowInverse.Pure) (a0 : ByteArray) (w : World) (w0 : a0.size ≤ 140737488351232) :
    Calls Try.prog 14 #[.string a0] w fun e w' => e = .returned (.bool true) ∧ Below w.heap.size w w' := by
  obtain ⟨k, h⟩ := P a0 w0
  refine (laws_FnExactLowInverse.calls k a0 true w h).mono ?_
  rintro e w' ⟨rfl, hd⟩
  exact ⟨rfl, hd⟩

end Go.Proofs.Ytbkcchpcadlkdaa.F
