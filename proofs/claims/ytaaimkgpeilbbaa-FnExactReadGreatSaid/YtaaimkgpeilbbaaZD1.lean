-- Made for this seat by a program of this session (wip/fork, wip/slim.py). Lean checks it.
import Derived.Test.YtaaimkgpeilbbaaFx0
import Derived.Test.YtaaimkgpeilbbaaZD0
namespace Go.Proofs.Ytaaimkgpeilbbaa.F
open Go.RowKit Go.Proofs.YtaaimkgpeilbbaaW.PrintWords Go.Proofs.YtaaimkgpeilbbaaW.PrintLast Go.Proofs.YtaaimkgpeilbbaaW.PrintMore
attribute [local go_sem] max2_int min2_int max_two min_two max_three min_three max_four min_four   -- for this text's walks alone
set_option linter.unusedVariables false
set_option linter.unusedSimpArgs false

/-! ### impl_fromFigures: function 68 -/
mutual
def impl_fromFigures.l0 : Nat → ByteArray → List Int → Int → Int → Int → Int → Option (List Int × Bool)
  | 0, _, _, _, _, _, _ => none
  | k + 1, x0, x4, x5, x6, x10, x11 => if x11 < x10 then (if 0 ≤ x11 then (if x11 < (x0.size : Int) then (if (bt x0 x11) < 48 then (impl_fromFigures.j1 k x0 x4 x5 x6 x11 (bt x0 x11) x10 x11 true) else (impl_fromFigures.j1 k x0 x4 x5 x6 x11 (bt x0 x11) x10 x11 (decide ((bt x0 x11) > 57)))) else (none)) else (none)) else (if x0.toList = ([] : List UInt8) then (some (x4, false)) else (if (x0.size : Int) = 1 then (some (x4, true)) else (if 0 < (x0.size : Int) then (some (x4, ((bt x0 0) != 48))) else (none))))
def impl_fromFigures.j1 : Nat → ByteArray → List Int → Int → Int → Int → Int → Int → Int → Bool → Option (List Int × Bool)
  | 0, _, _, _, _, _, _, _, _, _ => none
  | k + 1, x0, x4, x5, x6, x7, x8, x10, x11, x22 => if x22 = true then (some (([] : List Int), false)) else (if (Int.tmod x7 18) = 17 then (impl_fromFigures.j2 k x0 x4 (wrap64 ((wrap64 (10 * x5)) + ((x8 - 48) % 256))) (wrap64 (10 * x6)) x10 x11 true) else (impl_fromFigures.j2 k x0 x4 (wrap64 ((wrap64 (10 * x5)) + ((x8 - 48) % 256))) (wrap64 (10 * x6)) x10 x11 (x7 == (wrap64 ((x0.size : Int) - 1)))))
def impl_fromFigures.j2 : Nat → ByteArray → List Int → Int → Int → Int → Int → Bool → Option (List Int × Bool)
  | 0, _, _, _, _, _, _, _ => none
  | k + 1, x0, x4, x5, x6, x10, x11, x40 => if x40 = true then ((impl_small.f k x6).bind fun t332 => ((impl_nat_times.f k x4 t332).bind fun t335 => ((impl_small.f k x5).bind fun t338 => ((impl_nat_plus.f k t335 t338).bind fun t341 => (impl_fromFigures.l0 k x0 t341 0 1 x10 (wrap64 (x11 + 1))))))) else (impl_fromFigures.l0 k x0 x4 x5 x6 x10 (wrap64 (x11 + 1)))
end
def impl_fromFigures.f (k : Nat) (a0 : ByteArray) : Option (List Int × Bool) := impl_fromFigures.l0 k a0 ([] : List Int) 0 1 (a0.size : Int) 0
set_option maxHeartbeats 8000000 in
set_option maxRecDepth 100000 in
theorem impl_fromFigures.calls (k : Nat) (a0 : ByteArray) (r1 : List Int) (r2 : Bool) (w : World) (h : impl_fromFigures.f k a0 = some (r1, r2)) :
    Calls Try.prog 68 #[.string a0] w fun e w' => ∃ v0_ : Value, e = .returned (.tuple #[v0_, .bool r2]) ∧ Kd.V (Kd.int .u64) 80 w' w.heap.size (fun k_ => (w.heap.size ≤ k_)) v0_ r1 ∧ Below w.heap.size w w' := by
  have HB := Aside0.mk (Below.refl w.heap.size w)
  have H : (impl_fromFigures.l0 k a0 ([] : List Int) 0 1 (a0.size : Int) 0) = some (r1, r2) := h
  clear h
  have H' := Aside0.mk H
  clear H
  go_enter Try.func68, Try.ntmps68
  go_wp2
  repeat (go_quiet (fail); try go_wp2)
  go_loopg [4, 5, 6, 11] k (fun kq v4 v5 v6 v11 w' => ∃ (x4_1 : List Int) (x5_1 : Int) (x6_1 : Int) (x11_1 : Int), v5 = .int .i64 x5_1 ∧ v6 = .int .i64 x6_1 ∧ v11 = .int .i64 x11_1 ∧ Aside0 (impl_fromFigures.l0 kq a0 x4_1 x5_1 x6_1 (a0.size : Int) x11_1 = some (r1, r2)) ∧ Aside0 (kq ≤ k) ∧ Aside0 (Kd.V (Kd.int .u64) 80 w' w.heap.size (fun k_ => (w.heap.size ≤ k_)) v4 x4_1) ∧ Aside0 (Below w.heap.size w w'))
  case atStart => exact ⟨(([] : List Int)), (0), (1), (0), (by first | rfl | (simp; done) | (simp [*]; done)), (by first | rfl | (simp; done) | (simp [*]; done)), (by first | rfl | (simp; done) | (simp [*]; done)), H', ⟨Nat.le_refl _⟩, ⟨Kd.V_nil _ _ _ _ _⟩, ⟨pB_ HB.out⟩⟩
  clear H'
  obtain ⟨x4_1, x5_1, x6_1, x11_1, rfl, rfl, rfl, HA, HK1, HO_4, HB⟩ := hrel
  rcases gk with _ | k1
  · exact absurd HA.out (by simp [impl_fromFigures.l0])
  have H := HA.out
  clear HA
  simp only [impl_fromFigures.l0] at H
  by_cases c2 : x11_1 < (a0.size : Int)
  rotate_left
  · rw [if_neg c2] at H
    have c2b0 : decide (x11_1 < (a0.size : Int)) = false := decide_eq_false c2
    clear c2
    by_cases c24 : a0.toList = ([] : List UInt8)
    · rw [if_pos c24] at H
      have c24b0 : (a0.toList == ([] : List UInt8)) = true := beq_iff_eq.mpr c24
      have c24b1 : (a0.toList != ([] : List UInt8)) = false := bne_eq_false_iff_eq.mpr c24
      clear c24
      simp only [Option.some.injEq, Prod.mk.injEq] at H
      obtain ⟨rfl, rfl⟩ := H
      go_wp2
      repeat (go_quiet (fail); try go_wp2)
      go_ret2
      exact ⟨_, by first | rfl | (simp [errW_none, errW_some] <;> rfl) | (simp [*, errW_none, errW_some] <;> rfl), by (with_reducible repeat (first | apply Kd.V_alloc | apply Kd.V_drewN | apply Kd.V_drew)); exact HO_4.out, pB_ HB.out⟩
    rw [if_neg c24] at H
    have c24b0 : (a0.toList == ([] : List UInt8)) = false := beq_eq_false_iff_ne.mpr c24
    have c24b1 : (a0.toList != ([] : List UInt8)) = true := bne_iff_ne.mpr c24
    by_cases c25 : (a0.size : Int) = 1
    · rw [if_pos c25] at H
      have c25b0 : ((a0.size : Int) == 1) = true := beq_iff_eq.mpr c25
      have c25b1 : ((a0.size : Int) != 1) = false := bne_eq_false_iff_eq.mpr c25
      clear c25
      simp only [Option.some.injEq, Prod.mk.injEq] at H
      obtain ⟨rfl, rfl⟩ := H
      go_wp2
      repeat (go_quiet (fail); try go_wp2)
      go_ret2
      exact ⟨_, by first | rfl | (simp [errW_none, errW_some] <;> rfl) | (simp [*, errW_none, errW_some] <;> rfl), by (with_reducible repeat (first | apply Kd.V_alloc | apply Kd.V_drewN | apply Kd.V_drew)); exact HO_4.out, pB_ HB.out⟩
    rw [if_neg c25] at H
    have c25b0 : ((a0.size : Int) == 1) = false := beq_eq_false_iff_ne.mpr c25
    have c25b1 : ((a0.size : Int) != 1) = true := bne_iff_ne.mpr c25
    by_cases c26 : 0 < (a0.size : Int)
    rotate_left
    · rw [if_neg c26] at H
      exact absurd H (by simp)

    rw [if_pos c26] at H
    have c26b0 : decide (0 < (a0.size : Int)) = true := decide_eq_true c26
    have c26b1 : decide (0 < a0.size) = true := decide_eq_true (by omega)
    clear c26
    simp only [Option.some.injEq, Prod.mk.injEq] at H
    obtain ⟨rfl, rfl⟩ := H
    have p27 : 0 ≤ (0 : Int) := (by omega)
    have q27 : 0 < a0.size := (by have : (0 : Int) < (a0.size : Int) := od_; omega)
    have hx27 : ∀ h : 0 < a0.size, ((a0[0]'h).toNat : Int) = bt a0 0 := bt_at a0 0
    clear p27
    have qi27 : (0 < (a0.size : Int)) = True := eq_true (od_)
    replace q27 := eq_true q27
    go_wp2
    repeat (go_quiet (fail); try go_wp2)
    go_ret2
    exact ⟨_, by first | rfl | (simp [errW_none, errW_some] <;> rfl) | (simp [*, errW_none, errW_some] <;> rfl), by (with_reducible repeat (first | apply Kd.V_alloc | apply Kd.V_drewN | apply Kd.V_drew)); exact HO_4.out, pB_ HB.out⟩
  rw [if_pos c2] at H
  have c2b0 : decide (x11_1 < (a0.size : Int)) = true := decide_eq_true c2
  clear c2
  by_cases c3 : 0 ≤ x11_1
  rotate_left
  · rw [if_neg c3] at H; exact absurd H (by simp)
  rw [if_pos c3] at H
  have c3b0 : decide (0 ≤ x11_1) = true := decide_eq_true c3
  clear c3
  by_cases c4 : x11_1 < (a0.size : Int)
  rotate_left
  · rw [if_neg c4] at H; exact absurd H (by simp)
  rw [if_pos c4] at H
  have c4b0 : decide (x11_1 < (a0.size : Int)) = true := decide_eq_true c4
  clear c4
  have HC6 := Aside0.mk H
  clear H
  have p5 : 0 ≤ (x11_1 : Int) := od_
  have q5 : x11_1 < (a0.size : Int) := od_
  have hx5 := bt_at a0 x11_1
  replace p5 := eq_true p5
  replace q5 := eq_true q5
  go_upto_region 6 with (fail)
  repeat (go_quiet (fail); go_upto_region 6 with (fail))
  go_cut [22] (fun v22 wc => ∃ (kq : Nat) (x22_5 : Bool), v22 = .bool x22_5 ∧ Aside0 (impl_fromFigures.j1 kq a0 x4_1 x5_1 x6_1 x11_1 (bt a0 x11_1) (a0.size : Int) x11_1 x22_5 = some (r1, r2)) ∧ Aside0 (kq ≤ k1) ∧ Aside0 (Kd.V (Kd.int .u64) 80 wc w.heap.size (fun k_ => (w.heap.size ≤ k_)) u4 x4_1) ∧ Aside0 (Below w.heap.size w wc))
  case first =>
    have H := HC6.out
    clear HC6
    by_cases c7 : (bt a0 x11_1) < 48
    · rw [if_pos c7] at H
      have c7b0 : decide ((bt a0 x11_1) < 48) = true := decide_eq_true c7
      clear c7
      (first | rw [c7b0] | (simp only [i64_w, i32_w]; rw [c7b0]) | rw [c7b1] | skip)
      have H' := Aside0.mk H
      clear H
      go_wp2
      repeat (go_quiet (fail); try go_wp2)
      go_meet
      case rel => exact ⟨_, (true), (by first | rfl | (simp; done) | (simp [*]; done)), H', ⟨by have := HK1.out; first | omega | exact Nat.le_refl _⟩, ⟨by (with_reducible repeat (first | apply Kd.V_alloc | apply Kd.V_drewN | apply Kd.V_drew)); exact HO_4.out⟩, ⟨pB_ HB.out⟩⟩
    rw [if_neg c7] at H
    have c7b0 : decide ((bt a0 x11_1) < 48) = false := decide_eq_false c7
    clear c7
    (first | rw [c7b0] | (simp only [i64_w, i32_w]; rw [c7b0]) | rw [c7b1] | skip)
    have H' := Aside0.mk H
    clear H
    go_wp2
    repeat (go_quiet (fail); try go_wp2)
    go_meet
    case rel => exact ⟨_, (decide ((bt a0 x11_1) > 57)), (by first | rfl | (simp; done) | (simp [*]; done)), H', ⟨by have := HK1.out; first | omega | exact Nat.le_refl _⟩, ⟨by (with_reducible repeat (first | apply Kd.V_alloc | apply Kd.V_drewN | apply Kd.V_drew)); exact HO_4.out⟩, ⟨pB_ HB.out⟩⟩
  clear HC6
  try clear c2
  try clear c2b0
  try clear p2
  try clear c3
  try clear c3b0
  try clear c4
  try clear c4b0
  try clear p5
  try clear q5
  try clear hx5
  try clear c6
  try clear c7
  try clear c7b0
  try clear c7b1
  try clear p5
  try clear q5
  obtain ⟨kq, x22_5, rfl, HA, HJ5, HO_4, HB⟩ := hcut
  rcases kq with _ | kj5
  · exact absurd HA.out (by simp [impl_fromFigures.j1])
  have H := HA.out
  clear HA
  simp only [impl_fromFigures.j1] at H
  by_cases c8 : x22_5 = true
  · subst c8
    have H1 : (some (([] : List Int), false)) = some (r1, r2) := by rw [if_pos rfl] at H; exact H
    clear H
    have H := H1
    clear H1
    simp only [Option.some.injEq, Prod.mk.injEq] at H
    obtain ⟨rfl, rfl⟩ := H
    go_wp2
    repeat (go_quiet (fail); try go_wp2)
    go_ret2
    exact ⟨.slice none 0 0, by first | rfl | (simp [errW_none, errW_some] <;> rfl) | (simp [*, errW_none, errW_some] <;> rfl), Kd.V_nil _ _ _ _ _, pB_ HB.out⟩
  · replace c8 := Bool.eq_false_iff.mpr c8
    subst c8
    have H1 : (if (Int.tmod x11_1 18) = 17 then (impl_fromFigures.j2 kj5 a0 x4_1 (wrap64 ((wrap64 (10 * x5_1)) + (((bt a0 x11_1) - 48) % 256))) (wrap64 (10 * x6_1)) (a0.size : Int) x11_1 true) else (impl_fromFigures.j2 kj5 a0 x4_1 (wrap64 ((wrap64 (10 * x5_1)) + (((bt a0 x11_1) - 48) % 256))) (wrap64 (10 * x6_1)) (a0.size : Int) x11_1 (x11_1 == (wrap64 ((a0.size : Int) - 1))))) = some (r1, r2) := by rw [if_neg (show ¬ (false = true) by decide)] at H; exact H
    clear H
    have H := H1
    clear H1
    have HC9 := Aside0.mk H
    clear H
    go_upto_region 9 with (fail)
    repeat (go_quiet (fail); go_upto_region 9 with (fail))
    go_cut [40] (fun v40 wc => ∃ (kq : Nat) (x40_8 : Bool), v40 = .bool x40_8 ∧ Aside0 (impl_fromFigures.j2 kq a0 x4_1 (wrap64 ((wrap64 (10 * x5_1)) + (((bt a0 x11_1) - 48) % 256))) (wrap64 (10 * x6_1)) (a0.size : Int) x11_1 x40_8 = some (r1, r2)) ∧ Aside0 (kq ≤ kj5) ∧ Aside0 (Kd.V (Kd.int .u64) 80 wc w.heap.size (fun k_ => (w.heap.size ≤ k_)) u4 x4_1) ∧ Aside0 (Below w.heap.size w wc))
    case first =>
      have H := HC9.out
      clear HC9
      by_cases c10 : (Int.tmod x11_1 18) = 17
      · rw [if_pos c10] at H
        have c10b0 : ((Int.tmod x11_1 18) == 17) = true := beq_iff_eq.mpr c10
        have c10b1 : ((Int.tmod x11_1 18) != 17) = false := bne_eq_false_iff_eq.mpr c10
        clear c10
        (first | rw [c10b0] | (simp only [i64_w, i32_w]; rw [c10b0]) | rw [c10b1] | skip)
        have H' := Aside0.mk H
        clear H
        go_wp2
        repeat (go_quiet (fail); try go_wp2)
        go_meet
        case rel => exact ⟨_, (true), (by first | rfl | (simp; done) | (simp [*]; done)), H', ⟨by have := HK1.out; have := HJ5.out; first | omega | exact Nat.le_refl _⟩, ⟨by (with_reducible repeat (first | apply Kd.V_alloc | apply Kd.V_drewN | apply Kd.V_drew)); exact HO_4.out⟩, ⟨pB_ HB.out⟩⟩
      rw [if_neg c10] at H
      have c10b0 : ((Int.tmod x11_1 18) == 17) = false := beq_eq_false_iff_ne.mpr c10
      have c10b1 : ((Int.tmod x11_1 18) != 17) = true := bne_iff_ne.mpr c10
      (first | rw [c10b0] | (simp only [i64_w, i32_w]; rw [c10b0]) | rw [c10b1] | skip)
      have H' := Aside0.mk H
      clear H
      go_wp2
      repeat (go_quiet (fail); try go_wp2)
      go_meet
      case rel => exact ⟨_, ((x11_1 == (wrap64 ((a0.size : Int) - 1)))), (by first | rfl | (simp; done) | (simp [*]; done)), H', ⟨by have := HK1.out; have := HJ5.out; first | omega | exact Nat.le_refl _⟩, ⟨by (with_reducible repeat (first | apply Kd.V_alloc | apply Kd.V_drewN | apply Kd.V_drew)); exact HO_4.out⟩, ⟨pB_ HB.out⟩⟩
    clear HC9
    try clear c1
    try clear c2
    try clear c2b0
    try clear p2
    try clear c3
    try clear c3b0
    try clear c4
    try clear c4b0
    try clear p5
    try clear q5
    try clear hx5
    try clear c6
    try clear p6
    try clear c7
    try clear c7b0
    try clear c7b1
    try clear c8
    try clear c10
    try clear c10b0
    try clear c10b1
    try clear p2
    try clear p5
    try clear q5
    obtain ⟨kq, x40_8, rfl, HA, HJ8, HO_4, HB⟩ := hcut
    rcases kq with _ | kj8
    · exact absurd HA.out (by simp [impl_fromFigures.j2])
    have H := HA.out
    clear HA
    simp only [impl_fromFigures.j2] at H
    by_cases c11 : x40_8 = true
    · subst c11
      have H1 : ((impl_small.f kj8 (wrap64 (10 * x6_1))).bind fun t332 => ((impl_nat_times.f kj8 x4_1 t332).bind fun t335 => ((impl_small.f kj8 (wrap64 ((wrap64 (10 * x5_1)) + (((bt a0 x11_1) - 48) % 256)))).bind fun t338 => ((impl_nat_plus.f kj8 t335 t338).bind fun t341 => (impl_fromFigures.l0 kj8 a0 t341 0 1 (a0.size : Int) (wrap64 (x11_1 + 1))))))) = some (r1, r2) := by rw [if_pos rfl] at H; exact H
      clear H
      have H := H1
      clear H1
      replace H := Option.bind_eq_some_iff.mp H
      obtain ⟨t332, A120, H⟩ := H
      have A12 := Aside0.mk A120
      clear A120
      replace H := Option.bind_eq_some_iff.mp H
      obtain ⟨t335, A130, H⟩ := H
      have A13 := Aside0.mk A130
      clear A130
      replace H := Option.bind_eq_some_iff.mp H
      obtain ⟨t338, A140, H⟩ := H
      have A14 := Aside0.mk A140
      clear A140
      replace H := Option.bind_eq_some_iff.mp H
      obtain ⟨t341, A150, H⟩ := H
      have A15 := Aside0.mk A150
      clear A150
      have H' := Aside0.mk H
      clear H
      go_wp2_with (first | (go_at_call 82; (with_reducible refine (impl_small.calls kj8 (wrap64 (10 * x6_1)) t332 _ A12.out).mono ?_); rintro e w16 ⟨v333, rfl, ho0, hb⟩; replace HO_4 := Aside0.mk (Kd.V_below (pV_ HO_4.out) hb); have HO334 := Aside0.mk (Kd.V_lower (Kd.V_mono (ok' := fun k_ => (w.heap.size ≤ k_)) ho0 (fun k_ hk_ => (Nat.le_trans (below_size (pB_ HB.out)) hk_))) (below_size (pB_ HB.out))); replace HB := Aside0.mk (below_step (pB_ HB.out) hb); clear hb ho0; obtain ⟨Ao17, co17, eo17⟩ := Kd.V_slice HO_4.out; subst eo17; obtain ⟨Ao18, co18, eo18⟩ := Kd.V_slice HO334.out; subst eo18) | (go_at_call 81; (with_reducible refine (impl_nat_times.calls kj8 _ _ x4_1 _ _ t332 t335 _ ?side1 ?side2 ?side3 ?side4 A13.out).mono ?_); (case side1 => exact pC_ (Kd.V_reads' HO_4.out).2.2); (case side2 => exact (Kd.V_reads' HO_4.out).2.1); (case side3 => exact pC_ (Kd.V_reads' HO334.out).2.2); (case side4 => exact (Kd.V_reads' HO334.out).2.1); rintro e w19 ⟨v336, rfl, ho0, hb⟩; replace HO_4 := Aside0.mk (Kd.V_below (pV_ HO_4.out) hb); replace HO334 := Aside0.mk (Kd.V_below (pV_ HO334.out) hb); have HO337 := Aside0.mk (Kd.V_lower (Kd.V_mono (ok' := fun k_ => (w.heap.size ≤ k_)) ho0 (fun k_ hk_ => (Nat.le_trans (below_size (pB_ HB.out)) hk_))) (below_size (pB_ HB.out))); replace HB := Aside0.mk (below_step (pB_ HB.out) hb); clear hb ho0) | (go_at_call 82; (with_reducible refine (impl_small.calls kj8 (wrap64 ((wrap64 (10 * x5_1)) + (((bt a0 x11_1) - 48) % 256))) t338 _ A14.out).mono ?_); rintro e w20 ⟨v339, rfl, ho0, hb⟩; replace HO_4 := Aside0.mk (Kd.V_below (pV_ HO_4.out) hb); replace HO334 := Aside0.mk (Kd.V_below (pV_ HO334.out) hb); replace HO337 := Aside0.mk (Kd.V_below (pV_ HO337.out) hb); have HO340 := Aside0.mk (Kd.V_lower (Kd.V_mono (ok' := fun k_ => (w.heap.size ≤ k_)) ho0 (fun k_ hk_ => (Nat.le_trans (below_size (pB_ HB.out)) hk_))) (below_size (pB_ HB.out))); replace HB := Aside0.mk (below_step (pB_ HB.out) hb); clear hb ho0; obtain ⟨Ao21, co21, eo21⟩ := Kd.V_slice HO337.out; subst eo21; obtain ⟨Ao22, co22, eo22⟩ := Kd.V_slice HO340.out; subst eo22) | (go_at_call 83; (with_reducible refine (impl_nat_plus.calls kj8 (fun k_ => (w.heap.size ≤ k_)) _ _ t335 (fun k_ => (w.heap.size ≤ k_)) _ _ t338 t341 _ ?side1 ?side2 A15.out).mono ?_); (case side1 => exact HO337.out); (case side2 => exact HO340.out); rintro e w23 ⟨v342, rfl, ho0, hb⟩; replace HO_4 := Aside0.mk (Kd.V_below (pV_ HO_4.out) hb); replace HO334 := Aside0.mk (Kd.V_below (pV_ HO334.out) hb); replace HO337 := Aside0.mk (Kd.V_below (pV_ HO337.out) hb); replace HO340 := Aside0.mk (Kd.V_below (pV_ HO340.out) hb); have HO343 := Aside0.mk (Kd.V_lower (Kd.V_mono (ok' := fun k_ => (w.heap.size ≤ k_)) ho0 (fun k_ hk_ => Or.elim hk_ (fun hs_ => Or.elim hs_ (fun hs_ => hs_) (fun hs_ => hs_)) (fun hn_ => (Nat.le_trans (below_size (pB_ HB.out)) hn_)))) (below_size (pB_ HB.out))); replace HB := Aside0.mk (below_step (pB_ HB.out) hb); clear hb ho0))
      repeat (go_quiet (first | (go_at_call 82; (with_reducible refine (impl_small.calls kj8 (wrap64 (10 * x6_1)) t332 _ A12.out).mono ?_); rintro e w16 ⟨v333, rfl, ho0, hb⟩; replace HO_4 := Aside0.mk (Kd.V_below (pV_ HO_4.out) hb); have HO334 := Aside0.mk (Kd.V_lower (Kd.V_mono (ok' := fun k_ => (w.heap.size ≤ k_)) ho0 (fun k_ hk_ => (Nat.le_trans (below_size (pB_ HB.out)) hk_))) (below_size (pB_ HB.out))); replace HB := Aside0.mk (below_step (pB_ HB.out) hb); clear hb ho0; obtain ⟨Ao17, co17, eo17⟩ := Kd.V_slice HO_4.out; subst eo17; obtain ⟨Ao18, co18, eo18⟩ := Kd.V_slice HO334.out; subst eo18) | (go_at_call 81; (with_reducible refine (impl_nat_times.calls kj8 _ _ x4_1 _ _ t332 t335 _ ?side1 ?side2 ?side3 ?side4 A13.out).mono ?_); (case side1 => exact pC_ (Kd.V_reads' HO_4.out).2.2); (case side2 => exact (Kd.V_reads' HO_4.out).2.1); (case side3 => exact pC_ (Kd.V_reads' HO334.out).2.2); (case side4 => exact (Kd.V_reads' HO334.out).2.1); rintro e w19 ⟨v336, rfl, ho0, hb⟩; replace HO_4 := Aside0.mk (Kd.V_below (pV_ HO_4.out) hb); replace HO334 := Aside0.mk (Kd.V_below (pV_ HO334.out) hb); have HO337 := Aside0.mk (Kd.V_lower (Kd.V_mono (ok' := fun k_ => (w.heap.size ≤ k_)) ho0 (fun k_ hk_ => (Nat.le_trans (below_size (pB_ HB.out)) hk_))) (below_size (pB_ HB.out))); replace HB := Aside0.mk (below_step (pB_ HB.out) hb); clear hb ho0) | (go_at_call 82; (with_reducible refine (impl_small.calls kj8 (wrap64 ((wrap64 (10 * x5_1)) + (((bt a0 x11_1) - 48) % 256))) t338 _ A14.out).mono ?_); rintro e w20 ⟨v339, rfl, ho0, hb⟩; replace HO_4 := Aside0.mk (Kd.V_below (pV_ HO_4.out) hb); replace HO334 := Aside0.mk (Kd.V_below (pV_ HO334.out) hb); replace HO337 := Aside0.mk (Kd.V_below (pV_ HO337.out) hb); have HO340 := Aside0.mk (Kd.V_lower (Kd.V_mono (ok' := fun k_ => (w.heap.size ≤ k_)) ho0 (fun k_ hk_ => (Nat.le_trans (below_size (pB_ HB.out)) hk_))) (below_size (pB_ HB.out))); replace HB := Aside0.mk (below_step (pB_ HB.out) hb); clear hb ho0; obtain ⟨Ao21, co21, eo21⟩ := Kd.V_slice HO337.out; subst eo21; obtain ⟨Ao22, co22, eo22⟩ := Kd.V_slice HO340.out; subst eo22) | (go_at_call 83; (with_reducible refine (impl_nat_plus.calls kj8 (fun k_ => (w.heap.size ≤ k_)) _ _ t335 (fun k_ => (w.heap.size ≤ k_)) _ _ t338 t341 _ ?side1 ?side2 A15.out).mono ?_); (case side1 => exact HO337.out); (case side2 => exact HO340.out); rintro e w23 ⟨v342, rfl, ho0, hb⟩; replace HO_4 := Aside0.mk (Kd.V_below (pV_ HO_4.out) hb); replace HO334 := Aside0.mk (Kd.V_below (pV_ HO334.out) hb); replace HO337 := Aside0.mk (Kd.V_below (pV_ HO337.out) hb); replace HO340 := Aside0.mk (Kd.V_below (pV_ HO340.out) hb); have HO343 := Aside0.mk (Kd.V_lower (Kd.V_mono (ok' := fun k_ => (w.heap.size ≤ k_)) ho0 (fun k_ hk_ => Or.elim hk_ (fun hs_ => Or.elim hs_ (fun hs_ => hs_) (fun hs_ => hs_)) (fun hn_ => (Nat.le_trans (below_size (pB_ HB.out)) hn_)))) (below_size (pB_ HB.out))); replace HB := Aside0.mk (below_step (pB_ HB.out) hb); clear hb ho0)); try go_wp2_with (first | (go_at_call 82; (with_reducible refine (impl_small.calls kj8 (wrap64 (10 * x6_1)) t332 _ A12.out).mono ?_); rintro e w16 ⟨v333, rfl, ho0, hb⟩; replace HO_4 := Aside0.mk (Kd.V_below (pV_ HO_4.out) hb); have HO334 := Aside0.mk (Kd.V_lower (Kd.V_mono (ok' := fun k_ => (w.heap.size ≤ k_)) ho0 (fun k_ hk_ => (Nat.le_trans (below_size (pB_ HB.out)) hk_))) (below_size (pB_ HB.out))); replace HB := Aside0.mk (below_step (pB_ HB.out) hb); clear hb ho0; obtain ⟨Ao17, co17, eo17⟩ := Kd.V_slice HO_4.out; subst eo17; obtain ⟨Ao18, co18, eo18⟩ := Kd.V_slice HO334.out; subst eo18) | (go_at_call 81; (with_reducible refine (impl_nat_times.calls kj8 _ _ x4_1 _ _ t332 t335 _ ?side1 ?side2 ?side3 ?side4 A13.out).mono ?_); (case side1 => exact pC_ (Kd.V_reads' HO_4.out).2.2); (case side2 => exact (Kd.V_reads' HO_4.out).2.1); (case side3 => exact pC_ (Kd.V_reads' HO334.out).2.2); (case side4 => exact (Kd.V_reads' HO334.out).2.1); rintro e w19 ⟨v336, rfl, ho0, hb⟩; replace HO_4 := Aside0.mk (Kd.V_below (pV_ HO_4.out) hb); replace HO334 := Aside0.mk (Kd.V_below (pV_ HO334.out) hb); have HO337 := Aside0.mk (Kd.V_lower (Kd.V_mono (ok' := fun k_ => (w.heap.size ≤ k_)) ho0 (fun k_ hk_ => (Nat.le_trans (below_size (pB_ HB.out)) hk_))) (below_size (pB_ HB.out))); replace HB := Aside0.mk (below_step (pB_ HB.out) hb); clear hb ho0) | (go_at_call 82; (with_reducible refine (impl_small.calls kj8 (wrap64 ((wrap64 (10 * x5_1)) + (((bt a0 x11_1) - 48) % 256))) t338 _ A14.out).mono ?_); rintro e w20 ⟨v339, rfl, ho0, hb⟩; replace HO_4 := Aside0.mk (Kd.V_below (pV_ HO_4.out) hb); replace HO334 := Aside0.mk (Kd.V_below (pV_ HO334.out) hb); replace HO337 := Aside0.mk (Kd.V_below (pV_ HO337.out) hb); have HO340 := Aside0.mk (Kd.V_lower (Kd.V_mono (ok' := fun k_ => (w.heap.size ≤ k_)) ho0 (fun k_ hk_ => (Nat.le_trans (below_size (pB_ HB.out)) hk_))) (below_size (pB_ HB.out))); replace HB := Aside0.mk (below_step (pB_ HB.out) hb); clear hb ho0; obtain ⟨Ao21, co21, eo21⟩ := Kd.V_slice HO337.out; subst eo21; obtain ⟨Ao22, co22, eo22⟩ := Kd.V_slice HO340.out; subst eo22) | (go_at_call 83; (with_reducible refine (impl_nat_plus.calls kj8 (fun k_ => (w.heap.size ≤ k_)) _ _ t335 (fun k_ => (w.heap.size ≤ k_)) _ _ t338 t341 _ ?side1 ?side2 A15.out).mono ?_); (case side1 => exact HO337.out); (case side2 => exact HO340.out); rintro e w23 ⟨v342, rfl, ho0, hb⟩; replace HO_4 := Aside0.mk (Kd.V_below (pV_ HO_4.out) hb); replace HO334 := Aside0.mk (Kd.V_below (pV_ HO334.out) hb); replace HO337 := Aside0.mk (Kd.V_below (pV_ HO337.out) hb); replace HO340 := Aside0.mk (Kd.V_below (pV_ HO340.out) hb); have HO343 := Aside0.mk (Kd.V_lower (Kd.V_mono (ok' := fun k_ => (w.heap.size ≤ k_)) ho0 (fun k_ hk_ => Or.elim hk_ (fun hs_ => Or.elim hs_ (fun hs_ => hs_) (fun hs_ => hs_)) (fun hn_ => (Nat.le_trans (below_size (pB_ HB.out)) hn_)))) (below_size (pB_ HB.out))); replace HB := Aside0.mk (below_step (pB_ HB.out) hb); clear hb ho0)))
      go_roundg kj8
      case measure => have := HK1.out; have := HJ5.out; have := HJ8.out; omega
      case rel => exact ⟨(t341), (0), (1), (wrap64 (x11_1 + 1)), (by first | rfl | (simp; done) | (simp [*]; done)), (by first | rfl | (simp; done) | (simp [*]; done)), (by first | rfl | (simp; done) | (simp [*]; done)), H', ⟨by have := HK1.out; have := HJ5.out; have := HJ8.out; omega⟩, ⟨by (with_reducible repeat (first | apply Kd.V_alloc | apply Kd.V_drewN | apply Kd.V_drew)); exact HO343.out⟩, ⟨pB_ HB.out⟩⟩
    · replace c11 := Bool.eq_false_iff.mpr c11
      subst c11
      have H1 : (impl_fromFigures.l0 kj8 a0 x4_1 (wrap64 ((wrap64 (10 * x5_1)) + (((bt a0 x11_1) - 48) % 256))) (wrap64 (10 * x6_1)) (a0.size : Int) (wrap64 (x11_1 + 1))) = some (r1, r2) := by rw [if_neg (show ¬ (false = true) by decide)] at H; exact H
      clear H
      have H := H1
      clear H1
      have H' := Aside0.mk H
      clear H
      go_wp2
      repeat (go_quiet (fail); try go_wp2)
      go_roundg kj8
      case measure => have := HK1.out; have := HJ5.out; have := HJ8.out; omega
      case rel => exact ⟨(x4_1), ((wrap64 ((wrap64 (10 * x5_1)) + (((bt a0 x11_1) - 48) % 256)))), ((wrap64 (10 * x6_1))), (wrap64 (x11_1 + 1)), (by first | rfl | (simp; done) | (simp [*]; done)), (by first | rfl | (simp; done) | (simp [*]; done)), (by first | rfl | (simp; done) | (simp [*]; done)), H', ⟨by have := HK1.out; have := HJ5.out; have := HJ8.out; omega⟩, ⟨by (with_reducible repeat (first | apply Kd.V_alloc | apply Kd.V_drewN | apply Kd.V_drew)); exact HO_4.out⟩, ⟨pB_ HB.out⟩⟩

/-! ### spec_l01In: function 52 -/
def spec_l01In.f (a0 : Int) (a1 : Int) (a2 : Int) : Option (Bool) := if a0 ≥ a1 then (some (decide (a0 ≤ a2))) else (some false)
set_option maxHeartbeats 8000000 in
set_option maxRecDepth 100000 in
theorem spec_l01In.calls (a0 : Int) (a1 : Int) (a2 : Int) (r : Bool) (w : World) (h : spec_l01In.f a0 a1 a2 = some r) :
    Calls Try.prog 52 #[.int .i64 a0, .int .i64 a1, .int .i64 a2] w fun e w' => e = .returned (.bool r) ∧ Drawn0 w w' := by
  have H : (if a0 ≥ a1 then (some (decide (a0 ≤ a2))) else (some false)) = some r := h
  clear h
  by_cases c4 : a0 ≥ a1
  · rw [if_pos c4] at H
    have c4b0 : decide (a1 ≤ a0) = true := decide_eq_true c4
    clear c4
    obtain rfl := Option.some.inj H
    go_enter Try.func52, Try.ntmps52
    go_wp2
    go_ret
    exact ⟨by first | rfl | (simp; done) | (simp [*]; done), by repeat (first | exact Drawn0.refl _ | apply Drawn0.step)⟩
  rw [if_neg c4] at H
  have c4b0 : decide (a1 ≤ a0) = false := decide_eq_false c4
  clear c4
  obtain rfl := Option.some.inj H
  go_enter Try.func52, Try.ntmps52
  go_wp2
  go_ret
  exact ⟨by first | rfl | (simp; done) | (simp [*]; done), by repeat (first | exact Drawn0.refl _ | apply Drawn0.step)⟩

/-! ### bits_Len64: function 90 -/
def bits_Len64.j0 : Nat → Int → Int → Option (Int)
  | 0, _, _ => none
  | k + 1, x0, x2 => if x0 ≥ 65536 then (if (x0 / 65536) ≥ 256 then (if 0 ≤ (((x0 / 65536) / 256) % 256) then (if (((x0 / 65536) / 256) % 256) < 256 then (some (wrap64 ((wrap64 ((wrap64 (x2 + 16)) + 8)) + (wrap64 (bt (⟨#[0, 1, 2, 2, 3, 3, 3, 3, 4, 4, 4, 4, 4, 4, 4, 4, 5, 5, 5, 5, 5, 5, 5, 5, 5, 5, 5, 5, 5, 5, 5, 5, 6, 6, 6, 6, 6, 6, 6, 6, 6, 6, 6, 6, 6, 6, 6, 6, 6, 6, 6, 6, 6, 6, 6, 6, 6, 6, 6, 6, 6, 6, 6, 6, 7, 7, 7, 7, 7, 7, 7, 7, 7, 7, 7, 7, 7, 7, 7, 7, 7, 7, 7, 7, 7, 7, 7, 7, 7, 7, 7, 7, 7, 7, 7, 7, 7, 7, 7, 7, 7, 7, 7, 7, 7, 7, 7, 7, 7, 7, 7, 7, 7, 7, 7, 7, 7, 7, 7, 7, 7, 7, 7, 7, 7, 7, 7, 7, 8, 8, 8, 8, 8, 8, 8, 8, 8, 8, 8, 8, 8, 8, 8, 8, 8, 8, 8, 8, 8, 8, 8, 8, 8, 8, 8, 8, 8, 8, 8, 8, 8, 8, 8, 8, 8, 8, 8, 8, 8, 8, 8, 8, 8, 8, 8, 8, 8, 8, 8, 8, 8, 8, 8, 8, 8, 8, 8, 8, 8, 8, 8, 8, 8, 8, 8, 8, 8, 8, 8, 8, 8, 8, 8, 8, 8, 8, 8, 8, 8, 8, 8, 8, 8, 8, 8, 8, 8, 8, 8, 8, 8, 8, 8, 8, 8, 8, 8, 8, 8, 8, 8, 8, 8, 8, 8, 8, 8, 8, 8, 8, 8, 8, 8, 8, 8, 8, 8, 8, 8, 8, 8, 8, 8, 8, 8, 8]⟩ : ByteArray) (((x0 / 65536) / 256) % 256)))))) else (none)) else (none)) else (if 0 ≤ ((x0 / 65536) % 256) then (if ((x0 / 65536) % 256) < 256 then (some (wrap64 ((wrap64 (x2 + 16)) + (wrap64 (bt (⟨#[0, 1, 2, 2, 3, 3, 3, 3, 4, 4, 4, 4, 4, 4, 4, 4, 5, 5, 5, 5, 5, 5, 5, 5, 5, 5, 5, 5, 5, 5, 5, 5, 6, 6, 6, 6, 6, 6, 6, 6, 6, 6, 6, 6, 6, 6, 6, 6, 6, 6, 6, 6, 6, 6, 6, 6, 6, 6, 6, 6, 6, 6, 6, 6, 7, 7, 7, 7, 7, 7, 7, 7, 7, 7, 7, 7, 7, 7, 7, 7, 7, 7, 7, 7, 7, 7, 7, 7, 7, 7, 7, 7, 7, 7, 7, 7, 7, 7, 7, 7, 7, 7, 7, 7, 7, 7, 7, 7, 7, 7, 7, 7, 7, 7, 7, 7, 7, 7, 7, 7, 7, 7, 7, 7, 7, 7, 7, 7, 8, 8, 8, 8, 8, 8, 8, 8, 8, 8, 8, 8, 8, 8, 8, 8, 8, 8, 8, 8, 8, 8, 8, 8, 8, 8, 8, 8, 8, 8, 8, 8, 8, 8, 8, 8, 8, 8, 8, 8, 8, 8, 8, 8, 8, 8, 8, 8, 8, 8, 8, 8, 8, 8, 8, 8, 8, 8, 8, 8, 8, 8, 8, 8, 8, 8, 8, 8, 8, 8, 8, 8, 8, 8, 8, 8, 8, 8, 8, 8, 8, 8, 8, 8, 8, 8, 8, 8, 8, 8, 8, 8, 8, 8, 8, 8, 8, 8, 8, 8, 8, 8, 8, 8, 8, 8, 8, 8, 8, 8, 8, 8, 8, 8, 8, 8, 8, 8, 8, 8, 8, 8, 8, 8, 8, 8, 8, 8]⟩ : ByteArray) ((x0 / 65536) % 256)))))) else (none)) else (none))) else (if x0 ≥ 256 then (if 0 ≤ ((x0 / 256) % 256) then (if ((x0 / 256) % 256) < 256 then (some (wrap64 ((wrap64 (x2 + 8)) + (wrap64 (bt (⟨#[0, 1, 2, 2, 3, 3, 3, 3, 4, 4, 4, 4, 4, 4, 4, 4, 5, 5, 5, 5, 5, 5, 5, 5, 5, 5, 5, 5, 5, 5, 5, 5, 6, 6, 6, 6, 6, 6, 6, 6, 6, 6, 6, 6, 6, 6, 6, 6, 6, 6, 6, 6, 6, 6, 6, 6, 6, 6, 6, 6, 6, 6, 6, 6, 7, 7, 7, 7, 7, 7, 7, 7, 7, 7, 7, 7, 7, 7, 7, 7, 7, 7, 7, 7, 7, 7, 7, 7, 7, 7, 7, 7, 7, 7, 7, 7, 7, 7, 7, 7, 7, 7, 7, 7, 7, 7, 7, 7, 7, 7, 7, 7, 7, 7, 7, 7, 7, 7, 7, 7, 7, 7, 7, 7, 7, 7, 7, 7, 8, 8, 8, 8, 8, 8, 8, 8, 8, 8, 8, 8, 8, 8, 8, 8, 8, 8, 8, 8, 8, 8, 8, 8, 8, 8, 8, 8, 8, 8, 8, 8, 8, 8, 8, 8, 8, 8, 8, 8, 8, 8, 8, 8, 8, 8, 8, 8, 8, 8, 8, 8, 8, 8, 8, 8, 8, 8, 8, 8, 8, 8, 8, 8, 8, 8, 8, 8, 8, 8, 8, 8, 8, 8, 8, 8, 8, 8, 8, 8, 8, 8, 8, 8, 8, 8, 8, 8, 8, 8, 8, 8, 8, 8, 8, 8, 8, 8, 8, 8, 8, 8, 8, 8, 8, 8, 8, 8, 8, 8, 8, 8, 8, 8, 8, 8, 8, 8, 8, 8, 8, 8, 8, 8, 8, 8, 8, 8]⟩ : ByteArray) ((x0 / 256) % 256)))))) else (none)) else (none)) else (if 0 ≤ ((x0) % 256) then (if ((x0) % 256) < 256 then (some (wrap64 (x2 + (wrap64 (bt (⟨#[0, 1, 2, 2, 3, 3, 3, 3, 4, 4, 4, 4, 4, 4, 4, 4, 5, 5, 5, 5, 5, 5, 5, 5, 5, 5, 5, 5, 5, 5, 5, 5, 6, 6, 6, 6, 6, 6, 6, 6, 6, 6, 6, 6, 6, 6, 6, 6, 6, 6, 6, 6, 6, 6, 6, 6, 6, 6, 6, 6, 6, 6, 6, 6, 7, 7, 7, 7, 7, 7, 7, 7, 7, 7, 7, 7, 7, 7, 7, 7, 7, 7, 7, 7, 7, 7, 7, 7, 7, 7, 7, 7, 7, 7, 7, 7, 7, 7, 7, 7, 7, 7, 7, 7, 7, 7, 7, 7, 7, 7, 7, 7, 7, 7, 7, 7, 7, 7, 7, 7, 7, 7, 7, 7, 7, 7, 7, 7, 8, 8, 8, 8, 8, 8, 8, 8, 8, 8, 8, 8, 8, 8, 8, 8, 8, 8, 8, 8, 8, 8, 8, 8, 8, 8, 8, 8, 8, 8, 8, 8, 8, 8, 8, 8, 8, 8, 8, 8, 8, 8, 8, 8, 8, 8, 8, 8, 8, 8, 8, 8, 8, 8, 8, 8, 8, 8, 8, 8, 8, 8, 8, 8, 8, 8, 8, 8, 8, 8, 8, 8, 8, 8, 8, 8, 8, 8, 8, 8, 8, 8, 8, 8, 8, 8, 8, 8, 8, 8, 8, 8, 8, 8, 8, 8, 8, 8, 8, 8, 8, 8, 8, 8, 8, 8, 8, 8, 8, 8, 8, 8, 8, 8, 8, 8, 8, 8, 8, 8, 8, 8, 8, 8, 8, 8, 8, 8]⟩ : ByteArray) ((x0) % 256)))))) else (none)) else (none)))
def bits_Len64.f (k : Nat) (a0 : Int) : Option (Int) := if a0 ≥ 4294967296 then (bits_Len64.j0 k (a0 / 4294967296) 32) else (bits_Len64.j0 k a0 0)
set_option maxHeartbeats 8000000 in
set_option maxRecDepth 100000 in
theorem bits_Len64.calls (k : Nat) (a0 : Int) (r : Int) (w : World) (h : bits_Len64.f k a0 = some r) :
    Calls Try.prog 90 #[.int .u64 a0] w fun e w' => e = .returned (.int .i64 r) ∧ Drawn0 w w' := by
  have H : (if a0 ≥ 4294967296 then (bits_Len64.j0 k (a0 / 4294967296) 32) else (bits_Len64.j0 k a0 0)) = some r := h
  clear h
  have HC2 := Aside0.mk H
  clear H
  go_enter Try.func90, Try.ntmps90
  go_upto_if 4 with (fail)
  go_cut [0, 2] (fun v0 v2 wc => ∃ (kq : Nat) (x0_1 : Int) (x2_1 : Int), v0 = .int .u64 x0_1 ∧ v2 = .int .i64 x2_1 ∧ Aside0 (bits_Len64.j0 kq x0_1 x2_1 = some r) ∧ Aside0 (kq ≤ k) ∧ Drawn0 w wc)
  case first =>
    have H := HC2.out
    clear HC2
    by_cases c3 : a0 ≥ 4294967296
    rotate_left
    · rw [if_neg c3] at H
      have c3b0 : decide (4294967296 ≤ a0) = false := decide_eq_false c3
      clear c3
      (first | rw [c3b0] | (simp only [i64_w, i32_w]; rw [c3b0]) | rw [c3b1] | skip)
      have H' := Aside0.mk H
      clear H
      go_wp2
      go_meet
      case rel => exact ⟨_, (a0), (0), (by first | rfl | (simp; done) | (simp [*]; done)), (by first | rfl | (simp; done) | (simp [*]; done)), H', ⟨by first | omega | exact Nat.le_refl _⟩, by repeat (first | exact Drawn0.refl _ | apply Drawn0.step)⟩
    rw [if_pos c3] at H
    have c3b0 : decide (4294967296 ≤ a0) = true := decide_eq_true c3
    clear c3
    (first | rw [c3b0] | (simp only [i64_w, i32_w]; rw [c3b0]) | rw [c3b1] | skip)
    have H' := Aside0.mk H
    clear H
    go_wp2
    go_meet
    case rel => exact ⟨_, (a0 / 4294967296), (32), (by first | rfl | (simp; done) | (simp [*]; done)), (by first | rfl | (simp; done) | (simp [*]; done)), H', ⟨by first | omega | exact Nat.le_refl _⟩, by repeat (first | exact Drawn0.refl _ | apply Drawn0.step)⟩
  clear HC2
  try clear p2
  try clear c3
  try clear c3b0
  try clear c3b1
  obtain ⟨kq, x0_1, x2_1, rfl, rfl, HA, HJ1, ⟨mc1, rfl⟩⟩ := hcut
  rcases kq with _ | kj1
  · exact absurd HA.out (by simp [bits_Len64.j0])
  have H := HA.out
  clear HA
  simp only [bits_Len64.j0] at H
  by_cases c4 : x0_1 ≥ 65536
  rotate_left
  · rw [if_neg c4] at H
    have c4b0 : decide (65536 ≤ x0_1) = false := decide_eq_false c4
    clear c4
    by_cases c14 : x0_1 ≥ 256
    rotate_left
    · rw [if_neg c14] at H
      have c14b0 : decide (256 ≤ x0_1) = false := decide_eq_false c14
      clear c14
      obtain ⟨ji19, hji19⟩ : ∃ j_ : Int, ((x0_1) % 256) = j_ := ⟨_, rfl⟩
      first | rw [hji19] at H | simp only [hji19] at H | skip
      by_cases c20 : 0 ≤ (ji19)
      rotate_left
      · rw [if_neg c20] at H
        exact absurd H (by simp)

      rw [if_pos c20] at H
      have c20b0 : decide (0 ≤ (ji19)) = true := decide_eq_true c20
      clear c20
      by_cases c21 : (ji19) < 256
      rotate_left
      · rw [if_neg c21] at H; exact absurd H (by simp)
      rw [if_pos c21] at H
      have c21b0 : decide ((ji19) < 256) = true := decide_eq_true c21
      clear c21
      obtain rfl := Option.some.inj H
      have p22 : 0 ≤ ((ji19) : Int) := od_
      have q22 : (ji19) < (256 : Int) := od_
      have hx22 := bt_at (⟨#[0, 1, 2, 2, 3, 3, 3, 3, 4, 4, 4, 4, 4, 4, 4, 4, 5, 5, 5, 5, 5, 5, 5, 5, 5, 5, 5, 5, 5, 5, 5, 5, 6, 6, 6, 6, 6, 6, 6, 6, 6, 6, 6, 6, 6, 6, 6, 6, 6, 6, 6, 6, 6, 6, 6, 6, 6, 6, 6, 6, 6, 6, 6, 6, 7, 7, 7, 7, 7, 7, 7, 7, 7, 7, 7, 7, 7, 7, 7, 7, 7, 7, 7, 7, 7, 7, 7, 7, 7, 7, 7, 7, 7, 7, 7, 7, 7, 7, 7, 7, 7, 7, 7, 7, 7, 7, 7, 7, 7, 7, 7, 7, 7, 7, 7, 7, 7, 7, 7, 7, 7, 7, 7, 7, 7, 7, 7, 7, 8, 8, 8, 8, 8, 8, 8, 8, 8, 8, 8, 8, 8, 8, 8, 8, 8, 8, 8, 8, 8, 8, 8, 8, 8, 8, 8, 8, 8, 8, 8, 8, 8, 8, 8, 8, 8, 8, 8, 8, 8, 8, 8, 8, 8, 8, 8, 8, 8, 8, 8, 8, 8, 8, 8, 8, 8, 8, 8, 8, 8, 8, 8, 8, 8, 8, 8, 8, 8, 8, 8, 8, 8, 8, 8, 8, 8, 8, 8, 8, 8, 8, 8, 8, 8, 8, 8, 8, 8, 8, 8, 8, 8, 8, 8, 8, 8, 8, 8, 8, 8, 8, 8, 8, 8, 8, 8, 8, 8, 8, 8, 8, 8, 8, 8, 8, 8, 8, 8, 8, 8, 8, 8, 8, 8, 8, 8, 8]⟩ : ByteArray) (ji19)
      replace p22 := eq_true p22
      replace q22 := eq_true q22
      go_wp2
      go_ret
      exact ⟨by first | rfl | (simp; done) | (simp only [← hji19] <;> (first | rfl | simp)) | (simp [*]; done), by repeat (first | exact Drawn0.refl _ | apply Drawn0.step)⟩
    rw [if_pos c14] at H
    have c14b0 : decide (256 ≤ x0_1) = true := decide_eq_true c14
    clear c14
    obtain ⟨ji15, hji15⟩ : ∃ j_ : Int, ((x0_1 / 256) % 256) = j_ := ⟨_, rfl⟩
    first | rw [hji15] at H | simp only [hji15] at H | skip
    by_cases c16 : 0 ≤ (ji15)
    rotate_left
    · rw [if_neg c16] at H; exact absurd H (by simp)
    rw [if_pos c16] at H
    have c16b0 : decide (0 ≤ (ji15)) = true := decide_eq_true c16
    clear c16
    by_cases c17 : (ji15) < 256
    rotate_left
    · rw [if_neg c17] at H; exact absurd H (by simp)
    rw [if_pos c17] at H
    have c17b0 : decide ((ji15) < 256) = true := decide_eq_true c17
    clear c17
    obtain rfl := Option.some.inj H
    have p18 : 0 ≤ ((ji15) : Int) := od_
    have q18 : (ji15) < (256 : Int) := od_
    have hx18 := bt_at (⟨#[0, 1, 2, 2, 3, 3, 3, 3, 4, 4, 4, 4, 4, 4, 4, 4, 5, 5, 5, 5, 5, 5, 5, 5, 5, 5, 5, 5, 5, 5, 5, 5, 6, 6, 6, 6, 6, 6, 6, 6, 6, 6, 6, 6, 6, 6, 6, 6, 6, 6, 6, 6, 6, 6, 6, 6, 6, 6, 6, 6, 6, 6, 6, 6, 7, 7, 7, 7, 7, 7, 7, 7, 7, 7, 7, 7, 7, 7, 7, 7, 7, 7, 7, 7, 7, 7, 7, 7, 7, 7, 7, 7, 7, 7, 7, 7, 7, 7, 7, 7, 7, 7, 7, 7, 7, 7, 7, 7, 7, 7, 7, 7, 7, 7, 7, 7, 7, 7, 7, 7, 7, 7, 7, 7, 7, 7, 7, 7, 8, 8, 8, 8, 8, 8, 8, 8, 8, 8, 8, 8, 8, 8, 8, 8, 8, 8, 8, 8, 8, 8, 8, 8, 8, 8, 8, 8, 8, 8, 8, 8, 8, 8, 8, 8, 8, 8, 8, 8, 8, 8, 8, 8, 8, 8, 8, 8, 8, 8, 8, 8, 8, 8, 8, 8, 8, 8, 8, 8, 8, 8, 8, 8, 8, 8, 8, 8, 8, 8, 8, 8, 8, 8, 8, 8, 8, 8, 8, 8, 8, 8, 8, 8, 8, 8, 8, 8, 8, 8, 8, 8, 8, 8, 8, 8, 8, 8, 8, 8, 8, 8, 8, 8, 8, 8, 8, 8, 8, 8, 8, 8, 8, 8, 8, 8, 8, 8, 8, 8, 8, 8, 8, 8, 8, 8, 8, 8]⟩ : ByteArray) (ji15)
    replace p18 := eq_true p18
    replace q18 := eq_true q18
    go_wp2
    go_ret
    exact ⟨by first | rfl | (simp; done) | (simp only [← hji15] <;> (first | rfl | simp)) | (simp [*]; done), by repeat (first | exact Drawn0.refl _ | apply Drawn0.step)⟩
  rw [if_pos c4] at H
  have c4b0 : decide (65536 ≤ x0_1) = true := decide_eq_true c4
  clear c4
  by_cases c5 : (x0_1 / 65536) ≥ 256
  · rw [if_pos c5] at H
    have c5b0 : decide (256 ≤ (x0_1 / 65536)) = true := decide_eq_true c5
    clear c5
    obtain ⟨ji6, hji6⟩ : ∃ j_ : Int, (((x0_1 / 65536) / 256) % 256) = j_ := ⟨_, rfl⟩
    first | rw [hji6] at H | simp only [hji6] at H | skip
    by_cases c7 : 0 ≤ (ji6)
    rotate_left
    · rw [if_neg c7] at H; exact absurd H (by simp)
    rw [if_pos c7] at H
    have c7b0 : decide (0 ≤ (ji6)) = true := decide_eq_true c7
    clear c7
    by_cases c8 : (ji6) < 256
    rotate_left
    · rw [if_neg c8] at H; exact absurd H (by simp)
    rw [if_pos c8] at H
    have c8b0 : decide ((ji6) < 256) = true := decide_eq_true c8
    clear c8
    obtain rfl := Option.some.inj H
    have p9 : 0 ≤ ((ji6) : Int) := od_
    have q9 : (ji6) < (256 : Int) := od_
    have hx9 := bt_at (⟨#[0, 1, 2, 2, 3, 3, 3, 3, 4, 4, 4, 4, 4, 4, 4, 4, 5, 5, 5, 5, 5, 5, 5, 5, 5, 5, 5, 5, 5, 5, 5, 5, 6, 6, 6, 6, 6, 6, 6, 6, 6, 6, 6, 6, 6, 6, 6, 6, 6, 6, 6, 6, 6, 6, 6, 6, 6, 6, 6, 6, 6, 6, 6, 6, 7, 7, 7, 7, 7, 7, 7, 7, 7, 7, 7, 7, 7, 7, 7, 7, 7, 7, 7, 7, 7, 7, 7, 7, 7, 7, 7, 7, 7, 7, 7, 7, 7, 7, 7, 7, 7, 7, 7, 7, 7, 7, 7, 7, 7, 7, 7, 7, 7, 7, 7, 7, 7, 7, 7, 7, 7, 7, 7, 7, 7, 7, 7, 7, 8, 8, 8, 8, 8, 8, 8, 8, 8, 8, 8, 8, 8, 8, 8, 8, 8, 8, 8, 8, 8, 8, 8, 8, 8, 8, 8, 8, 8, 8, 8, 8, 8, 8, 8, 8, 8, 8, 8, 8, 8, 8, 8, 8, 8, 8, 8, 8, 8, 8, 8, 8, 8, 8, 8, 8, 8, 8, 8, 8, 8, 8, 8, 8, 8, 8, 8, 8, 8, 8, 8, 8, 8, 8, 8, 8, 8, 8, 8, 8, 8, 8, 8, 8, 8, 8, 8, 8, 8, 8, 8, 8, 8, 8, 8, 8, 8, 8, 8, 8, 8, 8, 8, 8, 8, 8, 8, 8, 8, 8, 8, 8, 8, 8, 8, 8, 8, 8, 8, 8, 8, 8, 8, 8, 8, 8, 8, 8]⟩ : ByteArray) (ji6)
    replace p9 := eq_true p9
    replace q9 := eq_true q9
    go_wp2
    go_ret
    exact ⟨by first | rfl | (simp; done) | (simp only [← hji6] <;> (first | rfl | simp)) | (simp [*]; done), by repeat (first | exact Drawn0.refl _ | apply Drawn0.step)⟩
  rw [if_neg c5] at H
  have c5b0 : decide (256 ≤ (x0_1 / 65536)) = false := decide_eq_false c5
  clear c5
  obtain ⟨ji10, hji10⟩ : ∃ j_ : Int, ((x0_1 / 65536) % 256) = j_ := ⟨_, rfl⟩
  first | rw [hji10] at H | simp only [hji10] at H | skip
  by_cases c11 : 0 ≤ (ji10)
  rotate_left
  · rw [if_neg c11] at H; exact absurd H (by simp)
  rw [if_pos c11] at H
  have c11b0 : decide (0 ≤ (ji10)) = true := decide_eq_true c11
  clear c11
  by_cases c12 : (ji10) < 256
  rotate_left
  · rw [if_neg c12] at H; exact absurd H (by simp)
  rw [if_pos c12] at H
  have c12b0 : decide ((ji10) < 256) = true := decide_eq_true c12
  clear c12
  obtain rfl := Option.some.inj H
  have p13 : 0 ≤ ((ji10) : Int) := od_
  have q13 : (ji10) < (256 : Int) := od_
  have hx13 := bt_at (⟨#[0, 1, 2, 2, 3, 3, 3, 3, 4, 4, 4, 4, 4, 4, 4, 4, 5, 5, 5, 5, 5, 5, 5, 5, 5, 5, 5, 5, 5, 5, 5, 5, 6, 6, 6, 6, 6, 6, 6, 6, 6, 6, 6, 6, 6, 6, 6, 6, 6, 6, 6, 6, 6, 6, 6, 6, 6, 6, 6, 6, 6, 6, 6, 6, 7, 7, 7, 7, 7, 7, 7, 7, 7, 7, 7, 7, 7, 7, 7, 7, 7, 7, 7, 7, 7, 7, 7, 7, 7, 7, 7, 7, 7, 7, 7, 7, 7, 7, 7, 7, 7, 7, 7, 7, 7, 7, 7, 7, 7, 7, 7, 7, 7, 7, 7, 7, 7, 7, 7, 7, 7, 7, 7, 7, 7, 7, 7, 7, 8, 8, 8, 8, 8, 8, 8, 8, 8, 8, 8, 8, 8, 8, 8, 8, 8, 8, 8, 8, 8, 8, 8, 8, 8, 8, 8, 8, 8, 8, 8, 8, 8, 8, 8, 8, 8, 8, 8, 8, 8, 8, 8, 8, 8, 8, 8, 8, 8, 8, 8, 8, 8, 8, 8, 8, 8, 8, 8, 8, 8, 8, 8, 8, 8, 8, 8, 8, 8, 8, 8, 8, 8, 8, 8, 8, 8, 8, 8, 8, 8, 8, 8, 8, 8, 8, 8, 8, 8, 8, 8, 8, 8, 8, 8, 8, 8, 8, 8, 8, 8, 8, 8, 8, 8, 8, 8, 8, 8, 8, 8, 8, 8, 8, 8, 8, 8, 8, 8, 8, 8, 8, 8, 8, 8, 8, 8, 8]⟩ : ByteArray) (ji10)
  replace p13 := eq_true p13
  replace q13 := eq_true q13
  go_wp2
  go_ret
  exact ⟨by first | rfl | (simp; done) | (simp only [← hji10] <;> (first | rfl | simp)) | (simp [*]; done), by repeat (first | exact Drawn0.refl _ | apply Drawn0.step)⟩

/-! ### bits_LeadingZeros64: function 79 -/
def bits_LeadingZeros64.f (k : Nat) (a0 : Int) : Option (Int) := (bits_Len64.f k a0).bind fun t575 => (some (wrap64 (64 - t575)))
set_option maxHeartbeats 8000000 in
set_option maxRecDepth 100000 in
theorem bits_LeadingZeros64.calls (k : Nat) (a0 : Int) (r : Int) (w : World) (h : bits_LeadingZeros64.f k a0 = some r) :
    Calls Try.prog 79 #[.int .u64 a0] w fun e w' => e = .returned (.int .i64 r) ∧ Drawn0 w w' := by
  have H : ((bits_Len64.f k a0).bind fun t575 => (some (wrap64 (64 - t575)))) = some r := h
  clear h
  replace H := Option.bind_eq_some_iff.mp H
  obtain ⟨t575, A20, H⟩ := H
  have A2 := Aside0.mk A20
  clear A20
  obtain rfl := Option.some.inj H
  go_enter Try.func79, Try.ntmps79
  go_wp2_with (first | ((with_reducible refine gate_callee (f := 90) rfl ?_); refine gL_ 4 Try.func90 rfl #[.int .u64 a0] ?_; (with_reducible refine (bits_Len64.calls k a0 t575 _ A2.out).mono ?_); rintro e w' ⟨rfl, ⟨nd, rfl⟩⟩; refine ⟨_, rfl, ?_⟩))
  go_ret
  exact ⟨by first | rfl | (simp; done) | (simp [*]; done), by repeat (first | exact Drawn0.refl _ | apply Drawn0.step)⟩

/-! ### impl_nat_size: function 61 -/
def impl_nat_size.f (k : Nat) (l0 : List Int) : Option (Int) := if (l0.length : Int) = 0 then (some 0) else (if 0 ≤ (wrap64 ((l0.length : Int) - 1)) then (if (wrap64 ((l0.length : Int) - 1)) < (l0.length : Int) then ((bits_LeadingZeros64.f k (rd l0 (wrap64 ((l0.length : Int) - 1)))).bind fun t577 => (some (wrap64 ((wrap64 (64 * (l0.length : Int))) - t577)))) else (none)) else (none))
set_option maxHeartbeats 8000000 in
set_option maxRecDepth 100000 in
theorem impl_nat_size.calls (k : Nat) (A0 : Option Addr) (c0 : Nat) (l0 : List Int) (r : Int) (w : World) (hr0 : Kd.C (Kd.int .u64) w A0 l0.length l0) (hc0 : l0.length ≤ c0) (h : impl_nat_size.f k l0 = some r) :
    Calls Try.prog 61 #[.slice A0 l0.length c0] w fun e w' => e = .returned (.int .i64 r) ∧ Drawn0 w w' := by
  have HR0 := Aside0.mk hr0
  have HC0 := Aside0.mk hc0
  clear hr0 hc0
  have H : (if (l0.length : Int) = 0 then (some 0) else (if 0 ≤ (wrap64 ((l0.length : Int) - 1)) then (if (wrap64 ((l0.length : Int) - 1)) < (l0.length : Int) then ((bits_LeadingZeros64.f k (rd l0 (wrap64 ((l0.length : Int) - 1)))).bind fun t577 => (some (wrap64 ((wrap64 (64 * (l0.length : Int))) - t577)))) else (none)) else (none))) = some r := h
  clear h
  by_cases c2 : (l0.length : Int) = 0
  · rw [if_pos c2] at H
    have c2b0 : ((l0.length : Int) == 0) = true := beq_iff_eq.mpr c2
    have c2b1 : ((l0.length : Int) != 0) = false := bne_eq_false_iff_eq.mpr c2
    clear c2
    obtain rfl := Option.some.inj H
    go_enter Try.func61, Try.ntmps61
    go_wp2
    go_ret
    exact ⟨by first | rfl | (simp; done) | (simp [*]; done), by repeat (first | exact Drawn0.refl _ | apply Drawn0.step)⟩
  rw [if_neg c2] at H
  have c2b0 : ((l0.length : Int) == 0) = false := beq_eq_false_iff_ne.mpr c2
  have c2b1 : ((l0.length : Int) != 0) = true := bne_iff_ne.mpr c2
  have c2b2 : ¬ (l0 = []) := fun h_ => c2 (by rw [h_]; rfl)
  obtain ⟨ji3, hji3⟩ : ∃ j_ : Int, (wrap64 ((l0.length : Int) - 1)) = j_ := ⟨_, rfl⟩
  first | rw [hji3] at H | simp only [hji3] at H | skip
  have hji3w : (IntKind.i64.wrap ((l0.length : Int) - 1)) = ji3 := (i64_w _).trans hji3
  by_cases c4 : 0 ≤ (ji3)
  rotate_left
  · rw [if_neg c4] at H
    exact absurd H (by simp)

  rw [if_pos c4] at H
  have c4b0 : decide (0 ≤ (ji3)) = true := decide_eq_true c4
  clear c4
  by_cases c5 : (ji3) < (l0.length : Int)
  rotate_left
  · rw [if_neg c5] at H; exact absurd H (by simp)
  rw [if_pos c5] at H
  have c5b0 : decide ((ji3) < (l0.length : Int)) = true := decide_eq_true c5
  clear c5
  replace H := Option.bind_eq_some_iff.mp H
  obtain ⟨t577, A60, H⟩ := H
  have A6 := Aside0.mk A60
  clear A60
  obtain rfl := Option.some.inj H
  have p576 : 0 ≤ ((ji3) : Int) := od_
  have q576 : (ji3) < (l0.length : Int) := od_
  obtain ⟨ad576, e576, hx576_0⟩ := Kd.at_int HR0.out (ji3) p576 q576
  cases e576
  replace p576 := eq_true p576
  replace q576 := eq_true q576
  go_enter Try.func61, Try.ntmps61
  go_wp2_with (first | ((with_reducible refine gate_callee (f := 79) rfl ?_); refine goesL_ (some 15) rfl rfl Try.func79 (by kernel_rfl) rfl #[.int .u64 (rd l0 (ji3))] rfl (by (try simp only [List.map_toArray, List.map_cons, List.map_nil]); first | done | (simp only [hji3]; rfl) | rfl | (simp only [List.length_drop, List.length_take]; rfl)) ?_; (with_reducible refine (bits_LeadingZeros64.calls k (rd l0 (ji3)) t577 _ A6.out).mono ?_); rintro e w' ⟨rfl, ⟨nd, rfl⟩⟩; refine ⟨_, rfl, ?_⟩))
  go_ret
  exact ⟨by first | rfl | (simp; done) | (simp only [← hji3] <;> (first | rfl | simp)) | (simp [*]; done), by repeat (first | exact Drawn0.refl _ | apply Drawn0.step)⟩

/-! ### impl_nat_text: function 57 -/
def impl_nat_text.l0 : Nat → List Int → List Int → Int → Option (ByteArray)
  | 0, _, _, _ => none
  | k + 1, x0, x3, x4 => if x4 > 0 then (if 0 ≤ (wrap64 (Int.tdiv (wrap64 (x4 - 1)) 8)) then (if (wrap64 (Int.tdiv (wrap64 (x4 - 1)) 8)) < (x0.length : Int) then (if 0 ≤ (wrap64 (8 * (Int.tmod (wrap64 (x4 - 1)) 8))) then (if x3.length < 140737488355328 then (impl_nat_text.l0 k x0 (x3 ++ [(shr .u64 (rd x0 (wrap64 (Int.tdiv (wrap64 (x4 - 1)) 8))) (wrap64 (8 * (Int.tmod (wrap64 (x4 - 1)) 8)))) % 256]) (wrap64 (x4 - 1))) else (none)) else (none)) else (none)) else (none)) else (some (strOfNums x3))
def impl_nat_text.f (k : Nat) (l0 : List Int) : Option (ByteArray) := (impl_nat_size.f k l0).bind fun t581 => (impl_nat_text.l0 k l0 (([] : List Int)) (wrap64 (Int.tdiv (wrap64 (t581 + 7)) 8)))
set_option maxHeartbeats 8000000 in
set_option maxRecDepth 100000 in
theorem impl_nat_text.calls (k : Nat) (A0 : Option Addr) (c0 : Nat) (l0 : List Int) (r : ByteArray) (w : World) (hr0 : Kd.C (Kd.int .u64) w A0 l0.length l0) (hc0 : l0.length ≤ c0) (h : impl_nat_text.f k l0 = some r) :
    Calls Try.prog 57 #[.slice A0 l0.length c0] w fun e w' => e = .returned (.string r) ∧ Below w.heap.size w w' := by
  have HR0 := Aside0.mk hr0
  have HC0 := Aside0.mk hc0
  clear hr0 hc0
  have HB := Aside0.mk (Below.refl w.heap.size w)
  have H : ((impl_nat_size.f k l0).bind fun t581 => (impl_nat_text.l0 k l0 (([] : List Int)) (wrap64 (Int.tdiv (wrap64 (t581 + 7)) 8)))) = some r := h
  clear h
  obtain ⟨y578, hy578⟩ : ∃ y_ : List Int, y_ = (([] : List Int)) := ⟨_, rfl⟩
  replace H : ((impl_nat_size.f k l0).bind fun t581 => (impl_nat_text.l0 k l0 y578 (wrap64 (Int.tdiv (wrap64 (t581 + 7)) 8)))) = some r := by first | (rw [hy578]; with_reducible exact H) | (have H2_ := (Option.bind_some _ _).symm.trans H; rw [hy578]; with_reducible exact H2_) | (have H2_ := (Option.bind_some _ _).symm.trans H; with_reducible exact H2_) | with_reducible exact H | (rw [hy578]; exact H) | exact H
  have Ny578 := Aside0.mk hy578
  clear hy578
  replace H := Option.bind_eq_some_iff.mp H
  obtain ⟨t581, A20, H⟩ := H
  have A2 := Aside0.mk A20
  clear A20
  have H' := Aside0.mk H
  clear H
  go_enter Try.func57, Try.ntmps57
  go_wp2_with (first | ((with_reducible refine gate_dst (N := 5) rfl ?_); refine Kd.R_lit (Kd.int .u8) _ 5 ?hg (N := 5) ?hd (xs := ([] : List Int)) (inner := []) (ok := fun _ => True) (okp := fun _ => True) ?hr ?hp (fun _ hk => hk) trivial (Below.refl _ _) (Nat.le_refl _) (by simp) ?_; (case hd => rfl); (case hg => rfl); (case hr => first | (go_simp; done) | (go_simp; rfl)); (case hp => exact (Reps.none _ _)); intro v579 w3 ho4 hb hg_ hnew_; clear hg_ hnew_; (first | rw [← Ny578.out] at ho4 | (simp only [Int.reduceToNat] at ho4; rw [← Ny578.out] at ho4)); have HO580 := Aside0.mk (Kd.R_lower ho4 (below_size (pB_ HB.out))); replace HB := Aside0.mk (below_step (pB_ HB.out) hb); clear hb ho4) | ((with_reducible refine gate_callee (f := 61) rfl ?_); refine gL_ 7 Try.func61 rfl #[.slice A0 l0.length c0] ?_; (with_reducible refine (impl_nat_size.calls k _ _ l0 t581 _ ?side1 ?side2 A2.out).mono ?_); (case side1 => exact pC_ (Kd.C_below HR0.out HB.out)); (case side2 => exact HC0.out); rintro e w' ⟨rfl, ⟨nd, rfl⟩⟩; refine ⟨_, rfl, ?_⟩))
  go_loopg [3, 4] k (fun kq v3 v4 w' => ∃ (x3_1 : List Int) (x4_1 : Int), v4 = .int .i64 x4_1 ∧ Aside0 (impl_nat_text.l0 kq l0 x3_1 x4_1 = some r) ∧ Aside0 (kq ≤ k) ∧ Aside0 (Kd.R (Kd.int .u8) 5 w' w.heap.size (fun _ => True) v3 x3_1) ∧ Aside0 (Below w.heap.size w w'))
  case atStart => exact ⟨(y578), (wrap64 (Int.tdiv (wrap64 (t581 + 7)) 8)), (by first | rfl | (simp; done) | (simp [*]; done)), H', ⟨Nat.le_refl _⟩, ⟨by (with_reducible repeat (first | apply Kd.R_alloc | apply Kd.R_drewN | apply Kd.R_drew)); exact HO580.out⟩, ⟨pB_ HB.out⟩⟩
  clear H'
  try clear p2
  obtain ⟨x3_1, x4_1, rfl, HA, HK1, HO_3, HB⟩ := hrel
  rcases gk with _ | k1
  · exact absurd HA.out (by simp [impl_nat_text.l0])
  have H := HA.out
  clear HA
  simp only [impl_nat_text.l0] at H
  by_cases c5 : x4_1 > 0
  rotate_left
  · rw [if_neg c5] at H
    have c5b0 : decide (0 < x4_1) = false := decide_eq_false c5
    clear c5
    obtain rfl := Option.some.inj H
    have hcv14 := own_string (P := Try.prog) Try.underlying82 Try.underlying5 Try.underlying9 (Kd.own_of_R HO_3.out)
    go_wp2
    go_ret
    exact ⟨by first | rfl | (simp [errW_none, errW_some] <;> rfl) | (simp [*, errW_none, errW_some] <;> rfl), pB_ HB.out⟩

  rw [if_pos c5] at H
  have c5b0 : decide (0 < x4_1) = true := decide_eq_true c5
  clear c5
  obtain ⟨ji6, hji6⟩ : ∃ j_ : Int, (wrap64 (Int.tdiv (wrap64 (x4_1 - 1)) 8)) = j_ := ⟨_, rfl⟩
  first | rw [hji6] at H | simp only [hji6] at H | skip
  have hji6w : (IntKind.i64.wrap (Int.tdiv (wrap64 (x4_1 - 1)) 8)) = ji6 := (i64_w _).trans hji6
  by_cases c7 : 0 ≤ (ji6)
  rotate_left
  · rw [if_neg c7] at H; exact absurd H (by simp)
  rw [if_pos c7] at H
  have c7b0 : decide (0 ≤ (ji6)) = true := decide_eq_true c7
  clear c7
  by_cases c8 : (ji6) < (l0.length : Int)
  rotate_left
  · rw [if_neg c8] at H; exact absurd H (by simp)
  rw [if_pos c8] at H
  have c8b0 : decide ((ji6) < (l0.length : Int)) = true := decide_eq_true c8
  clear c8
  obtain ⟨ji9, hji9⟩ : ∃ j_ : Int, (wrap64 (8 * (Int.tmod (wrap64 (x4_1 - 1)) 8))) = j_ := ⟨_, rfl⟩
  first | rw [hji9] at H | simp only [hji9] at H | skip
  have hji9w : (IntKind.i64.wrap (8 * (Int.tmod (wrap64 (x4_1 - 1)) 8))) = ji9 := (i64_w _).trans hji9
  by_cases c10 : 0 ≤ (ji9)
  rotate_left
  · rw [if_neg c10] at H; exact absurd H (by simp)
  rw [if_pos c10] at H
  have c10b0 := eq_true c10
  have c10b1 : decide (0 ≤ (ji9)) = true := decide_eq_true c10
  clear c10
  obtain ⟨ji11, hji11⟩ : ∃ j_ : Int, (shr .u64 (rd l0 (ji6)) (ji9)) = j_ := ⟨_, rfl⟩
  first | rw [hji11] at H | simp only [hji11] at H | skip
  have hji11_ : ((rd l0 (ji6)) / 2 ^ min (ji9).toNat 64) = ji11 := hji11
  have hji11z : (ji9) ≤ 64 → ((rd l0 (ji6)) / 2 ^ (ji9).toNat) = ji11 := shr_small hji11
  by_cases c12 : x3_1.length < 140737488355328
  rotate_left
  · rw [if_neg c12] at H; exact absurd H (by simp)
  rw [if_pos c12] at H
  have LMc12 := Aside0.mk c12
  clear c12
  obtain ⟨y583, hy583⟩ : ∃ y_ : List Int, y_ = (x3_1 ++ [(ji11) % 256]) := ⟨_, rfl⟩
  first | rw [← hy583] at H | skip
  have Ny583 := Aside0.mk hy583
  clear hy583
  have H' := Aside0.mk H
  clear H
  have p582 : 0 ≤ ((ji6) : Int) := od_
  have q582 : (ji6) < (l0.length : Int) := od_
  obtain ⟨ad582, e582, hx582_0⟩ := Kd.at_int HR0.out (ji6) p582 q582
  cases e582
  replace hx582_0 := (HB.out.cell (World.block_lt_of_cell? w _ hx582_0)).trans hx582_0
  replace p582 := eq_true p582
  replace q582 := eq_true q582
  go_wp2_with (first | ((with_reducible refine gate_builtin (b := .append) (xs := #[.tmp 14, .tmp 27]) rfl ?_); at_builtin; refine Kd.R_append (Kd.int .u8) (w0 := w) w.heap.size rfl (.tmp 14) (.tmp 27) 82 5 (.int .u8 0) 1 rfl Try.underlying82 info5 rfl (by decide) (by omega) u3 x3_1 ((ji11) % 256) [.int .u8 ((ji11) % 256)] (fun _ => True) (fun _ => False) rfl rfl ?aP (fun _ hk => hk.elim) ?aF ?aO ?aB ?aS ?aL ?_; (case aP => exact rfl); (case aB => exact (pB_ HB.out)); (case aF => exact (fun _ _ => trivial)); (case aO => exact (pR_ HO_3.out)); (case aS => exact (below_size (pB_ HB.out))); (case aL => have := LMc12.out; omega); intro v584 w13 ho hb hg hat; rw [← Ny583.out] at ho; have n0_ := Aside0.mk (hb); have n1_ := Aside0.mk (ho); clear HB; clear HO_3; have HB := n0_; have HO585 := n1_; clear n0_ n1_; clear ho hb hg hat))
  go_roundg k1
  case measure => have := HK1.out; omega
  case rel => exact ⟨(y583), (wrap64 (x4_1 - 1)), (by first | rfl | (simp; done) | (simp [*]; done)), H', ⟨by have := HK1.out; omega⟩, ⟨by (with_reducible repeat (first | apply Kd.R_alloc | apply Kd.R_drewN | apply Kd.R_drew)); exact HO585.out⟩, ⟨pB_ HB.out⟩⟩

/-! ### spec_l02Add: function 65 -/
mutual
def spec_l02Add.l0 : Nat → List Int → List Int → List Int → Int → Int → Option (List Int)
  | 0, _, _, _, _, _ => none
  | k + 1, x0, x1, x5, x6, x7 => if x7 < (x0.length : Int) then (if 0 ≤ x7 then (if x7 < (x1.length : Int) then (if x5.length < 17592186044416 then (spec_l02Add.l0 k x0 x1 (x5 ++ [Go.bits .and .i64 (wrap64 ((wrap64 ((rd x0 x7) + x6)) + (rd x1 x7))) 16777215]) ((wrap64 ((wrap64 ((rd x0 x7) + x6)) + (rd x1 x7))) / 16777216) (wrap64 (x7 + 1))) else (none)) else (if x5.length < 17592186044416 then (spec_l02Add.l0 k x0 x1 (x5 ++ [Go.bits .and .i64 (wrap64 ((rd x0 x7) + x6)) 16777215]) ((wrap64 ((rd x0 x7) + x6)) / 16777216) (wrap64 (x7 + 1))) else (none))) else (none)) else (if x6 > 0 then (if x5.length < 17592186044416 then (some (x5 ++ [x6])) else (none)) else (some x5))
def spec_l02Add.f : Nat → List Int → List Int → Option (List Int)
  | 0, _, _ => none
  | k + 1, l0, l1 => if (l0.length : Int) < (l1.length : Int) then ((spec_l02Add.f k l1 l0).bind fun t715 => (some t715)) else (if 0 ≤ (wrap64 ((l0.length : Int) + 1)) then (if (wrap64 ((l0.length : Int) + 1) : Int).toNat ≤ 35184372088832 then (spec_l02Add.l0 k l0 l1 (([] : List Int)) 0 0) else (none)) else (none))
end
set_option maxHeartbeats 8000000 in
set_option maxRecDepth 100000 in
theorem spec_l02Add.calls (k : Nat) : ∀ (A0 : Option Addr) (c0 : Nat) (l0 : List Int) (A1 : Option Addr) (c1 : Nat) (l1 : List Int) (r : List Int) (w : World) (hr0 : Kd.C (Kd.int .i64) w A0 l0.length l0) (hc0 : l0.length ≤ c0) (hr1 : Kd.C (Kd.int .i64) w A1 l1.length l1) (hc1 : l1.length ≤ c1) (h : spec_l02Add.f k l0 l1 = some r),
    Calls Try.prog 65 #[.slice A0 l0.length c0, .slice A1 l1.length c1] w fun e w' => ∃ v0_ : Value, e = .returned (v0_) ∧ Kd.R (Kd.int .i64) 3 w' w.heap.size (fun _ => True) v0_ r ∧ Below w.heap.size w w' := by
  induction k using Nat.strongRecOn with
  | _ k ih =>
  intro A0 c0 l0 A1 c1 l1 r w hr0 hc0 hr1 hc1 h
  cases k with
  | zero => exact absurd h (by simp [spec_l02Add.f])
  | succ k =>
  simp only [spec_l02Add.f] at h
  have HR0 := Aside0.mk hr0
  have HC0 := Aside0.mk hc0
  clear hr0 hc0
  have HR1 := Aside0.mk hr1
  have HC1 := Aside0.mk hc1
  clear hr1 hc1
  have HB := Aside0.mk (Below.refl w.heap.size w)
  have H : (if (l0.length : Int) < (l1.length : Int) then ((spec_l02Add.f k l1 l0).bind fun t715 => (some t715)) else (if 0 ≤ (wrap64 ((l0.length : Int) + 1)) then (if (wrap64 ((l0.length : Int) + 1) : Int).toNat ≤ 35184372088832 then (spec_l02Add.l0 k l0 l1 (([] : List Int)) 0 0) else (none)) else (none))) = some r := h
  clear h
  by_cases c3 : (l0.length : Int) < (l1.length : Int)
  · rw [if_pos c3] at H
    have c3b0 : decide ((l0.length : Int) < (l1.length : Int)) = true := decide_eq_true c3
    have c3b1 : decide (l0.length < l1.length) = true := decide_eq_true (Int.ofNat_lt.mp c3)
    clear c3
    replace H := Option.bind_eq_some_iff.mp H
    obtain ⟨t715, A40, H⟩ := H
    have A4 := Aside0.mk A40
    clear A40
    obtain rfl := Option.some.inj H
    go_enter Try.func65, Try.ntmps65
    go_wp2_with (first | ((with_reducible refine gate_callee (f := 65) rfl ?_); refine gL_ 16 Try.func65 rfl #[.slice A1 l1.length c1, .slice A0 l0.length c0] ?_; (with_reducible refine (ih k (by omega) _ _ l1 _ _ l0 t715 _ ?side1 ?side2 ?side3 ?side4 A4.out).mono ?_); (case side1 => exact pC_ HR1.out); (case side2 => exact HC1.out); (case side3 => exact pC_ HR0.out); (case side4 => exact HC0.out); rintro e w5 ⟨v716, rfl, ho0, hb⟩; refine ⟨_, rfl, ?_⟩; have HO717 := Aside0.mk (Kd.R_lower ho0 (below_size (pB_ HB.out))); replace HB := Aside0.mk (below_step (pB_ HB.out) hb); clear hb ho0))
    go_ret
    exact ⟨_, by first | rfl | (simp [errW_none, errW_some] <;> rfl) | (simp [*, errW_none, errW_some] <;> rfl), by (with_reducible repeat (first | apply Kd.R_alloc | apply Kd.R_drewN | apply Kd.R_drew)); exact HO717.out, pB_ HB.out⟩
  rw [if_neg c3] at H
  have c3b0 : decide ((l0.length : Int) < (l1.length : Int)) = false := decide_eq_false c3
  have c3b1 : decide (l0.length < l1.length) = false := decide_eq_false (fun h => c3 (Int.ofNat_lt.mpr h))
  clear c3
  obtain ⟨ji6, hji6⟩ : ∃ j_ : Int, (wrap64 ((l0.length : Int) + 1)) = j_ := ⟨_, rfl⟩
  first | rw [hji6] at H | simp only [hji6] at H | skip
  have hji6w : (IntKind.i64.wrap ((l0.length : Int) + 1)) = ji6 := (i64_w _).trans hji6
  by_cases c7 : 0 ≤ (ji6)
  rotate_left
  · rw [if_neg c7] at H
    exact absurd H (by simp)

  rw [if_pos c7] at H
  have c7b0 := eq_true c7
  have c7b1 : decide (0 ≤ (ji6)) = true := decide_eq_true c7
  clear c7
  by_cases c8 : (ji6 : Int).toNat ≤ 35184372088832
  rotate_left
  · rw [if_neg c8] at H; exact absurd H (by simp)
  rw [if_pos c8] at H
  have c8b0 := eq_true c8
  have c8b1 : decide ((ji6 : Int).toNat ≤ 35184372088832) = true := decide_eq_true c8
  clear c8
  obtain ⟨y718, hy718⟩ : ∃ y_ : List Int, y_ = (([] : List Int)) := ⟨_, rfl⟩
  replace H : (spec_l02Add.l0 k l0 l1 y718 0 0) = some r := by first | (rw [hy718]; with_reducible exact H) | (have H2_ := (Option.bind_some _ _).symm.trans H; rw [hy718]; with_reducible exact H2_) | (have H2_ := (Option.bind_some _ _).symm.trans H; with_reducible exact H2_) | with_reducible exact H | (rw [hy718]; exact H) | exact H
  have Ny718 := Aside0.mk hy718
  clear hy718
  have H' := Aside0.mk H
  clear H
  go_enter Try.func65, Try.ntmps65
  go_wp2_with (first | ((with_reducible refine gate_dst (N := 20) rfl ?_); refine Kd.R_makecap (Kd.int .i64) _ 3 rfl (N := 20) rfl 49 _ _ rfl ji6 rfl rfl Try.underlying49 (.int .i64 0) 8 info3 rfl (by decide) (by omega) (ok := fun _ => True) trivial (od_) (Nat.le_trans (Nat.mul_le_mul_right _ (od_ : ji6.toNat ≤ 35184372088832)) (by omega)) (Below.refl _ _) (Nat.le_refl _) ?_; intro v719 w9 ho10 hb hg_ hnew_; clear hg_ hnew_; (first | rw [← Ny718.out] at ho10 | (simp only [Int.reduceToNat] at ho10; rw [← Ny718.out] at ho10)); have HO720 := Aside0.mk (Kd.R_lower ho10 (below_size (pB_ HB.out))); replace HB := Aside0.mk (below_step (pB_ HB.out) hb); clear hb ho10))
  go_loopg [5, 6, 7] k (fun kq v5 v6 v7 w' => ∃ (x5_1 : List Int) (x6_1 : Int) (x7_1 : Int), v6 = .int .i64 x6_1 ∧ v7 = .int .i64 x7_1 ∧ Aside0 (spec_l02Add.l0 kq l0 l1 x5_1 x6_1 x7_1 = some r) ∧ Aside0 (kq ≤ k) ∧ Aside0 (Kd.R (Kd.int .i64) 3 w' w.heap.size (fun _ => True) v5 x5_1) ∧ Aside0 (Below w.heap.size w w'))
  case atStart => exact ⟨(y718), (0), (0), (by first | rfl | (simp; done) | (simp [*]; done)), (by first | rfl | (simp; done) | (simp [*]; done)), H', ⟨Nat.le_refl _⟩, ⟨by (with_reducible repeat (first | apply Kd.R_alloc | apply Kd.R_drewN | apply Kd.R_drew)); exact HO720.out⟩, ⟨pB_ HB.out⟩⟩
  clear H'
  try clear c1
  try clear p2
  try clear c3
  try clear c3b0
  try clear c3b1
  try clear c6
  try clear p6
  try clear c7
  try clear c7b0
  try clear c7b1
  try clear c8
  try clear c8b0
  try clear c8b1
  obtain ⟨x5_1, x6_1, x7_1, rfl, rfl, HA, HK1, HO_5, HB⟩ := hrel
  rcases gk with _ | k1
  · exact absurd HA.out (by simp [spec_l02Add.l0])
  have H := HA.out
  clear HA
  simp only [spec_l02Add.l0] at H
  by_cases c11 : x7_1 < (l0.length : Int)
  rotate_left
  · rw [if_neg c11] at H
    have c11b0 : decide (x7_1 < (l0.length : Int)) = false := decide_eq_false c11
    clear c11
    by_cases c18 : x6_1 > 0
    rotate_left
    · rw [if_neg c18] at H
      have c18b0 : decide (0 < x6_1) = false := decide_eq_false c18
      clear c18
      obtain rfl := Option.some.inj H
      go_wp2
      go_ret
      exact ⟨_, by first | rfl | (simp [errW_none, errW_some] <;> rfl) | (simp only [← hji6]; first | rfl | (simp [errW_none, errW_some] <;> rfl)) | (simp [*, errW_none, errW_some] <;> rfl), by (with_reducible repeat (first | apply Kd.R_alloc | apply Kd.R_drewN | apply Kd.R_drew)); exact HO_5.out, pB_ HB.out⟩
    rw [if_pos c18] at H
    have c18b0 : decide (0 < x6_1) = true := decide_eq_true c18
    clear c18
    by_cases c19 : x5_1.length < 17592186044416
    rotate_left
    · rw [if_neg c19] at H; exact absurd H (by simp)
    rw [if_pos c19] at H
    have LMc19 := Aside0.mk c19
    clear c19
    obtain ⟨y729, hy729⟩ : ∃ y_ : List Int, y_ = (x5_1 ++ [x6_1]) := ⟨_, rfl⟩
    first | rw [← hy729] at H | skip
    have Ny729 := Aside0.mk hy729
    clear hy729
    obtain rfl := Option.some.inj H
    go_wp2_with (first | ((with_reducible refine gate_builtin (b := .append) (xs := #[.tmp 52, .tmp 54]) rfl ?_); at_builtin; refine Kd.R_append (Kd.int .i64) (w0 := w) w.heap.size rfl (.tmp 52) (.tmp 54) 49 3 (.int .i64 0) 8 rfl Try.underlying49 info3 rfl (by decide) (by omega) u5 x5_1 x6_1 [.int .i64 x6_1] (fun _ => True) (fun _ => False) rfl rfl ?aP (fun _ hk => hk.elim) ?aF ?aO ?aB ?aS ?aL ?_; (case aP => exact rfl); (case aB => exact (pB_ HB.out)); (case aF => exact (fun _ _ => trivial)); (case aO => exact (pR_ HO_5.out)); (case aS => exact (below_size (pB_ HB.out))); (case aL => have := LMc19.out; omega); intro v730 w20 ho hb hg hat; rw [← Ny729.out] at ho; have n0_ := Aside0.mk (hb); have n1_ := Aside0.mk (ho); clear HB; clear HO_5; have HB := n0_; have HO731 := n1_; clear n0_ n1_; clear ho hb hg hat))
    go_ret
    exact ⟨_, by first | rfl | (simp [errW_none, errW_some] <;> rfl) | (simp only [← hji6]; first | rfl | (simp [errW_none, errW_some] <;> rfl)) | (simp [*, errW_none, errW_some] <;> rfl), by (with_reducible repeat (first | apply Kd.R_alloc | apply Kd.R_drewN | apply Kd.R_drew)); exact HO731.out, pB_ HB.out⟩
  rw [if_pos c11] at H
  have c11b0 : decide (x7_1 < (l0.length : Int)) = true := decide_eq_true c11
  clear c11
  by_cases c12 : 0 ≤ x7_1
  rotate_left
  · rw [if_neg c12] at H; exact absurd H (by simp)
  rw [if_pos c12] at H
  have c12b0 : decide (0 ≤ x7_1) = true := decide_eq_true c12
  clear c12
  by_cases c13 : x7_1 < (l1.length : Int)
  rotate_left
  · rw [if_neg c13] at H
    have c13b0 : decide (x7_1 < (l1.length : Int)) = false := decide_eq_false c13
    clear c13
    by_cases c16 : x5_1.length < 17592186044416
    rotate_left
    · rw [if_neg c16] at H; exact absurd H (by simp)
    rw [if_pos c16] at H
    have LMc16 := Aside0.mk c16
    clear c16
    obtain ⟨y726, hy726⟩ : ∃ y_ : List Int, y_ = (x5_1 ++ [Go.bits .and .i64 (wrap64 ((rd l0 x7_1) + x6_1)) 16777215]) := ⟨_, rfl⟩
    first | rw [← hy726] at H | skip
    have Ny726 := Aside0.mk hy726
    clear hy726
    have H' := Aside0.mk H
    clear H
    have p721 : 0 ≤ (x7_1 : Int) := od_
    have q721 : x7_1 < (l0.length : Int) := od_
    obtain ⟨ad721, e721, hx721_0⟩ := Kd.at_int HR0.out x7_1 p721 q721
    cases e721
    replace hx721_0 := (HB.out.cell (World.block_lt_of_cell? w _ hx721_0)).trans hx721_0
    replace p721 := eq_true p721
    replace q721 := eq_true q721
    go_wp2_with (first | ((with_reducible refine gate_builtin (b := .append) (xs := #[.tmp 43, .tmp 46]) rfl ?_); at_builtin; refine Kd.R_append (Kd.int .i64) (w0 := w) w.heap.size rfl (.tmp 43) (.tmp 46) 49 3 (.int .i64 0) 8 rfl Try.underlying49 info3 rfl (by decide) (by omega) u5 x5_1 (Go.bits .and .i64 (wrap64 ((rd l0 x7_1) + x6_1)) 16777215) [.int .i64 (Go.bits .and .i64 (wrap64 ((rd l0 x7_1) + x6_1)) 16777215)] (fun _ => True) (fun _ => False) rfl rfl ?aP (fun _ hk => hk.elim) ?aF ?aO ?aB ?aS ?aL ?_; (case aP => exact rfl); (case aB => exact (pB_ HB.out)); (case aF => exact (fun _ _ => trivial)); (case aO => exact (pR_ HO_5.out)); (case aS => exact (below_size (pB_ HB.out))); (case aL => have := LMc16.out; omega); intro v727 w17 ho hb hg hat; rw [← Ny726.out] at ho; have n0_ := Aside0.mk (hb); have n1_ := Aside0.mk (ho); clear HB; clear HO_5; have HB := n0_; have HO728 := n1_; clear n0_ n1_; clear ho hb hg hat))
    go_roundg k1
    case measure => have := HK1.out; omega
    case rel => exact ⟨(y726), ((wrap64 ((rd l0 x7_1) + x6_1)) / 16777216), (wrap64 (x7_1 + 1)), (by first | rfl | (simp; done) | (simp [*]; done)), (by first | rfl | (simp; done) | (simp [*]; done)), H', ⟨by have := HK1.out; omega⟩, ⟨by (with_reducible repeat (first | apply Kd.R_alloc | apply Kd.R_drewN | apply Kd.R_drew)); exact HO728.out⟩, ⟨pB_ HB.out⟩⟩
  rw [if_pos c13] at H
  have c13b0 : decide (x7_1 < (l1.length : Int)) = true := decide_eq_true c13
  clear c13
  by_cases c14 : x5_1.length < 17592186044416
  rotate_left
  · rw [if_neg c14] at H; exact absurd H (by simp)
  rw [if_pos c14] at H
  have LMc14 := Aside0.mk c14
  clear c14
  obtain ⟨y723, hy723⟩ : ∃ y_ : List Int, y_ = (x5_1 ++ [Go.bits .and .i64 (wrap64 ((wrap64 ((rd l0 x7_1) + x6_1)) + (rd l1 x7_1))) 16777215]) := ⟨_, rfl⟩
  first | rw [← hy723] at H | skip
  have Ny723 := Aside0.mk hy723
  clear hy723
  have H' := Aside0.mk H
  clear H
  have p721 : 0 ≤ (x7_1 : Int) := od_
  have q721 : x7_1 < (l0.length : Int) := od_
  obtain ⟨ad721, e721, hx721_0⟩ := Kd.at_int HR0.out x7_1 p721 q721
  cases e721
  replace hx721_0 := (HB.out.cell (World.block_lt_of_cell? w _ hx721_0)).trans hx721_0
  replace p721 := eq_true p721
  replace q721 := eq_true q721
  have p722 : 0 ≤ (x7_1 : Int) := od_
  have q722 : x7_1 < (l1.length : Int) := od_
  obtain ⟨ad722, e722, hx722_0⟩ := Kd.at_int HR1.out x7_1 p722 q722
  cases e722
  replace hx722_0 := (HB.out.cell (World.block_lt_of_cell? w _ hx722_0)).trans hx722_0
  replace p722 := eq_true p722
  replace q722 := eq_true q722
  go_wp2_with (first | ((with_reducible refine gate_builtin (b := .append) (xs := #[.tmp 43, .tmp 46]) rfl ?_); at_builtin; refine Kd.R_append (Kd.int .i64) (w0 := w) w.heap.size rfl (.tmp 43) (.tmp 46) 49 3 (.int .i64 0) 8 rfl Try.underlying49 info3 rfl (by decide) (by omega) u5 x5_1 (Go.bits .and .i64 (wrap64 ((wrap64 ((rd l0 x7_1) + x6_1)) + (rd l1 x7_1))) 16777215) [.int .i64 (Go.bits .and .i64 (wrap64 ((wrap64 ((rd l0 x7_1) + x6_1)) + (rd l1 x7_1))) 16777215)] (fun _ => True) (fun _ => False) rfl rfl ?aP (fun _ hk => hk.elim) ?aF ?aO ?aB ?aS ?aL ?_; (case aP => exact rfl); (case aB => exact (pB_ HB.out)); (case aF => exact (fun _ _ => trivial)); (case aO => exact (pR_ HO_5.out)); (case aS => exact (below_size (pB_ HB.out))); (case aL => have := LMc14.out; omega); intro v724 w15 ho hb hg hat; rw [← Ny723.out] at ho; have n0_ := Aside0.mk (hb); have n1_ := Aside0.mk (ho); clear HB; clear HO_5; have HB := n0_; have HO725 := n1_; clear n0_ n1_; clear ho hb hg hat))
  go_roundg k1
  case measure => have := HK1.out; omega
  case rel => exact ⟨(y723), ((wrap64 ((wrap64 ((rd l0 x7_1) + x6_1)) + (rd l1 x7_1))) / 16777216), (wrap64 (x7_1 + 1)), (by first | rfl | (simp; done) | (simp [*]; done)), (by first | rfl | (simp; done) | (simp [*]; done)), H', ⟨by have := HK1.out; omega⟩, ⟨by (with_reducible repeat (first | apply Kd.R_alloc | apply Kd.R_drewN | apply Kd.R_drew)); exact HO725.out⟩, ⟨pB_ HB.out⟩⟩

end Go.Proofs.Ytaaimkgpeilbbaa.F
