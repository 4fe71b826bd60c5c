-- Made for this seat by a program of this session (wip/fork, wip/slim.py). Lean checks it.
import Derived.Test.YtaaimkgpeilbbaaFx0
import Derived.Test.YtaaimkgpeilbbaaZD0
import Derived.Test.YtaaimkgpeilbbaaZD1
import Derived.Test.YtaaimkgpeilbbaaZD2
namespace Go.Proofs.Ytaaimkgpeilbbaa.F
open Go.RowKit Go.Proofs.YtaaimkgpeilbbaaW.PrintWords Go.Proofs.YtaaimkgpeilbbaaW.PrintLast Go.Proofs.YtaaimkgpeilbbaaW.PrintMore
attribute [local go_sem] max2_int min2_int max_two min_two max_three min_three max_four min_four   -- for this text's walks alone
set_option linter.unusedVariables false
set_option linter.unusedSimpArgs false

/-! ### spec_ReadGreat: function 37 -/
mutual
def spec_ReadGreat.j0 : Nat → ByteArray → Bool → Option (ByteArray × Bool)
  | 0, _, _ => none
  | k + 1, x0, x20 => if x20 = true then (some ((⟨#[]⟩ : ByteArray), false)) else (spec_ReadGreat.l0 k x0 (([] : List Int)) 0)
def spec_ReadGreat.l0 : Nat → ByteArray → List Int → Int → Option (ByteArray × Bool)
  | 0, _, _, _ => none
  | k + 1, x0, x4, x5 => if x5 < (x0.size : Int) then (if 0 ≤ x5 then (if (bt x0 x5) < 48 then (spec_ReadGreat.j2 k x0 x4 x5 true) else (spec_ReadGreat.j2 k x0 x4 x5 (decide ((bt x0 x5) > 57)))) else (none)) else ((spec_l02Out.f k x4).bind fun t783 => ((spec_GreatOk.f t783).bind fun t784 => (if t784 = true then (some (t783, true)) else (some ((⟨#[]⟩ : ByteArray), false)))))
def spec_ReadGreat.j2 : Nat → ByteArray → List Int → Int → Bool → Option (ByteArray × Bool)
  | 0, _, _, _, _ => none
  | k + 1, x0, x4, x5, x37 => if x37 = true then (some ((⟨#[]⟩ : ByteArray), false)) else ((spec_l02Mul.f k x4 (([10] : List Int))).bind fun t768 => (if 0 ≤ x5 then (if x5 < (x0.size : Int) then ((spec_l02Trim.f k (([wrap64 ((wrap64 (bt x0 x5)) - 48)] : List Int))).bind fun t774 => ((spec_l02Add.f k t768 t774).bind fun t777 => ((spec_l02Trim.f k t777).bind fun t780 => (spec_ReadGreat.l0 k x0 t780 (wrap64 (x5 + 1)))))) else (none)) else (none)))
end
def spec_ReadGreat.f (k : Nat) (a0 : ByteArray) : Option (ByteArray × Bool) := (spec_l01In.f (a0.size : Int) 1 400).bind fun t761 => (if t761 = true then (if (a0.size : Int) > 1 then (if 0 < (a0.size : Int) then (spec_ReadGreat.j0 k a0 ((bt a0 0) == 48)) else (none)) else (spec_ReadGreat.j0 k a0 false)) else (spec_ReadGreat.j0 k a0 true))
def spec_ReadGreat.T9 : Bool × List (List Nat × List Nat) := (true, [([], []), ([], []), ([0, 1], [0, 1]), ([], []), ([], []), ([3, 4], [3, 4]), ([5], [5]), ([6], [6]), ([7], [7]), ([8, 2], [8]), ([2, 9, 9], [2, 9]), ([10, 10], [10]), ([11, 11, 0, 1, 2, 3, 4, 5, 6, 7, 8, 9, 10, 11], [0, 11])])
def spec_ReadGreat.B9 : List Nat := [0, 0, 3, 0, 0, 24, 56, 120, 248, 511, 1023, 2047, 4095]
theorem spec_ReadGreat.tab9 : rtab .any (opsOf Try.f37 9) = spec_ReadGreat.T9 := by kernel_rfl
theorem spec_ReadGreat.bits9 : waitsOk spec_ReadGreat.T9.2 spec_ReadGreat.B9 = true := by kernel_rfl
set_option maxHeartbeats 8000000 in
set_option maxRecDepth 100000 in
theorem spec_ReadGreat.calls (k : Nat) (a0 : ByteArray) (r1 : ByteArray) (r2 : Bool) (w : World) (h : spec_ReadGreat.f k a0 = some (r1, r2)) :
    Calls Try.prog 37 #[.string a0] w fun e w' => e = .returned (.tuple #[.string r1, .bool r2]) ∧ Below w.heap.size w w' := by
  have HB := Aside0.mk (Below.refl w.heap.size w)
  have H : ((spec_l01In.f (a0.size : Int) 1 400).bind fun t761 => (if t761 = true then (if (a0.size : Int) > 1 then (if 0 < (a0.size : Int) then (spec_ReadGreat.j0 k a0 ((bt a0 0) == 48)) else (none)) else (spec_ReadGreat.j0 k a0 false)) else (spec_ReadGreat.j0 k a0 true))) = some (r1, r2) := h
  clear h
  have HC2 := Aside0.mk H
  clear H
  go_enter Try.func37, Try.ntmps37
  go_upto_region 1 with (fail)
  repeat (rw [addr_self]; generalize Addr.add _ _ = az_)
  go_cut [20] (fun v20 wc => ∃ (kq : Nat) (x20_1 : Bool), v20 = .bool x20_1 ∧ Aside0 (spec_ReadGreat.j0 kq a0 x20_1 = some (r1, r2)) ∧ Aside0 (kq ≤ k) ∧ Aside0 (Below w.heap.size w wc))
  case first =>
    have H := HC2.out
    clear HC2
    replace H := Option.bind_eq_some_iff.mp H
    obtain ⟨t761, A30, H⟩ := H
    have A3 := Aside0.mk A30
    clear A30
    by_cases c4 : t761 = true
    · subst c4
      have H1 : (if (a0.size : Int) > 1 then (if 0 < (a0.size : Int) then (spec_ReadGreat.j0 k a0 ((bt a0 0) == 48)) else (none)) else (spec_ReadGreat.j0 k a0 false)) = some (r1, r2) := by rw [if_pos rfl] at H; exact H
      clear H
      have H := H1
      clear H1
      by_cases c5 : (a0.size : Int) > 1
      rotate_left
      · rw [if_neg c5] at H
        have c5b0 : decide (1 < (a0.size : Int)) = false := decide_eq_false c5
        have c5b1 : decide (1 < a0.size) = false := decide_eq_false (by omega)
        clear c5
        (first | rw [c5b0] | (simp only [i64_w, i32_w]; rw [c5b0]) | rw [c5b1] | skip)
        have H' := Aside0.mk H
        clear H
        go_wp2_with (first | ((with_reducible refine gate_callee (f := 52) rfl ?_); refine gL_ 9 Try.func52 rfl #[.int .i64 (a0.size : Int), .int .i64 1, .int .i64 400] ?_; (with_reducible refine (spec_l01In.calls (a0.size : Int) 1 400 true _ A3.out).mono ?_); rintro e w' ⟨rfl, ⟨nd, rfl⟩⟩; refine ⟨_, rfl, ?_⟩))
        go_meet
        case rel => exact ⟨_, (false), (by first | rfl | (simp; done) | (simp [*]; done)), H', ⟨by first | omega | exact Nat.le_refl _⟩, ⟨pB_ HB.out⟩⟩
      rw [if_pos c5] at H
      have c5b0 : decide (1 < (a0.size : Int)) = true := decide_eq_true c5
      have c5b1 : decide (1 < a0.size) = true := decide_eq_true (by omega)
      clear c5
      (first | rw [c5b0] | (simp only [i64_w, i32_w]; rw [c5b0]) | rw [c5b1] | skip)
      by_cases c6 : 0 < (a0.size : Int)
      rotate_left
      · rw [if_neg c6] at H; exact absurd H (by simp)
      rw [if_pos c6] at H
      have c6b0 : decide (0 < (a0.size : Int)) = true := decide_eq_true c6
      have c6b1 : decide (0 < a0.size) = true := decide_eq_true (by omega)
      clear c6
      have H' := Aside0.mk H
      clear H
      go_wp2_with (first | ((with_reducible refine gate_callee (f := 52) rfl ?_); refine gL_ 9 Try.func52 rfl #[.int .i64 (a0.size : Int), .int .i64 1, .int .i64 400] ?_; (with_reducible refine (spec_l01In.calls (a0.size : Int) 1 400 true _ A3.out).mono ?_); rintro e w' ⟨rfl, ⟨nd, rfl⟩⟩; refine ⟨_, rfl, ?_⟩; have p7 : 0 ≤ (0 : Int) := (by omega); have q7 : 0 < a0.size := (by have : (0 : Int) < (a0.size : Int) := od_; omega); have hx7 : ∀ h : 0 < a0.size, ((a0[0]'h).toNat : Int) = bt a0 0 := bt_at a0 0; clear p7; have qi7 : (0 < (a0.size : Int)) = True := eq_true (od_); replace q7 := eq_true q7))
      go_meet
      case rel => exact ⟨_, (((bt a0 0) == 48)), (by first | rfl | (simp; done) | (simp [*]; done)), H', ⟨by first | omega | exact Nat.le_refl _⟩, ⟨pB_ HB.out⟩⟩
    · replace c4 := Bool.eq_false_iff.mpr c4
      subst c4
      have H1 : (spec_ReadGreat.j0 k a0 true) = some (r1, r2) := by rw [if_neg (show ¬ (false = true) by decide)] at H; exact H
      clear H
      have H := H1
      clear H1
      have H' := Aside0.mk H
      clear H
      go_wp2_with (first | ((with_reducible refine gate_callee (f := 52) rfl ?_); refine gL_ 9 Try.func52 rfl #[.int .i64 (a0.size : Int), .int .i64 1, .int .i64 400] ?_; (with_reducible refine (spec_l01In.calls (a0.size : Int) 1 400 false _ A3.out).mono ?_); rintro e w' ⟨rfl, ⟨nd, rfl⟩⟩; refine ⟨_, rfl, ?_⟩))
      go_meet
      case rel => exact ⟨_, (true), (by first | rfl | (simp; done) | (simp [*]; done)), H', ⟨by first | omega | exact Nat.le_refl _⟩, ⟨pB_ HB.out⟩⟩
  clear HC2
  try clear p2
  try clear c3
  try clear c4
  try clear c5
  try clear c5b0
  try clear c5b1
  try clear c6
  try clear c6b0
  try clear c6b1
  try clear p7
  try clear q7
  try clear hx7
  try clear qi7
  try clear p7
  try clear q7
  obtain ⟨kq, x20_1, rfl, HA, HJ1, HB⟩ := hcut
  rcases kq with _ | kj1
  · exact absurd HA.out (by simp [spec_ReadGreat.j0])
  have H := HA.out
  clear HA
  simp only [spec_ReadGreat.j0] at H
  by_cases c8 : x20_1 = true
  · subst c8
    have H1 : (some ((⟨#[]⟩ : ByteArray), false)) = some (r1, r2) := by rw [if_pos rfl] at H; exact H
    clear H
    have H := H1
    clear H1
    simp only [Option.some.injEq, Prod.mk.injEq] at H
    obtain ⟨rfl, rfl⟩ := H
    go_wp2
    go_ret2
    exact ⟨by first | rfl | (simp [errW_none, errW_some] <;> rfl) | (simp [*, errW_none, errW_some] <;> rfl), pB_ HB.out⟩
  · replace c8 := Bool.eq_false_iff.mpr c8
    subst c8
    have H1 : (spec_ReadGreat.l0 kj1 a0 (([] : List Int)) 0) = some (r1, r2) := by rw [if_neg (show ¬ (false = true) by decide)] at H; exact H
    clear H
    have H := H1
    clear H1
    obtain ⟨y762, hy762⟩ : ∃ y_ : List Int, y_ = (([] : List Int)) := ⟨_, rfl⟩
    replace H : (spec_ReadGreat.l0 kj1 a0 y762 0) = some (r1, r2) := by first | (rw [hy762]; with_reducible exact H) | (have H2_ := (Option.bind_some _ _).symm.trans H; rw [hy762]; with_reducible exact H2_) | (have H2_ := (Option.bind_some _ _).symm.trans H; with_reducible exact H2_) | with_reducible exact H | (rw [hy762]; exact H) | exact H
    have Ny762 := Aside0.mk hy762
    clear hy762
    have H' := Aside0.mk H
    clear H
    go_wp2_with (first | ((with_reducible refine gate_dst (N := 21) rfl ?_); (try (refine gate_guard (by rfl) ?_; dsimp only)); refine Kd.R_lit (Kd.int .i64) _ 3 ?hg (N := 21) ?hd (xs := ([] : List Int)) (inner := []) (ok := fun _ => True) (okp := fun _ => True) ?hr ?hp (fun _ hk => hk) trivial (Below.refl _ _) (Nat.le_refl _) (by simp) ?_; (case hd => rfl); (case hg => rfl); (case hr => first | (go_simp; done) | (go_simp; rfl)); (case hp => exact (Reps.none _ _)); intro v763 w9 ho10 hb hg_ hnew_; clear hg_ hnew_; (first | rw [← Ny762.out] at ho10 | (simp only [Int.reduceToNat] at ho10; rw [← Ny762.out] at ho10)); have HO764 := Aside0.mk (Kd.R_lower ho10 (below_size (pB_ HB.out))); replace HB := Aside0.mk (below_step (pB_ HB.out) hb); clear hb ho10))
    repeat (rw [addr_self]; generalize Addr.add _ _ = az_)
    go_loopg [4, 5] kj1 (fun kq v4 v5 w' => ∃ (x4_2 : List Int) (x5_2 : Int), v5 = .int .i64 x5_2 ∧ Aside0 (spec_ReadGreat.l0 kq a0 x4_2 x5_2 = some (r1, r2)) ∧ Aside0 (kq ≤ kj1) ∧ Aside0 (Kd.V (Kd.int .i64) 3 w' w.heap.size (fun _ => True) v4 x4_2) ∧ Aside0 (Below w.heap.size w w'))
    case atStart => exact ⟨(y762), (0), (by first | rfl | (simp; done) | (simp [*]; done)), H', ⟨Nat.le_refl _⟩, ⟨Kd.R_V (pR_ HO764.out)⟩, ⟨pB_ HB.out⟩⟩
    clear H'
    try clear p2
    try clear c3
    try clear c4
    try clear c5
    try clear c5b0
    try clear c5b1
    try clear c6
    try clear c6b0
    try clear c6b1
    try clear p7
    try clear q7
    try clear hx7
    try clear qi7
    try clear c8
    try clear p2
    try clear p7
    try clear q7
    obtain ⟨x4_2, x5_2, rfl, HA, HK2, HO_4, HB⟩ := hrel
    rcases gk with _ | k2
    · exact absurd HA.out (by simp [spec_ReadGreat.l0])
    have H := HA.out
    clear HA
    simp only [spec_ReadGreat.l0] at H
    by_cases c11 : x5_2 < (a0.size : Int)
    rotate_left
    · rw [if_neg c11] at H
      have c11b0 : decide (x5_2 < (a0.size : Int)) = false := decide_eq_false c11
      clear c11
      replace H := Option.bind_eq_some_iff.mp H
      obtain ⟨t783, A410, H⟩ := H
      have A41 := Aside0.mk A410
      clear A410
      replace H := Option.bind_eq_some_iff.mp H
      obtain ⟨t784, A420, H⟩ := H
      have A42 := Aside0.mk A420
      clear A420
      by_cases c43 : t784 = true
      · subst c43
        have H1 : (some (t783, true)) = some (r1, r2) := by rw [if_pos rfl] at H; exact H
        clear H
        have H := H1
        clear H1
        simp only [Option.some.injEq, Prod.mk.injEq] at H
        obtain ⟨rfl, rfl⟩ := H
        obtain ⟨Ao44, co44, eo44⟩ := Kd.V_slice HO_4.out
        subst eo44
        go_wp2_with (first | ((with_reducible refine gate_callee (f := 67) rfl ?_); refine gL_ 51 Try.func67 rfl #[.slice Ao44 x4_2.length co44] ?_; (with_reducible refine (spec_l02Out.calls k2 _ _ x4_2 t783 _ ?side1 ?side2 A41.out).mono ?_); (case side1 => exact pC_ (Kd.V_reads' HO_4.out).2.2); (case side2 => exact (Kd.V_reads' HO_4.out).2.1); rintro e w45 ⟨rfl, hb⟩; refine ⟨_, rfl, ?_⟩; replace HO_4 := Aside0.mk (Kd.V_below (pV_ HO_4.out) hb); replace HB := Aside0.mk (below_step (pB_ HB.out) hb); clear hb) | ((with_reducible refine gate_callee (f := 39) rfl ?_); refine gL_ 53 Try.func39 rfl #[.string t783] ?_; (with_reducible refine (spec_GreatOk.calls t783 true _ A42.out).mono ?_); rintro e w' ⟨rfl, ⟨nd, rfl⟩⟩; refine ⟨_, rfl, ?_⟩))
        go_ret2
        exact ⟨by first | rfl | (simp [errW_none, errW_some] <;> rfl) | (simp [*, errW_none, errW_some] <;> rfl), pB_ HB.out⟩
      · replace c43 := Bool.eq_false_iff.mpr c43
        subst c43
        have H1 : (some ((⟨#[]⟩ : ByteArray), false)) = some (r1, r2) := by rw [if_neg (show ¬ (false = true) by decide)] at H; exact H
        clear H
        have H := H1
        clear H1
        simp only [Option.some.injEq, Prod.mk.injEq] at H
        obtain ⟨rfl, rfl⟩ := H
        obtain ⟨Ao46, co46, eo46⟩ := Kd.V_slice HO_4.out
        subst eo46
        go_wp2_with (first | ((with_reducible refine gate_callee (f := 67) rfl ?_); refine gL_ 51 Try.func67 rfl #[.slice Ao46 x4_2.length co46] ?_; (with_reducible refine (spec_l02Out.calls k2 _ _ x4_2 t783 _ ?side1 ?side2 A41.out).mono ?_); (case side1 => exact pC_ (Kd.V_reads' HO_4.out).2.2); (case side2 => exact (Kd.V_reads' HO_4.out).2.1); rintro e w47 ⟨rfl, hb⟩; refine ⟨_, rfl, ?_⟩; replace HO_4 := Aside0.mk (Kd.V_below (pV_ HO_4.out) hb); replace HB := Aside0.mk (below_step (pB_ HB.out) hb); clear hb) | ((with_reducible refine gate_callee (f := 39) rfl ?_); refine gL_ 53 Try.func39 rfl #[.string t783] ?_; (with_reducible refine (spec_GreatOk.calls t783 false _ A42.out).mono ?_); rintro e w' ⟨rfl, ⟨nd, rfl⟩⟩; refine ⟨_, rfl, ?_⟩))
        go_ret2
        exact ⟨by first | rfl | (simp [errW_none, errW_some] <;> rfl) | (simp [*, errW_none, errW_some] <;> rfl), pB_ HB.out⟩

    rw [if_pos c11] at H
    have c11b0 : decide (x5_2 < (a0.size : Int)) = true := decide_eq_true c11
    clear c11
    have HC12 := Aside0.mk H
    clear H
    go_upto_region 7 with (fail)
    repeat (rw [addr_self]; generalize Addr.add _ _ = az_)
    go_cut [37] (fun v37 wc => ∃ (kq : Nat) (x37_11 : Bool), v37 = .bool x37_11 ∧ Aside0 (spec_ReadGreat.j2 kq a0 x4_2 x5_2 x37_11 = some (r1, r2)) ∧ Aside0 (kq ≤ k2) ∧ Aside0 (Kd.V (Kd.int .i64) 3 wc w.heap.size (fun _ => True) u4 x4_2) ∧ Aside0 (Below w.heap.size w wc))
    case first =>
      have H := HC12.out
      clear HC12
      by_cases c13 : 0 ≤ x5_2
      rotate_left
      · rw [if_neg c13] at H; exact absurd H (by simp)
      rw [if_pos c13] at H
      have c13b0 : decide (0 ≤ x5_2) = true := decide_eq_true c13
      clear c13
      (first | rw [c13b0] | (simp only [i64_w, i32_w]; rw [c13b0]) | rw [c13b1] | skip)
      by_cases c15 : (bt a0 x5_2) < 48
      · rw [if_pos c15] at H
        have c15b0 : decide ((bt a0 x5_2) < 48) = true := decide_eq_true c15
        clear c15
        have H' := Aside0.mk H
        clear H
        have p14 : 0 ≤ (x5_2 : Int) := od_
        have q14 : x5_2 < (a0.size : Int) := od_
        have hx14 := bt_at a0 x5_2
        replace p14 := eq_true p14
        replace q14 := eq_true q14
        go_wp2
        go_meet
        case rel => exact ⟨_, (true), (by first | rfl | (simp; done) | (simp [*]; done)), H', ⟨by have := HJ1.out; have := HK2.out; first | omega | exact Nat.le_refl _⟩, ⟨by (with_reducible repeat (first | apply Kd.V_alloc | apply Kd.V_drewN | apply Kd.V_drew)); exact HO_4.out⟩, ⟨pB_ HB.out⟩⟩
      rw [if_neg c15] at H
      have c15b0 : decide ((bt a0 x5_2) < 48) = false := decide_eq_false c15
      clear c15
      have H' := Aside0.mk H
      clear H
      have p14 : 0 ≤ (x5_2 : Int) := od_
      have q14 : x5_2 < (a0.size : Int) := od_
      have hx14 := bt_at a0 x5_2
      replace p14 := eq_true p14
      replace q14 := eq_true q14
      have p16 : 0 ≤ (x5_2 : Int) := od_
      have q16 : x5_2 < (a0.size : Int) := od_
      have hx16 := bt_at a0 x5_2
      replace p16 := eq_true p16
      replace q16 := eq_true q16
      go_wp2
      go_meet
      case rel => exact ⟨_, (decide ((bt a0 x5_2) > 57)), (by first | rfl | (simp; done) | (simp [*]; done)), H', ⟨by have := HJ1.out; have := HK2.out; first | omega | exact Nat.le_refl _⟩, ⟨by (with_reducible repeat (first | apply Kd.V_alloc | apply Kd.V_drewN | apply Kd.V_drew)); exact HO_4.out⟩, ⟨pB_ HB.out⟩⟩
    clear HC12
    try clear c1
    try clear p1
    try clear q1
    try clear hx1
    try clear p2
    try clear c3
    try clear c4
    try clear c5
    try clear c5b0
    try clear c5b1
    try clear c6
    try clear c6b0
    try clear c6b1
    try clear p7
    try clear q7
    try clear hx7
    try clear qi7
    try clear c8
    try clear c11
    try clear c11b0
    try clear c13
    try clear c13b0
    try clear c13b1
    try clear p14
    try clear q14
    try clear hx14
    try clear c15
    try clear c15b0
    try clear p16
    try clear q16
    try clear hx16
    try clear p14
    try clear p16
    try clear p2
    try clear p7
    try clear q14
    try clear q16
    try clear q7
    obtain ⟨kq, x37_11, rfl, HA, HJ11, HO_4, HB⟩ := hcut
    rcases kq with _ | kj11
    · exact absurd HA.out (by simp [spec_ReadGreat.j2])
    have H := HA.out
    clear HA
    simp only [spec_ReadGreat.j2] at H
    by_cases c17 : x37_11 = true
    · subst c17
      have H1 : (some ((⟨#[]⟩ : ByteArray), false)) = some (r1, r2) := by rw [if_pos rfl] at H; exact H
      clear H
      have H := H1
      clear H1
      simp only [Option.some.injEq, Prod.mk.injEq] at H
      obtain ⟨rfl, rfl⟩ := H
      go_wp2
      go_ret2
      exact ⟨by first | rfl | (simp [errW_none, errW_some] <;> rfl) | (simp [*, errW_none, errW_some] <;> rfl), pB_ HB.out⟩
    · replace c17 := Bool.eq_false_iff.mpr c17
      subst c17
      have H1 : ((spec_l02Mul.f kj11 x4_2 (([10] : List Int))).bind fun t768 => (if 0 ≤ x5_2 then (if x5_2 < (a0.size : Int) then ((spec_l02Trim.f kj11 (([wrap64 ((wrap64 (bt a0 x5_2)) - 48)] : List Int))).bind fun t774 => ((spec_l02Add.f kj11 t768 t774).bind fun t777 => ((spec_l02Trim.f kj11 t777).bind fun t780 => (spec_ReadGreat.l0 kj11 a0 t780 (wrap64 (x5_2 + 1)))))) else (none)) else (none))) = some (r1, r2) := by rw [if_neg (show ¬ (false = true) by decide)] at H; exact H
      clear H
      have H := H1
      clear H1
      obtain ⟨y765, hy765⟩ : ∃ y_ : List Int, y_ = (([10] : List Int)) := ⟨_, rfl⟩
      replace H : ((spec_l02Mul.f kj11 x4_2 y765).bind fun t768 => (if 0 ≤ x5_2 then (if x5_2 < (a0.size : Int) then ((spec_l02Trim.f kj11 (([wrap64 ((wrap64 (bt a0 x5_2)) - 48)] : List Int))).bind fun t774 => ((spec_l02Add.f kj11 t768 t774).bind fun t777 => ((spec_l02Trim.f kj11 t777).bind fun t780 => (spec_ReadGreat.l0 kj11 a0 t780 (wrap64 (x5_2 + 1)))))) else (none)) else (none))) = some (r1, r2) := by first | (rw [hy765]; with_reducible exact H) | (have H2_ := (Option.bind_some _ _).symm.trans H; rw [hy765]; with_reducible exact H2_) | (have H2_ := (Option.bind_some _ _).symm.trans H; with_reducible exact H2_) | with_reducible exact H | (rw [hy765]; exact H) | exact H
      have Ny765 := Aside0.mk hy765
      clear hy765
      replace H := Option.bind_eq_some_iff.mp H
      obtain ⟨t768, A180, H⟩ := H
      have A18 := Aside0.mk A180
      clear A180
      by_cases c19 : 0 ≤ x5_2
      rotate_left
      · rw [if_neg c19] at H; exact absurd H (by simp)
      rw [if_pos c19] at H
      have c19b0 : decide (0 ≤ x5_2) = true := decide_eq_true c19
      clear c19
      by_cases c20 : x5_2 < (a0.size : Int)
      rotate_left
      · rw [if_neg c20] at H; exact absurd H (by simp)
      rw [if_pos c20] at H
      have c20b0 : decide (x5_2 < (a0.size : Int)) = true := decide_eq_true c20
      clear c20
      obtain ⟨y771, hy771⟩ : ∃ y_ : List Int, y_ = (([wrap64 ((wrap64 (bt a0 x5_2)) - 48)] : List Int)) := ⟨_, rfl⟩
      replace H : ((spec_l02Trim.f kj11 y771).bind fun t774 => ((spec_l02Add.f kj11 t768 t774).bind fun t777 => ((spec_l02Trim.f kj11 t777).bind fun t780 => (spec_ReadGreat.l0 kj11 a0 t780 (wrap64 (x5_2 + 1)))))) = some (r1, r2) := by first | (rw [hy771]; with_reducible exact H) | (have H2_ := (Option.bind_some _ _).symm.trans H; rw [hy771]; with_reducible exact H2_) | (have H2_ := (Option.bind_some _ _).symm.trans H; with_reducible exact H2_) | with_reducible exact H | (rw [hy771]; exact H) | exact H
      have Ny771 := Aside0.mk hy771
      clear hy771
      replace H := Option.bind_eq_some_iff.mp H
      obtain ⟨t774, A220, H⟩ := H
      have A22 := Aside0.mk A220
      clear A220
      replace H := Option.bind_eq_some_iff.mp H
      obtain ⟨t777, A230, H⟩ := H
      have A23 := Aside0.mk A230
      clear A230
      replace H := Option.bind_eq_some_iff.mp H
      obtain ⟨t780, A240, H⟩ := H
      have A24 := Aside0.mk A240
      clear A240
      have H' := Aside0.mk H
      clear H
      obtain ⟨Ao25, co25, eo25⟩ := Kd.V_slice HO_4.out
      subst eo25
      try go_wp2
      have n0_ := Aside0.mk (Kd.V_drew HO_4.out)
      have n1_ := Aside0.mk (below_drew1 HB.out)
      clear HO_4
      clear HB
      have HO_4 := n0_
      have HB := n1_
      clear n0_ n1_
      have p21 : 0 ≤ (x5_2 : Int) := od_
      have q21 : x5_2 < (a0.size : Int) := od_
      have hx21 := bt_at a0 x5_2
      replace p21 := eq_true p21
      replace q21 := eq_true q21
      refine start_ (n := 13) (S := fun w' => True) (ds := []) #[false, false, false, false, false, false, false, false, false, false, false, false, false] (by kernel_rfl) rfl rfl trivial (fun hHeld => ?_); refine with_tabW spec_ReadGreat.tab9 spec_ReadGreat.bits9 (fun HT_ HW_ => ?_)
      generalize wc.drew = w26 at HO_4 HB hHeld ⊢
      refine pu_ 0 38 HT_.out ?_
      refine pu_ 3 41 HT_.out ?_
      refine pu_ 4 42 HT_.out ?_
      refine take_ (i := 5) (N := some 43) (v := ?_) (a' := ?_) #[true, false, false, true, true, true, false, false, false, false, false, false, false] rfl rfl (take_ofW HT_.out HW_.out (by kernel_rfl)) (fun _ _ _ h => h) (Or.inl ⟨by rfl, ?_⟩) hHeld ?_ ?_
      rotate_left
      · intro w' _
        go_simp
        with_reducible rfl
      rotate_left
      · simp only [Act.put, List.setIfInBounds_toArray, List.set_cons_zero, List.set_cons_succ, i64_w, i32_w]
        rfl
      refine pu_ 6 44 HT_.out ?_
      refine pu_ 7 45 HT_.out ?_
      refine join_ (σ := Value × Value × Value) 4 #[true, true, true, true, true, true, true, true, true, false, false, false, false] (fun s_ => [(39, s_.1), (40, s_.2.1), (46, s_.2.2)]) (fun s_ w' => (Kd.R (Kd.int .i64) 3 w' w.heap.size (fun k_ => some k_ ≠ (s_.2.2 : Value).ownBlock) s_.1 y765) ∧ (Kd.V (Kd.int .i64) 3 w' w.heap.size (fun k_ => some k_ ≠ (s_.1 : Value).ownBlock ∧ some k_ ≠ (s_.2.2 : Value).ownBlock) s_.2.1 t768) ∧ (Kd.R (Kd.int .i64) 3 w' w.heap.size (fun k_ => some k_ ≠ (s_.1 : Value).ownBlock) s_.2.2 y771) ∧ (Kd.V (Kd.int .i64) 3 w' w.heap.size (fun k_ => some k_ ≠ (s_.1 : Value).ownBlock ∧ some k_ ≠ (s_.2.2 : Value).ownBlock) (.slice Ao25 x4_2.length co25) x4_2) ∧ (Below w.heap.size w w')) ?_ ?_
      rotate_left
      · intro hCont
        refine two_ (i := 1) (j := 8) (Ni := some 39) (Nj := some 46) #[true, true, false, true, true, true, true, true, false, false, false, false, false] #[true, false, false, true, true, true, true, true, true, false, false, false, false] rfl rfl rfl rfl (two_of HT_.out (by kernel_rfl)) (by decide) (by decide) (fun K hK => ?_) (fun K hK => ?_)
        · skip
          refine Kd.R_lit_step (Kd.int .i64) _ 3 ?hg (N := 39) ?hd (xs := ([10] : List Int)) (inner := [.int .i64 10]) (ok := fun _ => True) (okp := fun _ => True) ?hr ?hp (fun _ hk => hk) trivial (Below.refl _ _) (Nat.le_refl _) (by simp) ?_; (case hd => rfl); (case hg => rfl); (case hr => first | (go_simp; done) | (go_simp; rfl)); (case hp => exact (Reps.one (show Kd.M (Kd.int .i64) _ _ _ 10 [.int .i64 10] from rfl) (Reps.none _ _)))
          intro v766 w27 ho28 hb hg_ hnew_
          clear hg_ hnew_
          (first | rw [← Ny765.out] at ho28 | (simp only [Int.reduceToNat] at ho28; rw [← Ny765.out] at ho28))
          have n0_ := Aside0.mk (Kd.V_elder' (pV_ HO_4.out) (Kd.R_base ho28) hb)
          have n1_ := Aside0.mk (Kd.R_lower ho28 (below_size (pB_ HB.out)))
          have n2_ := Aside0.mk (below_step (pB_ HB.out) hb)
          clear HO_4
          clear HB
          have HO_4 := n0_
          have HO767 := n1_
          have HB := n2_
          clear n0_ n1_ n2_
          clear hb ho28
          obtain ⟨Ao29, co29, eo29⟩ := Kd.R_slice HO767.out
          (first | subst eo29 | (injection eo29 with f1_ f2_ f3_; have f4_ := f1_.symm; have f5_ := f3_.symm; clear f1_ f2_ f3_; subst f4_; subst f5_))
          refine hK.out _ _ trivial (fun hHeld => ?_)
          clear hK K
          refine norm_ (a' := ?_) ?_ ?_
          rotate_left
          · show Act.put _ (some 39) _ = _
            simp only [Act.put, List.setIfInBounds_toArray, List.set_cons_zero, List.set_cons_succ, i64_w, i32_w]
            rfl
          refine two_ (i := 2) (j := 8) (Ni := some 40) (Nj := some 46) #[true, true, true, true, true, true, true, true, false, false, false, false, false] #[true, true, false, true, true, true, true, true, true, false, false, false, false] rfl rfl rfl rfl (two_of HT_.out (by kernel_rfl)) (by decide) (by decide) (fun K hK => ?_) (fun K hK => ?_)
          · skip
            refine goes_ Try.func66 (by kernel_rfl) rfl #[.slice Ao25 x4_2.length co25, .slice Ao29 y765.length co29] (by rfl) rfl rfl (by (try simp only [List.map_toArray, List.map_cons, List.map_nil]); first | done | rfl | (simp only [List.length_drop, List.length_take]; rfl)) ?_
            with_reducible refine (spec_l02Mul.calls kj11 _ _ x4_2 _ _ y765 t768 _ ?side1 ?side2 ?side3 ?side4 A18.out).mono ?_
            (case side1 => exact pC_ (Kd.V_reads' HO_4.out).2.2)
            (case side2 => exact (Kd.V_reads' HO_4.out).2.1)
            (case side3 => exact pC_ (Kd.R_reads' HO767.out).2.2)
            (case side4 => exact (Kd.R_reads' HO767.out).2.1)
            rintro e w30 ⟨v769, rfl, ho0, hb⟩
            refine ⟨_, rfl, ?_⟩
            have n0_ := Aside0.mk (Kd.V_below (pV_ HO_4.out) hb)
            have n1_ := Aside0.mk (Kd.R_below (pR_ HO767.out) hb)
            have n2_ := Aside0.mk (Kd.V_lower (Kd.V_mono (ok' := fun k_ => some k_ ≠ (.slice Ao29 y765.length co29 : Value).ownBlock) ho0 (fun k_ hk_ => (Kd.fresh' (Kd.R_lt (pR_ HO767.out)) k_ hk_))) (below_size (pB_ HB.out)))
            have n3_ := Aside0.mk (below_step (pB_ HB.out) hb)
            clear HO_4
            clear HO767
            clear HB
            have HO_4 := n0_
            have HO767 := n1_
            have HO770 := n2_
            have HB := n3_
            clear n0_ n1_ n2_ n3_
            (try clear hb)
            (try clear hb2)
            (try clear hk)
            (try clear hi)
            (try clear ho0)
            refine hK.out _ _ trivial (fun hHeld => ?_)
            clear hK K
            refine norm_ (a' := ?_) ?_ ?_
            rotate_left
            · show Act.put _ (some 40) _ = _
              simp only [Act.put, List.setIfInBounds_toArray, List.set_cons_zero, List.set_cons_succ, i64_w, i32_w]
              rfl
            refine one_ (i := 8) (N := some 46) #[true, true, true, true, true, true, true, true, true, false, false, false, false] rfl rfl (one_of HT_.out (by kernel_rfl)) (by decide) (fun K hK => ?_)
            refine Kd.R_lit_step (Kd.int .i64) _ 3 ?hg (N := 46) ?hd (xs := ([wrap64 ((wrap64 (bt a0 x5_2)) - 48)] : List Int)) (inner := [.int .i64 (wrap64 ((wrap64 (bt a0 x5_2)) - 48))]) (ok := fun _ => True) (okp := fun _ => True) ?hr ?hp (fun _ hk => hk) trivial (Below.refl _ _) (Nat.le_refl _) (by simp) ?_; (case hd => rfl); (case hg => rfl); (case hr => first | (go_simp; done) | (go_simp; rfl)); (case hp => exact (Reps.one (show Kd.M (Kd.int .i64) _ _ _ (wrap64 ((wrap64 (bt a0 x5_2)) - 48)) [.int .i64 (wrap64 ((wrap64 (bt a0 x5_2)) - 48))] from rfl) (Reps.none _ _)))
            intro v772 w31 ho32 hb hg_ hnew_
            clear hg_ hnew_
            (first | rw [← Ny771.out] at ho32 | (simp only [Int.reduceToNat] at ho32; rw [← Ny771.out] at ho32))
            have n0_ := Aside0.mk (Kd.V_elder' (pV_ HO_4.out) (Kd.R_base ho32) hb)
            have n1_ := Aside0.mk (Kd.R_elder' (pR_ HO767.out) (Kd.R_base ho32) hb)
            have n2_ := Aside0.mk (Kd.V_elder' (pV_ HO770.out) (Kd.R_base ho32) hb)
            have n3_ := Aside0.mk (Kd.R_lower (Kd.R_new' ho32 (Kd.R_lt (pR_ HO767.out))) (below_size (pB_ HB.out)))
            have n4_ := Aside0.mk (below_step (pB_ HB.out) hb)
            clear HO_4
            clear HO767
            clear HO770
            clear HB
            have HO_4 := n0_
            have HO767 := n1_
            have HO770 := n2_
            have HO773 := n3_
            have HB := n4_
            clear n0_ n1_ n2_ n3_ n4_
            clear hb ho32
            refine hK.out _ _ trivial (fun hHeld => ?_)
            clear hK K
            refine norm_ (a' := ?_) ?_ ?_
            rotate_left
            · show Act.put _ (some 46) _ = _
              simp only [Act.put, List.setIfInBounds_toArray, List.set_cons_zero, List.set_cons_succ, i64_w, i32_w]
              rfl
            exact norm_ (by simp only [putAll, Act.put, List.setIfInBounds_toArray, List.set_cons_zero, List.set_cons_succ]) (hCont (.slice Ao29 y765.length co29, v769, v772) _ ⟨(pR_ (Kd.R_mono HO767.out (fun _ hk => hk.2))), (pV_ HO770.out), (pR_ (Kd.R_mono HO773.out (fun _ hk => hk.2))), (pV_ (Kd.V_mono HO_4.out (fun _ hk => ⟨hk.1.2, hk.2⟩))), (pB_ HB.out)⟩)
          · skip
            refine Kd.R_lit_step (Kd.int .i64) _ 3 ?hg (N := 46) ?hd (xs := ([wrap64 ((wrap64 (bt a0 x5_2)) - 48)] : List Int)) (inner := [.int .i64 (wrap64 ((wrap64 (bt a0 x5_2)) - 48))]) (ok := fun _ => True) (okp := fun _ => True) ?hr ?hp (fun _ hk => hk) trivial (Below.refl _ _) (Nat.le_refl _) (by simp) ?_; (case hd => rfl); (case hg => rfl); (case hr => first | (go_simp; done) | (go_simp; rfl)); (case hp => exact (Reps.one (show Kd.M (Kd.int .i64) _ _ _ (wrap64 ((wrap64 (bt a0 x5_2)) - 48)) [.int .i64 (wrap64 ((wrap64 (bt a0 x5_2)) - 48))] from rfl) (Reps.none _ _)))
            intro v772 w29 ho30 hb hg_ hnew_
            clear hg_ hnew_
            (first | rw [← Ny771.out] at ho30 | (simp only [Int.reduceToNat] at ho30; rw [← Ny771.out] at ho30))
            have n0_ := Aside0.mk (Kd.V_elder' (pV_ HO_4.out) (Kd.R_base ho30) hb)
            have n1_ := Aside0.mk (Kd.R_elder' (pR_ HO767.out) (Kd.R_base ho30) hb)
            have n2_ := Aside0.mk (Kd.R_lower (Kd.R_new' ho30 (Kd.R_lt (pR_ HO767.out))) (below_size (pB_ HB.out)))
            have n3_ := Aside0.mk (below_step (pB_ HB.out) hb)
            clear HO_4
            clear HO767
            clear HB
            have HO_4 := n0_
            have HO767 := n1_
            have HO773 := n2_
            have HB := n3_
            clear n0_ n1_ n2_ n3_
            clear hb ho30
            obtain ⟨Ao31, co31, eo31⟩ := Kd.R_slice HO767.out
            (first | subst eo31 | (injection eo31 with f1_ f2_ f3_; have f4_ := f1_.symm; have f5_ := f3_.symm; clear f1_ f2_ f3_; subst f4_; subst f5_))
            refine hK.out _ _ trivial (fun hHeld => ?_)
            clear hK K
            refine norm_ (a' := ?_) ?_ ?_
            rotate_left
            · show Act.put _ (some 46) _ = _
              simp only [Act.put, List.setIfInBounds_toArray, List.set_cons_zero, List.set_cons_succ, i64_w, i32_w]
              rfl
            refine one_ (i := 2) (N := some 40) #[true, true, true, true, true, true, true, true, true, false, false, false, false] rfl rfl (one_of HT_.out (by kernel_rfl)) (by decide) (fun K hK => ?_)
            refine goes_ Try.func66 (by kernel_rfl) rfl #[.slice Ao25 x4_2.length co25, .slice Ao31 y765.length co31] (by rfl) rfl rfl (by (try simp only [List.map_toArray, List.map_cons, List.map_nil]); first | done | rfl | (simp only [List.length_drop, List.length_take]; rfl)) ?_
            with_reducible refine (spec_l02Mul.calls kj11 _ _ x4_2 _ _ y765 t768 _ ?side1 ?side2 ?side3 ?side4 A18.out).mono ?_
            (case side1 => exact pC_ (Kd.V_reads' HO_4.out).2.2)
            (case side2 => exact (Kd.V_reads' HO_4.out).2.1)
            (case side3 => exact pC_ (Kd.R_reads' HO767.out).2.2)
            (case side4 => exact (Kd.R_reads' HO767.out).2.1)
            rintro e w32 ⟨v769, rfl, ho0, hb⟩
            refine ⟨_, rfl, ?_⟩
            have n0_ := Aside0.mk (Kd.V_below (pV_ HO_4.out) hb)
            have n1_ := Aside0.mk (Kd.R_below (pR_ HO767.out) hb)
            have n2_ := Aside0.mk (Kd.R_below (pR_ HO773.out) hb)
            have n3_ := Aside0.mk (Kd.V_lower (Kd.V_mono (ok' := fun k_ => some k_ ≠ (.slice Ao31 y765.length co31 : Value).ownBlock ∧ some k_ ≠ (v772 : Value).ownBlock) ho0 (fun k_ hk_ => ⟨(Kd.fresh' (Kd.R_lt (pR_ HO767.out)) k_ hk_), (Kd.fresh' (Kd.R_lt (pR_ HO773.out)) k_ hk_)⟩)) (below_size (pB_ HB.out)))
            have n4_ := Aside0.mk (below_step (pB_ HB.out) hb)
            clear HO_4
            clear HO767
            clear HO773
            clear HB
            have HO_4 := n0_
            have HO767 := n1_
            have HO773 := n2_
            have HO770 := n3_
            have HB := n4_
            clear n0_ n1_ n2_ n3_ n4_
            (try clear hb)
            (try clear hb2)
            (try clear hk)
            (try clear hi)
            (try clear ho0)
            refine hK.out _ _ trivial (fun hHeld => ?_)
            clear hK K
            refine norm_ (a' := ?_) ?_ ?_
            rotate_left
            · show Act.put _ (some 40) _ = _
              simp only [Act.put, List.setIfInBounds_toArray, List.set_cons_zero, List.set_cons_succ, i64_w, i32_w]
              rfl
            exact norm_ (by simp only [putAll, Act.put, List.setIfInBounds_toArray, List.set_cons_zero, List.set_cons_succ]) (hCont (.slice Ao31 y765.length co31, v769, v772) _ ⟨(pR_ (Kd.R_mono HO767.out (fun _ hk => hk.2))), (pV_ HO770.out), (pR_ (Kd.R_mono HO773.out (fun _ hk => hk.2))), (pV_ (Kd.V_mono HO_4.out (fun _ hk => ⟨hk.1.2, hk.2⟩))), (pB_ HB.out)⟩)
        · skip
          refine Kd.R_lit_step (Kd.int .i64) _ 3 ?hg (N := 46) ?hd (xs := ([wrap64 ((wrap64 (bt a0 x5_2)) - 48)] : List Int)) (inner := [.int .i64 (wrap64 ((wrap64 (bt a0 x5_2)) - 48))]) (ok := fun _ => True) (okp := fun _ => True) ?hr ?hp (fun _ hk => hk) trivial (Below.refl _ _) (Nat.le_refl _) (by simp) ?_; (case hd => rfl); (case hg => rfl); (case hr => first | (go_simp; done) | (go_simp; rfl)); (case hp => exact (Reps.one (show Kd.M (Kd.int .i64) _ _ _ (wrap64 ((wrap64 (bt a0 x5_2)) - 48)) [.int .i64 (wrap64 ((wrap64 (bt a0 x5_2)) - 48))] from rfl) (Reps.none _ _)))
          intro v772 w27 ho28 hb hg_ hnew_
          clear hg_ hnew_
          (first | rw [← Ny771.out] at ho28 | (simp only [Int.reduceToNat] at ho28; rw [← Ny771.out] at ho28))
          have n0_ := Aside0.mk (Kd.V_elder' (pV_ HO_4.out) (Kd.R_base ho28) hb)
          have n1_ := Aside0.mk (Kd.R_lower ho28 (below_size (pB_ HB.out)))
          have n2_ := Aside0.mk (below_step (pB_ HB.out) hb)
          clear HO_4
          clear HB
          have HO_4 := n0_
          have HO773 := n1_
          have HB := n2_
          clear n0_ n1_ n2_
          clear hb ho28
          refine hK.out _ _ trivial (fun hHeld => ?_)
          clear hK K
          refine norm_ (a' := ?_) ?_ ?_
          rotate_left
          · show Act.put _ (some 46) _ = _
            simp only [Act.put, List.setIfInBounds_toArray, List.set_cons_zero, List.set_cons_succ, i64_w, i32_w]
            rfl
          refine one_ (i := 1) (N := some 39) #[true, true, false, true, true, true, true, true, true, false, false, false, false] rfl rfl (one_of HT_.out (by kernel_rfl)) (by decide) (fun K hK => ?_)
          refine Kd.R_lit_step (Kd.int .i64) _ 3 ?hg (N := 39) ?hd (xs := ([10] : List Int)) (inner := [.int .i64 10]) (ok := fun _ => True) (okp := fun _ => True) ?hr ?hp (fun _ hk => hk) trivial (Below.refl _ _) (Nat.le_refl _) (by simp) ?_; (case hd => rfl); (case hg => rfl); (case hr => first | (go_simp; done) | (go_simp; rfl)); (case hp => exact (Reps.one (show Kd.M (Kd.int .i64) _ _ _ 10 [.int .i64 10] from rfl) (Reps.none _ _)))
          intro v766 w29 ho30 hb hg_ hnew_
          clear hg_ hnew_
          (first | rw [← Ny765.out] at ho30 | (simp only [Int.reduceToNat] at ho30; rw [← Ny765.out] at ho30))
          have n0_ := Aside0.mk (Kd.V_elder' (pV_ HO_4.out) (Kd.R_base ho30) hb)
          have n1_ := Aside0.mk (Kd.R_elder' (pR_ HO773.out) (Kd.R_base ho30) hb)
          have n2_ := Aside0.mk (Kd.R_lower (Kd.R_new' ho30 (Kd.R_lt (pR_ HO773.out))) (below_size (pB_ HB.out)))
          have n3_ := Aside0.mk (below_step (pB_ HB.out) hb)
          clear HO_4
          clear HO773
          clear HB
          have HO_4 := n0_
          have HO773 := n1_
          have HO767 := n2_
          have HB := n3_
          clear n0_ n1_ n2_ n3_
          clear hb ho30
          obtain ⟨Ao31, co31, eo31⟩ := Kd.R_slice HO767.out
          (first | subst eo31 | (injection eo31 with f1_ f2_ f3_; have f4_ := f1_.symm; have f5_ := f3_.symm; clear f1_ f2_ f3_; subst f4_; subst f5_))
          refine hK.out _ _ trivial (fun hHeld => ?_)
          clear hK K
          refine norm_ (a' := ?_) ?_ ?_
          rotate_left
          · show Act.put _ (some 39) _ = _
            simp only [Act.put, List.setIfInBounds_toArray, List.set_cons_zero, List.set_cons_succ, i64_w, i32_w]
            rfl
          refine one_ (i := 2) (N := some 40) #[true, true, true, true, true, true, true, true, true, false, false, false, false] rfl rfl (one_of HT_.out (by kernel_rfl)) (by decide) (fun K hK => ?_)
          refine goes_ Try.func66 (by kernel_rfl) rfl #[.slice Ao25 x4_2.length co25, .slice Ao31 y765.length co31] (by rfl) rfl rfl (by (try simp only [List.map_toArray, List.map_cons, List.map_nil]); first | done | rfl | (simp only [List.length_drop, List.length_take]; rfl)) ?_
          with_reducible refine (spec_l02Mul.calls kj11 _ _ x4_2 _ _ y765 t768 _ ?side1 ?side2 ?side3 ?side4 A18.out).mono ?_
          (case side1 => exact pC_ (Kd.V_reads' HO_4.out).2.2)
          (case side2 => exact (Kd.V_reads' HO_4.out).2.1)
          (case side3 => exact pC_ (Kd.R_reads' HO767.out).2.2)
          (case side4 => exact (Kd.R_reads' HO767.out).2.1)
          rintro e w32 ⟨v769, rfl, ho0, hb⟩
          refine ⟨_, rfl, ?_⟩
          have n0_ := Aside0.mk (Kd.V_below (pV_ HO_4.out) hb)
          have n1_ := Aside0.mk (Kd.R_below (pR_ HO773.out) hb)
          have n2_ := Aside0.mk (Kd.R_below (pR_ HO767.out) hb)
          have n3_ := Aside0.mk (Kd.V_lower (Kd.V_mono (ok' := fun k_ => some k_ ≠ (v772 : Value).ownBlock ∧ some k_ ≠ (.slice Ao31 y765.length co31 : Value).ownBlock) ho0 (fun k_ hk_ => ⟨(Kd.fresh' (Kd.R_lt (pR_ HO773.out)) k_ hk_), (Kd.fresh' (Kd.R_lt (pR_ HO767.out)) k_ hk_)⟩)) (below_size (pB_ HB.out)))
          have n4_ := Aside0.mk (below_step (pB_ HB.out) hb)
          clear HO_4
          clear HO773
          clear HO767
          clear HB
          have HO_4 := n0_
          have HO773 := n1_
          have HO767 := n2_
          have HO770 := n3_
          have HB := n4_
          clear n0_ n1_ n2_ n3_ n4_
          (try clear hb)
          (try clear hb2)
          (try clear hk)
          (try clear hi)
          (try clear ho0)
          refine hK.out _ _ trivial (fun hHeld => ?_)
          clear hK K
          refine norm_ (a' := ?_) ?_ ?_
          rotate_left
          · show Act.put _ (some 40) _ = _
            simp only [Act.put, List.setIfInBounds_toArray, List.set_cons_zero, List.set_cons_succ, i64_w, i32_w]
            rfl
          exact norm_ (by simp only [putAll, Act.put, List.setIfInBounds_toArray, List.set_cons_zero, List.set_cons_succ]) (hCont (.slice Ao31 y765.length co31, v769, v772) _ ⟨(pR_ (Kd.R_mono HO767.out (fun _ hk => hk.2))), (pV_ (Kd.V_mono HO770.out (fun _ hk => ⟨hk.2, hk.1⟩))), (pR_ (Kd.R_mono HO773.out (fun _ hk => hk.2))), (pV_ (Kd.V_mono HO_4.out (fun _ hk => ⟨hk.2, hk.1.2⟩))), (pB_ HB.out)⟩)
      rintro ⟨v766, v769, v772⟩ w33 ⟨h0_, h1_, h2_, h3_, h4_⟩
      have n0_ : Aside0 (Kd.R (Kd.int .i64) 3 w33 w.heap.size (fun k_ => some k_ ≠ (v772 : Value).ownBlock) v766 y765) := ⟨h0_⟩
      have n1_ : Aside0 (Kd.V (Kd.int .i64) 3 w33 w.heap.size (fun k_ => some k_ ≠ (v766 : Value).ownBlock ∧ some k_ ≠ (v772 : Value).ownBlock) v769 t768) := ⟨h1_⟩
      have n2_ : Aside0 (Kd.R (Kd.int .i64) 3 w33 w.heap.size (fun k_ => some k_ ≠ (v766 : Value).ownBlock) v772 y771) := ⟨h2_⟩
      have n3_ : Aside0 (Kd.V (Kd.int .i64) 3 w33 w.heap.size (fun k_ => some k_ ≠ (v766 : Value).ownBlock ∧ some k_ ≠ (v772 : Value).ownBlock) (.slice Ao25 x4_2.length co25) x4_2) := ⟨h3_⟩
      have n4_ : Aside0 (Below w.heap.size w w33) := ⟨h4_⟩
      clear HO_4
      clear HB
      clear h0_ h1_ h2_ h3_ h4_
      have HO767 := n0_
      have HO770 := n1_
      have HO773 := n2_
      have HO_4 := n3_
      have HB := n4_
      clear n0_ n1_ n2_ n3_ n4_
      have hHeld := trivial
      obtain ⟨Ao34, co34, eo34⟩ := Kd.R_slice HO773.out
      (first | subst eo34 | (injection eo34 with f1_ f2_ f3_; have f4_ := f1_.symm; have f5_ := f3_.symm; clear f1_ f2_ f3_; subst f4_; subst f5_))
      refine norm_ (a' := ?_) ?_ ?_
      rotate_left
      · simp only [putAll, Act.put, List.setIfInBounds_toArray, List.set_cons_zero, List.set_cons_succ]
        rfl
      refine one_ (i := 9) (N := some 47) #[true, true, true, true, true, true, true, true, true, true, false, false, false] rfl rfl (one_of HT_.out (by kernel_rfl)) (by decide) (fun K hK => ?_)
      refine goes_ Try.func64 (by kernel_rfl) rfl #[.slice Ao34 y771.length co34] (by rfl) rfl rfl (by (try simp only [List.map_toArray, List.map_cons, List.map_nil]); first | done | rfl | (simp only [List.length_drop, List.length_take]; rfl)) ?_
      with_reducible refine (spec_l02Trim.calls kj11 (fun k_ => some k_ = (.slice Ao34 y771.length co34 : Value).ownBlock) _ _ y771 t774 _ ?side1 A22.out).mono ?_
      (case side1 => exact Kd.R_V (Kd.R_tight rfl (HO773.out)))
      rintro e w35 ⟨v775, rfl, ho0, hb⟩
      refine ⟨_, rfl, ?_⟩
      have n0_ := Aside0.mk (Kd.V_below (pV_ HO_4.out) hb)
      have n1_ := Aside0.mk (Kd.R_below (pR_ HO767.out) hb)
      have n2_ := Aside0.mk (Kd.V_below (pV_ HO770.out) hb)
      have n3_ := Aside0.mk (Kd.R_below (pR_ HO773.out) hb)
      have n4_ := Aside0.mk (Kd.V_lower (Kd.V_mono (ok' := fun k_ => some k_ ≠ (v766 : Value).ownBlock) ho0 (fun k_ hk_ => Or.elim hk_ (fun hs_ => ((HO773.out).1 k_ hs_.symm)) (fun hn_ => (Kd.fresh' (Kd.R_lt (pR_ HO767.out)) k_ hn_)))) (below_size (pB_ HB.out)))
      have n5_ := Aside0.mk (below_step (pB_ HB.out) hb)
      clear HO_4
      clear HO767
      clear HO770
      clear HO773
      clear HB
      have HO_4 := n0_
      have HO767 := n1_
      have HO770 := n2_
      have HO773 := n3_
      have HO776 := n4_
      have HB := n5_
      clear n0_ n1_ n2_ n3_ n4_ n5_
      (try clear hb)
      (try clear hb2)
      (try clear hk)
      (try clear hi)
      (try clear ho0)
      obtain ⟨Ao36, co36, eo36⟩ := Kd.V_slice HO770.out
      (first | subst eo36 | (injection eo36 with f1_ f2_ f3_; have f4_ := f1_.symm; have f5_ := f3_.symm; clear f1_ f2_ f3_; subst f4_; subst f5_))
      obtain ⟨Ao37, co37, eo37⟩ := Kd.V_slice HO776.out
      (first | subst eo37 | (injection eo37 with f1_ f2_ f3_; have f4_ := f1_.symm; have f5_ := f3_.symm; clear f1_ f2_ f3_; subst f4_; subst f5_))
      refine hK.out _ _ trivial (fun hHeld => ?_)
      clear hK K
      refine norm_ (a' := ?_) ?_ ?_
      rotate_left
      · show Act.put _ (some 47) _ = _
        simp only [Act.put, List.setIfInBounds_toArray, List.set_cons_zero, List.set_cons_succ, i64_w, i32_w]
        rfl
      refine one_ (i := 10) (N := some 48) #[true, true, true, true, true, true, true, true, true, true, true, false, false] rfl rfl (one_of HT_.out (by kernel_rfl)) (by decide) (fun K hK => ?_)
      refine goes_ Try.func65 (by kernel_rfl) rfl #[.slice Ao36 t768.length co36, .slice Ao37 t774.length co37] (by rfl) rfl rfl (by (try simp only [List.map_toArray, List.map_cons, List.map_nil]); first | done | rfl | (simp only [List.length_drop, List.length_take]; rfl)) ?_
      with_reducible refine (spec_l02Add.calls kj11 _ _ t768 _ _ t774 t777 _ ?side1 ?side2 ?side3 ?side4 A23.out).mono ?_
      (case side1 => exact pC_ (Kd.V_reads' HO770.out).2.2)
      (case side2 => exact (Kd.V_reads' HO770.out).2.1)
      (case side3 => exact pC_ (Kd.V_reads' HO776.out).2.2)
      (case side4 => exact (Kd.V_reads' HO776.out).2.1)
      rintro e w38 ⟨v778, rfl, ho0, hb⟩
      refine ⟨_, rfl, ?_⟩
      have n0_ := Aside0.mk (Kd.V_elder' (pV_ HO_4.out) (Kd.R_base ho0) hb)
      have n1_ := Aside0.mk (Kd.R_elder' (pR_ HO767.out) (Kd.R_base ho0) hb)
      have n2_ := Aside0.mk (Kd.V_elder' (pV_ HO770.out) (Kd.R_base ho0) hb)
      have n3_ := Aside0.mk (Kd.R_elder' (pR_ HO773.out) (Kd.R_base ho0) hb)
      have n4_ := Aside0.mk (Kd.V_elder' (pV_ HO776.out) (Kd.R_base ho0) hb)
      have n5_ := Aside0.mk (Kd.R_lower (Kd.R_new' (Kd.R_new' ho0 (Kd.R_lt (pR_ HO767.out))) (Kd.R_lt (pR_ HO773.out))) (below_size (pB_ HB.out)))
      have n6_ := Aside0.mk (below_step (pB_ HB.out) hb)
      clear HO_4
      clear HO767
      clear HO770
      clear HO773
      clear HO776
      clear HB
      have HO_4 := n0_
      have HO767 := n1_
      have HO770 := n2_
      have HO773 := n3_
      have HO776 := n4_
      have HO779 := n5_
      have HB := n6_
      clear n0_ n1_ n2_ n3_ n4_ n5_ n6_
      (try clear hb)
      (try clear hb2)
      (try clear hk)
      (try clear hi)
      (try clear ho0)
      obtain ⟨Ao39, co39, eo39⟩ := Kd.R_slice HO779.out
      (first | subst eo39 | (injection eo39 with f1_ f2_ f3_; have f4_ := f1_.symm; have f5_ := f3_.symm; clear f1_ f2_ f3_; subst f4_; subst f5_))
      refine hK.out _ _ trivial (fun hHeld => ?_)
      clear hK K
      refine norm_ (a' := ?_) ?_ ?_
      rotate_left
      · show Act.put _ (some 48) _ = _
        simp only [Act.put, List.setIfInBounds_toArray, List.set_cons_zero, List.set_cons_succ, i64_w, i32_w]
        rfl
      refine one_ (i := 11) (N := some 49) #[true, true, true, true, true, true, true, true, true, true, true, true, false] rfl rfl (one_of HT_.out (by kernel_rfl)) (by decide) (fun K hK => ?_)
      refine goes_ Try.func64 (by kernel_rfl) rfl #[.slice Ao39 t777.length co39] (by rfl) rfl rfl (by (try simp only [List.map_toArray, List.map_cons, List.map_nil]); first | done | rfl | (simp only [List.length_drop, List.length_take]; rfl)) ?_
      with_reducible refine (spec_l02Trim.calls kj11 (fun k_ => some k_ = (.slice Ao39 t777.length co39 : Value).ownBlock) _ _ t777 t780 _ ?side1 A24.out).mono ?_
      (case side1 => exact Kd.R_V (Kd.R_tight rfl (HO779.out)))
      rintro e w40 ⟨v781, rfl, ho0, hb⟩
      refine ⟨_, rfl, ?_⟩
      have n0_ := Aside0.mk (Kd.V_below (pV_ HO_4.out) hb)
      have n1_ := Aside0.mk (Kd.R_below (pR_ HO767.out) hb)
      have n2_ := Aside0.mk (Kd.V_below (pV_ HO770.out) hb)
      have n3_ := Aside0.mk (Kd.R_below (pR_ HO773.out) hb)
      have n4_ := Aside0.mk (Kd.V_below (pV_ HO776.out) hb)
      have n5_ := Aside0.mk (Kd.R_below (pR_ HO779.out) hb)
      have n6_ := Aside0.mk (Kd.V_lower (Kd.V_mono (ok' := fun k_ => some k_ ≠ (v766 : Value).ownBlock ∧ some k_ ≠ (.slice Ao34 y771.length co34 : Value).ownBlock) ho0 (fun k_ hk_ => ⟨Or.elim hk_ (fun hs_ => ((HO779.out).1 k_ hs_.symm).1.2) (fun hn_ => (Kd.fresh' (Kd.R_lt (pR_ HO767.out)) k_ hn_)), Or.elim hk_ (fun hs_ => ((HO779.out).1 k_ hs_.symm).2) (fun hn_ => (Kd.fresh' (Kd.R_lt (pR_ HO773.out)) k_ hn_))⟩)) (below_size (pB_ HB.out)))
      have n7_ := Aside0.mk (below_step (pB_ HB.out) hb)
      clear HO_4
      clear HO767
      clear HO770
      clear HO773
      clear HO776
      clear HO779
      clear HB
      have HO_4 := n0_
      have HO767 := n1_
      have HO770 := n2_
      have HO773 := n3_
      have HO776 := n4_
      have HO779 := n5_
      have HO782 := n6_
      have HB := n7_
      clear n0_ n1_ n2_ n3_ n4_ n5_ n6_ n7_
      (try clear hb)
      (try clear hb2)
      (try clear hk)
      (try clear hi)
      (try clear ho0)
      refine hK.out _ _ trivial (fun hHeld => ?_)
      clear hK K
      refine norm_ (a' := ?_) ?_ ?_
      rotate_left
      · show Act.put _ (some 49) _ = _
        simp only [Act.put, List.setIfInBounds_toArray, List.set_cons_zero, List.set_cons_succ, i64_w, i32_w]
        rfl
      refine pu_ 12 4 HT_.out ?_
      refine done_ (done_of HT_.out (by kernel_rfl)) ?_
      try go_wp2
      go_roundg kj11
      case measure => have := HJ1.out; have := HK2.out; have := HJ11.out; omega
      case rel => exact ⟨(t780), (wrap64 (x5_2 + 1)), (by first | rfl | (simp; done) | (simp [*]; done)), H', ⟨by have := HJ1.out; have := HK2.out; have := HJ11.out; omega⟩, ⟨by (with_reducible repeat (first | apply Kd.V_alloc | apply Kd.V_drewN | apply Kd.V_drew)); exact Kd.V_mono HO782.out (fun _ hk => trivial)⟩, ⟨pB_ HB.out⟩⟩

/-! ### impl_ReadGreat: function 38 -/
def impl_ReadGreat.f (k : Nat) (a0 : ByteArray) : Option (ByteArray × Bool) := if (a0.size : Int) > 400 then (some ((⟨#[]⟩ : ByteArray), false)) else ((impl_fromFigures.f k a0).bind fun bt785 => ((impl_nat_text.f k bt785.1).bind fun t789 => (if bt785.2 = true then ((impl_GreatOk.f t789).bind fun t790 => (if t790 = true then (some (t789, true)) else (some ((⟨#[]⟩ : ByteArray), false)))) else (some ((⟨#[]⟩ : ByteArray), false)))))
set_option maxHeartbeats 8000000 in
set_option maxRecDepth 100000 in
theorem impl_ReadGreat.calls (k : Nat) (a0 : ByteArray) (r1 : ByteArray) (r2 : Bool) (w : World) (h : impl_ReadGreat.f k a0 = some (r1, r2)) :
    Calls Try.prog 38 #[.string a0] w fun e w' => e = .returned (.tuple #[.string r1, .bool r2]) ∧ Below w.heap.size w w' := by
  have HB := Aside0.mk (Below.refl w.heap.size w)
  have H : (if (a0.size : Int) > 400 then (some ((⟨#[]⟩ : ByteArray), false)) else ((impl_fromFigures.f k a0).bind fun bt785 => ((impl_nat_text.f k bt785.1).bind fun t789 => (if bt785.2 = true then ((impl_GreatOk.f t789).bind fun t790 => (if t790 = true then (some (t789, true)) else (some ((⟨#[]⟩ : ByteArray), false)))) else (some ((⟨#[]⟩ : ByteArray), false)))))) = some (r1, r2) := h
  clear h
  by_cases c2 : (a0.size : Int) > 400
  · rw [if_pos c2] at H
    have c2b0 : decide (400 < (a0.size : Int)) = true := decide_eq_true c2
    have c2b1 : decide (400 < a0.size) = true := decide_eq_true (by omega)
    clear c2
    simp only [Option.some.injEq, Prod.mk.injEq] at H
    obtain ⟨rfl, rfl⟩ := H
    go_enter Try.func38, Try.ntmps38
    go_wp2
    go_ret2
    exact ⟨by first | rfl | (simp [errW_none, errW_some] <;> rfl) | (simp [*, errW_none, errW_some] <;> rfl), pB_ HB.out⟩
  rw [if_neg c2] at H
  have c2b0 : decide (400 < (a0.size : Int)) = false := decide_eq_false c2
  have c2b1 : decide (400 < a0.size) = false := decide_eq_false (by omega)
  clear c2
  replace H := Option.bind_eq_some_iff.mp H
  obtain ⟨⟨t785, t788⟩, A30, H⟩ := H
  replace H : ((impl_nat_text.f k t785).bind fun t789 => (if t788 = true then ((impl_GreatOk.f t789).bind fun t790 => (if t790 = true then (some (t789, true)) else (some ((⟨#[]⟩ : ByteArray), false)))) else (some ((⟨#[]⟩ : ByteArray), false)))) = some (r1, r2) := H
  have A3 := Aside0.mk A30
  clear A30
  replace H := Option.bind_eq_some_iff.mp H
  obtain ⟨t789, A40, H⟩ := H
  have A4 := Aside0.mk A40
  clear A40
  by_cases c5 : t788 = true
  · subst c5
    have H1 : ((impl_GreatOk.f t789).bind fun t790 => (if t790 = true then (some (t789, true)) else (some ((⟨#[]⟩ : ByteArray), false)))) = some (r1, r2) := by rw [if_pos rfl] at H; exact H
    clear H
    have H := H1
    clear H1
    replace H := Option.bind_eq_some_iff.mp H
    obtain ⟨t790, A60, H⟩ := H
    have A6 := Aside0.mk A60
    clear A60
    by_cases c7 : t790 = true
    · subst c7
      have H1 : (some (t789, true)) = some (r1, r2) := by rw [if_pos rfl] at H; exact H
      clear H
      have H := H1
      clear H1
      simp only [Option.some.injEq, Prod.mk.injEq] at H
      obtain ⟨rfl, rfl⟩ := H
      go_enter Try.func38, Try.ntmps38
      go_wp2_with (first | ((with_reducible refine gate_callee (f := 68) rfl ?_); refine gL_ 12 Try.func68 rfl #[.string a0] ?_; (with_reducible refine (impl_fromFigures.calls k a0 t785 true _ A3.out).mono ?_); rintro e w8 ⟨v786, rfl, ho0, hb⟩; refine ⟨_, rfl, ?_⟩; have HO787 := Aside0.mk (Kd.V_lower (Kd.V_mono (ok' := fun k_ => True) ho0 (fun k_ hk_ => trivial)) (below_size (pB_ HB.out))); replace HB := Aside0.mk (below_step (pB_ HB.out) hb); clear hb ho0; obtain ⟨Ao9, co9, eo9⟩ := Kd.V_slice HO787.out; subst eo9) | ((with_reducible refine gate_callee (f := 57) rfl ?_); refine gL_ 16 Try.func57 rfl #[.slice Ao9 t785.length co9] ?_; (with_reducible refine (impl_nat_text.calls k _ _ t785 t789 _ ?side1 ?side2 A4.out).mono ?_); (case side1 => exact pC_ (Kd.V_reads' HO787.out).2.2); (case side2 => exact (Kd.V_reads' HO787.out).2.1); rintro e w10 ⟨rfl, hb⟩; refine ⟨_, rfl, ?_⟩; replace HO787 := Aside0.mk (Kd.V_below (pV_ HO787.out) hb); replace HB := Aside0.mk (below_step (pB_ HB.out) hb); clear hb) | (go_at_call 54; (with_reducible refine (impl_GreatOk.calls t789 true _ A6.out).mono ?_); rintro e w' ⟨rfl, ⟨nd, rfl⟩⟩))
      go_ret2
      exact ⟨by first | rfl | (simp [errW_none, errW_some] <;> rfl) | (simp [*, errW_none, errW_some] <;> rfl), pB_ HB.out⟩
    · replace c7 := Bool.eq_false_iff.mpr c7
      subst c7
      have H1 : (some ((⟨#[]⟩ : ByteArray), false)) = some (r1, r2) := by rw [if_neg (show ¬ (false = true) by decide)] at H; exact H
      clear H
      have H := H1
      clear H1
      simp only [Option.some.injEq, Prod.mk.injEq] at H
      obtain ⟨rfl, rfl⟩ := H
      go_enter Try.func38, Try.ntmps38
      go_wp2_with (first | ((with_reducible refine gate_callee (f := 68) rfl ?_); refine gL_ 12 Try.func68 rfl #[.string a0] ?_; (with_reducible refine (impl_fromFigures.calls k a0 t785 true _ A3.out).mono ?_); rintro e w11 ⟨v786, rfl, ho0, hb⟩; refine ⟨_, rfl, ?_⟩; have HO787 := Aside0.mk (Kd.V_lower (Kd.V_mono (ok' := fun k_ => True) ho0 (fun k_ hk_ => trivial)) (below_size (pB_ HB.out))); replace HB := Aside0.mk (below_step (pB_ HB.out) hb); clear hb ho0; obtain ⟨Ao12, co12, eo12⟩ := Kd.V_slice HO787.out; subst eo12) | ((with_reducible refine gate_callee (f := 57) rfl ?_); refine gL_ 16 Try.func57 rfl #[.slice Ao12 t785.length co12] ?_; (with_reducible refine (impl_nat_text.calls k _ _ t785 t789 _ ?side1 ?side2 A4.out).mono ?_); (case side1 => exact pC_ (Kd.V_reads' HO787.out).2.2); (case side2 => exact (Kd.V_reads' HO787.out).2.1); rintro e w13 ⟨rfl, hb⟩; refine ⟨_, rfl, ?_⟩; replace HO787 := Aside0.mk (Kd.V_below (pV_ HO787.out) hb); replace HB := Aside0.mk (below_step (pB_ HB.out) hb); clear hb) | (go_at_call 54; (with_reducible refine (impl_GreatOk.calls t789 false _ A6.out).mono ?_); rintro e w' ⟨rfl, ⟨nd, rfl⟩⟩))
      go_ret2
      exact ⟨by first | rfl | (simp [errW_none, errW_some] <;> rfl) | (simp [*, errW_none, errW_some] <;> rfl), pB_ HB.out⟩
  · replace c5 := Bool.eq_false_iff.mpr c5
    subst c5
    have H1 : (some ((⟨#[]⟩ : ByteArray), false)) = some (r1, r2) := by rw [if_neg (show ¬ (false = true) by decide)] at H; exact H
    clear H
    have H := H1
    clear H1
    simp only [Option.some.injEq, Prod.mk.injEq] at H
    obtain ⟨rfl, rfl⟩ := H
    go_enter Try.func38, Try.ntmps38
    go_wp2_with (first | ((with_reducible refine gate_callee (f := 68) rfl ?_); refine gL_ 12 Try.func68 rfl #[.string a0] ?_; (with_reducible refine (impl_fromFigures.calls k a0 t785 false _ A3.out).mono ?_); rintro e w14 ⟨v786, rfl, ho0, hb⟩; refine ⟨_, rfl, ?_⟩; have HO787 := Aside0.mk (Kd.V_lower (Kd.V_mono (ok' := fun k_ => True) ho0 (fun k_ hk_ => trivial)) (below_size (pB_ HB.out))); replace HB := Aside0.mk (below_step (pB_ HB.out) hb); clear hb ho0; obtain ⟨Ao15, co15, eo15⟩ := Kd.V_slice HO787.out; subst eo15) | ((with_reducible refine gate_callee (f := 57) rfl ?_); refine gL_ 16 Try.func57 rfl #[.slice Ao15 t785.length co15] ?_; (with_reducible refine (impl_nat_text.calls k _ _ t785 t789 _ ?side1 ?side2 A4.out).mono ?_); (case side1 => exact pC_ (Kd.V_reads' HO787.out).2.2); (case side2 => exact (Kd.V_reads' HO787.out).2.1); rintro e w16 ⟨rfl, hb⟩; refine ⟨_, rfl, ?_⟩; replace HO787 := Aside0.mk (Kd.V_below (pV_ HO787.out) hb); replace HB := Aside0.mk (below_step (pB_ HB.out) hb); clear hb))
    go_ret2
    exact ⟨by first | rfl | (simp [errW_none, errW_some] <;> rfl) | (simp [*, errW_none, errW_some] <;> rfl), pB_ HB.out⟩

/-! ### laws_FnExactReadGreat: function 12 -/
def laws_FnExactReadGreat.f (k : Nat) (a0 : ByteArray) : Option (Bool) := if (a0.size : Int) > 1048576 then (some true) else ((spec_ReadGreat.f k a0).bind fun bt791 => ((impl_ReadGreat.f k a0).bind fun bt793 => (if bt793.1.toList = bt791.1.toList then (if (bt793.2 != bt791.2) = true then (some false) else (some true)) else (some false))))
set_option maxHeartbeats 8000000 in
set_option maxRecDepth 100000 in
theorem laws_FnExactReadGreat.calls (k : Nat) (a0 : ByteArray) (r : Bool) (w : World) (h : laws_FnExactReadGreat.f k a0 = some r) :
    Calls Try.prog 12 #[.string a0] w fun e w' => e = .returned (.bool r) ∧ Below w.heap.size w w' := by
  have HB := Aside0.mk (Below.refl w.heap.size w)
  have H : (if (a0.size : Int) > 1048576 then (some true) else ((spec_ReadGreat.f k a0).bind fun bt791 => ((impl_ReadGreat.f k a0).bind fun bt793 => (if bt793.1.toList = bt791.1.toList then (if (bt793.2 != bt791.2) = true then (some false) else (some true)) else (some false))))) = some r := h
  clear h
  by_cases c2 : (a0.size : Int) > 1048576
  · rw [if_pos c2] at H
    have c2b0 : decide (1048576 < (a0.size : Int)) = true := decide_eq_true c2
    have c2b1 : decide (1048576 < a0.size) = true := decide_eq_true (by omega)
    clear c2
    obtain rfl := Option.some.inj H
    go_enter Try.func12, Try.ntmps12
    go_wp2
    go_ret
    exact ⟨by first | rfl | (simp [errW_none, errW_some] <;> rfl) | (simp [*, errW_none, errW_some] <;> rfl), pB_ HB.out⟩
  rw [if_neg c2] at H
  have c2b0 : decide (1048576 < (a0.size : Int)) = false := decide_eq_false c2
  have c2b1 : decide (1048576 < a0.size) = false := decide_eq_false (by omega)
  clear c2
  replace H := Option.bind_eq_some_iff.mp H
  obtain ⟨⟨t791, t792⟩, A30, H⟩ := H
  replace H : ((impl_ReadGreat.f k a0).bind fun bt793 => (if bt793.1.toList = t791.toList then (if (bt793.2 != t792) = true then (some false) else (some true)) else (some false))) = some r := H
  have A3 := Aside0.mk A30
  clear A30
  replace H := Option.bind_eq_some_iff.mp H
  obtain ⟨⟨t793, t794⟩, A40, H⟩ := H
  replace H : (if t793.toList = t791.toList then (if (t794 != t792) = true then (some false) else (some true)) else (some false)) = some r := H
  have A4 := Aside0.mk A40
  clear A40
  by_cases c5 : t793.toList = t791.toList
  rotate_left
  · rw [if_neg c5] at H
    have c5b0 : (t793.toList == t791.toList) = false := beq_eq_false_iff_ne.mpr c5
    have c5b1 : (t793.toList != t791.toList) = true := bne_iff_ne.mpr c5
    obtain rfl := Option.some.inj H
    go_enter Try.func12, Try.ntmps12
    go_wp2_with (first | ((with_reducible refine gate_callee (f := 37) rfl ?_); refine gL_ 12 Try.func37 rfl #[.string a0] ?_; (with_reducible refine (spec_ReadGreat.calls k a0 t791 t792 _ A3.out).mono ?_); rintro e w11 ⟨rfl, hb⟩; refine ⟨_, rfl, ?_⟩; replace HB := Aside0.mk (below_step (pB_ HB.out) hb); clear hb) | ((with_reducible refine gate_callee (f := 38) rfl ?_); refine gL_ 17 Try.func38 rfl #[.string a0] ?_; (with_reducible refine (impl_ReadGreat.calls k a0 t793 t794 _ A4.out).mono ?_); rintro e w12 ⟨rfl, hb⟩; refine ⟨_, rfl, ?_⟩; replace HB := Aside0.mk (below_step (pB_ HB.out) hb); clear hb))
    go_ret
    exact ⟨by first | rfl | (simp [errW_none, errW_some] <;> rfl) | (simp [*, errW_none, errW_some] <;> rfl), pB_ HB.out⟩

  rw [if_pos c5] at H
  have c5b0 : (t793.toList == t791.toList) = true := beq_iff_eq.mpr c5
  have c5b1 : (t793.toList != t791.toList) = false := bne_eq_false_iff_eq.mpr c5
  clear c5
  by_cases c6 : (t794 != t792) = true
  rotate_left
  · rw [if_neg c6] at H
    have c6b0 : (t794 != t792) = false := by simpa using c6
    (try (have c6b1 : decide (t794 = t792) = true := by simpa using c6))
    (try (have c6b2 : (t794 == t792) = true := by simpa using c6))
    clear c6
    obtain rfl := Option.some.inj H
    go_enter Try.func12, Try.ntmps12
    go_wp2_with (first | ((with_reducible refine gate_callee (f := 37) rfl ?_); refine gL_ 12 Try.func37 rfl #[.string a0] ?_; (with_reducible refine (spec_ReadGreat.calls k a0 t791 t792 _ A3.out).mono ?_); rintro e w9 ⟨rfl, hb⟩; refine ⟨_, rfl, ?_⟩; replace HB := Aside0.mk (below_step (pB_ HB.out) hb); clear hb) | ((with_reducible refine gate_callee (f := 38) rfl ?_); refine gL_ 17 Try.func38 rfl #[.string a0] ?_; (with_reducible refine (impl_ReadGreat.calls k a0 t793 t794 _ A4.out).mono ?_); rintro e w10 ⟨rfl, hb⟩; refine ⟨_, rfl, ?_⟩; replace HB := Aside0.mk (below_step (pB_ HB.out) hb); clear hb))
    go_ret
    exact ⟨by first | rfl | (simp [errW_none, errW_some] <;> rfl) | (simp [*, errW_none, errW_some] <;> rfl), pB_ HB.out⟩
  rw [if_pos c6] at H
  have c6b0 : (t794 != t792) = true := c6
  (try (have c6b1 : decide (t794 = t792) = false := by simpa using c6))
  (try (have c6b2 : (t794 == t792) = false := by simpa using c6))
  (try (have c6b3 : ¬ (t794 = t792) := by simpa using c6))
  clear c6
  obtain rfl := Option.some.inj H
  go_enter Try.func12, Try.ntmps12
  go_wp2_with (first | ((with_reducible refine gate_callee (f := 37) rfl ?_); refine gL_ 12 Try.func37 rfl #[.string a0] ?_; (with_reducible refine (spec_ReadGreat.calls k a0 t791 t792 _ A3.out).mono ?_); rintro e w7 ⟨rfl, hb⟩; refine ⟨_, rfl, ?_⟩; replace HB := Aside0.mk (below_step (pB_ HB.out) hb); clear hb) | ((with_reducible refine gate_callee (f := 38) rfl ?_); refine gL_ 17 Try.func38 rfl #[.string a0] ?_; (with_reducible refine (impl_ReadGreat.calls k a0 t793 t794 _ A4.out).mono ?_); rintro e w8 ⟨rfl, hb⟩; refine ⟨_, rfl, ?_⟩; replace HB := Aside0.mk (below_step (pB_ HB.out) hb); clear hb))
  go_ret
  exact ⟨by first | rfl | (simp [errW_none, errW_some] <;> rfl) | (simp [*, errW_none, errW_some] <;> rfl), pB_ HB.out⟩
/-- THE ONE PURE STATEMENT of laws_FnExactReadGreat: yours. -/
def laws_FnExactReadGreat.Pure : Prop := ∀ (a0 : ByteArray), a0.size ≤ 140737488351232 → ∃ k, laws_FnExactReadGreat.f k a0 = some true
theorem laws_FnExactReadGreat.walk (P : laws_FnExactReadGreat.Pure) (a0 : ByteArray) (w : World) (w0 : a0.size ≤ 140737488351232) :
    Calls Try.prog 12 #[.string a0] w fun e w' => e = .returned (.bool true) ∧ Below w.heap.size w w' := by
  obtain ⟨k, h⟩ := P a0 w0
  refine (laws_FnExactReadGreat.calls k a0 true w h).mono ?_
  rintro e w' ⟨rfl, hd⟩
  exact ⟨rfl, hd⟩

end Go.Proofs.Ytaaimkgpeilbbaa.F
