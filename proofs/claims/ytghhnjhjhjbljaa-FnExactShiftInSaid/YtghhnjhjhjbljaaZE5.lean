-- Made for this seat by a program of this session (wip/fork, wip/slim.py). Lean checks it.
import Derived.Test.YtghhnjhjhjbljaaVEFx0
import Derived.Test.YtghhnjhjhjbljaaZE2
import Derived.Test.YtghhnjhjhjbljaaZE3
import Derived.Test.YtghhnjhjhjbljaaZE4
namespace Go.Proofs.Ytghhnjhjhjbljaa.F
open Go.RowKit Go.Proofs.YtghhnjhjhjbljaaW.PrintWords Go.Proofs.YtghhnjhjhjbljaaW.PrintLast Go.Proofs.YtghhnjhjhjbljaaW.PrintMore
attribute [local go_sem] max2_int min2_int max_two min_two max_three min_three max_four min_four   -- for this text's walks alone
set_option linter.unusedVariables false
set_option linter.unusedSimpArgs false

/-! ### impl_nat_over: function 46 -/
mutual
def impl_nat_over.l0 : Nat → List Int → List Int → List Int → Int → Int → Option (List Int × List Int)
  | 0, _, _, _, _, _ => none
  | k + 1, x0, x1, x7, x8, x9 => if x9 ≥ 0 then (if 0 ≤ x9 then (if x9 < (x0.length : Int) then (if 0 < (x1.length : Int) then ((bits_Div64.f k x8 (rd x0 x9) (rd x1 0)).bind fun bt441 => (if x9 < (x7.length : Int) then (impl_nat_over.l0 k x0 x1 (x7.set (x9 : Int).toNat bt441.1) bt441.2 (wrap64 (x9 - 1))) else (none))) else (none)) else (none)) else (none)) else ((impl_nat_trim.f k x7).bind fun t444 => ((impl_nat_trim.f k (([x8] : List Int))).bind fun t450 => (some (t444, t450))))
def impl_nat_over.l1 : Nat → Int → Int → List Int → List Int → List Int → Int → Option (List Int × List Int)
  | 0, _, _, _, _, _, _ => none
  | k + 1, x6, x10, x11, x12, x13, x14 => if x14 ≥ 0 then (if 0 ≤ (wrap64 (x14 + x6)) then (if (wrap64 (x14 + x6)) < (x11.length : Int) then (if 0 ≤ (wrap64 ((wrap64 (x14 + x6)) - 1)) then (if (wrap64 ((wrap64 (x14 + x6)) - 1)) < (x11.length : Int) then (if 0 ≤ (wrap64 ((wrap64 (x14 + x6)) - 2)) then (if (wrap64 ((wrap64 (x14 + x6)) - 2)) < (x11.length : Int) then (if 0 ≤ (wrap64 (x6 - 1)) then (if (wrap64 (x6 - 1)) < (x12.length : Int) then (if 0 ≤ (wrap64 (x6 - 2)) then (if (wrap64 (x6 - 2)) < (x12.length : Int) then ((impl_digit.f k (rd x11 (wrap64 (x14 + x6))) (rd x11 (wrap64 ((wrap64 (x14 + x6)) - 1))) (rd x11 (wrap64 ((wrap64 (x14 + x6)) - 2))) (rd x12 (wrap64 (x6 - 1))) (rd x12 (wrap64 (x6 - 2)))).bind fun t488 => (impl_nat_over.l2 k x6 x10 x11 x12 x13 x14 t488 0 0 x6 0)) else (none)) else (none)) else (none)) else (none)) else (none)) else (none)) else (none)) else (none)) else (none)) else (none)) else ((impl_nat_trim.f k x13).bind fun t469 => (if 0 ≤ x6 then (if x6 ≤ (x11.length : Int) then ((impl_nat_trim.f k (x11.take (x6 : Int).toNat)).bind fun t477 => ((impl_nat_down.f k t477 x10).bind fun t480 => (some (t469, t480)))) else (none)) else (none)))
def impl_nat_over.l2 : Nat → Int → Int → List Int → List Int → List Int → Int → Int → Int → Int → Int → Int → Option (List Int × List Int)
  | 0, _, _, _, _, _, _, _, _, _, _, _ => none
  | k + 1, x6, x10, x11, x12, x13, x14, x15, x16, x17, x121, x122 => if x122 < x121 then (if 0 ≤ x122 then (if x122 < (x12.length : Int) then ((bits_Mul64.f x15 (rd x12 x122)).bind fun bt490 => ((bits_Add64.f bt490.2 x17 0).bind fun bt492 => (if 0 ≤ (wrap64 (x14 + x122)) then (if (wrap64 (x14 + x122)) < (x11.length : Int) then ((bits_Sub64.f (rd x11 (wrap64 (x14 + x122))) bt492.1 x16).bind fun bt495 => (impl_nat_over.l2 k x6 x10 (x11.set ((wrap64 (x14 + x122)) : Int).toNat bt495.1) x12 x13 x14 x15 bt495.2 (IntKind.u64.wrap (bt490.1 + bt492.2)) x121 (wrap64 (x122 + 1)))) else (none)) else (none)))) else (none)) else (none)) else (if 0 ≤ (wrap64 (x14 + x6)) then (if (wrap64 (x14 + x6)) < (x11.length : Int) then ((bits_Sub64.f (rd x11 (wrap64 (x14 + x6))) x17 x16).bind fun bt499 => ((some (x11.set ((wrap64 (x14 + x6)) : Int).toNat bt499.1 : List Int)).bind fun y501 => (if bt499.2 = 1 then (impl_nat_over.l3 k x6 x10 y501 x12 x13 x14 (IntKind.u64.wrap (x15 - 1)) 0 x6 0) else (if 0 ≤ x14 then (if x14 < (x13.length : Int) then (impl_nat_over.l1 k x6 x10 y501 x12 (x13.set (x14 : Int).toNat x15) (wrap64 (x14 - 1))) else (none)) else (none))))) else (none)) else (none))
def impl_nat_over.l3 : Nat → Int → Int → List Int → List Int → List Int → Int → Int → Int → Int → Int → Option (List Int × List Int)
  | 0, _, _, _, _, _, _, _, _, _, _ => none
  | k + 1, x6, x10, x11, x12, x13, x14, x15, x17, x182, x183 => if x183 < x182 then (if 0 ≤ (wrap64 (x14 + x183)) then (if (wrap64 (x14 + x183)) < (x11.length : Int) then (if 0 ≤ x183 then (if x183 < (x12.length : Int) then ((bits_Add64.f (rd x11 (wrap64 (x14 + x183))) (rd x12 x183) x17).bind fun bt504 => (impl_nat_over.l3 k x6 x10 (x11.set ((wrap64 (x14 + x183)) : Int).toNat bt504.1) x12 x13 x14 x15 bt504.2 x182 (wrap64 (x183 + 1)))) else (none)) else (none)) else (none)) else (none)) else (if 0 ≤ (wrap64 (x14 + x6)) then (if (wrap64 (x14 + x6)) < (x11.length : Int) then (if 0 ≤ x14 then (if x14 < (x13.length : Int) then (impl_nat_over.l1 k x6 x10 (x11.set ((wrap64 (x14 + x6)) : Int).toNat (IntKind.u64.wrap ((rd x11 (wrap64 (x14 + x6))) + x17))) x12 (x13.set (x14 : Int).toNat x15) (wrap64 (x14 - 1))) else (none)) else (none)) else (none)) else (none))
end
def impl_nat_over.f (k : Nat) (l0 : List Int) (l1 : List Int) : Option (List Int × List Int) := (impl_nat_cmp.f k l0 l1).bind fun t435 => (if t435 < 0 then (some (([] : List Int), l0)) else (if (l1.length : Int) = 1 then (if 0 ≤ (l0.length : Int) then (if ((l0.length : Int) : Int).toNat ≤ 35184372088832 then (impl_nat_over.l0 k l0 l1 (List.replicate ((l0.length : Int) : Int).toNat 0) 0 (wrap64 ((l0.length : Int) - 1))) else (none)) else (none)) else (if 0 ≤ (wrap64 ((l1.length : Int) - 1)) then (if (wrap64 ((l1.length : Int) - 1)) < (l1.length : Int) then ((bits_LeadingZeros64.f k (rd l1 (wrap64 ((l1.length : Int) - 1)))).bind fun t454 => ((impl_nat_up.f k l0 t454).bind fun t455 => ((impl_nat_up.f k l1 t454).bind fun t458 => (if 0 ≤ (l1.length : Int) then (if (l1.length : Int) ≤ (t458.length : Int) then (if 0 ≤ (wrap64 ((wrap64 ((l0.length : Int) - (l1.length : Int))) + 1)) then (if (wrap64 ((wrap64 ((l0.length : Int) - (l1.length : Int))) + 1) : Int).toNat ≤ 35184372088832 then (impl_nat_over.l1 k (l1.length : Int) t454 t455 (t458.take ((l1.length : Int) : Int).toNat) (List.replicate (wrap64 ((wrap64 ((l0.length : Int) - (l1.length : Int))) + 1) : Int).toNat 0) (wrap64 ((l0.length : Int) - (l1.length : Int)))) else (none)) else (none)) else (none)) else (none))))) else (none)) else (none))))
def impl_nat_over.T9 : Bool × List (List Nat × List Nat) := (true, [([], []), ([], []), ([], []), ([], []), ([], []), ([3, 4], [3, 4]), ([5], [5]), ([], []), ([7], [7]), ([8], [8]), ([2, 6, 9], [2, 6, 9]), ([10], [10]), ([11], [11]), ([11], [11]), ([0, 1, 0, 1, 2, 3, 4, 5, 6, 7, 8, 9, 10, 11, 12], [0, 1]), ([14, 12, 10, 0, 1, 2, 3, 4, 5, 6, 7, 8, 9, 10, 11, 12], [12, 14]), ([13, 15, 0, 1, 2, 3, 4, 5, 6, 7, 8, 9, 10, 11, 12, 13, 14, 15], [2, 13])])
def impl_nat_over.B9 : List Nat := [0, 0, 0, 0, 0, 24, 56, 0, 128, 384, 1020, 2044, 4092, 4092, 8191, 24575, 65535]
theorem impl_nat_over.tab9 : rtab .any (opsOf Try.f46 9) = impl_nat_over.T9 := by kernel_rfl
theorem impl_nat_over.bits9 : waitsOk impl_nat_over.T9.2 impl_nat_over.B9 = true := by kernel_rfl
def impl_nat_over.T12 : Bool × List (List Nat × List Nat) := (true, [([], []), ([], []), ([0, 1], [0, 1]), ([], []), ([], []), ([3, 4, 2], [3, 4]), ([], []), ([5, 6], [5, 6]), ([2, 5, 0, 1, 2], [2]), ([7, 8, 0, 1, 2, 3, 4, 5, 6, 7, 8], [7])])
def impl_nat_over.B12 : List Nat := [0, 0, 3, 0, 0, 31, 0, 127, 63, 511]
theorem impl_nat_over.tab12 : rtab .any (opsOf Try.f46 12) = impl_nat_over.T12 := by kernel_rfl
theorem impl_nat_over.bits12 : waitsOk impl_nat_over.T12.2 impl_nat_over.B12 = true := by kernel_rfl
def impl_nat_over.T17 : Bool × List (List Nat × List Nat) := (true, [([], []), ([], []), ([], []), ([1, 2], [1, 2]), ([0, 3], [0, 3]), ([4], [4]), ([], []), ([], []), ([], []), ([7, 8], [7, 8]), ([9], [9]), ([6, 10], [6, 10]), ([11], [11]), ([], []), ([], []), ([], []), ([14, 15], [14, 15]), ([16], [16]), ([13, 17], [13, 17]), ([18], [18]), ([], []), ([], []), ([21], [21]), ([20, 22], [20, 22]), ([23], [23]), ([], []), ([], []), ([26], [26]), ([25, 27], [25, 27]), ([28], [28]), ([5, 12, 19, 24, 29], [5, 12, 19, 24, 29]), ([30, 30, 0, 1, 2, 3, 4, 5, 6, 7, 8, 9, 10, 11, 12, 13, 14, 15, 16, 17, 18, 19, 20, 21, 22, 23, 24, 25, 26, 27, 28, 29, 30], [30])])
def impl_nat_over.B17 : List Nat := [0, 0, 0, 6, 15, 31, 0, 0, 0, 384, 896, 1984, 4032, 0, 0, 0, 49152, 114688, 253952, 516096, 0, 0, 2097152, 7340032, 15728640, 0, 0, 67108864, 234881024, 503316480, 1073741823, 2147483647]
theorem impl_nat_over.tab17 : rtab .any (opsOf Try.f46 17) = impl_nat_over.T17 := by kernel_rfl
theorem impl_nat_over.bits17 : waitsOk impl_nat_over.T17.2 impl_nat_over.B17 = true := by kernel_rfl
def impl_nat_over.T34 : Bool × List (List Nat × List Nat) := (true, [([], []), ([], []), ([], []), ([1, 2], [1, 2]), ([], []), ([], []), ([], []), ([5, 6], [5, 6]), ([4, 7], [4, 7]), ([8], [8]), ([], []), ([], []), ([10, 11], [10, 11]), ([12], [12]), ([], []), ([9, 13, 14], [9, 13, 14]), ([15], [15]), ([16], [16]), ([16], [16]), ([0, 3, 0, 1, 2, 3, 4, 5, 6, 7, 8, 9, 10, 11, 12, 13, 14, 15, 16, 17], [0, 3]), ([19, 17, 15, 0, 1, 2, 3, 4, 5, 6, 7, 8, 9, 10, 11, 12, 13, 14, 15, 16, 17], [17, 19]), ([18, 20, 0, 1, 2, 3, 4, 5, 6, 7, 8, 9, 10, 11, 12, 13, 14, 15, 16, 17, 18, 19, 20], [14, 18])])
def impl_nat_over.B34 : List Nat := [0, 0, 0, 6, 0, 0, 0, 96, 240, 496, 0, 0, 3072, 7168, 0, 32752, 65520, 131056, 131056, 262143, 786431, 2097151]
theorem impl_nat_over.tab34 : rtab .any (opsOf Try.f46 34) = impl_nat_over.T34 := by kernel_rfl
theorem impl_nat_over.bits34 : waitsOk impl_nat_over.T34.2 impl_nat_over.B34 = true := by kernel_rfl
def impl_nat_over.T38 : Bool × List (List Nat × List Nat) := (true, [([], []), ([0], [0]), ([], []), ([], []), ([2, 3], [2, 3]), ([4, 1], [4]), ([], []), ([5, 6, 5], [5, 6]), ([1, 7, 0, 1], [1]), ([7, 8, 0, 1, 2, 3, 4, 5, 6, 7, 8], [7])])
def impl_nat_over.B38 : List Nat := [0, 1, 0, 0, 12, 31, 0, 127, 255, 511]
theorem impl_nat_over.tab38 : rtab .any (opsOf Try.f46 38) = impl_nat_over.T38 := by kernel_rfl
theorem impl_nat_over.bits38 : waitsOk impl_nat_over.T38.2 impl_nat_over.B38 = true := by kernel_rfl
set_option maxHeartbeats 8000000 in
set_option maxRecDepth 100000 in
theorem impl_nat_over.calls (k : Nat) (P0_ : Nat → Prop) (A0 : Option Addr) (c0 : Nat) (l0 : List Int) (A1 : Option Addr) (c1 : Nat) (l1 : List Int) (r1 : List Int) (r2 : List Int) (w : World) (hs0 : Kd.V (Kd.int .u64) 83 w w.heap.size (fun k_ => P0_ k_) (.slice A0 l0.length c0) l0) (hr1 : Kd.C (Kd.int .u64) w A1 l1.length l1) (hc1 : l1.length ≤ c1) (h : impl_nat_over.f k l0 l1 = some (r1, r2)) :
    Calls Try.prog 46 #[.slice A0 l0.length c0, .slice A1 l1.length c1] w fun e w' => ∃ v0_ v1_ : Value, e = .returned (.tuple #[v0_, v1_]) ∧ Kd.V (Kd.int .u64) 83 w' w.heap.size (fun k_ => (P0_ k_ ∨ w.heap.size ≤ k_)) v0_ r1 ∧ Kd.V (Kd.int .u64) 83 w' w.heap.size (fun k_ => (P0_ k_ ∨ w.heap.size ≤ k_)) v1_ r2 ∧ Below w.heap.size w w' := by
  have HO0 := Aside0.mk (show Kd.V (Kd.int .u64) 83 w w.heap.size (fun k_ => (P0_ k_ ∨ w.heap.size ≤ k_)) (.slice A0 l0.length c0) l0 from Kd.V_mono hs0 (fun k_ hk => .inl hk))
  have HR1 := Aside0.mk hr1
  have HC1 := Aside0.mk hc1
  clear hr1 hc1
  have HB := Aside0.mk (Below.refl w.heap.size w)
  have H : ((impl_nat_cmp.f k l0 l1).bind fun t435 => (if t435 < 0 then (some (([] : List Int), l0)) else (if (l1.length : Int) = 1 then (if 0 ≤ (l0.length : Int) then (if ((l0.length : Int) : Int).toNat ≤ 35184372088832 then (impl_nat_over.l0 k l0 l1 (List.replicate ((l0.length : Int) : Int).toNat 0) 0 (wrap64 ((l0.length : Int) - 1))) else (none)) else (none)) else (if 0 ≤ (wrap64 ((l1.length : Int) - 1)) then (if (wrap64 ((l1.length : Int) - 1)) < (l1.length : Int) then ((bits_LeadingZeros64.f k (rd l1 (wrap64 ((l1.length : Int) - 1)))).bind fun t454 => ((impl_nat_up.f k l0 t454).bind fun t455 => ((impl_nat_up.f k l1 t454).bind fun t458 => (if 0 ≤ (l1.length : Int) then (if (l1.length : Int) ≤ (t458.length : Int) then (if 0 ≤ (wrap64 ((wrap64 ((l0.length : Int) - (l1.length : Int))) + 1)) then (if (wrap64 ((wrap64 ((l0.length : Int) - (l1.length : Int))) + 1) : Int).toNat ≤ 35184372088832 then (impl_nat_over.l1 k (l1.length : Int) t454 t455 (t458.take ((l1.length : Int) : Int).toNat) (List.replicate (wrap64 ((wrap64 ((l0.length : Int) - (l1.length : Int))) + 1) : Int).toNat 0) (wrap64 ((l0.length : Int) - (l1.length : Int)))) else (none)) else (none)) else (none)) else (none))))) else (none)) else (none))))) = some (r1, r2) := h
  clear h
  replace H := Option.bind_eq_some_iff.mp H
  obtain ⟨t435, A30, H⟩ := H
  have A3 := Aside0.mk A30
  clear A30
  by_cases c4 : t435 < 0
  · rw [if_pos c4] at H
    have c4b0 : decide (t435 < 0) = true := decide_eq_true c4
    clear c4
    simp only [Option.some.injEq, Prod.mk.injEq] at H
    obtain ⟨rfl, rfl⟩ := H
    go_enter Try.func46, Try.ntmps46
    go_wp2_with (first | ((with_reducible refine gate_callee (f := 69) rfl ?_); refine gL_ 25 Try.func69 rfl #[.slice A0 l0.length c0, .slice A1 l1.length c1] ?_; (with_reducible refine (impl_nat_cmp.calls k _ _ l0 _ _ l1 t435 _ ?side1 ?side2 ?side3 ?side4 A3.out).mono ?_); (case side1 => exact pC_ (Kd.V_reads' HO0.out).2.2); (case side2 => exact (Kd.V_reads' HO0.out).2.1); (case side3 => exact pC_ HR1.out); (case side4 => exact HC1.out); rintro e w' ⟨rfl, ⟨nd, rfl⟩⟩; refine ⟨_, rfl, ?_⟩))
    go_ret2
    exact ⟨.slice none 0 0, _, by first | rfl | (simp [errW_none, errW_some] <;> rfl) | (simp [*, errW_none, errW_some] <;> rfl), Kd.V_nil _ _ _ _ _, by (with_reducible repeat (first | apply Kd.V_alloc | apply Kd.V_drewN | apply Kd.V_drew)); exact HO0.out, pB_ HB.out⟩
  rw [if_neg c4] at H
  have c4b0 : decide (t435 < 0) = false := decide_eq_false c4
  clear c4
  by_cases c5 : (l1.length : Int) = 1
  · rw [if_pos c5] at H
    have c5b0 : ((l1.length : Int) == 1) = true := beq_iff_eq.mpr c5
    have c5b1 : ((l1.length : Int) != 1) = false := bne_eq_false_iff_eq.mpr c5
    clear c5
    by_cases c6 : 0 ≤ (l0.length : Int)
    rotate_left
    · rw [if_neg c6] at H; exact absurd H (by simp)
    rw [if_pos c6] at H
    have c6b0 := eq_true c6
    have c6b1 : decide (0 ≤ (l0.length : Int)) = true := decide_eq_true c6
    clear c6
    by_cases c7 : ((l0.length : Int) : Int).toNat ≤ 35184372088832
    rotate_left
    · rw [if_neg c7] at H; exact absurd H (by simp)
    rw [if_pos c7] at H
    have c7b0 := eq_true c7
    have c7b1 : decide (((l0.length : Int) : Int).toNat ≤ 35184372088832) = true := decide_eq_true c7
    clear c7
    obtain ⟨y436, hy436⟩ : ∃ y_ : List Int, y_ = (List.replicate ((l0.length : Int) : Int).toNat 0) := ⟨_, rfl⟩
    first | rw [← hy436] at H | skip
    have Ny436 := Aside0.mk hy436
    clear hy436
    have H' := Aside0.mk H
    clear H
    go_enter Try.func46, Try.ntmps46
    go_wp2_with (first | ((with_reducible refine gate_callee (f := 69) rfl ?_); refine gL_ 25 Try.func69 rfl #[.slice A0 l0.length c0, .slice A1 l1.length c1] ?_; (with_reducible refine (impl_nat_cmp.calls k _ _ l0 _ _ l1 t435 _ ?side1 ?side2 ?side3 ?side4 A3.out).mono ?_); (case side1 => exact pC_ (Kd.V_reads' HO0.out).2.2); (case side2 => exact (Kd.V_reads' HO0.out).2.1); (case side3 => exact pC_ HR1.out); (case side4 => exact HC1.out); rintro e w' ⟨rfl, ⟨nd, rfl⟩⟩; refine ⟨_, rfl, ?_⟩) | ((with_reducible refine gate_dst (N := 34) rfl ?_); refine Kd.R_make (Kd.int .u64) _ 83 rfl (N := 34) rfl 48 _ _ rfl (l0.length : Int) rfl rfl Try.underlying48 (.int .u64 0) 8 info83 rfl (by decide) (by omega) 0 (ok := fun _ => True) (okp := fun _ => True) rfl (fun _ hk => hk) trivial (od_) (Nat.le_trans (Nat.mul_le_mul_right _ (od_ : (l0.length : Int).toNat ≤ 35184372088832)) (by omega)) (Below.refl _ _) (Nat.le_refl _) ?_; intro v437 w8 ho9 hb hg_ hnew_; clear hg_ hnew_; (first | rw [← Ny436.out] at ho9 | (simp only [Int.reduceToNat] at ho9; rw [← Ny436.out] at ho9)); replace HO0 := Aside0.mk (Kd.V_elder' (pV_ HO0.out) (Kd.R_base ho9) hb); have HO438 := Aside0.mk (Kd.R_lower (Kd.R_newM (M := fun k_ => (w.heap.size ≤ k_)) ho9 (below_size (pB_ HB.out)) (fun k_ h_ => h_)) (below_size (pB_ HB.out))); replace HB := Aside0.mk (below_step (pB_ HB.out) hb); clear hb ho9))
    repeat (rw [addr_self]; generalize Addr.add _ _ = az_)
    go_loopg [8, 9] k (fun kq v8 v9 w' => ∃ (x7_1 : List Int) (x8_1 : Int) (x9_1 : Int), v8 = .int .u64 x8_1 ∧ v9 = .int .i64 x9_1 ∧ Aside0 (impl_nat_over.l0 kq l0 l1 x7_1 x8_1 x9_1 = some (r1, r2)) ∧ Aside0 (kq ≤ k) ∧ Aside0 (Kd.V (Kd.int .u64) 83 w' w.heap.size (fun k_ => (P0_ k_ ∨ w.heap.size ≤ k_) ∧ some k_ ≠ (v437 : Value).ownBlock) (.slice A0 l0.length c0) l0) ∧ Aside0 (Kd.R (Kd.int .u64) 83 w' w.heap.size (fun k_ => (w.heap.size ≤ k_)) v437 x7_1) ∧ Aside0 (Below w.heap.size w w'))
    case atStart => exact ⟨(y436), (0), (wrap64 ((l0.length : Int) - 1)), (by first | rfl | (simp; done) | (simp [*]; done)), (by first | rfl | (simp; done) | (simp [*]; done)), H', ⟨Nat.le_refl _⟩, ⟨by (with_reducible repeat (first | apply Kd.V_alloc | apply Kd.V_drewN | apply Kd.V_drew)); exact HO0.out⟩, ⟨by (with_reducible repeat (first | apply Kd.R_alloc | apply Kd.R_drewN | apply Kd.R_drew)); exact Kd.R_mono HO438.out (fun _ hk => hk.1)⟩, ⟨pB_ HB.out⟩⟩
    clear H'
    try clear c1
    try clear p2
    try clear c4
    try clear c4b0
    try clear c5
    try clear c5b0
    try clear c5b1
    try clear c6
    try clear c6b0
    try clear c6b1
    try clear p6
    try clear c7
    try clear c7b0
    try clear c7b1
    obtain ⟨x7_1, x8_1, x9_1, rfl, rfl, HA, HK1, HO_0, HO_7, HB⟩ := hrel
    rcases gk with _ | k1
    · exact absurd HA.out (by simp [impl_nat_over.l0])
    have H := HA.out
    clear HA
    simp only [impl_nat_over.l0] at H
    by_cases c10 : x9_1 ≥ 0
    rotate_left
    · rw [if_neg c10] at H
      have c10b0 : decide (0 ≤ x9_1) = false := decide_eq_false c10
      clear c10
      replace H := Option.bind_eq_some_iff.mp H
      obtain ⟨t444, A190, H⟩ := H
      have A19 := Aside0.mk A190
      clear A190
      obtain ⟨y447, hy447⟩ : ∃ y_ : List Int, y_ = (([x8_1] : List Int)) := ⟨_, rfl⟩
      replace H : ((impl_nat_trim.f k1 y447).bind fun t450 => (some (t444, t450))) = some (r1, r2) := by first | (rw [hy447]; with_reducible exact H) | (have H2_ := (Option.bind_some _ _).symm.trans H; rw [hy447]; with_reducible exact H2_) | (have H2_ := (Option.bind_some _ _).symm.trans H; with_reducible exact H2_) | with_reducible exact H | (rw [hy447]; exact H) | exact H
      have Ny447 := Aside0.mk hy447
      clear hy447
      replace H := Option.bind_eq_some_iff.mp H
      obtain ⟨t450, A200, H⟩ := H
      have A20 := Aside0.mk A200
      clear A200
      simp only [Option.some.injEq, Prod.mk.injEq] at H
      obtain ⟨rfl, rfl⟩ := H
      obtain ⟨Ao21, co21, eo21⟩ := Kd.R_slice HO_7.out
      subst eo21
      go_wp2_with (first | ((with_reducible refine gate_callee (f := 75) rfl ?_); refine gL_ 58 Try.func75 rfl #[.slice Ao21 x7_1.length co21] ?_; (with_reducible refine (impl_nat_trim.calls k1 (fun k_ => some k_ = (.slice Ao21 x7_1.length co21 : Value).ownBlock) _ _ x7_1 t444 _ ?side1 A19.out).mono ?_); (case side1 => exact Kd.R_V (Kd.R_tight rfl (HO_7.out))); rintro e w22 ⟨v445, rfl, ho0, hb⟩; refine ⟨_, rfl, ?_⟩; replace HO_0 := Aside0.mk (Kd.V_below (pV_ HO_0.out) hb); have HO446 := Aside0.mk (Kd.V_lower (Kd.V_mono (ok' := fun k_ => (P0_ k_ ∨ w.heap.size ≤ k_)) ho0 (fun k_ hk_ => Or.elim hk_ (fun hs_ => (.inr (((HO_7.out).1 k_ hs_.symm)))) (fun hn_ => (.inr (Nat.le_trans (below_size (pB_ HB.out)) hn_))))) (below_size (pB_ HB.out))); replace HO_7 := Aside0.mk (Kd.R_below (pR_ HO_7.out) hb); replace HB := Aside0.mk (below_step (pB_ HB.out) hb); clear hb ho0) | ((with_reducible refine gate_dst (N := 60) rfl ?_); refine Kd.R_lit (Kd.int .u64) _ 83 ?hg (N := 60) ?hd (xs := ([x8_1] : List Int)) (inner := [.int .u64 x8_1]) (ok := fun _ => True) (okp := fun _ => True) ?hr ?hp (fun _ hk => hk) trivial (Below.refl _ _) (Nat.le_refl _) (by simp) ?_; (case hd => rfl); (case hg => rfl); (case hr => first | (go_simp; done) | (go_simp; rfl)); (case hp => exact (Reps.one (show Kd.M (Kd.int .u64) _ _ _ x8_1 [.int .u64 x8_1] from rfl) (Reps.none _ _))); intro v448 w23 ho24 hb hg_ hnew_; clear hg_ hnew_; (first | rw [← Ny447.out] at ho24 | (simp only [Int.reduceToNat] at ho24; rw [← Ny447.out] at ho24)); replace HO_0 := Aside0.mk (Kd.V_elder' (pV_ HO_0.out) (Kd.R_base ho24) hb); replace HO446 := Aside0.mk (Kd.V_elder' (pV_ HO446.out) (Kd.R_base ho24) hb); have HO449 := Aside0.mk (Kd.R_lower (Kd.R_new' (Kd.R_newM (M := fun k_ => (w.heap.size ≤ k_)) ho24 (below_size (pB_ HB.out)) (fun k_ h_ => h_)) (Kd.R_lt (pR_ HO_7.out))) (below_size (pB_ HB.out))); replace HO_7 := Aside0.mk (Kd.R_elder' (pR_ HO_7.out) (Kd.R_base ho24) hb); replace HB := Aside0.mk (below_step (pB_ HB.out) hb); clear hb ho24; obtain ⟨Ao25, co25, eo25⟩ := Kd.R_slice HO449.out; subst eo25) | ((with_reducible refine gate_callee (f := 75) rfl ?_); refine gL_ 61 Try.func75 rfl #[.slice Ao25 y447.length co25] ?_; (with_reducible refine (impl_nat_trim.calls k1 (fun k_ => some k_ = (.slice Ao25 y447.length co25 : Value).ownBlock) _ _ y447 t450 _ ?side1 A20.out).mono ?_); (case side1 => exact Kd.R_V (Kd.R_tight rfl (HO449.out))); rintro e w26 ⟨v451, rfl, ho0, hb⟩; refine ⟨_, rfl, ?_⟩; replace HO_0 := Aside0.mk (Kd.V_below (pV_ HO_0.out) hb); replace HO446 := Aside0.mk (Kd.V_below (pV_ HO446.out) hb); have HO452 := Aside0.mk (Kd.V_lower (Kd.V_mono (ok' := fun k_ => (P0_ k_ ∨ w.heap.size ≤ k_) ∧ some k_ ≠ (.slice Ao21 x7_1.length co21 : Value).ownBlock) ho0 (fun k_ hk_ => ⟨Or.elim hk_ (fun hs_ => (.inr (((HO449.out).1 k_ hs_.symm).1.1))) (fun hn_ => (.inr (Nat.le_trans (below_size (pB_ HB.out)) hn_))), Or.elim hk_ (fun hs_ => ((HO449.out).1 k_ hs_.symm).2) (fun hn_ => (Kd.fresh' (Kd.R_lt (pR_ HO_7.out)) k_ hn_))⟩)) (below_size (pB_ HB.out))); replace HO_7 := Aside0.mk (Kd.R_below (pR_ HO_7.out) hb); replace HO449 := Aside0.mk (Kd.R_below (pR_ HO449.out) hb); replace HB := Aside0.mk (below_step (pB_ HB.out) hb); clear hb ho0))
      go_ret2
      exact ⟨_, _, by first | rfl | (simp [errW_none, errW_some] <;> rfl) | (simp [*, errW_none, errW_some] <;> rfl), by (with_reducible repeat (first | apply Kd.V_alloc | apply Kd.V_drewN | apply Kd.V_drew)); exact Kd.V_mono HO446.out (fun _ hk => hk.1), by (with_reducible repeat (first | apply Kd.V_alloc | apply Kd.V_drewN | apply Kd.V_drew)); exact Kd.V_mono HO452.out (fun _ hk => hk.1), pB_ HB.out⟩
    rw [if_pos c10] at H
    have c10b0 : decide (0 ≤ x9_1) = true := decide_eq_true c10
    clear c10
    by_cases c11 : 0 ≤ x9_1
    rotate_left
    · rw [if_neg c11] at H; exact absurd H (by simp)
    rw [if_pos c11] at H
    have c11b0 : decide (0 ≤ x9_1) = true := decide_eq_true c11
    clear c11
    by_cases c12 : x9_1 < (l0.length : Int)
    rotate_left
    · rw [if_neg c12] at H; exact absurd H (by simp)
    rw [if_pos c12] at H
    have c12b0 : decide (x9_1 < (l0.length : Int)) = true := decide_eq_true c12
    clear c12
    by_cases c13 : 0 < (l1.length : Int)
    rotate_left
    · rw [if_neg c13] at H; exact absurd H (by simp)
    rw [if_pos c13] at H
    have c13b0 : decide (0 < (l1.length : Int)) = true := decide_eq_true c13
    have c13b1 : decide (0 < l1.length) = true := decide_eq_true (by omega)
    clear c13
    replace H := Option.bind_eq_some_iff.mp H
    obtain ⟨⟨t441, t442⟩, A140, H⟩ := H
    replace H : (if x9_1 < (x7_1.length : Int) then (impl_nat_over.l0 k1 l0 l1 (x7_1.set (x9_1 : Int).toNat t441) t442 (wrap64 (x9_1 - 1))) else (none)) = some (r1, r2) := H
    have A14 := Aside0.mk A140
    clear A140
    by_cases c15 : x9_1 < (x7_1.length : Int)
    rotate_left
    · rw [if_neg c15] at H; exact absurd H (by simp)
    rw [if_pos c15] at H
    have c15b0 : decide (x9_1 < (x7_1.length : Int)) = true := decide_eq_true c15
    clear c15
    obtain ⟨y443, hy443⟩ : ∃ y_ : List Int, y_ = (x7_1.set (x9_1 : Int).toNat t441) := ⟨_, rfl⟩
    first | rw [← hy443] at H | skip
    have Ny443 := Aside0.mk hy443
    clear hy443
    have H' := Aside0.mk H
    clear H
    try go_wp2
    have n0_ := Aside0.mk (Kd.V_drew HO_0.out)
    have n1_ := Aside0.mk (Kd.R_drew HO_7.out)
    have n2_ := Aside0.mk (below_drew1 HB.out)
    clear HO_0
    clear HO_7
    clear HB
    have HO_0 := n0_
    have HO_7 := n1_
    have HB := n2_
    clear n0_ n1_ n2_
    have p439 : 0 ≤ (x9_1 : Int) := od_
    have q439 : x9_1 < (l0.length : Int) := od_
    obtain ⟨ad439, e439, hx439_0⟩ := Kd.at_int (Kd.V_reads' HO_0.out).2.2 x9_1 p439 q439
    cases e439
    replace p439 := eq_true p439
    replace q439 := eq_true q439
    have p440 : 0 ≤ (0 : Int) := (by omega)
    have q440 : 0 < (l1.length : Int) := od_
    obtain ⟨ad440, e440, hx440_0⟩ := Kd.at_int HR1.out 0 p440 q440
    have hw440_0 := hx440_0
    (try rw [show ((0 : Int)).toNat = 0 from rfl] at hw440_0)
    (try rw [show 0 * 1 = 0 from rfl] at hw440_0)
    (try rw [Addr.add_zero'] at hw440_0)
    cases e440
    have qi440 : (0 < l1.length) = True := eq_true (by omega)
    (try rw [show ((0 : Int)).toNat = 0 from rfl] at hx440_0)
    (try rw [Addr.add_zero'] at hx440_0)
    replace hx440_0 := (HB.out.cell (World.block_lt_of_cell? w _ hx440_0)).trans hx440_0
    replace p440 := eq_true p440
    replace q440 := eq_true q440
    refine start_ (n := 17) (S := fun w' => w'.cell? (ad439.add (x9_1).toNat) = some (.int .u64 (rd l0 x9_1)) ∧ w'.cell? ad440 = some (.int .u64 (rd l1 0))) (ds := [15]) #[false, false, false, false, false, false, false, false, false, false, false, false, false, false, false, false, false] (by kernel_rfl) rfl rfl ⟨hx439_0, ((HB.out.cell (World.block_lt_of_cell? w _ hw440_0)).trans hw440_0)⟩ (fun hHeld => ?_); refine with_tabW impl_nat_over.tab9 impl_nat_over.bits9 (fun HT_ HW_ => ?_)
    generalize wr.drew = w17 at HO_0 HO_7 HB hx439_0 hx440_0 hHeld ⊢
    refine pu_ 0 43 HT_.out ?_
    refine pu_ 1 44 HT_.out ?_
    refine pu_ 2 45 HT_.out ?_
    refine pu_ 3 46 HT_.out ?_
    refine pu_ 4 47 HT_.out ?_
    refine pu_ 5 48 HT_.out ?_
    refine pu_ 7 50 HT_.out ?_
    refine pu_ 8 51 HT_.out ?_
    refine take_ (i := 6) (N := some 49) (v := ?_) (a' := ?_) #[true, true, true, true, true, true, true, true, true, false, false, false, false, false, false, false, false] rfl rfl (take_ofW HT_.out HW_.out (by kernel_rfl)) (fun _ _ _ h => h) (Or.inl ⟨by rfl, ?_⟩) hHeld ?_ ?_
    rotate_left
    · rintro w' ⟨s0, s1⟩
      go_simp
      with_reducible rfl
    rotate_left
    · simp only [Act.put, List.setIfInBounds_toArray, List.set_cons_zero, List.set_cons_succ, i64_w, i32_w]
      rfl
    refine take_ (i := 9) (N := some 52) (v := ?_) (a' := ?_) #[true, true, true, true, true, true, true, true, true, true, false, false, false, false, false, false, false] rfl rfl (take_ofW HT_.out HW_.out (by kernel_rfl)) (fun _ _ _ h => h) (Or.inl ⟨by rfl, ?_⟩) hHeld ?_ ?_
    rotate_left
    · rintro w' ⟨s0, s1⟩
      go_simp
      with_reducible rfl
    rotate_left
    · simp only [Act.put, List.setIfInBounds_toArray, List.set_cons_zero, List.set_cons_succ, i64_w, i32_w]
      rfl
    refine one_ (i := 10) (N := some 53) #[true, true, true, true, true, true, true, true, true, true, true, false, false, false, false, false, false] rfl rfl (one_of HT_.out (by kernel_rfl)) (by decide) (fun K hK => ?_)
    refine goes_ Try.func78 (by kernel_rfl) rfl #[.int .u64 x8_1, .int .u64 (rd l0 x9_1), .int .u64 (rd l1 0)] (by rfl) rfl rfl (by (try simp only [List.map_toArray, List.map_cons, List.map_nil]); first | done | rfl | (simp only [List.length_drop, List.length_take]; rfl)) ?_
    with_reducible refine (bits_Div64.calls k1 x8_1 (rd l0 x9_1) (rd l1 0) t441 t442 _ A14.out).mono ?_
    rintro e w' ⟨rfl, ⟨nd, rfl⟩⟩
    refine ⟨_, rfl, ?_⟩
    have p16 : 0 ≤ (x9_1 : Int) := od_
    have q16 : (x9_1 : Int) < ((x7_1.length : Int) : Int) := od_
    obtain ⟨go16, co16, eo16, gb16, gl16, cl16, HG16⟩ := Kd.R_form HO_7.out (by omega)
    (first | cases eo16 | (injection eo16 with ea_ en_ ec_; (first | subst ea_ | (injection ea_ with ea_; subst ea_)); subst ec_; clear en_))
    have GB16 := Aside0.mk gb16
    have GG16 := Aside0.mk HG16
    clear gb16 gl16 HG16
    obtain ⟨hx16_0, hf16_0⟩ := Kd.R_celln 0 HO_7.out (x9_1 : Int) p16 q16
    replace p16 := eq_true p16
    replace q16 := eq_true q16
    have HP18 := Kd.R_putn HO_7.out (x9_1 : Int) t441
    rw [← Ny443.out] at HP18
    have HQ18 := Aside0.mk HP18
    clear HP18
    refine hK.out _ _ ⟨hHeld.1, ((HB.out.cell (World.block_lt_of_cell? w _ hw440_0)).trans hw440_0)⟩ (fun hHeld => ?_)
    clear hK K
    refine norm_ (a' := ?_) ?_ ?_
    rotate_left
    · show Act.put _ (some 53) _ = _
      simp only [Act.put, List.setIfInBounds_toArray, List.set_cons_zero, List.set_cons_succ, i64_w, i32_w]
      rfl
    refine pu_ 11 42 HT_.out ?_
    refine pu_ 12 54 HT_.out ?_
    refine pu_ 13 55 HT_.out ?_
    refine pu_ 14 56 HT_.out ?_
    refine last_ (i := 15) (N := none) #[true, true, true, true, true, true, true, true, true, true, true, true, true, true, true, true, false] rfl rfl (one_of HT_.out (by kernel_rfl)) (by decide) (fun K hK => ?_)
    refine skip_ (w1 := ?_) (by rfl) rfl ?_ ?_
    rotate_left
    · go_simp
      rfl
    refine hK.out _ _ ?_
    clear hK K
    refine pu_ 16 8 HT_.out ?_
    refine done_ (done_of HT_.out (by kernel_rfl)) ?_
    try go_wp2
    go_roundg k1
    case measure => have := HK1.out; omega
    case rel => exact ⟨(y443), (t442), (wrap64 (x9_1 - 1)), (by first | rfl | (simp; done) | (simp [*]; done)), (by first | rfl | (simp; done) | (simp [*]; done)), H', ⟨by have := HK1.out; omega⟩, ⟨by (with_reducible repeat (first | apply Kd.V_alloc | apply Kd.V_drewN | apply Kd.V_drew)); exact Kd.V_mono (Kd.V_far (p := ⟨go16, (x9_1 : Int).toNat, none⟩) (Kd.V_mono HO_0.out (fun k_ hk => (⟨hk, fun e_ => hk.2 (by rw [e_]; rfl)⟩ : _ ∧ k_ ≠ go16))) (fun _ hk => hk.2) (.int .u64 t441)) (fun _ hk => ⟨hk.1.1, hk.1.2⟩)⟩, ⟨by (with_reducible repeat (first | apply Kd.R_alloc | apply Kd.R_drewN | apply Kd.R_drew)); exact HQ18.out⟩, ⟨by repeat (first | (with_reducible first | exact HB.out | apply below_alloc | apply pw_below_drewN | apply below_drew1 | refine below_set ?_ GB16.out) | exact HB.out)⟩⟩
  rw [if_neg c5] at H
  have c5b0 : ((l1.length : Int) == 1) = false := beq_eq_false_iff_ne.mpr c5
  have c5b1 : ((l1.length : Int) != 1) = true := bne_iff_ne.mpr c5
  obtain ⟨ji27, hji27⟩ : ∃ j_ : Int, (wrap64 ((l1.length : Int) - 1)) = j_ := ⟨_, rfl⟩
  first | rw [hji27] at H | simp only [hji27] at H | skip
  (try rw [hji27] at A3)
  have hji27w : (IntKind.i64.wrap ((l1.length : Int) - 1)) = ji27 := (i64_w _).trans hji27
  by_cases c28 : 0 ≤ (ji27)
  rotate_left
  · rw [if_neg c28] at H
    exact absurd H (by simp)

  rw [if_pos c28] at H
  have c28b0 : decide (0 ≤ (ji27)) = true := decide_eq_true c28
  clear c28
  by_cases c29 : (ji27) < (l1.length : Int)
  rotate_left
  · rw [if_neg c29] at H; exact absurd H (by simp)
  rw [if_pos c29] at H
  have c29b0 : decide ((ji27) < (l1.length : Int)) = true := decide_eq_true c29
  clear c29
  replace H := Option.bind_eq_some_iff.mp H
  obtain ⟨t454, A300, H⟩ := H
  have A30 := Aside0.mk A300
  clear A300
  replace H := Option.bind_eq_some_iff.mp H
  obtain ⟨t455, A310, H⟩ := H
  have A31 := Aside0.mk A310
  clear A310
  replace H := Option.bind_eq_some_iff.mp H
  obtain ⟨t458, A320, H⟩ := H
  have A32 := Aside0.mk A320
  clear A320
  by_cases c33 : 0 ≤ (l1.length : Int)
  rotate_left
  · rw [if_neg c33] at H; exact absurd H (by simp)
  rw [if_pos c33] at H
  have c33b0 := eq_true c33
  have c33b1 : decide (0 ≤ (l1.length : Int)) = true := decide_eq_true c33
  clear c33
  by_cases c34 : (l1.length : Int) ≤ (t458.length : Int)
  rotate_left
  · rw [if_neg c34] at H; exact absurd H (by simp)
  rw [if_pos c34] at H
  have c34b0 := eq_true c34
  have c34b1 : decide ((l1.length : Int) ≤ (t458.length : Int)) = true := decide_eq_true c34
  clear c34
  obtain ⟨y461, hy461⟩ : ∃ y_ : List Int, y_ = (t458.take ((l1.length : Int) : Int).toNat) := ⟨_, rfl⟩
  first | rw [← hy461] at H | skip
  have Ny461 := Aside0.mk hy461
  clear hy461
  obtain ⟨ji35, hji35⟩ : ∃ j_ : Int, (wrap64 ((wrap64 ((l0.length : Int) - (l1.length : Int))) + 1)) = j_ := ⟨_, rfl⟩
  first | rw [hji35] at H | simp only [hji35] at H | skip
  (try rw [hji35] at A3)
  (try rw [hji35] at A30)
  (try rw [hji35] at A31)
  (try rw [hji35] at A32)
  have hji35w : (IntKind.i64.wrap ((wrap64 ((l0.length : Int) - (l1.length : Int))) + 1)) = ji35 := (i64_w _).trans hji35
  by_cases c36 : 0 ≤ (ji35)
  rotate_left
  · rw [if_neg c36] at H; exact absurd H (by simp)
  rw [if_pos c36] at H
  have c36b0 := eq_true c36
  have c36b1 : decide (0 ≤ (ji35)) = true := decide_eq_true c36
  clear c36
  by_cases c37 : (ji35 : Int).toNat ≤ 35184372088832
  rotate_left
  · rw [if_neg c37] at H; exact absurd H (by simp)
  rw [if_pos c37] at H
  have c37b0 := eq_true c37
  have c37b1 : decide ((ji35 : Int).toNat ≤ 35184372088832) = true := decide_eq_true c37
  clear c37
  obtain ⟨y466, hy466⟩ : ∃ y_ : List Int, y_ = (List.replicate (ji35 : Int).toNat 0) := ⟨_, rfl⟩
  first | rw [← hy466] at H | skip
  have Ny466 := Aside0.mk hy466
  clear hy466
  have H' := Aside0.mk H
  clear H
  go_enter Try.func46, Try.ntmps46
  try go_wp2_with (first | ((with_reducible refine gate_callee (f := 69) rfl ?_); refine gL_ 25 Try.func69 rfl #[.slice A0 l0.length c0, .slice A1 l1.length c1] ?_; (with_reducible refine (impl_nat_cmp.calls k _ _ l0 _ _ l1 t435 _ ?side1 ?side2 ?side3 ?side4 A3.out).mono ?_); (case side1 => exact pC_ (Kd.V_reads' HO0.out).2.2); (case side2 => exact (Kd.V_reads' HO0.out).2.1); (case side3 => exact pC_ HR1.out); (case side4 => exact HC1.out); rintro e w' ⟨rfl, ⟨nd, rfl⟩⟩; refine ⟨_, rfl, ?_⟩; have p453 : 0 ≤ ((ji27) : Int) := od_; have q453 : (ji27) < (l1.length : Int) := od_; obtain ⟨ad453, e453, hx453_0⟩ := Kd.at_int HR1.out (ji27) p453 q453; cases e453; replace p453 := eq_true p453; replace q453 := eq_true q453) | ((with_reducible refine gate_callee (f := 79) rfl ?_); refine goesL_ (some 67) rfl rfl Try.func79 (by kernel_rfl) rfl #[.int .u64 (rd l1 (ji27))] rfl (by (try simp only [List.map_toArray, List.map_cons, List.map_nil]); first | done | (simp only [hji27]; rfl) | rfl | (simp only [List.length_drop, List.length_take]; rfl)) ?_; (with_reducible refine (bits_LeadingZeros64.calls k (rd l1 (ji27)) t454 _ A30.out).mono ?_); rintro e w' ⟨rfl, ⟨nd, rfl⟩⟩; refine ⟨_, rfl, ?_⟩))
  (rw [drewN_self w]; generalize hq_ : World.drewN w _ = w38; have n0_ : Aside0 (Kd.V (Kd.int .u64) 83 w38 w.heap.size (fun k_ => (P0_ k_ ∨ w.heap.size ≤ k_)) (.slice A0 l0.length c0) l0) := ⟨by rw [← hq_]; exact (pV_ HO0.out)⟩; have n1_ : Aside0 (Below w.heap.size w w38) := ⟨by rw [← hq_]; exact (pB_ HB.out)⟩; clear HO0 HB hq_; have HO0 := n0_; have HB := n1_; clear n0_ n1_)
  have n0_ := Aside0.mk (Kd.V_drew HO0.out)
  have n1_ := Aside0.mk (below_drew1 HB.out)
  clear HO0
  clear HB
  have HO0 := n0_
  have HB := n1_
  clear n0_ n1_
  refine start_ (n := 10) (S := fun w' => True) (ds := []) #[false, false, false, false, false, false, false, false, false, false] (by kernel_rfl) rfl rfl trivial (fun hHeld => ?_); refine with_tabW impl_nat_over.tab12 impl_nat_over.bits12 (fun HT_ HW_ => ?_)
  generalize w38.drew = w39 at HO0 HB hHeld ⊢
  refine pu_ 0 68 HT_.out ?_
  refine pu_ 1 69 HT_.out ?_
  refine pu_ 3 71 HT_.out ?_
  refine pu_ 4 72 HT_.out ?_
  refine pu_ 6 74 HT_.out ?_
  refine one_ (i := 2) (N := some 70) #[true, true, true, true, true, false, true, false, false, false] rfl rfl (one_of HT_.out (by kernel_rfl)) (by decide) (fun K hK => ?_)
  refine goes_ Try.func80 (by kernel_rfl) rfl #[.slice A0 l0.length c0, .int .i64 t454] (by rfl) rfl rfl (by (try simp only [List.map_toArray, List.map_cons, List.map_nil]); first | done | rfl | (simp only [List.length_drop, List.length_take]; rfl)) ?_
  with_reducible refine (impl_nat_up.calls k _ _ l0 t454 t455 _ ?side1 ?side2 A31.out).mono ?_
  (case side1 => exact pC_ (Kd.V_reads' HO0.out).2.2)
  (case side2 => exact (Kd.V_reads' HO0.out).2.1)
  rintro e w40 ⟨v456, rfl, ho0, hb⟩
  refine ⟨_, rfl, ?_⟩
  have n0_ := Aside0.mk (Kd.V_elder' (pV_ HO0.out) (Kd.R_base ho0) hb)
  have n1_ := Aside0.mk (Kd.R_lower (Kd.R_newM (M := fun k_ => (w.heap.size ≤ k_)) ho0 (below_size (pB_ HB.out)) (fun k_ h_ => h_)) (below_size (pB_ HB.out)))
  have n2_ := Aside0.mk (below_step (pB_ HB.out) hb)
  clear HO0
  clear HB
  have HO0 := n0_
  have HO457 := n1_
  have HB := n2_
  clear n0_ n1_ n2_
  (try clear hb)
  (try clear hb2)
  (try clear hk)
  (try clear hi)
  (try clear ho0)
  refine hK.out _ _ trivial (fun hHeld => ?_)
  clear hK K
  refine norm_ (a' := ?_) ?_ ?_
  rotate_left
  · show Act.put _ (some 70) _ = _
    simp only [Act.put, List.setIfInBounds_toArray, List.set_cons_zero, List.set_cons_succ, i64_w, i32_w]
    rfl
  refine one_ (i := 5) (N := some 73) #[true, true, true, true, true, true, true, false, false, false] rfl rfl (one_of HT_.out (by kernel_rfl)) (by decide) (fun K hK => ?_)
  refine goes_ Try.func80 (by kernel_rfl) rfl #[.slice (some ad453) l1.length c1, .int .i64 t454] (by rfl) rfl rfl (by (try simp only [List.map_toArray, List.map_cons, List.map_nil]); first | done | rfl | (simp only [List.length_drop, List.length_take]; rfl)) ?_
  with_reducible refine (impl_nat_up.calls k _ _ l1 t454 t458 _ ?side1 ?side2 A32.out).mono ?_
  (case side1 => exact pC_ (Kd.C_below HR1.out HB.out))
  (case side2 => exact HC1.out)
  rintro e w41 ⟨v459, rfl, ho0, hb⟩
  refine ⟨_, rfl, ?_⟩
  have n0_ := Aside0.mk (Kd.V_elder' (pV_ HO0.out) (Kd.R_base ho0) hb)
  have n1_ := Aside0.mk (Kd.R_elder' (pR_ HO457.out) (Kd.R_base ho0) hb)
  have n2_ := Aside0.mk (Kd.R_lower (Kd.R_new' (Kd.R_newM (M := fun k_ => (w.heap.size ≤ k_)) ho0 (below_size (pB_ HB.out)) (fun k_ h_ => h_)) (Kd.R_lt (pR_ HO457.out))) (below_size (pB_ HB.out)))
  have n3_ := Aside0.mk (below_step (pB_ HB.out) hb)
  clear HO0
  clear HO457
  clear HB
  have HO0 := n0_
  have HO457 := n1_
  have HO460 := n2_
  have HB := n3_
  clear n0_ n1_ n2_ n3_
  (try clear hb)
  (try clear hb2)
  (try clear hk)
  (try clear hi)
  (try clear ho0)
  obtain ⟨Ao43, co43, eo43⟩ := Kd.R_slice HO460.out
  (first | subst eo43 | (injection eo43 with f1_ f2_ f3_; have f4_ := f1_.symm; have f5_ := f3_.symm; clear f1_ f2_ f3_; subst f4_; subst f5_))
  have q42 : ((l1.length : Int) : Int) ≤ ((t458.length : Int) : Int) := od_
  obtain ⟨i042, hi042, _, hsz42, _⟩ := info_parts info83
  have hroom42 : t458.length ≤ co43 := (Kd.R_reads' HO460.out).2.1
  have hC42 : Kd.F (Kd.int .u64) _ _ Ao43 t458.length t458 := (Kd.V_at (base := w.heap.size) (Kd.V_mono (ok' := (fun k_ => (((P0_ k_ ∨ w.heap.size ≤ k_) ∧ True) ∧ some k_ ≠ (v456 : Value).ownBlock))) (Kd.R_V HO460.out) (fun k_ hk => ⟨⟨(.inr (hk.1.1)), trivial⟩, hk.2⟩))).2.2
  have hcut42 := cut_to (P := Try.prog) 48 83 .i64 Try.underlying48 hi042 Ao43 t458.length co43 (l1.length : Int) (od_) q42 hroom42
  have hr42 := Kd.F_take (m := ((l1.length : Int) : Int).toNat) hC42 (by omega)
  have hy42 : y461.length = ((l1.length : Int) : Int).toNat := (by rw [Ny461.out, List.length_take]; omega)
  rw [← Ny461.out] at hr42
  rw [← hy42] at hcut42
  have HO465 := Aside0.mk (show Kd.V (Kd.int .u64) 83 _ w.heap.size _ (.slice Ao43 y461.length co43) y461 from Kd.V_mk (by omega) hr42)
  have HC465 := Aside0.mk (show y461.length ≤ co43 from by omega)
  clear hr42 hC42 hroom42 hi042 hsz42
  have KY42 := Aside0.mk hy42
  clear hy42
  replace q42 := eq_true q42
  refine hK.out _ _ trivial (fun hHeld => ?_)
  clear hK K
  refine norm_ (a' := ?_) ?_ ?_
  rotate_left
  · show Act.put _ (some 73) _ = _
    simp only [Act.put, List.setIfInBounds_toArray, List.set_cons_zero, List.set_cons_succ, i64_w, i32_w]
    rfl
  refine pu_ 7 75 HT_.out ?_
  refine pu_ 8 11 HT_.out ?_
  refine pu_ 9 12 HT_.out ?_
  refine done_ (done_of HT_.out (by kernel_rfl)) ?_
  try go_wp2_with (first | ((with_reducible refine gate_dst (N := 81) rfl ?_); refine Kd.R_make (Kd.int .u64) _ 83 rfl (N := 81) rfl 48 _ _ rfl ji35 rfl rfl Try.underlying48 (.int .u64 0) 8 info83 rfl (by decide) (by omega) 0 (ok := fun _ => True) (okp := fun _ => True) rfl (fun _ hk => hk) trivial (od_) (Nat.le_trans (Nat.mul_le_mul_right _ (od_ : ji35.toNat ≤ 35184372088832)) (by omega)) (Below.refl _ _) (Nat.le_refl _) ?_; intro v467 w44 ho45 hb hg_ hnew_; clear hg_ hnew_; (first | rw [← Ny466.out] at ho45 | (simp only [Int.reduceToNat] at ho45; rw [← Ny466.out] at ho45)); replace HO0 := Aside0.mk (Kd.V_elder' (pV_ HO0.out) (Kd.R_base ho45) hb); replace HO465 := Aside0.mk (Kd.V_elder' (pV_ HO465.out) (Kd.R_base ho45) hb); have HO468 := Aside0.mk (Kd.R_lower (Kd.R_new' (Kd.R_new' (Kd.R_newM (M := fun k_ => (w.heap.size ≤ k_)) ho45 (below_size (pB_ HB.out)) (fun k_ h_ => h_)) (Kd.R_lt (pR_ HO457.out))) (Kd.R_lt (pR_ HO460.out))) (below_size (pB_ HB.out))); replace HO457 := Aside0.mk (Kd.R_elder' (pR_ HO457.out) (Kd.R_base ho45) hb); replace HO460 := Aside0.mk (Kd.R_elder' (pR_ HO460.out) (Kd.R_base ho45) hb); replace HB := Aside0.mk (below_step (pB_ HB.out) hb); clear hb ho45))
  repeat (rw [addr_self]; generalize Addr.add _ _ = az_)
  go_loopg [14] k (fun kq v14 w' => ∃ (x11_1 : List Int) (x13_1 : List Int) (x14_1 : Int), v14 = .int .i64 x14_1 ∧ Aside0 (impl_nat_over.l1 kq (l1.length : Int) t454 x11_1 y461 x13_1 x14_1 = some (r1, r2)) ∧ Aside0 (kq ≤ k) ∧ Aside0 (Kd.R (Kd.int .u64) 83 w' w.heap.size (fun k_ => (w.heap.size ≤ k_) ∧ some k_ ≠ (v467 : Value).ownBlock) v456 x11_1) ∧ Aside0 (Kd.V (Kd.int .u64) 83 w' w.heap.size (fun k_ => (P0_ k_ ∨ w.heap.size ≤ k_) ∧ some k_ ≠ (v456 : Value).ownBlock ∧ some k_ ≠ (v467 : Value).ownBlock) (.slice Ao43 y461.length co43) y461) ∧ Aside0 (Kd.R (Kd.int .u64) 83 w' w.heap.size (fun k_ => (w.heap.size ≤ k_) ∧ some k_ ≠ (v456 : Value).ownBlock) v467 x13_1) ∧ Aside0 (Below w.heap.size w w'))
  case atStart => exact ⟨(t455), (y466), (wrap64 ((l0.length : Int) - (l1.length : Int))), (by first | rfl | (simp; done) | (simp [*]; done)), H', ⟨Nat.le_refl _⟩, ⟨by (with_reducible repeat (first | apply Kd.R_alloc | apply Kd.R_drewN | apply Kd.R_drew)); exact Kd.R_mono HO457.out (fun _ hk => ⟨hk.1.1.1, hk.2⟩)⟩, ⟨by (with_reducible repeat (first | apply Kd.V_alloc | apply Kd.V_drewN | apply Kd.V_drew)); exact Kd.V_mono HO465.out (fun _ hk => ⟨hk.1.1.1, ⟨hk.1.2, hk.2⟩⟩)⟩, ⟨by (with_reducible repeat (first | apply Kd.R_alloc | apply Kd.R_drewN | apply Kd.R_drew)); exact Kd.R_mono HO468.out (fun _ hk => ⟨hk.1.1.1, hk.1.2⟩)⟩, ⟨pB_ HB.out⟩⟩
  clear H'
  try clear c1
  try clear p1
  try clear q1
  try clear hx1
  try clear c2
  try clear p2
  try clear c3
  try clear c4
  try clear c4b0
  try clear p4
  try clear q4
  try clear hx4
  try clear qi4
  try clear c5
  try clear c5b0
  try clear c5b1
  try clear c6
  try clear c6b0
  try clear c6b1
  try clear p6
  try clear c7
  try clear c7b0
  try clear c7b1
  try clear c8
  try clear c10
  try clear c10b0
  try clear c11
  try clear c11b0
  try clear c12
  try clear c12b0
  try clear c13
  try clear c13b0
  try clear c13b1
  try clear c15
  try clear c15b0
  try clear p16
  try clear q16
  try clear hx16
  try clear hf16
  try clear c28
  try clear c28b0
  try clear c29
  try clear c29b0
  try clear c33
  try clear c33b0
  try clear c33b1
  try clear c34
  try clear c34b0
  try clear c34b1
  try clear c36
  try clear c36b0
  try clear c36b1
  try clear c37
  try clear c37b0
  try clear c37b1
  try clear q42
  try clear p43
  try clear q43
  try clear hx43
  try clear p44
  try clear q44
  try clear hx44
  try clear qi44
  try clear p45
  try clear q45
  try clear hx45
  try clear hx16_0
  try clear hx439_0
  try clear hx440_0
  try clear hx453_0
  try clear p16
  try clear p2
  try clear p439
  try clear p440
  try clear p453
  try clear p6
  try clear q16
  try clear q42
  try clear q439
  try clear q440
  try clear q453
  obtain ⟨x11_1, x13_1, x14_1, rfl, HA, HK1, HO_11, HO_12, HO_13, HB⟩ := hrel
  rcases gk with _ | k1
  · exact absurd HA.out (by simp [impl_nat_over.l1])
  have H := HA.out
  clear HA
  simp only [impl_nat_over.l1] at H
  by_cases c46 : x14_1 ≥ 0
  rotate_left
  · rw [if_neg c46] at H
    have c46b0 : decide (0 ≤ x14_1) = false := decide_eq_false c46
    clear c46
    replace H := Option.bind_eq_some_iff.mp H
    obtain ⟨t469, A1100, H⟩ := H
    have A110 := Aside0.mk A1100
    clear A1100
    by_cases c111 : 0 ≤ (l1.length : Int)
    rotate_left
    · rw [if_neg c111] at H; exact absurd H (by simp)
    rw [if_pos c111] at H
    have c111b0 := eq_true c111
    have c111b1 : decide (0 ≤ (l1.length : Int)) = true := decide_eq_true c111
    clear c111
    by_cases c112 : (l1.length : Int) ≤ (x11_1.length : Int)
    rotate_left
    · rw [if_neg c112] at H; exact absurd H (by simp)
    rw [if_pos c112] at H
    have c112b0 := eq_true c112
    have c112b1 : decide ((l1.length : Int) ≤ (x11_1.length : Int)) = true := decide_eq_true c112
    clear c112
    obtain ⟨y472, hy472⟩ : ∃ y_ : List Int, y_ = (x11_1.take ((l1.length : Int) : Int).toNat) := ⟨_, rfl⟩
    first | rw [← hy472] at H | skip
    have Ny472 := Aside0.mk hy472
    clear hy472
    replace H := Option.bind_eq_some_iff.mp H
    obtain ⟨t477, A1130, H⟩ := H
    have A113 := Aside0.mk A1130
    clear A1130
    replace H := Option.bind_eq_some_iff.mp H
    obtain ⟨t480, A1140, H⟩ := H
    have A114 := Aside0.mk A1140
    clear A1140
    simp only [Option.some.injEq, Prod.mk.injEq] at H
    obtain ⟨rfl, rfl⟩ := H
    try go_wp2
    have n0_ := Aside0.mk (Kd.R_drew HO_11.out)
    have n1_ := Aside0.mk (Kd.V_drew HO_12.out)
    have n2_ := Aside0.mk (Kd.R_drew HO_13.out)
    have n3_ := Aside0.mk (below_drew1 HB.out)
    clear HO_11
    clear HO_12
    clear HO_13
    clear HB
    have HO_11 := n0_
    have HO_12 := n1_
    have HO_13 := n2_
    have HB := n3_
    clear n0_ n1_ n2_ n3_
    obtain ⟨Ao117, co117, eo117⟩ := Kd.R_slice HO_11.out
    (first | subst eo117 | (injection eo117 with f1_ f2_ f3_; have f4_ := f1_.symm; have f5_ := f3_.symm; clear f1_ f2_ f3_; subst f4_; subst f5_))
    have q116 : ((l1.length : Int) : Int) ≤ ((x11_1.length : Int) : Int) := od_
    obtain ⟨i0116, hi0116, _, hsz116, _⟩ := info_parts info83
    have hroom116 : x11_1.length ≤ co117 := (Kd.R_reads' HO_11.out).2.1
    have hC116 : Kd.F (Kd.int .u64) _ _ Ao117 x11_1.length x11_1 := (Kd.V_at (base := w.heap.size) (Kd.V_mono (ok' := (fun k_ => ((P0_ k_ ∨ w.heap.size ≤ k_) ∧ some k_ ≠ (v467 : Value).ownBlock))) (Kd.R_V HO_11.out) (fun k_ hk => ⟨(.inr (hk.1)), hk.2⟩))).2.2
    have hcut116 := cut_to (P := Try.prog) 48 83 .i64 Try.underlying48 hi0116 Ao117 x11_1.length co117 (l1.length : Int) (od_) q116 hroom116
    have hr116 := Kd.F_take (m := ((l1.length : Int) : Int).toNat) hC116 (by omega)
    have hy116 : y472.length = ((l1.length : Int) : Int).toNat := (by rw [Ny472.out, List.length_take]; omega)
    rw [← Ny472.out] at hr116
    rw [← hy116] at hcut116
    have HO476 := Aside0.mk (show Kd.V (Kd.int .u64) 83 _ w.heap.size _ (.slice Ao117 y472.length co117) y472 from Kd.V_mk (by omega) hr116)
    have HC476 := Aside0.mk (show y472.length ≤ co117 from by omega)
    clear hr116 hC116 hroom116 hi0116 hsz116
    have KY116 := Aside0.mk hy116
    clear hy116
    replace q116 := eq_true q116
    obtain ⟨Ao118, co118, eo118⟩ := Kd.R_slice HO_13.out
    (first | subst eo118 | (injection eo118 with f1_ f2_ f3_; have f4_ := f1_.symm; have f5_ := f3_.symm; clear f1_ f2_ f3_; subst f4_; subst f5_))
    refine start_ (n := 10) (S := fun w' => True) (ds := []) #[false, false, false, false, false, false, false, false, false, false] (by kernel_rfl) rfl rfl trivial (fun hHeld => ?_); refine with_tabW impl_nat_over.tab38 impl_nat_over.bits38 (fun HT_ HW_ => ?_)
    generalize wr.drew = w115 at HO_11 HO_12 HO_13 HB HO476 hHeld ⊢
    refine pu_ 0 220 HT_.out ?_
    refine pu_ 2 222 HT_.out ?_
    refine pu_ 3 223 HT_.out ?_
    refine pu_ 4 224 HT_.out ?_
    refine pu_ 6 226 HT_.out ?_
    refine one_ (i := 1) (N := some 221) #[true, true, true, true, true, false, true, false, false, false] rfl rfl (one_of HT_.out (by kernel_rfl)) (by decide) (fun K hK => ?_)
    refine goes_ Try.func75 (by kernel_rfl) rfl #[.slice Ao118 x13_1.length co118] (by rfl) rfl rfl (by (try simp only [List.map_toArray, List.map_cons, List.map_nil]); first | done | rfl | (simp only [List.length_drop, List.length_take]; rfl)) ?_
    with_reducible refine (impl_nat_trim.calls k1 (fun k_ => some k_ = (.slice Ao118 x13_1.length co118 : Value).ownBlock) _ _ x13_1 t469 _ ?side1 A110.out).mono ?_
    (case side1 => exact Kd.R_V (Kd.R_tight rfl (HO_13.out)))
    rintro e w119 ⟨v470, rfl, ho0, hb⟩
    refine ⟨_, rfl, ?_⟩
    have n0_ := Aside0.mk (Kd.R_below (pR_ HO_11.out) hb)
    have n1_ := Aside0.mk (Kd.V_below (pV_ HO_12.out) hb)
    have n2_ := Aside0.mk (Kd.R_below (pR_ HO_13.out) hb)
    have n3_ := Aside0.mk (Kd.V_below (pV_ HO476.out) hb)
    have n4_ := Aside0.mk (Kd.V_lower (Kd.V_mono (ok' := fun k_ => (P0_ k_ ∨ w.heap.size ≤ k_) ∧ some k_ ≠ (.slice Ao117 x11_1.length co117 : Value).ownBlock) ho0 (fun k_ hk_ => ⟨Or.elim hk_ (fun hs_ => (.inr (((HO_13.out).1 k_ hs_.symm).1))) (fun hn_ => (.inr (Nat.le_trans (below_size (pB_ HB.out)) hn_))), Or.elim hk_ (fun hs_ => ((HO_13.out).1 k_ hs_.symm).2) (fun hn_ => (Kd.fresh' (Kd.R_lt (pR_ HO_11.out)) k_ hn_))⟩)) (below_size (pB_ HB.out)))
    have n5_ := Aside0.mk (below_step (pB_ HB.out) hb)
    clear HO_11
    clear HO_12
    clear HO_13
    clear HO476
    clear HB
    have HO_11 := n0_
    have HO_12 := n1_
    have HO_13 := n2_
    have HO476 := n3_
    have HO471 := n4_
    have HB := n5_
    clear n0_ n1_ n2_ n3_ n4_ n5_
    (try clear hb)
    (try clear hb2)
    (try clear hk)
    (try clear hi)
    (try clear ho0)
    refine hK.out _ _ trivial (fun hHeld => ?_)
    clear hK K
    refine norm_ (a' := ?_) ?_ ?_
    rotate_left
    · show Act.put _ (some 221) _ = _
      simp only [Act.put, List.setIfInBounds_toArray, List.set_cons_zero, List.set_cons_succ, i64_w, i32_w]
      rfl
    refine one_ (i := 5) (N := some 225) #[true, true, true, true, true, true, true, false, false, false] rfl rfl (one_of HT_.out (by kernel_rfl)) (by decide) (fun K hK => ?_)
    refine goes_ Try.func75 (by kernel_rfl) rfl #[.slice Ao117 y472.length co117] (by rfl) rfl rfl (by (try simp only [List.map_toArray, List.map_cons, List.map_nil]); first | done | rfl | (simp only [List.length_drop, List.length_take]; rfl)) ?_
    with_reducible refine (impl_nat_trim.calls k1 (fun k_ => ((P0_ k_ ∨ w.heap.size ≤ k_) ∧ some k_ ≠ (.slice Ao118 x13_1.length co118 : Value).ownBlock)) _ _ y472 t477 _ ?side1 A113.out).mono ?_
    (case side1 => exact HO476.out)
    rintro e w120 ⟨v478, rfl, ho0, hb⟩
    refine ⟨_, rfl, ?_⟩
    have n0_ := Aside0.mk (Kd.R_below (pR_ HO_11.out) hb)
    have n1_ := Aside0.mk (Kd.V_below (pV_ HO_12.out) hb)
    have n2_ := Aside0.mk (Kd.R_below (pR_ HO_13.out) hb)
    have n3_ := Aside0.mk (Kd.V_below (pV_ HO476.out) hb)
    have n4_ := Aside0.mk (Kd.V_below (pV_ HO471.out) hb)
    have n5_ := Aside0.mk (Kd.V_lower (Kd.V_mono (ok' := fun k_ => (P0_ k_ ∨ w.heap.size ≤ k_) ∧ some k_ ≠ (.slice Ao118 x13_1.length co118 : Value).ownBlock) ho0 (fun k_ hk_ => ⟨Or.elim hk_ (fun hs_ => hs_.1) (fun hn_ => (.inr (Nat.le_trans (below_size (pB_ HB.out)) hn_))), Or.elim hk_ (fun hs_ => hs_.2) (fun hn_ => (Kd.fresh' (Kd.R_lt (pR_ HO_13.out)) k_ hn_))⟩)) (below_size (pB_ HB.out)))
    have n6_ := Aside0.mk (below_step (pB_ HB.out) hb)
    clear HO_11
    clear HO_12
    clear HO_13
    clear HO476
    clear HO471
    clear HB
    have HO_11 := n0_
    have HO_12 := n1_
    have HO_13 := n2_
    have HO476 := n3_
    have HO471 := n4_
    have HO479 := n5_
    have HB := n6_
    clear n0_ n1_ n2_ n3_ n4_ n5_ n6_
    (try clear hb)
    (try clear hb2)
    (try clear hk)
    (try clear hi)
    (try clear ho0)
    obtain ⟨Ao121, co121, eo121⟩ := Kd.V_slice HO479.out
    (first | subst eo121 | (injection eo121 with f1_ f2_ f3_; have f4_ := f1_.symm; have f5_ := f3_.symm; clear f1_ f2_ f3_; subst f4_; subst f5_))
    refine hK.out _ _ trivial (fun hHeld => ?_)
    clear hK K
    refine norm_ (a' := ?_) ?_ ?_
    rotate_left
    · show Act.put _ (some 225) _ = _
      simp only [Act.put, List.setIfInBounds_toArray, List.set_cons_zero, List.set_cons_succ, i64_w, i32_w]
      rfl
    refine one_ (i := 7) (N := some 227) #[true, true, true, true, true, true, true, true, false, false] rfl rfl (one_of HT_.out (by kernel_rfl)) (by decide) (fun K hK => ?_)
    refine goes_ Try.func85 (by kernel_rfl) rfl #[.slice Ao121 t477.length co121, .int .i64 t454] (by rfl) rfl rfl (by (try simp only [List.map_toArray, List.map_cons, List.map_nil]); first | done | rfl | (simp only [List.length_drop, List.length_take]; rfl)) ?_
    with_reducible refine (impl_nat_down.calls k1 _ _ t477 t454 t480 _ ?side1 ?side2 A114.out).mono ?_
    (case side1 => exact pC_ (Kd.V_reads' HO479.out).2.2)
    (case side2 => exact (Kd.V_reads' HO479.out).2.1)
    rintro e w122 ⟨v481, rfl, ho0, hb⟩
    refine ⟨_, rfl, ?_⟩
    have n0_ := Aside0.mk (Kd.R_below (pR_ HO_11.out) hb)
    have n1_ := Aside0.mk (Kd.V_below (pV_ HO_12.out) hb)
    have n2_ := Aside0.mk (Kd.R_below (pR_ HO_13.out) hb)
    have n3_ := Aside0.mk (Kd.V_below (pV_ HO476.out) hb)
    have n4_ := Aside0.mk (Kd.V_below (pV_ HO471.out) hb)
    have n5_ := Aside0.mk (Kd.V_below (pV_ HO479.out) hb)
    have n6_ := Aside0.mk (Kd.V_lower (Kd.V_mono (ok' := fun k_ => (P0_ k_ ∨ w.heap.size ≤ k_) ∧ some k_ ≠ (.slice Ao117 x11_1.length co117 : Value).ownBlock ∧ some k_ ≠ (.slice Ao118 x13_1.length co118 : Value).ownBlock) ho0 (fun k_ hk_ => ⟨(.inr (Nat.le_trans (below_size (pB_ HB.out)) hk_)), (Kd.fresh' (Kd.R_lt (pR_ HO_11.out)) k_ hk_), (Kd.fresh' (Kd.R_lt (pR_ HO_13.out)) k_ hk_)⟩)) (below_size (pB_ HB.out)))
    have n7_ := Aside0.mk (below_step (pB_ HB.out) hb)
    clear HO_11
    clear HO_12
    clear HO_13
    clear HO476
    clear HO471
    clear HO479
    clear HB
    have HO_11 := n0_
    have HO_12 := n1_
    have HO_13 := n2_
    have HO476 := n3_
    have HO471 := n4_
    have HO479 := n5_
    have HO482 := n6_
    have HB := n7_
    clear n0_ n1_ n2_ n3_ n4_ n5_ n6_ n7_
    (try clear hb)
    (try clear hb2)
    (try clear hk)
    (try clear hi)
    (try clear ho0)
    refine hK.out _ _ trivial (fun hHeld => ?_)
    clear hK K
    refine norm_ (a' := ?_) ?_ ?_
    rotate_left
    · show Act.put _ (some 227) _ = _
      simp only [Act.put, List.setIfInBounds_toArray, List.set_cons_zero, List.set_cons_succ, i64_w, i32_w]
      rfl
    refine pu_ 8 4 HT_.out ?_
    refine pu_ 9 5 HT_.out ?_
    refine done_ (done_of HT_.out (by kernel_rfl)) ?_
    try go_wp2
    go_ret2
    exact ⟨_, _, by first | rfl | (simp [errW_none, errW_some] <;> rfl) | (simp only [← hji27, ← hji35]; first | rfl | (simp [errW_none, errW_some] <;> rfl)) | (simp [*, errW_none, errW_some] <;> rfl), by (with_reducible repeat (first | apply Kd.V_alloc | apply Kd.V_drewN | apply Kd.V_drew)); exact Kd.V_mono HO471.out (fun _ hk => hk.1), by (with_reducible repeat (first | apply Kd.V_alloc | apply Kd.V_drewN | apply Kd.V_drew)); exact Kd.V_mono HO482.out (fun _ hk => hk.1), pB_ HB.out⟩
  rw [if_pos c46] at H
  have c46b0 : decide (0 ≤ x14_1) = true := decide_eq_true c46
  clear c46
  obtain ⟨ji47, hji47⟩ : ∃ j_ : Int, (wrap64 (x14_1 + (l1.length : Int))) = j_ := ⟨_, rfl⟩
  first | rw [hji47] at H | simp only [hji47] at H | skip
  have hji47w : (IntKind.i64.wrap (x14_1 + (l1.length : Int))) = ji47 := (i64_w _).trans hji47
  by_cases c48 : 0 ≤ (ji47)
  rotate_left
  · rw [if_neg c48] at H; exact absurd H (by simp)
  rw [if_pos c48] at H
  have c48b0 : decide (0 ≤ (ji47)) = true := decide_eq_true c48
  clear c48
  by_cases c49 : (ji47) < (x11_1.length : Int)
  rotate_left
  · rw [if_neg c49] at H; exact absurd H (by simp)
  rw [if_pos c49] at H
  have c49b0 : decide ((ji47) < (x11_1.length : Int)) = true := decide_eq_true c49
  clear c49
  obtain ⟨ji50, hji50⟩ : ∃ j_ : Int, (wrap64 ((ji47) - 1)) = j_ := ⟨_, rfl⟩
  first | rw [hji50] at H | simp only [hji50] at H | skip
  have hji50w : (IntKind.i64.wrap ((ji47) - 1)) = ji50 := (i64_w _).trans hji50
  by_cases c51 : 0 ≤ (ji50)
  rotate_left
  · rw [if_neg c51] at H; exact absurd H (by simp)
  rw [if_pos c51] at H
  have c51b0 : decide (0 ≤ (ji50)) = true := decide_eq_true c51
  clear c51
  by_cases c52 : (ji50) < (x11_1.length : Int)
  rotate_left
  · rw [if_neg c52] at H; exact absurd H (by simp)
  rw [if_pos c52] at H
  have c52b0 : decide ((ji50) < (x11_1.length : Int)) = true := decide_eq_true c52
  clear c52
  obtain ⟨ji53, hji53⟩ : ∃ j_ : Int, (wrap64 ((ji47) - 2)) = j_ := ⟨_, rfl⟩
  first | rw [hji53] at H | simp only [hji53] at H | skip
  have hji53w : (IntKind.i64.wrap ((ji47) - 2)) = ji53 := (i64_w _).trans hji53
  by_cases c54 : 0 ≤ (ji53)
  rotate_left
  · rw [if_neg c54] at H; exact absurd H (by simp)
  rw [if_pos c54] at H
  have c54b0 : decide (0 ≤ (ji53)) = true := decide_eq_true c54
  clear c54
  by_cases c55 : (ji53) < (x11_1.length : Int)
  rotate_left
  · rw [if_neg c55] at H; exact absurd H (by simp)
  rw [if_pos c55] at H
  have c55b0 : decide ((ji53) < (x11_1.length : Int)) = true := decide_eq_true c55
  clear c55
  first | rw [hji27] at H | simp only [hji27] at H | skip
  by_cases c56 : 0 ≤ (ji27)
  rotate_left
  · rw [if_neg c56] at H; exact absurd H (by simp)
  rw [if_pos c56] at H
  have c56b0 : decide (0 ≤ (ji27)) = true := decide_eq_true c56
  clear c56
  by_cases c57 : (ji27) < (y461.length : Int)
  rotate_left
  · rw [if_neg c57] at H; exact absurd H (by simp)
  rw [if_pos c57] at H
  have c57b0 : decide ((ji27) < (y461.length : Int)) = true := decide_eq_true c57
  clear c57
  obtain ⟨ji58, hji58⟩ : ∃ j_ : Int, (wrap64 ((l1.length : Int) - 2)) = j_ := ⟨_, rfl⟩
  first | rw [hji58] at H | simp only [hji58] at H | skip
  have hji58w : (IntKind.i64.wrap ((l1.length : Int) - 2)) = ji58 := (i64_w _).trans hji58
  by_cases c59 : 0 ≤ (ji58)
  rotate_left
  · rw [if_neg c59] at H; exact absurd H (by simp)
  rw [if_pos c59] at H
  have c59b0 : decide (0 ≤ (ji58)) = true := decide_eq_true c59
  clear c59
  by_cases c60 : (ji58) < (y461.length : Int)
  rotate_left
  · rw [if_neg c60] at H; exact absurd H (by simp)
  rw [if_pos c60] at H
  have c60b0 : decide ((ji58) < (y461.length : Int)) = true := decide_eq_true c60
  clear c60
  replace H := Option.bind_eq_some_iff.mp H
  obtain ⟨t488, A610, H⟩ := H
  have A61 := Aside0.mk A610
  clear A610
  have H' := Aside0.mk H
  clear H
  try go_wp2
  have n0_ := Aside0.mk (Kd.R_drew HO_11.out)
  have n1_ := Aside0.mk (Kd.V_drew HO_12.out)
  have n2_ := Aside0.mk (Kd.R_drew HO_13.out)
  have n3_ := Aside0.mk (below_drew1 HB.out)
  clear HO_11
  clear HO_12
  clear HO_13
  clear HB
  have HO_11 := n0_
  have HO_12 := n1_
  have HO_13 := n2_
  have HB := n3_
  clear n0_ n1_ n2_ n3_
  obtain ⟨Ao63, co63, eo63⟩ := Kd.R_slice HO_11.out
  (first | subst eo63 | (injection eo63 with f1_ f2_ f3_; have f4_ := f1_.symm; have f5_ := f3_.symm; clear f1_ f2_ f3_; subst f4_; subst f5_))
  have p483 : 0 ≤ ((ji47) : Int) := od_
  have q483 : (ji47) < (x11_1.length : Int) := od_
  obtain ⟨ad483, e483, hx483_0⟩ := Kd.at_int (Kd.R_reads' HO_11.out).2.2 (ji47) p483 q483
  cases e483
  replace p483 := eq_true p483
  replace q483 := eq_true q483
  have p484 : 0 ≤ ((ji50) : Int) := od_
  have q484 : (ji50) < (x11_1.length : Int) := od_
  obtain ⟨ad484, e484, hx484_0⟩ := Kd.at_int (Kd.R_reads' HO_11.out).2.2 (ji50) p484 q484
  obtain rfl : ad483 = ad484 := (by injection e484)
  replace p484 := eq_true p484
  replace q484 := eq_true q484
  have p485 : 0 ≤ ((ji53) : Int) := od_
  have q485 : (ji53) < (x11_1.length : Int) := od_
  obtain ⟨ad485, e485, hx485_0⟩ := Kd.at_int (Kd.R_reads' HO_11.out).2.2 (ji53) p485 q485
  obtain rfl : ad483 = ad485 := (by injection e485)
  replace p485 := eq_true p485
  replace q485 := eq_true q485
  have p486 : 0 ≤ ((ji27) : Int) := od_
  have q486 : (ji27) < (y461.length : Int) := od_
  obtain ⟨ad486, e486, hx486_0⟩ := Kd.at_int (Kd.V_reads' HO_12.out).2.2 (ji27) p486 q486
  cases e486
  replace p486 := eq_true p486
  replace q486 := eq_true q486
  have p487 : 0 ≤ ((ji58) : Int) := od_
  have q487 : (ji58) < (y461.length : Int) := od_
  obtain ⟨ad487, e487, hx487_0⟩ := Kd.at_int (Kd.V_reads' HO_12.out).2.2 (ji58) p487 q487
  obtain rfl : ad486 = ad487 := (by injection e487)
  replace p487 := eq_true p487
  replace q487 := eq_true q487
  refine start_ (n := 32) (S := fun w' => w'.cell? (ad483.add ((ji47)).toNat) = some (.int .u64 (rd x11_1 (ji47))) ∧ w'.cell? (ad483.add ((ji50)).toNat) = some (.int .u64 (rd x11_1 (ji50))) ∧ w'.cell? (ad483.add ((ji53)).toNat) = some (.int .u64 (rd x11_1 (ji53))) ∧ w'.cell? (ad486.add ((ji27)).toNat) = some (.int .u64 (rd y461 (ji27))) ∧ w'.cell? (ad486.add ((ji58)).toNat) = some (.int .u64 (rd y461 (ji58)))) (ds := []) #[false, false, false, false, false, false, false, false, false, false, false, false, false, false, false, false, false, false, false, false, false, false, false, false, false, false, false, false, false, false, false, false] (by kernel_rfl) rfl rfl ⟨hx483_0, hx484_0, hx485_0, hx486_0, hx487_0⟩ (fun hHeld => ?_); refine with_tabW impl_nat_over.tab17 impl_nat_over.bits17 (fun HT_ HW_ => ?_)
  generalize wr.drew = w62 at HO_11 HO_12 HO_13 HB hx483_0 hx484_0 hx485_0 hx486_0 hx487_0 hHeld ⊢
  refine pu_ 0 90 HT_.out ?_
  refine pu_ 1 91 HT_.out ?_
  refine pu_ 2 92 HT_.out ?_
  refine pu_ 3 93 HT_.out ?_
  refine pu_ 4 94 HT_.out ?_
  refine pu_ 6 96 HT_.out ?_
  refine pu_ 7 97 HT_.out ?_
  refine pu_ 8 98 HT_.out ?_
  refine pu_ 9 99 HT_.out ?_
  refine pu_ 10 100 HT_.out ?_
  refine pu_ 11 101 HT_.out ?_
  refine pu_ 13 103 HT_.out ?_
  refine pu_ 14 104 HT_.out ?_
  refine pu_ 15 105 HT_.out ?_
  refine pu_ 16 106 HT_.out ?_
  refine pu_ 17 107 HT_.out ?_
  refine pu_ 18 108 HT_.out ?_
  refine pu_ 20 110 HT_.out ?_
  refine pu_ 21 111 HT_.out ?_
  refine pu_ 22 112 HT_.out ?_
  refine pu_ 23 113 HT_.out ?_
  refine pu_ 25 115 HT_.out ?_
  refine pu_ 26 116 HT_.out ?_
  refine pu_ 27 117 HT_.out ?_
  refine pu_ 28 118 HT_.out ?_
  refine take_ (i := 5) (N := some 95) (v := ?_) (a' := ?_) #[true, true, true, true, true, true, true, true, true, true, true, true, false, true, true, true, true, true, true, false, true, true, true, true, false, true, true, true, true, false, false, false] rfl rfl (take_ofW HT_.out HW_.out (by kernel_rfl)) (fun _ _ _ h => h) (Or.inl ⟨by rfl, ?_⟩) hHeld ?_ ?_
  rotate_left
  · rintro w' ⟨s0, s1, s2, s3, s4⟩
    go_simp
    with_reducible rfl
  rotate_left
  · simp only [Act.put, List.setIfInBounds_toArray, List.set_cons_zero, List.set_cons_succ, i64_w, i32_w]
    rfl
  refine take_ (i := 12) (N := some 102) (v := ?_) (a' := ?_) #[true, true, true, true, true, true, true, true, true, true, true, true, true, true, true, true, true, true, true, false, true, true, true, true, false, true, true, true, true, false, false, false] rfl rfl (take_ofW HT_.out HW_.out (by kernel_rfl)) (fun _ _ _ h => h) (Or.inl ⟨by rfl, ?_⟩) hHeld ?_ ?_
  rotate_left
  · rintro w' ⟨s0, s1, s2, s3, s4⟩
    go_simp
    with_reducible rfl
  rotate_left
  · simp only [Act.put, List.setIfInBounds_toArray, List.set_cons_zero, List.set_cons_succ, i64_w, i32_w]
    rfl
  refine take_ (i := 19) (N := some 109) (v := ?_) (a' := ?_) #[true, true, true, true, true, true, true, true, true, true, true, true, true, true, true, true, true, true, true, true, true, true, true, true, false, true, true, true, true, false, false, false] rfl rfl (take_ofW HT_.out HW_.out (by kernel_rfl)) (fun _ _ _ h => h) (Or.inl ⟨by rfl, ?_⟩) hHeld ?_ ?_
  rotate_left
  · rintro w' ⟨s0, s1, s2, s3, s4⟩
    go_simp
    with_reducible rfl
  rotate_left
  · simp only [Act.put, List.setIfInBounds_toArray, List.set_cons_zero, List.set_cons_succ, i64_w, i32_w]
    rfl
  refine take_ (i := 24) (N := some 114) (v := ?_) (a' := ?_) #[true, true, true, true, true, true, true, true, true, true, true, true, true, true, true, true, true, true, true, true, true, true, true, true, true, true, true, true, true, false, false, false] rfl rfl (take_ofW HT_.out HW_.out (by kernel_rfl)) (fun _ _ _ h => h) (Or.inl ⟨by rfl, ?_⟩) hHeld ?_ ?_
  rotate_left
  · rintro w' ⟨s0, s1, s2, s3, s4⟩
    go_simp
    with_reducible rfl
  rotate_left
  · simp only [Act.put, List.setIfInBounds_toArray, List.set_cons_zero, List.set_cons_succ, i64_w, i32_w]
    rfl
  refine take_ (i := 29) (N := some 119) (v := ?_) (a' := ?_) #[true, true, true, true, true, true, true, true, true, true, true, true, true, true, true, true, true, true, true, true, true, true, true, true, true, true, true, true, true, true, false, false] rfl rfl (take_ofW HT_.out HW_.out (by kernel_rfl)) (fun _ _ _ h => h) (Or.inl ⟨by rfl, ?_⟩) hHeld ?_ ?_
  rotate_left
  · rintro w' ⟨s0, s1, s2, s3, s4⟩
    go_simp
    with_reducible rfl
  rotate_left
  · simp only [Act.put, List.setIfInBounds_toArray, List.set_cons_zero, List.set_cons_succ, i64_w, i32_w]
    rfl
  refine one_ (i := 30) (N := some 120) #[true, true, true, true, true, true, true, true, true, true, true, true, true, true, true, true, true, true, true, true, true, true, true, true, true, true, true, true, true, true, true, false] rfl rfl (one_of HT_.out (by kernel_rfl)) (by decide) (fun K hK => ?_)
  refine goes_ Try.func81 (by kernel_rfl) rfl #[.int .u64 (rd x11_1 (ji47)), .int .u64 (rd x11_1 (ji50)), .int .u64 (rd x11_1 (ji53)), .int .u64 (rd y461 (ji27)), .int .u64 (rd y461 (ji58))] (by rfl) rfl rfl (by (try simp only [List.map_toArray, List.map_cons, List.map_nil]); first | done | (simp only [hji27, hji47, hji50, hji53, hji58]; rfl) | rfl | (simp only [List.length_drop, List.length_take]; rfl)) ?_
  with_reducible refine (impl_digit.calls k1 (rd x11_1 (ji47)) (rd x11_1 (ji50)) (rd x11_1 (ji53)) (rd y461 (ji27)) (rd y461 (ji58)) t488 _ A61.out).mono ?_
  rintro e w' ⟨rfl, ⟨nd, rfl⟩⟩
  refine ⟨_, rfl, ?_⟩
  refine hK.out _ _ ⟨hHeld.1, hHeld.2.1, hHeld.2.2.1, hHeld.2.2.2.1, hHeld.2.2.2.2⟩ (fun hHeld => ?_)
  clear hK K
  refine norm_ (a' := ?_) ?_ ?_
  rotate_left
  · show Act.put _ (some 120) _ = _
    simp only [Act.put, List.setIfInBounds_toArray, List.set_cons_zero, List.set_cons_succ, i64_w, i32_w]
    rfl
  refine pu_ 31 15 HT_.out ?_
  refine done_ (done_of HT_.out (by kernel_rfl)) ?_
  try go_wp2
  repeat (rw [addr_self]; generalize Addr.add _ _ = az_)
  go_loopg [16, 17, 122] k1 (fun kq v16 v17 v122 w' => ∃ (x11_2 : List Int) (x16_2 : Int) (x17_2 : Int) (x122_2 : Int), v16 = .int .u64 x16_2 ∧ v17 = .int .u64 x17_2 ∧ v122 = .int .i64 x122_2 ∧ Aside0 (impl_nat_over.l2 kq (l1.length : Int) t454 x11_2 y461 x13_1 x14_1 t488 x16_2 x17_2 (l1.length : Int) x122_2 = some (r1, r2)) ∧ Aside0 (kq ≤ k1) ∧ Aside0 (Kd.R (Kd.int .u64) 83 w' w.heap.size (fun k_ => (w.heap.size ≤ k_) ∧ some k_ ≠ (v467 : Value).ownBlock) (.slice (some ad483) x11_1.length co63) x11_2) ∧ Aside0 (Kd.V (Kd.int .u64) 83 w' w.heap.size (fun k_ => (P0_ k_ ∨ w.heap.size ≤ k_) ∧ some k_ ≠ ((.slice (some ad483) x11_1.length co63) : Value).ownBlock ∧ some k_ ≠ (v467 : Value).ownBlock) (.slice (some ad486) y461.length co43) y461) ∧ Aside0 (Kd.R (Kd.int .u64) 83 w' w.heap.size (fun k_ => (w.heap.size ≤ k_) ∧ some k_ ≠ ((.slice (some ad483) x11_1.length co63) : Value).ownBlock) v467 x13_1) ∧ Aside0 (Below w.heap.size w w'))
  case atStart => exact ⟨(x11_1), (0), (0), (0), (by first | rfl | (simp; done) | (simp [*]; done)), (by first | rfl | (simp; done) | (simp [*]; done)), (by first | rfl | (simp; done) | (simp [*]; done)), H', ⟨Nat.le_refl _⟩, ⟨by (with_reducible repeat (first | apply Kd.R_alloc | apply Kd.R_drewN | apply Kd.R_drew)); exact HO_11.out⟩, ⟨by (with_reducible repeat (first | apply Kd.V_alloc | apply Kd.V_drewN | apply Kd.V_drew)); exact HO_12.out⟩, ⟨by (with_reducible repeat (first | apply Kd.R_alloc | apply Kd.R_drewN | apply Kd.R_drew)); exact HO_13.out⟩, ⟨pB_ HB.out⟩⟩
  clear H'
  try clear c1
  try clear p1
  try clear q1
  try clear hx1
  try clear c2
  try clear p2
  try clear c3
  try clear c4
  try clear c4b0
  try clear p4
  try clear q4
  try clear hx4
  try clear qi4
  try clear c5
  try clear c5b0
  try clear c5b1
  try clear c6
  try clear c6b0
  try clear c6b1
  try clear p6
  try clear c7
  try clear c7b0
  try clear c7b1
  try clear c8
  try clear c10
  try clear c10b0
  try clear c11
  try clear c11b0
  try clear c12
  try clear c12b0
  try clear c13
  try clear c13b0
  try clear c13b1
  try clear c15
  try clear c15b0
  try clear p16
  try clear q16
  try clear hx16
  try clear hf16
  try clear c28
  try clear c28b0
  try clear c29
  try clear c29b0
  try clear c33
  try clear c33b0
  try clear c33b1
  try clear c34
  try clear c34b0
  try clear c34b1
  try clear c36
  try clear c36b0
  try clear c36b1
  try clear c37
  try clear c37b0
  try clear c37b1
  try clear q42
  try clear p43
  try clear q43
  try clear hx43
  try clear p44
  try clear q44
  try clear hx44
  try clear qi44
  try clear p45
  try clear q45
  try clear hx45
  try clear c46
  try clear c46b0
  try clear c48
  try clear c48b0
  try clear p48
  try clear q48
  try clear hx48
  try clear c49
  try clear c49b0
  try clear c51
  try clear c51b0
  try clear c52
  try clear c52b0
  try clear c54
  try clear c54b0
  try clear c55
  try clear c55b0
  try clear c56
  try clear c56b0
  try clear c57
  try clear c57b0
  try clear c59
  try clear c59b0
  try clear c60
  try clear c60b0
  try clear hx16_0
  try clear hx439_0
  try clear hx440_0
  try clear hx453_0
  try clear hx483_0
  try clear hx484_0
  try clear hx485_0
  try clear hx486_0
  try clear hx487_0
  try clear p1
  try clear p16
  try clear p2
  try clear p4
  try clear p43
  try clear p439
  try clear p44
  try clear p440
  try clear p45
  try clear p453
  try clear p483
  try clear p484
  try clear p485
  try clear p486
  try clear p487
  try clear p6
  try clear q1
  try clear q16
  try clear q4
  try clear q42
  try clear q43
  try clear q439
  try clear q44
  try clear q440
  try clear q45
  try clear q453
  try clear q483
  try clear q484
  try clear q485
  try clear q486
  try clear q487
  obtain ⟨x11_2, x16_2, x17_2, x122_2, rfl, rfl, rfl, HA, HK2, HO_11, HO_12, HO_13, HB⟩ := hrel
  have hl11_2 := (Kd.R_reads' HO_11.out).1
  rw [hl11_2] at HO_11
  (try simp only [hl11_2])
  (try simp only [hl11_2] at HO_12)
  (try simp only [hl11_2] at HO_13)
  rcases gk with _ | k2
  · exact absurd HA.out (by simp [impl_nat_over.l2])
  have H := HA.out
  clear HA
  simp only [impl_nat_over.l2] at H
  by_cases c64 : x122_2 < (l1.length : Int)
  · rw [if_pos c64] at H
    have c64b0 : decide (x122_2 < (l1.length : Int)) = true := decide_eq_true c64
    (try (have c64x0 := c64b0; simp only [hl11_2] at c64x0))
    clear c64
    by_cases c65 : 0 ≤ x122_2
    rotate_left
    · rw [if_neg c65] at H; exact absurd H (by simp)
    rw [if_pos c65] at H
    have c65b0 : decide (0 ≤ x122_2) = true := decide_eq_true c65
    clear c65
    by_cases c66 : x122_2 < (y461.length : Int)
    rotate_left
    · rw [if_neg c66] at H; exact absurd H (by simp)
    rw [if_pos c66] at H
    have c66b0 : decide (x122_2 < (y461.length : Int)) = true := decide_eq_true c66
    (try (have c66x0 := c66b0; simp only [hl11_2] at c66x0))
    clear c66
    replace H := Option.bind_eq_some_iff.mp H
    obtain ⟨⟨t490, t491⟩, A670, H⟩ := H
    replace H : ((bits_Add64.f t491 x17_2 0).bind fun bt492 => (if 0 ≤ (wrap64 (x14_1 + x122_2)) then (if (wrap64 (x14_1 + x122_2)) < (x11_2.length : Int) then ((bits_Sub64.f (rd x11_2 (wrap64 (x14_1 + x122_2))) bt492.1 x16_2).bind fun bt495 => (impl_nat_over.l2 k2 (l1.length : Int) t454 (x11_2.set ((wrap64 (x14_1 + x122_2)) : Int).toNat bt495.1) y461 x13_1 x14_1 t488 bt495.2 (IntKind.u64.wrap (t490 + bt492.2)) (l1.length : Int) (wrap64 (x122_2 + 1)))) else (none)) else (none))) = some (r1, r2) := H
    have A67 := Aside0.mk A670
    clear A670
    replace H := Option.bind_eq_some_iff.mp H
    obtain ⟨⟨t492, t493⟩, A680, H⟩ := H
    replace H : (if 0 ≤ (wrap64 (x14_1 + x122_2)) then (if (wrap64 (x14_1 + x122_2)) < (x11_2.length : Int) then ((bits_Sub64.f (rd x11_2 (wrap64 (x14_1 + x122_2))) t492 x16_2).bind fun bt495 => (impl_nat_over.l2 k2 (l1.length : Int) t454 (x11_2.set ((wrap64 (x14_1 + x122_2)) : Int).toNat bt495.1) y461 x13_1 x14_1 t488 bt495.2 (IntKind.u64.wrap (t490 + t493)) (l1.length : Int) (wrap64 (x122_2 + 1)))) else (none)) else (none)) = some (r1, r2) := H
    have A68 := Aside0.mk A680
    clear A680
    obtain ⟨ji69, hji69⟩ : ∃ j_ : Int, (wrap64 (x14_1 + x122_2)) = j_ := ⟨_, rfl⟩
    first | rw [hji69] at H | simp only [hji69] at H | skip
    (try rw [hji69] at A67)
    (try rw [hji69] at A68)
    have hji69w : (IntKind.i64.wrap (x14_1 + x122_2)) = ji69 := (i64_w _).trans hji69
    by_cases c70 : 0 ≤ (ji69)
    rotate_left
    · rw [if_neg c70] at H; exact absurd H (by simp)
    rw [if_pos c70] at H
    have c70b0 : decide (0 ≤ (ji69)) = true := decide_eq_true c70
    clear c70
    by_cases c71 : (ji69) < (x11_2.length : Int)
    rotate_left
    · rw [if_neg c71] at H; exact absurd H (by simp)
    rw [if_pos c71] at H
    have c71b0 : decide ((ji69) < (x11_2.length : Int)) = true := decide_eq_true c71
    (try (have c71x0 := c71b0; simp only [hl11_2] at c71x0))
    clear c71
    replace H := Option.bind_eq_some_iff.mp H
    obtain ⟨⟨t495, t496⟩, A720, H⟩ := H
    replace H : (impl_nat_over.l2 k2 (l1.length : Int) t454 (x11_2.set ((ji69) : Int).toNat t495) y461 x13_1 x14_1 t488 t496 (IntKind.u64.wrap (t490 + t493)) (l1.length : Int) (wrap64 (x122_2 + 1))) = some (r1, r2) := H
    have A72 := Aside0.mk A720
    clear A720
    obtain ⟨y497, hy497⟩ : ∃ y_ : List Int, y_ = (x11_2.set ((ji69) : Int).toNat t495) := ⟨_, rfl⟩
    first | rw [← hy497] at H | skip
    have Ny497 := Aside0.mk hy497
    clear hy497
    have H' := Aside0.mk H
    clear H
    have p489 : 0 ≤ (x122_2 : Int) := od_
    have q489 : x122_2 < (y461.length : Int) := od_
    obtain ⟨ad489, e489, hx489_0⟩ := Kd.at_int (Kd.V_reads' HO_12.out).2.2 x122_2 p489 q489
    obtain rfl : ad486 = ad489 := (by injection e489)
    replace p489 := eq_true p489
    replace q489 := eq_true q489
    go_wp2_with (first | ((with_reducible refine gate_callee (f := 82) rfl ?_); refine gL_ 131 Try.func82 rfl #[.int .u64 t488, .int .u64 (rd y461 x122_2)] ?_; (with_reducible refine (bits_Mul64.calls t488 (rd y461 x122_2) t490 t491 _ A67.out).mono ?_); rintro e w' ⟨rfl, ⟨nd, rfl⟩⟩; refine ⟨_, rfl, ?_⟩; (try (rw [drewN_self wr]; generalize hq_ : World.drewN wr _ = wr; have n0_ : Aside0 (Kd.R (Kd.int .u64) 83 wr w.heap.size (fun k_ => (w.heap.size ≤ k_) ∧ some k_ ≠ (v467 : Value).ownBlock) (.slice (some ad483) x11_2.length co63) x11_2) := ⟨by rw [← hq_]; exact (pR_ HO_11.out)⟩; have n1_ : Aside0 (Kd.V (Kd.int .u64) 83 wr w.heap.size (fun k_ => (P0_ k_ ∨ w.heap.size ≤ k_) ∧ some k_ ≠ (.slice (some ad483) x11_2.length co63 : Value).ownBlock ∧ some k_ ≠ (v467 : Value).ownBlock) (.slice (some ad486) y461.length co43) y461) := ⟨by rw [← hq_]; exact (pV_ HO_12.out)⟩; have n2_ : Aside0 (Kd.R (Kd.int .u64) 83 wr w.heap.size (fun k_ => (w.heap.size ≤ k_) ∧ some k_ ≠ (.slice (some ad483) x11_2.length co63 : Value).ownBlock) v467 x13_1) := ⟨by rw [← hq_]; exact (pR_ HO_13.out)⟩; have n3_ : Aside0 (Below w.heap.size w wr) := ⟨by rw [← hq_]; exact (pB_ HB.out)⟩; clear HO_11 HO_12 HO_13 HB hq_; have HO_11 := n0_; have HO_12 := n1_; have HO_13 := n2_; have HB := n3_; clear n0_ n1_ n2_ n3_))) | ((with_reducible refine gate_callee (f := 83) rfl ?_); refine gX_ 137 rfl #[.int .u64 t491, .int .u64 x17_2, .int .u64 0] (bits_Add64.run t491 x17_2 0 t492 t493 A68.out _) ?_; intro nd _; (try (rw [drewN_self wr]; generalize hq_ : World.drewN wr _ = wr; have n0_ : Aside0 (Kd.R (Kd.int .u64) 83 wr w.heap.size (fun k_ => (w.heap.size ≤ k_) ∧ some k_ ≠ (v467 : Value).ownBlock) (.slice (some ad483) x11_2.length co63) x11_2) := ⟨by rw [← hq_]; exact (pR_ HO_11.out)⟩; have n1_ : Aside0 (Kd.V (Kd.int .u64) 83 wr w.heap.size (fun k_ => (P0_ k_ ∨ w.heap.size ≤ k_) ∧ some k_ ≠ (.slice (some ad483) x11_2.length co63 : Value).ownBlock ∧ some k_ ≠ (v467 : Value).ownBlock) (.slice (some ad486) y461.length co43) y461) := ⟨by rw [← hq_]; exact (pV_ HO_12.out)⟩; have n2_ : Aside0 (Kd.R (Kd.int .u64) 83 wr w.heap.size (fun k_ => (w.heap.size ≤ k_) ∧ some k_ ≠ (.slice (some ad483) x11_2.length co63 : Value).ownBlock) v467 x13_1) := ⟨by rw [← hq_]; exact (pR_ HO_13.out)⟩; have n3_ : Aside0 (Below w.heap.size w wr) := ⟨by rw [← hq_]; exact (pB_ HB.out)⟩; clear HO_11 HO_12 HO_13 HB hq_; have HO_11 := n0_; have HO_12 := n1_; have HO_13 := n2_; have HB := n3_; clear n0_ n1_ n2_ n3_)); have p494 : 0 ≤ ((ji69) : Int) := od_; have q494 : (ji69) < (x11_2.length : Int) := od_; obtain ⟨ad494, e494, hx494_0⟩ := Kd.at_int (Kd.R_reads' HO_11.out).2.2 (ji69) p494 q494; obtain rfl : ad483 = ad494 := (by injection e494); replace p494 := eq_true p494; replace q494 := eq_true q494) | ((with_reducible refine gate_callee (f := 84) rfl ?_); refine goesX_ (some 156) rfl rfl #[.int .u64 (rd x11_2 (ji69)), .int .u64 t492, .int .u64 x16_2] rfl (by (try simp only [List.map_toArray, List.map_cons, List.map_nil]); first | done | (simp only [hji69]; rfl) | rfl) (bits_Sub64.run (rd x11_2 (ji69)) t492 x16_2 t495 t496 A72.out _) ?_; intro nd _; (try (rw [drewN_self wr]; generalize hq_ : World.drewN wr _ = wr; have n0_ : Aside0 (Kd.R (Kd.int .u64) 83 wr w.heap.size (fun k_ => (w.heap.size ≤ k_) ∧ some k_ ≠ (v467 : Value).ownBlock) (.slice (some ad483) x11_2.length co63) x11_2) := ⟨by rw [← hq_]; exact (pR_ HO_11.out)⟩; have n1_ : Aside0 (Kd.V (Kd.int .u64) 83 wr w.heap.size (fun k_ => (P0_ k_ ∨ w.heap.size ≤ k_) ∧ some k_ ≠ (.slice (some ad483) x11_2.length co63 : Value).ownBlock ∧ some k_ ≠ (v467 : Value).ownBlock) (.slice (some ad486) y461.length co43) y461) := ⟨by rw [← hq_]; exact (pV_ HO_12.out)⟩; have n2_ : Aside0 (Kd.R (Kd.int .u64) 83 wr w.heap.size (fun k_ => (w.heap.size ≤ k_) ∧ some k_ ≠ (.slice (some ad483) x11_2.length co63 : Value).ownBlock) v467 x13_1) := ⟨by rw [← hq_]; exact (pR_ HO_13.out)⟩; have n3_ : Aside0 (Below w.heap.size w wr) := ⟨by rw [← hq_]; exact (pB_ HB.out)⟩; clear HO_11 HO_12 HO_13 HB hq_; have HO_11 := n0_; have HO_12 := n1_; have HO_13 := n2_; have HB := n3_; clear n0_ n1_ n2_ n3_)); have p73 : 0 ≤ ((ji69) : Int) := od_; have q73 : ((ji69) : Int) < ((x11_2.length : Int) : Int) := od_; obtain ⟨go73, co73, eo73, gb73, gl73, cl73, HG73⟩ := Kd.R_form HO_11.out (by omega); (first | cases eo73 | (injection eo73 with ea_ en_ ec_; (first | subst ea_ | (injection ea_ with ea_; subst ea_)); subst ec_; clear en_)); have GB73 := Aside0.mk gb73; have GG73 := Aside0.mk HG73; clear gb73 gl73 HG73; (first | simp only [add_plain] at hx483_0 | skip); (first | simp only [add_plain] at hx484_0 | skip); (first | simp only [add_plain] at hx485_0 | skip); (first | simp only [add_plain] at hx494_0 | skip); obtain ⟨hx73_0, hf73_0⟩ := Kd.R_celln 0 HO_11.out ((ji69) : Int) p73 q73; replace p73 := eq_true p73; replace q73 := eq_true q73; obtain ⟨hy74_, hz74_⟩ := Kd.R_celln 0 HO_11.out ((ji69) : Int) (od_) (od_); have HP74 := Kd.R_putg HO_11.out ((ji69) : Int) t495) | ((with_reducible refine gate_store (t := 83) (p := 159) rfl ?_); refine store_event (t := 83) (p := 159) (v := ?vo_w75) (w1 := (wr.setCell ⟨go73, ((ji69) : Int).toNat, none⟩ (.int .u64 t495))) ?hg ?ho ?hn ?hr ?_; (case ho => rfl); (case hg => rfl); (case hn => rfl); (case hr => first | (go_simp; done) | (go_simp; rfl)); intro w75 hw; have hg : wr.grownBy w75 (some go73) := (by rw [hw]; exact HP74.2); have hp_ : Kd.R (Kd.int .u64) 83 w75 w.heap.size (fun k_ => (w.heap.size ≤ k_) ∧ some k_ ≠ (v467 : Value).ownBlock) (.slice (some ⟨go73, 0, none⟩) x11_2.length co63) y497 := (by rw [hw, Ny497.out]; exact HP74.1); clear HP74; replace HO_11 := Aside0.mk (hp_); replace HO_12 := Aside0.mk (Kd.V_afterv (v := (.slice (some ⟨go73, 0, none⟩) x11_2.length co63)) (v1 := (.slice (some ⟨go73, 0, none⟩) x11_2.length co63)) (ok := (fun k_ => (P0_ k_ ∨ w.heap.size ≤ k_) ∧ some k_ ≠ (v467 : Value).ownBlock)) (pV_ (Kd.V_mono HO_12.out (fun _ hk => ⟨⟨hk.1, hk.2.2⟩, hk.2.1⟩))) hg (.inl rfl)); replace HO_13 := Aside0.mk (Kd.R_after (v := (.slice (some ⟨go73, 0, none⟩) x11_2.length co63)) (v1 := (.slice (some ⟨go73, 0, none⟩) x11_2.length co63)) (ok := (fun k_ => (w.heap.size ≤ k_))) (pR_ HO_13.out) hg (.inl rfl)); replace HB := Aside0.mk ((by rw [hw]; exact below_set (HB.out) GB73.out : Below w.heap.size w w75)); clear hg hw hp_))
    (try simp only [← hl11_2])
    go_roundg k2
    case measure => have := HK1.out; have := HK2.out; omega
    case rel => exact ⟨(y497), (t496), (IntKind.u64.wrap (t490 + t493)), (wrap64 (x122_2 + 1)), (by first | rfl | (simp; done) | (simp [*]; done)), (by first | rfl | (simp; done) | (simp [*]; done)), (by first | rfl | (simp; done) | (simp [*]; done)), H', ⟨by have := HK1.out; have := HK2.out; omega⟩, ⟨by (try simp only [hl11_2]); (with_reducible repeat (first | apply Kd.R_alloc | apply Kd.R_drewN | apply Kd.R_drew)); exact HO_11.out⟩, ⟨by (try simp only [hl11_2]); (with_reducible repeat (first | apply Kd.V_alloc | apply Kd.V_drewN | apply Kd.V_drew)); exact Kd.V_mono HO_12.out (fun _ hk => ⟨hk.1.1, ⟨hk.2, hk.1.2⟩⟩)⟩, ⟨by (try simp only [hl11_2]); (with_reducible repeat (first | apply Kd.R_alloc | apply Kd.R_drewN | apply Kd.R_drew)); exact HO_13.out⟩, ⟨pB_ HB.out⟩⟩
  rw [if_neg c64] at H
  have c64b0 : decide (x122_2 < (l1.length : Int)) = false := decide_eq_false c64
  (try (have c64x0 := c64b0; simp only [hl11_2] at c64x0))
  clear c64
  first | rw [hji47] at H | simp only [hji47] at H | skip
  by_cases c76 : 0 ≤ (ji47)
  rotate_left
  · rw [if_neg c76] at H; exact absurd H (by simp)
  rw [if_pos c76] at H
  have c76b0 : decide (0 ≤ (ji47)) = true := decide_eq_true c76
  clear c76
  by_cases c77 : (ji47) < (x11_2.length : Int)
  rotate_left
  · rw [if_neg c77] at H; exact absurd H (by simp)
  rw [if_pos c77] at H
  have c77b0 : decide ((ji47) < (x11_2.length : Int)) = true := decide_eq_true c77
  (try (have c77x0 := c77b0; simp only [hl11_2] at c77x0))
  clear c77
  replace H := Option.bind_eq_some_iff.mp H
  obtain ⟨⟨t499, t500⟩, A780, H⟩ := H
  replace H : ((some (x11_2.set ((ji47) : Int).toNat t499 : List Int)).bind fun y501 => (if t500 = 1 then (impl_nat_over.l3 k2 (l1.length : Int) t454 y501 y461 x13_1 x14_1 (IntKind.u64.wrap (t488 - 1)) 0 (l1.length : Int) 0) else (if 0 ≤ x14_1 then (if x14_1 < (x13_1.length : Int) then (impl_nat_over.l1 k2 (l1.length : Int) t454 y501 y461 (x13_1.set (x14_1 : Int).toNat t488) (wrap64 (x14_1 - 1))) else (none)) else (none)))) = some (r1, r2) := H
  have A78 := Aside0.mk A780
  clear A780
  obtain ⟨y501, hy501⟩ : ∃ y_ : List Int, y_ = (x11_2.set ((ji47) : Int).toNat t499) := ⟨_, rfl⟩
  replace H := bS_ hy501 H
  have Ny501 := Aside0.mk hy501
  clear hy501
  by_cases c80 : t500 = 1
  rotate_left
  · rw [if_neg c80] at H
    have c80b0 : (t500 == 1) = false := beq_eq_false_iff_ne.mpr c80
    have c80b1 : (t500 != 1) = true := bne_iff_ne.mpr c80
    by_cases c103 : 0 ≤ x14_1
    rotate_left
    · rw [if_neg c103] at H; exact absurd H (by simp)
    rw [if_pos c103] at H
    have c103b0 : decide (0 ≤ x14_1) = true := decide_eq_true c103
    clear c103
    by_cases c104 : x14_1 < (x13_1.length : Int)
    rotate_left
    · rw [if_neg c104] at H; exact absurd H (by simp)
    rw [if_pos c104] at H
    have c104b0 : decide (x14_1 < (x13_1.length : Int)) = true := decide_eq_true c104
    (try (have c104x0 := c104b0; simp only [hl11_2] at c104x0))
    clear c104
    obtain ⟨y510, hy510⟩ : ∃ y_ : List Int, y_ = (x13_1.set (x14_1 : Int).toNat t488) := ⟨_, rfl⟩
    first | rw [← hy510] at H | skip
    have Ny510 := Aside0.mk hy510
    clear hy510
    have H' := Aside0.mk H
    clear H
    have p498 : 0 ≤ ((ji47) : Int) := od_
    have q498 : (ji47) < (x11_2.length : Int) := od_
    obtain ⟨ad498, e498, hx498_0⟩ := Kd.at_int (Kd.R_reads' HO_11.out).2.2 (ji47) p498 q498
    obtain rfl : ad483 = ad498 := (by injection e498)
    replace p498 := eq_true p498
    replace q498 := eq_true q498
    go_wp2_with (first | ((with_reducible refine gate_callee (f := 84) rfl ?_); refine goesX_ (some 174) rfl rfl #[.int .u64 (rd x11_2 (ji47)), .int .u64 x17_2, .int .u64 x16_2] rfl (by (try simp only [List.map_toArray, List.map_cons, List.map_nil]); first | done | (simp only [hji47]; rfl) | rfl) (bits_Sub64.run (rd x11_2 (ji47)) x17_2 x16_2 t499 t500 A78.out _) ?_; intro nd _; (try (rw [drewN_self wr]; generalize hq_ : World.drewN wr _ = wr; have n0_ : Aside0 (Kd.R (Kd.int .u64) 83 wr w.heap.size (fun k_ => (w.heap.size ≤ k_) ∧ some k_ ≠ (v467 : Value).ownBlock) (.slice (some ad483) x11_2.length co63) x11_2) := ⟨by rw [← hq_]; exact (pR_ HO_11.out)⟩; have n1_ : Aside0 (Kd.V (Kd.int .u64) 83 wr w.heap.size (fun k_ => (P0_ k_ ∨ w.heap.size ≤ k_) ∧ some k_ ≠ (.slice (some ad483) x11_2.length co63 : Value).ownBlock ∧ some k_ ≠ (v467 : Value).ownBlock) (.slice (some ad486) y461.length co43) y461) := ⟨by rw [← hq_]; exact (pV_ HO_12.out)⟩; have n2_ : Aside0 (Kd.R (Kd.int .u64) 83 wr w.heap.size (fun k_ => (w.heap.size ≤ k_) ∧ some k_ ≠ (.slice (some ad483) x11_2.length co63 : Value).ownBlock) v467 x13_1) := ⟨by rw [← hq_]; exact (pR_ HO_13.out)⟩; have n3_ : Aside0 (Below w.heap.size w wr) := ⟨by rw [← hq_]; exact (pB_ HB.out)⟩; clear HO_11 HO_12 HO_13 HB hq_; have HO_11 := n0_; have HO_12 := n1_; have HO_13 := n2_; have HB := n3_; clear n0_ n1_ n2_ n3_)); have p79 : 0 ≤ ((ji47) : Int) := od_; have q79 : ((ji47) : Int) < ((x11_2.length : Int) : Int) := od_; obtain ⟨go79, co79, eo79, gb79, gl79, cl79, HG79⟩ := Kd.R_form HO_11.out (by omega); (first | cases eo79 | (injection eo79 with ea_ en_ ec_; (first | subst ea_ | (injection ea_ with ea_; subst ea_)); subst ec_; clear en_)); have GB79 := Aside0.mk gb79; have GG79 := Aside0.mk HG79; clear gb79 gl79 HG79; (first | simp only [add_plain] at hx498_0 | skip); obtain ⟨hx79_0, hf79_0⟩ := Kd.R_celln 0 HO_11.out ((ji47) : Int) p79 q79; replace p79 := eq_true p79; replace q79 := eq_true q79; obtain ⟨hy106_, hz106_⟩ := Kd.R_celln 0 HO_11.out ((ji47) : Int) (od_) (od_); have HP106 := Kd.R_putg HO_11.out ((ji47) : Int) t499) | ((with_reducible refine gate_store (t := 83) (p := 177) rfl ?_); refine store_event (t := 83) (p := 177) (v := ?vo_w107) (w1 := (wr.setCell ⟨go79, ((ji47) : Int).toNat, none⟩ (.int .u64 t499))) ?hg ?ho ?hn ?hr ?_; (case ho => rfl); (case hg => rfl); (case hn => rfl); (case hr => first | (go_simp; done) | (go_simp; rfl)); intro w107 hw; have hg : wr.grownBy w107 (some go79) := (by rw [hw]; exact HP106.2); have hp_ : Kd.R (Kd.int .u64) 83 w107 w.heap.size (fun k_ => (w.heap.size ≤ k_) ∧ some k_ ≠ (v467 : Value).ownBlock) (.slice (some ⟨go79, 0, none⟩) x11_2.length co63) y501 := (by rw [hw, Ny501.out]; exact HP106.1); clear HP106; replace HO_11 := Aside0.mk (hp_); replace HO_12 := Aside0.mk (Kd.V_afterv (v := (.slice (some ⟨go79, 0, none⟩) x11_2.length co63)) (v1 := (.slice (some ⟨go79, 0, none⟩) x11_2.length co63)) (ok := (fun k_ => (P0_ k_ ∨ w.heap.size ≤ k_) ∧ some k_ ≠ (v467 : Value).ownBlock)) (pV_ (Kd.V_mono HO_12.out (fun _ hk => ⟨⟨hk.1, hk.2.2⟩, hk.2.1⟩))) hg (.inl rfl)); replace HO_13 := Aside0.mk (Kd.R_after (v := (.slice (some ⟨go79, 0, none⟩) x11_2.length co63)) (v1 := (.slice (some ⟨go79, 0, none⟩) x11_2.length co63)) (ok := (fun k_ => (w.heap.size ≤ k_))) (pR_ HO_13.out) hg (.inl rfl)); replace HB := Aside0.mk ((by rw [hw]; exact below_set (HB.out) GB79.out : Below w.heap.size w w107)); clear hg hw hp_; have p105 : 0 ≤ (x14_1 : Int) := od_; have q105 : (x14_1 : Int) < ((x13_1.length : Int) : Int) := od_; obtain ⟨go105, co105, eo105, gb105, gl105, cl105, HG105⟩ := Kd.R_form HO_13.out (by omega); (first | cases eo105 | (injection eo105 with ea_ en_ ec_; (first | subst ea_ | (injection ea_ with ea_; subst ea_)); subst ec_; clear en_)); have GB105 := Aside0.mk gb105; have GG105 := Aside0.mk HG105; clear gb105 gl105 HG105; obtain ⟨hx105_0, hf105_0⟩ := Kd.R_celln 0 HO_13.out (x14_1 : Int) p105 q105; replace p105 := eq_true p105; replace q105 := eq_true q105; obtain ⟨hy108_, hz108_⟩ := Kd.R_celln 0 HO_13.out (x14_1 : Int) (od_) (od_); have HP108 := Kd.R_putg HO_13.out (x14_1 : Int) t488) | ((with_reducible refine gate_store (t := 83) (p := 219) rfl ?_); refine store_event (t := 83) (p := 219) (v := ?vo_w109) (w1 := (w107.setCell ⟨go105, (x14_1 : Int).toNat, none⟩ (.int .u64 t488))) ?hg ?ho ?hn ?hr ?_; (case ho => rfl); (case hg => rfl); (case hn => rfl); (case hr => first | (go_simp; done) | (go_simp; rfl)); intro w109 hw; have hg : w107.grownBy w109 (some go105) := (by rw [hw]; exact HP108.2); have hp_ : Kd.R (Kd.int .u64) 83 w109 w.heap.size (fun k_ => (w.heap.size ≤ k_) ∧ some k_ ≠ (.slice (some ⟨go79, 0, none⟩) x11_2.length co63 : Value).ownBlock) (.slice (some ⟨go105, 0, none⟩) x13_1.length co105) y510 := (by rw [hw, Ny510.out]; exact HP108.1); clear HP108; replace HO_11 := Aside0.mk (Kd.R_after (v := (.slice (some ⟨go105, 0, none⟩) x13_1.length co105)) (v1 := (.slice (some ⟨go105, 0, none⟩) x13_1.length co105)) (ok := (fun k_ => (w.heap.size ≤ k_))) (pR_ HO_11.out) hg (.inl rfl)); replace HO_12 := Aside0.mk (Kd.V_afterv (v := (.slice (some ⟨go105, 0, none⟩) x13_1.length co105)) (v1 := (.slice (some ⟨go105, 0, none⟩) x13_1.length co105)) (ok := (fun k_ => (P0_ k_ ∨ w.heap.size ≤ k_) ∧ some k_ ≠ (.slice (some ⟨go79, 0, none⟩) x11_2.length co63 : Value).ownBlock)) (pV_ (Kd.V_mono HO_12.out (fun _ hk => ⟨⟨hk.1.1, hk.2⟩, hk.1.2⟩))) hg (.inl rfl)); replace HO_13 := Aside0.mk (hp_); replace HB := Aside0.mk ((by rw [hw]; exact below_set (HB.out) GB105.out : Below w.heap.size w w109)); clear hg hw hp_))
    (try simp only [← hl11_2])
    go_roundg k2
    case measure => have := HK1.out; have := HK2.out; omega
    case rel => exact ⟨(y501), (y510), (wrap64 (x14_1 - 1)), (by first | rfl | (simp; done) | (simp [*]; done)), H', ⟨by have := HK1.out; have := HK2.out; omega⟩, ⟨by (try simp only [hl11_2]); (with_reducible repeat (first | apply Kd.R_alloc | apply Kd.R_drewN | apply Kd.R_drew)); exact HO_11.out⟩, ⟨by (try simp only [hl11_2]); (with_reducible repeat (first | apply Kd.V_alloc | apply Kd.V_drewN | apply Kd.V_drew)); exact Kd.V_mono HO_12.out (fun _ hk => ⟨hk.1.1, ⟨hk.1.2, hk.2⟩⟩)⟩, ⟨by (try simp only [hl11_2]); (with_reducible repeat (first | apply Kd.R_alloc | apply Kd.R_drewN | apply Kd.R_drew)); exact HO_13.out⟩, ⟨pB_ HB.out⟩⟩
  rw [if_pos c80] at H
  have c80b0 : (t500 == 1) = true := beq_iff_eq.mpr c80
  have c80b1 : (t500 != 1) = false := bne_eq_false_iff_eq.mpr c80
  clear c80
  have H' := Aside0.mk H
  clear H
  have p498 : 0 ≤ ((ji47) : Int) := od_
  have q498 : (ji47) < (x11_2.length : Int) := od_
  obtain ⟨ad498, e498, hx498_0⟩ := Kd.at_int (Kd.R_reads' HO_11.out).2.2 (ji47) p498 q498
  obtain rfl : ad483 = ad498 := (by injection e498)
  replace p498 := eq_true p498
  replace q498 := eq_true q498
  go_wp2_with (first | ((with_reducible refine gate_callee (f := 84) rfl ?_); refine goesX_ (some 174) rfl rfl #[.int .u64 (rd x11_2 (ji47)), .int .u64 x17_2, .int .u64 x16_2] rfl (by (try simp only [List.map_toArray, List.map_cons, List.map_nil]); first | done | (simp only [hji47]; rfl) | rfl) (bits_Sub64.run (rd x11_2 (ji47)) x17_2 x16_2 t499 t500 A78.out _) ?_; intro nd _; (try (rw [drewN_self wr]; generalize hq_ : World.drewN wr _ = wr; have n0_ : Aside0 (Kd.R (Kd.int .u64) 83 wr w.heap.size (fun k_ => (w.heap.size ≤ k_) ∧ some k_ ≠ (v467 : Value).ownBlock) (.slice (some ad483) x11_2.length co63) x11_2) := ⟨by rw [← hq_]; exact (pR_ HO_11.out)⟩; have n1_ : Aside0 (Kd.V (Kd.int .u64) 83 wr w.heap.size (fun k_ => (P0_ k_ ∨ w.heap.size ≤ k_) ∧ some k_ ≠ (.slice (some ad483) x11_2.length co63 : Value).ownBlock ∧ some k_ ≠ (v467 : Value).ownBlock) (.slice (some ad486) y461.length co43) y461) := ⟨by rw [← hq_]; exact (pV_ HO_12.out)⟩; have n2_ : Aside0 (Kd.R (Kd.int .u64) 83 wr w.heap.size (fun k_ => (w.heap.size ≤ k_) ∧ some k_ ≠ (.slice (some ad483) x11_2.length co63 : Value).ownBlock) v467 x13_1) := ⟨by rw [← hq_]; exact (pR_ HO_13.out)⟩; have n3_ : Aside0 (Below w.heap.size w wr) := ⟨by rw [← hq_]; exact (pB_ HB.out)⟩; clear HO_11 HO_12 HO_13 HB hq_; have HO_11 := n0_; have HO_12 := n1_; have HO_13 := n2_; have HB := n3_; clear n0_ n1_ n2_ n3_)); have p79 : 0 ≤ ((ji47) : Int) := od_; have q79 : ((ji47) : Int) < ((x11_2.length : Int) : Int) := od_; obtain ⟨go79, co79, eo79, gb79, gl79, cl79, HG79⟩ := Kd.R_form HO_11.out (by omega); (first | cases eo79 | (injection eo79 with ea_ en_ ec_; (first | subst ea_ | (injection ea_ with ea_; subst ea_)); subst ec_; clear en_)); have GB79 := Aside0.mk gb79; have GG79 := Aside0.mk HG79; clear gb79 gl79 HG79; (first | simp only [add_plain] at hx498_0 | skip); obtain ⟨hx79_0, hf79_0⟩ := Kd.R_celln 0 HO_11.out ((ji47) : Int) p79 q79; replace p79 := eq_true p79; replace q79 := eq_true q79; obtain ⟨hy81_, hz81_⟩ := Kd.R_celln 0 HO_11.out ((ji47) : Int) (od_) (od_); have HP81 := Kd.R_putg HO_11.out ((ji47) : Int) t499) | ((with_reducible refine gate_store (t := 83) (p := 177) rfl ?_); refine store_event (t := 83) (p := 177) (v := ?vo_w82) (w1 := (wr.setCell ⟨go79, ((ji47) : Int).toNat, none⟩ (.int .u64 t499))) ?hg ?ho ?hn ?hr ?_; (case ho => rfl); (case hg => rfl); (case hn => rfl); (case hr => first | (go_simp; done) | (go_simp; rfl)); intro w82 hw; have hg : wr.grownBy w82 (some go79) := (by rw [hw]; exact HP81.2); have hp_ : Kd.R (Kd.int .u64) 83 w82 w.heap.size (fun k_ => (w.heap.size ≤ k_) ∧ some k_ ≠ (v467 : Value).ownBlock) (.slice (some ⟨go79, 0, none⟩) x11_2.length co63) y501 := (by rw [hw, Ny501.out]; exact HP81.1); clear HP81; replace HO_11 := Aside0.mk (hp_); replace HO_12 := Aside0.mk (Kd.V_afterv (v := (.slice (some ⟨go79, 0, none⟩) x11_2.length co63)) (v1 := (.slice (some ⟨go79, 0, none⟩) x11_2.length co63)) (ok := (fun k_ => (P0_ k_ ∨ w.heap.size ≤ k_) ∧ some k_ ≠ (v467 : Value).ownBlock)) (pV_ (Kd.V_mono HO_12.out (fun _ hk => ⟨⟨hk.1, hk.2.2⟩, hk.2.1⟩))) hg (.inl rfl)); replace HO_13 := Aside0.mk (Kd.R_after (v := (.slice (some ⟨go79, 0, none⟩) x11_2.length co63)) (v1 := (.slice (some ⟨go79, 0, none⟩) x11_2.length co63)) (ok := (fun k_ => (w.heap.size ≤ k_))) (pR_ HO_13.out) hg (.inl rfl)); replace HB := Aside0.mk ((by rw [hw]; exact below_set (HB.out) GB79.out : Below w.heap.size w w82)); clear hg hw hp_))
  repeat (rw [addr_self]; generalize Addr.add _ _ = az_)
  go_loopg [17, 183] k2 (fun kq v17 v183 w' => ∃ (x11_3 : List Int) (x17_3 : Int) (x183_3 : Int), v17 = .int .u64 x17_3 ∧ v183 = .int .i64 x183_3 ∧ Aside0 (impl_nat_over.l3 kq (l1.length : Int) t454 x11_3 y461 x13_1 x14_1 (IntKind.u64.wrap (t488 - 1)) x17_3 (l1.length : Int) x183_3 = some (r1, r2)) ∧ Aside0 (kq ≤ k2) ∧ Aside0 (Kd.R (Kd.int .u64) 83 w' w.heap.size (fun k_ => (w.heap.size ≤ k_) ∧ some k_ ≠ (v467 : Value).ownBlock) (.slice (some ⟨go79, 0, none⟩) x11_2.length co63) x11_3) ∧ Aside0 (Kd.V (Kd.int .u64) 83 w' w.heap.size (fun k_ => (P0_ k_ ∨ w.heap.size ≤ k_) ∧ some k_ ≠ ((.slice (some ⟨go79, 0, none⟩) x11_2.length co63) : Value).ownBlock ∧ some k_ ≠ (v467 : Value).ownBlock) (.slice (some ad486) y461.length co43) y461) ∧ Aside0 (Kd.R (Kd.int .u64) 83 w' w.heap.size (fun k_ => (w.heap.size ≤ k_) ∧ some k_ ≠ ((.slice (some ⟨go79, 0, none⟩) x11_2.length co63) : Value).ownBlock) v467 x13_1) ∧ Aside0 (Below w.heap.size w w'))
  case atStart => exact ⟨(y501), (0), (0), (by first | rfl | (simp; done) | (simp [*]; done)), (by first | rfl | (simp; done) | (simp [*]; done)), H', ⟨Nat.le_refl _⟩, ⟨by (try simp only [hl11_2]); (with_reducible repeat (first | apply Kd.R_alloc | apply Kd.R_drewN | apply Kd.R_drew)); exact HO_11.out⟩, ⟨by (try simp only [hl11_2]); (with_reducible repeat (first | apply Kd.V_alloc | apply Kd.V_drewN | apply Kd.V_drew)); exact Kd.V_mono HO_12.out (fun _ hk => ⟨hk.1.1, ⟨hk.2, hk.1.2⟩⟩)⟩, ⟨by (try simp only [hl11_2]); (with_reducible repeat (first | apply Kd.R_alloc | apply Kd.R_drewN | apply Kd.R_drew)); exact HO_13.out⟩, ⟨pB_ HB.out⟩⟩
  clear H'
  try clear c1
  try clear p1
  try clear q1
  try clear hx1
  try clear c2
  try clear p2
  try clear c3
  try clear c4
  try clear c4b0
  try clear p4
  try clear q4
  try clear hx4
  try clear qi4
  try clear c5
  try clear c5b0
  try clear c5b1
  try clear c6
  try clear c6b0
  try clear c6b1
  try clear p6
  try clear c7
  try clear c7b0
  try clear c7b1
  try clear p7
  try clear q7
  try clear hx7
  try clear hf7
  try clear c8
  try clear c10
  try clear c10b0
  try clear c11
  try clear c11b0
  try clear c12
  try clear c12b0
  try clear c13
  try clear c13b0
  try clear c13b1
  try clear c15
  try clear c15b0
  try clear p16
  try clear q16
  try clear hx16
  try clear hf16
  try clear c28
  try clear c28b0
  try clear c29
  try clear c29b0
  try clear c33
  try clear c33b0
  try clear c33b1
  try clear c34
  try clear c34b0
  try clear c34b1
  try clear c36
  try clear c36b0
  try clear c36b1
  try clear c37
  try clear c37b0
  try clear c37b1
  try clear q42
  try clear p43
  try clear q43
  try clear hx43
  try clear p44
  try clear q44
  try clear hx44
  try clear qi44
  try clear p45
  try clear q45
  try clear hx45
  try clear c46
  try clear c46b0
  try clear c48
  try clear c48b0
  try clear p48
  try clear q48
  try clear hx48
  try clear c49
  try clear c49b0
  try clear p49
  try clear q49
  try clear hx49
  try clear c51
  try clear c51b0
  try clear c52
  try clear c52b0
  try clear c54
  try clear c54b0
  try clear c55
  try clear c55b0
  try clear c56
  try clear c56b0
  try clear c57
  try clear c57b0
  try clear c59
  try clear c59b0
  try clear c60
  try clear c60b0
  try clear c64
  try clear c64b0
  try clear p64
  try clear c65
  try clear c65b0
  try clear c66
  try clear c66b0
  try clear c70
  try clear c70b0
  try clear c71
  try clear c71b0
  try clear p73
  try clear q73
  try clear hx73
  try clear hf73
  try clear c76
  try clear c76b0
  try clear c77
  try clear c77b0
  try clear p79
  try clear q79
  try clear hx79
  try clear hf79
  try clear c80
  try clear c80b0
  try clear c80b1
  try clear c81
  try clear c82
  try clear hx16_0
  try clear hx439_0
  try clear hx440_0
  try clear hx453_0
  try clear hx483_0
  try clear hx484_0
  try clear hx485_0
  try clear hx486_0
  try clear hx487_0
  try clear hx489_0
  try clear hx494_0
  try clear hx498_0
  try clear hx73_0
  try clear hx79_0
  try clear p1
  try clear p16
  try clear p2
  try clear p4
  try clear p43
  try clear p439
  try clear p44
  try clear p440
  try clear p45
  try clear p453
  try clear p48
  try clear p483
  try clear p484
  try clear p485
  try clear p486
  try clear p487
  try clear p489
  try clear p494
  try clear p498
  try clear p6
  try clear p73
  try clear p79
  try clear q1
  try clear q16
  try clear q4
  try clear q42
  try clear q43
  try clear q439
  try clear q44
  try clear q440
  try clear q45
  try clear q453
  try clear q48
  try clear q483
  try clear q484
  try clear q485
  try clear q486
  try clear q487
  try clear q489
  try clear q494
  try clear q498
  try clear q73
  try clear q79
  obtain ⟨x11_3, x17_3, x183_3, rfl, rfl, HA, HK3, HO_11, HO_12, HO_13, HB⟩ := hrel
  have hl11_3 := (Kd.R_reads' HO_11.out).1
  rw [hl11_3] at HO_11
  (try simp only [hl11_3])
  (try simp only [hl11_3] at HO_12)
  (try simp only [hl11_3] at HO_13)
  rcases gk with _ | k3
  · exact absurd HA.out (by simp [impl_nat_over.l3])
  have H := HA.out
  clear HA
  simp only [impl_nat_over.l3] at H
  by_cases c83 : x183_3 < (l1.length : Int)
  rotate_left
  · rw [if_neg c83] at H
    have c83b0 : decide (x183_3 < (l1.length : Int)) = false := decide_eq_false c83
    (try (have c83x0 := c83b0; simp only [hl11_2, hl11_3] at c83x0))
    clear c83
    first | rw [hji47] at H | simp only [hji47] at H | skip
    by_cases c93 : 0 ≤ (ji47)
    rotate_left
    · rw [if_neg c93] at H; exact absurd H (by simp)
    rw [if_pos c93] at H
    have c93b0 : decide (0 ≤ (ji47)) = true := decide_eq_true c93
    clear c93
    by_cases c94 : (ji47) < (x11_3.length : Int)
    rotate_left
    · rw [if_neg c94] at H; exact absurd H (by simp)
    rw [if_pos c94] at H
    have c94b0 : decide ((ji47) < (x11_3.length : Int)) = true := decide_eq_true c94
    (try (have c94x0 := c94b0; simp only [hl11_2, hl11_3] at c94x0))
    clear c94
    obtain ⟨y508, hy508⟩ : ∃ y_ : List Int, y_ = (x11_3.set ((ji47) : Int).toNat (IntKind.u64.wrap ((rd x11_3 (ji47)) + x17_3))) := ⟨_, rfl⟩
    first | rw [← hy508] at H | skip
    have Ny508 := Aside0.mk hy508
    clear hy508
    by_cases c96 : 0 ≤ x14_1
    rotate_left
    · rw [if_neg c96] at H; exact absurd H (by simp)
    rw [if_pos c96] at H
    have c96b0 : decide (0 ≤ x14_1) = true := decide_eq_true c96
    clear c96
    by_cases c97 : x14_1 < (x13_1.length : Int)
    rotate_left
    · rw [if_neg c97] at H; exact absurd H (by simp)
    rw [if_pos c97] at H
    have c97b0 : decide (x14_1 < (x13_1.length : Int)) = true := decide_eq_true c97
    (try (have c97x0 := c97b0; simp only [hl11_2, hl11_3] at c97x0))
    clear c97
    obtain ⟨y509, hy509⟩ : ∃ y_ : List Int, y_ = (x13_1.set (x14_1 : Int).toNat (IntKind.u64.wrap (t488 - 1))) := ⟨_, rfl⟩
    first | rw [← hy509] at H | skip
    have Ny509 := Aside0.mk hy509
    clear hy509
    have H' := Aside0.mk H
    clear H
    have p507 : 0 ≤ ((ji47) : Int) := od_
    have q507 : (ji47) < (x11_3.length : Int) := od_
    obtain ⟨ad507, e507, hx507_0⟩ := Kd.at_int (Kd.R_reads' HO_11.out).2.2 (ji47) p507 q507
    obtain rfl : (⟨go79, 0, none⟩ : Addr) = ad507 := (by injection e507)
    (first | simp only [add_plain] at hx507_0 | simp only [add_at] at hx507_0 | simp only [Addr.add, Nat.zero_add] at hx507_0 | skip)
    replace p507 := eq_true p507
    replace q507 := eq_true q507
    have p95 : 0 ≤ ((ji47) : Int) := od_
    have q95 : ((ji47) : Int) < ((x11_3.length : Int) : Int) := od_
    obtain ⟨hx95_0, hf95_0⟩ := Kd.R_celln 0 HO_11.out ((ji47) : Int) p95 q95
    replace p95 := eq_true p95
    replace q95 := eq_true q95
    have HP99 := Kd.R_putg HO_11.out ((ji47) : Int) (IntKind.u64.wrap ((rd x11_3 (ji47)) + x17_3))
    go_wp2_with (first | ((with_reducible refine gate_store (t := 83) (p := 215) rfl ?_); refine store_event (t := 83) (p := 215) (v := ?vo_w100) (w1 := (wr.setCell ⟨go79, ((ji47) : Int).toNat, none⟩ (.int .u64 (IntKind.u64.wrap ((rd x11_3 (ji47)) + x17_3))))) ?hg ?ho ?hn ?hr ?_; (case ho => rfl); (case hg => rfl); (case hn => rfl); (case hr => first | (go_simp; done) | (go_simp; rfl)); intro w100 hw; have hg : wr.grownBy w100 (some go79) := (by rw [hw]; exact HP99.2); have hp_ : Kd.R (Kd.int .u64) 83 w100 w.heap.size (fun k_ => (w.heap.size ≤ k_) ∧ some k_ ≠ (v467 : Value).ownBlock) (.slice (some ⟨go79, 0, none⟩) x11_3.length co63) y508 := (by rw [hw, Ny508.out]; exact HP99.1); clear HP99; replace HO_11 := Aside0.mk (hp_); replace HO_12 := Aside0.mk (Kd.V_afterv (v := (.slice (some ⟨go79, 0, none⟩) x11_3.length co63)) (v1 := (.slice (some ⟨go79, 0, none⟩) x11_3.length co63)) (ok := (fun k_ => (P0_ k_ ∨ w.heap.size ≤ k_) ∧ some k_ ≠ (v467 : Value).ownBlock)) (pV_ (Kd.V_mono HO_12.out (fun _ hk => ⟨⟨hk.1, hk.2.2⟩, hk.2.1⟩))) hg (.inl rfl)); replace HO_13 := Aside0.mk (Kd.R_after (v := (.slice (some ⟨go79, 0, none⟩) x11_3.length co63)) (v1 := (.slice (some ⟨go79, 0, none⟩) x11_3.length co63)) (ok := (fun k_ => (w.heap.size ≤ k_))) (pR_ HO_13.out) hg (.inl rfl)); replace HB := Aside0.mk ((by rw [hw]; exact below_set (HB.out) GB79.out : Below w.heap.size w w100)); clear hg hw hp_; have p98 : 0 ≤ (x14_1 : Int) := od_; have q98 : (x14_1 : Int) < ((x13_1.length : Int) : Int) := od_; obtain ⟨go98, co98, eo98, gb98, gl98, cl98, HG98⟩ := Kd.R_form HO_13.out (by omega); (first | cases eo98 | (injection eo98 with ea_ en_ ec_; (first | subst ea_ | (injection ea_ with ea_; subst ea_)); subst ec_; clear en_)); have GB98 := Aside0.mk gb98; have GG98 := Aside0.mk HG98; clear gb98 gl98 HG98; obtain ⟨hx98_0, hf98_0⟩ := Kd.R_celln 0 HO_13.out (x14_1 : Int) p98 q98; replace p98 := eq_true p98; replace q98 := eq_true q98; obtain ⟨hy101_, hz101_⟩ := Kd.R_celln 0 HO_13.out (x14_1 : Int) (od_) (od_); have HP101 := Kd.R_putg HO_13.out (x14_1 : Int) (IntKind.u64.wrap (t488 - 1))) | ((with_reducible refine gate_store (t := 83) (p := 219) rfl ?_); refine store_event (t := 83) (p := 219) (v := ?vo_w102) (w1 := (w100.setCell ⟨go98, (x14_1 : Int).toNat, none⟩ (.int .u64 (IntKind.u64.wrap (t488 - 1))))) ?hg ?ho ?hn ?hr ?_; (case ho => rfl); (case hg => rfl); (case hn => rfl); (case hr => first | (go_simp; done) | (go_simp; rfl)); intro w102 hw; have hg : w100.grownBy w102 (some go98) := (by rw [hw]; exact HP101.2); have hp_ : Kd.R (Kd.int .u64) 83 w102 w.heap.size (fun k_ => (w.heap.size ≤ k_) ∧ some k_ ≠ (.slice (some ⟨go79, 0, none⟩) x11_3.length co63 : Value).ownBlock) (.slice (some ⟨go98, 0, none⟩) x13_1.length co98) y509 := (by rw [hw, Ny509.out]; exact HP101.1); clear HP101; replace HO_11 := Aside0.mk (Kd.R_after (v := (.slice (some ⟨go98, 0, none⟩) x13_1.length co98)) (v1 := (.slice (some ⟨go98, 0, none⟩) x13_1.length co98)) (ok := (fun k_ => (w.heap.size ≤ k_))) (pR_ HO_11.out) hg (.inl rfl)); replace HO_12 := Aside0.mk (Kd.V_afterv (v := (.slice (some ⟨go98, 0, none⟩) x13_1.length co98)) (v1 := (.slice (some ⟨go98, 0, none⟩) x13_1.length co98)) (ok := (fun k_ => (P0_ k_ ∨ w.heap.size ≤ k_) ∧ some k_ ≠ (.slice (some ⟨go79, 0, none⟩) x11_3.length co63 : Value).ownBlock)) (pV_ (Kd.V_mono HO_12.out (fun _ hk => ⟨⟨hk.1.1, hk.2⟩, hk.1.2⟩))) hg (.inl rfl)); replace HO_13 := Aside0.mk (hp_); replace HB := Aside0.mk ((by rw [hw]; exact below_set (HB.out) GB98.out : Below w.heap.size w w102)); clear hg hw hp_))
    (try simp only [← hl11_2, ← hl11_3])
    go_roundg k3
    case measure => have := HK1.out; have := HK2.out; have := HK3.out; omega
    case rel => exact ⟨(y508), (y509), (wrap64 (x14_1 - 1)), (by first | rfl | (simp; done) | (simp [*]; done)), H', ⟨by have := HK1.out; have := HK2.out; have := HK3.out; omega⟩, ⟨by (try simp only [hl11_2]); (try simp only [hl11_3]); (with_reducible repeat (first | apply Kd.R_alloc | apply Kd.R_drewN | apply Kd.R_drew)); exact HO_11.out⟩, ⟨by (try simp only [hl11_2]); (try simp only [hl11_3]); (with_reducible repeat (first | apply Kd.V_alloc | apply Kd.V_drewN | apply Kd.V_drew)); exact Kd.V_mono HO_12.out (fun _ hk => ⟨hk.1.1, ⟨hk.1.2, hk.2⟩⟩)⟩, ⟨by (try simp only [hl11_2]); (try simp only [hl11_3]); (with_reducible repeat (first | apply Kd.R_alloc | apply Kd.R_drewN | apply Kd.R_drew)); exact HO_13.out⟩, ⟨pB_ HB.out⟩⟩
  rw [if_pos c83] at H
  have c83b0 : decide (x183_3 < (l1.length : Int)) = true := decide_eq_true c83
  (try (have c83x0 := c83b0; simp only [hl11_2, hl11_3] at c83x0))
  clear c83
  obtain ⟨ji84, hji84⟩ : ∃ j_ : Int, (wrap64 (x14_1 + x183_3)) = j_ := ⟨_, rfl⟩
  first | rw [hji84] at H | simp only [hji84] at H | skip
  have hji84w : (IntKind.i64.wrap (x14_1 + x183_3)) = ji84 := (i64_w _).trans hji84
  by_cases c85 : 0 ≤ (ji84)
  rotate_left
  · rw [if_neg c85] at H; exact absurd H (by simp)
  rw [if_pos c85] at H
  have c85b0 : decide (0 ≤ (ji84)) = true := decide_eq_true c85
  clear c85
  by_cases c86 : (ji84) < (x11_3.length : Int)
  rotate_left
  · rw [if_neg c86] at H; exact absurd H (by simp)
  rw [if_pos c86] at H
  have c86b0 : decide ((ji84) < (x11_3.length : Int)) = true := decide_eq_true c86
  (try (have c86x0 := c86b0; simp only [hl11_2, hl11_3] at c86x0))
  clear c86
  by_cases c87 : 0 ≤ x183_3
  rotate_left
  · rw [if_neg c87] at H; exact absurd H (by simp)
  rw [if_pos c87] at H
  have c87b0 : decide (0 ≤ x183_3) = true := decide_eq_true c87
  clear c87
  by_cases c88 : x183_3 < (y461.length : Int)
  rotate_left
  · rw [if_neg c88] at H; exact absurd H (by simp)
  rw [if_pos c88] at H
  have c88b0 : decide (x183_3 < (y461.length : Int)) = true := decide_eq_true c88
  (try (have c88x0 := c88b0; simp only [hl11_2, hl11_3] at c88x0))
  clear c88
  replace H := Option.bind_eq_some_iff.mp H
  obtain ⟨⟨t504, t505⟩, A890, H⟩ := H
  replace H : (impl_nat_over.l3 k3 (l1.length : Int) t454 (x11_3.set ((ji84) : Int).toNat t504) y461 x13_1 x14_1 (IntKind.u64.wrap (t488 - 1)) t505 (l1.length : Int) (wrap64 (x183_3 + 1))) = some (r1, r2) := H
  have A89 := Aside0.mk A890
  clear A890
  obtain ⟨y506, hy506⟩ : ∃ y_ : List Int, y_ = (x11_3.set ((ji84) : Int).toNat t504) := ⟨_, rfl⟩
  first | rw [← hy506] at H | skip
  have Ny506 := Aside0.mk hy506
  clear hy506
  have H' := Aside0.mk H
  clear H
  try go_wp2
  have n0_ := Aside0.mk (Kd.R_drew HO_11.out)
  have n1_ := Aside0.mk (Kd.V_drew HO_12.out)
  have n2_ := Aside0.mk (Kd.R_drew HO_13.out)
  have n3_ := Aside0.mk (below_drew1 HB.out)
  clear HO_11
  clear HO_12
  clear HO_13
  clear HB
  have HO_11 := n0_
  have HO_12 := n1_
  have HO_13 := n2_
  have HB := n3_
  clear n0_ n1_ n2_ n3_
  have p502 : 0 ≤ ((ji84) : Int) := od_
  have q502 : (ji84) < (x11_3.length : Int) := od_
  obtain ⟨ad502, e502, hx502_0⟩ := Kd.at_int (Kd.R_reads' HO_11.out).2.2 (ji84) p502 q502
  obtain rfl : (⟨go79, 0, none⟩ : Addr) = ad502 := (by injection e502)
  (first | simp only [add_plain] at hx502_0 | simp only [add_at] at hx502_0 | simp only [Addr.add, Nat.zero_add] at hx502_0 | skip)
  replace p502 := eq_true p502
  replace q502 := eq_true q502
  have p503 : 0 ≤ (x183_3 : Int) := od_
  have q503 : x183_3 < (y461.length : Int) := od_
  obtain ⟨ad503, e503, hx503_0⟩ := Kd.at_int (Kd.V_reads' HO_12.out).2.2 x183_3 p503 q503
  obtain rfl : ad486 = ad503 := (by injection e503)
  replace p503 := eq_true p503
  replace q503 := eq_true q503
  refine start_ (n := 22) (S := fun w' => w'.cell? ⟨go79, ((ji84)).toNat, none⟩ = some (.int .u64 (rd x11_3 (ji84))) ∧ w'.cell? (ad486.add (x183_3).toNat) = some (.int .u64 (rd y461 x183_3))) (ds := [15, 20]) #[false, false, false, false, false, false, false, false, false, false, false, false, false, false, false, false, false, false, false, false, false, false] (by kernel_rfl) rfl rfl ⟨hx502_0, hx503_0⟩ (fun hHeld => ?_); refine with_tabW impl_nat_over.tab34 impl_nat_over.bits34 (fun HT_ HW_ => ?_)
  generalize wr.drew = w91 at HO_11 HO_12 HO_13 HB hx502_0 hx503_0 hHeld ⊢
  refine pu_ 0 187 HT_.out ?_
  refine pu_ 1 188 HT_.out ?_
  refine pu_ 2 189 HT_.out ?_
  refine pu_ 3 190 HT_.out ?_
  refine pu_ 4 191 HT_.out ?_
  refine pu_ 5 192 HT_.out ?_
  refine pu_ 6 193 HT_.out ?_
  refine pu_ 7 194 HT_.out ?_
  refine pu_ 8 195 HT_.out ?_
  refine pu_ 10 197 HT_.out ?_
  refine pu_ 11 198 HT_.out ?_
  refine pu_ 12 199 HT_.out ?_
  refine pu_ 14 201 HT_.out ?_
  refine take_ (i := 9) (N := some 196) (v := ?_) (a' := ?_) #[true, true, true, true, true, true, true, true, true, true, true, true, true, false, true, false, false, false, false, false, false, false] rfl rfl (take_ofW HT_.out HW_.out (by kernel_rfl)) (fun _ _ _ h => h) (Or.inl ⟨by rfl, ?_⟩) hHeld ?_ ?_
  rotate_left
  · rintro w' ⟨s0, s1⟩
    go_simp
    with_reducible rfl
  rotate_left
  · simp only [Act.put, List.setIfInBounds_toArray, List.set_cons_zero, List.set_cons_succ, i64_w, i32_w]
    rfl
  refine take_ (i := 13) (N := some 200) (v := ?_) (a' := ?_) #[true, true, true, true, true, true, true, true, true, true, true, true, true, true, true, false, false, false, false, false, false, false] rfl rfl (take_ofW HT_.out HW_.out (by kernel_rfl)) (fun _ _ _ h => h) (Or.inl ⟨by rfl, ?_⟩) hHeld ?_ ?_
  rotate_left
  · rintro w' ⟨s0, s1⟩
    go_simp
    with_reducible rfl
  rotate_left
  · simp only [Act.put, List.setIfInBounds_toArray, List.set_cons_zero, List.set_cons_succ, i64_w, i32_w]
    rfl
  refine last_ (i := 15) (N := some 202) #[true, true, true, true, true, true, true, true, true, true, true, true, true, true, true, true, false, false, false, false, false, false] rfl rfl (one_of HT_.out (by kernel_rfl)) (by decide) (fun K hK => ?_)
  refine goesXs_ #[.int .u64 (rd x11_3 (ji84)), .int .u64 (rd y461 x183_3), .int .u64 x17_3] (by rfl) rfl rfl (by (try simp only [List.map_toArray, List.map_cons, List.map_nil]); first | done | (simp only [hji84]; rfl) | rfl | (simp only [List.length_drop, List.length_take]; rfl)) (bits_Add64.run (rd x11_3 (ji84)) (rd y461 x183_3) x17_3 t504 t505 A89.out _) ?_
  intro nd _
  have p90 : 0 ≤ ((ji84) : Int) := od_
  have q90 : ((ji84) : Int) < ((x11_3.length : Int) : Int) := od_
  obtain ⟨hx90_0, hf90_0⟩ := Kd.R_celln 0 HO_11.out ((ji84) : Int) p90 q90
  replace p90 := eq_true p90
  replace q90 := eq_true q90
  have HP92 := Kd.R_putn HO_11.out ((ji84) : Int) t504
  rw [← Ny506.out] at HP92
  have HQ92 := Aside0.mk HP92
  clear HP92
  refine hK.out _ _ ?_
  clear hK K
  refine norm_ (a' := ?_) ?_ ?_
  rotate_left
  · show Act.put _ (some 202) _ = _
    simp only [Act.put, List.setIfInBounds_toArray, List.set_cons_zero, List.set_cons_succ, i64_w, i32_w]
    rfl
  refine pu_ 16 186 HT_.out ?_
  refine pu_ 17 203 HT_.out ?_
  refine pu_ 18 204 HT_.out ?_
  refine pu_ 19 205 HT_.out ?_
  refine last_ (i := 20) (N := none) #[true, true, true, true, true, true, true, true, true, true, true, true, true, true, true, true, true, true, true, true, true, false] rfl rfl (one_of HT_.out (by kernel_rfl)) (by decide) (fun K hK => ?_)
  refine skip_ (w1 := ?_) (by rfl) rfl ?_ ?_
  rotate_left
  · go_simp
    rfl
  refine hK.out _ _ ?_
  clear hK K
  refine pu_ 21 17 HT_.out ?_
  refine done_ (done_of HT_.out (by kernel_rfl)) ?_
  try go_wp2
  (try simp only [← hl11_3])
  go_roundg k3
  case measure => have := HK1.out; have := HK2.out; have := HK3.out; omega
  case rel => exact ⟨(y506), (t505), (wrap64 (x183_3 + 1)), (by first | rfl | (simp; done) | (simp [*]; done)), (by first | rfl | (simp; done) | (simp [*]; done)), H', ⟨by have := HK1.out; have := HK2.out; have := HK3.out; omega⟩, ⟨by (try simp only [hl11_2]); (try simp only [hl11_3]); (with_reducible repeat (first | apply Kd.R_alloc | apply Kd.R_drewN | apply Kd.R_drew)); exact HQ92.out⟩, ⟨by (try simp only [hl11_2]); (try simp only [hl11_3]); (with_reducible repeat (first | apply Kd.V_alloc | apply Kd.V_drewN | apply Kd.V_drew)); exact Kd.V_mono (Kd.V_far (p := ⟨go79, ((ji84) : Int).toNat, none⟩) (Kd.V_mono HO_12.out (fun k_ hk => (⟨hk, fun e_ => hk.2.1 (by rw [e_]; rfl)⟩ : _ ∧ k_ ≠ go79))) (fun _ hk => hk.2) (.int .u64 t504)) (fun _ hk => ⟨hk.1.1, ⟨hk.1.2.1, hk.1.2.2⟩⟩)⟩, ⟨by (try simp only [hl11_2]); (try simp only [hl11_3]); (with_reducible repeat (first | apply Kd.R_alloc | apply Kd.R_drewN | apply Kd.R_drew)); exact Kd.R_mono (Kd.R_far (p := ⟨go79, ((ji84) : Int).toNat, none⟩) (Kd.R_mono HO_13.out (fun k_ hk => (⟨hk, fun e_ => hk.2 (by rw [e_]; rfl)⟩ : _ ∧ k_ ≠ go79))) (fun _ hk => hk.2) (.int .u64 t504)) (fun _ hk => ⟨hk.1.1, hk.1.2⟩)⟩, ⟨by repeat (first | (with_reducible first | exact HB.out | apply below_alloc | apply pw_below_drewN | apply below_drew1 | refine below_set ?_ GB79.out) | exact HB.out)⟩⟩

end Go.Proofs.Ytghhnjhjhjbljaa.F
