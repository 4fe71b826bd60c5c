-- Made for this seat by a program of this session (wip/fork, wip/slim.py). Lean checks it.
import Derived.Test.YtghhnjhjhjbljaaVEFx0
import Derived.Test.YtghhnjhjhjbljaaZE0
namespace Go.Proofs.Ytghhnjhjhjbljaa.F
open Go.RowKit Go.Proofs.YtghhnjhjhjbljaaW.PrintWords Go.Proofs.YtghhnjhjhjbljaaW.PrintLast Go.Proofs.YtghhnjhjhjbljaaW.PrintMore
attribute [local go_sem] max2_int min2_int max_two min_two max_three min_three max_four min_four   -- for this text's walks alone
set_option linter.unusedVariables false
set_option linter.unusedSimpArgs false

/-! ### spec_l02Div: function 44 -/
mutual
def spec_l02Div.l0 : Nat → List Int → List Int → List Int → Int → Int → Option (List Int × List Int)
  | 0, _, _, _, _, _ => none
  | k + 1, x0, x1, x7, x8, x9 => if x9 ≥ 0 then (if 0 ≤ x9 then (if x9 < (x0.length : Int) then (if 0 < (x1.length : Int) then (if (rd x1 0) = 0 then (none) else (if x9 < (x7.length : Int) then (spec_l02Div.l0 k x0 x1 (x7.set (x9 : Int).toNat (wrap64 (Int.tdiv (Go.bits .or .i64 (wrap64 (x8 * 16777216)) (rd x0 x9)) (rd x1 0)))) (Int.tmod (Go.bits .or .i64 (wrap64 (x8 * 16777216)) (rd x0 x9)) (rd x1 0)) (wrap64 (x9 - 1))) else (none))) else (none)) else (none)) else (none)) else ((spec_l02Trim.f k x7).bind fun t181 => ((spec_l02Trim.f k (([x8] : List Int))).bind fun t187 => (some (t181, t187))))
def spec_l02Div.l1 : Nat → List Int → List Int → Int → Int → Option (List Int × List Int)
  | 0, _, _, _, _ => none
  | k + 1, x0, x1, x6, x11 => if 0 ≤ (wrap64 (x6 - 1)) then (if (wrap64 (x6 - 1)) < (x1.length : Int) then (if 0 ≤ x11 then (if (shl .i64 (rd x1 (wrap64 (x6 - 1))) x11) < 8388608 then (spec_l02Div.l1 k x0 x1 x6 (IntKind.u64.wrap (x11 + 1))) else ((spec_l02Left.f k x0 x11).bind fun t191 => ((spec_l02Left.f k x1 x11).bind fun t194 => ((spec_l02Trim.f k t194).bind fun t197 => (if 0 ≤ (wrap64 ((t191.length : Int) - x6)) then (if (wrap64 ((t191.length : Int) - x6) : Int).toNat ≤ 35184372088832 then (spec_l02Div.l2 k x6 x11 t191 t197 (List.replicate (wrap64 ((t191.length : Int) - x6) : Int).toNat 0) (wrap64 ((wrap64 ((t191.length : Int) - x6)) - 1))) else (none)) else (none)))))) else (none)) else (none)) else (none)
def spec_l02Div.l2 : Nat → Int → Int → List Int → List Int → List Int → Int → Option (List Int × List Int)
  | 0, _, _, _, _, _, _ => none
  | k + 1, x6, x11, x12, x13, x15, x16 => if x16 ≥ 0 then (if 0 ≤ (wrap64 (x16 + x6)) then (if (wrap64 (x16 + x6)) < (x12.length : Int) then (if 0 ≤ (wrap64 ((wrap64 (x16 + x6)) - 1)) then (if (wrap64 ((wrap64 (x16 + x6)) - 1)) < (x12.length : Int) then (if 0 ≤ (wrap64 (x6 - 1)) then (if (wrap64 (x6 - 1)) < (x13.length : Int) then (if (rd x13 (wrap64 (x6 - 1))) = 0 then (none) else (spec_l02Div.l3 k x6 x11 x12 x13 x15 x16 (wrap64 (Int.tdiv (Go.bits .or .i64 (wrap64 ((rd x12 (wrap64 (x16 + x6))) * 16777216)) (rd x12 (wrap64 ((wrap64 (x16 + x6)) - 1)))) (rd x13 (wrap64 (x6 - 1))))) (Int.tmod (Go.bits .or .i64 (wrap64 ((rd x12 (wrap64 (x16 + x6))) * 16777216)) (rd x12 (wrap64 ((wrap64 (x16 + x6)) - 1)))) (rd x13 (wrap64 (x6 - 1)))))) else (none)) else (none)) else (none)) else (none)) else (none)) else (none)) else (if 0 ≤ x6 then (if (x6 : Int).toNat ≤ 35184372088832 then (spec_l02Div.l6 k x6 x11 x12 x15 (List.replicate (x6 : Int).toNat 0) 0) else (none)) else (none))
def spec_l02Div.j5 : Nat → Int → Int → List Int → List Int → List Int → Int → Int → Option (List Int × List Int)
  | 0, _, _, _, _, _, _, _ => none
  | k + 1, x6, x11, x12, x13, x15, x16, x18 => spec_l02Div.l4 k x6 x11 x12 x13 x15 x16 x18 0 0
def spec_l02Div.l4 : Nat → Int → Int → List Int → List Int → List Int → Int → Int → Int → Int → Option (List Int × List Int)
  | 0, _, _, _, _, _, _, _, _, _ => none
  | k + 1, x6, x11, x12, x13, x15, x16, x18, x20, x21 => if x21 < x6 then (if 0 ≤ (wrap64 (x21 + x16)) then (if (wrap64 (x21 + x16)) < (x12.length : Int) then (if 0 ≤ x21 then (if x21 < (x13.length : Int) then (spec_l02Div.l4 k x6 x11 (x12.set ((wrap64 (x21 + x16)) : Int).toNat (Go.bits .and .i64 (wrap64 ((wrap64 ((rd x12 (wrap64 (x21 + x16))) - (wrap64 (x18 * (rd x13 x21))))) - x20)) 16777215)) x13 x15 x16 x18 (wrap64 (-((wrap64 ((wrap64 ((rd x12 (wrap64 (x21 + x16))) - (wrap64 (x18 * (rd x13 x21))))) - x20)) / 16777216))) (wrap64 (x21 + 1))) else (none)) else (none)) else (none)) else (none)) else (if 0 ≤ (wrap64 (x16 + x6)) then (if (wrap64 (x16 + x6)) < (x12.length : Int) then ((some (x12.set ((wrap64 (x16 + x6)) : Int).toNat (Go.bits .and .i64 (wrap64 ((rd x12 (wrap64 (x16 + x6))) - x20)) 16777215) : List Int)).bind fun y214 => (if (wrap64 ((rd x12 (wrap64 (x16 + x6))) - x20)) < 0 then (spec_l02Div.l5 k x6 x11 y214 x13 x15 x16 (wrap64 (x18 - 1)) 0 0) else (if 0 ≤ x16 then (if x16 < (x15.length : Int) then (spec_l02Div.l2 k x6 x11 y214 x13 (x15.set (x16 : Int).toNat x18) (wrap64 (x16 - 1))) else (none)) else (none)))) else (none)) else (none))
def spec_l02Div.l5 : Nat → Int → Int → List Int → List Int → List Int → Int → Int → Int → Int → Option (List Int × List Int)
  | 0, _, _, _, _, _, _, _, _, _ => none
  | k + 1, x6, x11, x12, x13, x15, x16, x18, x24, x25 => if x25 < x6 then (if 0 ≤ (wrap64 (x25 + x16)) then (if (wrap64 (x25 + x16)) < (x12.length : Int) then (if 0 ≤ x25 then (if x25 < (x13.length : Int) then (spec_l02Div.l5 k x6 x11 (x12.set ((wrap64 (x25 + x16)) : Int).toNat (Go.bits .and .i64 (wrap64 ((wrap64 ((rd x12 (wrap64 (x25 + x16))) + (rd x13 x25))) + x24)) 16777215)) x13 x15 x16 x18 ((wrap64 ((wrap64 ((rd x12 (wrap64 (x25 + x16))) + (rd x13 x25))) + x24)) / 16777216) (wrap64 (x25 + 1))) else (none)) else (none)) else (none)) else (none)) else (if 0 ≤ (wrap64 (x16 + x6)) then (if (wrap64 (x16 + x6)) < (x12.length : Int) then (if 0 ≤ x16 then (if x16 < (x15.length : Int) then (spec_l02Div.l2 k x6 x11 (x12.set ((wrap64 (x16 + x6)) : Int).toNat (Go.bits .and .i64 (wrap64 ((rd x12 (wrap64 (x16 + x6))) + x24)) 16777215)) x13 (x15.set (x16 : Int).toNat x18) (wrap64 (x16 - 1))) else (none)) else (none)) else (none)) else (none))
def spec_l02Div.l3 : Nat → Int → Int → List Int → List Int → List Int → Int → Int → Int → Option (List Int × List Int)
  | 0, _, _, _, _, _, _, _, _ => none
  | k + 1, x6, x11, x12, x13, x15, x16, x18, x19 => if x18 ≥ 16777216 then (spec_l02Div.j4 k x6 x11 x12 x13 x15 x16 x18 x19 true) else (if 0 ≤ (wrap64 (x6 - 2)) then (if (wrap64 (x6 - 2)) < (x13.length : Int) then (if 0 ≤ (wrap64 ((wrap64 (x16 + x6)) - 2)) then (if (wrap64 ((wrap64 (x16 + x6)) - 2)) < (x12.length : Int) then (spec_l02Div.j4 k x6 x11 x12 x13 x15 x16 x18 x19 (decide ((wrap64 (x18 * (rd x13 (wrap64 (x6 - 2))))) > (Go.bits .or .i64 (wrap64 (x19 * 16777216)) (rd x12 (wrap64 ((wrap64 (x16 + x6)) - 2))))))) else (none)) else (none)) else (none)) else (none))
def spec_l02Div.j4 : Nat → Int → Int → List Int → List Int → List Int → Int → Int → Int → Bool → Option (List Int × List Int)
  | 0, _, _, _, _, _, _, _, _, _ => none
  | k + 1, x6, x11, x12, x13, x15, x16, x18, x19, x155 => if x155 = true then (if 0 ≤ (wrap64 (x6 - 1)) then (if (wrap64 (x6 - 1)) < (x13.length : Int) then (if (wrap64 (x19 + (rd x13 (wrap64 (x6 - 1))))) ≥ 16777216 then (spec_l02Div.j5 k x6 x11 x12 x13 x15 x16 (wrap64 (x18 - 1))) else (spec_l02Div.l3 k x6 x11 x12 x13 x15 x16 (wrap64 (x18 - 1)) (wrap64 (x19 + (rd x13 (wrap64 (x6 - 1))))))) else (none)) else (none)) else (spec_l02Div.j5 k x6 x11 x12 x13 x15 x16 x18)
def spec_l02Div.l6 : Nat → Int → Int → List Int → List Int → List Int → Int → Option (List Int × List Int)
  | 0, _, _, _, _, _, _ => none
  | k + 1, x6, x11, x12, x15, x27, x28 => if x28 < x6 then (if 0 ≤ x28 then (if x28 < (x12.length : Int) then (if 0 ≤ x11 then (if 0 ≤ (wrap64 (x28 + 1)) then (if (wrap64 (x28 + 1)) < (x12.length : Int) then (if 0 ≤ (IntKind.u64.wrap (24 - x11)) then (if x28 < (x27.length : Int) then (spec_l02Div.l6 k x6 x11 x12 x15 (x27.set (x28 : Int).toNat (Go.bits .and .i64 (Go.bits .or .i64 (shr .i64 (rd x12 x28) x11) (shl .i64 (rd x12 (wrap64 (x28 + 1))) (IntKind.u64.wrap (24 - x11)))) 16777215)) (wrap64 (x28 + 1))) else (none)) else (none)) else (none)) else (none)) else (none)) else (none)) else (none)) else ((spec_l02Trim.f k x15).bind fun t228 => ((spec_l02Trim.f k x27).bind fun t231 => (some (t228, t231))))
end
def spec_l02Div.f (k : Nat) (l0 : List Int) (l1 : List Int) : Option (List Int × List Int) := (spec_l02Cmp.f k l0 l1).bind fun t164 => (if t164 < 0 then ((some (([] : List Int) : List Int)).bind fun y168 => (if y168.length + l0.length < 17592186044416 then (some ((([] : List Int)), (y168 ++ l0))) else (none))) else (if (l1.length : Int) = 1 then (if 0 ≤ (l0.length : Int) then (if ((l0.length : Int) : Int).toNat ≤ 35184372088832 then (spec_l02Div.l0 k l0 l1 (List.replicate ((l0.length : Int) : Int).toNat 0) 0 (wrap64 ((l0.length : Int) - 1))) else (none)) else (none)) else (spec_l02Div.l1 k l0 l1 (l1.length : Int) 0)))
def spec_l02Div.T24 : Bool × List (List Nat × List Nat) := (true, [([], []), ([], []), ([], []), ([1, 2], [1, 2]), ([0, 3], [0, 3]), ([4], [4]), ([5], [5]), ([], []), ([], []), ([], []), ([8, 9], [8, 9]), ([10], [10]), ([7, 11], [7, 11]), ([12], [12]), ([6, 13], [6, 13]), ([14, 0, 1, 2, 3, 4, 5, 6, 7, 8, 9, 10, 11, 12, 13, 14], [14])])
def spec_l02Div.B24 : List Nat := [0, 0, 0, 6, 15, 31, 63, 0, 0, 0, 768, 1792, 3968, 8064, 16383, 32767]
theorem spec_l02Div.tab24 : rtab .any (opsOf Try.f44 24) = spec_l02Div.T24 := by kernel_rfl
theorem spec_l02Div.bits24 : waitsOk spec_l02Div.T24.2 spec_l02Div.B24 = true := by kernel_rfl
def spec_l02Div.T27 : Bool × List (List Nat × List Nat) := (true, [([], []), ([0], [0]), ([1], [1]), ([2], [2]), ([2], [2]), ([2], [2]), ([5, 2], [2, 5]), ([4, 6, 2], [2, 4, 6]), ([7, 2], [2, 7]), ([3, 8, 2], [2, 3, 8]), ([2], [2]), ([10, 2], [2, 10]), ([2], [2]), ([2], [2]), ([2], [2]), ([13, 14, 2], [2, 13, 14]), ([15, 2], [2, 15]), ([12, 16, 2], [2, 12, 16]), ([17, 2], [2, 17]), ([11, 18, 2], [2, 11, 18]), ([9, 19, 2], [2, 9, 19]), ([2, 20], [2, 20])])
def spec_l02Div.B27 : List Nat := [0, 1, 3, 7, 7, 7, 39, 119, 247, 511, 7, 1031, 7, 7, 7, 24583, 57351, 126983, 258055, 523271, 1048575, 2097151]
theorem spec_l02Div.tab27 : rtab .any (opsOf Try.f44 27) = spec_l02Div.T27 := by kernel_rfl
theorem spec_l02Div.bits27 : waitsOk spec_l02Div.T27.2 spec_l02Div.B27 = true := by kernel_rfl
def spec_l02Div.T35 : Bool × List (List Nat × List Nat) := (true, [([], []), ([], []), ([], []), ([1, 2], [1, 2]), ([0, 3], [0, 3]), ([4], [4]), ([], []), ([], []), ([], []), ([7, 8], [7, 8]), ([9], [9]), ([6, 10], [6, 10]), ([5, 11], [5, 11]), ([], []), ([12, 13], [12, 13]), ([14, 0, 1, 2, 3, 4, 5, 6, 7, 8, 9, 10, 11, 12, 13, 14], [14])])
def spec_l02Div.B35 : List Nat := [0, 0, 0, 6, 15, 31, 0, 0, 0, 384, 896, 1984, 4095, 0, 16383, 32767]
theorem spec_l02Div.tab35 : rtab .any (opsOf Try.f44 35) = spec_l02Div.T35 := by kernel_rfl
theorem spec_l02Div.bits35 : waitsOk spec_l02Div.T35.2 spec_l02Div.B35 = true := by kernel_rfl
def spec_l02Div.T46 : Bool × List (List Nat × List Nat) := (true, [([], []), ([], []), ([], []), ([1, 2], [1, 2]), ([0, 3], [0, 3]), ([4], [4]), ([], []), ([], []), ([6, 7], [6, 7]), ([8], [8]), ([5, 9], [5, 9]), ([], []), ([10, 11], [10, 11]), ([12, 0, 1, 2, 3, 4, 5, 6, 7, 8, 9, 10, 11, 12], [12])])
def spec_l02Div.B46 : List Nat := [0, 0, 0, 6, 15, 31, 0, 0, 192, 448, 1023, 0, 4095, 8191]
theorem spec_l02Div.tab46 : rtab .any (opsOf Try.f44 46) = spec_l02Div.T46 := by kernel_rfl
theorem spec_l02Div.bits46 : waitsOk spec_l02Div.T46.2 spec_l02Div.B46 = true := by kernel_rfl
def spec_l02Div.T55 : Bool × List (List Nat × List Nat) := (true, [([], []), ([], []), ([], []), ([], []), ([2, 3], [2, 3]), ([4], [4]), ([], []), ([5, 6], [5, 6]), ([], []), ([], []), ([9], [9]), ([8, 10], [8, 10]), ([11], [11]), ([], []), ([13], [13]), ([12, 14], [12, 14]), ([7, 15], [7, 15]), ([16], [16]), ([0, 1, 0, 1, 2, 3, 4, 5, 6, 7, 8, 9, 10, 11, 12, 13, 14, 15, 16, 17], [0, 1]), ([18, 17, 0, 1, 2, 3, 4, 5, 6, 7, 8, 9, 10, 11, 12, 13, 14, 15, 16, 17], [17, 18])])
def spec_l02Div.B55 : List Nat := [0, 0, 0, 0, 12, 28, 0, 124, 0, 0, 512, 1792, 3840, 0, 8192, 32512, 65532, 131068, 262143, 524287]
theorem spec_l02Div.tab55 : rtab .any (opsOf Try.f44 55) = spec_l02Div.T55 := by kernel_rfl
theorem spec_l02Div.bits55 : waitsOk spec_l02Div.T55.2 spec_l02Div.B55 = true := by kernel_rfl
set_option maxHeartbeats 8000000 in
set_option maxRecDepth 100000 in
theorem spec_l02Div.calls (k : Nat) (A0 : Option Addr) (c0 : Nat) (l0 : List Int) (A1 : Option Addr) (c1 : Nat) (l1 : List Int) (r1 : List Int) (r2 : List Int) (w : World) (hr0 : Kd.C (Kd.int .i64) w A0 l0.length l0) (hc0 : l0.length ≤ c0) (hr1 : Kd.C (Kd.int .i64) w A1 l1.length l1) (hc1 : l1.length ≤ c1) (h : spec_l02Div.f k l0 l1 = some (r1, r2)) :
    Calls Try.prog 44 #[.slice A0 l0.length c0, .slice A1 l1.length c1] w fun e w' => ∃ v0_ v1_ : Value, e = .returned (.tuple #[v0_, v1_]) ∧ Kd.V (Kd.int .i64) 3 w' w.heap.size (fun k_ => (w.heap.size ≤ k_)) v0_ r1 ∧ Kd.V (Kd.int .i64) 3 w' w.heap.size (fun k_ => (w.heap.size ≤ k_)) v1_ r2 ∧ Below w.heap.size w w' := by
  have HR0 := Aside0.mk hr0
  have HC0 := Aside0.mk hc0
  clear hr0 hc0
  have HR1 := Aside0.mk hr1
  have HC1 := Aside0.mk hc1
  clear hr1 hc1
  have HB := Aside0.mk (Below.refl w.heap.size w)
  have H : ((spec_l02Cmp.f k l0 l1).bind fun t164 => (if t164 < 0 then ((some (([] : List Int) : List Int)).bind fun y168 => (if y168.length + l0.length < 17592186044416 then (some ((([] : List Int)), (y168 ++ l0))) else (none))) else (if (l1.length : Int) = 1 then (if 0 ≤ (l0.length : Int) then (if ((l0.length : Int) : Int).toNat ≤ 35184372088832 then (spec_l02Div.l0 k l0 l1 (List.replicate ((l0.length : Int) : Int).toNat 0) 0 (wrap64 ((l0.length : Int) - 1))) else (none)) else (none)) else (spec_l02Div.l1 k l0 l1 (l1.length : Int) 0)))) = some (r1, r2) := h
  clear h
  replace H := Option.bind_eq_some_iff.mp H
  obtain ⟨t164, A30, H⟩ := H
  have A3 := Aside0.mk A30
  clear A30
  by_cases c4 : t164 < 0
  · rw [if_pos c4] at H
    have c4b0 : decide (t164 < 0) = true := decide_eq_true c4
    clear c4
    obtain ⟨y165, hy165⟩ : ∃ y_ : List Int, y_ = (([] : List Int)) := ⟨_, rfl⟩
    replace H : ((some (([] : List Int) : List Int)).bind fun y168 => (if y168.length + l0.length < 17592186044416 then (some (y165, (y168 ++ l0))) else (none))) = some (r1, r2) := by first | (rw [hy165]; with_reducible exact H) | (have H2_ := (Option.bind_some _ _).symm.trans H; rw [hy165]; with_reducible exact H2_) | (have H2_ := (Option.bind_some _ _).symm.trans H; with_reducible exact H2_) | with_reducible exact H | (rw [hy165]; exact H) | exact H
    have Ny165 := Aside0.mk hy165
    clear hy165
    obtain ⟨y168, hy168⟩ : ∃ y_ : List Int, y_ = (([] : List Int)) := ⟨_, rfl⟩
    replace H := bS_ hy168 H
    have Ny168 := Aside0.mk hy168
    clear hy168
    by_cases c5 : y168.length + l0.length < 17592186044416
    rotate_left
    · rw [if_neg c5] at H; exact absurd H (by simp)
    rw [if_pos c5] at H
    have LMc5 := Aside0.mk c5
    clear c5
    obtain ⟨y171, hy171⟩ : ∃ y_ : List Int, y_ = (y168 ++ l0) := ⟨_, rfl⟩
    first | rw [← hy171] at H | skip
    have Ny171 := Aside0.mk hy171
    clear hy171
    simp only [Option.some.injEq, Prod.mk.injEq] at H
    obtain ⟨rfl, rfl⟩ := H
    go_enter Try.func44, Try.ntmps44
    go_wp2_with (first | ((with_reducible refine gate_callee (f := 66) rfl ?_); refine gL_ 31 Try.func66 rfl #[.slice A0 l0.length c0, .slice A1 l1.length c1] ?_; (with_reducible refine (spec_l02Cmp.calls k _ _ l0 _ _ l1 t164 _ ?side1 ?side2 ?side3 ?side4 A3.out).mono ?_); (case side1 => exact pC_ HR0.out); (case side2 => exact HC0.out); (case side3 => exact pC_ HR1.out); (case side4 => exact HC1.out); rintro e w' ⟨rfl, ⟨nd, rfl⟩⟩; refine ⟨_, rfl, ?_⟩) | ((with_reducible refine gate_dst (N := 33) rfl ?_); refine Kd.R_lit (Kd.int .i64) _ 3 ?hg (N := 33) ?hd (xs := ([] : List Int)) (inner := []) (ok := fun _ => True) (okp := fun _ => True) ?hr ?hp (fun _ hk => hk) trivial (Below.refl _ _) (Nat.le_refl _) (by simp) ?_; (case hd => rfl); (case hg => rfl); (case hr => first | (go_simp; done) | (go_simp; rfl)); (case hp => exact (Reps.none _ _)); intro v166 w6 ho7 hb hg_ hnew_; clear hg_ hnew_; (first | rw [← Ny165.out] at ho7 | (simp only [Int.reduceToNat] at ho7; rw [← Ny165.out] at ho7)); have HO167 := Aside0.mk (Kd.R_lower (Kd.R_newM (M := fun k_ => (w.heap.size ≤ k_)) ho7 (below_size (pB_ HB.out)) (fun k_ h_ => h_)) (below_size (pB_ HB.out))); replace HB := Aside0.mk (below_step (pB_ HB.out) hb); clear hb ho7) | ((with_reducible refine gate_dst (N := 34) rfl ?_); refine Kd.R_lit (Kd.int .i64) _ 3 ?hg (N := 34) ?hd (xs := ([] : List Int)) (inner := []) (ok := fun _ => True) (okp := fun _ => True) ?hr ?hp (fun _ hk => hk) trivial (Below.refl _ _) (Nat.le_refl _) (by simp) ?_; (case hd => rfl); (case hg => rfl); (case hr => first | (go_simp; done) | (go_simp; rfl)); (case hp => exact (Reps.none _ _)); intro v169 w8 ho9 hb hg_ hnew_; clear hg_ hnew_; (first | rw [← Ny168.out] at ho9 | (simp only [Int.reduceToNat] at ho9; rw [← Ny168.out] at ho9)); have HO170 := Aside0.mk (Kd.R_lower (Kd.R_new' (Kd.R_newM (M := fun k_ => (w.heap.size ≤ k_)) ho9 (below_size (pB_ HB.out)) (fun k_ h_ => h_)) (Kd.R_lt (pR_ HO167.out))) (below_size (pB_ HB.out))); replace HO167 := Aside0.mk (Kd.R_elder' (pR_ HO167.out) (Kd.R_base ho9) hb); replace HB := Aside0.mk (below_step (pB_ HB.out) hb); clear hb ho9) | ((with_reducible refine gate_builtin (b := .append) (xs := #[.tmp 34, .tmp 35]) rfl ?_); at_builtin; refine Kd.R_append_rows (Kd.int .i64) (w0 := w) w.heap.size rfl (.tmp 34) (.tmp 35) 41 3 (.int .i64 0) 8 rfl Try.underlying41 info3 rfl (by decide) (by omega) v169 y168 l0 _ _ _ (fun k_ => (w.heap.size ≤ k_) ∧ some k_ ≠ (v166 : Value).ownBlock) (fun _ => False) rfl rfl ?aO ?aR (fun _ _ h => h) (fun _ h => h.elim) ?aF ?aB ?aS ?aL ?_; (case aR => exact pC_ (Kd.C_below HR0.out HB.out)); (case aB => exact (pB_ HB.out)); (case aF => exact (fun k_ hk => ⟨(Nat.le_trans (below_size (pB_ HB.out)) hk), Kd.fresh' (Kd.R_lt (pR_ HO167.out)) k_ hk⟩)); (case aO => exact (pR_ (Kd.R_mono HO170.out (fun _ hk => ⟨hk.1.1, hk.2⟩)))); (case aS => exact (below_size (pB_ HB.out))); (case aL => have := LMc5.out; omega); intro v172 w10 ho hb hg hat; rw [← Ny171.out] at ho; have n0_ := Aside0.mk (Kd.R_after (ok := (fun k_ => (w.heap.size ≤ k_))) (pR_ (Kd.R_mono HO167.out (fun _ hk => ⟨hk.1.1, hk.2⟩))) hg hat); have n1_ := Aside0.mk (hb); have n2_ := Aside0.mk (ho); clear HO167; clear HB; clear HO170; have HO167 := n0_; have HB := n1_; have HO173 := n2_; clear n0_ n1_ n2_; clear ho hb hg hat))
    go_ret2
    exact ⟨_, _, by first | rfl | (simp [errW_none, errW_some] <;> rfl) | (simp [*, errW_none, errW_some] <;> rfl), Kd.R_V (pR_ (Kd.R_mono HO167.out (fun _ hk => hk.1))), Kd.R_V (pR_ (Kd.R_mono HO173.out (fun _ hk => hk.1))), pB_ HB.out⟩
  rw [if_neg c4] at H
  have c4b0 : decide (t164 < 0) = false := decide_eq_false c4
  clear c4
  by_cases c11 : (l1.length : Int) = 1
  · rw [if_pos c11] at H
    have c11b0 : ((l1.length : Int) == 1) = true := beq_iff_eq.mpr c11
    have c11b1 : ((l1.length : Int) != 1) = false := bne_eq_false_iff_eq.mpr c11
    clear c11
    by_cases c12 : 0 ≤ (l0.length : Int)
    rotate_left
    · rw [if_neg c12] at H; exact absurd H (by simp)
    rw [if_pos c12] at H
    have c12b0 := eq_true c12
    have c12b1 : decide (0 ≤ (l0.length : Int)) = true := decide_eq_true c12
    clear c12
    by_cases c13 : ((l0.length : Int) : Int).toNat ≤ 35184372088832
    rotate_left
    · rw [if_neg c13] at H; exact absurd H (by simp)
    rw [if_pos c13] at H
    have c13b0 := eq_true c13
    have c13b1 : decide (((l0.length : Int) : Int).toNat ≤ 35184372088832) = true := decide_eq_true c13
    clear c13
    obtain ⟨y174, hy174⟩ : ∃ y_ : List Int, y_ = (List.replicate ((l0.length : Int) : Int).toNat 0) := ⟨_, rfl⟩
    first | rw [← hy174] at H | skip
    have Ny174 := Aside0.mk hy174
    clear hy174
    have H' := Aside0.mk H
    clear H
    go_enter Try.func44, Try.ntmps44
    go_wp2_with (first | ((with_reducible refine gate_callee (f := 66) rfl ?_); refine gL_ 31 Try.func66 rfl #[.slice A0 l0.length c0, .slice A1 l1.length c1] ?_; (with_reducible refine (spec_l02Cmp.calls k _ _ l0 _ _ l1 t164 _ ?side1 ?side2 ?side3 ?side4 A3.out).mono ?_); (case side1 => exact pC_ HR0.out); (case side2 => exact HC0.out); (case side3 => exact pC_ HR1.out); (case side4 => exact HC1.out); rintro e w' ⟨rfl, ⟨nd, rfl⟩⟩; refine ⟨_, rfl, ?_⟩) | ((with_reducible refine gate_dst (N := 43) rfl ?_); refine Kd.R_make (Kd.int .i64) _ 3 rfl (N := 43) rfl 41 _ _ rfl (l0.length : Int) rfl rfl Try.underlying41 (.int .i64 0) 8 info3 rfl (by decide) (by omega) 0 (ok := fun _ => True) (okp := fun _ => True) rfl (fun _ hk => hk) trivial (od_) (Nat.le_trans (Nat.mul_le_mul_right _ (od_ : (l0.length : Int).toNat ≤ 35184372088832)) (by omega)) (Below.refl _ _) (Nat.le_refl _) ?_; intro v175 w14 ho15 hb hg_ hnew_; clear hg_ hnew_; (first | rw [← Ny174.out] at ho15 | (simp only [Int.reduceToNat] at ho15; rw [← Ny174.out] at ho15)); have HO176 := Aside0.mk (Kd.R_lower (Kd.R_newM (M := fun k_ => (w.heap.size ≤ k_)) ho15 (below_size (pB_ HB.out)) (fun k_ h_ => h_)) (below_size (pB_ HB.out))); replace HB := Aside0.mk (below_step (pB_ HB.out) hb); clear hb ho15))
    repeat (rw [addr_self]; generalize Addr.add _ _ = az_)
    go_loopg [8, 9] k (fun kq v8 v9 w' => ∃ (x7_1 : List Int) (x8_1 : Int) (x9_1 : Int), v8 = .int .i64 x8_1 ∧ v9 = .int .i64 x9_1 ∧ Aside0 (spec_l02Div.l0 kq l0 l1 x7_1 x8_1 x9_1 = some (r1, r2)) ∧ Aside0 (kq ≤ k) ∧ Aside0 (Kd.R (Kd.int .i64) 3 w' w.heap.size (fun k_ => (w.heap.size ≤ k_)) v175 x7_1) ∧ Aside0 (Below w.heap.size w w'))
    case atStart => exact ⟨(y174), (0), (wrap64 ((l0.length : Int) - 1)), (by first | rfl | (simp; done) | (simp [*]; done)), (by first | rfl | (simp; done) | (simp [*]; done)), H', ⟨Nat.le_refl _⟩, ⟨by (with_reducible repeat (first | apply Kd.R_alloc | apply Kd.R_drewN | apply Kd.R_drew)); exact Kd.R_mono HO176.out (fun _ hk => hk.1)⟩, ⟨pB_ HB.out⟩⟩
    clear H'
    try clear c1
    try clear p2
    try clear c4
    try clear c4b0
    try clear c5
    try clear c6
    try clear p6
    try clear c11
    try clear c11b0
    try clear c11b1
    try clear c12
    try clear c12b0
    try clear c12b1
    try clear c13
    try clear c13b0
    try clear c13b1
    obtain ⟨x7_1, x8_1, x9_1, rfl, rfl, HA, HK1, HO_7, HB⟩ := hrel
    rcases gk with _ | k1
    · exact absurd HA.out (by simp [spec_l02Div.l0])
    have H := HA.out
    clear HA
    simp only [spec_l02Div.l0] at H
    by_cases c16 : x9_1 ≥ 0
    · rw [if_pos c16] at H
      have c16b0 : decide (0 ≤ x9_1) = true := decide_eq_true c16
      clear c16
      by_cases c17 : 0 ≤ x9_1
      rotate_left
      · rw [if_neg c17] at H; exact absurd H (by simp)
      rw [if_pos c17] at H
      have c17b0 : decide (0 ≤ x9_1) = true := decide_eq_true c17
      clear c17
      by_cases c18 : x9_1 < (l0.length : Int)
      rotate_left
      · rw [if_neg c18] at H; exact absurd H (by simp)
      rw [if_pos c18] at H
      have c18b0 : decide (x9_1 < (l0.length : Int)) = true := decide_eq_true c18
      clear c18
      by_cases c19 : 0 < (l1.length : Int)
      rotate_left
      · rw [if_neg c19] at H; exact absurd H (by simp)
      rw [if_pos c19] at H
      have c19b0 : decide (0 < (l1.length : Int)) = true := decide_eq_true c19
      have c19b1 : decide (0 < l1.length) = true := decide_eq_true (by omega)
      clear c19
      by_cases c20 : (rd l1 0) = 0
      · rw [if_pos c20] at H; exact absurd H (by simp)
      rw [if_neg c20] at H
      have c20b0 : ((rd l1 0) == 0) = false := beq_eq_false_iff_ne.mpr c20
      have c20b1 : ((rd l1 0) != 0) = true := bne_iff_ne.mpr c20
      by_cases c21 : x9_1 < (x7_1.length : Int)
      rotate_left
      · rw [if_neg c21] at H; exact absurd H (by simp)
      rw [if_pos c21] at H
      have c21b0 : decide (x9_1 < (x7_1.length : Int)) = true := decide_eq_true c21
      clear c21
      obtain ⟨y179, hy179⟩ : ∃ y_ : List Int, y_ = (x7_1.set (x9_1 : Int).toNat (wrap64 (Int.tdiv (Go.bits .or .i64 (wrap64 (x8_1 * 16777216)) (rd l0 x9_1)) (rd l1 0)))) := ⟨_, rfl⟩
      first | rw [← hy179] at H | skip
      have Ny179 := Aside0.mk hy179
      clear hy179
      have H' := Aside0.mk H
      clear H
      have p177 : 0 ≤ (x9_1 : Int) := od_
      have q177 : x9_1 < (l0.length : Int) := od_
      obtain ⟨ad177, e177, hx177_0⟩ := Kd.at_int HR0.out x9_1 p177 q177
      cases e177
      replace hx177_0 := (HB.out.cell (World.block_lt_of_cell? w _ hx177_0)).trans hx177_0
      replace p177 := eq_true p177
      replace q177 := eq_true q177
      have p178 : 0 ≤ (0 : Int) := (by omega)
      have q178 : 0 < (l1.length : Int) := od_
      obtain ⟨ad178, e178, hx178_0⟩ := Kd.at_int HR1.out 0 p178 q178
      cases e178
      have qi178 : (0 < l1.length) = True := eq_true (by omega)
      (try rw [show ((0 : Int)).toNat = 0 from rfl] at hx178_0)
      (try rw [Addr.add_zero'] at hx178_0)
      replace hx178_0 := (HB.out.cell (World.block_lt_of_cell? w _ hx178_0)).trans hx178_0
      replace p178 := eq_true p178
      replace q178 := eq_true q178
      have p22 : 0 ≤ (x9_1 : Int) := od_
      have q22 : (x9_1 : Int) < ((x7_1.length : Int) : Int) := od_
      obtain ⟨go22, co22, eo22, gb22, gl22, cl22, HG22⟩ := Kd.R_form HO_7.out (by omega)
      (first | cases eo22 | (injection eo22 with ea_ en_ ec_; (first | subst ea_ | (injection ea_ with ea_; subst ea_)); subst ec_; clear en_))
      have GB22 := Aside0.mk gb22
      have GG22 := Aside0.mk HG22
      clear gb22 gl22 HG22
      obtain ⟨hx22_0, hf22_0⟩ := Kd.R_celln 0 HO_7.out (x9_1 : Int) p22 q22
      replace p22 := eq_true p22
      replace q22 := eq_true q22
      have HP23 := Kd.R_putg HO_7.out (x9_1 : Int) (wrap64 (Int.tdiv (Go.bits .or .i64 (wrap64 (x8_1 * 16777216)) (rd l0 x9_1)) (rd l1 0)))
      go_wp2_with (first | ((with_reducible refine gate_store (t := 3) (p := 65) rfl ?_); refine store_event (t := 3) (p := 65) (v := ?vo_w24) (w1 := (wr.setCell ⟨go22, (x9_1 : Int).toNat, none⟩ (.int .i64 (wrap64 (Int.tdiv (Go.bits .or .i64 (wrap64 (x8_1 * 16777216)) (rd l0 x9_1)) (rd l1 0)))))) ?hg ?ho ?hn ?hr ?_; (case ho => rfl); (case hg => rfl); (case hn => rfl); (case hr => first | (go_simp; done) | (go_simp; rfl)); intro w24 hw; have hg : wr.grownBy w24 (some go22) := (by rw [hw]; exact HP23.2); have hp_ : Kd.R (Kd.int .i64) 3 w24 w.heap.size (fun k_ => (w.heap.size ≤ k_)) (.slice (some ⟨go22, 0, none⟩) x7_1.length co22) y179 := (by rw [hw, Ny179.out]; exact HP23.1); clear HP23; replace HO_7 := Aside0.mk (hp_); replace HB := Aside0.mk ((by rw [hw]; exact below_set (HB.out) GB22.out : Below w.heap.size w w24)); clear hg hw hp_; have p180 : 0 ≤ (0 : Int) := (by omega); have q180 : 0 < (l1.length : Int) := od_; obtain ⟨ad180, e180, hx180_0⟩ := Kd.at_int HR1.out 0 p180 q180; obtain rfl : ad178 = ad180 := (by injection e180); have qi180 : (0 < l1.length) = True := eq_true (by omega); (try rw [show ((0 : Int)).toNat = 0 from rfl] at hx180_0); (try rw [Addr.add_zero'] at hx180_0); replace hx180_0 := (HB.out.cell (World.block_lt_of_cell? w _ hx180_0)).trans hx180_0; replace p180 := eq_true p180; replace q180 := eq_true q180))
      go_roundg k1
      case measure => have := HK1.out; omega
      case rel => exact ⟨(y179), (Int.tmod (Go.bits .or .i64 (wrap64 (x8_1 * 16777216)) (rd l0 x9_1)) (rd l1 0)), (wrap64 (x9_1 - 1)), (by first | rfl | (simp; done) | (simp [*]; done)), (by first | rfl | (simp; done) | (simp [*]; done)), H', ⟨by have := HK1.out; omega⟩, ⟨by (with_reducible repeat (first | apply Kd.R_alloc | apply Kd.R_drewN | apply Kd.R_drew)); exact HO_7.out⟩, ⟨pB_ HB.out⟩⟩
    rw [if_neg c16] at H
    have c16b0 : decide (0 ≤ x9_1) = false := decide_eq_false c16
    clear c16
    replace H := Option.bind_eq_some_iff.mp H
    obtain ⟨t181, A250, H⟩ := H
    have A25 := Aside0.mk A250
    clear A250
    obtain ⟨y184, hy184⟩ : ∃ y_ : List Int, y_ = (([x8_1] : List Int)) := ⟨_, rfl⟩
    replace H : ((spec_l02Trim.f k1 y184).bind fun t187 => (some (t181, t187))) = some (r1, r2) := by first | (rw [hy184]; with_reducible exact H) | (have H2_ := (Option.bind_some _ _).symm.trans H; rw [hy184]; with_reducible exact H2_) | (have H2_ := (Option.bind_some _ _).symm.trans H; with_reducible exact H2_) | with_reducible exact H | (rw [hy184]; exact H) | exact H
    have Ny184 := Aside0.mk hy184
    clear hy184
    replace H := Option.bind_eq_some_iff.mp H
    obtain ⟨t187, A260, H⟩ := H
    have A26 := Aside0.mk A260
    clear A260
    simp only [Option.some.injEq, Prod.mk.injEq] at H
    obtain ⟨rfl, rfl⟩ := H
    obtain ⟨Ao27, co27, eo27⟩ := Kd.R_slice HO_7.out
    subst eo27
    go_wp2_with (first | ((with_reducible refine gate_callee (f := 68) rfl ?_); refine gL_ 72 Try.func68 rfl #[.slice Ao27 x7_1.length co27] ?_; (with_reducible refine (spec_l02Trim.calls k1 (fun k_ => some k_ = (.slice Ao27 x7_1.length co27 : Value).ownBlock) _ _ x7_1 t181 _ ?side1 A25.out).mono ?_); (case side1 => exact Kd.R_V (Kd.R_tight rfl (HO_7.out))); rintro e w28 ⟨v182, rfl, ho0, hb⟩; refine ⟨_, rfl, ?_⟩; have HO183 := Aside0.mk (Kd.V_lower (Kd.V_mono (ok' := fun k_ => (w.heap.size ≤ k_)) ho0 (fun k_ hk_ => Or.elim hk_ (fun hs_ => ((HO_7.out).1 k_ hs_.symm)) (fun hn_ => (Nat.le_trans (below_size (pB_ HB.out)) hn_)))) (below_size (pB_ HB.out))); replace HO_7 := Aside0.mk (Kd.R_below (pR_ HO_7.out) hb); replace HB := Aside0.mk (below_step (pB_ HB.out) hb); clear hb ho0) | ((with_reducible refine gate_dst (N := 74) rfl ?_); refine Kd.R_lit (Kd.int .i64) _ 3 ?hg (N := 74) ?hd (xs := ([x8_1] : List Int)) (inner := [.int .i64 x8_1]) (ok := fun _ => True) (okp := fun _ => True) ?hr ?hp (fun _ hk => hk) trivial (Below.refl _ _) (Nat.le_refl _) (by simp) ?_; (case hd => rfl); (case hg => rfl); (case hr => first | (go_simp; done) | (go_simp; rfl)); (case hp => exact (Reps.one (show Kd.M (Kd.int .i64) _ _ _ x8_1 [.int .i64 x8_1] from rfl) (Reps.none _ _))); intro v185 w29 ho30 hb hg_ hnew_; clear hg_ hnew_; (first | rw [← Ny184.out] at ho30 | (simp only [Int.reduceToNat] at ho30; rw [← Ny184.out] at ho30)); replace HO183 := Aside0.mk (Kd.V_elder' (pV_ HO183.out) (Kd.R_base ho30) hb); have HO186 := Aside0.mk (Kd.R_lower (Kd.R_new' (Kd.R_newM (M := fun k_ => (w.heap.size ≤ k_)) ho30 (below_size (pB_ HB.out)) (fun k_ h_ => h_)) (Kd.R_lt (pR_ HO_7.out))) (below_size (pB_ HB.out))); replace HO_7 := Aside0.mk (Kd.R_elder' (pR_ HO_7.out) (Kd.R_base ho30) hb); replace HB := Aside0.mk (below_step (pB_ HB.out) hb); clear hb ho30; obtain ⟨Ao31, co31, eo31⟩ := Kd.R_slice HO186.out; subst eo31) | ((with_reducible refine gate_callee (f := 68) rfl ?_); refine gL_ 75 Try.func68 rfl #[.slice Ao31 y184.length co31] ?_; (with_reducible refine (spec_l02Trim.calls k1 (fun k_ => some k_ = (.slice Ao31 y184.length co31 : Value).ownBlock) _ _ y184 t187 _ ?side1 A26.out).mono ?_); (case side1 => exact Kd.R_V (Kd.R_tight rfl (HO186.out))); rintro e w32 ⟨v188, rfl, ho0, hb⟩; refine ⟨_, rfl, ?_⟩; replace HO183 := Aside0.mk (Kd.V_below (pV_ HO183.out) hb); have HO189 := Aside0.mk (Kd.V_lower (Kd.V_mono (ok' := fun k_ => (w.heap.size ≤ k_) ∧ some k_ ≠ (.slice Ao27 x7_1.length co27 : Value).ownBlock) ho0 (fun k_ hk_ => ⟨Or.elim hk_ (fun hs_ => ((HO186.out).1 k_ hs_.symm).1.1) (fun hn_ => (Nat.le_trans (below_size (pB_ HB.out)) hn_)), Or.elim hk_ (fun hs_ => ((HO186.out).1 k_ hs_.symm).2) (fun hn_ => (Kd.fresh' (Kd.R_lt (pR_ HO_7.out)) k_ hn_))⟩)) (below_size (pB_ HB.out))); replace HO_7 := Aside0.mk (Kd.R_below (pR_ HO_7.out) hb); replace HO186 := Aside0.mk (Kd.R_below (pR_ HO186.out) hb); replace HB := Aside0.mk (below_step (pB_ HB.out) hb); clear hb ho0))
    go_ret2
    exact ⟨_, _, by first | rfl | (simp [errW_none, errW_some] <;> rfl) | (simp [*, errW_none, errW_some] <;> rfl), by (with_reducible repeat (first | apply Kd.V_alloc | apply Kd.V_drewN | apply Kd.V_drew)); exact Kd.V_mono HO183.out (fun _ hk => hk.1), by (with_reducible repeat (first | apply Kd.V_alloc | apply Kd.V_drewN | apply Kd.V_drew)); exact Kd.V_mono HO189.out (fun _ hk => hk.1), pB_ HB.out⟩
  rw [if_neg c11] at H
  have c11b0 : ((l1.length : Int) == 1) = false := beq_eq_false_iff_ne.mpr c11
  have c11b1 : ((l1.length : Int) != 1) = true := bne_iff_ne.mpr c11
  have H' := Aside0.mk H
  clear H
  go_enter Try.func44, Try.ntmps44
  go_wp2_with (first | ((with_reducible refine gate_callee (f := 66) rfl ?_); refine gL_ 31 Try.func66 rfl #[.slice A0 l0.length c0, .slice A1 l1.length c1] ?_; (with_reducible refine (spec_l02Cmp.calls k _ _ l0 _ _ l1 t164 _ ?side1 ?side2 ?side3 ?side4 A3.out).mono ?_); (case side1 => exact pC_ HR0.out); (case side2 => exact HC0.out); (case side3 => exact pC_ HR1.out); (case side4 => exact HC1.out); rintro e w' ⟨rfl, ⟨nd, rfl⟩⟩; refine ⟨_, rfl, ?_⟩))
  repeat (rw [addr_self]; generalize Addr.add _ _ = az_)
  go_loopg [11] k (fun kq v11 w' => ∃ (x11_1 : Int), v11 = .int .u64 x11_1 ∧ Aside0 (spec_l02Div.l1 kq l0 l1 (l1.length : Int) x11_1 = some (r1, r2)) ∧ Aside0 (kq ≤ k) ∧ Aside0 (Below w.heap.size w w'))
  case atStart => exact ⟨(0), (by first | rfl | (simp; done) | (simp [*]; done)), H', ⟨Nat.le_refl _⟩, ⟨pB_ HB.out⟩⟩
  clear H'
  try clear c1
  try clear p1
  try clear q1
  try clear hx1
  try clear qi1
  try clear c2
  try clear p2
  try clear q2
  try clear hx2
  try clear hf2
  try clear c4
  try clear c4b0
  try clear c5
  try clear c6
  try clear p6
  try clear c11
  try clear c11b0
  try clear c11b1
  try clear c12
  try clear c12b0
  try clear c12b1
  try clear c13
  try clear c13b0
  try clear c13b1
  try clear c16
  try clear c16b0
  try clear c17
  try clear c17b0
  try clear p17
  try clear q17
  try clear hx17
  try clear qi17
  try clear c18
  try clear c18b0
  try clear p18
  try clear q18
  try clear hx18
  try clear qi18
  try clear c19
  try clear c19b0
  try clear c19b1
  try clear c20
  try clear c20b0
  try clear c20b1
  try clear c21
  try clear c21b0
  try clear p22
  try clear q22
  try clear hx22
  try clear hf22
  try clear hx177_0
  try clear hx178_0
  try clear hx180_0
  try clear hx22_0
  try clear p177
  try clear p178
  try clear p180
  try clear p2
  try clear p22
  try clear p6
  try clear q177
  try clear q178
  try clear q180
  try clear q22
  obtain ⟨x11_1, rfl, HA, HK1, HB⟩ := hrel
  rcases gk with _ | k1
  · exact absurd HA.out (by simp [spec_l02Div.l1])
  have H := HA.out
  clear HA
  simp only [spec_l02Div.l1] at H
  obtain ⟨ji33, hji33⟩ : ∃ j_ : Int, (wrap64 ((l1.length : Int) - 1)) = j_ := ⟨_, rfl⟩
  first | rw [hji33] at H | simp only [hji33] at H | skip
  have hji33w : (IntKind.i64.wrap ((l1.length : Int) - 1)) = ji33 := (i64_w _).trans hji33
  by_cases c34 : 0 ≤ (ji33)
  rotate_left
  · rw [if_neg c34] at H
    exact absurd H (by simp)

  rw [if_pos c34] at H
  have c34b0 : decide (0 ≤ (ji33)) = true := decide_eq_true c34
  clear c34
  by_cases c35 : (ji33) < (l1.length : Int)
  rotate_left
  · rw [if_neg c35] at H; exact absurd H (by simp)
  rw [if_pos c35] at H
  have c35b0 : decide ((ji33) < (l1.length : Int)) = true := decide_eq_true c35
  clear c35
  by_cases c36 : 0 ≤ x11_1
  rotate_left
  · rw [if_neg c36] at H; exact absurd H (by simp)
  rw [if_pos c36] at H
  have c36b0 := eq_true c36
  have c36b1 : decide (0 ≤ x11_1) = true := decide_eq_true c36
  clear c36
  obtain ⟨ji37, hji37⟩ : ∃ j_ : Int, (shl .i64 (rd l1 (ji33)) x11_1) = j_ := ⟨_, rfl⟩
  first | rw [hji37] at H | simp only [hji37] at H | skip
  have hji37_ : (IntKind.i64.wrap ((rd l1 (ji33)) * 2 ^ min x11_1.toNat 64)) = ji37 := hji37
  have hji37z : x11_1 ≤ 64 → (IntKind.i64.wrap ((rd l1 (ji33)) * 2 ^ x11_1.toNat)) = ji37 := shl_small hji37
  have hji37y : (wrap64 ((rd l1 (ji33)) * 2 ^ min x11_1.toNat 64)) = ji37 := (i64_w _).symm.trans hji37_
  have hji37x : x11_1 ≤ 64 → (wrap64 ((rd l1 (ji33)) * 2 ^ x11_1.toNat)) = ji37 := fun h_ => (i64_w _).symm.trans (hji37z h_)
  by_cases c38 : (ji37) < 8388608
  · rw [if_pos c38] at H
    have c38b0 : decide ((ji37) < 8388608) = true := decide_eq_true c38
    clear c38
    have H' := Aside0.mk H
    clear H
    have p190 : 0 ≤ ((ji33) : Int) := od_
    have q190 : (ji33) < (l1.length : Int) := od_
    obtain ⟨ad190, e190, hx190_0⟩ := Kd.at_int HR1.out (ji33) p190 q190
    cases e190
    replace hx190_0 := (HB.out.cell (World.block_lt_of_cell? w _ hx190_0)).trans hx190_0
    replace p190 := eq_true p190
    replace q190 := eq_true q190
    go_wp2
    go_roundg k1
    case measure => have := HK1.out; omega
    case rel => exact ⟨(IntKind.u64.wrap (x11_1 + 1)), (by first | rfl | (simp; done) | (simp [*]; done)), H', ⟨by have := HK1.out; omega⟩, ⟨pB_ HB.out⟩⟩
  rw [if_neg c38] at H
  have c38b0 : decide ((ji37) < 8388608) = false := decide_eq_false c38
  clear c38
  replace H := Option.bind_eq_some_iff.mp H
  obtain ⟨t191, A390, H⟩ := H
  have A39 := Aside0.mk A390
  clear A390
  replace H := Option.bind_eq_some_iff.mp H
  obtain ⟨t194, A400, H⟩ := H
  have A40 := Aside0.mk A400
  clear A400
  replace H := Option.bind_eq_some_iff.mp H
  obtain ⟨t197, A410, H⟩ := H
  have A41 := Aside0.mk A410
  clear A410
  obtain ⟨ji42, hji42⟩ : ∃ j_ : Int, (wrap64 ((t191.length : Int) - (l1.length : Int))) = j_ := ⟨_, rfl⟩
  first | rw [hji42] at H | simp only [hji42] at H | skip
  (try rw [hji42] at A39)
  (try rw [hji42] at A40)
  (try rw [hji42] at A41)
  have hji42w : (IntKind.i64.wrap ((t191.length : Int) - (l1.length : Int))) = ji42 := (i64_w _).trans hji42
  by_cases c43 : 0 ≤ (ji42)
  rotate_left
  · rw [if_neg c43] at H; exact absurd H (by simp)
  rw [if_pos c43] at H
  have c43b0 := eq_true c43
  have c43b1 : decide (0 ≤ (ji42)) = true := decide_eq_true c43
  clear c43
  by_cases c44 : (ji42 : Int).toNat ≤ 35184372088832
  rotate_left
  · rw [if_neg c44] at H; exact absurd H (by simp)
  rw [if_pos c44] at H
  have c44b0 := eq_true c44
  have c44b1 : decide ((ji42 : Int).toNat ≤ 35184372088832) = true := decide_eq_true c44
  clear c44
  obtain ⟨y200, hy200⟩ : ∃ y_ : List Int, y_ = (List.replicate (ji42 : Int).toNat 0) := ⟨_, rfl⟩
  first | rw [← hy200] at H | skip
  have Ny200 := Aside0.mk hy200
  clear hy200
  have H' := Aside0.mk H
  clear H
  have p190 : 0 ≤ ((ji33) : Int) := od_
  have q190 : (ji33) < (l1.length : Int) := od_
  obtain ⟨ad190, e190, hx190_0⟩ := Kd.at_int HR1.out (ji33) p190 q190
  cases e190
  replace hx190_0 := (HB.out.cell (World.block_lt_of_cell? w _ hx190_0)).trans hx190_0
  replace p190 := eq_true p190
  replace q190 := eq_true q190
  go_wp2_with (first | ((with_reducible refine gate_callee (f := 77) rfl ?_); refine gL_ 88 Try.func77 rfl #[.slice A0 l0.length c0, .int .u64 x11_1] ?_; (with_reducible refine (spec_l02Left.calls k1 _ _ l0 x11_1 t191 _ ?side1 ?side2 A39.out).mono ?_); (case side1 => exact pC_ (Kd.C_below HR0.out HB.out)); (case side2 => exact HC0.out); rintro e w45 ⟨v192, rfl, ho0, hb⟩; refine ⟨_, rfl, ?_⟩; have HO193 := Aside0.mk (Kd.R_lower (Kd.R_newM (M := fun k_ => (w.heap.size ≤ k_)) ho0 (below_size (pB_ HB.out)) (fun k_ h_ => h_)) (below_size (pB_ HB.out))); replace HB := Aside0.mk (below_step (pB_ HB.out) hb); clear hb ho0) | ((with_reducible refine gate_callee (f := 77) rfl ?_); refine gL_ 91 Try.func77 rfl #[.slice (some ad190) l1.length c1, .int .u64 x11_1] ?_; (with_reducible refine (spec_l02Left.calls k1 _ _ l1 x11_1 t194 _ ?side1 ?side2 A40.out).mono ?_); (case side1 => exact pC_ (Kd.C_below HR1.out HB.out)); (case side2 => exact HC1.out); rintro e w46 ⟨v195, rfl, ho0, hb⟩; refine ⟨_, rfl, ?_⟩; have HO196 := Aside0.mk (Kd.R_lower (Kd.R_new' (Kd.R_newM (M := fun k_ => (w.heap.size ≤ k_)) ho0 (below_size (pB_ HB.out)) (fun k_ h_ => h_)) (Kd.R_lt (pR_ HO193.out))) (below_size (pB_ HB.out))); replace HO193 := Aside0.mk (Kd.R_elder' (pR_ HO193.out) (Kd.R_base ho0) hb); replace HB := Aside0.mk (below_step (pB_ HB.out) hb); clear hb ho0; obtain ⟨Ao47, co47, eo47⟩ := Kd.R_slice HO196.out; subst eo47) | ((with_reducible refine gate_callee (f := 68) rfl ?_); refine gL_ 92 Try.func68 rfl #[.slice Ao47 t194.length co47] ?_; (with_reducible refine (spec_l02Trim.calls k1 (fun k_ => some k_ = (.slice Ao47 t194.length co47 : Value).ownBlock) _ _ t194 t197 _ ?side1 A41.out).mono ?_); (case side1 => exact Kd.R_V (Kd.R_tight rfl (HO196.out))); rintro e w48 ⟨v198, rfl, ho0, hb⟩; refine ⟨_, rfl, ?_⟩; have HO199 := Aside0.mk (Kd.V_lower (Kd.V_mono (ok' := fun k_ => (w.heap.size ≤ k_) ∧ some k_ ≠ (v192 : Value).ownBlock) ho0 (fun k_ hk_ => ⟨Or.elim hk_ (fun hs_ => ((HO196.out).1 k_ hs_.symm).1.1) (fun hn_ => (Nat.le_trans (below_size (pB_ HB.out)) hn_)), Or.elim hk_ (fun hs_ => ((HO196.out).1 k_ hs_.symm).2) (fun hn_ => (Kd.fresh' (Kd.R_lt (pR_ HO193.out)) k_ hn_))⟩)) (below_size (pB_ HB.out))); replace HO193 := Aside0.mk (Kd.R_below (pR_ HO193.out) hb); replace HO196 := Aside0.mk (Kd.R_below (pR_ HO196.out) hb); replace HB := Aside0.mk (below_step (pB_ HB.out) hb); clear hb ho0; obtain ⟨Ao49, co49, eo49⟩ := Kd.R_slice HO193.out; subst eo49) | ((with_reducible refine gate_dst (N := 98) rfl ?_); refine Kd.R_make (Kd.int .i64) _ 3 rfl (N := 98) rfl 41 _ _ rfl ji42 rfl rfl Try.underlying41 (.int .i64 0) 8 info3 rfl (by decide) (by omega) 0 (ok := fun _ => True) (okp := fun _ => True) rfl (fun _ hk => hk) trivial (od_) (Nat.le_trans (Nat.mul_le_mul_right _ (od_ : ji42.toNat ≤ 35184372088832)) (by omega)) (Below.refl _ _) (Nat.le_refl _) ?_; intro v201 w50 ho51 hb hg_ hnew_; clear hg_ hnew_; (first | rw [← Ny200.out] at ho51 | (simp only [Int.reduceToNat] at ho51; rw [← Ny200.out] at ho51)); replace HO199 := Aside0.mk (Kd.V_elder' (pV_ HO199.out) (Kd.R_base ho51) hb); have HO202 := Aside0.mk (Kd.R_lower (Kd.R_new' (Kd.R_new' (Kd.R_newM (M := fun k_ => (w.heap.size ≤ k_)) ho51 (below_size (pB_ HB.out)) (fun k_ h_ => h_)) (Kd.R_lt (pR_ HO193.out))) (Kd.R_lt (pR_ HO196.out))) (below_size (pB_ HB.out))); replace HO193 := Aside0.mk (Kd.R_elder' (pR_ HO193.out) (Kd.R_base ho51) hb); replace HO196 := Aside0.mk (Kd.R_elder' (pR_ HO196.out) (Kd.R_base ho51) hb); replace HB := Aside0.mk (below_step (pB_ HB.out) hb); clear hb ho51))
  repeat (rw [addr_self]; generalize Addr.add _ _ = az_)
  go_loopg [16] k1 (fun kq v16 w' => ∃ (x12_2 : List Int) (x15_2 : List Int) (x16_2 : Int), v16 = .int .i64 x16_2 ∧ Aside0 (spec_l02Div.l2 kq (l1.length : Int) x11_1 x12_2 t197 x15_2 x16_2 = some (r1, r2)) ∧ Aside0 (kq ≤ k1) ∧ Aside0 (Kd.R (Kd.int .i64) 3 w' w.heap.size (fun k_ => (w.heap.size ≤ k_) ∧ some k_ ≠ (v201 : Value).ownBlock) (.slice Ao49 t191.length co49) x12_2) ∧ Aside0 (Kd.V (Kd.int .i64) 3 w' w.heap.size (fun k_ => (w.heap.size ≤ k_) ∧ some k_ ≠ ((.slice Ao49 t191.length co49) : Value).ownBlock ∧ some k_ ≠ (v201 : Value).ownBlock) v198 t197) ∧ Aside0 (Kd.R (Kd.int .i64) 3 w' w.heap.size (fun k_ => (w.heap.size ≤ k_) ∧ some k_ ≠ ((.slice Ao49 t191.length co49) : Value).ownBlock) v201 x15_2) ∧ Aside0 (Below w.heap.size w w'))
  case atStart => exact ⟨(t191), (y200), (wrap64 ((ji42) - 1)), (by first | rfl | (simp; done) | (simp only [← hji42] <;> (first | rfl | simp)) | (simp [*]; done)), H', ⟨Nat.le_refl _⟩, ⟨by (with_reducible repeat (first | apply Kd.R_alloc | apply Kd.R_drewN | apply Kd.R_drew)); exact Kd.R_mono HO193.out (fun _ hk => ⟨hk.1.1.1, hk.2⟩)⟩, ⟨by (with_reducible repeat (first | apply Kd.V_alloc | apply Kd.V_drewN | apply Kd.V_drew)); exact Kd.V_mono HO199.out (fun _ hk => ⟨hk.1.1, ⟨hk.1.2, hk.2⟩⟩)⟩, ⟨by (with_reducible repeat (first | apply Kd.R_alloc | apply Kd.R_drewN | apply Kd.R_drew)); exact Kd.R_mono HO202.out (fun _ hk => ⟨hk.1.1.1, hk.1.2⟩)⟩, ⟨pB_ HB.out⟩⟩
  clear H'
  try clear c1
  try clear p1
  try clear q1
  try clear hx1
  try clear qi1
  try clear c2
  try clear p2
  try clear q2
  try clear hx2
  try clear hf2
  try clear c3
  try clear c4
  try clear c4b0
  try clear c5
  try clear c6
  try clear p6
  try clear c7
  try clear c11
  try clear c11b0
  try clear c11b1
  try clear c12
  try clear c12b0
  try clear c12b1
  try clear c13
  try clear c13b0
  try clear c13b1
  try clear c16
  try clear c16b0
  try clear c17
  try clear c17b0
  try clear p17
  try clear q17
  try clear hx17
  try clear qi17
  try clear c18
  try clear c18b0
  try clear p18
  try clear q18
  try clear hx18
  try clear qi18
  try clear c19
  try clear c19b0
  try clear c19b1
  try clear p19
  try clear q19
  try clear hx19
  try clear c20
  try clear c20b0
  try clear c20b1
  try clear c21
  try clear c21b0
  try clear p22
  try clear q22
  try clear hx22
  try clear hf22
  try clear c34
  try clear c34b0
  try clear c35
  try clear c35b0
  try clear c36
  try clear c36b0
  try clear c36b1
  try clear c38
  try clear c38b0
  try clear c43
  try clear c43b0
  try clear c43b1
  try clear c44
  try clear c44b0
  try clear c44b1
  try clear hx177_0
  try clear hx178_0
  try clear hx180_0
  try clear hx190_0
  try clear hx22_0
  try clear p1
  try clear p17
  try clear p177
  try clear p178
  try clear p18
  try clear p180
  try clear p190
  try clear p2
  try clear p22
  try clear p6
  try clear q1
  try clear q17
  try clear q177
  try clear q178
  try clear q18
  try clear q180
  try clear q190
  try clear q2
  try clear q22
  obtain ⟨x12_2, x15_2, x16_2, rfl, HA, HK2, HO_12, HO_13, HO_15, HB⟩ := hrel
  have hl12_2 := (Kd.R_reads' HO_12.out).1
  rw [hl12_2] at HO_12
  (try simp only [hl12_2])
  (try simp only [hl12_2] at HO_13)
  (try simp only [hl12_2] at HO_15)
  rcases gk with _ | k2
  · exact absurd HA.out (by simp [spec_l02Div.l2])
  have H := HA.out
  clear HA
  simp only [spec_l02Div.l2] at H
  by_cases c52 : x16_2 ≥ 0
  rotate_left
  · rw [if_neg c52] at H
    have c52b0 : decide (0 ≤ x16_2) = false := decide_eq_false c52
    clear c52
    by_cases c122 : 0 ≤ (l1.length : Int)
    rotate_left
    · rw [if_neg c122] at H; exact absurd H (by simp)
    rw [if_pos c122] at H
    have c122b0 := eq_true c122
    have c122b1 : decide (0 ≤ (l1.length : Int)) = true := decide_eq_true c122
    clear c122
    by_cases c123 : ((l1.length : Int) : Int).toNat ≤ 35184372088832
    rotate_left
    · rw [if_neg c123] at H; exact absurd H (by simp)
    rw [if_pos c123] at H
    have c123b0 := eq_true c123
    have c123b1 : decide (((l1.length : Int) : Int).toNat ≤ 35184372088832) = true := decide_eq_true c123
    clear c123
    obtain ⟨y222, hy222⟩ : ∃ y_ : List Int, y_ = (List.replicate ((l1.length : Int) : Int).toNat 0) := ⟨_, rfl⟩
    first | rw [← hy222] at H | skip
    have Ny222 := Aside0.mk hy222
    clear hy222
    have H' := Aside0.mk H
    clear H
    go_wp2_with (first | ((with_reducible refine gate_dst (N := 262) rfl ?_); refine Kd.R_make (Kd.int .i64) _ 3 rfl (N := 262) rfl 41 _ _ rfl (l1.length : Int) rfl rfl Try.underlying41 (.int .i64 0) 8 info3 rfl (by decide) (by omega) 0 (ok := fun _ => True) (okp := fun _ => True) rfl (fun _ hk => hk) trivial (od_) (Nat.le_trans (Nat.mul_le_mul_right _ (od_ : (l1.length : Int).toNat ≤ 35184372088832)) (by omega)) (Below.refl _ _) (Nat.le_refl _) ?_; intro v223 w124 ho125 hb hg_ hnew_; clear hg_ hnew_; (first | rw [← Ny222.out] at ho125 | (simp only [Int.reduceToNat] at ho125; rw [← Ny222.out] at ho125)); replace HO_13 := Aside0.mk (Kd.V_elder' (pV_ HO_13.out) (Kd.R_base ho125) hb); have HO224 := Aside0.mk (Kd.R_lower (Kd.R_new' (Kd.R_new' (Kd.R_newM (M := fun k_ => (w.heap.size ≤ k_)) ho125 (below_size (pB_ HB.out)) (fun k_ h_ => h_)) (Kd.R_lt (pR_ HO_12.out))) (Kd.R_lt (pR_ HO_15.out))) (below_size (pB_ HB.out))); replace HO_12 := Aside0.mk (Kd.R_elder' (pR_ HO_12.out) (Kd.R_base ho125) hb); replace HO_15 := Aside0.mk (Kd.R_elder' (pR_ HO_15.out) (Kd.R_base ho125) hb); replace HB := Aside0.mk (below_step (pB_ HB.out) hb); clear hb ho125))
    repeat (rw [addr_self]; generalize Addr.add _ _ = az_)
    go_loopg [28] k2 (fun kq v28 w' => ∃ (x27_3 : List Int) (x28_3 : Int), v28 = .int .i64 x28_3 ∧ Aside0 (spec_l02Div.l6 kq (l1.length : Int) x11_1 x12_2 x15_2 x27_3 x28_3 = some (r1, r2)) ∧ Aside0 (kq ≤ k2) ∧ Aside0 (Kd.R (Kd.int .i64) 3 w' w.heap.size (fun k_ => (w.heap.size ≤ k_) ∧ some k_ ≠ (v201 : Value).ownBlock ∧ some k_ ≠ (v223 : Value).ownBlock) (.slice Ao49 x12_2.length co49) x12_2) ∧ Aside0 (Kd.R (Kd.int .i64) 3 w' w.heap.size (fun k_ => (w.heap.size ≤ k_) ∧ some k_ ≠ ((.slice Ao49 x12_2.length co49) : Value).ownBlock ∧ some k_ ≠ (v223 : Value).ownBlock) v201 x15_2) ∧ Aside0 (Kd.R (Kd.int .i64) 3 w' w.heap.size (fun k_ => (w.heap.size ≤ k_) ∧ some k_ ≠ ((.slice Ao49 x12_2.length co49) : Value).ownBlock ∧ some k_ ≠ (v201 : Value).ownBlock) v223 x27_3) ∧ Aside0 (Below w.heap.size w w'))
    case atStart => exact ⟨(y222), (0), (by first | rfl | (simp; done) | (simp [*]; done)), H', ⟨Nat.le_refl _⟩, ⟨by (try simp only [hl12_2]); (with_reducible repeat (first | apply Kd.R_alloc | apply Kd.R_drewN | apply Kd.R_drew)); exact Kd.R_mono HO_12.out (fun _ hk => ⟨hk.1.1, ⟨hk.1.2, hk.2⟩⟩)⟩, ⟨by (try simp only [hl12_2]); (with_reducible repeat (first | apply Kd.R_alloc | apply Kd.R_drewN | apply Kd.R_drew)); exact Kd.R_mono HO_15.out (fun _ hk => ⟨hk.1.1, ⟨hk.1.2, hk.2⟩⟩)⟩, ⟨by (try simp only [hl12_2]); (with_reducible repeat (first | apply Kd.R_alloc | apply Kd.R_drewN | apply Kd.R_drew)); exact Kd.R_mono HO224.out (fun _ hk => ⟨hk.1.1.1, ⟨hk.1.2, hk.2⟩⟩)⟩, ⟨pB_ HB.out⟩⟩
    clear H'
    try clear c1
    try clear p1
    try clear q1
    try clear hx1
    try clear qi1
    try clear c2
    try clear p2
    try clear q2
    try clear hx2
    try clear hf2
    try clear c3
    try clear c4
    try clear c4b0
    try clear c5
    try clear c6
    try clear p6
    try clear c7
    try clear c8
    try clear p8
    try clear q8
    try clear hx8
    try clear hf8
    try clear c9
    try clear p9
    try clear q9
    try clear hx9
    try clear hf9
    try clear c10
    try clear p10
    try clear q10
    try clear hx10
    try clear hf10
    try clear c11
    try clear c11b0
    try clear c11b1
    try clear p11
    try clear q11
    try clear hx11
    try clear hf11
    try clear c12
    try clear c12b0
    try clear c12b1
    try clear c13
    try clear c13b0
    try clear c13b1
    try clear c16
    try clear c16b0
    try clear c17
    try clear c17b0
    try clear p17
    try clear q17
    try clear hx17
    try clear qi17
    try clear c18
    try clear c18b0
    try clear p18
    try clear q18
    try clear hx18
    try clear qi18
    try clear c19
    try clear c19b0
    try clear c19b1
    try clear p19
    try clear q19
    try clear hx19
    try clear c20
    try clear c20b0
    try clear c20b1
    try clear p20
    try clear q20
    try clear hx20
    try clear c21
    try clear c21b0
    try clear p21
    try clear q21
    try clear hx21
    try clear p22
    try clear q22
    try clear hx22
    try clear hf22
    try clear c34
    try clear c34b0
    try clear c35
    try clear c35b0
    try clear c36
    try clear c36b0
    try clear c36b1
    try clear c38
    try clear c38b0
    try clear c43
    try clear c43b0
    try clear c43b1
    try clear c44
    try clear c44b0
    try clear c44b1
    try clear c52
    try clear c52b0
    try clear c54
    try clear c54b0
    try clear c55
    try clear c55b0
    try clear c57
    try clear c57b0
    try clear c58
    try clear c58b0
    try clear c59
    try clear c59b0
    try clear c60
    try clear c60b0
    try clear c61
    try clear c61b0
    try clear c61b1
    try clear p64
    try clear c66
    try clear c66b0
    try clear c66b1
    try clear c69
    try clear c69b0
    try clear c70
    try clear c70b0
    try clear c72
    try clear c72b0
    try clear c73
    try clear c73b0
    try clear c75
    try clear c76
    try clear c76b0
    try clear c77
    try clear c77b0
    try clear c78
    try clear c78b0
    try clear c79
    try clear c79b0
    try clear c81
    try clear c81b0
    try clear c82
    try clear c82b0
    try clear c83
    try clear c83b0
    try clear c84
    try clear c84b0
    try clear p85
    try clear q85
    try clear hx85
    try clear hf85
    try clear c89
    try clear c89b0
    try clear c90
    try clear c90b0
    try clear p91
    try clear q91
    try clear hx91
    try clear hf91
    try clear c92
    try clear c92b0
    try clear c95
    try clear c95b0
    try clear c97
    try clear c97b0
    try clear c98
    try clear c98b0
    try clear c99
    try clear c99b0
    try clear c100
    try clear c100b0
    try clear p101
    try clear q101
    try clear hx101
    try clear hf101
    try clear c105
    try clear c105b0
    try clear c106
    try clear c106b0
    try clear p107
    try clear q107
    try clear hx107
    try clear hf107
    try clear c108
    try clear c108b0
    try clear c109
    try clear c109b0
    try clear p110
    try clear q110
    try clear hx110
    try clear hf110
    try clear c115
    try clear c115b0
    try clear c116
    try clear c116b0
    try clear p117
    try clear q117
    try clear hx117
    try clear hf117
    try clear c122
    try clear c122b0
    try clear c122b1
    try clear c123
    try clear c123b0
    try clear c123b1
    try clear hx101_0
    try clear hx107_0
    try clear hx110_0
    try clear hx117_0
    try clear hx177_0
    try clear hx178_0
    try clear hx180_0
    try clear hx190_0
    try clear hx203_0
    try clear hx204_0
    try clear hx205_0
    try clear hx206_0
    try clear hx207_0
    try clear hx208_0
    try clear hx209_0
    try clear hx210_0
    try clear hx211_0
    try clear hx213_0
    try clear hx215_0
    try clear hx216_0
    try clear hx218_0
    try clear hx22_0
    try clear hx85_0
    try clear hx91_0
    try clear p1
    try clear p101
    try clear p107
    try clear p110
    try clear p117
    try clear p17
    try clear p177
    try clear p178
    try clear p18
    try clear p180
    try clear p19
    try clear p190
    try clear p2
    try clear p20
    try clear p203
    try clear p204
    try clear p205
    try clear p206
    try clear p207
    try clear p208
    try clear p209
    try clear p21
    try clear p210
    try clear p211
    try clear p213
    try clear p215
    try clear p216
    try clear p218
    try clear p22
    try clear p6
    try clear p64
    try clear p8
    try clear p85
    try clear p9
    try clear p91
    try clear q1
    try clear q101
    try clear q107
    try clear q110
    try clear q117
    try clear q17
    try clear q177
    try clear q178
    try clear q18
    try clear q180
    try clear q19
    try clear q190
    try clear q2
    try clear q20
    try clear q203
    try clear q204
    try clear q205
    try clear q206
    try clear q207
    try clear q208
    try clear q209
    try clear q21
    try clear q210
    try clear q211
    try clear q213
    try clear q215
    try clear q216
    try clear q218
    try clear q22
    try clear q8
    try clear q85
    try clear q9
    try clear q91
    obtain ⟨x27_3, x28_3, rfl, HA, HK3, HO_12, HO_15, HO_27, HB⟩ := hrel
    rcases gk with _ | k3
    · exact absurd HA.out (by simp [spec_l02Div.l6])
    have H := HA.out
    clear HA
    simp only [spec_l02Div.l6] at H
    by_cases c126 : x28_3 < (l1.length : Int)
    rotate_left
    · rw [if_neg c126] at H
      have c126b0 : decide (x28_3 < (l1.length : Int)) = false := decide_eq_false c126
      (try (have c126x0 := c126b0; simp only [hl12_2] at c126x0))
      clear c126
      replace H := Option.bind_eq_some_iff.mp H
      obtain ⟨t228, A1410, H⟩ := H
      have A141 := Aside0.mk A1410
      clear A1410
      replace H := Option.bind_eq_some_iff.mp H
      obtain ⟨t231, A1420, H⟩ := H
      have A142 := Aside0.mk A1420
      clear A1420
      simp only [Option.some.injEq, Prod.mk.injEq] at H
      obtain ⟨rfl, rfl⟩ := H
      obtain ⟨Ao143, co143, eo143⟩ := Kd.R_slice HO_15.out
      subst eo143
      go_wp2_with (first | ((with_reducible refine gate_callee (f := 68) rfl ?_); refine gL_ 288 Try.func68 rfl #[.slice Ao143 x15_2.length co143] ?_; (with_reducible refine (spec_l02Trim.calls k3 (fun k_ => some k_ = (.slice Ao143 x15_2.length co143 : Value).ownBlock) _ _ x15_2 t228 _ ?side1 A141.out).mono ?_); (case side1 => exact Kd.R_V (Kd.R_tight rfl (HO_15.out))); rintro e w144 ⟨v229, rfl, ho0, hb⟩; refine ⟨_, rfl, ?_⟩; have HO230 := Aside0.mk (Kd.V_lower (Kd.V_mono (ok' := fun k_ => (w.heap.size ≤ k_) ∧ some k_ ≠ (.slice Ao49 x12_2.length co49 : Value).ownBlock ∧ some k_ ≠ (v223 : Value).ownBlock) ho0 (fun k_ hk_ => ⟨Or.elim hk_ (fun hs_ => ((HO_15.out).1 k_ hs_.symm).1) (fun hn_ => (Nat.le_trans (below_size (pB_ HB.out)) hn_)), Or.elim hk_ (fun hs_ => ((HO_15.out).1 k_ hs_.symm).2.1) (fun hn_ => (Kd.fresh' (Kd.R_lt (pR_ HO_12.out)) k_ hn_)), Or.elim hk_ (fun hs_ => ((HO_15.out).1 k_ hs_.symm).2.2) (fun hn_ => (Kd.fresh' (Kd.R_lt (pR_ HO_27.out)) k_ hn_))⟩)) (below_size (pB_ HB.out))); replace HO_12 := Aside0.mk (Kd.R_below (pR_ HO_12.out) hb); replace HO_15 := Aside0.mk (Kd.R_below (pR_ HO_15.out) hb); replace HO_27 := Aside0.mk (Kd.R_below (pR_ HO_27.out) hb); replace HB := Aside0.mk (below_step (pB_ HB.out) hb); clear hb ho0; obtain ⟨Ao145, co145, eo145⟩ := Kd.R_slice HO_27.out; subst eo145) | ((with_reducible refine gate_callee (f := 68) rfl ?_); refine gL_ 290 Try.func68 rfl #[.slice Ao145 x27_3.length co145] ?_; (with_reducible refine (spec_l02Trim.calls k3 (fun k_ => some k_ = (.slice Ao145 x27_3.length co145 : Value).ownBlock) _ _ x27_3 t231 _ ?side1 A142.out).mono ?_); (case side1 => exact Kd.R_V (Kd.R_tight rfl (HO_27.out))); rintro e w146 ⟨v232, rfl, ho0, hb⟩; refine ⟨_, rfl, ?_⟩; replace HO230 := Aside0.mk (Kd.V_below (pV_ HO230.out) hb); have HO233 := Aside0.mk (Kd.V_lower (Kd.V_mono (ok' := fun k_ => (w.heap.size ≤ k_) ∧ some k_ ≠ (.slice Ao49 x12_2.length co49 : Value).ownBlock ∧ some k_ ≠ (.slice Ao143 x15_2.length co143 : Value).ownBlock) ho0 (fun k_ hk_ => ⟨Or.elim hk_ (fun hs_ => ((HO_27.out).1 k_ hs_.symm).1) (fun hn_ => (Nat.le_trans (below_size (pB_ HB.out)) hn_)), Or.elim hk_ (fun hs_ => ((HO_27.out).1 k_ hs_.symm).2.1) (fun hn_ => (Kd.fresh' (Kd.R_lt (pR_ HO_12.out)) k_ hn_)), Or.elim hk_ (fun hs_ => ((HO_27.out).1 k_ hs_.symm).2.2) (fun hn_ => (Kd.fresh' (Kd.R_lt (pR_ HO_15.out)) k_ hn_))⟩)) (below_size (pB_ HB.out))); replace HO_12 := Aside0.mk (Kd.R_below (pR_ HO_12.out) hb); replace HO_15 := Aside0.mk (Kd.R_below (pR_ HO_15.out) hb); replace HO_27 := Aside0.mk (Kd.R_below (pR_ HO_27.out) hb); replace HB := Aside0.mk (below_step (pB_ HB.out) hb); clear hb ho0))
      go_ret2
      exact ⟨_, _, by first | rfl | (simp [errW_none, errW_some] <;> rfl) | (simp only [← hji33, ← hji37, ← hji42]; first | rfl | (simp [errW_none, errW_some] <;> rfl)) | (simp [*, errW_none, errW_some] <;> rfl), by (with_reducible repeat (first | apply Kd.V_alloc | apply Kd.V_drewN | apply Kd.V_drew)); exact Kd.V_mono HO230.out (fun _ hk => hk.1), by (with_reducible repeat (first | apply Kd.V_alloc | apply Kd.V_drewN | apply Kd.V_drew)); exact Kd.V_mono HO233.out (fun _ hk => hk.1), pB_ HB.out⟩
    rw [if_pos c126] at H
    have c126b0 : decide (x28_3 < (l1.length : Int)) = true := decide_eq_true c126
    (try (have c126x0 := c126b0; simp only [hl12_2] at c126x0))
    clear c126
    by_cases c127 : 0 ≤ x28_3
    rotate_left
    · rw [if_neg c127] at H; exact absurd H (by simp)
    rw [if_pos c127] at H
    have c127b0 : decide (0 ≤ x28_3) = true := decide_eq_true c127
    clear c127
    by_cases c128 : x28_3 < (x12_2.length : Int)
    rotate_left
    · rw [if_neg c128] at H; exact absurd H (by simp)
    rw [if_pos c128] at H
    have c128b0 : decide (x28_3 < (x12_2.length : Int)) = true := decide_eq_true c128
    (try (have c128x0 := c128b0; simp only [hl12_2] at c128x0))
    clear c128
    by_cases c129 : 0 ≤ x11_1
    rotate_left
    · rw [if_neg c129] at H; exact absurd H (by simp)
    rw [if_pos c129] at H
    have c129b0 := eq_true c129
    have c129b1 : decide (0 ≤ x11_1) = true := decide_eq_true c129
    clear c129
    obtain ⟨ji130, hji130⟩ : ∃ j_ : Int, (shr .i64 (rd x12_2 x28_3) x11_1) = j_ := ⟨_, rfl⟩
    first | rw [hji130] at H | simp only [hji130] at H | skip
    have hji130_ : ((rd x12_2 x28_3) / 2 ^ min x11_1.toNat 64) = ji130 := hji130
    have hji130z : x11_1 ≤ 64 → ((rd x12_2 x28_3) / 2 ^ x11_1.toNat) = ji130 := shr_small hji130
    obtain ⟨ji131, hji131⟩ : ∃ j_ : Int, (wrap64 (x28_3 + 1)) = j_ := ⟨_, rfl⟩
    first | rw [hji131] at H | simp only [hji131] at H | skip
    have hji131w : (IntKind.i64.wrap (x28_3 + 1)) = ji131 := (i64_w _).trans hji131
    by_cases c132 : 0 ≤ (ji131)
    rotate_left
    · rw [if_neg c132] at H; exact absurd H (by simp)
    rw [if_pos c132] at H
    have c132b0 : decide (0 ≤ (ji131)) = true := decide_eq_true c132
    clear c132
    by_cases c133 : (ji131) < (x12_2.length : Int)
    rotate_left
    · rw [if_neg c133] at H; exact absurd H (by simp)
    rw [if_pos c133] at H
    have c133b0 : decide ((ji131) < (x12_2.length : Int)) = true := decide_eq_true c133
    (try (have c133x0 := c133b0; simp only [hl12_2] at c133x0))
    clear c133
    obtain ⟨ji134, hji134⟩ : ∃ j_ : Int, (IntKind.u64.wrap (24 - x11_1)) = j_ := ⟨_, rfl⟩
    first | rw [hji134] at H | simp only [hji134] at H | skip
    by_cases c135 : 0 ≤ (ji134)
    rotate_left
    · rw [if_neg c135] at H; exact absurd H (by simp)
    rw [if_pos c135] at H
    have c135b0 := eq_true c135
    have c135b1 : decide (0 ≤ (ji134)) = true := decide_eq_true c135
    clear c135
    obtain ⟨ji136, hji136⟩ : ∃ j_ : Int, (shl .i64 (rd x12_2 (ji131)) (ji134)) = j_ := ⟨_, rfl⟩
    first | rw [hji136] at H | simp only [hji136] at H | skip
    have hji136_ : (IntKind.i64.wrap ((rd x12_2 (ji131)) * 2 ^ min (ji134).toNat 64)) = ji136 := hji136
    have hji136z : (ji134) ≤ 64 → (IntKind.i64.wrap ((rd x12_2 (ji131)) * 2 ^ (ji134).toNat)) = ji136 := shl_small hji136
    have hji136y : (wrap64 ((rd x12_2 (ji131)) * 2 ^ min (ji134).toNat 64)) = ji136 := (i64_w _).symm.trans hji136_
    have hji136x : (ji134) ≤ 64 → (wrap64 ((rd x12_2 (ji131)) * 2 ^ (ji134).toNat)) = ji136 := fun h_ => (i64_w _).symm.trans (hji136z h_)
    by_cases c137 : x28_3 < (x27_3.length : Int)
    rotate_left
    · rw [if_neg c137] at H; exact absurd H (by simp)
    rw [if_pos c137] at H
    have c137b0 : decide (x28_3 < (x27_3.length : Int)) = true := decide_eq_true c137
    (try (have c137x0 := c137b0; simp only [hl12_2] at c137x0))
    clear c137
    obtain ⟨y227, hy227⟩ : ∃ y_ : List Int, y_ = (x27_3.set (x28_3 : Int).toNat (Go.bits .and .i64 (Go.bits .or .i64 (ji130) (ji136)) 16777215)) := ⟨_, rfl⟩
    first | rw [← hy227] at H | skip
    have Ny227 := Aside0.mk hy227
    clear hy227
    have H' := Aside0.mk H
    clear H
    try go_wp2
    have n0_ := Aside0.mk (Kd.R_drew HO_12.out)
    have n1_ := Aside0.mk (Kd.R_drew HO_15.out)
    have n2_ := Aside0.mk (Kd.R_drew HO_27.out)
    have n3_ := Aside0.mk (below_drew1 HB.out)
    clear HO_12
    clear HO_15
    clear HO_27
    clear HB
    have HO_12 := n0_
    have HO_15 := n1_
    have HO_27 := n2_
    have HB := n3_
    clear n0_ n1_ n2_ n3_
    have p225 : 0 ≤ (x28_3 : Int) := od_
    have q225 : x28_3 < (x12_2.length : Int) := od_
    obtain ⟨ad225, e225, hx225_0⟩ := Kd.at_int (Kd.R_reads' HO_12.out).2.2 x28_3 p225 q225
    cases e225
    replace p225 := eq_true p225
    replace q225 := eq_true q225
    have p226 : 0 ≤ ((ji131) : Int) := od_
    have q226 : (ji131) < (x12_2.length : Int) := od_
    obtain ⟨ad226, e226, hx226_0⟩ := Kd.at_int (Kd.R_reads' HO_12.out).2.2 (ji131) p226 q226
    obtain rfl : ad225 = ad226 := (by injection e226)
    replace p226 := eq_true p226
    replace q226 := eq_true q226
    have p138 : 0 ≤ (x28_3 : Int) := od_
    have q138 : (x28_3 : Int) < ((x27_3.length : Int) : Int) := od_
    obtain ⟨go138, co138, eo138, gb138, gl138, cl138, HG138⟩ := Kd.R_form HO_27.out (by omega)
    (first | cases eo138 | (injection eo138 with ea_ en_ ec_; (first | subst ea_ | (injection ea_ with ea_; subst ea_)); subst ec_; clear en_))
    have GB138 := Aside0.mk gb138
    have GG138 := Aside0.mk HG138
    clear gb138 gl138 HG138
    obtain ⟨hx138_0, hf138_0⟩ := Kd.R_celln 0 HO_27.out (x28_3 : Int) p138 q138
    replace p138 := eq_true p138
    replace q138 := eq_true q138
    have HP140 := Kd.R_putn HO_27.out (x28_3 : Int) (Go.bits .and .i64 (Go.bits .or .i64 (ji130) (ji136)) 16777215)
    rw [← Ny227.out] at HP140
    have HQ140 := Aside0.mk HP140
    clear HP140
    refine start_ (n := 20) (S := fun w' => w'.cell? (ad225.add (x28_3).toNat) = some (.int .i64 (rd x12_2 x28_3)) ∧ w'.cell? (ad225.add ((ji131)).toNat) = some (.int .i64 (rd x12_2 (ji131)))) (ds := [19]) #[false, false, false, false, false, false, false, false, false, false, false, false, false, false, false, false, false, false, false, false] (by kernel_rfl) rfl rfl ⟨hx225_0, hx226_0⟩ (fun hHeld => ?_); refine with_tabW spec_l02Div.tab55 spec_l02Div.bits55 (fun HT_ HW_ => ?_)
    generalize wr.drew = w139 at HO_12 HO_15 HO_27 HB GG138 HQ140 hf138_0 hx138_0 hx225_0 hx226_0 hHeld ⊢
    refine pu_ 0 268 HT_.out ?_
    refine pu_ 1 269 HT_.out ?_
    refine pu_ 2 270 HT_.out ?_
    refine pu_ 3 271 HT_.out ?_
    refine pu_ 4 272 HT_.out ?_
    refine pu_ 6 274 HT_.out ?_
    refine pu_ 8 276 HT_.out ?_
    refine pu_ 9 277 HT_.out ?_
    refine pu_ 10 278 HT_.out ?_
    refine pu_ 11 279 HT_.out ?_
    refine pu_ 13 281 HT_.out ?_
    refine pu_ 14 282 HT_.out ?_
    refine take_ (i := 5) (N := some 273) (v := ?_) (a' := ?_) #[true, true, true, true, true, true, true, false, true, true, true, true, false, true, true, false, false, false, false, false] rfl rfl (take_ofW HT_.out HW_.out (by kernel_rfl)) (fun _ _ _ h => h) (Or.inl ⟨by rfl, ?_⟩) hHeld ?_ ?_
    rotate_left
    · rintro w' ⟨s0, s1⟩
      go_simp
      with_reducible rfl
    rotate_left
    · simp only [Act.put, List.setIfInBounds_toArray, List.set_cons_zero, List.set_cons_succ, i64_w, i32_w]
      rfl
    refine pu_ 7 275 HT_.out ?_
    refine take_ (i := 12) (N := some 280) (v := ?_) (a' := ?_) #[true, true, true, true, true, true, true, true, true, true, true, true, true, true, true, false, false, false, false, false] rfl rfl (take_ofW HT_.out HW_.out (by kernel_rfl)) (fun _ _ _ h => h) (Or.inl ⟨by rfl, ?_⟩) hHeld ?_ ?_
    rotate_left
    · rintro w' ⟨s0, s1⟩
      go_simp
      with_reducible rfl
    rotate_left
    · simp only [Act.put, List.setIfInBounds_toArray, List.set_cons_zero, List.set_cons_succ, i64_w, i32_w]
      rfl
    refine pu_ 15 283 HT_.out ?_
    refine pu_ 16 284 HT_.out ?_
    refine pu_ 17 285 HT_.out ?_
    refine pu_ 18 286 HT_.out ?_
    refine last_ (i := 19) (N := none) #[true, true, true, true, true, true, true, true, true, true, true, true, true, true, true, true, true, true, true, true] rfl rfl (one_of HT_.out (by kernel_rfl)) (by decide) (fun K hK => ?_)
    refine skip_ (w1 := ?_) (by rfl) rfl ?_ ?_
    rotate_left
    · go_simp
      rfl
    refine hK.out _ _ ?_
    clear hK K
    refine done_ (done_of HT_.out (by kernel_rfl)) ?_
    try go_wp2
    go_roundg k3
    case measure => have := HK1.out; have := HK2.out; have := HK3.out; omega
    case rel => exact ⟨(y227), (ji131), (by first | rfl | (simp; done) | (simp only [← hji131] <;> (first | rfl | simp)) | (simp [*]; done)), H', ⟨by have := HK1.out; have := HK2.out; have := HK3.out; omega⟩, ⟨by (try simp only [hl12_2]); (with_reducible repeat (first | apply Kd.R_alloc | apply Kd.R_drewN | apply Kd.R_drew)); exact Kd.R_mono (Kd.R_far (p := ⟨go138, (x28_3 : Int).toNat, none⟩) (Kd.R_mono HO_12.out (fun k_ hk => (⟨hk, fun e_ => hk.2.2 (by rw [e_]; rfl)⟩ : _ ∧ k_ ≠ go138))) (fun _ hk => hk.2) (.int .i64 (Go.bits .and .i64 (Go.bits .or .i64 (ji130) (ji136)) 16777215))) (fun _ hk => ⟨hk.1.1, ⟨hk.1.2.1, hk.1.2.2⟩⟩)⟩, ⟨by (try simp only [hl12_2]); (with_reducible repeat (first | apply Kd.R_alloc | apply Kd.R_drewN | apply Kd.R_drew)); exact Kd.R_mono (Kd.R_far (p := ⟨go138, (x28_3 : Int).toNat, none⟩) (Kd.R_mono HO_15.out (fun k_ hk => (⟨hk, fun e_ => hk.2.2 (by rw [e_]; rfl)⟩ : _ ∧ k_ ≠ go138))) (fun _ hk => hk.2) (.int .i64 (Go.bits .and .i64 (Go.bits .or .i64 (ji130) (ji136)) 16777215))) (fun _ hk => ⟨hk.1.1, ⟨hk.1.2.1, hk.1.2.2⟩⟩)⟩, ⟨by (try simp only [hl12_2]); (with_reducible repeat (first | apply Kd.R_alloc | apply Kd.R_drewN | apply Kd.R_drew)); exact HQ140.out⟩, ⟨by repeat (first | (with_reducible first | exact HB.out | apply below_alloc | apply pw_below_drewN | apply below_drew1 | refine below_set ?_ GB138.out) | exact HB.out)⟩⟩
  rw [if_pos c52] at H
  have c52b0 : decide (0 ≤ x16_2) = true := decide_eq_true c52
  clear c52
  obtain ⟨ji53, hji53⟩ : ∃ j_ : Int, (wrap64 (x16_2 + (l1.length : Int))) = j_ := ⟨_, rfl⟩
  first | rw [hji53] at H | simp only [hji53] at H | skip
  have hji53w : (IntKind.i64.wrap (x16_2 + (l1.length : Int))) = ji53 := (i64_w _).trans hji53
  by_cases c54 : 0 ≤ (ji53)
  rotate_left
  · rw [if_neg c54] at H; exact absurd H (by simp)
  rw [if_pos c54] at H
  have c54b0 : decide (0 ≤ (ji53)) = true := decide_eq_true c54
  clear c54
  by_cases c55 : (ji53) < (x12_2.length : Int)
  rotate_left
  · rw [if_neg c55] at H; exact absurd H (by simp)
  rw [if_pos c55] at H
  have c55b0 : decide ((ji53) < (x12_2.length : Int)) = true := decide_eq_true c55
  (try (have c55x0 := c55b0; simp only [hl12_2] at c55x0))
  clear c55
  obtain ⟨ji56, hji56⟩ : ∃ j_ : Int, (wrap64 ((ji53) - 1)) = j_ := ⟨_, rfl⟩
  first | rw [hji56] at H | simp only [hji56] at H | skip
  have hji56w : (IntKind.i64.wrap ((ji53) - 1)) = ji56 := (i64_w _).trans hji56
  by_cases c57 : 0 ≤ (ji56)
  rotate_left
  · rw [if_neg c57] at H; exact absurd H (by simp)
  rw [if_pos c57] at H
  have c57b0 : decide (0 ≤ (ji56)) = true := decide_eq_true c57
  clear c57
  by_cases c58 : (ji56) < (x12_2.length : Int)
  rotate_left
  · rw [if_neg c58] at H; exact absurd H (by simp)
  rw [if_pos c58] at H
  have c58b0 : decide ((ji56) < (x12_2.length : Int)) = true := decide_eq_true c58
  (try (have c58x0 := c58b0; simp only [hl12_2] at c58x0))
  clear c58
  first | rw [hji33] at H | simp only [hji33] at H | skip
  by_cases c59 : 0 ≤ (ji33)
  rotate_left
  · rw [if_neg c59] at H; exact absurd H (by simp)
  rw [if_pos c59] at H
  have c59b0 : decide (0 ≤ (ji33)) = true := decide_eq_true c59
  clear c59
  by_cases c60 : (ji33) < (t197.length : Int)
  rotate_left
  · rw [if_neg c60] at H; exact absurd H (by simp)
  rw [if_pos c60] at H
  have c60b0 : decide ((ji33) < (t197.length : Int)) = true := decide_eq_true c60
  (try (have c60x0 := c60b0; simp only [hl12_2] at c60x0))
  clear c60
  by_cases c61 : (rd t197 (ji33)) = 0
  · rw [if_pos c61] at H; exact absurd H (by simp)
  rw [if_neg c61] at H
  have c61b0 : ((rd t197 (ji33)) == 0) = false := beq_eq_false_iff_ne.mpr c61
  have c61b1 : ((rd t197 (ji33)) != 0) = true := bne_iff_ne.mpr c61
  have HC62 := Aside0.mk H
  clear H
  try go_wp2
  have n0_ := Aside0.mk (Kd.R_drew HO_12.out)
  have n1_ := Aside0.mk (Kd.V_drew HO_13.out)
  have n2_ := Aside0.mk (Kd.R_drew HO_15.out)
  have n3_ := Aside0.mk (below_drew1 HB.out)
  clear HO_12
  clear HO_13
  clear HO_15
  clear HB
  have HO_12 := n0_
  have HO_13 := n1_
  have HO_15 := n2_
  have HB := n3_
  clear n0_ n1_ n2_ n3_
  have p203 : 0 ≤ ((ji53) : Int) := od_
  have q203 : (ji53) < (x12_2.length : Int) := od_
  obtain ⟨ad203, e203, hx203_0⟩ := Kd.at_int (Kd.R_reads' HO_12.out).2.2 (ji53) p203 q203
  cases e203
  replace p203 := eq_true p203
  replace q203 := eq_true q203
  have p204 : 0 ≤ ((ji56) : Int) := od_
  have q204 : (ji56) < (x12_2.length : Int) := od_
  obtain ⟨ad204, e204, hx204_0⟩ := Kd.at_int (Kd.R_reads' HO_12.out).2.2 (ji56) p204 q204
  obtain rfl : ad203 = ad204 := (by injection e204)
  replace p204 := eq_true p204
  replace q204 := eq_true q204
  refine start_ (n := 16) (S := fun w' => w'.cell? (ad203.add ((ji53)).toNat) = some (.int .i64 (rd x12_2 (ji53))) ∧ w'.cell? (ad203.add ((ji56)).toNat) = some (.int .i64 (rd x12_2 (ji56)))) (ds := []) #[false, false, false, false, false, false, false, false, false, false, false, false, false, false, false, false] (by kernel_rfl) rfl rfl ⟨hx203_0, hx204_0⟩ (fun hHeld => ?_); refine with_tabW spec_l02Div.tab24 spec_l02Div.bits24 (fun HT_ HW_ => ?_)
  generalize wr.drew = w63 at HO_12 HO_13 HO_15 HB hx203_0 hx204_0 hHeld ⊢
  refine pu_ 0 105 HT_.out ?_
  refine pu_ 1 106 HT_.out ?_
  refine pu_ 2 107 HT_.out ?_
  refine pu_ 3 108 HT_.out ?_
  refine pu_ 4 109 HT_.out ?_
  refine pu_ 7 112 HT_.out ?_
  refine pu_ 8 113 HT_.out ?_
  refine pu_ 9 114 HT_.out ?_
  refine pu_ 10 115 HT_.out ?_
  refine pu_ 11 116 HT_.out ?_
  refine pu_ 12 117 HT_.out ?_
  refine take_ (i := 5) (N := some 110) (v := ?_) (a' := ?_) #[true, true, true, true, true, true, false, true, true, true, true, true, true, false, false, false] rfl rfl (take_ofW HT_.out HW_.out (by kernel_rfl)) (fun _ _ _ h => h) (Or.inl ⟨by rfl, ?_⟩) hHeld ?_ ?_
  rotate_left
  · rintro w' ⟨s0, s1⟩
    go_simp
    with_reducible rfl
  rotate_left
  · simp only [Act.put, List.setIfInBounds_toArray, List.set_cons_zero, List.set_cons_succ, i64_w, i32_w]
    rfl
  refine pu_ 6 111 HT_.out ?_
  refine take_ (i := 13) (N := some 118) (v := ?_) (a' := ?_) #[true, true, true, true, true, true, true, true, true, true, true, true, true, true, false, false] rfl rfl (take_ofW HT_.out HW_.out (by kernel_rfl)) (fun _ _ _ h => h) (Or.inl ⟨by rfl, ?_⟩) hHeld ?_ ?_
  rotate_left
  · rintro w' ⟨s0, s1⟩
    go_simp
    with_reducible rfl
  rotate_left
  · simp only [Act.put, List.setIfInBounds_toArray, List.set_cons_zero, List.set_cons_succ, i64_w, i32_w]
    rfl
  refine pu_ 14 119 HT_.out ?_
  refine pu_ 15 17 HT_.out ?_
  refine done_ (done_of HT_.out (by kernel_rfl)) ?_
  obtain ⟨Ao64, co64, eo64⟩ := Kd.V_slice HO_13.out
  subst eo64
  have p205 : 0 ≤ ((ji33) : Int) := od_
  have q205 : (ji33) < (t197.length : Int) := od_
  obtain ⟨ad205, e205, hx205_0⟩ := Kd.at_int (Kd.V_reads' HO_13.out).2.2 (ji33) p205 q205
  cases e205
  replace p205 := eq_true p205
  replace q205 := eq_true q205
  have p206 : 0 ≤ ((ji33) : Int) := od_
  have q206 : (ji33) < (t197.length : Int) := od_
  obtain ⟨ad206, e206, hx206_0⟩ := Kd.at_int (Kd.V_reads' HO_13.out).2.2 (ji33) p206 q206
  obtain rfl : ad205 = ad206 := (by injection e206)
  replace p206 := eq_true p206
  replace q206 := eq_true q206
  go_upto_block 6 with (fail)
  repeat (rw [addr_self]; generalize Addr.add _ _ = az_)
  go_cut [18] (fun v18 wc => ∃ (kq : Nat) (x18_61 : Int), v18 = .int .i64 x18_61 ∧ Aside0 (spec_l02Div.j5 kq (l1.length : Int) x11_1 x12_2 t197 x15_2 x16_2 x18_61 = some (r1, r2)) ∧ Aside0 (kq ≤ k2) ∧ Aside0 (Kd.R (Kd.int .i64) 3 wc w.heap.size (fun k_ => (w.heap.size ≤ k_) ∧ some k_ ≠ (v201 : Value).ownBlock) (.slice (some ad203) x12_2.length co49) x12_2) ∧ Aside0 (Kd.V (Kd.int .i64) 3 wc w.heap.size (fun k_ => (w.heap.size ≤ k_) ∧ some k_ ≠ ((.slice (some ad203) x12_2.length co49) : Value).ownBlock ∧ some k_ ≠ (v201 : Value).ownBlock) (.slice (some ad205) t197.length co64) t197) ∧ Aside0 (Kd.R (Kd.int .i64) 3 wc w.heap.size (fun k_ => (w.heap.size ≤ k_) ∧ some k_ ≠ ((.slice (some ad203) x12_2.length co49) : Value).ownBlock) v201 x15_2) ∧ Aside0 (Below w.heap.size w wc))
  case first =>
    have H := HC62.out
    clear HC62
    have H' := Aside0.mk H
    clear H
    go_wp2
    repeat (rw [addr_self]; generalize Addr.add _ _ = az_)
    go_loopg [18, 19] k2 (fun kq v18 v19 w' => ∃ (x18_3 : Int) (x19_3 : Int), v18 = .int .i64 x18_3 ∧ v19 = .int .i64 x19_3 ∧ Aside0 (spec_l02Div.l3 kq (l1.length : Int) x11_1 x12_2 t197 x15_2 x16_2 x18_3 x19_3 = some (r1, r2)) ∧ Aside0 (kq ≤ k2) ∧ Aside0 (Kd.R (Kd.int .i64) 3 w' w.heap.size (fun k_ => (w.heap.size ≤ k_) ∧ some k_ ≠ (v201 : Value).ownBlock) (.slice (some ad203) x12_2.length co49) x12_2) ∧ Aside0 (Kd.V (Kd.int .i64) 3 w' w.heap.size (fun k_ => (w.heap.size ≤ k_) ∧ some k_ ≠ ((.slice (some ad203) x12_2.length co49) : Value).ownBlock ∧ some k_ ≠ (v201 : Value).ownBlock) (.slice (some ad205) t197.length co64) t197) ∧ Aside0 (Kd.R (Kd.int .i64) 3 w' w.heap.size (fun k_ => (w.heap.size ≤ k_) ∧ some k_ ≠ ((.slice (some ad203) x12_2.length co49) : Value).ownBlock) v201 x15_2) ∧ Aside0 (Below w.heap.size w w'))
    case atStart => exact ⟨(wrap64 (Int.tdiv (Go.bits .or .i64 (wrap64 ((rd x12_2 (ji53)) * 16777216)) (rd x12_2 (ji56))) (rd t197 (ji33)))), (Int.tmod (Go.bits .or .i64 (wrap64 ((rd x12_2 (ji53)) * 16777216)) (rd x12_2 (ji56))) (rd t197 (ji33))), (by first | rfl | (simp; done) | (simp only [← hji33, ← hji53, ← hji56] <;> (first | rfl | simp)) | (simp [*]; done)), (by first | rfl | (simp; done) | (simp only [← hji33, ← hji53, ← hji56] <;> (first | rfl | simp)) | (simp [*]; done)), H', ⟨Nat.le_refl _⟩, ⟨by (try simp only [hl12_2]); (with_reducible repeat (first | apply Kd.R_alloc | apply Kd.R_drewN | apply Kd.R_drew)); exact HO_12.out⟩, ⟨by (try simp only [hl12_2]); (with_reducible repeat (first | apply Kd.V_alloc | apply Kd.V_drewN | apply Kd.V_drew)); exact HO_13.out⟩, ⟨by (try simp only [hl12_2]); (with_reducible repeat (first | apply Kd.R_alloc | apply Kd.R_drewN | apply Kd.R_drew)); exact HO_15.out⟩, ⟨pB_ HB.out⟩⟩
    clear H'
    try clear c1
    try clear p1
    try clear q1
    try clear hx1
    try clear qi1
    try clear c2
    try clear p2
    try clear q2
    try clear hx2
    try clear hf2
    try clear c3
    try clear c4
    try clear c4b0
    try clear c5
    try clear c6
    try clear p6
    try clear c7
    try clear c11
    try clear c11b0
    try clear c11b1
    try clear c12
    try clear c12b0
    try clear c12b1
    try clear c13
    try clear c13b0
    try clear c13b1
    try clear c16
    try clear c16b0
    try clear c17
    try clear c17b0
    try clear p17
    try clear q17
    try clear hx17
    try clear qi17
    try clear c18
    try clear c18b0
    try clear p18
    try clear q18
    try clear hx18
    try clear qi18
    try clear c19
    try clear c19b0
    try clear c19b1
    try clear p19
    try clear q19
    try clear hx19
    try clear c20
    try clear c20b0
    try clear c20b1
    try clear p20
    try clear q20
    try clear hx20
    try clear c21
    try clear c21b0
    try clear p22
    try clear q22
    try clear hx22
    try clear hf22
    try clear c34
    try clear c34b0
    try clear c35
    try clear c35b0
    try clear c36
    try clear c36b0
    try clear c36b1
    try clear c38
    try clear c38b0
    try clear c43
    try clear c43b0
    try clear c43b1
    try clear c44
    try clear c44b0
    try clear c44b1
    try clear c52
    try clear c52b0
    try clear c54
    try clear c54b0
    try clear c55
    try clear c55b0
    try clear c57
    try clear c57b0
    try clear c58
    try clear c58b0
    try clear c59
    try clear c59b0
    try clear c60
    try clear c60b0
    try clear c61
    try clear c61b0
    try clear c61b1
    try clear p64
    try clear hx177_0
    try clear hx178_0
    try clear hx180_0
    try clear hx190_0
    try clear hx203_0
    try clear hx204_0
    try clear hx205_0
    try clear hx206_0
    try clear hx22_0
    try clear p1
    try clear p17
    try clear p177
    try clear p178
    try clear p18
    try clear p180
    try clear p19
    try clear p190
    try clear p2
    try clear p203
    try clear p204
    try clear p205
    try clear p206
    try clear p22
    try clear p6
    try clear q1
    try clear q17
    try clear q177
    try clear q178
    try clear q18
    try clear q180
    try clear q19
    try clear q190
    try clear q2
    try clear q203
    try clear q204
    try clear q205
    try clear q206
    try clear q22
    obtain ⟨x18_3, x19_3, rfl, rfl, HA, HK3, HO_12, HO_13, HO_15, HB⟩ := hrel
    rcases gk with _ | k3
    · exact absurd HA.out (by simp [spec_l02Div.l3])
    have H := HA.out
    clear HA
    simp only [spec_l02Div.l3] at H
    have HC65 := Aside0.mk H
    clear H
    go_upto_region 27 with (fail)
    repeat (rw [addr_self]; generalize Addr.add _ _ = az_)
    go_cut [155] (fun v155 wc => ∃ (kq : Nat) (x155_64 : Bool), v155 = .bool x155_64 ∧ Aside0 (spec_l02Div.j4 kq (l1.length : Int) x11_1 x12_2 t197 x15_2 x16_2 x18_3 x19_3 x155_64 = some (r1, r2)) ∧ Aside0 (kq ≤ k3) ∧ Aside0 (Kd.R (Kd.int .i64) 3 wc w.heap.size (fun k_ => (w.heap.size ≤ k_) ∧ some k_ ≠ (v201 : Value).ownBlock) (.slice (some ad203) x12_2.length co49) x12_2) ∧ Aside0 (Kd.V (Kd.int .i64) 3 wc w.heap.size (fun k_ => (w.heap.size ≤ k_) ∧ some k_ ≠ ((.slice (some ad203) x12_2.length co49) : Value).ownBlock ∧ some k_ ≠ (v201 : Value).ownBlock) (.slice (some ad205) t197.length co64) t197) ∧ Aside0 (Kd.R (Kd.int .i64) 3 wc w.heap.size (fun k_ => (w.heap.size ≤ k_) ∧ some k_ ≠ ((.slice (some ad203) x12_2.length co49) : Value).ownBlock) v201 x15_2) ∧ Aside0 (Below w.heap.size w wc))
    case first =>
      have H := HC65.out
      clear HC65
      by_cases c66 : x18_3 ≥ 16777216
      · rw [if_pos c66] at H
        have c66b0 : decide (16777216 ≤ x18_3) = true := decide_eq_true c66
        clear c66
        (first | rw [c66b0] | (simp only [i64_w, i32_w]; rw [c66b0]) | rw [c66b1] | skip)
        have H' := Aside0.mk H
        clear H
        try go_wp2
        have n0_ := Aside0.mk (Kd.R_drew HO_12.out)
        have n1_ := Aside0.mk (Kd.V_drew HO_13.out)
        have n2_ := Aside0.mk (Kd.R_drew HO_15.out)
        have n3_ := Aside0.mk (below_drew1 HB.out)
        clear HO_12
        clear HO_13
        clear HO_15
        clear HB
        have HO_12 := n0_
        have HO_13 := n1_
        have HO_15 := n2_
        have HB := n3_
        clear n0_ n1_ n2_ n3_
        refine start_ (n := 22) (S := fun w' => True) (ds := []) #[false, false, false, false, false, false, false, false, false, false, false, false, false, false, false, false, false, false, false, false, false, false] (by kernel_rfl) rfl rfl trivial (fun hHeld => ?_); refine with_tabW spec_l02Div.tab27 spec_l02Div.bits27 (fun HT_ HW_ => ?_)
        generalize wr.drew = w67 at HO_12 HO_13 HO_15 HB hHeld ⊢
        refine pu_ 0 134 HT_.out ?_
        refine pu_ 1 135 HT_.out ?_
        refine pu_ 2 136 HT_.out ?_
        refine pure_ (i := 3) (N := some 137) (v := undef) (a' := ?_) #[true, true, true, true, false, false, false, false, false, false, false, false, false, false, false, false, false, false, false, false, false, false] rfl rfl (any_of HT_.out (by kernel_rfl)) (fun _ _ _ h => h) (Or.inr ⟨by rfl, rfl⟩) ?_ ?_
        rotate_left
        · simp only [Act.put, List.setIfInBounds_toArray, List.set_cons_zero, List.set_cons_succ, i64_w, i32_w]
          rfl
        refine pure_ (i := 4) (N := some 138) (v := undef) (a' := ?_) #[true, true, true, true, true, false, false, false, false, false, false, false, false, false, false, false, false, false, false, false, false, false] rfl rfl (any_of HT_.out (by kernel_rfl)) (fun _ _ _ h => h) (Or.inr ⟨by rfl, rfl⟩) ?_ ?_
        rotate_left
        · simp only [Act.put, List.setIfInBounds_toArray, List.set_cons_zero, List.set_cons_succ, i64_w, i32_w]
          rfl
        refine pure_ (i := 5) (N := some 139) (v := undef) (a' := ?_) #[true, true, true, true, true, true, false, false, false, false, false, false, false, false, false, false, false, false, false, false, false, false] rfl rfl (any_of HT_.out (by kernel_rfl)) (fun _ _ _ h => h) (Or.inr ⟨by rfl, rfl⟩) ?_ ?_
        rotate_left
        · simp only [Act.put, List.setIfInBounds_toArray, List.set_cons_zero, List.set_cons_succ, i64_w, i32_w]
          rfl
        refine pure_ (i := 6) (N := some 140) (v := undef) (a' := ?_) #[true, true, true, true, true, true, true, false, false, false, false, false, false, false, false, false, false, false, false, false, false, false] rfl rfl (any_of HT_.out (by kernel_rfl)) (fun _ _ _ h => h) (Or.inr ⟨by rfl, rfl⟩) ?_ ?_
        rotate_left
        · simp only [Act.put, List.setIfInBounds_toArray, List.set_cons_zero, List.set_cons_succ, i64_w, i32_w]
          rfl
        refine pure_ (i := 7) (N := some 141) (v := undef) (a' := ?_) #[true, true, true, true, true, true, true, true, false, false, false, false, false, false, false, false, false, false, false, false, false, false] rfl rfl (any_of HT_.out (by kernel_rfl)) (fun _ _ _ h => h) (Or.inr ⟨by rfl, rfl⟩) ?_ ?_
        rotate_left
        · simp only [Act.put, List.setIfInBounds_toArray, List.set_cons_zero, List.set_cons_succ, i64_w, i32_w]
          rfl
        refine pure_ (i := 8) (N := some 142) (v := undef) (a' := ?_) #[true, true, true, true, true, true, true, true, true, false, false, false, false, false, false, false, false, false, false, false, false, false] rfl rfl (any_of HT_.out (by kernel_rfl)) (fun _ _ _ h => h) (Or.inr ⟨by rfl, rfl⟩) ?_ ?_
        rotate_left
        · simp only [Act.put, List.setIfInBounds_toArray, List.set_cons_zero, List.set_cons_succ, i64_w, i32_w]
          rfl
        refine pure_ (i := 9) (N := some 143) (v := undef) (a' := ?_) #[true, true, true, true, true, true, true, true, true, true, false, false, false, false, false, false, false, false, false, false, false, false] rfl rfl (any_of HT_.out (by kernel_rfl)) (fun _ _ _ h => h) (Or.inr ⟨by rfl, rfl⟩) ?_ ?_
        rotate_left
        · simp only [Act.put, List.setIfInBounds_toArray, List.set_cons_zero, List.set_cons_succ, i64_w, i32_w]
          rfl
        refine pure_ (i := 10) (N := some 144) (v := undef) (a' := ?_) #[true, true, true, true, true, true, true, true, true, true, true, false, false, false, false, false, false, false, false, false, false, false] rfl rfl (any_of HT_.out (by kernel_rfl)) (fun _ _ _ h => h) (Or.inr ⟨by rfl, rfl⟩) ?_ ?_
        rotate_left
        · simp only [Act.put, List.setIfInBounds_toArray, List.set_cons_zero, List.set_cons_succ, i64_w, i32_w]
          rfl
        refine pure_ (i := 11) (N := some 145) (v := undef) (a' := ?_) #[true, true, true, true, true, true, true, true, true, true, true, true, false, false, false, false, false, false, false, false, false, false] rfl rfl (any_of HT_.out (by kernel_rfl)) (fun _ _ _ h => h) (Or.inr ⟨by rfl, rfl⟩) ?_ ?_
        rotate_left
        · simp only [Act.put, List.setIfInBounds_toArray, List.set_cons_zero, List.set_cons_succ, i64_w, i32_w]
          rfl
        refine pure_ (i := 12) (N := some 146) (v := undef) (a' := ?_) #[true, true, true, true, true, true, true, true, true, true, true, true, true, false, false, false, false, false, false, false, false, false] rfl rfl (any_of HT_.out (by kernel_rfl)) (fun _ _ _ h => h) (Or.inr ⟨by rfl, rfl⟩) ?_ ?_
        rotate_left
        · simp only [Act.put, List.setIfInBounds_toArray, List.set_cons_zero, List.set_cons_succ, i64_w, i32_w]
          rfl
        refine pure_ (i := 13) (N := some 147) (v := undef) (a' := ?_) #[true, true, true, true, true, true, true, true, true, true, true, true, true, true, false, false, false, false, false, false, false, false] rfl rfl (any_of HT_.out (by kernel_rfl)) (fun _ _ _ h => h) (Or.inr ⟨by rfl, rfl⟩) ?_ ?_
        rotate_left
        · simp only [Act.put, List.setIfInBounds_toArray, List.set_cons_zero, List.set_cons_succ, i64_w, i32_w]
          rfl
        refine pure_ (i := 14) (N := some 148) (v := undef) (a' := ?_) #[true, true, true, true, true, true, true, true, true, true, true, true, true, true, true, false, false, false, false, false, false, false] rfl rfl (any_of HT_.out (by kernel_rfl)) (fun _ _ _ h => h) (Or.inr ⟨by rfl, rfl⟩) ?_ ?_
        rotate_left
        · simp only [Act.put, List.setIfInBounds_toArray, List.set_cons_zero, List.set_cons_succ, i64_w, i32_w]
          rfl
        refine pure_ (i := 15) (N := some 149) (v := undef) (a' := ?_) #[true, true, true, true, true, true, true, true, true, true, true, true, true, true, true, true, false, false, false, false, false, false] rfl rfl (any_of HT_.out (by kernel_rfl)) (fun _ _ _ h => h) (Or.inr ⟨by rfl, rfl⟩) ?_ ?_
        rotate_left
        · simp only [Act.put, List.setIfInBounds_toArray, List.set_cons_zero, List.set_cons_succ, i64_w, i32_w]
          rfl
        refine pure_ (i := 16) (N := some 150) (v := undef) (a' := ?_) #[true, true, true, true, true, true, true, true, true, true, true, true, true, true, true, true, true, false, false, false, false, false] rfl rfl (any_of HT_.out (by kernel_rfl)) (fun _ _ _ h => h) (Or.inr ⟨by rfl, rfl⟩) ?_ ?_
        rotate_left
        · simp only [Act.put, List.setIfInBounds_toArray, List.set_cons_zero, List.set_cons_succ, i64_w, i32_w]
          rfl
        refine pure_ (i := 17) (N := some 151) (v := undef) (a' := ?_) #[true, true, true, true, true, true, true, true, true, true, true, true, true, true, true, true, true, true, false, false, false, false] rfl rfl (any_of HT_.out (by kernel_rfl)) (fun _ _ _ h => h) (Or.inr ⟨by rfl, rfl⟩) ?_ ?_
        rotate_left
        · simp only [Act.put, List.setIfInBounds_toArray, List.set_cons_zero, List.set_cons_succ, i64_w, i32_w]
          rfl
        refine pure_ (i := 18) (N := some 152) (v := undef) (a' := ?_) #[true, true, true, true, true, true, true, true, true, true, true, true, true, true, true, true, true, true, true, false, false, false] rfl rfl (any_of HT_.out (by kernel_rfl)) (fun _ _ _ h => h) (Or.inr ⟨by rfl, rfl⟩) ?_ ?_
        rotate_left
        · simp only [Act.put, List.setIfInBounds_toArray, List.set_cons_zero, List.set_cons_succ, i64_w, i32_w]
          rfl
        refine pure_ (i := 19) (N := some 153) (v := undef) (a' := ?_) #[true, true, true, true, true, true, true, true, true, true, true, true, true, true, true, true, true, true, true, true, false, false] rfl rfl (any_of HT_.out (by kernel_rfl)) (fun _ _ _ h => h) (Or.inr ⟨by rfl, rfl⟩) ?_ ?_
        rotate_left
        · simp only [Act.put, List.setIfInBounds_toArray, List.set_cons_zero, List.set_cons_succ, i64_w, i32_w]
          rfl
        refine pure_ (i := 20) (N := some 154) (v := undef) (a' := ?_) #[true, true, true, true, true, true, true, true, true, true, true, true, true, true, true, true, true, true, true, true, true, false] rfl rfl (any_of HT_.out (by kernel_rfl)) (fun _ _ _ h => h) (Or.inr ⟨by rfl, rfl⟩) ?_ ?_
        rotate_left
        · simp only [Act.put, List.setIfInBounds_toArray, List.set_cons_zero, List.set_cons_succ, i64_w, i32_w]
          rfl
        refine pu_ 21 155 HT_.out ?_
        refine done_ (done_of HT_.out (by kernel_rfl)) ?_
        try go_wp2
        go_meet
        case rel => exact ⟨_, (true), (by first | rfl | (simp; done) | (simp [*]; done)), H', ⟨by have := HK1.out; have := HK2.out; have := HK3.out; first | omega | exact Nat.le_refl _⟩, ⟨by (try simp only [hl12_2]); (with_reducible repeat (first | apply Kd.R_alloc | apply Kd.R_drewN | apply Kd.R_drew)); exact HO_12.out⟩, ⟨by (try simp only [hl12_2]); (with_reducible repeat (first | apply Kd.V_alloc | apply Kd.V_drewN | apply Kd.V_drew)); exact HO_13.out⟩, ⟨by (try simp only [hl12_2]); (with_reducible repeat (first | apply Kd.R_alloc | apply Kd.R_drewN | apply Kd.R_drew)); exact HO_15.out⟩, ⟨pB_ HB.out⟩⟩
      rw [if_neg c66] at H
      have c66b0 : decide (16777216 ≤ x18_3) = false := decide_eq_false c66
      clear c66
      (first | rw [c66b0] | (simp only [i64_w, i32_w]; rw [c66b0]) | rw [c66b1] | skip)
      obtain ⟨ji68, hji68⟩ : ∃ j_ : Int, (wrap64 ((l1.length : Int) - 2)) = j_ := ⟨_, rfl⟩
      first | rw [hji68] at H | simp only [hji68] at H | skip
      have hji68w : (IntKind.i64.wrap ((l1.length : Int) - 2)) = ji68 := (i64_w _).trans hji68
      by_cases c69 : 0 ≤ (ji68)
      rotate_left
      · rw [if_neg c69] at H; exact absurd H (by simp)
      rw [if_pos c69] at H
      have c69b0 : decide (0 ≤ (ji68)) = true := decide_eq_true c69
      clear c69
      by_cases c70 : (ji68) < (t197.length : Int)
      rotate_left
      · rw [if_neg c70] at H; exact absurd H (by simp)
      rw [if_pos c70] at H
      have c70b0 : decide ((ji68) < (t197.length : Int)) = true := decide_eq_true c70
      (try (have c70x0 := c70b0; simp only [hl12_2] at c70x0))
      clear c70
      first | rw [hji53] at H | simp only [hji53] at H | skip
      obtain ⟨ji71, hji71⟩ : ∃ j_ : Int, (wrap64 ((ji53) - 2)) = j_ := ⟨_, rfl⟩
      first | rw [hji71] at H | simp only [hji71] at H | skip
      have hji71w : (IntKind.i64.wrap ((ji53) - 2)) = ji71 := (i64_w _).trans hji71
      by_cases c72 : 0 ≤ (ji71)
      rotate_left
      · rw [if_neg c72] at H; exact absurd H (by simp)
      rw [if_pos c72] at H
      have c72b0 : decide (0 ≤ (ji71)) = true := decide_eq_true c72
      clear c72
      by_cases c73 : (ji71) < (x12_2.length : Int)
      rotate_left
      · rw [if_neg c73] at H; exact absurd H (by simp)
      rw [if_pos c73] at H
      have c73b0 : decide ((ji71) < (x12_2.length : Int)) = true := decide_eq_true c73
      (try (have c73x0 := c73b0; simp only [hl12_2] at c73x0))
      clear c73
      have H' := Aside0.mk H
      clear H
      try go_wp2
      have n0_ := Aside0.mk (Kd.R_drew HO_12.out)
      have n1_ := Aside0.mk (Kd.V_drew HO_13.out)
      have n2_ := Aside0.mk (Kd.R_drew HO_15.out)
      have n3_ := Aside0.mk (below_drew1 HB.out)
      clear HO_12
      clear HO_13
      clear HO_15
      clear HB
      have HO_12 := n0_
      have HO_13 := n1_
      have HO_15 := n2_
      have HB := n3_
      clear n0_ n1_ n2_ n3_
      have p207 : 0 ≤ ((ji68) : Int) := od_
      have q207 : (ji68) < (t197.length : Int) := od_
      obtain ⟨ad207, e207, hx207_0⟩ := Kd.at_int (Kd.V_reads' HO_13.out).2.2 (ji68) p207 q207
      obtain rfl : ad205 = ad207 := (by injection e207)
      replace p207 := eq_true p207
      replace q207 := eq_true q207
      have p208 : 0 ≤ ((ji71) : Int) := od_
      have q208 : (ji71) < (x12_2.length : Int) := od_
      obtain ⟨ad208, e208, hx208_0⟩ := Kd.at_int (Kd.R_reads' HO_12.out).2.2 (ji71) p208 q208
      obtain rfl : ad203 = ad208 := (by injection e208)
      replace p208 := eq_true p208
      replace q208 := eq_true q208
      refine start_ (n := 22) (S := fun w' => w'.cell? (ad205.add ((ji68)).toNat) = some (.int .i64 (rd t197 (ji68))) ∧ w'.cell? (ad203.add ((ji71)).toNat) = some (.int .i64 (rd x12_2 (ji71)))) (ds := []) #[false, false, false, false, false, false, false, false, false, false, false, false, false, false, false, false, false, false, false, false, false, false] (by kernel_rfl) rfl rfl ⟨hx207_0, hx208_0⟩ (fun hHeld => ?_); refine with_tabW spec_l02Div.tab27 spec_l02Div.bits27 (fun HT_ HW_ => ?_)
      generalize wr.drew = w74 at HO_12 HO_13 HO_15 HB hx207_0 hx208_0 hHeld ⊢
      refine pu_ 0 134 HT_.out ?_
      refine pu_ 1 135 HT_.out ?_
      refine pu_ 2 136 HT_.out ?_
      refine pu_ 3 137 HT_.out ?_
      refine pu_ 4 138 HT_.out ?_
      refine pu_ 5 139 HT_.out ?_
      refine pu_ 6 140 HT_.out ?_
      refine pu_ 7 141 HT_.out ?_
      refine pu_ 10 144 HT_.out ?_
      refine pu_ 11 145 HT_.out ?_
      refine pu_ 12 146 HT_.out ?_
      refine pu_ 13 147 HT_.out ?_
      refine pu_ 14 148 HT_.out ?_
      refine pu_ 15 149 HT_.out ?_
      refine pu_ 16 150 HT_.out ?_
      refine pu_ 17 151 HT_.out ?_
      refine take_ (i := 8) (N := some 142) (v := ?_) (a' := ?_) #[true, true, true, true, true, true, true, true, true, false, true, true, true, true, true, true, true, true, false, false, false, false] rfl rfl (take_ofW HT_.out HW_.out (by kernel_rfl)) (fun _ _ _ h => h) (Or.inl ⟨by rfl, ?_⟩) hHeld ?_ ?_
      rotate_left
      · rintro w' ⟨s0, s1⟩
        go_simp
        with_reducible rfl
      rotate_left
      · simp only [Act.put, List.setIfInBounds_toArray, List.set_cons_zero, List.set_cons_succ, i64_w, i32_w]
        rfl
      refine pu_ 9 143 HT_.out ?_
      refine take_ (i := 18) (N := some 152) (v := ?_) (a' := ?_) #[true, true, true, true, true, true, true, true, true, true, true, true, true, true, true, true, true, true, true, false, false, false] rfl rfl (take_ofW HT_.out HW_.out (by kernel_rfl)) (fun _ _ _ h => h) (Or.inl ⟨by rfl, ?_⟩) hHeld ?_ ?_
      rotate_left
      · rintro w' ⟨s0, s1⟩
        go_simp
        with_reducible rfl
      rotate_left
      · simp only [Act.put, List.setIfInBounds_toArray, List.set_cons_zero, List.set_cons_succ, i64_w, i32_w]
        rfl
      refine pu_ 19 153 HT_.out ?_
      refine pu_ 20 154 HT_.out ?_
      refine pu_ 21 155 HT_.out ?_
      refine done_ (done_of HT_.out (by kernel_rfl)) ?_
      try go_wp2
      go_meet
      case rel => exact ⟨_, (decide ((wrap64 (x18_3 * (rd t197 (ji68)))) > (Go.bits .or .i64 (wrap64 (x19_3 * 16777216)) (rd x12_2 (ji71))))), (by first | rfl | (simp; done) | (simp only [← hji68, ← hji71] <;> (first | rfl | simp)) | (simp [*]; done)), H', ⟨by have := HK1.out; have := HK2.out; have := HK3.out; first | omega | exact Nat.le_refl _⟩, ⟨by (try simp only [hl12_2]); (with_reducible repeat (first | apply Kd.R_alloc | apply Kd.R_drewN | apply Kd.R_drew)); exact HO_12.out⟩, ⟨by (try simp only [hl12_2]); (with_reducible repeat (first | apply Kd.V_alloc | apply Kd.V_drewN | apply Kd.V_drew)); exact HO_13.out⟩, ⟨by (try simp only [hl12_2]); (with_reducible repeat (first | apply Kd.R_alloc | apply Kd.R_drewN | apply Kd.R_drew)); exact HO_15.out⟩, ⟨pB_ HB.out⟩⟩
    clear HC65
    try clear c1
    try clear p1
    try clear q1
    try clear hx1
    try clear qi1
    try clear c2
    try clear p2
    try clear q2
    try clear hx2
    try clear hf2
    try clear c3
    try clear c4
    try clear c4b0
    try clear c5
    try clear c6
    try clear p6
    try clear c7
    try clear c11
    try clear c11b0
    try clear c11b1
    try clear c12
    try clear c12b0
    try clear c12b1
    try clear c13
    try clear c13b0
    try clear c13b1
    try clear c16
    try clear c16b0
    try clear c17
    try clear c17b0
    try clear p17
    try clear q17
    try clear hx17
    try clear qi17
    try clear c18
    try clear c18b0
    try clear p18
    try clear q18
    try clear hx18
    try clear qi18
    try clear c19
    try clear c19b0
    try clear c19b1
    try clear p19
    try clear q19
    try clear hx19
    try clear c20
    try clear c20b0
    try clear c20b1
    try clear p20
    try clear q20
    try clear hx20
    try clear c21
    try clear c21b0
    try clear p22
    try clear q22
    try clear hx22
    try clear hf22
    try clear c34
    try clear c34b0
    try clear c35
    try clear c35b0
    try clear c36
    try clear c36b0
    try clear c36b1
    try clear c38
    try clear c38b0
    try clear c43
    try clear c43b0
    try clear c43b1
    try clear c44
    try clear c44b0
    try clear c44b1
    try clear c52
    try clear c52b0
    try clear c54
    try clear c54b0
    try clear c55
    try clear c55b0
    try clear c57
    try clear c57b0
    try clear c58
    try clear c58b0
    try clear c59
    try clear c59b0
    try clear c60
    try clear c60b0
    try clear c61
    try clear c61b0
    try clear c61b1
    try clear p64
    try clear c66
    try clear c66b0
    try clear c66b1
    try clear c69
    try clear c69b0
    try clear c70
    try clear c70b0
    try clear c72
    try clear c72b0
    try clear c73
    try clear c73b0
    try clear hx177_0
    try clear hx178_0
    try clear hx180_0
    try clear hx190_0
    try clear hx203_0
    try clear hx204_0
    try clear hx205_0
    try clear hx206_0
    try clear hx207_0
    try clear hx208_0
    try clear hx22_0
    try clear p1
    try clear p17
    try clear p177
    try clear p178
    try clear p18
    try clear p180
    try clear p19
    try clear p190
    try clear p2
    try clear p20
    try clear p203
    try clear p204
    try clear p205
    try clear p206
    try clear p207
    try clear p208
    try clear p22
    try clear p6
    try clear p64
    try clear q1
    try clear q17
    try clear q177
    try clear q178
    try clear q18
    try clear q180
    try clear q19
    try clear q190
    try clear q2
    try clear q20
    try clear q203
    try clear q204
    try clear q205
    try clear q206
    try clear q207
    try clear q208
    try clear q22
    obtain ⟨kq, x155_64, rfl, HA, HJ64, HO_12, HO_13, HO_15, HB⟩ := hcut
    rcases kq with _ | kj64
    · exact absurd HA.out (by simp [spec_l02Div.j4])
    have H := HA.out
    clear HA
    simp only [spec_l02Div.j4] at H
    by_cases c75 : x155_64 = true
    · subst c75
      have H1 : (if 0 ≤ (wrap64 ((l1.length : Int) - 1)) then (if (wrap64 ((l1.length : Int) - 1)) < (t197.length : Int) then (if (wrap64 (x19_3 + (rd t197 (wrap64 ((l1.length : Int) - 1))))) ≥ 16777216 then (spec_l02Div.j5 kj64 (l1.length : Int) x11_1 x12_2 t197 x15_2 x16_2 (wrap64 (x18_3 - 1))) else (spec_l02Div.l3 kj64 (l1.length : Int) x11_1 x12_2 t197 x15_2 x16_2 (wrap64 (x18_3 - 1)) (wrap64 (x19_3 + (rd t197 (wrap64 ((l1.length : Int) - 1))))))) else (none)) else (none)) = some (r1, r2) := by rw [if_pos rfl] at H; exact H
      clear H
      have H := H1
      clear H1
      first | rw [hji33] at H | simp only [hji33] at H | skip
      by_cases c76 : 0 ≤ (ji33)
      rotate_left
      · rw [if_neg c76] at H; exact absurd H (by simp)
      rw [if_pos c76] at H
      have c76b0 : decide (0 ≤ (ji33)) = true := decide_eq_true c76
      clear c76
      by_cases c77 : (ji33) < (t197.length : Int)
      rotate_left
      · rw [if_neg c77] at H; exact absurd H (by simp)
      rw [if_pos c77] at H
      have c77b0 : decide ((ji33) < (t197.length : Int)) = true := decide_eq_true c77
      (try (have c77x0 := c77b0; simp only [hl12_2] at c77x0))
      clear c77
      by_cases c78 : (wrap64 (x19_3 + (rd t197 (ji33)))) ≥ 16777216
      · rw [if_pos c78] at H
        have c78b0 : decide (16777216 ≤ (wrap64 (x19_3 + (rd t197 (ji33))))) = true := decide_eq_true c78
        clear c78
        have H' := Aside0.mk H
        clear H
        have p209 : 0 ≤ ((ji33) : Int) := od_
        have q209 : (ji33) < (t197.length : Int) := od_
        obtain ⟨ad209, e209, hx209_0⟩ := Kd.at_int (Kd.V_reads' HO_13.out).2.2 (ji33) p209 q209
        obtain rfl : ad205 = ad209 := (by injection e209)
        replace p209 := eq_true p209
        replace q209 := eq_true q209
        go_wp2
        go_meet
        case rel => exact ⟨_, (wrap64 (x18_3 - 1)), (by first | rfl | (simp; done) | (simp [*]; done)), H', ⟨by have := HK1.out; have := HK2.out; have := HK3.out; have := HJ64.out; first | omega | exact Nat.le_refl _⟩, ⟨by (try simp only [hl12_2]); (with_reducible repeat (first | apply Kd.R_alloc | apply Kd.R_drewN | apply Kd.R_drew)); exact HO_12.out⟩, ⟨by (try simp only [hl12_2]); (with_reducible repeat (first | apply Kd.V_alloc | apply Kd.V_drewN | apply Kd.V_drew)); exact HO_13.out⟩, ⟨by (try simp only [hl12_2]); (with_reducible repeat (first | apply Kd.R_alloc | apply Kd.R_drewN | apply Kd.R_drew)); exact HO_15.out⟩, ⟨pB_ HB.out⟩⟩
      rw [if_neg c78] at H
      have c78b0 : decide (16777216 ≤ (wrap64 (x19_3 + (rd t197 (ji33))))) = false := decide_eq_false c78
      clear c78
      have H' := Aside0.mk H
      clear H
      have p209 : 0 ≤ ((ji33) : Int) := od_
      have q209 : (ji33) < (t197.length : Int) := od_
      obtain ⟨ad209, e209, hx209_0⟩ := Kd.at_int (Kd.V_reads' HO_13.out).2.2 (ji33) p209 q209
      obtain rfl : ad205 = ad209 := (by injection e209)
      replace p209 := eq_true p209
      replace q209 := eq_true q209
      go_wp2
      go_roundg kj64
      case measure => have := HK1.out; have := HK2.out; have := HK3.out; have := HJ64.out; omega
      case rel => exact ⟨(wrap64 (x18_3 - 1)), (wrap64 (x19_3 + (rd t197 (ji33)))), (by first | rfl | (simp; done) | (simp [*]; done)), (by first | rfl | (simp; done) | (simp only [← hji33] <;> (first | rfl | simp)) | (simp [*]; done)), H', ⟨by have := HK1.out; have := HK2.out; have := HK3.out; have := HJ64.out; omega⟩, ⟨by (try simp only [hl12_2]); (with_reducible repeat (first | apply Kd.R_alloc | apply Kd.R_drewN | apply Kd.R_drew)); exact HO_12.out⟩, ⟨by (try simp only [hl12_2]); (with_reducible repeat (first | apply Kd.V_alloc | apply Kd.V_drewN | apply Kd.V_drew)); exact HO_13.out⟩, ⟨by (try simp only [hl12_2]); (with_reducible repeat (first | apply Kd.R_alloc | apply Kd.R_drewN | apply Kd.R_drew)); exact HO_15.out⟩, ⟨pB_ HB.out⟩⟩
    · replace c75 := Bool.eq_false_iff.mpr c75
      subst c75
      have H1 : (spec_l02Div.j5 kj64 (l1.length : Int) x11_1 x12_2 t197 x15_2 x16_2 x18_3) = some (r1, r2) := by rw [if_neg (show ¬ (false = true) by decide)] at H; exact H
      clear H
      have H := H1
      clear H1
      have H' := Aside0.mk H
      clear H
      go_wp2
      go_meet
      case rel => exact ⟨_, (x18_3), (by first | rfl | (simp; done) | (simp [*]; done)), H', ⟨by have := HK1.out; have := HK2.out; have := HK3.out; have := HJ64.out; first | omega | exact Nat.le_refl _⟩, ⟨by (try simp only [hl12_2]); (with_reducible repeat (first | apply Kd.R_alloc | apply Kd.R_drewN | apply Kd.R_drew)); exact HO_12.out⟩, ⟨by (try simp only [hl12_2]); (with_reducible repeat (first | apply Kd.V_alloc | apply Kd.V_drewN | apply Kd.V_drew)); exact HO_13.out⟩, ⟨by (try simp only [hl12_2]); (with_reducible repeat (first | apply Kd.R_alloc | apply Kd.R_drewN | apply Kd.R_drew)); exact HO_15.out⟩, ⟨pB_ HB.out⟩⟩
  clear HC62
  try clear c1
  try clear p1
  try clear q1
  try clear hx1
  try clear qi1
  try clear c2
  try clear p2
  try clear q2
  try clear hx2
  try clear hf2
  try clear c3
  try clear c4
  try clear c4b0
  try clear c5
  try clear c6
  try clear p6
  try clear c7
  try clear c11
  try clear c11b0
  try clear c11b1
  try clear c12
  try clear c12b0
  try clear c12b1
  try clear c13
  try clear c13b0
  try clear c13b1
  try clear c16
  try clear c16b0
  try clear c17
  try clear c17b0
  try clear p17
  try clear q17
  try clear hx17
  try clear qi17
  try clear c18
  try clear c18b0
  try clear p18
  try clear q18
  try clear hx18
  try clear qi18
  try clear c19
  try clear c19b0
  try clear c19b1
  try clear p19
  try clear q19
  try clear hx19
  try clear c20
  try clear c20b0
  try clear c20b1
  try clear p20
  try clear q20
  try clear hx20
  try clear c21
  try clear c21b0
  try clear p22
  try clear q22
  try clear hx22
  try clear hf22
  try clear c34
  try clear c34b0
  try clear c35
  try clear c35b0
  try clear c36
  try clear c36b0
  try clear c36b1
  try clear c38
  try clear c38b0
  try clear c43
  try clear c43b0
  try clear c43b1
  try clear c44
  try clear c44b0
  try clear c44b1
  try clear c52
  try clear c52b0
  try clear c54
  try clear c54b0
  try clear c55
  try clear c55b0
  try clear c57
  try clear c57b0
  try clear c58
  try clear c58b0
  try clear c59
  try clear c59b0
  try clear c60
  try clear c60b0
  try clear c61
  try clear c61b0
  try clear c61b1
  try clear p64
  try clear c66
  try clear c66b0
  try clear c66b1
  try clear c69
  try clear c69b0
  try clear c70
  try clear c70b0
  try clear c72
  try clear c72b0
  try clear c73
  try clear c73b0
  try clear c75
  try clear c76
  try clear c76b0
  try clear c77
  try clear c77b0
  try clear c78
  try clear c78b0
  try clear hx177_0
  try clear hx178_0
  try clear hx180_0
  try clear hx190_0
  try clear hx203_0
  try clear hx204_0
  try clear hx205_0
  try clear hx206_0
  try clear hx207_0
  try clear hx208_0
  try clear hx209_0
  try clear hx22_0
  try clear p1
  try clear p17
  try clear p177
  try clear p178
  try clear p18
  try clear p180
  try clear p19
  try clear p190
  try clear p2
  try clear p20
  try clear p203
  try clear p204
  try clear p205
  try clear p206
  try clear p207
  try clear p208
  try clear p209
  try clear p22
  try clear p6
  try clear p64
  try clear q1
  try clear q17
  try clear q177
  try clear q178
  try clear q18
  try clear q180
  try clear q19
  try clear q190
  try clear q2
  try clear q20
  try clear q203
  try clear q204
  try clear q205
  try clear q206
  try clear q207
  try clear q208
  try clear q209
  try clear q22
  obtain ⟨kq, x18_61, rfl, HA, HJ61, HO_12, HO_13, HO_15, HB⟩ := hcut
  rcases kq with _ | kj61
  · exact absurd HA.out (by simp [spec_l02Div.j5])
  have H := HA.out
  clear HA
  simp only [spec_l02Div.j5] at H
  have H' := Aside0.mk H
  clear H
  go_wp2
  repeat (rw [addr_self]; generalize Addr.add _ _ = az_)
  go_loopg [20, 21] kj61 (fun kq v20 v21 w' => ∃ (x12_4 : List Int) (x20_4 : Int) (x21_4 : Int), v20 = .int .i64 x20_4 ∧ v21 = .int .i64 x21_4 ∧ Aside0 (spec_l02Div.l4 kq (l1.length : Int) x11_1 x12_4 t197 x15_2 x16_2 x18_61 x20_4 x21_4 = some (r1, r2)) ∧ Aside0 (kq ≤ kj61) ∧ Aside0 (Kd.R (Kd.int .i64) 3 w' w.heap.size (fun k_ => (w.heap.size ≤ k_) ∧ some k_ ≠ (v201 : Value).ownBlock) (.slice (some ad203) x12_2.length co49) x12_4) ∧ Aside0 (Kd.V (Kd.int .i64) 3 w' w.heap.size (fun k_ => (w.heap.size ≤ k_) ∧ some k_ ≠ ((.slice (some ad203) x12_2.length co49) : Value).ownBlock ∧ some k_ ≠ (v201 : Value).ownBlock) (.slice (some ad205) t197.length co64) t197) ∧ Aside0 (Kd.R (Kd.int .i64) 3 w' w.heap.size (fun k_ => (w.heap.size ≤ k_) ∧ some k_ ≠ ((.slice (some ad203) x12_2.length co49) : Value).ownBlock) v201 x15_2) ∧ Aside0 (Below w.heap.size w w'))
  case atStart => exact ⟨(x12_2), (0), (0), (by first | rfl | (simp; done) | (simp [*]; done)), (by first | rfl | (simp; done) | (simp [*]; done)), H', ⟨Nat.le_refl _⟩, ⟨by (try simp only [hl12_2]); (with_reducible repeat (first | apply Kd.R_alloc | apply Kd.R_drewN | apply Kd.R_drew)); exact HO_12.out⟩, ⟨by (try simp only [hl12_2]); (with_reducible repeat (first | apply Kd.V_alloc | apply Kd.V_drewN | apply Kd.V_drew)); exact HO_13.out⟩, ⟨by (try simp only [hl12_2]); (with_reducible repeat (first | apply Kd.R_alloc | apply Kd.R_drewN | apply Kd.R_drew)); exact HO_15.out⟩, ⟨pB_ HB.out⟩⟩
  clear H'
  try clear c1
  try clear p1
  try clear q1
  try clear hx1
  try clear qi1
  try clear c2
  try clear p2
  try clear q2
  try clear hx2
  try clear hf2
  try clear c3
  try clear c4
  try clear c4b0
  try clear c5
  try clear c6
  try clear p6
  try clear c7
  try clear c11
  try clear c11b0
  try clear c11b1
  try clear c12
  try clear c12b0
  try clear c12b1
  try clear c13
  try clear c13b0
  try clear c13b1
  try clear c16
  try clear c16b0
  try clear c17
  try clear c17b0
  try clear p17
  try clear q17
  try clear hx17
  try clear qi17
  try clear c18
  try clear c18b0
  try clear p18
  try clear q18
  try clear hx18
  try clear qi18
  try clear c19
  try clear c19b0
  try clear c19b1
  try clear p19
  try clear q19
  try clear hx19
  try clear c20
  try clear c20b0
  try clear c20b1
  try clear p20
  try clear q20
  try clear hx20
  try clear c21
  try clear c21b0
  try clear p22
  try clear q22
  try clear hx22
  try clear hf22
  try clear c34
  try clear c34b0
  try clear c35
  try clear c35b0
  try clear c36
  try clear c36b0
  try clear c36b1
  try clear c38
  try clear c38b0
  try clear c43
  try clear c43b0
  try clear c43b1
  try clear c44
  try clear c44b0
  try clear c44b1
  try clear c52
  try clear c52b0
  try clear c54
  try clear c54b0
  try clear c55
  try clear c55b0
  try clear c57
  try clear c57b0
  try clear c58
  try clear c58b0
  try clear c59
  try clear c59b0
  try clear c60
  try clear c60b0
  try clear c61
  try clear c61b0
  try clear c61b1
  try clear p64
  try clear c66
  try clear c66b0
  try clear c66b1
  try clear c69
  try clear c69b0
  try clear c70
  try clear c70b0
  try clear c72
  try clear c72b0
  try clear c73
  try clear c73b0
  try clear c75
  try clear c76
  try clear c76b0
  try clear c77
  try clear c77b0
  try clear c78
  try clear c78b0
  try clear hx177_0
  try clear hx178_0
  try clear hx180_0
  try clear hx190_0
  try clear hx203_0
  try clear hx204_0
  try clear hx205_0
  try clear hx206_0
  try clear hx207_0
  try clear hx208_0
  try clear hx209_0
  try clear hx22_0
  try clear p1
  try clear p17
  try clear p177
  try clear p178
  try clear p18
  try clear p180
  try clear p19
  try clear p190
  try clear p2
  try clear p20
  try clear p203
  try clear p204
  try clear p205
  try clear p206
  try clear p207
  try clear p208
  try clear p209
  try clear p22
  try clear p6
  try clear p64
  try clear q1
  try clear q17
  try clear q177
  try clear q178
  try clear q18
  try clear q180
  try clear q19
  try clear q190
  try clear q2
  try clear q20
  try clear q203
  try clear q204
  try clear q205
  try clear q206
  try clear q207
  try clear q208
  try clear q209
  try clear q22
  obtain ⟨x12_4, x20_4, x21_4, rfl, rfl, HA, HK4, HO_12, HO_13, HO_15, HB⟩ := hrel
  have hl12_4 := (Kd.R_reads' HO_12.out).1
  rw [hl12_4] at HO_12
  (try simp only [hl12_4])
  (try simp only [hl12_4] at HO_13)
  (try simp only [hl12_4] at HO_15)
  rcases gk with _ | k4
  · exact absurd HA.out (by simp [spec_l02Div.l4])
  have H := HA.out
  clear HA
  simp only [spec_l02Div.l4] at H
  by_cases c79 : x21_4 < (l1.length : Int)
  · rw [if_pos c79] at H
    have c79b0 : decide (x21_4 < (l1.length : Int)) = true := decide_eq_true c79
    (try (have c79x0 := c79b0; simp only [hl12_2, hl12_4] at c79x0))
    clear c79
    obtain ⟨ji80, hji80⟩ : ∃ j_ : Int, (wrap64 (x21_4 + x16_2)) = j_ := ⟨_, rfl⟩
    first | rw [hji80] at H | simp only [hji80] at H | skip
    have hji80w : (IntKind.i64.wrap (x21_4 + x16_2)) = ji80 := (i64_w _).trans hji80
    by_cases c81 : 0 ≤ (ji80)
    rotate_left
    · rw [if_neg c81] at H; exact absurd H (by simp)
    rw [if_pos c81] at H
    have c81b0 : decide (0 ≤ (ji80)) = true := decide_eq_true c81
    clear c81
    by_cases c82 : (ji80) < (x12_4.length : Int)
    rotate_left
    · rw [if_neg c82] at H; exact absurd H (by simp)
    rw [if_pos c82] at H
    have c82b0 : decide ((ji80) < (x12_4.length : Int)) = true := decide_eq_true c82
    (try (have c82x0 := c82b0; simp only [hl12_2, hl12_4] at c82x0))
    clear c82
    by_cases c83 : 0 ≤ x21_4
    rotate_left
    · rw [if_neg c83] at H; exact absurd H (by simp)
    rw [if_pos c83] at H
    have c83b0 : decide (0 ≤ x21_4) = true := decide_eq_true c83
    clear c83
    by_cases c84 : x21_4 < (t197.length : Int)
    rotate_left
    · rw [if_neg c84] at H; exact absurd H (by simp)
    rw [if_pos c84] at H
    have c84b0 : decide (x21_4 < (t197.length : Int)) = true := decide_eq_true c84
    (try (have c84x0 := c84b0; simp only [hl12_2, hl12_4] at c84x0))
    clear c84
    obtain ⟨y212, hy212⟩ : ∃ y_ : List Int, y_ = (x12_4.set ((ji80) : Int).toNat (Go.bits .and .i64 (wrap64 ((wrap64 ((rd x12_4 (ji80)) - (wrap64 (x18_61 * (rd t197 x21_4))))) - x20_4)) 16777215)) := ⟨_, rfl⟩
    first | rw [← hy212] at H | skip
    have Ny212 := Aside0.mk hy212
    clear hy212
    have H' := Aside0.mk H
    clear H
    try go_wp2
    have n0_ := Aside0.mk (Kd.R_drew HO_12.out)
    have n1_ := Aside0.mk (Kd.V_drew HO_13.out)
    have n2_ := Aside0.mk (Kd.R_drew HO_15.out)
    have n3_ := Aside0.mk (below_drew1 HB.out)
    clear HO_12
    clear HO_13
    clear HO_15
    clear HB
    have HO_12 := n0_
    have HO_13 := n1_
    have HO_15 := n2_
    have HB := n3_
    clear n0_ n1_ n2_ n3_
    have p210 : 0 ≤ ((ji80) : Int) := od_
    have q210 : (ji80) < (x12_4.length : Int) := od_
    obtain ⟨ad210, e210, hx210_0⟩ := Kd.at_int (Kd.R_reads' HO_12.out).2.2 (ji80) p210 q210
    obtain rfl : ad203 = ad210 := (by injection e210)
    replace p210 := eq_true p210
    replace q210 := eq_true q210
    have p211 : 0 ≤ (x21_4 : Int) := od_
    have q211 : x21_4 < (t197.length : Int) := od_
    obtain ⟨ad211, e211, hx211_0⟩ := Kd.at_int (Kd.V_reads' HO_13.out).2.2 x21_4 p211 q211
    obtain rfl : ad205 = ad211 := (by injection e211)
    replace p211 := eq_true p211
    replace q211 := eq_true q211
    refine start_ (n := 16) (S := fun w' => w'.cell? (ad203.add ((ji80)).toNat) = some (.int .i64 (rd x12_4 (ji80))) ∧ w'.cell? (ad205.add (x21_4).toNat) = some (.int .i64 (rd t197 x21_4))) (ds := []) #[false, false, false, false, false, false, false, false, false, false, false, false, false, false, false, false] (by kernel_rfl) rfl rfl ⟨hx210_0, hx211_0⟩ (fun hHeld => ?_); refine with_tabW spec_l02Div.tab35 spec_l02Div.bits35 (fun HT_ HW_ => ?_)
    generalize wr.drew = w86 at HO_12 HO_13 HO_15 HB hx210_0 hx211_0 hHeld ⊢
    refine pu_ 0 172 HT_.out ?_
    refine pu_ 1 173 HT_.out ?_
    refine pu_ 2 174 HT_.out ?_
    refine pu_ 3 175 HT_.out ?_
    refine pu_ 4 176 HT_.out ?_
    refine pu_ 6 178 HT_.out ?_
    refine pu_ 7 179 HT_.out ?_
    refine pu_ 8 180 HT_.out ?_
    refine pu_ 9 181 HT_.out ?_
    refine pu_ 13 185 HT_.out ?_
    refine take_ (i := 5) (N := some 177) (v := ?_) (a' := ?_) #[true, true, true, true, true, true, true, true, true, true, false, false, false, true, false, false] rfl rfl (take_ofW HT_.out HW_.out (by kernel_rfl)) (fun _ _ _ h => h) (Or.inl ⟨by rfl, ?_⟩) hHeld ?_ ?_
    rotate_left
    · rintro w' ⟨s0, s1⟩
      go_simp
      with_reducible rfl
    rotate_left
    · simp only [Act.put, List.setIfInBounds_toArray, List.set_cons_zero, List.set_cons_succ, i64_w, i32_w]
      rfl
    refine take_ (i := 10) (N := some 182) (v := ?_) (a' := ?_) #[true, true, true, true, true, true, true, true, true, true, true, false, false, true, false, false] rfl rfl (take_ofW HT_.out HW_.out (by kernel_rfl)) (fun _ _ _ h => h) (Or.inl ⟨by rfl, ?_⟩) hHeld ?_ ?_
    rotate_left
    · rintro w' ⟨s0, s1⟩
      go_simp
      with_reducible rfl
    rotate_left
    · simp only [Act.put, List.setIfInBounds_toArray, List.set_cons_zero, List.set_cons_succ, i64_w, i32_w]
      rfl
    refine pu_ 11 183 HT_.out ?_
    refine pu_ 12 184 HT_.out ?_
    refine pu_ 14 186 HT_.out ?_
    refine pu_ 15 22 HT_.out ?_
    refine done_ (done_of HT_.out (by kernel_rfl)) ?_
    have p85 : 0 ≤ ((ji80) : Int) := od_
    have q85 : ((ji80) : Int) < ((x12_4.length : Int) : Int) := od_
    obtain ⟨go85, co85, eo85, gb85, gl85, cl85, HG85⟩ := Kd.R_form HO_12.out (by omega)
    (first | cases eo85 | (injection eo85 with ea_ en_ ec_; (first | subst ea_ | (injection ea_ with ea_; subst ea_)); subst ec_; clear en_))
    have GB85 := Aside0.mk gb85
    have GG85 := Aside0.mk HG85
    clear gb85 gl85 HG85
    (first | simp only [add_plain] at hx203_0 | skip)
    (first | simp only [add_plain] at hx204_0 | skip)
    (first | simp only [add_plain] at hx208_0 | skip)
    (first | simp only [add_plain] at hx210_0 | skip)
    obtain ⟨hx85_0, hf85_0⟩ := Kd.R_celln 0 HO_12.out ((ji80) : Int) p85 q85
    replace p85 := eq_true p85
    replace q85 := eq_true q85
    obtain ⟨hy87_, hz87_⟩ := Kd.R_celln 0 HO_12.out ((ji80) : Int) (od_) (od_)
    have HP87 := Kd.R_putg HO_12.out ((ji80) : Int) (Go.bits .and .i64 (wrap64 ((wrap64 ((rd x12_4 (ji80)) - (wrap64 (x18_61 * (rd t197 x21_4))))) - x20_4)) 16777215)
    try go_wp2_with (first | ((with_reducible refine gate_store (t := 3) (p := 193) rfl ?_); refine store_event (t := 3) (p := 193) (v := ?vo_w88) (w1 := (w86.setCell ⟨go85, ((ji80) : Int).toNat, none⟩ (.int .i64 (Go.bits .and .i64 (wrap64 ((wrap64 ((rd x12_4 (ji80)) - (wrap64 (x18_61 * (rd t197 x21_4))))) - x20_4)) 16777215)))) ?hg ?ho ?hn ?hr ?_; (case ho => rfl); (case hg => rfl); (case hn => rfl); (case hr => first | (go_simp; done) | (go_simp; rfl)); intro w88 hw; have hg : w86.grownBy w88 (some go85) := (by rw [hw]; exact HP87.2); have hp_ : Kd.R (Kd.int .i64) 3 w88 w.heap.size (fun k_ => (w.heap.size ≤ k_) ∧ some k_ ≠ (v201 : Value).ownBlock) (.slice (some ⟨go85, 0, none⟩) x12_4.length co49) y212 := (by rw [hw, Ny212.out]; exact HP87.1); clear HP87; replace HO_12 := Aside0.mk (hp_); replace HO_13 := Aside0.mk (Kd.V_afterv (v := (.slice (some ⟨go85, 0, none⟩) x12_4.length co49)) (v1 := (.slice (some ⟨go85, 0, none⟩) x12_4.length co49)) (ok := (fun k_ => (w.heap.size ≤ k_) ∧ some k_ ≠ (v201 : Value).ownBlock)) (pV_ (Kd.V_mono HO_13.out (fun _ hk => ⟨⟨hk.1, hk.2.2⟩, hk.2.1⟩))) hg (.inl rfl)); replace HO_15 := Aside0.mk (Kd.R_after (v := (.slice (some ⟨go85, 0, none⟩) x12_4.length co49)) (v1 := (.slice (some ⟨go85, 0, none⟩) x12_4.length co49)) (ok := (fun k_ => (w.heap.size ≤ k_))) (pR_ HO_15.out) hg (.inl rfl)); replace HB := Aside0.mk ((by rw [hw]; exact below_set (HB.out) GB85.out : Below w.heap.size w w88)); clear hg hw hp_))
    (try simp only [← hl12_4])
    go_roundg k4
    case measure => have := HK1.out; have := HK2.out; have := HJ61.out; have := HK4.out; omega
    case rel => exact ⟨(y212), (wrap64 (-((wrap64 ((wrap64 ((rd x12_4 (ji80)) - (wrap64 (x18_61 * (rd t197 x21_4))))) - x20_4)) / 16777216))), (wrap64 (x21_4 + 1)), (by first | rfl | (simp; done) | (simp only [← hji80] <;> (first | rfl | simp)) | (simp [*]; done)), (by first | rfl | (simp; done) | (simp [*]; done)), H', ⟨by have := HK1.out; have := HK2.out; have := HJ61.out; have := HK4.out; omega⟩, ⟨by (try simp only [hl12_2]); (try simp only [hl12_4]); (with_reducible repeat (first | apply Kd.R_alloc | apply Kd.R_drewN | apply Kd.R_drew)); exact HO_12.out⟩, ⟨by (try simp only [hl12_2]); (try simp only [hl12_4]); (with_reducible repeat (first | apply Kd.V_alloc | apply Kd.V_drewN | apply Kd.V_drew)); exact Kd.V_mono HO_13.out (fun _ hk => ⟨hk.1.1, ⟨hk.2, hk.1.2⟩⟩)⟩, ⟨by (try simp only [hl12_2]); (try simp only [hl12_4]); (with_reducible repeat (first | apply Kd.R_alloc | apply Kd.R_drewN | apply Kd.R_drew)); exact HO_15.out⟩, ⟨pB_ HB.out⟩⟩
  rw [if_neg c79] at H
  have c79b0 : decide (x21_4 < (l1.length : Int)) = false := decide_eq_false c79
  (try (have c79x0 := c79b0; simp only [hl12_2, hl12_4] at c79x0))
  clear c79
  first | rw [hji53] at H | simp only [hji53] at H | skip
  by_cases c89 : 0 ≤ (ji53)
  rotate_left
  · rw [if_neg c89] at H; exact absurd H (by simp)
  rw [if_pos c89] at H
  have c89b0 : decide (0 ≤ (ji53)) = true := decide_eq_true c89
  clear c89
  by_cases c90 : (ji53) < (x12_4.length : Int)
  rotate_left
  · rw [if_neg c90] at H; exact absurd H (by simp)
  rw [if_pos c90] at H
  have c90b0 : decide ((ji53) < (x12_4.length : Int)) = true := decide_eq_true c90
  (try (have c90x0 := c90b0; simp only [hl12_2, hl12_4] at c90x0))
  clear c90
  obtain ⟨y214, hy214⟩ : ∃ y_ : List Int, y_ = (x12_4.set ((ji53) : Int).toNat (Go.bits .and .i64 (wrap64 ((rd x12_4 (ji53)) - x20_4)) 16777215)) := ⟨_, rfl⟩
  replace H := bS_ hy214 H
  have Ny214 := Aside0.mk hy214
  clear hy214
  by_cases c92 : (wrap64 ((rd x12_4 (ji53)) - x20_4)) < 0
  rotate_left
  · rw [if_neg c92] at H
    have c92b0 : decide ((wrap64 ((rd x12_4 (ji53)) - x20_4)) < 0) = false := decide_eq_false c92
    clear c92
    by_cases c115 : 0 ≤ x16_2
    rotate_left
    · rw [if_neg c115] at H; exact absurd H (by simp)
    rw [if_pos c115] at H
    have c115b0 : decide (0 ≤ x16_2) = true := decide_eq_true c115
    clear c115
    by_cases c116 : x16_2 < (x15_2.length : Int)
    rotate_left
    · rw [if_neg c116] at H; exact absurd H (by simp)
    rw [if_pos c116] at H
    have c116b0 : decide (x16_2 < (x15_2.length : Int)) = true := decide_eq_true c116
    (try (have c116x0 := c116b0; simp only [hl12_2, hl12_4] at c116x0))
    clear c116
    obtain ⟨y221, hy221⟩ : ∃ y_ : List Int, y_ = (x15_2.set (x16_2 : Int).toNat x18_61) := ⟨_, rfl⟩
    first | rw [← hy221] at H | skip
    have Ny221 := Aside0.mk hy221
    clear hy221
    have H' := Aside0.mk H
    clear H
    have p213 : 0 ≤ ((ji53) : Int) := od_
    have q213 : (ji53) < (x12_4.length : Int) := od_
    obtain ⟨ad213, e213, hx213_0⟩ := Kd.at_int (Kd.R_reads' HO_12.out).2.2 (ji53) p213 q213
    obtain rfl : ad203 = ad213 := (by injection e213)
    replace p213 := eq_true p213
    replace q213 := eq_true q213
    have p91 : 0 ≤ ((ji53) : Int) := od_
    have q91 : ((ji53) : Int) < ((x12_4.length : Int) : Int) := od_
    obtain ⟨go91, co91, eo91, gb91, gl91, cl91, HG91⟩ := Kd.R_form HO_12.out (by omega)
    (first | cases eo91 | (injection eo91 with ea_ en_ ec_; (first | subst ea_ | (injection ea_ with ea_; subst ea_)); subst ec_; clear en_))
    have GB91 := Aside0.mk gb91
    have GG91 := Aside0.mk HG91
    clear gb91 gl91 HG91
    (first | simp only [add_plain] at hx213_0 | skip)
    obtain ⟨hx91_0, hf91_0⟩ := Kd.R_celln 0 HO_12.out ((ji53) : Int) p91 q91
    replace p91 := eq_true p91
    replace q91 := eq_true q91
    have HP118 := Kd.R_putg HO_12.out ((ji53) : Int) (Go.bits .and .i64 (wrap64 ((rd x12_4 (ji53)) - x20_4)) 16777215)
    go_wp2_with (first | ((with_reducible refine gate_store (t := 3) (p := 211) rfl ?_); refine store_event (t := 3) (p := 211) (v := ?vo_w119) (w1 := (wr.setCell ⟨go91, ((ji53) : Int).toNat, none⟩ (.int .i64 (Go.bits .and .i64 (wrap64 ((rd x12_4 (ji53)) - x20_4)) 16777215)))) ?hg ?ho ?hn ?hr ?_; (case ho => rfl); (case hg => rfl); (case hn => rfl); (case hr => first | (go_simp; done) | (go_simp; rfl)); intro w119 hw; have hg : wr.grownBy w119 (some go91) := (by rw [hw]; exact HP118.2); have hp_ : Kd.R (Kd.int .i64) 3 w119 w.heap.size (fun k_ => (w.heap.size ≤ k_) ∧ some k_ ≠ (v201 : Value).ownBlock) (.slice (some ⟨go91, 0, none⟩) x12_4.length co49) y214 := (by rw [hw, Ny214.out]; exact HP118.1); clear HP118; replace HO_12 := Aside0.mk (hp_); replace HO_13 := Aside0.mk (Kd.V_afterv (v := (.slice (some ⟨go91, 0, none⟩) x12_4.length co49)) (v1 := (.slice (some ⟨go91, 0, none⟩) x12_4.length co49)) (ok := (fun k_ => (w.heap.size ≤ k_) ∧ some k_ ≠ (v201 : Value).ownBlock)) (pV_ (Kd.V_mono HO_13.out (fun _ hk => ⟨⟨hk.1, hk.2.2⟩, hk.2.1⟩))) hg (.inl rfl)); replace HO_15 := Aside0.mk (Kd.R_after (v := (.slice (some ⟨go91, 0, none⟩) x12_4.length co49)) (v1 := (.slice (some ⟨go91, 0, none⟩) x12_4.length co49)) (ok := (fun k_ => (w.heap.size ≤ k_))) (pR_ HO_15.out) hg (.inl rfl)); replace HB := Aside0.mk ((by rw [hw]; exact below_set (HB.out) GB91.out : Below w.heap.size w w119)); clear hg hw hp_; have p117 : 0 ≤ (x16_2 : Int) := od_; have q117 : (x16_2 : Int) < ((x15_2.length : Int) : Int) := od_; obtain ⟨go117, co117, eo117, gb117, gl117, cl117, HG117⟩ := Kd.R_form HO_15.out (by omega); (first | cases eo117 | (injection eo117 with ea_ en_ ec_; (first | subst ea_ | (injection ea_ with ea_; subst ea_)); subst ec_; clear en_)); have GB117 := Aside0.mk gb117; have GG117 := Aside0.mk HG117; clear gb117 gl117 HG117; obtain ⟨hx117_0, hf117_0⟩ := Kd.R_celln 0 HO_15.out (x16_2 : Int) p117 q117; replace p117 := eq_true p117; replace q117 := eq_true q117; obtain ⟨hy120_, hz120_⟩ := Kd.R_celln 0 HO_15.out (x16_2 : Int) (od_) (od_); have HP120 := Kd.R_putg HO_15.out (x16_2 : Int) x18_61) | ((with_reducible refine gate_store (t := 3) (p := 260) rfl ?_); refine store_event (t := 3) (p := 260) (v := ?vo_w121) (w1 := (w119.setCell ⟨go117, (x16_2 : Int).toNat, none⟩ (.int .i64 x18_61))) ?hg ?ho ?hn ?hr ?_; (case ho => rfl); (case hg => rfl); (case hn => rfl); (case hr => first | (go_simp; done) | (go_simp; rfl)); intro w121 hw; have hg : w119.grownBy w121 (some go117) := (by rw [hw]; exact HP120.2); have hp_ : Kd.R (Kd.int .i64) 3 w121 w.heap.size (fun k_ => (w.heap.size ≤ k_) ∧ some k_ ≠ (.slice (some ⟨go91, 0, none⟩) x12_4.length co49 : Value).ownBlock) (.slice (some ⟨go117, 0, none⟩) x15_2.length co117) y221 := (by rw [hw, Ny221.out]; exact HP120.1); clear HP120; replace HO_12 := Aside0.mk (Kd.R_after (v := (.slice (some ⟨go117, 0, none⟩) x15_2.length co117)) (v1 := (.slice (some ⟨go117, 0, none⟩) x15_2.length co117)) (ok := (fun k_ => (w.heap.size ≤ k_))) (pR_ HO_12.out) hg (.inl rfl)); replace HO_13 := Aside0.mk (Kd.V_afterv (v := (.slice (some ⟨go117, 0, none⟩) x15_2.length co117)) (v1 := (.slice (some ⟨go117, 0, none⟩) x15_2.length co117)) (ok := (fun k_ => (w.heap.size ≤ k_) ∧ some k_ ≠ (.slice (some ⟨go91, 0, none⟩) x12_4.length co49 : Value).ownBlock)) (pV_ (Kd.V_mono HO_13.out (fun _ hk => ⟨⟨hk.1.1, hk.2⟩, hk.1.2⟩))) hg (.inl rfl)); replace HO_15 := Aside0.mk (hp_); replace HB := Aside0.mk ((by rw [hw]; exact below_set (HB.out) GB117.out : Below w.heap.size w w121)); clear hg hw hp_))
    (try simp only [← hl12_2, ← hl12_4])
    go_roundg k4
    case measure => have := HK1.out; have := HK2.out; have := HJ61.out; have := HK4.out; omega
    case rel => exact ⟨(y214), (y221), (wrap64 (x16_2 - 1)), (by first | rfl | (simp; done) | (simp [*]; done)), H', ⟨by have := HK1.out; have := HK2.out; have := HJ61.out; have := HK4.out; omega⟩, ⟨by (try simp only [hl12_2]); (try simp only [hl12_4]); (with_reducible repeat (first | apply Kd.R_alloc | apply Kd.R_drewN | apply Kd.R_drew)); exact HO_12.out⟩, ⟨by (try simp only [hl12_2]); (try simp only [hl12_4]); (with_reducible repeat (first | apply Kd.V_alloc | apply Kd.V_drewN | apply Kd.V_drew)); exact Kd.V_mono HO_13.out (fun _ hk => ⟨hk.1.1, ⟨hk.1.2, hk.2⟩⟩)⟩, ⟨by (try simp only [hl12_2]); (try simp only [hl12_4]); (with_reducible repeat (first | apply Kd.R_alloc | apply Kd.R_drewN | apply Kd.R_drew)); exact HO_15.out⟩, ⟨pB_ HB.out⟩⟩
  rw [if_pos c92] at H
  have c92b0 : decide ((wrap64 ((rd x12_4 (ji53)) - x20_4)) < 0) = true := decide_eq_true c92
  clear c92
  have H' := Aside0.mk H
  clear H
  have p213 : 0 ≤ ((ji53) : Int) := od_
  have q213 : (ji53) < (x12_4.length : Int) := od_
  obtain ⟨ad213, e213, hx213_0⟩ := Kd.at_int (Kd.R_reads' HO_12.out).2.2 (ji53) p213 q213
  obtain rfl : ad203 = ad213 := (by injection e213)
  replace p213 := eq_true p213
  replace q213 := eq_true q213
  have p91 : 0 ≤ ((ji53) : Int) := od_
  have q91 : ((ji53) : Int) < ((x12_4.length : Int) : Int) := od_
  obtain ⟨go91, co91, eo91, gb91, gl91, cl91, HG91⟩ := Kd.R_form HO_12.out (by omega)
  (first | cases eo91 | (injection eo91 with ea_ en_ ec_; (first | subst ea_ | (injection ea_ with ea_; subst ea_)); subst ec_; clear en_))
  have GB91 := Aside0.mk gb91
  have GG91 := Aside0.mk HG91
  clear gb91 gl91 HG91
  (first | simp only [add_plain] at hx213_0 | skip)
  obtain ⟨hx91_0, hf91_0⟩ := Kd.R_celln 0 HO_12.out ((ji53) : Int) p91 q91
  replace p91 := eq_true p91
  replace q91 := eq_true q91
  have HP93 := Kd.R_putg HO_12.out ((ji53) : Int) (Go.bits .and .i64 (wrap64 ((rd x12_4 (ji53)) - x20_4)) 16777215)
  go_wp2_with (first | ((with_reducible refine gate_store (t := 3) (p := 211) rfl ?_); refine store_event (t := 3) (p := 211) (v := ?vo_w94) (w1 := (wr.setCell ⟨go91, ((ji53) : Int).toNat, none⟩ (.int .i64 (Go.bits .and .i64 (wrap64 ((rd x12_4 (ji53)) - x20_4)) 16777215)))) ?hg ?ho ?hn ?hr ?_; (case ho => rfl); (case hg => rfl); (case hn => rfl); (case hr => first | (go_simp; done) | (go_simp; rfl)); intro w94 hw; have hg : wr.grownBy w94 (some go91) := (by rw [hw]; exact HP93.2); have hp_ : Kd.R (Kd.int .i64) 3 w94 w.heap.size (fun k_ => (w.heap.size ≤ k_) ∧ some k_ ≠ (v201 : Value).ownBlock) (.slice (some ⟨go91, 0, none⟩) x12_4.length co49) y214 := (by rw [hw, Ny214.out]; exact HP93.1); clear HP93; replace HO_12 := Aside0.mk (hp_); replace HO_13 := Aside0.mk (Kd.V_afterv (v := (.slice (some ⟨go91, 0, none⟩) x12_4.length co49)) (v1 := (.slice (some ⟨go91, 0, none⟩) x12_4.length co49)) (ok := (fun k_ => (w.heap.size ≤ k_) ∧ some k_ ≠ (v201 : Value).ownBlock)) (pV_ (Kd.V_mono HO_13.out (fun _ hk => ⟨⟨hk.1, hk.2.2⟩, hk.2.1⟩))) hg (.inl rfl)); replace HO_15 := Aside0.mk (Kd.R_after (v := (.slice (some ⟨go91, 0, none⟩) x12_4.length co49)) (v1 := (.slice (some ⟨go91, 0, none⟩) x12_4.length co49)) (ok := (fun k_ => (w.heap.size ≤ k_))) (pR_ HO_15.out) hg (.inl rfl)); replace HB := Aside0.mk ((by rw [hw]; exact below_set (HB.out) GB91.out : Below w.heap.size w w94)); clear hg hw hp_))
  repeat (rw [addr_self]; generalize Addr.add _ _ = az_)
  go_loopg [24, 25] k4 (fun kq v24 v25 w' => ∃ (x12_5 : List Int) (x24_5 : Int) (x25_5 : Int), v24 = .int .i64 x24_5 ∧ v25 = .int .i64 x25_5 ∧ Aside0 (spec_l02Div.l5 kq (l1.length : Int) x11_1 x12_5 t197 x15_2 x16_2 (wrap64 (x18_61 - 1)) x24_5 x25_5 = some (r1, r2)) ∧ Aside0 (kq ≤ k4) ∧ Aside0 (Kd.R (Kd.int .i64) 3 w' w.heap.size (fun k_ => (w.heap.size ≤ k_) ∧ some k_ ≠ (v201 : Value).ownBlock) (.slice (some ⟨go91, 0, none⟩) x12_4.length co49) x12_5) ∧ Aside0 (Kd.V (Kd.int .i64) 3 w' w.heap.size (fun k_ => (w.heap.size ≤ k_) ∧ some k_ ≠ ((.slice (some ⟨go91, 0, none⟩) x12_4.length co49) : Value).ownBlock ∧ some k_ ≠ (v201 : Value).ownBlock) (.slice (some ad205) t197.length co64) t197) ∧ Aside0 (Kd.R (Kd.int .i64) 3 w' w.heap.size (fun k_ => (w.heap.size ≤ k_) ∧ some k_ ≠ ((.slice (some ⟨go91, 0, none⟩) x12_4.length co49) : Value).ownBlock) v201 x15_2) ∧ Aside0 (Below w.heap.size w w'))
  case atStart => exact ⟨(y214), (0), (0), (by first | rfl | (simp; done) | (simp [*]; done)), (by first | rfl | (simp; done) | (simp [*]; done)), H', ⟨Nat.le_refl _⟩, ⟨by (try simp only [hl12_2]); (try simp only [hl12_4]); (with_reducible repeat (first | apply Kd.R_alloc | apply Kd.R_drewN | apply Kd.R_drew)); exact HO_12.out⟩, ⟨by (try simp only [hl12_2]); (try simp only [hl12_4]); (with_reducible repeat (first | apply Kd.V_alloc | apply Kd.V_drewN | apply Kd.V_drew)); exact Kd.V_mono HO_13.out (fun _ hk => ⟨hk.1.1, ⟨hk.2, hk.1.2⟩⟩)⟩, ⟨by (try simp only [hl12_2]); (try simp only [hl12_4]); (with_reducible repeat (first | apply Kd.R_alloc | apply Kd.R_drewN | apply Kd.R_drew)); exact HO_15.out⟩, ⟨pB_ HB.out⟩⟩
  clear H'
  try clear c1
  try clear p1
  try clear q1
  try clear hx1
  try clear qi1
  try clear c2
  try clear p2
  try clear q2
  try clear hx2
  try clear hf2
  try clear c3
  try clear c4
  try clear c4b0
  try clear c5
  try clear c6
  try clear p6
  try clear c7
  try clear c8
  try clear p8
  try clear q8
  try clear hx8
  try clear hf8
  try clear c9
  try clear p9
  try clear q9
  try clear hx9
  try clear hf9
  try clear c11
  try clear c11b0
  try clear c11b1
  try clear c12
  try clear c12b0
  try clear c12b1
  try clear c13
  try clear c13b0
  try clear c13b1
  try clear c16
  try clear c16b0
  try clear c17
  try clear c17b0
  try clear p17
  try clear q17
  try clear hx17
  try clear qi17
  try clear c18
  try clear c18b0
  try clear p18
  try clear q18
  try clear hx18
  try clear qi18
  try clear c19
  try clear c19b0
  try clear c19b1
  try clear p19
  try clear q19
  try clear hx19
  try clear c20
  try clear c20b0
  try clear c20b1
  try clear p20
  try clear q20
  try clear hx20
  try clear c21
  try clear c21b0
  try clear p21
  try clear q21
  try clear hx21
  try clear p22
  try clear q22
  try clear hx22
  try clear hf22
  try clear c34
  try clear c34b0
  try clear c35
  try clear c35b0
  try clear c36
  try clear c36b0
  try clear c36b1
  try clear c38
  try clear c38b0
  try clear c43
  try clear c43b0
  try clear c43b1
  try clear c44
  try clear c44b0
  try clear c44b1
  try clear c52
  try clear c52b0
  try clear c54
  try clear c54b0
  try clear c55
  try clear c55b0
  try clear c57
  try clear c57b0
  try clear c58
  try clear c58b0
  try clear c59
  try clear c59b0
  try clear c60
  try clear c60b0
  try clear c61
  try clear c61b0
  try clear c61b1
  try clear p64
  try clear c66
  try clear c66b0
  try clear c66b1
  try clear c69
  try clear c69b0
  try clear c70
  try clear c70b0
  try clear c72
  try clear c72b0
  try clear c73
  try clear c73b0
  try clear c75
  try clear c76
  try clear c76b0
  try clear c77
  try clear c77b0
  try clear c78
  try clear c78b0
  try clear c79
  try clear c79b0
  try clear c81
  try clear c81b0
  try clear c82
  try clear c82b0
  try clear c83
  try clear c83b0
  try clear c84
  try clear c84b0
  try clear p85
  try clear q85
  try clear hx85
  try clear hf85
  try clear c89
  try clear c89b0
  try clear c90
  try clear c90b0
  try clear p91
  try clear q91
  try clear hx91
  try clear hf91
  try clear c92
  try clear c92b0
  try clear hx177_0
  try clear hx178_0
  try clear hx180_0
  try clear hx190_0
  try clear hx203_0
  try clear hx204_0
  try clear hx205_0
  try clear hx206_0
  try clear hx207_0
  try clear hx208_0
  try clear hx209_0
  try clear hx210_0
  try clear hx211_0
  try clear hx213_0
  try clear hx22_0
  try clear hx85_0
  try clear hx91_0
  try clear p1
  try clear p17
  try clear p177
  try clear p178
  try clear p18
  try clear p180
  try clear p19
  try clear p190
  try clear p2
  try clear p20
  try clear p203
  try clear p204
  try clear p205
  try clear p206
  try clear p207
  try clear p208
  try clear p209
  try clear p210
  try clear p211
  try clear p213
  try clear p22
  try clear p6
  try clear p64
  try clear p85
  try clear p91
  try clear q1
  try clear q17
  try clear q177
  try clear q178
  try clear q18
  try clear q180
  try clear q19
  try clear q190
  try clear q2
  try clear q20
  try clear q203
  try clear q204
  try clear q205
  try clear q206
  try clear q207
  try clear q208
  try clear q209
  try clear q210
  try clear q211
  try clear q213
  try clear q22
  try clear q85
  try clear q91
  obtain ⟨x12_5, x24_5, x25_5, rfl, rfl, HA, HK5, HO_12, HO_13, HO_15, HB⟩ := hrel
  have hl12_5 := (Kd.R_reads' HO_12.out).1
  rw [hl12_5] at HO_12
  (try simp only [hl12_5])
  (try simp only [hl12_5] at HO_13)
  (try simp only [hl12_5] at HO_15)
  rcases gk with _ | k5
  · exact absurd HA.out (by simp [spec_l02Div.l5])
  have H := HA.out
  clear HA
  simp only [spec_l02Div.l5] at H
  by_cases c95 : x25_5 < (l1.length : Int)
  rotate_left
  · rw [if_neg c95] at H
    have c95b0 : decide (x25_5 < (l1.length : Int)) = false := decide_eq_false c95
    (try (have c95x0 := c95b0; simp only [hl12_2, hl12_4, hl12_5] at c95x0))
    clear c95
    first | rw [hji53] at H | simp only [hji53] at H | skip
    by_cases c105 : 0 ≤ (ji53)
    rotate_left
    · rw [if_neg c105] at H; exact absurd H (by simp)
    rw [if_pos c105] at H
    have c105b0 : decide (0 ≤ (ji53)) = true := decide_eq_true c105
    clear c105
    by_cases c106 : (ji53) < (x12_5.length : Int)
    rotate_left
    · rw [if_neg c106] at H; exact absurd H (by simp)
    rw [if_pos c106] at H
    have c106b0 : decide ((ji53) < (x12_5.length : Int)) = true := decide_eq_true c106
    (try (have c106x0 := c106b0; simp only [hl12_2, hl12_4, hl12_5] at c106x0))
    clear c106
    obtain ⟨y219, hy219⟩ : ∃ y_ : List Int, y_ = (x12_5.set ((ji53) : Int).toNat (Go.bits .and .i64 (wrap64 ((rd x12_5 (ji53)) + x24_5)) 16777215)) := ⟨_, rfl⟩
    first | rw [← hy219] at H | skip
    have Ny219 := Aside0.mk hy219
    clear hy219
    by_cases c108 : 0 ≤ x16_2
    rotate_left
    · rw [if_neg c108] at H; exact absurd H (by simp)
    rw [if_pos c108] at H
    have c108b0 : decide (0 ≤ x16_2) = true := decide_eq_true c108
    clear c108
    by_cases c109 : x16_2 < (x15_2.length : Int)
    rotate_left
    · rw [if_neg c109] at H; exact absurd H (by simp)
    rw [if_pos c109] at H
    have c109b0 : decide (x16_2 < (x15_2.length : Int)) = true := decide_eq_true c109
    (try (have c109x0 := c109b0; simp only [hl12_2, hl12_4, hl12_5] at c109x0))
    clear c109
    obtain ⟨y220, hy220⟩ : ∃ y_ : List Int, y_ = (x15_2.set (x16_2 : Int).toNat (wrap64 (x18_61 - 1))) := ⟨_, rfl⟩
    first | rw [← hy220] at H | skip
    have Ny220 := Aside0.mk hy220
    clear hy220
    have H' := Aside0.mk H
    clear H
    have p218 : 0 ≤ ((ji53) : Int) := od_
    have q218 : (ji53) < (x12_5.length : Int) := od_
    obtain ⟨ad218, e218, hx218_0⟩ := Kd.at_int (Kd.R_reads' HO_12.out).2.2 (ji53) p218 q218
    obtain rfl : (⟨go91, 0, none⟩ : Addr) = ad218 := (by injection e218)
    (first | simp only [add_plain] at hx218_0 | simp only [add_at] at hx218_0 | simp only [Addr.add, Nat.zero_add] at hx218_0 | skip)
    replace p218 := eq_true p218
    replace q218 := eq_true q218
    have p107 : 0 ≤ ((ji53) : Int) := od_
    have q107 : ((ji53) : Int) < ((x12_5.length : Int) : Int) := od_
    obtain ⟨hx107_0, hf107_0⟩ := Kd.R_celln 0 HO_12.out ((ji53) : Int) p107 q107
    replace p107 := eq_true p107
    replace q107 := eq_true q107
    have HP111 := Kd.R_putg HO_12.out ((ji53) : Int) (Go.bits .and .i64 (wrap64 ((rd x12_5 (ji53)) + x24_5)) 16777215)
    go_wp2_with (first | ((with_reducible refine gate_store (t := 3) (p := 256) rfl ?_); refine store_event (t := 3) (p := 256) (v := ?vo_w112) (w1 := (wr.setCell ⟨go91, ((ji53) : Int).toNat, none⟩ (.int .i64 (Go.bits .and .i64 (wrap64 ((rd x12_5 (ji53)) + x24_5)) 16777215)))) ?hg ?ho ?hn ?hr ?_; (case ho => rfl); (case hg => rfl); (case hn => rfl); (case hr => first | (go_simp; done) | (go_simp; rfl)); intro w112 hw; have hg : wr.grownBy w112 (some go91) := (by rw [hw]; exact HP111.2); have hp_ : Kd.R (Kd.int .i64) 3 w112 w.heap.size (fun k_ => (w.heap.size ≤ k_) ∧ some k_ ≠ (v201 : Value).ownBlock) (.slice (some ⟨go91, 0, none⟩) x12_5.length co49) y219 := (by rw [hw, Ny219.out]; exact HP111.1); clear HP111; replace HO_12 := Aside0.mk (hp_); replace HO_13 := Aside0.mk (Kd.V_afterv (v := (.slice (some ⟨go91, 0, none⟩) x12_5.length co49)) (v1 := (.slice (some ⟨go91, 0, none⟩) x12_5.length co49)) (ok := (fun k_ => (w.heap.size ≤ k_) ∧ some k_ ≠ (v201 : Value).ownBlock)) (pV_ (Kd.V_mono HO_13.out (fun _ hk => ⟨⟨hk.1, hk.2.2⟩, hk.2.1⟩))) hg (.inl rfl)); replace HO_15 := Aside0.mk (Kd.R_after (v := (.slice (some ⟨go91, 0, none⟩) x12_5.length co49)) (v1 := (.slice (some ⟨go91, 0, none⟩) x12_5.length co49)) (ok := (fun k_ => (w.heap.size ≤ k_))) (pR_ HO_15.out) hg (.inl rfl)); replace HB := Aside0.mk ((by rw [hw]; exact below_set (HB.out) GB91.out : Below w.heap.size w w112)); clear hg hw hp_; have p110 : 0 ≤ (x16_2 : Int) := od_; have q110 : (x16_2 : Int) < ((x15_2.length : Int) : Int) := od_; obtain ⟨go110, co110, eo110, gb110, gl110, cl110, HG110⟩ := Kd.R_form HO_15.out (by omega); (first | cases eo110 | (injection eo110 with ea_ en_ ec_; (first | subst ea_ | (injection ea_ with ea_; subst ea_)); subst ec_; clear en_)); have GB110 := Aside0.mk gb110; have GG110 := Aside0.mk HG110; clear gb110 gl110 HG110; obtain ⟨hx110_0, hf110_0⟩ := Kd.R_celln 0 HO_15.out (x16_2 : Int) p110 q110; replace p110 := eq_true p110; replace q110 := eq_true q110; obtain ⟨hy113_, hz113_⟩ := Kd.R_celln 0 HO_15.out (x16_2 : Int) (od_) (od_); have HP113 := Kd.R_putg HO_15.out (x16_2 : Int) (wrap64 (x18_61 - 1))) | ((with_reducible refine gate_store (t := 3) (p := 260) rfl ?_); refine store_event (t := 3) (p := 260) (v := ?vo_w114) (w1 := (w112.setCell ⟨go110, (x16_2 : Int).toNat, none⟩ (.int .i64 (wrap64 (x18_61 - 1))))) ?hg ?ho ?hn ?hr ?_; (case ho => rfl); (case hg => rfl); (case hn => rfl); (case hr => first | (go_simp; done) | (go_simp; rfl)); intro w114 hw; have hg : w112.grownBy w114 (some go110) := (by rw [hw]; exact HP113.2); have hp_ : Kd.R (Kd.int .i64) 3 w114 w.heap.size (fun k_ => (w.heap.size ≤ k_) ∧ some k_ ≠ (.slice (some ⟨go91, 0, none⟩) x12_5.length co49 : Value).ownBlock) (.slice (some ⟨go110, 0, none⟩) x15_2.length co110) y220 := (by rw [hw, Ny220.out]; exact HP113.1); clear HP113; replace HO_12 := Aside0.mk (Kd.R_after (v := (.slice (some ⟨go110, 0, none⟩) x15_2.length co110)) (v1 := (.slice (some ⟨go110, 0, none⟩) x15_2.length co110)) (ok := (fun k_ => (w.heap.size ≤ k_))) (pR_ HO_12.out) hg (.inl rfl)); replace HO_13 := Aside0.mk (Kd.V_afterv (v := (.slice (some ⟨go110, 0, none⟩) x15_2.length co110)) (v1 := (.slice (some ⟨go110, 0, none⟩) x15_2.length co110)) (ok := (fun k_ => (w.heap.size ≤ k_) ∧ some k_ ≠ (.slice (some ⟨go91, 0, none⟩) x12_5.length co49 : Value).ownBlock)) (pV_ (Kd.V_mono HO_13.out (fun _ hk => ⟨⟨hk.1.1, hk.2⟩, hk.1.2⟩))) hg (.inl rfl)); replace HO_15 := Aside0.mk (hp_); replace HB := Aside0.mk ((by rw [hw]; exact below_set (HB.out) GB110.out : Below w.heap.size w w114)); clear hg hw hp_))
    (try simp only [← hl12_2, ← hl12_4, ← hl12_5])
    go_roundg k5
    case measure => have := HK1.out; have := HK2.out; have := HJ61.out; have := HK4.out; have := HK5.out; omega
    case rel => exact ⟨(y219), (y220), (wrap64 (x16_2 - 1)), (by first | rfl | (simp; done) | (simp [*]; done)), H', ⟨by have := HK1.out; have := HK2.out; have := HJ61.out; have := HK4.out; have := HK5.out; omega⟩, ⟨by (try simp only [hl12_2]); (try simp only [hl12_4]); (try simp only [hl12_5]); (with_reducible repeat (first | apply Kd.R_alloc | apply Kd.R_drewN | apply Kd.R_drew)); exact HO_12.out⟩, ⟨by (try simp only [hl12_2]); (try simp only [hl12_4]); (try simp only [hl12_5]); (with_reducible repeat (first | apply Kd.V_alloc | apply Kd.V_drewN | apply Kd.V_drew)); exact Kd.V_mono HO_13.out (fun _ hk => ⟨hk.1.1, ⟨hk.1.2, hk.2⟩⟩)⟩, ⟨by (try simp only [hl12_2]); (try simp only [hl12_4]); (try simp only [hl12_5]); (with_reducible repeat (first | apply Kd.R_alloc | apply Kd.R_drewN | apply Kd.R_drew)); exact HO_15.out⟩, ⟨pB_ HB.out⟩⟩
  rw [if_pos c95] at H
  have c95b0 : decide (x25_5 < (l1.length : Int)) = true := decide_eq_true c95
  (try (have c95x0 := c95b0; simp only [hl12_2, hl12_4, hl12_5] at c95x0))
  clear c95
  obtain ⟨ji96, hji96⟩ : ∃ j_ : Int, (wrap64 (x25_5 + x16_2)) = j_ := ⟨_, rfl⟩
  first | rw [hji96] at H | simp only [hji96] at H | skip
  have hji96w : (IntKind.i64.wrap (x25_5 + x16_2)) = ji96 := (i64_w _).trans hji96
  by_cases c97 : 0 ≤ (ji96)
  rotate_left
  · rw [if_neg c97] at H; exact absurd H (by simp)
  rw [if_pos c97] at H
  have c97b0 : decide (0 ≤ (ji96)) = true := decide_eq_true c97
  clear c97
  by_cases c98 : (ji96) < (x12_5.length : Int)
  rotate_left
  · rw [if_neg c98] at H; exact absurd H (by simp)
  rw [if_pos c98] at H
  have c98b0 : decide ((ji96) < (x12_5.length : Int)) = true := decide_eq_true c98
  (try (have c98x0 := c98b0; simp only [hl12_2, hl12_4, hl12_5] at c98x0))
  clear c98
  by_cases c99 : 0 ≤ x25_5
  rotate_left
  · rw [if_neg c99] at H; exact absurd H (by simp)
  rw [if_pos c99] at H
  have c99b0 : decide (0 ≤ x25_5) = true := decide_eq_true c99
  clear c99
  by_cases c100 : x25_5 < (t197.length : Int)
  rotate_left
  · rw [if_neg c100] at H; exact absurd H (by simp)
  rw [if_pos c100] at H
  have c100b0 : decide (x25_5 < (t197.length : Int)) = true := decide_eq_true c100
  (try (have c100x0 := c100b0; simp only [hl12_2, hl12_4, hl12_5] at c100x0))
  clear c100
  obtain ⟨y217, hy217⟩ : ∃ y_ : List Int, y_ = (x12_5.set ((ji96) : Int).toNat (Go.bits .and .i64 (wrap64 ((wrap64 ((rd x12_5 (ji96)) + (rd t197 x25_5))) + x24_5)) 16777215)) := ⟨_, rfl⟩
  first | rw [← hy217] at H | skip
  have Ny217 := Aside0.mk hy217
  clear hy217
  have H' := Aside0.mk H
  clear H
  try go_wp2
  have n0_ := Aside0.mk (Kd.R_drew HO_12.out)
  have n1_ := Aside0.mk (Kd.V_drew HO_13.out)
  have n2_ := Aside0.mk (Kd.R_drew HO_15.out)
  have n3_ := Aside0.mk (below_drew1 HB.out)
  clear HO_12
  clear HO_13
  clear HO_15
  clear HB
  have HO_12 := n0_
  have HO_13 := n1_
  have HO_15 := n2_
  have HB := n3_
  clear n0_ n1_ n2_ n3_
  have p215 : 0 ≤ ((ji96) : Int) := od_
  have q215 : (ji96) < (x12_5.length : Int) := od_
  obtain ⟨ad215, e215, hx215_0⟩ := Kd.at_int (Kd.R_reads' HO_12.out).2.2 (ji96) p215 q215
  obtain rfl : (⟨go91, 0, none⟩ : Addr) = ad215 := (by injection e215)
  (first | simp only [add_plain] at hx215_0 | simp only [add_at] at hx215_0 | simp only [Addr.add, Nat.zero_add] at hx215_0 | skip)
  replace p215 := eq_true p215
  replace q215 := eq_true q215
  have p216 : 0 ≤ (x25_5 : Int) := od_
  have q216 : x25_5 < (t197.length : Int) := od_
  obtain ⟨ad216, e216, hx216_0⟩ := Kd.at_int (Kd.V_reads' HO_13.out).2.2 x25_5 p216 q216
  obtain rfl : ad205 = ad216 := (by injection e216)
  replace p216 := eq_true p216
  replace q216 := eq_true q216
  refine start_ (n := 14) (S := fun w' => w'.cell? ⟨go91, ((ji96)).toNat, none⟩ = some (.int .i64 (rd x12_5 (ji96))) ∧ w'.cell? (ad205.add (x25_5).toNat) = some (.int .i64 (rd t197 x25_5))) (ds := []) #[false, false, false, false, false, false, false, false, false, false, false, false, false, false] (by kernel_rfl) rfl rfl ⟨hx215_0, hx216_0⟩ (fun hHeld => ?_); refine with_tabW spec_l02Div.tab46 spec_l02Div.bits46 (fun HT_ HW_ => ?_)
  generalize wr.drew = w102 at HO_12 HO_13 HO_15 HB hx215_0 hx216_0 hHeld ⊢
  refine pu_ 0 221 HT_.out ?_
  refine pu_ 1 222 HT_.out ?_
  refine pu_ 2 223 HT_.out ?_
  refine pu_ 3 224 HT_.out ?_
  refine pu_ 4 225 HT_.out ?_
  refine pu_ 6 227 HT_.out ?_
  refine pu_ 7 228 HT_.out ?_
  refine pu_ 8 229 HT_.out ?_
  refine pu_ 11 232 HT_.out ?_
  refine take_ (i := 5) (N := some 226) (v := ?_) (a' := ?_) #[true, true, true, true, true, true, true, true, true, false, false, true, false, false] rfl rfl (take_ofW HT_.out HW_.out (by kernel_rfl)) (fun _ _ _ h => h) (Or.inl ⟨by rfl, ?_⟩) hHeld ?_ ?_
  rotate_left
  · rintro w' ⟨s0, s1⟩
    go_simp
    with_reducible rfl
  rotate_left
  · simp only [Act.put, List.setIfInBounds_toArray, List.set_cons_zero, List.set_cons_succ, i64_w, i32_w]
    rfl
  refine take_ (i := 9) (N := some 230) (v := ?_) (a' := ?_) #[true, true, true, true, true, true, true, true, true, true, false, true, false, false] rfl rfl (take_ofW HT_.out HW_.out (by kernel_rfl)) (fun _ _ _ h => h) (Or.inl ⟨by rfl, ?_⟩) hHeld ?_ ?_
  rotate_left
  · rintro w' ⟨s0, s1⟩
    go_simp
    with_reducible rfl
  rotate_left
  · simp only [Act.put, List.setIfInBounds_toArray, List.set_cons_zero, List.set_cons_succ, i64_w, i32_w]
    rfl
  refine pu_ 10 231 HT_.out ?_
  refine pu_ 12 233 HT_.out ?_
  refine pu_ 13 26 HT_.out ?_
  refine done_ (done_of HT_.out (by kernel_rfl)) ?_
  have p101 : 0 ≤ ((ji96) : Int) := od_
  have q101 : ((ji96) : Int) < ((x12_5.length : Int) : Int) := od_
  obtain ⟨hx101_0, hf101_0⟩ := Kd.R_celln 0 HO_12.out ((ji96) : Int) p101 q101
  replace p101 := eq_true p101
  replace q101 := eq_true q101
  obtain ⟨hy103_, hz103_⟩ := Kd.R_celln 0 HO_12.out ((ji96) : Int) (od_) (od_)
  have HP103 := Kd.R_putg HO_12.out ((ji96) : Int) (Go.bits .and .i64 (wrap64 ((wrap64 ((rd x12_5 (ji96)) + (rd t197 x25_5))) + x24_5)) 16777215)
  try go_wp2_with (first | ((with_reducible refine gate_store (t := 3) (p := 240) rfl ?_); refine store_event (t := 3) (p := 240) (v := ?vo_w104) (w1 := (w102.setCell ⟨go91, ((ji96) : Int).toNat, none⟩ (.int .i64 (Go.bits .and .i64 (wrap64 ((wrap64 ((rd x12_5 (ji96)) + (rd t197 x25_5))) + x24_5)) 16777215)))) ?hg ?ho ?hn ?hr ?_; (case ho => rfl); (case hg => rfl); (case hn => rfl); (case hr => first | (go_simp; done) | (go_simp; rfl)); intro w104 hw; have hg : w102.grownBy w104 (some go91) := (by rw [hw]; exact HP103.2); have hp_ : Kd.R (Kd.int .i64) 3 w104 w.heap.size (fun k_ => (w.heap.size ≤ k_) ∧ some k_ ≠ (v201 : Value).ownBlock) (.slice (some ⟨go91, 0, none⟩) x12_5.length co49) y217 := (by rw [hw, Ny217.out]; exact HP103.1); clear HP103; replace HO_12 := Aside0.mk (hp_); replace HO_13 := Aside0.mk (Kd.V_afterv (v := (.slice (some ⟨go91, 0, none⟩) x12_5.length co49)) (v1 := (.slice (some ⟨go91, 0, none⟩) x12_5.length co49)) (ok := (fun k_ => (w.heap.size ≤ k_) ∧ some k_ ≠ (v201 : Value).ownBlock)) (pV_ (Kd.V_mono HO_13.out (fun _ hk => ⟨⟨hk.1, hk.2.2⟩, hk.2.1⟩))) hg (.inl rfl)); replace HO_15 := Aside0.mk (Kd.R_after (v := (.slice (some ⟨go91, 0, none⟩) x12_5.length co49)) (v1 := (.slice (some ⟨go91, 0, none⟩) x12_5.length co49)) (ok := (fun k_ => (w.heap.size ≤ k_))) (pR_ HO_15.out) hg (.inl rfl)); replace HB := Aside0.mk ((by rw [hw]; exact below_set (HB.out) GB91.out : Below w.heap.size w w104)); clear hg hw hp_))
  (try simp only [← hl12_5])
  go_roundg k5
  case measure => have := HK1.out; have := HK2.out; have := HJ61.out; have := HK4.out; have := HK5.out; omega
  case rel => exact ⟨(y217), ((wrap64 ((wrap64 ((rd x12_5 (ji96)) + (rd t197 x25_5))) + x24_5)) / 16777216), (wrap64 (x25_5 + 1)), (by first | rfl | (simp; done) | (simp only [← hji96] <;> (first | rfl | simp)) | (simp [*]; done)), (by first | rfl | (simp; done) | (simp [*]; done)), H', ⟨by have := HK1.out; have := HK2.out; have := HJ61.out; have := HK4.out; have := HK5.out; omega⟩, ⟨by (try simp only [hl12_2]); (try simp only [hl12_4]); (try simp only [hl12_5]); (with_reducible repeat (first | apply Kd.R_alloc | apply Kd.R_drewN | apply Kd.R_drew)); exact HO_12.out⟩, ⟨by (try simp only [hl12_2]); (try simp only [hl12_4]); (try simp only [hl12_5]); (with_reducible repeat (first | apply Kd.V_alloc | apply Kd.V_drewN | apply Kd.V_drew)); exact Kd.V_mono HO_13.out (fun _ hk => ⟨hk.1.1, ⟨hk.2, hk.1.2⟩⟩)⟩, ⟨by (try simp only [hl12_2]); (try simp only [hl12_4]); (try simp only [hl12_5]); (with_reducible repeat (first | apply Kd.R_alloc | apply Kd.R_drewN | apply Kd.R_drew)); exact HO_15.out⟩, ⟨pB_ HB.out⟩⟩

end Go.Proofs.Ytghhnjhjhjbljaa.F
