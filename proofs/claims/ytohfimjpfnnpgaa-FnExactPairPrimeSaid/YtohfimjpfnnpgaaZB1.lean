-- Made for this seat by a program of this session (wip/fork, wip/slim.py). Lean checks it.
import Derived.Test.YtohfimjpfnnpgaaFx0
import Derived.Test.YtohfimjpfnnpgaaZB0
namespace Go.Proofs.Ytohfimjpfnnpgaa.F
open Go.RowKit Go.Proofs.YtohfimjpfnnpgaaW.PrintWords Go.Proofs.YtohfimjpfnnpgaaW.PrintLast Go.Proofs.YtohfimjpfnnpgaaW.PrintMore
attribute [local go_sem] max2_int min2_int max_two min_two max_three min_three max_four min_four   -- for this text's walks alone
set_option linter.unusedVariables false
set_option linter.unusedSimpArgs false

/-! ### spec_l06Small: function 54 -/
mutual
def spec_l06Small.j0 : Nat → Int → Bool → Option (Bool)
  | 0, _, _ => none
  | k + 1, x0, x10 => if x10 = true then (some false) else (spec_l06Small.l0 k x0 3)
def spec_l06Small.l0 : Nat → Int → Int → Option (Bool)
  | 0, _, _ => none
  | k + 1, x0, x3 => if (wrap64 (x3 * x3)) ≤ x0 then (if x3 = 0 then (none) else (if (Int.tmod x0 x3) = 0 then (some false) else (spec_l06Small.l0 k x0 (wrap64 (x3 + 2))))) else (some true)
end
def spec_l06Small.f (k : Nat) (a0 : Int) : Option (Bool) := if a0 < 3 then (spec_l06Small.j0 k a0 true) else (spec_l06Small.j0 k a0 ((Int.tmod a0 2) == 0))
set_option maxHeartbeats 8000000 in
set_option maxRecDepth 100000 in
theorem spec_l06Small.calls (k : Nat) (a0 : Int) (r : Bool) (w : World) (h : spec_l06Small.f k a0 = some r) :
    Calls Try.prog 54 #[.int .i64 a0] w fun e w' => e = .returned (.bool r) ∧ Drawn0 w w' := by
  have H : (if a0 < 3 then (spec_l06Small.j0 k a0 true) else (spec_l06Small.j0 k a0 ((Int.tmod a0 2) == 0))) = some r := h
  clear h
  have HC2 := Aside0.mk H
  clear H
  go_enter Try.func54, Try.ntmps54
  go_upto_region 1 with (fail)
  go_cut [10] (fun v10 wc => ∃ (kq : Nat) (x10_1 : Bool), v10 = .bool x10_1 ∧ Aside0 (spec_l06Small.j0 kq a0 x10_1 = some r) ∧ Aside0 (kq ≤ k) ∧ Drawn0 w wc)
  case first =>
    have H := HC2.out
    clear HC2
    by_cases c3 : a0 < 3
    · rw [if_pos c3] at H
      have c3b0 : decide (a0 < 3) = true := decide_eq_true c3
      clear c3
      (first | rw [c3b0] | (simp only [i64_w, i32_w]; rw [c3b0]) | rw [c3b1] | skip)
      have H' := Aside0.mk H
      clear H
      go_wp2
      go_meet
      case rel => exact ⟨_, (true), (by first | rfl | (simp; done) | (simp [*]; done)), H', ⟨by first | omega | exact Nat.le_refl _⟩, by repeat (first | exact Drawn0.refl _ | apply Drawn0.step)⟩
    rw [if_neg c3] at H
    have c3b0 : decide (a0 < 3) = false := decide_eq_false c3
    clear c3
    (first | rw [c3b0] | (simp only [i64_w, i32_w]; rw [c3b0]) | rw [c3b1] | skip)
    have H' := Aside0.mk H
    clear H
    go_wp2
    go_meet
    case rel => exact ⟨_, (((Int.tmod a0 2) == 0)), (by first | rfl | (simp; done) | (simp [*]; done)), H', ⟨by first | omega | exact Nat.le_refl _⟩, by repeat (first | exact Drawn0.refl _ | apply Drawn0.step)⟩
  clear HC2
  try clear p2
  try clear c3
  try clear c3b0
  try clear c3b1
  obtain ⟨kq, x10_1, rfl, HA, HJ1, ⟨mc1, rfl⟩⟩ := hcut
  rcases kq with _ | kj1
  · exact absurd HA.out (by simp [spec_l06Small.j0])
  have H := HA.out
  clear HA
  simp only [spec_l06Small.j0] at H
  by_cases c4 : x10_1 = true
  · subst c4
    have H1 : (some false) = some r := by rw [if_pos rfl] at H; exact H
    clear H
    have H := H1
    clear H1
    obtain rfl := Option.some.inj H
    go_wp2
    go_ret
    exact ⟨by first | rfl | (simp; done) | (simp [*]; done), by repeat (first | exact Drawn0.refl _ | apply Drawn0.step)⟩
  · replace c4 := Bool.eq_false_iff.mpr c4
    subst c4
    have H1 : (spec_l06Small.l0 kj1 a0 3) = some r := by rw [if_neg (show ¬ (false = true) by decide)] at H; exact H
    clear H
    have H := H1
    clear H1
    have H' := Aside0.mk H
    clear H
    go_wp2
    go_loopg [3] kj1 (fun kq v3 w' => ∃ (x3_2 : Int), v3 = .int .i64 x3_2 ∧ Aside0 (spec_l06Small.l0 kq a0 x3_2 = some r) ∧ Aside0 (kq ≤ kj1) ∧ Drawn0 w w')
    case atStart => exact ⟨(3), (by first | rfl | (simp; done) | (simp [*]; done)), H', ⟨Nat.le_refl _⟩, by repeat (first | exact Drawn0.refl _ | apply Drawn0.step)⟩
    clear H'
    try clear c1
    try clear p2
    try clear c3
    try clear c3b0
    try clear c3b1
    try clear c4
    try clear p2
    obtain ⟨x3_2, rfl, HA, HK2, ⟨m2, rfl⟩⟩ := hrel
    rcases gk with _ | k2
    · exact absurd HA.out (by simp [spec_l06Small.l0])
    have H := HA.out
    clear HA
    simp only [spec_l06Small.l0] at H
    by_cases c5 : (wrap64 (x3_2 * x3_2)) ≤ a0
    rotate_left
    · rw [if_neg c5] at H
      have c5b0 : decide ((wrap64 (x3_2 * x3_2)) ≤ a0) = false := decide_eq_false c5
      clear c5
      obtain rfl := Option.some.inj H
      go_wp2
      go_ret
      exact ⟨by first | rfl | (simp; done) | (simp [*]; done), by repeat (first | exact Drawn0.refl _ | apply Drawn0.step)⟩

    rw [if_pos c5] at H
    have c5b0 : decide ((wrap64 (x3_2 * x3_2)) ≤ a0) = true := decide_eq_true c5
    clear c5
    by_cases c6 : x3_2 = 0
    · rw [if_pos c6] at H; exact absurd H (by simp)
    rw [if_neg c6] at H
    have c6b0 : (x3_2 == 0) = false := beq_eq_false_iff_ne.mpr c6
    have c6b1 : (x3_2 != 0) = true := bne_iff_ne.mpr c6
    by_cases c7 : (Int.tmod a0 x3_2) = 0
    · rw [if_pos c7] at H
      have c7b0 : ((Int.tmod a0 x3_2) == 0) = true := beq_iff_eq.mpr c7
      have c7b1 : ((Int.tmod a0 x3_2) != 0) = false := bne_eq_false_iff_eq.mpr c7
      clear c7
      obtain rfl := Option.some.inj H
      go_wp2
      go_ret
      exact ⟨by first | rfl | (simp; done) | (simp [*]; done), by repeat (first | exact Drawn0.refl _ | apply Drawn0.step)⟩
    rw [if_neg c7] at H
    have c7b0 : ((Int.tmod a0 x3_2) == 0) = false := beq_eq_false_iff_ne.mpr c7
    have c7b1 : ((Int.tmod a0 x3_2) != 0) = true := bne_iff_ne.mpr c7
    have H' := Aside0.mk H
    clear H
    go_wp2
    go_roundg k2
    case measure => have := HJ1.out; have := HK2.out; omega
    case rel => exact ⟨(wrap64 (x3_2 + 2)), (by first | rfl | (simp; done) | (simp [*]; done)), H', ⟨by have := HJ1.out; have := HK2.out; omega⟩, by repeat (first | exact Drawn0.refl _ | apply Drawn0.step)⟩

/-! ### spec_l09Curve: function 90 -/
def spec_l09Curve.f (a0 : Int) : Option (ByteArray × ByteArray × ByteArray × ByteArray × ByteArray × ByteArray × Int × Int × Bool) := if a0 = 1 then (some ((⟨#[110, 97, 114, 114, 111, 119, 45, 115, 109, 97, 108, 108]⟩ : ByteArray), (⟨#[26, 9, 71]⟩ : ByteArray), (⟨#[26, 4, 1]⟩ : ByteArray), (⟨#[3]⟩ : ByteArray), (⟨#[180, 37]⟩ : ByteArray), (⟨#[4, 56, 219]⟩ : ByteArray), 3, 3, false)) else (if a0 = 2 then (some ((⟨#[98, 114, 111, 97, 100, 45, 115, 109, 97, 108, 108]⟩ : ByteArray), (⟨#[2, 122, 161, 225, 67]⟩ : ByteArray), (⟨#[150, 3, 193]⟩ : ByteArray), (⟨#[4]⟩ : ByteArray), (⟨#[4]⟩ : ByteArray), (⟨#[4]⟩ : ByteArray), 5, 3, true)) else (if a0 = 3 then (some ((⟨#[110, 97, 114, 114, 111, 119]⟩ : ByteArray), (⟨#[48, 100, 78, 114, 225, 49, 160, 41, 184, 80, 69, 182, 129, 129, 88, 93, 151, 129, 106, 145, 104, 113, 202, 141, 60, 32, 140, 22, 216, 124, 253, 71]⟩ : ByteArray), (⟨#[48, 100, 78, 114, 225, 49, 160, 41, 184, 80, 69, 182, 129, 129, 88, 93, 40, 51, 232, 72, 121, 185, 112, 145, 67, 225, 245, 147, 240, 0, 0, 1]⟩ : ByteArray), (⟨#[3]⟩ : ByteArray), (⟨#[43, 20, 157, 64, 206, 184, 170, 174, 129, 190, 24, 153, 27, 224, 106, 195, 181, 180, 197, 229, 89, 219, 239, 163, 50, 103, 230, 220, 36, 161, 56, 229]⟩ : ByteArray), (⟨#[151, 19, 176, 58, 240, 254, 212, 205, 44, 175, 173, 238, 216, 253, 244, 167, 79, 160, 132, 229, 45, 24, 82, 228, 162, 189, 6, 133, 195, 21, 210]⟩ : ByteArray), 32, 32, false)) else (if a0 = 4 then (some ((⟨#[98, 114, 111, 97, 100]⟩ : ByteArray), (⟨#[26, 1, 17, 234, 57, 127, 230, 154, 75, 27, 167, 182, 67, 75, 172, 215, 100, 119, 75, 132, 243, 133, 18, 191, 103, 48, 210, 160, 246, 176, 246, 36, 30, 171, 255, 254, 177, 83, 255, 255, 185, 254, 255, 255, 255, 255, 170, 171]⟩ : ByteArray), (⟨#[115, 237, 167, 83, 41, 157, 125, 72, 51, 57, 216, 8, 9, 161, 216, 5, 83, 189, 164, 2, 255, 254, 91, 254, 255, 255, 255, 255, 0, 0, 0, 1]⟩ : ByteArray), (⟨#[4]⟩ : ByteArray), (⟨#[4]⟩ : ByteArray), (⟨#[4]⟩ : ByteArray), 48, 32, true)) else (some ((⟨#[]⟩ : ByteArray), (⟨#[]⟩ : ByteArray), (⟨#[]⟩ : ByteArray), (⟨#[]⟩ : ByteArray), (⟨#[]⟩ : ByteArray), (⟨#[]⟩ : ByteArray), 0, 0, false)))))
set_option maxHeartbeats 8000000 in
set_option maxRecDepth 100000 in
theorem spec_l09Curve.calls (a0 : Int) (r1 : ByteArray) (r2 : ByteArray) (r3 : ByteArray) (r4 : ByteArray) (r5 : ByteArray) (r6 : ByteArray) (r7 : Int) (r8 : Int) (r9 : Bool) (w : World) (h : spec_l09Curve.f a0 = some (r1, r2, r3, r4, r5, r6, r7, r8, r9)) :
    Calls Try.prog 90 #[.int .i64 a0] w fun e w' => e = .returned (.agg #[.string r1, .string r2, .string r3, .string r4, .string r5, .string r6, .int .i64 r7, .int .i64 r8, .bool r9]) ∧ Below w.heap.size w w' := by
  have hu60 := Try.underlying60
  have hu32 := Try.underlying32
  have HB := Aside0.mk (Below.refl w.heap.size w)
  have H : (if a0 = 1 then (some ((⟨#[110, 97, 114, 114, 111, 119, 45, 115, 109, 97, 108, 108]⟩ : ByteArray), (⟨#[26, 9, 71]⟩ : ByteArray), (⟨#[26, 4, 1]⟩ : ByteArray), (⟨#[3]⟩ : ByteArray), (⟨#[180, 37]⟩ : ByteArray), (⟨#[4, 56, 219]⟩ : ByteArray), 3, 3, false)) else (if a0 = 2 then (some ((⟨#[98, 114, 111, 97, 100, 45, 115, 109, 97, 108, 108]⟩ : ByteArray), (⟨#[2, 122, 161, 225, 67]⟩ : ByteArray), (⟨#[150, 3, 193]⟩ : ByteArray), (⟨#[4]⟩ : ByteArray), (⟨#[4]⟩ : ByteArray), (⟨#[4]⟩ : ByteArray), 5, 3, true)) else (if a0 = 3 then (some ((⟨#[110, 97, 114, 114, 111, 119]⟩ : ByteArray), (⟨#[48, 100, 78, 114, 225, 49, 160, 41, 184, 80, 69, 182, 129, 129, 88, 93, 151, 129, 106, 145, 104, 113, 202, 141, 60, 32, 140, 22, 216, 124, 253, 71]⟩ : ByteArray), (⟨#[48, 100, 78, 114, 225, 49, 160, 41, 184, 80, 69, 182, 129, 129, 88, 93, 40, 51, 232, 72, 121, 185, 112, 145, 67, 225, 245, 147, 240, 0, 0, 1]⟩ : ByteArray), (⟨#[3]⟩ : ByteArray), (⟨#[43, 20, 157, 64, 206, 184, 170, 174, 129, 190, 24, 153, 27, 224, 106, 195, 181, 180, 197, 229, 89, 219, 239, 163, 50, 103, 230, 220, 36, 161, 56, 229]⟩ : ByteArray), (⟨#[151, 19, 176, 58, 240, 254, 212, 205, 44, 175, 173, 238, 216, 253, 244, 167, 79, 160, 132, 229, 45, 24, 82, 228, 162, 189, 6, 133, 195, 21, 210]⟩ : ByteArray), 32, 32, false)) else (if a0 = 4 then (some ((⟨#[98, 114, 111, 97, 100]⟩ : ByteArray), (⟨#[26, 1, 17, 234, 57, 127, 230, 154, 75, 27, 167, 182, 67, 75, 172, 215, 100, 119, 75, 132, 243, 133, 18, 191, 103, 48, 210, 160, 246, 176, 246, 36, 30, 171, 255, 254, 177, 83, 255, 255, 185, 254, 255, 255, 255, 255, 170, 171]⟩ : ByteArray), (⟨#[115, 237, 167, 83, 41, 157, 125, 72, 51, 57, 216, 8, 9, 161, 216, 5, 83, 189, 164, 2, 255, 254, 91, 254, 255, 255, 255, 255, 0, 0, 0, 1]⟩ : ByteArray), (⟨#[4]⟩ : ByteArray), (⟨#[4]⟩ : ByteArray), (⟨#[4]⟩ : ByteArray), 48, 32, true)) else (some ((⟨#[]⟩ : ByteArray), (⟨#[]⟩ : ByteArray), (⟨#[]⟩ : ByteArray), (⟨#[]⟩ : ByteArray), (⟨#[]⟩ : ByteArray), (⟨#[]⟩ : ByteArray), 0, 0, false)))))) = some (r1, r2, r3, r4, r5, r6, r7, r8, r9) := h
  clear h
  by_cases c2 : a0 = 1
  · rw [if_pos c2] at H
    have c2b0 : (a0 == 1) = true := beq_iff_eq.mpr c2
    have c2b1 : (a0 != 1) = false := bne_eq_false_iff_eq.mpr c2
    clear c2
    simp only [Option.some.injEq, Prod.mk.injEq] at H
    obtain ⟨rfl, rfl, rfl, rfl, rfl, rfl, rfl, rfl, rfl⟩ := H
    go_enter Try.func90, Try.ntmps90
    go_wp2_with (first | ((with_reducible refine gate_dst (N := 2) rfl ?_); refine box_event ?hg (N := 2) ?hd (cs := #[.string (⟨#[]⟩ : ByteArray), .string (⟨#[]⟩ : ByteArray), .string (⟨#[]⟩ : ByteArray), .string (⟨#[]⟩ : ByteArray), .string (⟨#[]⟩ : ByteArray), .string (⟨#[]⟩ : ByteArray), .int .i64 0, .int .i64 0, .bool false]) (t := 60) ?hr ?_; (case hd => rfl); (case hg => rfl); (case hr => first | (go_simp; done) | (go_simp; rfl)); intro gb340 hg w3 hbox hb; have BK340 := Aside0.mk (hbox); have GW340 := Aside0.mk ((by rw [hg]; exact (below_size (pB_ HB.out)) : w.heap.size ≤ gb340)); have GE340 := Aside0.mk ((by rw [hg]; exact (below_size (pB_ HB.out)) : w.heap.size ≤ gb340)); replace HB := Aside0.mk (below_step (pB_ HB.out) hb); clear hb hbox hg; have hcz4_0 : w3.cell? ⟨gb340, 0, none⟩ = some (.string (⟨#[]⟩ : ByteArray)) := (blk_cell BK340.out 0).trans rfl; have hcz4_1 : w3.cell? ⟨gb340, 1, none⟩ = some (.string (⟨#[]⟩ : ByteArray)) := (blk_cell BK340.out 1).trans rfl; have hcz4_2 : w3.cell? ⟨gb340, 2, none⟩ = some (.string (⟨#[]⟩ : ByteArray)) := (blk_cell BK340.out 2).trans rfl; have hcz4_3 : w3.cell? ⟨gb340, 3, none⟩ = some (.string (⟨#[]⟩ : ByteArray)) := (blk_cell BK340.out 3).trans rfl; have hcz4_4 : w3.cell? ⟨gb340, 4, none⟩ = some (.string (⟨#[]⟩ : ByteArray)) := (blk_cell BK340.out 4).trans rfl; have hcz4_5 : w3.cell? ⟨gb340, 5, none⟩ = some (.string (⟨#[]⟩ : ByteArray)) := (blk_cell BK340.out 5).trans rfl; have hcz4_6 : w3.cell? ⟨gb340, 6, none⟩ = some (.int .i64 0) := (blk_cell BK340.out 6).trans rfl; have hcz4_7 : w3.cell? ⟨gb340, 7, none⟩ = some (.int .i64 0) := (blk_cell BK340.out 7).trans rfl; have hcz4_8 : w3.cell? ⟨gb340, 8, none⟩ = some (.bool false) := (blk_cell BK340.out 8).trans rfl; have hfz4_0 := blk_frozen BK340.out 0; have hfz4_1 := blk_frozen BK340.out 1; have hfz4_2 := blk_frozen BK340.out 2; have hfz4_3 := blk_frozen BK340.out 3; have hfz4_4 := blk_frozen BK340.out 4; have hfz4_5 := blk_frozen BK340.out 5; have hfz4_6 := blk_frozen BK340.out 6; have hfz4_7 := blk_frozen BK340.out 7; have hfz4_8 := blk_frozen BK340.out 8))
    refine bodyPost_ret (results_cell_row rfl _ _ gb340 60 #[.string (⟨#[110, 97, 114, 114, 111, 119, 45, 115, 109, 97, 108, 108]⟩ : ByteArray), .string (⟨#[26, 9, 71]⟩ : ByteArray), .string (⟨#[26, 4, 1]⟩ : ByteArray), .string (⟨#[3]⟩ : ByteArray), .string (⟨#[180, 37]⟩ : ByteArray), .string (⟨#[4, 56, 219]⟩ : ByteArray), .int .i64 3, .int .i64 3, .bool false] (0, 0) _ rfl (by (with_reducible repeat (first | refine blk_drewN ?_ _ | refine blk_drew ?_ | refine blk_alloc ?_ _)); refine blk_put (cs := #[.string (⟨#[110, 97, 114, 114, 111, 119, 45, 115, 109, 97, 108, 108]⟩ : ByteArray), .string (⟨#[26, 9, 71]⟩ : ByteArray), .string (⟨#[26, 4, 1]⟩ : ByteArray), .string (⟨#[3]⟩ : ByteArray), .string (⟨#[180, 37]⟩ : ByteArray), .string (⟨#[4, 56, 219]⟩ : ByteArray), .int .i64 3, .int .i64 3, .bool false]) ?_ 8 _ rfl; (with_reducible repeat (first | refine blk_drewN ?_ _ | refine blk_drew ?_ | refine blk_alloc ?_ _)); refine blk_put (cs := #[.string (⟨#[110, 97, 114, 114, 111, 119, 45, 115, 109, 97, 108, 108]⟩ : ByteArray), .string (⟨#[26, 9, 71]⟩ : ByteArray), .string (⟨#[26, 4, 1]⟩ : ByteArray), .string (⟨#[3]⟩ : ByteArray), .string (⟨#[180, 37]⟩ : ByteArray), .string (⟨#[4, 56, 219]⟩ : ByteArray), .int .i64 3, .int .i64 0, .bool false]) ?_ 7 _ rfl; (with_reducible repeat (first | refine blk_drewN ?_ _ | refine blk_drew ?_ | refine blk_alloc ?_ _)); refine blk_put (cs := #[.string (⟨#[110, 97, 114, 114, 111, 119, 45, 115, 109, 97, 108, 108]⟩ : ByteArray), .string (⟨#[26, 9, 71]⟩ : ByteArray), .string (⟨#[26, 4, 1]⟩ : ByteArray), .string (⟨#[3]⟩ : ByteArray), .string (⟨#[180, 37]⟩ : ByteArray), .string (⟨#[4, 56, 219]⟩ : ByteArray), .int .i64 0, .int .i64 0, .bool false]) ?_ 6 _ rfl; (with_reducible repeat (first | refine blk_drewN ?_ _ | refine blk_drew ?_ | refine blk_alloc ?_ _)); refine blk_put (cs := #[.string (⟨#[110, 97, 114, 114, 111, 119, 45, 115, 109, 97, 108, 108]⟩ : ByteArray), .string (⟨#[26, 9, 71]⟩ : ByteArray), .string (⟨#[26, 4, 1]⟩ : ByteArray), .string (⟨#[3]⟩ : ByteArray), .string (⟨#[180, 37]⟩ : ByteArray), .string (⟨#[]⟩ : ByteArray), .int .i64 0, .int .i64 0, .bool false]) ?_ 5 _ rfl; (with_reducible repeat (first | refine blk_drewN ?_ _ | refine blk_drew ?_ | refine blk_alloc ?_ _)); refine blk_put (cs := #[.string (⟨#[110, 97, 114, 114, 111, 119, 45, 115, 109, 97, 108, 108]⟩ : ByteArray), .string (⟨#[26, 9, 71]⟩ : ByteArray), .string (⟨#[26, 4, 1]⟩ : ByteArray), .string (⟨#[3]⟩ : ByteArray), .string (⟨#[]⟩ : ByteArray), .string (⟨#[]⟩ : ByteArray), .int .i64 0, .int .i64 0, .bool false]) ?_ 4 _ rfl; (with_reducible repeat (first | refine blk_drewN ?_ _ | refine blk_drew ?_ | refine blk_alloc ?_ _)); refine blk_put (cs := #[.string (⟨#[110, 97, 114, 114, 111, 119, 45, 115, 109, 97, 108, 108]⟩ : ByteArray), .string (⟨#[26, 9, 71]⟩ : ByteArray), .string (⟨#[26, 4, 1]⟩ : ByteArray), .string (⟨#[]⟩ : ByteArray), .string (⟨#[]⟩ : ByteArray), .string (⟨#[]⟩ : ByteArray), .int .i64 0, .int .i64 0, .bool false]) ?_ 3 _ rfl; (with_reducible repeat (first | refine blk_drewN ?_ _ | refine blk_drew ?_ | refine blk_alloc ?_ _)); refine blk_put (cs := #[.string (⟨#[110, 97, 114, 114, 111, 119, 45, 115, 109, 97, 108, 108]⟩ : ByteArray), .string (⟨#[26, 9, 71]⟩ : ByteArray), .string (⟨#[]⟩ : ByteArray), .string (⟨#[]⟩ : ByteArray), .string (⟨#[]⟩ : ByteArray), .string (⟨#[]⟩ : ByteArray), .int .i64 0, .int .i64 0, .bool false]) ?_ 2 _ rfl; (with_reducible repeat (first | refine blk_drewN ?_ _ | refine blk_drew ?_ | refine blk_alloc ?_ _)); refine blk_put (cs := #[.string (⟨#[110, 97, 114, 114, 111, 119, 45, 115, 109, 97, 108, 108]⟩ : ByteArray), .string (⟨#[]⟩ : ByteArray), .string (⟨#[]⟩ : ByteArray), .string (⟨#[]⟩ : ByteArray), .string (⟨#[]⟩ : ByteArray), .string (⟨#[]⟩ : ByteArray), .int .i64 0, .int .i64 0, .bool false]) ?_ 1 _ rfl; (with_reducible repeat (first | refine blk_drewN ?_ _ | refine blk_drew ?_ | refine blk_alloc ?_ _)); refine blk_put (cs := #[.string (⟨#[]⟩ : ByteArray), .string (⟨#[]⟩ : ByteArray), .string (⟨#[]⟩ : ByteArray), .string (⟨#[]⟩ : ByteArray), .string (⟨#[]⟩ : ByteArray), .string (⟨#[]⟩ : ByteArray), .int .i64 0, .int .i64 0, .bool false]) ?_ 0 _ rfl; (with_reducible repeat (first | refine blk_drewN ?_ _ | refine blk_drew ?_ | refine blk_alloc ?_ _)); exact BK340.out) Try.underlying60 rfl (by kernel_rfl)) rfl ?_
    exact ⟨by first | rfl | (simp [errW_none, errW_some] <;> rfl) | (simp [*, errW_none, errW_some] <;> rfl), by repeat (first | (with_reducible first | exact HB.out | apply below_alloc | apply pw_below_drewN | apply below_drew1 | refine below_set ?_ GE340.out) | exact HB.out)⟩
  rw [if_neg c2] at H
  have c2b0 : (a0 == 1) = false := beq_eq_false_iff_ne.mpr c2
  have c2b1 : (a0 != 1) = true := bne_iff_ne.mpr c2
  by_cases c5 : a0 = 2
  · rw [if_pos c5] at H
    have c5b0 : (a0 == 2) = true := beq_iff_eq.mpr c5
    have c5b1 : (a0 != 2) = false := bne_eq_false_iff_eq.mpr c5
    clear c5
    simp only [Option.some.injEq, Prod.mk.injEq] at H
    obtain ⟨rfl, rfl, rfl, rfl, rfl, rfl, rfl, rfl, rfl⟩ := H
    go_enter Try.func90, Try.ntmps90
    go_wp2_with (first | ((with_reducible refine gate_dst (N := 2) rfl ?_); refine box_event ?hg (N := 2) ?hd (cs := #[.string (⟨#[]⟩ : ByteArray), .string (⟨#[]⟩ : ByteArray), .string (⟨#[]⟩ : ByteArray), .string (⟨#[]⟩ : ByteArray), .string (⟨#[]⟩ : ByteArray), .string (⟨#[]⟩ : ByteArray), .int .i64 0, .int .i64 0, .bool false]) (t := 60) ?hr ?_; (case hd => rfl); (case hg => rfl); (case hr => first | (go_simp; done) | (go_simp; rfl)); intro gb340 hg w6 hbox hb; have BK340 := Aside0.mk (hbox); have GW340 := Aside0.mk ((by rw [hg]; exact (below_size (pB_ HB.out)) : w.heap.size ≤ gb340)); have GE340 := Aside0.mk ((by rw [hg]; exact (below_size (pB_ HB.out)) : w.heap.size ≤ gb340)); replace HB := Aside0.mk (below_step (pB_ HB.out) hb); clear hb hbox hg; have hcz7_0 : w6.cell? ⟨gb340, 0, none⟩ = some (.string (⟨#[]⟩ : ByteArray)) := (blk_cell BK340.out 0).trans rfl; have hcz7_1 : w6.cell? ⟨gb340, 1, none⟩ = some (.string (⟨#[]⟩ : ByteArray)) := (blk_cell BK340.out 1).trans rfl; have hcz7_2 : w6.cell? ⟨gb340, 2, none⟩ = some (.string (⟨#[]⟩ : ByteArray)) := (blk_cell BK340.out 2).trans rfl; have hcz7_3 : w6.cell? ⟨gb340, 3, none⟩ = some (.string (⟨#[]⟩ : ByteArray)) := (blk_cell BK340.out 3).trans rfl; have hcz7_4 : w6.cell? ⟨gb340, 4, none⟩ = some (.string (⟨#[]⟩ : ByteArray)) := (blk_cell BK340.out 4).trans rfl; have hcz7_5 : w6.cell? ⟨gb340, 5, none⟩ = some (.string (⟨#[]⟩ : ByteArray)) := (blk_cell BK340.out 5).trans rfl; have hcz7_6 : w6.cell? ⟨gb340, 6, none⟩ = some (.int .i64 0) := (blk_cell BK340.out 6).trans rfl; have hcz7_7 : w6.cell? ⟨gb340, 7, none⟩ = some (.int .i64 0) := (blk_cell BK340.out 7).trans rfl; have hcz7_8 : w6.cell? ⟨gb340, 8, none⟩ = some (.bool false) := (blk_cell BK340.out 8).trans rfl; have hfz7_0 := blk_frozen BK340.out 0; have hfz7_1 := blk_frozen BK340.out 1; have hfz7_2 := blk_frozen BK340.out 2; have hfz7_3 := blk_frozen BK340.out 3; have hfz7_4 := blk_frozen BK340.out 4; have hfz7_5 := blk_frozen BK340.out 5; have hfz7_6 := blk_frozen BK340.out 6; have hfz7_7 := blk_frozen BK340.out 7; have hfz7_8 := blk_frozen BK340.out 8))
    refine bodyPost_ret (results_cell_row rfl _ _ gb340 60 #[.string (⟨#[98, 114, 111, 97, 100, 45, 115, 109, 97, 108, 108]⟩ : ByteArray), .string (⟨#[2, 122, 161, 225, 67]⟩ : ByteArray), .string (⟨#[150, 3, 193]⟩ : ByteArray), .string (⟨#[4]⟩ : ByteArray), .string (⟨#[4]⟩ : ByteArray), .string (⟨#[4]⟩ : ByteArray), .int .i64 5, .int .i64 3, .bool true] (0, 0) _ rfl (by (with_reducible repeat (first | refine blk_drewN ?_ _ | refine blk_drew ?_ | refine blk_alloc ?_ _)); refine blk_put (cs := #[.string (⟨#[98, 114, 111, 97, 100, 45, 115, 109, 97, 108, 108]⟩ : ByteArray), .string (⟨#[2, 122, 161, 225, 67]⟩ : ByteArray), .string (⟨#[150, 3, 193]⟩ : ByteArray), .string (⟨#[4]⟩ : ByteArray), .string (⟨#[4]⟩ : ByteArray), .string (⟨#[4]⟩ : ByteArray), .int .i64 5, .int .i64 3, .bool false]) ?_ 8 _ rfl; (with_reducible repeat (first | refine blk_drewN ?_ _ | refine blk_drew ?_ | refine blk_alloc ?_ _)); refine blk_put (cs := #[.string (⟨#[98, 114, 111, 97, 100, 45, 115, 109, 97, 108, 108]⟩ : ByteArray), .string (⟨#[2, 122, 161, 225, 67]⟩ : ByteArray), .string (⟨#[150, 3, 193]⟩ : ByteArray), .string (⟨#[4]⟩ : ByteArray), .string (⟨#[4]⟩ : ByteArray), .string (⟨#[4]⟩ : ByteArray), .int .i64 5, .int .i64 0, .bool false]) ?_ 7 _ rfl; (with_reducible repeat (first | refine blk_drewN ?_ _ | refine blk_drew ?_ | refine blk_alloc ?_ _)); refine blk_put (cs := #[.string (⟨#[98, 114, 111, 97, 100, 45, 115, 109, 97, 108, 108]⟩ : ByteArray), .string (⟨#[2, 122, 161, 225, 67]⟩ : ByteArray), .string (⟨#[150, 3, 193]⟩ : ByteArray), .string (⟨#[4]⟩ : ByteArray), .string (⟨#[4]⟩ : ByteArray), .string (⟨#[4]⟩ : ByteArray), .int .i64 0, .int .i64 0, .bool false]) ?_ 6 _ rfl; (with_reducible repeat (first | refine blk_drewN ?_ _ | refine blk_drew ?_ | refine blk_alloc ?_ _)); refine blk_put (cs := #[.string (⟨#[98, 114, 111, 97, 100, 45, 115, 109, 97, 108, 108]⟩ : ByteArray), .string (⟨#[2, 122, 161, 225, 67]⟩ : ByteArray), .string (⟨#[150, 3, 193]⟩ : ByteArray), .string (⟨#[4]⟩ : ByteArray), .string (⟨#[4]⟩ : ByteArray), .string (⟨#[]⟩ : ByteArray), .int .i64 0, .int .i64 0, .bool false]) ?_ 5 _ rfl; (with_reducible repeat (first | refine blk_drewN ?_ _ | refine blk_drew ?_ | refine blk_alloc ?_ _)); refine blk_put (cs := #[.string (⟨#[98, 114, 111, 97, 100, 45, 115, 109, 97, 108, 108]⟩ : ByteArray), .string (⟨#[2, 122, 161, 225, 67]⟩ : ByteArray), .string (⟨#[150, 3, 193]⟩ : ByteArray), .string (⟨#[4]⟩ : ByteArray), .string (⟨#[]⟩ : ByteArray), .string (⟨#[]⟩ : ByteArray), .int .i64 0, .int .i64 0, .bool false]) ?_ 4 _ rfl; (with_reducible repeat (first | refine blk_drewN ?_ _ | refine blk_drew ?_ | refine blk_alloc ?_ _)); refine blk_put (cs := #[.string (⟨#[98, 114, 111, 97, 100, 45, 115, 109, 97, 108, 108]⟩ : ByteArray), .string (⟨#[2, 122, 161, 225, 67]⟩ : ByteArray), .string (⟨#[150, 3, 193]⟩ : ByteArray), .string (⟨#[]⟩ : ByteArray), .string (⟨#[]⟩ : ByteArray), .string (⟨#[]⟩ : ByteArray), .int .i64 0, .int .i64 0, .bool false]) ?_ 3 _ rfl; (with_reducible repeat (first | refine blk_drewN ?_ _ | refine blk_drew ?_ | refine blk_alloc ?_ _)); refine blk_put (cs := #[.string (⟨#[98, 114, 111, 97, 100, 45, 115, 109, 97, 108, 108]⟩ : ByteArray), .string (⟨#[2, 122, 161, 225, 67]⟩ : ByteArray), .string (⟨#[]⟩ : ByteArray), .string (⟨#[]⟩ : ByteArray), .string (⟨#[]⟩ : ByteArray), .string (⟨#[]⟩ : ByteArray), .int .i64 0, .int .i64 0, .bool false]) ?_ 2 _ rfl; (with_reducible repeat (first | refine blk_drewN ?_ _ | refine blk_drew ?_ | refine blk_alloc ?_ _)); refine blk_put (cs := #[.string (⟨#[98, 114, 111, 97, 100, 45, 115, 109, 97, 108, 108]⟩ : ByteArray), .string (⟨#[]⟩ : ByteArray), .string (⟨#[]⟩ : ByteArray), .string (⟨#[]⟩ : ByteArray), .string (⟨#[]⟩ : ByteArray), .string (⟨#[]⟩ : ByteArray), .int .i64 0, .int .i64 0, .bool false]) ?_ 1 _ rfl; (with_reducible repeat (first | refine blk_drewN ?_ _ | refine blk_drew ?_ | refine blk_alloc ?_ _)); refine blk_put (cs := #[.string (⟨#[]⟩ : ByteArray), .string (⟨#[]⟩ : ByteArray), .string (⟨#[]⟩ : ByteArray), .string (⟨#[]⟩ : ByteArray), .string (⟨#[]⟩ : ByteArray), .string (⟨#[]⟩ : ByteArray), .int .i64 0, .int .i64 0, .bool false]) ?_ 0 _ rfl; (with_reducible repeat (first | refine blk_drewN ?_ _ | refine blk_drew ?_ | refine blk_alloc ?_ _)); exact BK340.out) Try.underlying60 rfl (by kernel_rfl)) rfl ?_
    exact ⟨by first | rfl | (simp [errW_none, errW_some] <;> rfl) | (simp [*, errW_none, errW_some] <;> rfl), by repeat (first | (with_reducible first | exact HB.out | apply below_alloc | apply pw_below_drewN | apply below_drew1 | refine below_set ?_ GE340.out) | exact HB.out)⟩
  rw [if_neg c5] at H
  have c5b0 : (a0 == 2) = false := beq_eq_false_iff_ne.mpr c5
  have c5b1 : (a0 != 2) = true := bne_iff_ne.mpr c5
  by_cases c8 : a0 = 3
  · rw [if_pos c8] at H
    have c8b0 : (a0 == 3) = true := beq_iff_eq.mpr c8
    have c8b1 : (a0 != 3) = false := bne_eq_false_iff_eq.mpr c8
    clear c8
    simp only [Option.some.injEq, Prod.mk.injEq] at H
    obtain ⟨rfl, rfl, rfl, rfl, rfl, rfl, rfl, rfl, rfl⟩ := H
    go_enter Try.func90, Try.ntmps90
    go_wp2_with (first | ((with_reducible refine gate_dst (N := 2) rfl ?_); refine box_event ?hg (N := 2) ?hd (cs := #[.string (⟨#[]⟩ : ByteArray), .string (⟨#[]⟩ : ByteArray), .string (⟨#[]⟩ : ByteArray), .string (⟨#[]⟩ : ByteArray), .string (⟨#[]⟩ : ByteArray), .string (⟨#[]⟩ : ByteArray), .int .i64 0, .int .i64 0, .bool false]) (t := 60) ?hr ?_; (case hd => rfl); (case hg => rfl); (case hr => first | (go_simp; done) | (go_simp; rfl)); intro gb340 hg w9 hbox hb; have BK340 := Aside0.mk (hbox); have GW340 := Aside0.mk ((by rw [hg]; exact (below_size (pB_ HB.out)) : w.heap.size ≤ gb340)); have GE340 := Aside0.mk ((by rw [hg]; exact (below_size (pB_ HB.out)) : w.heap.size ≤ gb340)); replace HB := Aside0.mk (below_step (pB_ HB.out) hb); clear hb hbox hg; have hcz10_0 : w9.cell? ⟨gb340, 0, none⟩ = some (.string (⟨#[]⟩ : ByteArray)) := (blk_cell BK340.out 0).trans rfl; have hcz10_1 : w9.cell? ⟨gb340, 1, none⟩ = some (.string (⟨#[]⟩ : ByteArray)) := (blk_cell BK340.out 1).trans rfl; have hcz10_2 : w9.cell? ⟨gb340, 2, none⟩ = some (.string (⟨#[]⟩ : ByteArray)) := (blk_cell BK340.out 2).trans rfl; have hcz10_3 : w9.cell? ⟨gb340, 3, none⟩ = some (.string (⟨#[]⟩ : ByteArray)) := (blk_cell BK340.out 3).trans rfl; have hcz10_4 : w9.cell? ⟨gb340, 4, none⟩ = some (.string (⟨#[]⟩ : ByteArray)) := (blk_cell BK340.out 4).trans rfl; have hcz10_5 : w9.cell? ⟨gb340, 5, none⟩ = some (.string (⟨#[]⟩ : ByteArray)) := (blk_cell BK340.out 5).trans rfl; have hcz10_6 : w9.cell? ⟨gb340, 6, none⟩ = some (.int .i64 0) := (blk_cell BK340.out 6).trans rfl; have hcz10_7 : w9.cell? ⟨gb340, 7, none⟩ = some (.int .i64 0) := (blk_cell BK340.out 7).trans rfl; have hcz10_8 : w9.cell? ⟨gb340, 8, none⟩ = some (.bool false) := (blk_cell BK340.out 8).trans rfl; have hfz10_0 := blk_frozen BK340.out 0; have hfz10_1 := blk_frozen BK340.out 1; have hfz10_2 := blk_frozen BK340.out 2; have hfz10_3 := blk_frozen BK340.out 3; have hfz10_4 := blk_frozen BK340.out 4; have hfz10_5 := blk_frozen BK340.out 5; have hfz10_6 := blk_frozen BK340.out 6; have hfz10_7 := blk_frozen BK340.out 7; have hfz10_8 := blk_frozen BK340.out 8))
    refine bodyPost_ret (results_cell_row rfl _ _ gb340 60 #[.string (⟨#[110, 97, 114, 114, 111, 119]⟩ : ByteArray), .string (⟨#[48, 100, 78, 114, 225, 49, 160, 41, 184, 80, 69, 182, 129, 129, 88, 93, 151, 129, 106, 145, 104, 113, 202, 141, 60, 32, 140, 22, 216, 124, 253, 71]⟩ : ByteArray), .string (⟨#[48, 100, 78, 114, 225, 49, 160, 41, 184, 80, 69, 182, 129, 129, 88, 93, 40, 51, 232, 72, 121, 185, 112, 145, 67, 225, 245, 147, 240, 0, 0, 1]⟩ : ByteArray), .string (⟨#[3]⟩ : ByteArray), .string (⟨#[43, 20, 157, 64, 206, 184, 170, 174, 129, 190, 24, 153, 27, 224, 106, 195, 181, 180, 197, 229, 89, 219, 239, 163, 50, 103, 230, 220, 36, 161, 56, 229]⟩ : ByteArray), .string (⟨#[151, 19, 176, 58, 240, 254, 212, 205, 44, 175, 173, 238, 216, 253, 244, 167, 79, 160, 132, 229, 45, 24, 82, 228, 162, 189, 6, 133, 195, 21, 210]⟩ : ByteArray), .int .i64 32, .int .i64 32, .bool false] (0, 0) _ rfl (by (with_reducible repeat (first | refine blk_drewN ?_ _ | refine blk_drew ?_ | refine blk_alloc ?_ _)); refine blk_put (cs := #[.string (⟨#[110, 97, 114, 114, 111, 119]⟩ : ByteArray), .string (⟨#[48, 100, 78, 114, 225, 49, 160, 41, 184, 80, 69, 182, 129, 129, 88, 93, 151, 129, 106, 145, 104, 113, 202, 141, 60, 32, 140, 22, 216, 124, 253, 71]⟩ : ByteArray), .string (⟨#[48, 100, 78, 114, 225, 49, 160, 41, 184, 80, 69, 182, 129, 129, 88, 93, 40, 51, 232, 72, 121, 185, 112, 145, 67, 225, 245, 147, 240, 0, 0, 1]⟩ : ByteArray), .string (⟨#[3]⟩ : ByteArray), .string (⟨#[43, 20, 157, 64, 206, 184, 170, 174, 129, 190, 24, 153, 27, 224, 106, 195, 181, 180, 197, 229, 89, 219, 239, 163, 50, 103, 230, 220, 36, 161, 56, 229]⟩ : ByteArray), .string (⟨#[151, 19, 176, 58, 240, 254, 212, 205, 44, 175, 173, 238, 216, 253, 244, 167, 79, 160, 132, 229, 45, 24, 82, 228, 162, 189, 6, 133, 195, 21, 210]⟩ : ByteArray), .int .i64 32, .int .i64 32, .bool false]) ?_ 8 _ rfl; (with_reducible repeat (first | refine blk_drewN ?_ _ | refine blk_drew ?_ | refine blk_alloc ?_ _)); refine blk_put (cs := #[.string (⟨#[110, 97, 114, 114, 111, 119]⟩ : ByteArray), .string (⟨#[48, 100, 78, 114, 225, 49, 160, 41, 184, 80, 69, 182, 129, 129, 88, 93, 151, 129, 106, 145, 104, 113, 202, 141, 60, 32, 140, 22, 216, 124, 253, 71]⟩ : ByteArray), .string (⟨#[48, 100, 78, 114, 225, 49, 160, 41, 184, 80, 69, 182, 129, 129, 88, 93, 40, 51, 232, 72, 121, 185, 112, 145, 67, 225, 245, 147, 240, 0, 0, 1]⟩ : ByteArray), .string (⟨#[3]⟩ : ByteArray), .string (⟨#[43, 20, 157, 64, 206, 184, 170, 174, 129, 190, 24, 153, 27, 224, 106, 195, 181, 180, 197, 229, 89, 219, 239, 163, 50, 103, 230, 220, 36, 161, 56, 229]⟩ : ByteArray), .string (⟨#[151, 19, 176, 58, 240, 254, 212, 205, 44, 175, 173, 238, 216, 253, 244, 167, 79, 160, 132, 229, 45, 24, 82, 228, 162, 189, 6, 133, 195, 21, 210]⟩ : ByteArray), .int .i64 32, .int .i64 0, .bool false]) ?_ 7 _ rfl; (with_reducible repeat (first | refine blk_drewN ?_ _ | refine blk_drew ?_ | refine blk_alloc ?_ _)); refine blk_put (cs := #[.string (⟨#[110, 97, 114, 114, 111, 119]⟩ : ByteArray), .string (⟨#[48, 100, 78, 114, 225, 49, 160, 41, 184, 80, 69, 182, 129, 129, 88, 93, 151, 129, 106, 145, 104, 113, 202, 141, 60, 32, 140, 22, 216, 124, 253, 71]⟩ : ByteArray), .string (⟨#[48, 100, 78, 114, 225, 49, 160, 41, 184, 80, 69, 182, 129, 129, 88, 93, 40, 51, 232, 72, 121, 185, 112, 145, 67, 225, 245, 147, 240, 0, 0, 1]⟩ : ByteArray), .string (⟨#[3]⟩ : ByteArray), .string (⟨#[43, 20, 157, 64, 206, 184, 170, 174, 129, 190, 24, 153, 27, 224, 106, 195, 181, 180, 197, 229, 89, 219, 239, 163, 50, 103, 230, 220, 36, 161, 56, 229]⟩ : ByteArray), .string (⟨#[151, 19, 176, 58, 240, 254, 212, 205, 44, 175, 173, 238, 216, 253, 244, 167, 79, 160, 132, 229, 45, 24, 82, 228, 162, 189, 6, 133, 195, 21, 210]⟩ : ByteArray), .int .i64 0, .int .i64 0, .bool false]) ?_ 6 _ rfl; (with_reducible repeat (first | refine blk_drewN ?_ _ | refine blk_drew ?_ | refine blk_alloc ?_ _)); refine blk_put (cs := #[.string (⟨#[110, 97, 114, 114, 111, 119]⟩ : ByteArray), .string (⟨#[48, 100, 78, 114, 225, 49, 160, 41, 184, 80, 69, 182, 129, 129, 88, 93, 151, 129, 106, 145, 104, 113, 202, 141, 60, 32, 140, 22, 216, 124, 253, 71]⟩ : ByteArray), .string (⟨#[48, 100, 78, 114, 225, 49, 160, 41, 184, 80, 69, 182, 129, 129, 88, 93, 40, 51, 232, 72, 121, 185, 112, 145, 67, 225, 245, 147, 240, 0, 0, 1]⟩ : ByteArray), .string (⟨#[3]⟩ : ByteArray), .string (⟨#[43, 20, 157, 64, 206, 184, 170, 174, 129, 190, 24, 153, 27, 224, 106, 195, 181, 180, 197, 229, 89, 219, 239, 163, 50, 103, 230, 220, 36, 161, 56, 229]⟩ : ByteArray), .string (⟨#[]⟩ : ByteArray), .int .i64 0, .int .i64 0, .bool false]) ?_ 5 _ rfl; (with_reducible repeat (first | refine blk_drewN ?_ _ | refine blk_drew ?_ | refine blk_alloc ?_ _)); refine blk_put (cs := #[.string (⟨#[110, 97, 114, 114, 111, 119]⟩ : ByteArray), .string (⟨#[48, 100, 78, 114, 225, 49, 160, 41, 184, 80, 69, 182, 129, 129, 88, 93, 151, 129, 106, 145, 104, 113, 202, 141, 60, 32, 140, 22, 216, 124, 253, 71]⟩ : ByteArray), .string (⟨#[48, 100, 78, 114, 225, 49, 160, 41, 184, 80, 69, 182, 129, 129, 88, 93, 40, 51, 232, 72, 121, 185, 112, 145, 67, 225, 245, 147, 240, 0, 0, 1]⟩ : ByteArray), .string (⟨#[3]⟩ : ByteArray), .string (⟨#[]⟩ : ByteArray), .string (⟨#[]⟩ : ByteArray), .int .i64 0, .int .i64 0, .bool false]) ?_ 4 _ rfl; (with_reducible repeat (first | refine blk_drewN ?_ _ | refine blk_drew ?_ | refine blk_alloc ?_ _)); refine blk_put (cs := #[.string (⟨#[110, 97, 114, 114, 111, 119]⟩ : ByteArray), .string (⟨#[48, 100, 78, 114, 225, 49, 160, 41, 184, 80, 69, 182, 129, 129, 88, 93, 151, 129, 106, 145, 104, 113, 202, 141, 60, 32, 140, 22, 216, 124, 253, 71]⟩ : ByteArray), .string (⟨#[48, 100, 78, 114, 225, 49, 160, 41, 184, 80, 69, 182, 129, 129, 88, 93, 40, 51, 232, 72, 121, 185, 112, 145, 67, 225, 245, 147, 240, 0, 0, 1]⟩ : ByteArray), .string (⟨#[]⟩ : ByteArray), .string (⟨#[]⟩ : ByteArray), .string (⟨#[]⟩ : ByteArray), .int .i64 0, .int .i64 0, .bool false]) ?_ 3 _ rfl; (with_reducible repeat (first | refine blk_drewN ?_ _ | refine blk_drew ?_ | refine blk_alloc ?_ _)); refine blk_put (cs := #[.string (⟨#[110, 97, 114, 114, 111, 119]⟩ : ByteArray), .string (⟨#[48, 100, 78, 114, 225, 49, 160, 41, 184, 80, 69, 182, 129, 129, 88, 93, 151, 129, 106, 145, 104, 113, 202, 141, 60, 32, 140, 22, 216, 124, 253, 71]⟩ : ByteArray), .string (⟨#[]⟩ : ByteArray), .string (⟨#[]⟩ : ByteArray), .string (⟨#[]⟩ : ByteArray), .string (⟨#[]⟩ : ByteArray), .int .i64 0, .int .i64 0, .bool false]) ?_ 2 _ rfl; (with_reducible repeat (first | refine blk_drewN ?_ _ | refine blk_drew ?_ | refine blk_alloc ?_ _)); refine blk_put (cs := #[.string (⟨#[110, 97, 114, 114, 111, 119]⟩ : ByteArray), .string (⟨#[]⟩ : ByteArray), .string (⟨#[]⟩ : ByteArray), .string (⟨#[]⟩ : ByteArray), .string (⟨#[]⟩ : ByteArray), .string (⟨#[]⟩ : ByteArray), .int .i64 0, .int .i64 0, .bool false]) ?_ 1 _ rfl; (with_reducible repeat (first | refine blk_drewN ?_ _ | refine blk_drew ?_ | refine blk_alloc ?_ _)); refine blk_put (cs := #[.string (⟨#[]⟩ : ByteArray), .string (⟨#[]⟩ : ByteArray), .string (⟨#[]⟩ : ByteArray), .string (⟨#[]⟩ : ByteArray), .string (⟨#[]⟩ : ByteArray), .string (⟨#[]⟩ : ByteArray), .int .i64 0, .int .i64 0, .bool false]) ?_ 0 _ rfl; (with_reducible repeat (first | refine blk_drewN ?_ _ | refine blk_drew ?_ | refine blk_alloc ?_ _)); exact BK340.out) Try.underlying60 rfl (by kernel_rfl)) rfl ?_
    exact ⟨by first | rfl | (simp [errW_none, errW_some] <;> rfl) | (simp [*, errW_none, errW_some] <;> rfl), by repeat (first | (with_reducible first | exact HB.out | apply below_alloc | apply pw_below_drewN | apply below_drew1 | refine below_set ?_ GE340.out) | exact HB.out)⟩
  rw [if_neg c8] at H
  have c8b0 : (a0 == 3) = false := beq_eq_false_iff_ne.mpr c8
  have c8b1 : (a0 != 3) = true := bne_iff_ne.mpr c8
  by_cases c11 : a0 = 4
  rotate_left
  · rw [if_neg c11] at H
    have c11b0 : (a0 == 4) = false := beq_eq_false_iff_ne.mpr c11
    have c11b1 : (a0 != 4) = true := bne_iff_ne.mpr c11
    simp only [Option.some.injEq, Prod.mk.injEq] at H
    obtain ⟨rfl, rfl, rfl, rfl, rfl, rfl, rfl, rfl, rfl⟩ := H
    go_enter Try.func90, Try.ntmps90
    go_wp2_with (first | ((with_reducible refine gate_dst (N := 2) rfl ?_); refine box_event ?hg (N := 2) ?hd (cs := #[.string (⟨#[]⟩ : ByteArray), .string (⟨#[]⟩ : ByteArray), .string (⟨#[]⟩ : ByteArray), .string (⟨#[]⟩ : ByteArray), .string (⟨#[]⟩ : ByteArray), .string (⟨#[]⟩ : ByteArray), .int .i64 0, .int .i64 0, .bool false]) (t := 60) ?hr ?_; (case hd => rfl); (case hg => rfl); (case hr => first | (go_simp; done) | (go_simp; rfl)); intro gb340 hg w14 hbox hb; have BK340 := Aside0.mk (hbox); have GW340 := Aside0.mk ((by rw [hg]; exact (below_size (pB_ HB.out)) : w.heap.size ≤ gb340)); have GE340 := Aside0.mk ((by rw [hg]; exact (below_size (pB_ HB.out)) : w.heap.size ≤ gb340)); replace HB := Aside0.mk (below_step (pB_ HB.out) hb); clear hb hbox hg; have hcz15_0 : w14.cell? ⟨gb340, 0, none⟩ = some (.string (⟨#[]⟩ : ByteArray)) := (blk_cell BK340.out 0).trans rfl; have hcz15_1 : w14.cell? ⟨gb340, 1, none⟩ = some (.string (⟨#[]⟩ : ByteArray)) := (blk_cell BK340.out 1).trans rfl; have hcz15_2 : w14.cell? ⟨gb340, 2, none⟩ = some (.string (⟨#[]⟩ : ByteArray)) := (blk_cell BK340.out 2).trans rfl; have hcz15_3 : w14.cell? ⟨gb340, 3, none⟩ = some (.string (⟨#[]⟩ : ByteArray)) := (blk_cell BK340.out 3).trans rfl; have hcz15_4 : w14.cell? ⟨gb340, 4, none⟩ = some (.string (⟨#[]⟩ : ByteArray)) := (blk_cell BK340.out 4).trans rfl; have hcz15_5 : w14.cell? ⟨gb340, 5, none⟩ = some (.string (⟨#[]⟩ : ByteArray)) := (blk_cell BK340.out 5).trans rfl; have hcz15_6 : w14.cell? ⟨gb340, 6, none⟩ = some (.int .i64 0) := (blk_cell BK340.out 6).trans rfl; have hcz15_7 : w14.cell? ⟨gb340, 7, none⟩ = some (.int .i64 0) := (blk_cell BK340.out 7).trans rfl; have hcz15_8 : w14.cell? ⟨gb340, 8, none⟩ = some (.bool false) := (blk_cell BK340.out 8).trans rfl; have hfz15_0 := blk_frozen BK340.out 0; have hfz15_1 := blk_frozen BK340.out 1; have hfz15_2 := blk_frozen BK340.out 2; have hfz15_3 := blk_frozen BK340.out 3; have hfz15_4 := blk_frozen BK340.out 4; have hfz15_5 := blk_frozen BK340.out 5; have hfz15_6 := blk_frozen BK340.out 6; have hfz15_7 := blk_frozen BK340.out 7; have hfz15_8 := blk_frozen BK340.out 8))
    refine bodyPost_ret (results_cell_row rfl _ _ gb340 60 #[.string (⟨#[]⟩ : ByteArray), .string (⟨#[]⟩ : ByteArray), .string (⟨#[]⟩ : ByteArray), .string (⟨#[]⟩ : ByteArray), .string (⟨#[]⟩ : ByteArray), .string (⟨#[]⟩ : ByteArray), .int .i64 0, .int .i64 0, .bool false] (0, 0) _ rfl (by (with_reducible repeat (first | refine blk_drewN ?_ _ | refine blk_drew ?_ | refine blk_alloc ?_ _)); refine blk_put (cs := #[.string (⟨#[]⟩ : ByteArray), .string (⟨#[]⟩ : ByteArray), .string (⟨#[]⟩ : ByteArray), .string (⟨#[]⟩ : ByteArray), .string (⟨#[]⟩ : ByteArray), .string (⟨#[]⟩ : ByteArray), .int .i64 0, .int .i64 0, .bool false]) ?_ 8 _ rfl; (with_reducible repeat (first | refine blk_drewN ?_ _ | refine blk_drew ?_ | refine blk_alloc ?_ _)); refine blk_put (cs := #[.string (⟨#[]⟩ : ByteArray), .string (⟨#[]⟩ : ByteArray), .string (⟨#[]⟩ : ByteArray), .string (⟨#[]⟩ : ByteArray), .string (⟨#[]⟩ : ByteArray), .string (⟨#[]⟩ : ByteArray), .int .i64 0, .int .i64 0, .bool false]) ?_ 7 _ rfl; (with_reducible repeat (first | refine blk_drewN ?_ _ | refine blk_drew ?_ | refine blk_alloc ?_ _)); refine blk_put (cs := #[.string (⟨#[]⟩ : ByteArray), .string (⟨#[]⟩ : ByteArray), .string (⟨#[]⟩ : ByteArray), .string (⟨#[]⟩ : ByteArray), .string (⟨#[]⟩ : ByteArray), .string (⟨#[]⟩ : ByteArray), .int .i64 0, .int .i64 0, .bool false]) ?_ 6 _ rfl; (with_reducible repeat (first | refine blk_drewN ?_ _ | refine blk_drew ?_ | refine blk_alloc ?_ _)); refine blk_put (cs := #[.string (⟨#[]⟩ : ByteArray), .string (⟨#[]⟩ : ByteArray), .string (⟨#[]⟩ : ByteArray), .string (⟨#[]⟩ : ByteArray), .string (⟨#[]⟩ : ByteArray), .string (⟨#[]⟩ : ByteArray), .int .i64 0, .int .i64 0, .bool false]) ?_ 5 _ rfl; (with_reducible repeat (first | refine blk_drewN ?_ _ | refine blk_drew ?_ | refine blk_alloc ?_ _)); refine blk_put (cs := #[.string (⟨#[]⟩ : ByteArray), .string (⟨#[]⟩ : ByteArray), .string (⟨#[]⟩ : ByteArray), .string (⟨#[]⟩ : ByteArray), .string (⟨#[]⟩ : ByteArray), .string (⟨#[]⟩ : ByteArray), .int .i64 0, .int .i64 0, .bool false]) ?_ 4 _ rfl; (with_reducible repeat (first | refine blk_drewN ?_ _ | refine blk_drew ?_ | refine blk_alloc ?_ _)); refine blk_put (cs := #[.string (⟨#[]⟩ : ByteArray), .string (⟨#[]⟩ : ByteArray), .string (⟨#[]⟩ : ByteArray), .string (⟨#[]⟩ : ByteArray), .string (⟨#[]⟩ : ByteArray), .string (⟨#[]⟩ : ByteArray), .int .i64 0, .int .i64 0, .bool false]) ?_ 3 _ rfl; (with_reducible repeat (first | refine blk_drewN ?_ _ | refine blk_drew ?_ | refine blk_alloc ?_ _)); refine blk_put (cs := #[.string (⟨#[]⟩ : ByteArray), .string (⟨#[]⟩ : ByteArray), .string (⟨#[]⟩ : ByteArray), .string (⟨#[]⟩ : ByteArray), .string (⟨#[]⟩ : ByteArray), .string (⟨#[]⟩ : ByteArray), .int .i64 0, .int .i64 0, .bool false]) ?_ 2 _ rfl; (with_reducible repeat (first | refine blk_drewN ?_ _ | refine blk_drew ?_ | refine blk_alloc ?_ _)); refine blk_put (cs := #[.string (⟨#[]⟩ : ByteArray), .string (⟨#[]⟩ : ByteArray), .string (⟨#[]⟩ : ByteArray), .string (⟨#[]⟩ : ByteArray), .string (⟨#[]⟩ : ByteArray), .string (⟨#[]⟩ : ByteArray), .int .i64 0, .int .i64 0, .bool false]) ?_ 1 _ rfl; (with_reducible repeat (first | refine blk_drewN ?_ _ | refine blk_drew ?_ | refine blk_alloc ?_ _)); refine blk_put (cs := #[.string (⟨#[]⟩ : ByteArray), .string (⟨#[]⟩ : ByteArray), .string (⟨#[]⟩ : ByteArray), .string (⟨#[]⟩ : ByteArray), .string (⟨#[]⟩ : ByteArray), .string (⟨#[]⟩ : ByteArray), .int .i64 0, .int .i64 0, .bool false]) ?_ 0 _ rfl; (with_reducible repeat (first | refine blk_drewN ?_ _ | refine blk_drew ?_ | refine blk_alloc ?_ _)); exact BK340.out) Try.underlying60 rfl (by kernel_rfl)) rfl ?_
    exact ⟨by first | rfl | (simp [errW_none, errW_some] <;> rfl) | (simp [*, errW_none, errW_some] <;> rfl), by repeat (first | (with_reducible first | exact HB.out | apply below_alloc | apply pw_below_drewN | apply below_drew1 | refine below_set ?_ GE340.out) | exact HB.out)⟩

  rw [if_pos c11] at H
  have c11b0 : (a0 == 4) = true := beq_iff_eq.mpr c11
  have c11b1 : (a0 != 4) = false := bne_eq_false_iff_eq.mpr c11
  clear c11
  simp only [Option.some.injEq, Prod.mk.injEq] at H
  obtain ⟨rfl, rfl, rfl, rfl, rfl, rfl, rfl, rfl, rfl⟩ := H
  go_enter Try.func90, Try.ntmps90
  go_wp2_with (first | ((with_reducible refine gate_dst (N := 2) rfl ?_); refine box_event ?hg (N := 2) ?hd (cs := #[.string (⟨#[]⟩ : ByteArray), .string (⟨#[]⟩ : ByteArray), .string (⟨#[]⟩ : ByteArray), .string (⟨#[]⟩ : ByteArray), .string (⟨#[]⟩ : ByteArray), .string (⟨#[]⟩ : ByteArray), .int .i64 0, .int .i64 0, .bool false]) (t := 60) ?hr ?_; (case hd => rfl); (case hg => rfl); (case hr => first | (go_simp; done) | (go_simp; rfl)); intro gb340 hg w12 hbox hb; have BK340 := Aside0.mk (hbox); have GW340 := Aside0.mk ((by rw [hg]; exact (below_size (pB_ HB.out)) : w.heap.size ≤ gb340)); have GE340 := Aside0.mk ((by rw [hg]; exact (below_size (pB_ HB.out)) : w.heap.size ≤ gb340)); replace HB := Aside0.mk (below_step (pB_ HB.out) hb); clear hb hbox hg; have hcz13_0 : w12.cell? ⟨gb340, 0, none⟩ = some (.string (⟨#[]⟩ : ByteArray)) := (blk_cell BK340.out 0).trans rfl; have hcz13_1 : w12.cell? ⟨gb340, 1, none⟩ = some (.string (⟨#[]⟩ : ByteArray)) := (blk_cell BK340.out 1).trans rfl; have hcz13_2 : w12.cell? ⟨gb340, 2, none⟩ = some (.string (⟨#[]⟩ : ByteArray)) := (blk_cell BK340.out 2).trans rfl; have hcz13_3 : w12.cell? ⟨gb340, 3, none⟩ = some (.string (⟨#[]⟩ : ByteArray)) := (blk_cell BK340.out 3).trans rfl; have hcz13_4 : w12.cell? ⟨gb340, 4, none⟩ = some (.string (⟨#[]⟩ : ByteArray)) := (blk_cell BK340.out 4).trans rfl; have hcz13_5 : w12.cell? ⟨gb340, 5, none⟩ = some (.string (⟨#[]⟩ : ByteArray)) := (blk_cell BK340.out 5).trans rfl; have hcz13_6 : w12.cell? ⟨gb340, 6, none⟩ = some (.int .i64 0) := (blk_cell BK340.out 6).trans rfl; have hcz13_7 : w12.cell? ⟨gb340, 7, none⟩ = some (.int .i64 0) := (blk_cell BK340.out 7).trans rfl; have hcz13_8 : w12.cell? ⟨gb340, 8, none⟩ = some (.bool false) := (blk_cell BK340.out 8).trans rfl; have hfz13_0 := blk_frozen BK340.out 0; have hfz13_1 := blk_frozen BK340.out 1; have hfz13_2 := blk_frozen BK340.out 2; have hfz13_3 := blk_frozen BK340.out 3; have hfz13_4 := blk_frozen BK340.out 4; have hfz13_5 := blk_frozen BK340.out 5; have hfz13_6 := blk_frozen BK340.out 6; have hfz13_7 := blk_frozen BK340.out 7; have hfz13_8 := blk_frozen BK340.out 8))
  refine bodyPost_ret (results_cell_row rfl _ _ gb340 60 #[.string (⟨#[98, 114, 111, 97, 100]⟩ : ByteArray), .string (⟨#[26, 1, 17, 234, 57, 127, 230, 154, 75, 27, 167, 182, 67, 75, 172, 215, 100, 119, 75, 132, 243, 133, 18, 191, 103, 48, 210, 160, 246, 176, 246, 36, 30, 171, 255, 254, 177, 83, 255, 255, 185, 254, 255, 255, 255, 255, 170, 171]⟩ : ByteArray), .string (⟨#[115, 237, 167, 83, 41, 157, 125, 72, 51, 57, 216, 8, 9, 161, 216, 5, 83, 189, 164, 2, 255, 254, 91, 254, 255, 255, 255, 255, 0, 0, 0, 1]⟩ : ByteArray), .string (⟨#[4]⟩ : ByteArray), .string (⟨#[4]⟩ : ByteArray), .string (⟨#[4]⟩ : ByteArray), .int .i64 48, .int .i64 32, .bool true] (0, 0) _ rfl (by (with_reducible repeat (first | refine blk_drewN ?_ _ | refine blk_drew ?_ | refine blk_alloc ?_ _)); refine blk_put (cs := #[.string (⟨#[98, 114, 111, 97, 100]⟩ : ByteArray), .string (⟨#[26, 1, 17, 234, 57, 127, 230, 154, 75, 27, 167, 182, 67, 75, 172, 215, 100, 119, 75, 132, 243, 133, 18, 191, 103, 48, 210, 160, 246, 176, 246, 36, 30, 171, 255, 254, 177, 83, 255, 255, 185, 254, 255, 255, 255, 255, 170, 171]⟩ : ByteArray), .string (⟨#[115, 237, 167, 83, 41, 157, 125, 72, 51, 57, 216, 8, 9, 161, 216, 5, 83, 189, 164, 2, 255, 254, 91, 254, 255, 255, 255, 255, 0, 0, 0, 1]⟩ : ByteArray), .string (⟨#[4]⟩ : ByteArray), .string (⟨#[4]⟩ : ByteArray), .string (⟨#[4]⟩ : ByteArray), .int .i64 48, .int .i64 32, .bool false]) ?_ 8 _ rfl; (with_reducible repeat (first | refine blk_drewN ?_ _ | refine blk_drew ?_ | refine blk_alloc ?_ _)); refine blk_put (cs := #[.string (⟨#[98, 114, 111, 97, 100]⟩ : ByteArray), .string (⟨#[26, 1, 17, 234, 57, 127, 230, 154, 75, 27, 167, 182, 67, 75, 172, 215, 100, 119, 75, 132, 243, 133, 18, 191, 103, 48, 210, 160, 246, 176, 246, 36, 30, 171, 255, 254, 177, 83, 255, 255, 185, 254, 255, 255, 255, 255, 170, 171]⟩ : ByteArray), .string (⟨#[115, 237, 167, 83, 41, 157, 125, 72, 51, 57, 216, 8, 9, 161, 216, 5, 83, 189, 164, 2, 255, 254, 91, 254, 255, 255, 255, 255, 0, 0, 0, 1]⟩ : ByteArray), .string (⟨#[4]⟩ : ByteArray), .string (⟨#[4]⟩ : ByteArray), .string (⟨#[4]⟩ : ByteArray), .int .i64 48, .int .i64 0, .bool false]) ?_ 7 _ rfl; (with_reducible repeat (first | refine blk_drewN ?_ _ | refine blk_drew ?_ | refine blk_alloc ?_ _)); refine blk_put (cs := #[.string (⟨#[98, 114, 111, 97, 100]⟩ : ByteArray), .string (⟨#[26, 1, 17, 234, 57, 127, 230, 154, 75, 27, 167, 182, 67, 75, 172, 215, 100, 119, 75, 132, 243, 133, 18, 191, 103, 48, 210, 160, 246, 176, 246, 36, 30, 171, 255, 254, 177, 83, 255, 255, 185, 254, 255, 255, 255, 255, 170, 171]⟩ : ByteArray), .string (⟨#[115, 237, 167, 83, 41, 157, 125, 72, 51, 57, 216, 8, 9, 161, 216, 5, 83, 189, 164, 2, 255, 254, 91, 254, 255, 255, 255, 255, 0, 0, 0, 1]⟩ : ByteArray), .string (⟨#[4]⟩ : ByteArray), .string (⟨#[4]⟩ : ByteArray), .string (⟨#[4]⟩ : ByteArray), .int .i64 0, .int .i64 0, .bool false]) ?_ 6 _ rfl; (with_reducible repeat (first | refine blk_drewN ?_ _ | refine blk_drew ?_ | refine blk_alloc ?_ _)); refine blk_put (cs := #[.string (⟨#[98, 114, 111, 97, 100]⟩ : ByteArray), .string (⟨#[26, 1, 17, 234, 57, 127, 230, 154, 75, 27, 167, 182, 67, 75, 172, 215, 100, 119, 75, 132, 243, 133, 18, 191, 103, 48, 210, 160, 246, 176, 246, 36, 30, 171, 255, 254, 177, 83, 255, 255, 185, 254, 255, 255, 255, 255, 170, 171]⟩ : ByteArray), .string (⟨#[115, 237, 167, 83, 41, 157, 125, 72, 51, 57, 216, 8, 9, 161, 216, 5, 83, 189, 164, 2, 255, 254, 91, 254, 255, 255, 255, 255, 0, 0, 0, 1]⟩ : ByteArray), .string (⟨#[4]⟩ : ByteArray), .string (⟨#[4]⟩ : ByteArray), .string (⟨#[]⟩ : ByteArray), .int .i64 0, .int .i64 0, .bool false]) ?_ 5 _ rfl; (with_reducible repeat (first | refine blk_drewN ?_ _ | refine blk_drew ?_ | refine blk_alloc ?_ _)); refine blk_put (cs := #[.string (⟨#[98, 114, 111, 97, 100]⟩ : ByteArray), .string (⟨#[26, 1, 17, 234, 57, 127, 230, 154, 75, 27, 167, 182, 67, 75, 172, 215, 100, 119, 75, 132, 243, 133, 18, 191, 103, 48, 210, 160, 246, 176, 246, 36, 30, 171, 255, 254, 177, 83, 255, 255, 185, 254, 255, 255, 255, 255, 170, 171]⟩ : ByteArray), .string (⟨#[115, 237, 167, 83, 41, 157, 125, 72, 51, 57, 216, 8, 9, 161, 216, 5, 83, 189, 164, 2, 255, 254, 91, 254, 255, 255, 255, 255, 0, 0, 0, 1]⟩ : ByteArray), .string (⟨#[4]⟩ : ByteArray), .string (⟨#[]⟩ : ByteArray), .string (⟨#[]⟩ : ByteArray), .int .i64 0, .int .i64 0, .bool false]) ?_ 4 _ rfl; (with_reducible repeat (first | refine blk_drewN ?_ _ | refine blk_drew ?_ | refine blk_alloc ?_ _)); refine blk_put (cs := #[.string (⟨#[98, 114, 111, 97, 100]⟩ : ByteArray), .string (⟨#[26, 1, 17, 234, 57, 127, 230, 154, 75, 27, 167, 182, 67, 75, 172, 215, 100, 119, 75, 132, 243, 133, 18, 191, 103, 48, 210, 160, 246, 176, 246, 36, 30, 171, 255, 254, 177, 83, 255, 255, 185, 254, 255, 255, 255, 255, 170, 171]⟩ : ByteArray), .string (⟨#[115, 237, 167, 83, 41, 157, 125, 72, 51, 57, 216, 8, 9, 161, 216, 5, 83, 189, 164, 2, 255, 254, 91, 254, 255, 255, 255, 255, 0, 0, 0, 1]⟩ : ByteArray), .string (⟨#[]⟩ : ByteArray), .string (⟨#[]⟩ : ByteArray), .string (⟨#[]⟩ : ByteArray), .int .i64 0, .int .i64 0, .bool false]) ?_ 3 _ rfl; (with_reducible repeat (first | refine blk_drewN ?_ _ | refine blk_drew ?_ | refine blk_alloc ?_ _)); refine blk_put (cs := #[.string (⟨#[98, 114, 111, 97, 100]⟩ : ByteArray), .string (⟨#[26, 1, 17, 234, 57, 127, 230, 154, 75, 27, 167, 182, 67, 75, 172, 215, 100, 119, 75, 132, 243, 133, 18, 191, 103, 48, 210, 160, 246, 176, 246, 36, 30, 171, 255, 254, 177, 83, 255, 255, 185, 254, 255, 255, 255, 255, 170, 171]⟩ : ByteArray), .string (⟨#[]⟩ : ByteArray), .string (⟨#[]⟩ : ByteArray), .string (⟨#[]⟩ : ByteArray), .string (⟨#[]⟩ : ByteArray), .int .i64 0, .int .i64 0, .bool false]) ?_ 2 _ rfl; (with_reducible repeat (first | refine blk_drewN ?_ _ | refine blk_drew ?_ | refine blk_alloc ?_ _)); refine blk_put (cs := #[.string (⟨#[98, 114, 111, 97, 100]⟩ : ByteArray), .string (⟨#[]⟩ : ByteArray), .string (⟨#[]⟩ : ByteArray), .string (⟨#[]⟩ : ByteArray), .string (⟨#[]⟩ : ByteArray), .string (⟨#[]⟩ : ByteArray), .int .i64 0, .int .i64 0, .bool false]) ?_ 1 _ rfl; (with_reducible repeat (first | refine blk_drewN ?_ _ | refine blk_drew ?_ | refine blk_alloc ?_ _)); refine blk_put (cs := #[.string (⟨#[]⟩ : ByteArray), .string (⟨#[]⟩ : ByteArray), .string (⟨#[]⟩ : ByteArray), .string (⟨#[]⟩ : ByteArray), .string (⟨#[]⟩ : ByteArray), .string (⟨#[]⟩ : ByteArray), .int .i64 0, .int .i64 0, .bool false]) ?_ 0 _ rfl; (with_reducible repeat (first | refine blk_drewN ?_ _ | refine blk_drew ?_ | refine blk_alloc ?_ _)); exact BK340.out) Try.underlying60 rfl (by kernel_rfl)) rfl ?_
  exact ⟨by first | rfl | (simp [errW_none, errW_some] <;> rfl) | (simp [*, errW_none, errW_some] <;> rfl), by repeat (first | (with_reducible first | exact HB.out | apply below_alloc | apply pw_below_drewN | apply below_drew1 | refine below_set ?_ GE340.out) | exact HB.out)⟩

/-! ### spec_l01In: function 91 -/
def spec_l01In.f (a0 : Int) (a1 : Int) (a2 : Int) : Option (Bool) := if a0 ≥ a1 then (some (decide (a0 ≤ a2))) else (some false)
set_option maxHeartbeats 8000000 in
set_option maxRecDepth 100000 in
theorem spec_l01In.calls (a0 : Int) (a1 : Int) (a2 : Int) (r : Bool) (w : World) (h : spec_l01In.f a0 a1 a2 = some r) :
    Calls Try.prog 91 #[.int .i64 a0, .int .i64 a1, .int .i64 a2] w fun e w' => e = .returned (.bool r) ∧ Drawn0 w w' := by
  have H : (if a0 ≥ a1 then (some (decide (a0 ≤ a2))) else (some false)) = some r := h
  clear h
  by_cases c4 : a0 ≥ a1
  · rw [if_pos c4] at H
    have c4b0 : decide (a1 ≤ a0) = true := decide_eq_true c4
    clear c4
    obtain rfl := Option.some.inj H
    go_enter Try.func91, Try.ntmps91
    go_wp2
    go_ret
    exact ⟨by first | rfl | (simp; done) | (simp [*]; done), by repeat (first | exact Drawn0.refl _ | apply Drawn0.step)⟩
  rw [if_neg c4] at H
  have c4b0 : decide (a1 ≤ a0) = false := decide_eq_false c4
  clear c4
  obtain rfl := Option.some.inj H
  go_enter Try.func91, Try.ntmps91
  go_wp2
  go_ret
  exact ⟨by first | rfl | (simp; done) | (simp [*]; done), by repeat (first | exact Drawn0.refl _ | apply Drawn0.step)⟩

/-! ### spec_CurveOf: function 55 -/
def spec_CurveOf.f (a0 : Int) : Option (ByteArray × ByteArray × ByteArray × ByteArray × ByteArray × ByteArray × Int × Int × Bool × Bool) := (spec_l09Curve.f a0).bind fun bt342 => ((spec_l01In.f a0 1 4).bind fun t351 => (some (bt342.1, bt342.2.1, bt342.2.2.1, bt342.2.2.2.1, bt342.2.2.2.2.1, bt342.2.2.2.2.2.1, bt342.2.2.2.2.2.2.1, bt342.2.2.2.2.2.2.2.1, bt342.2.2.2.2.2.2.2.2, t351)))
set_option maxHeartbeats 8000000 in
set_option maxRecDepth 100000 in
theorem spec_CurveOf.calls (a0 : Int) (r1 : ByteArray) (r2 : ByteArray) (r3 : ByteArray) (r4 : ByteArray) (r5 : ByteArray) (r6 : ByteArray) (r7 : Int) (r8 : Int) (r9 : Bool) (r10 : Bool) (w : World) (h : spec_CurveOf.f a0 = some (r1, r2, r3, r4, r5, r6, r7, r8, r9, r10)) :
    Calls Try.prog 55 #[.int .i64 a0] w fun e w' => e = .returned (.tuple #[.agg #[.string r1, .string r2, .string r3, .string r4, .string r5, .string r6, .int .i64 r7, .int .i64 r8, .bool r9], .bool r10]) ∧ Below w.heap.size w w' := by
  have hu60 := Try.underlying60
  have HB := Aside0.mk (Below.refl w.heap.size w)
  have H : ((spec_l09Curve.f a0).bind fun bt342 => ((spec_l01In.f a0 1 4).bind fun t351 => (some (bt342.1, bt342.2.1, bt342.2.2.1, bt342.2.2.2.1, bt342.2.2.2.2.1, bt342.2.2.2.2.2.1, bt342.2.2.2.2.2.2.1, bt342.2.2.2.2.2.2.2.1, bt342.2.2.2.2.2.2.2.2, t351)))) = some (r1, r2, r3, r4, r5, r6, r7, r8, r9, r10) := h
  clear h
  replace H := Option.bind_eq_some_iff.mp H
  obtain ⟨⟨t342, t343, t344, t345, t346, t347, t348, t349, t350⟩, A20, H⟩ := H
  replace H : ((spec_l01In.f a0 1 4).bind fun t351 => (some (t342, t343, t344, t345, t346, t347, t348, t349, t350, t351))) = some (r1, r2, r3, r4, r5, r6, r7, r8, r9, r10) := H
  have A2 := Aside0.mk A20
  clear A20
  replace H := Option.bind_eq_some_iff.mp H
  obtain ⟨t351, A30, H⟩ := H
  have A3 := Aside0.mk A30
  clear A30
  simp only [Option.some.injEq, Prod.mk.injEq] at H
  obtain ⟨rfl, rfl, rfl, rfl, rfl, rfl, rfl, rfl, rfl, rfl⟩ := H
  go_enter Try.func55, Try.ntmps55
  go_wp2_with (first | ((with_reducible refine gate_dst (N := 2) rfl ?_); refine box_event ?hg (N := 2) ?hd (cs := #[.string (⟨#[]⟩ : ByteArray), .string (⟨#[]⟩ : ByteArray), .string (⟨#[]⟩ : ByteArray), .string (⟨#[]⟩ : ByteArray), .string (⟨#[]⟩ : ByteArray), .string (⟨#[]⟩ : ByteArray), .int .i64 0, .int .i64 0, .bool false]) (t := 60) ?hr ?_; (case hd => rfl); (case hg => rfl); (case hr => first | (go_simp; done) | (go_simp; rfl)); intro gb341 hg w4 hbox hb; have BK341 := Aside0.mk (hbox); have GW341 := Aside0.mk ((by rw [hg]; exact (below_size (pB_ HB.out)) : w.heap.size ≤ gb341)); have GE341 := Aside0.mk ((by rw [hg]; exact (below_size (pB_ HB.out)) : w.heap.size ≤ gb341)); replace HB := Aside0.mk (below_step (pB_ HB.out) hb); clear hb hbox hg) | ((with_reducible refine gate_callee (f := 90) rfl ?_); refine gL_ 5 Try.func90 rfl #[.int .i64 a0] ?_; (with_reducible refine (spec_l09Curve.calls a0 t342 t343 t344 t345 t346 t347 t348 t349 t350 _ A2.out).mono ?_); rintro e w5 ⟨rfl, hb⟩; refine ⟨_, rfl, ?_⟩; replace BK341 := Aside0.mk (blk_below (g := gb341) (o := .cells #[.string (⟨#[]⟩ : ByteArray), .string (⟨#[]⟩ : ByteArray), .string (⟨#[]⟩ : ByteArray), .string (⟨#[]⟩ : ByteArray), .string (⟨#[]⟩ : ByteArray), .string (⟨#[]⟩ : ByteArray), .int .i64 0, .int .i64 0, .bool false] 60 (0, 0)) (by (with_reducible repeat (first | refine blk_drewN ?_ _ | refine blk_drew ?_ | refine blk_alloc ?_ _)); exact BK341.out) hb); replace HB := Aside0.mk (below_step (by repeat (first | (with_reducible first | exact HB.out | apply below_alloc | apply pw_below_drewN | apply below_drew1 | refine below_set ?_ GE341.out) | exact HB.out)) hb); clear hb) | ((with_reducible refine gate_callee (f := 91) rfl ?_); refine gL_ 7 Try.func91 rfl #[.int .i64 a0, .int .i64 1, .int .i64 4] ?_; (with_reducible refine (spec_l01In.calls a0 1 4 t351 _ A3.out).mono ?_); rintro e w' ⟨rfl, ⟨nd, rfl⟩⟩; refine ⟨_, rfl, ?_⟩; (try (rw [drewN_self w5]; generalize hq_ : World.drewN w5 _ = w5; have n0_ : Aside0 (w5.heap[gb341]? = some (.cells #[.string (⟨#[]⟩ : ByteArray), .string (⟨#[]⟩ : ByteArray), .string (⟨#[]⟩ : ByteArray), .string (⟨#[]⟩ : ByteArray), .string (⟨#[]⟩ : ByteArray), .string (⟨#[]⟩ : ByteArray), .int .i64 0, .int .i64 0, .bool false] 60 (0, 0))) := ⟨by rw [← hq_]; exact (by (with_reducible repeat (first | refine blk_drewN ?_ _ | refine blk_drew ?_ | refine blk_alloc ?_ _)); exact BK341.out)⟩; have n1_ : Aside0 (Below w.heap.size w w5) := ⟨by rw [← hq_]; exact (by repeat (first | (with_reducible first | exact HB.out | apply below_alloc | apply pw_below_drewN | apply below_drew1 | refine below_set ?_ GE341.out) | exact HB.out))⟩; clear BK341 HB hq_; have BK341 := n0_; have HB := n1_; clear n0_ n1_)); have hcz6_0 : w5.cell? ⟨gb341, 0, none⟩ = some (.string (⟨#[]⟩ : ByteArray)) := (blk_cell BK341.out 0).trans rfl; have hcz6_1 : w5.cell? ⟨gb341, 1, none⟩ = some (.string (⟨#[]⟩ : ByteArray)) := (blk_cell BK341.out 1).trans rfl; have hcz6_2 : w5.cell? ⟨gb341, 2, none⟩ = some (.string (⟨#[]⟩ : ByteArray)) := (blk_cell BK341.out 2).trans rfl; have hcz6_3 : w5.cell? ⟨gb341, 3, none⟩ = some (.string (⟨#[]⟩ : ByteArray)) := (blk_cell BK341.out 3).trans rfl; have hcz6_4 : w5.cell? ⟨gb341, 4, none⟩ = some (.string (⟨#[]⟩ : ByteArray)) := (blk_cell BK341.out 4).trans rfl; have hcz6_5 : w5.cell? ⟨gb341, 5, none⟩ = some (.string (⟨#[]⟩ : ByteArray)) := (blk_cell BK341.out 5).trans rfl; have hcz6_6 : w5.cell? ⟨gb341, 6, none⟩ = some (.int .i64 0) := (blk_cell BK341.out 6).trans rfl; have hcz6_7 : w5.cell? ⟨gb341, 7, none⟩ = some (.int .i64 0) := (blk_cell BK341.out 7).trans rfl; have hcz6_8 : w5.cell? ⟨gb341, 8, none⟩ = some (.bool false) := (blk_cell BK341.out 8).trans rfl; have hfz6_0 := blk_frozen BK341.out 0; have hfz6_1 := blk_frozen BK341.out 1; have hfz6_2 := blk_frozen BK341.out 2; have hfz6_3 := blk_frozen BK341.out 3; have hfz6_4 := blk_frozen BK341.out 4; have hfz6_5 := blk_frozen BK341.out 5; have hfz6_6 := blk_frozen BK341.out 6; have hfz6_7 := blk_frozen BK341.out 7; have hfz6_8 := blk_frozen BK341.out 8))
  refine bodyPost_ret (results_ct rfl _ _ gb341 60 #[.string t342, .string t343, .string t344, .string t345, .string t346, .string t347, .int .i64 t348, .int .i64 t349, .bool t350] (0, 0) _ rfl (by (with_reducible repeat (first | refine blk_drewN ?_ _ | refine blk_drew ?_ | refine blk_alloc ?_ _)); refine blk_put (cs := #[.string t342, .string t343, .string t344, .string t345, .string t346, .string t347, .int .i64 t348, .int .i64 t349, .bool false]) ?_ 8 _ rfl; (with_reducible repeat (first | refine blk_drewN ?_ _ | refine blk_drew ?_ | refine blk_alloc ?_ _)); refine blk_put (cs := #[.string t342, .string t343, .string t344, .string t345, .string t346, .string t347, .int .i64 t348, .int .i64 0, .bool false]) ?_ 7 _ rfl; (with_reducible repeat (first | refine blk_drewN ?_ _ | refine blk_drew ?_ | refine blk_alloc ?_ _)); refine blk_put (cs := #[.string t342, .string t343, .string t344, .string t345, .string t346, .string t347, .int .i64 0, .int .i64 0, .bool false]) ?_ 6 _ rfl; (with_reducible repeat (first | refine blk_drewN ?_ _ | refine blk_drew ?_ | refine blk_alloc ?_ _)); refine blk_put (cs := #[.string t342, .string t343, .string t344, .string t345, .string t346, .string (⟨#[]⟩ : ByteArray), .int .i64 0, .int .i64 0, .bool false]) ?_ 5 _ rfl; (with_reducible repeat (first | refine blk_drewN ?_ _ | refine blk_drew ?_ | refine blk_alloc ?_ _)); refine blk_put (cs := #[.string t342, .string t343, .string t344, .string t345, .string (⟨#[]⟩ : ByteArray), .string (⟨#[]⟩ : ByteArray), .int .i64 0, .int .i64 0, .bool false]) ?_ 4 _ rfl; (with_reducible repeat (first | refine blk_drewN ?_ _ | refine blk_drew ?_ | refine blk_alloc ?_ _)); refine blk_put (cs := #[.string t342, .string t343, .string t344, .string (⟨#[]⟩ : ByteArray), .string (⟨#[]⟩ : ByteArray), .string (⟨#[]⟩ : ByteArray), .int .i64 0, .int .i64 0, .bool false]) ?_ 3 _ rfl; (with_reducible repeat (first | refine blk_drewN ?_ _ | refine blk_drew ?_ | refine blk_alloc ?_ _)); refine blk_put (cs := #[.string t342, .string t343, .string (⟨#[]⟩ : ByteArray), .string (⟨#[]⟩ : ByteArray), .string (⟨#[]⟩ : ByteArray), .string (⟨#[]⟩ : ByteArray), .int .i64 0, .int .i64 0, .bool false]) ?_ 2 _ rfl; (with_reducible repeat (first | refine blk_drewN ?_ _ | refine blk_drew ?_ | refine blk_alloc ?_ _)); refine blk_put (cs := #[.string t342, .string (⟨#[]⟩ : ByteArray), .string (⟨#[]⟩ : ByteArray), .string (⟨#[]⟩ : ByteArray), .string (⟨#[]⟩ : ByteArray), .string (⟨#[]⟩ : ByteArray), .int .i64 0, .int .i64 0, .bool false]) ?_ 1 _ rfl; (with_reducible repeat (first | refine blk_drewN ?_ _ | refine blk_drew ?_ | refine blk_alloc ?_ _)); refine blk_put (cs := #[.string (⟨#[]⟩ : ByteArray), .string (⟨#[]⟩ : ByteArray), .string (⟨#[]⟩ : ByteArray), .string (⟨#[]⟩ : ByteArray), .string (⟨#[]⟩ : ByteArray), .string (⟨#[]⟩ : ByteArray), .int .i64 0, .int .i64 0, .bool false]) ?_ 0 _ rfl; (with_reducible repeat (first | refine blk_drewN ?_ _ | refine blk_drew ?_ | refine blk_alloc ?_ _)); exact BK341.out) Try.underlying60 rfl (by kernel_rfl)) rfl ?_
  exact ⟨by first | rfl | (simp [errW_none, errW_some] <;> rfl) | (simp [*, errW_none, errW_some] <;> rfl), by repeat (first | (with_reducible first | exact HB.out | apply below_alloc | apply pw_below_drewN | apply below_drew1 | refine below_set ?_ GE341.out) | exact HB.out)⟩

/-! ### spec_PrimeOk: function 16 -/
mutual
def spec_PrimeOk.j0 : Nat → ByteArray → Int → Bool → Option (Bool)
  | 0, _, _, _ => none
  | k + 1, x0, x3, x17 => if x17 = true then ((spec_l06Small.f k x3).bind fun t354 => (some t354)) else (spec_PrimeOk.l0 k x0 1)
def spec_PrimeOk.l0 : Nat → ByteArray → Int → Option (Bool)
  | 0, _, _ => none
  | k + 1, x0, x5 => if x5 ≤ 4 then ((spec_CurveOf.f x5).bind fun bt355 => (if x0.toList = bt355.2.1.toList then (some true) else (if x0.toList = bt355.2.2.1.toList then (some true) else (spec_PrimeOk.l0 k x0 (wrap64 (x5 + 1)))))) else (some false)
end
def spec_PrimeOk.f (k : Nat) (a0 : ByteArray) : Option (Bool) := (spec_GreatInt.f k a0).bind fun bt352 => (if bt352.2 = true then (spec_PrimeOk.j0 k a0 bt352.1 (decide (bt352.1 < 10000))) else (spec_PrimeOk.j0 k a0 bt352.1 false))
set_option maxHeartbeats 8000000 in
set_option maxRecDepth 100000 in
theorem spec_PrimeOk.calls (k : Nat) (a0 : ByteArray) (r : Bool) (w : World) (h : spec_PrimeOk.f k a0 = some r) :
    Calls Try.prog 16 #[.string a0] w fun e w' => e = .returned (.bool r) ∧ Below w.heap.size w w' := by
  have hu60 := Try.underlying60
  have HB := Aside0.mk (Below.refl w.heap.size w)
  have H : ((spec_GreatInt.f k a0).bind fun bt352 => (if bt352.2 = true then (spec_PrimeOk.j0 k a0 bt352.1 (decide (bt352.1 < 10000))) else (spec_PrimeOk.j0 k a0 bt352.1 false))) = some r := h
  clear h
  replace H := Option.bind_eq_some_iff.mp H
  obtain ⟨⟨t352, t353⟩, A20, H⟩ := H
  replace H : (if t353 = true then (spec_PrimeOk.j0 k a0 t352 (decide (t352 < 10000))) else (spec_PrimeOk.j0 k a0 t352 false)) = some r := H
  have A2 := Aside0.mk A20
  clear A20
  have HC3 := Aside0.mk H
  clear H
  go_enter Try.func16, Try.ntmps16
  go_upto_region 2 with (first | ((with_reducible refine gate_callee (f := 53) rfl ?_); refine gL_ 10 Try.func53 rfl #[.string a0] ?_; (with_reducible refine (spec_GreatInt.calls k a0 t352 t353 _ A2.out).mono ?_); rintro e w' ⟨rfl, ⟨nd, rfl⟩⟩; refine ⟨_, rfl, ?_⟩))
  (try simp only [Act.put, List.setIfInBounds_toArray, List.set_cons_zero, List.set_cons_succ])
  go_cut [17] (fun v17 wc => ∃ (kq : Nat) (x17_2 : Bool), v17 = .bool x17_2 ∧ Aside0 (spec_PrimeOk.j0 kq a0 t352 x17_2 = some r) ∧ Aside0 (kq ≤ k) ∧ Aside0 (Below w.heap.size w wc))
  case first =>
    have H := HC3.out
    clear HC3
    by_cases c4 : t353 = true
    · subst c4
      have H1 : (spec_PrimeOk.j0 k a0 t352 (decide (t352 < 10000))) = some r := by rw [if_pos rfl] at H; exact H
      clear H
      have H := H1
      clear H1
      have H' := Aside0.mk H
      clear H
      go_wp2
      go_meet
      case rel => exact ⟨_, (decide (t352 < 10000)), (by first | rfl | (simp; done) | (simp [*]; done)), H', ⟨by first | omega | exact Nat.le_refl _⟩, ⟨pB_ HB.out⟩⟩
    · replace c4 := Bool.eq_false_iff.mpr c4
      subst c4
      have H1 : (spec_PrimeOk.j0 k a0 t352 false) = some r := by rw [if_neg (show ¬ (false = true) by decide)] at H; exact H
      clear H
      have H := H1
      clear H1
      have H' := Aside0.mk H
      clear H
      go_wp2
      go_meet
      case rel => exact ⟨_, (false), (by first | rfl | (simp; done) | (simp [*]; done)), H', ⟨by first | omega | exact Nat.le_refl _⟩, ⟨pB_ HB.out⟩⟩
  clear HC3
  try clear c1
  try clear p2
  try clear c4
  obtain ⟨kq, x17_2, rfl, HA, HJ2, HB⟩ := hcut
  rcases kq with _ | kj2
  · exact absurd HA.out (by simp [spec_PrimeOk.j0])
  have H := HA.out
  clear HA
  simp only [spec_PrimeOk.j0] at H
  by_cases c5 : x17_2 = true
  · subst c5
    have H1 : ((spec_l06Small.f kj2 t352).bind fun t354 => (some t354)) = some r := by rw [if_pos rfl] at H; exact H
    clear H
    have H := H1
    clear H1
    replace H := Option.bind_eq_some_iff.mp H
    obtain ⟨t354, A60, H⟩ := H
    have A6 := Aside0.mk A60
    clear A60
    obtain rfl := Option.some.inj H
    go_wp2_with (first | ((with_reducible refine gate_callee (f := 54) rfl ?_); refine gL_ 19 Try.func54 rfl #[.int .i64 t352] ?_; (with_reducible refine (spec_l06Small.calls kj2 t352 t354 _ A6.out).mono ?_); rintro e w' ⟨rfl, ⟨nd, rfl⟩⟩; refine ⟨_, rfl, ?_⟩))
    go_ret
    exact ⟨by first | rfl | (simp [errW_none, errW_some] <;> rfl) | (simp [*, errW_none, errW_some] <;> rfl), pB_ HB.out⟩
  · replace c5 := Bool.eq_false_iff.mpr c5
    subst c5
    have H1 : (spec_PrimeOk.l0 kj2 a0 1) = some r := by rw [if_neg (show ¬ (false = true) by decide)] at H; exact H
    clear H
    have H := H1
    clear H1
    have H' := Aside0.mk H
    clear H
    go_wp2
    go_loopg [5] kj2 (fun kq v5 w' => ∃ (x5_2 : Int), v5 = .int .i64 x5_2 ∧ Aside0 (spec_PrimeOk.l0 kq a0 x5_2 = some r) ∧ Aside0 (kq ≤ kj2) ∧ Aside0 (Below w.heap.size w w'))
    case atStart => exact ⟨(1), (by first | rfl | (simp; done) | (simp [*]; done)), H', ⟨Nat.le_refl _⟩, ⟨pB_ HB.out⟩⟩
    clear H'
    try clear c1
    try clear p2
    try clear c4
    try clear c5
    try clear p2
    obtain ⟨x5_2, rfl, HA, HK2, HB⟩ := hrel
    rcases gk with _ | k2
    · exact absurd HA.out (by simp [spec_PrimeOk.l0])
    have H := HA.out
    clear HA
    simp only [spec_PrimeOk.l0] at H
    by_cases c7 : x5_2 ≤ 4
    rotate_left
    · rw [if_neg c7] at H
      have c7b0 : decide (x5_2 ≤ 4) = false := decide_eq_false c7
      clear c7
      obtain rfl := Option.some.inj H
      go_wp2
      go_ret
      exact ⟨by first | rfl | (simp [errW_none, errW_some] <;> rfl) | (simp [*, errW_none, errW_some] <;> rfl), pB_ HB.out⟩

    rw [if_pos c7] at H
    have c7b0 : decide (x5_2 ≤ 4) = true := decide_eq_true c7
    clear c7
    replace H := Option.bind_eq_some_iff.mp H
    obtain ⟨⟨t355, t356, t357, t358, t359, t360, t361, t362, t363, t364⟩, A80, H⟩ := H
    replace H : (if a0.toList = t356.toList then (some true) else (if a0.toList = t357.toList then (some true) else (spec_PrimeOk.l0 k2 a0 (wrap64 (x5_2 + 1))))) = some r := H
    have A8 := Aside0.mk A80
    clear A80
    by_cases c9 : a0.toList = t356.toList
    · rw [if_pos c9] at H
      have c9b0 : (a0.toList == t356.toList) = true := beq_iff_eq.mpr c9
      have c9b1 : (a0.toList != t356.toList) = false := bne_eq_false_iff_eq.mpr c9
      clear c9
      obtain rfl := Option.some.inj H
      go_wp2_with (first | ((with_reducible refine gate_callee (f := 55) rfl ?_); refine gL_ 26 Try.func55 rfl #[.int .i64 x5_2] ?_; (with_reducible refine (spec_CurveOf.calls x5_2 t355 t356 t357 t358 t359 t360 t361 t362 t363 t364 _ A8.out).mono ?_); rintro e w10 ⟨rfl, hb⟩; refine ⟨_, rfl, ?_⟩; replace HB := Aside0.mk (below_step (pB_ HB.out) hb); clear hb) | ((with_reducible refine gate_dst (N := 6) rfl ?_); refine box_event ?hg (N := 6) ?hd (cs := #[.string (⟨#[]⟩ : ByteArray), .string (⟨#[]⟩ : ByteArray), .string (⟨#[]⟩ : ByteArray), .string (⟨#[]⟩ : ByteArray), .string (⟨#[]⟩ : ByteArray), .string (⟨#[]⟩ : ByteArray), .int .i64 0, .int .i64 0, .bool false]) (t := 60) ?hr ?_; (case hd => rfl); (case hg => rfl); (case hr => first | (go_simp; done) | (go_simp; rfl)); intro gb365 hg w11 hbox hb; have BK365 := Aside0.mk (hbox); have GW365 := Aside0.mk ((by rw [hg]; exact (below_size (pB_ HB.out)) : w.heap.size ≤ gb365)); have GE365 := Aside0.mk ((by rw [hg]; exact (below_size (pB_ HB.out)) : w.heap.size ≤ gb365)); replace HB := Aside0.mk (below_step (pB_ HB.out) hb); clear hb hbox hg; have hcz12_0 : w11.cell? ⟨gb365, 0, none⟩ = some (.string (⟨#[]⟩ : ByteArray)) := (blk_cell BK365.out 0).trans rfl; have hcz12_1 : w11.cell? ⟨gb365, 1, none⟩ = some (.string (⟨#[]⟩ : ByteArray)) := (blk_cell BK365.out 1).trans rfl; have hcz12_2 : w11.cell? ⟨gb365, 2, none⟩ = some (.string (⟨#[]⟩ : ByteArray)) := (blk_cell BK365.out 2).trans rfl; have hcz12_3 : w11.cell? ⟨gb365, 3, none⟩ = some (.string (⟨#[]⟩ : ByteArray)) := (blk_cell BK365.out 3).trans rfl; have hcz12_4 : w11.cell? ⟨gb365, 4, none⟩ = some (.string (⟨#[]⟩ : ByteArray)) := (blk_cell BK365.out 4).trans rfl; have hcz12_5 : w11.cell? ⟨gb365, 5, none⟩ = some (.string (⟨#[]⟩ : ByteArray)) := (blk_cell BK365.out 5).trans rfl; have hcz12_6 : w11.cell? ⟨gb365, 6, none⟩ = some (.int .i64 0) := (blk_cell BK365.out 6).trans rfl; have hcz12_7 : w11.cell? ⟨gb365, 7, none⟩ = some (.int .i64 0) := (blk_cell BK365.out 7).trans rfl; have hcz12_8 : w11.cell? ⟨gb365, 8, none⟩ = some (.bool false) := (blk_cell BK365.out 8).trans rfl; have hfz12_0 := blk_frozen BK365.out 0; have hfz12_1 := blk_frozen BK365.out 1; have hfz12_2 := blk_frozen BK365.out 2; have hfz12_3 := blk_frozen BK365.out 3; have hfz12_4 := blk_frozen BK365.out 4; have hfz12_5 := blk_frozen BK365.out 5; have hfz12_6 := blk_frozen BK365.out 6; have hfz12_7 := blk_frozen BK365.out 7; have hfz12_8 := blk_frozen BK365.out 8))
      go_ret
      exact ⟨by first | rfl | (simp [errW_none, errW_some] <;> rfl) | (simp [*, errW_none, errW_some] <;> rfl), by repeat (first | (with_reducible first | exact HB.out | apply below_alloc | apply pw_below_drewN | apply below_drew1 | refine below_set ?_ GE365.out) | exact HB.out)⟩
    rw [if_neg c9] at H
    have c9b0 : (a0.toList == t356.toList) = false := beq_eq_false_iff_ne.mpr c9
    have c9b1 : (a0.toList != t356.toList) = true := bne_iff_ne.mpr c9
    by_cases c13 : a0.toList = t357.toList
    · rw [if_pos c13] at H
      have c13b0 : (a0.toList == t357.toList) = true := beq_iff_eq.mpr c13
      have c13b1 : (a0.toList != t357.toList) = false := bne_eq_false_iff_eq.mpr c13
      clear c13
      obtain rfl := Option.some.inj H
      go_wp2_with (first | ((with_reducible refine gate_callee (f := 55) rfl ?_); refine gL_ 26 Try.func55 rfl #[.int .i64 x5_2] ?_; (with_reducible refine (spec_CurveOf.calls x5_2 t355 t356 t357 t358 t359 t360 t361 t362 t363 t364 _ A8.out).mono ?_); rintro e w14 ⟨rfl, hb⟩; refine ⟨_, rfl, ?_⟩; replace HB := Aside0.mk (below_step (pB_ HB.out) hb); clear hb) | ((with_reducible refine gate_dst (N := 6) rfl ?_); refine box_event ?hg (N := 6) ?hd (cs := #[.string (⟨#[]⟩ : ByteArray), .string (⟨#[]⟩ : ByteArray), .string (⟨#[]⟩ : ByteArray), .string (⟨#[]⟩ : ByteArray), .string (⟨#[]⟩ : ByteArray), .string (⟨#[]⟩ : ByteArray), .int .i64 0, .int .i64 0, .bool false]) (t := 60) ?hr ?_; (case hd => rfl); (case hg => rfl); (case hr => first | (go_simp; done) | (go_simp; rfl)); intro gb365 hg w15 hbox hb; have BK365 := Aside0.mk (hbox); have GW365 := Aside0.mk ((by rw [hg]; exact (below_size (pB_ HB.out)) : w.heap.size ≤ gb365)); have GE365 := Aside0.mk ((by rw [hg]; exact (below_size (pB_ HB.out)) : w.heap.size ≤ gb365)); replace HB := Aside0.mk (below_step (pB_ HB.out) hb); clear hb hbox hg; have hcz16_0 : w15.cell? ⟨gb365, 0, none⟩ = some (.string (⟨#[]⟩ : ByteArray)) := (blk_cell BK365.out 0).trans rfl; have hcz16_1 : w15.cell? ⟨gb365, 1, none⟩ = some (.string (⟨#[]⟩ : ByteArray)) := (blk_cell BK365.out 1).trans rfl; have hcz16_2 : w15.cell? ⟨gb365, 2, none⟩ = some (.string (⟨#[]⟩ : ByteArray)) := (blk_cell BK365.out 2).trans rfl; have hcz16_3 : w15.cell? ⟨gb365, 3, none⟩ = some (.string (⟨#[]⟩ : ByteArray)) := (blk_cell BK365.out 3).trans rfl; have hcz16_4 : w15.cell? ⟨gb365, 4, none⟩ = some (.string (⟨#[]⟩ : ByteArray)) := (blk_cell BK365.out 4).trans rfl; have hcz16_5 : w15.cell? ⟨gb365, 5, none⟩ = some (.string (⟨#[]⟩ : ByteArray)) := (blk_cell BK365.out 5).trans rfl; have hcz16_6 : w15.cell? ⟨gb365, 6, none⟩ = some (.int .i64 0) := (blk_cell BK365.out 6).trans rfl; have hcz16_7 : w15.cell? ⟨gb365, 7, none⟩ = some (.int .i64 0) := (blk_cell BK365.out 7).trans rfl; have hcz16_8 : w15.cell? ⟨gb365, 8, none⟩ = some (.bool false) := (blk_cell BK365.out 8).trans rfl; have hfz16_0 := blk_frozen BK365.out 0; have hfz16_1 := blk_frozen BK365.out 1; have hfz16_2 := blk_frozen BK365.out 2; have hfz16_3 := blk_frozen BK365.out 3; have hfz16_4 := blk_frozen BK365.out 4; have hfz16_5 := blk_frozen BK365.out 5; have hfz16_6 := blk_frozen BK365.out 6; have hfz16_7 := blk_frozen BK365.out 7; have hfz16_8 := blk_frozen BK365.out 8))
      go_ret
      exact ⟨by first | rfl | (simp [errW_none, errW_some] <;> rfl) | (simp [*, errW_none, errW_some] <;> rfl), by repeat (first | (with_reducible first | exact HB.out | apply below_alloc | apply pw_below_drewN | apply below_drew1 | refine below_set ?_ GE365.out) | exact HB.out)⟩
    rw [if_neg c13] at H
    have c13b0 : (a0.toList == t357.toList) = false := beq_eq_false_iff_ne.mpr c13
    have c13b1 : (a0.toList != t357.toList) = true := bne_iff_ne.mpr c13
    have H' := Aside0.mk H
    clear H
    go_wp2_with (first | ((with_reducible refine gate_callee (f := 55) rfl ?_); refine gL_ 26 Try.func55 rfl #[.int .i64 x5_2] ?_; (with_reducible refine (spec_CurveOf.calls x5_2 t355 t356 t357 t358 t359 t360 t361 t362 t363 t364 _ A8.out).mono ?_); rintro e w17 ⟨rfl, hb⟩; refine ⟨_, rfl, ?_⟩; replace HB := Aside0.mk (below_step (pB_ HB.out) hb); clear hb) | ((with_reducible refine gate_dst (N := 6) rfl ?_); refine box_event ?hg (N := 6) ?hd (cs := #[.string (⟨#[]⟩ : ByteArray), .string (⟨#[]⟩ : ByteArray), .string (⟨#[]⟩ : ByteArray), .string (⟨#[]⟩ : ByteArray), .string (⟨#[]⟩ : ByteArray), .string (⟨#[]⟩ : ByteArray), .int .i64 0, .int .i64 0, .bool false]) (t := 60) ?hr ?_; (case hd => rfl); (case hg => rfl); (case hr => first | (go_simp; done) | (go_simp; rfl)); intro gb365 hg w18 hbox hb; have BK365 := Aside0.mk (hbox); have GW365 := Aside0.mk ((by rw [hg]; exact (below_size (pB_ HB.out)) : w.heap.size ≤ gb365)); have GE365 := Aside0.mk ((by rw [hg]; exact (below_size (pB_ HB.out)) : w.heap.size ≤ gb365)); replace HB := Aside0.mk (below_step (pB_ HB.out) hb); clear hb hbox hg; have hcz19_0 : w18.cell? ⟨gb365, 0, none⟩ = some (.string (⟨#[]⟩ : ByteArray)) := (blk_cell BK365.out 0).trans rfl; have hcz19_1 : w18.cell? ⟨gb365, 1, none⟩ = some (.string (⟨#[]⟩ : ByteArray)) := (blk_cell BK365.out 1).trans rfl; have hcz19_2 : w18.cell? ⟨gb365, 2, none⟩ = some (.string (⟨#[]⟩ : ByteArray)) := (blk_cell BK365.out 2).trans rfl; have hcz19_3 : w18.cell? ⟨gb365, 3, none⟩ = some (.string (⟨#[]⟩ : ByteArray)) := (blk_cell BK365.out 3).trans rfl; have hcz19_4 : w18.cell? ⟨gb365, 4, none⟩ = some (.string (⟨#[]⟩ : ByteArray)) := (blk_cell BK365.out 4).trans rfl; have hcz19_5 : w18.cell? ⟨gb365, 5, none⟩ = some (.string (⟨#[]⟩ : ByteArray)) := (blk_cell BK365.out 5).trans rfl; have hcz19_6 : w18.cell? ⟨gb365, 6, none⟩ = some (.int .i64 0) := (blk_cell BK365.out 6).trans rfl; have hcz19_7 : w18.cell? ⟨gb365, 7, none⟩ = some (.int .i64 0) := (blk_cell BK365.out 7).trans rfl; have hcz19_8 : w18.cell? ⟨gb365, 8, none⟩ = some (.bool false) := (blk_cell BK365.out 8).trans rfl; have hfz19_0 := blk_frozen BK365.out 0; have hfz19_1 := blk_frozen BK365.out 1; have hfz19_2 := blk_frozen BK365.out 2; have hfz19_3 := blk_frozen BK365.out 3; have hfz19_4 := blk_frozen BK365.out 4; have hfz19_5 := blk_frozen BK365.out 5; have hfz19_6 := blk_frozen BK365.out 6; have hfz19_7 := blk_frozen BK365.out 7; have hfz19_8 := blk_frozen BK365.out 8))
    go_roundg k2
    case measure => have := HJ2.out; have := HK2.out; omega
    case rel => exact ⟨(wrap64 (x5_2 + 1)), (by first | rfl | (simp; done) | (simp [*]; done)), H', ⟨by have := HJ2.out; have := HK2.out; omega⟩, ⟨by repeat (first | (with_reducible first | exact HB.out | apply below_alloc | apply pw_below_drewN | apply below_drew1 | refine below_set ?_ GE365.out) | exact HB.out)⟩⟩

end Go.Proofs.Ytohfimjpfnnpgaa.F
