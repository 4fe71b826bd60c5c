-- Made for this seat by a program of this session (wip/fork, wip/slim.py). Lean checks it.
import Derived.Test.YtohfimjpfnnpgaaFx0
import Derived.Test.YtohfimjpfnnpgaaZB0
import Derived.Test.YtohfimjpfnnpgaaZB1
import Derived.Test.YtohfimjpfnnpgaaZB4
namespace Go.Proofs.Ytohfimjpfnnpgaa.F
open Go.RowKit Go.Proofs.YtohfimjpfnnpgaaW.PrintWords Go.Proofs.YtohfimjpfnnpgaaW.PrintLast Go.Proofs.YtohfimjpfnnpgaaW.PrintMore
attribute [local go_sem] max2_int min2_int max_two min_two max_three min_three max_four min_four   -- for this text's walks alone
set_option linter.unusedVariables false
set_option linter.unusedSimpArgs false

/-! ### impl_greatPrime: function 92 -/
def impl_greatPrime.l0 : Nat → List Int → Int → Option (Bool)
  | 0, _, _ => none
  | k + 1, x0, x3 => if x3 ≤ 4 then ((impl_curve.f k x3).bind fun bt574 => ((impl_nat_cmp.f k x0 bt574.2.2.1).bind fun t610 => (if t610 = 0 then (some true) else ((impl_nat_cmp.f k x0 bt574.2.2.2.1).bind fun t611 => (if t611 = 0 then (some true) else (impl_greatPrime.l0 k x0 (wrap64 (x3 + 1)))))))) else (some false)
def impl_greatPrime.f (k : Nat) (l0 : List Int) : Option (Bool) := impl_greatPrime.l0 k l0 1
set_option maxHeartbeats 8000000 in
set_option maxRecDepth 100000 in
theorem impl_greatPrime.calls (k : Nat) (A0 : Option Addr) (c0 : Nat) (l0 : List Int) (r : Bool) (w : World) (hr0 : Kd.C (Kd.int .u64) w A0 l0.length l0) (hc0 : l0.length ≤ c0) (h : impl_greatPrime.f k l0 = some r) :
    Calls Try.prog 92 #[.slice A0 l0.length c0] w fun e w' => e = .returned (.bool r) ∧ Below w.heap.size w w' := by
  have hu72 := Try.underlying72
  have HR0 := Aside0.mk hr0
  have HC0 := Aside0.mk hc0
  clear hr0 hc0
  have HB := Aside0.mk (Below.refl w.heap.size w)
  have H : (impl_greatPrime.l0 k l0 1) = some r := h
  clear h
  have H' := Aside0.mk H
  clear H
  go_enter Try.func92, Try.ntmps92
  go_wp2
  go_loopg [3] k (fun kq v3 w' => ∃ (x3_1 : Int), v3 = .int .i64 x3_1 ∧ Aside0 (impl_greatPrime.l0 kq l0 x3_1 = some r) ∧ Aside0 (kq ≤ k) ∧ Aside0 (Below w.heap.size w w'))
  case atStart => exact ⟨(1), (by first | rfl | (simp; done) | (simp [*]; done)), H', ⟨Nat.le_refl _⟩, ⟨pB_ HB.out⟩⟩
  clear H'
  obtain ⟨x3_1, rfl, HA, HK1, HB⟩ := hrel
  rcases gk with _ | k1
  · exact absurd HA.out (by simp [impl_greatPrime.l0])
  have H := HA.out
  clear HA
  simp only [impl_greatPrime.l0] at H
  by_cases c2 : x3_1 ≤ 4
  rotate_left
  · rw [if_neg c2] at H
    have c2b0 : decide (x3_1 ≤ 4) = false := decide_eq_false c2
    clear c2
    obtain rfl := Option.some.inj H
    go_wp2
    go_ret
    exact ⟨by first | rfl | (simp [errW_none, errW_some] <;> rfl) | (simp [*, errW_none, errW_some] <;> rfl), pB_ HB.out⟩

  rw [if_pos c2] at H
  have c2b0 : decide (x3_1 ≤ 4) = true := decide_eq_true c2
  clear c2
  replace H := Option.bind_eq_some_iff.mp H
  obtain ⟨⟨t574, t575, t576, t579, t582, t585, t588, t591, t594, t597, t600, t603, t606⟩, A30, H⟩ := H
  replace H : ((impl_nat_cmp.f k1 l0 t576).bind fun t610 => (if t610 = 0 then (some true) else ((impl_nat_cmp.f k1 l0 t579).bind fun t611 => (if t611 = 0 then (some true) else (impl_greatPrime.l0 k1 l0 (wrap64 (x3_1 + 1))))))) = some r := H
  have A3 := Aside0.mk A30
  clear A30
  replace H := Option.bind_eq_some_iff.mp H
  obtain ⟨t610, A40, H⟩ := H
  have A4 := Aside0.mk A40
  clear A40
  by_cases c5 : t610 = 0
  · rw [if_pos c5] at H
    have c5b0 : (t610 == 0) = true := beq_iff_eq.mpr c5
    have c5b1 : (t610 != 0) = false := bne_eq_false_iff_eq.mpr c5
    clear c5
    obtain rfl := Option.some.inj H
    go_wp2_with (first | ((with_reducible refine gate_callee (f := 67) rfl ?_); refine gL_ 10 Try.func67 rfl #[.int .i64 x3_1] ?_; (with_reducible refine (impl_curve.calls k1 x3_1 t574 t575 t576 t579 t582 t585 t588 t591 t594 t597 t600 t603 t606 _ A3.out).mono ?_); rintro e w6 ⟨v577, v580, v583, v586, v589, v592, v595, v598, v601, v604, v607, rfl, ho0, ho1, ho2, ho3, ho4, ho5, ho6, ho7, ho8, ho9, ho10, hb⟩; refine ⟨_, rfl, ?_⟩; have HO578 := Aside0.mk (Kd.V_lower (Kd.V_mono (ok' := fun k_ => True) ho0 (fun k_ hk_ => trivial)) (below_size (pB_ HB.out))); have HO581 := Aside0.mk (Kd.V_lower (Kd.V_mono (ok' := fun k_ => True) ho1 (fun k_ hk_ => trivial)) (below_size (pB_ HB.out))); have HO584 := Aside0.mk (Kd.V_lower (Kd.V_mono (ok' := fun k_ => True) ho2 (fun k_ hk_ => trivial)) (below_size (pB_ HB.out))); have HO587 := Aside0.mk (Kd.V_lower (Kd.V_mono (ok' := fun k_ => True) ho3 (fun k_ hk_ => trivial)) (below_size (pB_ HB.out))); have HO590 := Aside0.mk (Kd.V_lower (Kd.V_mono (ok' := fun k_ => True) ho4 (fun k_ hk_ => trivial)) (below_size (pB_ HB.out))); have HO593 := Aside0.mk (Kd.V_lower (Kd.V_mono (ok' := fun k_ => True) ho5 (fun k_ hk_ => trivial)) (below_size (pB_ HB.out))); have HO596 := Aside0.mk (Kd.V_lower (Kd.V_mono (ok' := fun k_ => True) ho6 (fun k_ hk_ => trivial)) (below_size (pB_ HB.out))); have HO599 := Aside0.mk (Kd.V_lower (Kd.V_mono (ok' := fun k_ => True) ho7 (fun k_ hk_ => trivial)) (below_size (pB_ HB.out))); have HO602 := Aside0.mk (Kd.V_lower (Kd.V_mono (ok' := fun k_ => True) ho8 (fun k_ hk_ => trivial)) (below_size (pB_ HB.out))); have HO605 := Aside0.mk (Kd.V_lower (Kd.V_mono (ok' := fun k_ => True) ho9 (fun k_ hk_ => trivial)) (below_size (pB_ HB.out))); have HO608 := Aside0.mk (Kd.V_lower (Kd.V_mono (ok' := fun k_ => True) ho10 (fun k_ hk_ => trivial)) (below_size (pB_ HB.out))); replace HB := Aside0.mk (below_step (pB_ HB.out) hb); clear hb ho0 ho1 ho2 ho3 ho4 ho5 ho6 ho7 ho8 ho9 ho10) | ((with_reducible refine gate_dst (N := 4) rfl ?_); refine box_event ?hg (N := 4) ?hd (cs := #[.string (⟨#[]⟩ : ByteArray), .bool false, .slice none 0 0, .slice none 0 0, .slice none 0 0, .slice none 0 0, .slice none 0 0, .slice none 0 0, .slice none 0 0, .slice none 0 0, .slice none 0 0, .slice none 0 0, .slice none 0 0]) (t := 72) ?hr ?_; (case hd => rfl); (case hg => rfl); (case hr => first | (go_simp; done) | (go_simp; rfl)); intro gb609 hg w7 hbox hb; replace HO578 := Aside0.mk (Kd.V_below (Kd.V_elderB (pV_ HO578.out) gb609 (Nat.le_of_eq hg.symm)) hb); replace HO581 := Aside0.mk (Kd.V_below (Kd.V_elderB (pV_ HO581.out) gb609 (Nat.le_of_eq hg.symm)) hb); replace HO584 := Aside0.mk (Kd.V_below (Kd.V_elderB (pV_ HO584.out) gb609 (Nat.le_of_eq hg.symm)) hb); replace HO587 := Aside0.mk (Kd.V_below (Kd.V_elderB (pV_ HO587.out) gb609 (Nat.le_of_eq hg.symm)) hb); replace HO590 := Aside0.mk (Kd.V_below (Kd.V_elderB (pV_ HO590.out) gb609 (Nat.le_of_eq hg.symm)) hb); replace HO593 := Aside0.mk (Kd.V_below (Kd.V_elderB (pV_ HO593.out) gb609 (Nat.le_of_eq hg.symm)) hb); replace HO596 := Aside0.mk (Kd.V_below (Kd.V_elderB (pV_ HO596.out) gb609 (Nat.le_of_eq hg.symm)) hb); replace HO599 := Aside0.mk (Kd.V_below (Kd.V_elderB (pV_ HO599.out) gb609 (Nat.le_of_eq hg.symm)) hb); replace HO602 := Aside0.mk (Kd.V_below (Kd.V_elderB (pV_ HO602.out) gb609 (Nat.le_of_eq hg.symm)) hb); replace HO605 := Aside0.mk (Kd.V_below (Kd.V_elderB (pV_ HO605.out) gb609 (Nat.le_of_eq hg.symm)) hb); replace HO608 := Aside0.mk (Kd.V_below (Kd.V_elderB (pV_ HO608.out) gb609 (Nat.le_of_eq hg.symm)) hb); have BK609 := Aside0.mk (hbox); have GW609 := Aside0.mk ((by rw [hg]; exact (below_size (pB_ HB.out)) : w.heap.size ≤ gb609)); have GE609 := Aside0.mk ((by rw [hg]; exact (below_size (pB_ HB.out)) : w.heap.size ≤ gb609)); replace HB := Aside0.mk (below_step (pB_ HB.out) hb); clear hb hbox hg; have hcz8_0 : w7.cell? ⟨gb609, 0, none⟩ = some (.string (⟨#[]⟩ : ByteArray)) := (blk_cell BK609.out 0).trans rfl; have hcz8_1 : w7.cell? ⟨gb609, 1, none⟩ = some (.bool false) := (blk_cell BK609.out 1).trans rfl; have hcz8_2 : w7.cell? ⟨gb609, 2, none⟩ = some (.slice none 0 0) := (blk_cell BK609.out 2).trans rfl; have hcz8_3 : w7.cell? ⟨gb609, 3, none⟩ = some (.slice none 0 0) := (blk_cell BK609.out 3).trans rfl; have hcz8_4 : w7.cell? ⟨gb609, 4, none⟩ = some (.slice none 0 0) := (blk_cell BK609.out 4).trans rfl; have hcz8_5 : w7.cell? ⟨gb609, 5, none⟩ = some (.slice none 0 0) := (blk_cell BK609.out 5).trans rfl; have hcz8_6 : w7.cell? ⟨gb609, 6, none⟩ = some (.slice none 0 0) := (blk_cell BK609.out 6).trans rfl; have hcz8_7 : w7.cell? ⟨gb609, 7, none⟩ = some (.slice none 0 0) := (blk_cell BK609.out 7).trans rfl; have hcz8_8 : w7.cell? ⟨gb609, 8, none⟩ = some (.slice none 0 0) := (blk_cell BK609.out 8).trans rfl; have hcz8_9 : w7.cell? ⟨gb609, 9, none⟩ = some (.slice none 0 0) := (blk_cell BK609.out 9).trans rfl; have hcz8_10 : w7.cell? ⟨gb609, 10, none⟩ = some (.slice none 0 0) := (blk_cell BK609.out 10).trans rfl; have hcz8_11 : w7.cell? ⟨gb609, 11, none⟩ = some (.slice none 0 0) := (blk_cell BK609.out 11).trans rfl; have hcz8_12 : w7.cell? ⟨gb609, 12, none⟩ = some (.slice none 0 0) := (blk_cell BK609.out 12).trans rfl; have hfz8_0 := blk_frozen BK609.out 0; have hfz8_1 := blk_frozen BK609.out 1; have hfz8_2 := blk_frozen BK609.out 2; have hfz8_3 := blk_frozen BK609.out 3; have hfz8_4 := blk_frozen BK609.out 4; have hfz8_5 := blk_frozen BK609.out 5; have hfz8_6 := blk_frozen BK609.out 6; have hfz8_7 := blk_frozen BK609.out 7; have hfz8_8 := blk_frozen BK609.out 8; have hfz8_9 := blk_frozen BK609.out 9; have hfz8_10 := blk_frozen BK609.out 10; have hfz8_11 := blk_frozen BK609.out 11; have hfz8_12 := blk_frozen BK609.out 12; obtain ⟨Ao9, co9, eo9⟩ := Kd.V_slice HO578.out; subst eo9; obtain ⟨Ao10, co10, eo10⟩ := Kd.V_slice HO581.out; subst eo10; obtain ⟨Ao11, co11, eo11⟩ := Kd.V_slice HO584.out; subst eo11; obtain ⟨Ao12, co12, eo12⟩ := Kd.V_slice HO587.out; subst eo12; obtain ⟨Ao13, co13, eo13⟩ := Kd.V_slice HO590.out; subst eo13; obtain ⟨Ao14, co14, eo14⟩ := Kd.V_slice HO593.out; subst eo14; obtain ⟨Ao15, co15, eo15⟩ := Kd.V_slice HO596.out; subst eo15; obtain ⟨Ao16, co16, eo16⟩ := Kd.V_slice HO599.out; subst eo16; obtain ⟨Ao17, co17, eo17⟩ := Kd.V_slice HO602.out; subst eo17; obtain ⟨Ao18, co18, eo18⟩ := Kd.V_slice HO605.out; subst eo18; obtain ⟨Ao19, co19, eo19⟩ := Kd.V_slice HO608.out; subst eo19) | ((with_reducible refine gate_callee (f := 87) rfl ?_); refine gL_ 14 Try.func87 rfl #[.slice A0 l0.length c0, .slice Ao9 t576.length co9] ?_; (with_reducible refine (impl_nat_cmp.calls k1 _ _ l0 _ _ t576 t610 _ ?side1 ?side2 ?side3 ?side4 A4.out).mono ?_); (case side1 => exact Kd.C_below HR0.out (by repeat (first | (with_reducible first | exact HB.out | apply below_alloc | apply pw_below_drewN | apply below_drew1 | refine below_set ?_ GE609.out) | exact HB.out))); (case side2 => exact HC0.out); (case side3 => refine (Kd.V_reads' (e := 89) (base := w.heap.size) (ok := fun k_ => (True ∧ k_ ≠ gb609)) (n := t576.length) (c := co9) ?_).2.2; exact (pV_ ((Kd.V_mono (Kd.V_far (p := ⟨gb609, 12, none⟩) (Kd.V_far (p := ⟨gb609, 11, none⟩) (Kd.V_far (p := ⟨gb609, 10, none⟩) (Kd.V_far (p := ⟨gb609, 9, none⟩) (Kd.V_far (p := ⟨gb609, 8, none⟩) (Kd.V_far (p := ⟨gb609, 7, none⟩) (Kd.V_far (p := ⟨gb609, 6, none⟩) (Kd.V_far (p := ⟨gb609, 5, none⟩) (Kd.V_far (p := ⟨gb609, 4, none⟩) (Kd.V_far (p := ⟨gb609, 3, none⟩) (Kd.V_far (p := ⟨gb609, 2, none⟩) (Kd.V_far (p := ⟨gb609, 1, none⟩) (Kd.V_far (p := ⟨gb609, 0, none⟩) (Kd.V_mono HO578.out (fun k_ hk => (⟨hk, hk.2⟩ : _ ∧ k_ ≠ gb609))) (fun _ hk => hk.2) (.string t574)) (fun _ hk => hk.2) (.bool t575)) (fun _ hk => hk.2) (.slice Ao9 t576.length co9)) (fun _ hk => hk.2) (.slice Ao10 t579.length co10)) (fun _ hk => hk.2) (.slice Ao11 t582.length co11)) (fun _ hk => hk.2) (.slice Ao12 t585.length co12)) (fun _ hk => hk.2) (.slice Ao13 t588.length co13)) (fun _ hk => hk.2) (.slice Ao14 t591.length co14)) (fun _ hk => hk.2) (.slice Ao15 t594.length co15)) (fun _ hk => hk.2) (.slice Ao16 t597.length co16)) (fun _ hk => hk.2) (.slice Ao17 t600.length co17)) (fun _ hk => hk.2) (.slice Ao18 t603.length co18)) (fun _ hk => hk.2) (.slice Ao19 t606.length co19)) (fun _ h_ => h_.1))))); (case side4 => exact (Kd.V_reads' HO578.out).2.1); rintro e w' ⟨rfl, ⟨nd, rfl⟩⟩; refine ⟨_, rfl, ?_⟩))
    go_ret
    exact ⟨by first | rfl | (simp [errW_none, errW_some] <;> rfl) | (simp [*, errW_none, errW_some] <;> rfl), by repeat (first | (with_reducible first | exact HB.out | apply below_alloc | apply pw_below_drewN | apply below_drew1 | refine below_set ?_ GE609.out) | exact HB.out)⟩
  rw [if_neg c5] at H
  have c5b0 : (t610 == 0) = false := beq_eq_false_iff_ne.mpr c5
  have c5b1 : (t610 != 0) = true := bne_iff_ne.mpr c5
  replace H := Option.bind_eq_some_iff.mp H
  obtain ⟨t611, A200, H⟩ := H
  have A20 := Aside0.mk A200
  clear A200
  by_cases c21 : t611 = 0
  · rw [if_pos c21] at H
    have c21b0 : (t611 == 0) = true := beq_iff_eq.mpr c21
    have c21b1 : (t611 != 0) = false := bne_eq_false_iff_eq.mpr c21
    clear c21
    obtain rfl := Option.some.inj H
    go_wp2_with (first | ((with_reducible refine gate_callee (f := 67) rfl ?_); refine gL_ 10 Try.func67 rfl #[.int .i64 x3_1] ?_; (with_reducible refine (impl_curve.calls k1 x3_1 t574 t575 t576 t579 t582 t585 t588 t591 t594 t597 t600 t603 t606 _ A3.out).mono ?_); rintro e w22 ⟨v577, v580, v583, v586, v589, v592, v595, v598, v601, v604, v607, rfl, ho0, ho1, ho2, ho3, ho4, ho5, ho6, ho7, ho8, ho9, ho10, hb⟩; refine ⟨_, rfl, ?_⟩; have HO578 := Aside0.mk (Kd.V_lower (Kd.V_mono (ok' := fun k_ => True) ho0 (fun k_ hk_ => trivial)) (below_size (pB_ HB.out))); have HO581 := Aside0.mk (Kd.V_lower (Kd.V_mono (ok' := fun k_ => True) ho1 (fun k_ hk_ => trivial)) (below_size (pB_ HB.out))); have HO584 := Aside0.mk (Kd.V_lower (Kd.V_mono (ok' := fun k_ => True) ho2 (fun k_ hk_ => trivial)) (below_size (pB_ HB.out))); have HO587 := Aside0.mk (Kd.V_lower (Kd.V_mono (ok' := fun k_ => True) ho3 (fun k_ hk_ => trivial)) (below_size (pB_ HB.out))); have HO590 := Aside0.mk (Kd.V_lower (Kd.V_mono (ok' := fun k_ => True) ho4 (fun k_ hk_ => trivial)) (below_size (pB_ HB.out))); have HO593 := Aside0.mk (Kd.V_lower (Kd.V_mono (ok' := fun k_ => True) ho5 (fun k_ hk_ => trivial)) (below_size (pB_ HB.out))); have HO596 := Aside0.mk (Kd.V_lower (Kd.V_mono (ok' := fun k_ => True) ho6 (fun k_ hk_ => trivial)) (below_size (pB_ HB.out))); have HO599 := Aside0.mk (Kd.V_lower (Kd.V_mono (ok' := fun k_ => True) ho7 (fun k_ hk_ => trivial)) (below_size (pB_ HB.out))); have HO602 := Aside0.mk (Kd.V_lower (Kd.V_mono (ok' := fun k_ => True) ho8 (fun k_ hk_ => trivial)) (below_size (pB_ HB.out))); have HO605 := Aside0.mk (Kd.V_lower (Kd.V_mono (ok' := fun k_ => True) ho9 (fun k_ hk_ => trivial)) (below_size (pB_ HB.out))); have HO608 := Aside0.mk (Kd.V_lower (Kd.V_mono (ok' := fun k_ => True) ho10 (fun k_ hk_ => trivial)) (below_size (pB_ HB.out))); replace HB := Aside0.mk (below_step (pB_ HB.out) hb); clear hb ho0 ho1 ho2 ho3 ho4 ho5 ho6 ho7 ho8 ho9 ho10) | ((with_reducible refine gate_dst (N := 4) rfl ?_); refine box_event ?hg (N := 4) ?hd (cs := #[.string (⟨#[]⟩ : ByteArray), .bool false, .slice none 0 0, .slice none 0 0, .slice none 0 0, .slice none 0 0, .slice none 0 0, .slice none 0 0, .slice none 0 0, .slice none 0 0, .slice none 0 0, .slice none 0 0, .slice none 0 0]) (t := 72) ?hr ?_; (case hd => rfl); (case hg => rfl); (case hr => first | (go_simp; done) | (go_simp; rfl)); intro gb609 hg w23 hbox hb; replace HO578 := Aside0.mk (Kd.V_below (Kd.V_elderB (pV_ HO578.out) gb609 (Nat.le_of_eq hg.symm)) hb); replace HO581 := Aside0.mk (Kd.V_below (Kd.V_elderB (pV_ HO581.out) gb609 (Nat.le_of_eq hg.symm)) hb); replace HO584 := Aside0.mk (Kd.V_below (Kd.V_elderB (pV_ HO584.out) gb609 (Nat.le_of_eq hg.symm)) hb); replace HO587 := Aside0.mk (Kd.V_below (Kd.V_elderB (pV_ HO587.out) gb609 (Nat.le_of_eq hg.symm)) hb); replace HO590 := Aside0.mk (Kd.V_below (Kd.V_elderB (pV_ HO590.out) gb609 (Nat.le_of_eq hg.symm)) hb); replace HO593 := Aside0.mk (Kd.V_below (Kd.V_elderB (pV_ HO593.out) gb609 (Nat.le_of_eq hg.symm)) hb); replace HO596 := Aside0.mk (Kd.V_below (Kd.V_elderB (pV_ HO596.out) gb609 (Nat.le_of_eq hg.symm)) hb); replace HO599 := Aside0.mk (Kd.V_below (Kd.V_elderB (pV_ HO599.out) gb609 (Nat.le_of_eq hg.symm)) hb); replace HO602 := Aside0.mk (Kd.V_below (Kd.V_elderB (pV_ HO602.out) gb609 (Nat.le_of_eq hg.symm)) hb); replace HO605 := Aside0.mk (Kd.V_below (Kd.V_elderB (pV_ HO605.out) gb609 (Nat.le_of_eq hg.symm)) hb); replace HO608 := Aside0.mk (Kd.V_below (Kd.V_elderB (pV_ HO608.out) gb609 (Nat.le_of_eq hg.symm)) hb); have BK609 := Aside0.mk (hbox); have GW609 := Aside0.mk ((by rw [hg]; exact (below_size (pB_ HB.out)) : w.heap.size ≤ gb609)); have GE609 := Aside0.mk ((by rw [hg]; exact (below_size (pB_ HB.out)) : w.heap.size ≤ gb609)); replace HB := Aside0.mk (below_step (pB_ HB.out) hb); clear hb hbox hg; have hcz24_0 : w23.cell? ⟨gb609, 0, none⟩ = some (.string (⟨#[]⟩ : ByteArray)) := (blk_cell BK609.out 0).trans rfl; have hcz24_1 : w23.cell? ⟨gb609, 1, none⟩ = some (.bool false) := (blk_cell BK609.out 1).trans rfl; have hcz24_2 : w23.cell? ⟨gb609, 2, none⟩ = some (.slice none 0 0) := (blk_cell BK609.out 2).trans rfl; have hcz24_3 : w23.cell? ⟨gb609, 3, none⟩ = some (.slice none 0 0) := (blk_cell BK609.out 3).trans rfl; have hcz24_4 : w23.cell? ⟨gb609, 4, none⟩ = some (.slice none 0 0) := (blk_cell BK609.out 4).trans rfl; have hcz24_5 : w23.cell? ⟨gb609, 5, none⟩ = some (.slice none 0 0) := (blk_cell BK609.out 5).trans rfl; have hcz24_6 : w23.cell? ⟨gb609, 6, none⟩ = some (.slice none 0 0) := (blk_cell BK609.out 6).trans rfl; have hcz24_7 : w23.cell? ⟨gb609, 7, none⟩ = some (.slice none 0 0) := (blk_cell BK609.out 7).trans rfl; have hcz24_8 : w23.cell? ⟨gb609, 8, none⟩ = some (.slice none 0 0) := (blk_cell BK609.out 8).trans rfl; have hcz24_9 : w23.cell? ⟨gb609, 9, none⟩ = some (.slice none 0 0) := (blk_cell BK609.out 9).trans rfl; have hcz24_10 : w23.cell? ⟨gb609, 10, none⟩ = some (.slice none 0 0) := (blk_cell BK609.out 10).trans rfl; have hcz24_11 : w23.cell? ⟨gb609, 11, none⟩ = some (.slice none 0 0) := (blk_cell BK609.out 11).trans rfl; have hcz24_12 : w23.cell? ⟨gb609, 12, none⟩ = some (.slice none 0 0) := (blk_cell BK609.out 12).trans rfl; have hfz24_0 := blk_frozen BK609.out 0; have hfz24_1 := blk_frozen BK609.out 1; have hfz24_2 := blk_frozen BK609.out 2; have hfz24_3 := blk_frozen BK609.out 3; have hfz24_4 := blk_frozen BK609.out 4; have hfz24_5 := blk_frozen BK609.out 5; have hfz24_6 := blk_frozen BK609.out 6; have hfz24_7 := blk_frozen BK609.out 7; have hfz24_8 := blk_frozen BK609.out 8; have hfz24_9 := blk_frozen BK609.out 9; have hfz24_10 := blk_frozen BK609.out 10; have hfz24_11 := blk_frozen BK609.out 11; have hfz24_12 := blk_frozen BK609.out 12; obtain ⟨Ao25, co25, eo25⟩ := Kd.V_slice HO578.out; subst eo25; obtain ⟨Ao26, co26, eo26⟩ := Kd.V_slice HO581.out; subst eo26; obtain ⟨Ao27, co27, eo27⟩ := Kd.V_slice HO584.out; subst eo27; obtain ⟨Ao28, co28, eo28⟩ := Kd.V_slice HO587.out; subst eo28; obtain ⟨Ao29, co29, eo29⟩ := Kd.V_slice HO590.out; subst eo29; obtain ⟨Ao30, co30, eo30⟩ := Kd.V_slice HO593.out; subst eo30; obtain ⟨Ao31, co31, eo31⟩ := Kd.V_slice HO596.out; subst eo31; obtain ⟨Ao32, co32, eo32⟩ := Kd.V_slice HO599.out; subst eo32; obtain ⟨Ao33, co33, eo33⟩ := Kd.V_slice HO602.out; subst eo33; obtain ⟨Ao34, co34, eo34⟩ := Kd.V_slice HO605.out; subst eo34; obtain ⟨Ao35, co35, eo35⟩ := Kd.V_slice HO608.out; subst eo35) | ((with_reducible refine gate_callee (f := 87) rfl ?_); refine gL_ 14 Try.func87 rfl #[.slice A0 l0.length c0, .slice Ao25 t576.length co25] ?_; (with_reducible refine (impl_nat_cmp.calls k1 _ _ l0 _ _ t576 t610 _ ?side1 ?side2 ?side3 ?side4 A4.out).mono ?_); (case side1 => exact Kd.C_below HR0.out (by repeat (first | (with_reducible first | exact HB.out | apply below_alloc | apply pw_below_drewN | apply below_drew1 | refine below_set ?_ GE609.out) | exact HB.out))); (case side2 => exact HC0.out); (case side3 => refine (Kd.V_reads' (e := 89) (base := w.heap.size) (ok := fun k_ => (True ∧ k_ ≠ gb609)) (n := t576.length) (c := co25) ?_).2.2; exact (pV_ ((Kd.V_mono (Kd.V_far (p := ⟨gb609, 12, none⟩) (Kd.V_far (p := ⟨gb609, 11, none⟩) (Kd.V_far (p := ⟨gb609, 10, none⟩) (Kd.V_far (p := ⟨gb609, 9, none⟩) (Kd.V_far (p := ⟨gb609, 8, none⟩) (Kd.V_far (p := ⟨gb609, 7, none⟩) (Kd.V_far (p := ⟨gb609, 6, none⟩) (Kd.V_far (p := ⟨gb609, 5, none⟩) (Kd.V_far (p := ⟨gb609, 4, none⟩) (Kd.V_far (p := ⟨gb609, 3, none⟩) (Kd.V_far (p := ⟨gb609, 2, none⟩) (Kd.V_far (p := ⟨gb609, 1, none⟩) (Kd.V_far (p := ⟨gb609, 0, none⟩) (Kd.V_mono HO578.out (fun k_ hk => (⟨hk, hk.2⟩ : _ ∧ k_ ≠ gb609))) (fun _ hk => hk.2) (.string t574)) (fun _ hk => hk.2) (.bool t575)) (fun _ hk => hk.2) (.slice Ao25 t576.length co25)) (fun _ hk => hk.2) (.slice Ao26 t579.length co26)) (fun _ hk => hk.2) (.slice Ao27 t582.length co27)) (fun _ hk => hk.2) (.slice Ao28 t585.length co28)) (fun _ hk => hk.2) (.slice Ao29 t588.length co29)) (fun _ hk => hk.2) (.slice Ao30 t591.length co30)) (fun _ hk => hk.2) (.slice Ao31 t594.length co31)) (fun _ hk => hk.2) (.slice Ao32 t597.length co32)) (fun _ hk => hk.2) (.slice Ao33 t600.length co33)) (fun _ hk => hk.2) (.slice Ao34 t603.length co34)) (fun _ hk => hk.2) (.slice Ao35 t606.length co35)) (fun _ h_ => h_.1))))); (case side4 => exact (Kd.V_reads' HO578.out).2.1); rintro e w' ⟨rfl, ⟨nd, rfl⟩⟩; refine ⟨_, rfl, ?_⟩) | (go_at_call 87; (with_reducible refine (impl_nat_cmp.calls k1 _ _ l0 _ _ t579 t611 _ ?side1 ?side2 ?side3 ?side4 A20.out).mono ?_); (case side1 => exact Kd.C_below HR0.out (by repeat (first | (with_reducible first | exact HB.out | apply below_alloc | apply pw_below_drewN | apply below_drew1 | refine below_set ?_ GE609.out) | exact HB.out))); (case side2 => exact HC0.out); (case side3 => refine (Kd.V_reads' (e := 89) (base := w.heap.size) (ok := fun k_ => (True ∧ k_ ≠ gb609)) (n := t579.length) (c := co26) ?_).2.2; exact (pV_ ((Kd.V_mono (Kd.V_far (p := ⟨gb609, 12, none⟩) (Kd.V_far (p := ⟨gb609, 11, none⟩) (Kd.V_far (p := ⟨gb609, 10, none⟩) (Kd.V_far (p := ⟨gb609, 9, none⟩) (Kd.V_far (p := ⟨gb609, 8, none⟩) (Kd.V_far (p := ⟨gb609, 7, none⟩) (Kd.V_far (p := ⟨gb609, 6, none⟩) (Kd.V_far (p := ⟨gb609, 5, none⟩) (Kd.V_far (p := ⟨gb609, 4, none⟩) (Kd.V_far (p := ⟨gb609, 3, none⟩) (Kd.V_far (p := ⟨gb609, 2, none⟩) (Kd.V_far (p := ⟨gb609, 1, none⟩) (Kd.V_far (p := ⟨gb609, 0, none⟩) (Kd.V_mono HO581.out (fun k_ hk => (⟨hk, hk.2⟩ : _ ∧ k_ ≠ gb609))) (fun _ hk => hk.2) (.string t574)) (fun _ hk => hk.2) (.bool t575)) (fun _ hk => hk.2) (.slice Ao25 t576.length co25)) (fun _ hk => hk.2) (.slice Ao26 t579.length co26)) (fun _ hk => hk.2) (.slice Ao27 t582.length co27)) (fun _ hk => hk.2) (.slice Ao28 t585.length co28)) (fun _ hk => hk.2) (.slice Ao29 t588.length co29)) (fun _ hk => hk.2) (.slice Ao30 t591.length co30)) (fun _ hk => hk.2) (.slice Ao31 t594.length co31)) (fun _ hk => hk.2) (.slice Ao32 t597.length co32)) (fun _ hk => hk.2) (.slice Ao33 t600.length co33)) (fun _ hk => hk.2) (.slice Ao34 t603.length co34)) (fun _ hk => hk.2) (.slice Ao35 t606.length co35)) (fun _ h_ => h_.1))))); (case side4 => exact (Kd.V_reads' HO581.out).2.1); rintro e w' ⟨rfl, ⟨nd, rfl⟩⟩))
    go_ret
    exact ⟨by first | rfl | (simp [errW_none, errW_some] <;> rfl) | (simp [*, errW_none, errW_some] <;> rfl), by repeat (first | (with_reducible first | exact HB.out | apply below_alloc | apply pw_below_drewN | apply below_drew1 | refine below_set ?_ GE609.out) | exact HB.out)⟩
  rw [if_neg c21] at H
  have c21b0 : (t611 == 0) = false := beq_eq_false_iff_ne.mpr c21
  have c21b1 : (t611 != 0) = true := bne_iff_ne.mpr c21
  have H' := Aside0.mk H
  clear H
  go_wp2_with (first | ((with_reducible refine gate_callee (f := 67) rfl ?_); refine gL_ 10 Try.func67 rfl #[.int .i64 x3_1] ?_; (with_reducible refine (impl_curve.calls k1 x3_1 t574 t575 t576 t579 t582 t585 t588 t591 t594 t597 t600 t603 t606 _ A3.out).mono ?_); rintro e w36 ⟨v577, v580, v583, v586, v589, v592, v595, v598, v601, v604, v607, rfl, ho0, ho1, ho2, ho3, ho4, ho5, ho6, ho7, ho8, ho9, ho10, hb⟩; refine ⟨_, rfl, ?_⟩; have HO578 := Aside0.mk (Kd.V_lower (Kd.V_mono (ok' := fun k_ => True) ho0 (fun k_ hk_ => trivial)) (below_size (pB_ HB.out))); have HO581 := Aside0.mk (Kd.V_lower (Kd.V_mono (ok' := fun k_ => True) ho1 (fun k_ hk_ => trivial)) (below_size (pB_ HB.out))); have HO584 := Aside0.mk (Kd.V_lower (Kd.V_mono (ok' := fun k_ => True) ho2 (fun k_ hk_ => trivial)) (below_size (pB_ HB.out))); have HO587 := Aside0.mk (Kd.V_lower (Kd.V_mono (ok' := fun k_ => True) ho3 (fun k_ hk_ => trivial)) (below_size (pB_ HB.out))); have HO590 := Aside0.mk (Kd.V_lower (Kd.V_mono (ok' := fun k_ => True) ho4 (fun k_ hk_ => trivial)) (below_size (pB_ HB.out))); have HO593 := Aside0.mk (Kd.V_lower (Kd.V_mono (ok' := fun k_ => True) ho5 (fun k_ hk_ => trivial)) (below_size (pB_ HB.out))); have HO596 := Aside0.mk (Kd.V_lower (Kd.V_mono (ok' := fun k_ => True) ho6 (fun k_ hk_ => trivial)) (below_size (pB_ HB.out))); have HO599 := Aside0.mk (Kd.V_lower (Kd.V_mono (ok' := fun k_ => True) ho7 (fun k_ hk_ => trivial)) (below_size (pB_ HB.out))); have HO602 := Aside0.mk (Kd.V_lower (Kd.V_mono (ok' := fun k_ => True) ho8 (fun k_ hk_ => trivial)) (below_size (pB_ HB.out))); have HO605 := Aside0.mk (Kd.V_lower (Kd.V_mono (ok' := fun k_ => True) ho9 (fun k_ hk_ => trivial)) (below_size (pB_ HB.out))); have HO608 := Aside0.mk (Kd.V_lower (Kd.V_mono (ok' := fun k_ => True) ho10 (fun k_ hk_ => trivial)) (below_size (pB_ HB.out))); replace HB := Aside0.mk (below_step (pB_ HB.out) hb); clear hb ho0 ho1 ho2 ho3 ho4 ho5 ho6 ho7 ho8 ho9 ho10) | ((with_reducible refine gate_dst (N := 4) rfl ?_); refine box_event ?hg (N := 4) ?hd (cs := #[.string (⟨#[]⟩ : ByteArray), .bool false, .slice none 0 0, .slice none 0 0, .slice none 0 0, .slice none 0 0, .slice none 0 0, .slice none 0 0, .slice none 0 0, .slice none 0 0, .slice none 0 0, .slice none 0 0, .slice none 0 0]) (t := 72) ?hr ?_; (case hd => rfl); (case hg => rfl); (case hr => first | (go_simp; done) | (go_simp; rfl)); intro gb609 hg w37 hbox hb; replace HO578 := Aside0.mk (Kd.V_below (Kd.V_elderB (pV_ HO578.out) gb609 (Nat.le_of_eq hg.symm)) hb); replace HO581 := Aside0.mk (Kd.V_below (Kd.V_elderB (pV_ HO581.out) gb609 (Nat.le_of_eq hg.symm)) hb); replace HO584 := Aside0.mk (Kd.V_below (Kd.V_elderB (pV_ HO584.out) gb609 (Nat.le_of_eq hg.symm)) hb); replace HO587 := Aside0.mk (Kd.V_below (Kd.V_elderB (pV_ HO587.out) gb609 (Nat.le_of_eq hg.symm)) hb); replace HO590 := Aside0.mk (Kd.V_below (Kd.V_elderB (pV_ HO590.out) gb609 (Nat.le_of_eq hg.symm)) hb); replace HO593 := Aside0.mk (Kd.V_below (Kd.V_elderB (pV_ HO593.out) gb609 (Nat.le_of_eq hg.symm)) hb); replace HO596 := Aside0.mk (Kd.V_below (Kd.V_elderB (pV_ HO596.out) gb609 (Nat.le_of_eq hg.symm)) hb); replace HO599 := Aside0.mk (Kd.V_below (Kd.V_elderB (pV_ HO599.out) gb609 (Nat.le_of_eq hg.symm)) hb); replace HO602 := Aside0.mk (Kd.V_below (Kd.V_elderB (pV_ HO602.out) gb609 (Nat.le_of_eq hg.symm)) hb); replace HO605 := Aside0.mk (Kd.V_below (Kd.V_elderB (pV_ HO605.out) gb609 (Nat.le_of_eq hg.symm)) hb); replace HO608 := Aside0.mk (Kd.V_below (Kd.V_elderB (pV_ HO608.out) gb609 (Nat.le_of_eq hg.symm)) hb); have BK609 := Aside0.mk (hbox); have GW609 := Aside0.mk ((by rw [hg]; exact (below_size (pB_ HB.out)) : w.heap.size ≤ gb609)); have GE609 := Aside0.mk ((by rw [hg]; exact (below_size (pB_ HB.out)) : w.heap.size ≤ gb609)); replace HB := Aside0.mk (below_step (pB_ HB.out) hb); clear hb hbox hg; have hcz38_0 : w37.cell? ⟨gb609, 0, none⟩ = some (.string (⟨#[]⟩ : ByteArray)) := (blk_cell BK609.out 0).trans rfl; have hcz38_1 : w37.cell? ⟨gb609, 1, none⟩ = some (.bool false) := (blk_cell BK609.out 1).trans rfl; have hcz38_2 : w37.cell? ⟨gb609, 2, none⟩ = some (.slice none 0 0) := (blk_cell BK609.out 2).trans rfl; have hcz38_3 : w37.cell? ⟨gb609, 3, none⟩ = some (.slice none 0 0) := (blk_cell BK609.out 3).trans rfl; have hcz38_4 : w37.cell? ⟨gb609, 4, none⟩ = some (.slice none 0 0) := (blk_cell BK609.out 4).trans rfl; have hcz38_5 : w37.cell? ⟨gb609, 5, none⟩ = some (.slice none 0 0) := (blk_cell BK609.out 5).trans rfl; have hcz38_6 : w37.cell? ⟨gb609, 6, none⟩ = some (.slice none 0 0) := (blk_cell BK609.out 6).trans rfl; have hcz38_7 : w37.cell? ⟨gb609, 7, none⟩ = some (.slice none 0 0) := (blk_cell BK609.out 7).trans rfl; have hcz38_8 : w37.cell? ⟨gb609, 8, none⟩ = some (.slice none 0 0) := (blk_cell BK609.out 8).trans rfl; have hcz38_9 : w37.cell? ⟨gb609, 9, none⟩ = some (.slice none 0 0) := (blk_cell BK609.out 9).trans rfl; have hcz38_10 : w37.cell? ⟨gb609, 10, none⟩ = some (.slice none 0 0) := (blk_cell BK609.out 10).trans rfl; have hcz38_11 : w37.cell? ⟨gb609, 11, none⟩ = some (.slice none 0 0) := (blk_cell BK609.out 11).trans rfl; have hcz38_12 : w37.cell? ⟨gb609, 12, none⟩ = some (.slice none 0 0) := (blk_cell BK609.out 12).trans rfl; have hfz38_0 := blk_frozen BK609.out 0; have hfz38_1 := blk_frozen BK609.out 1; have hfz38_2 := blk_frozen BK609.out 2; have hfz38_3 := blk_frozen BK609.out 3; have hfz38_4 := blk_frozen BK609.out 4; have hfz38_5 := blk_frozen BK609.out 5; have hfz38_6 := blk_frozen BK609.out 6; have hfz38_7 := blk_frozen BK609.out 7; have hfz38_8 := blk_frozen BK609.out 8; have hfz38_9 := blk_frozen BK609.out 9; have hfz38_10 := blk_frozen BK609.out 10; have hfz38_11 := blk_frozen BK609.out 11; have hfz38_12 := blk_frozen BK609.out 12; obtain ⟨Ao39, co39, eo39⟩ := Kd.V_slice HO578.out; subst eo39; obtain ⟨Ao40, co40, eo40⟩ := Kd.V_slice HO581.out; subst eo40; obtain ⟨Ao41, co41, eo41⟩ := Kd.V_slice HO584.out; subst eo41; obtain ⟨Ao42, co42, eo42⟩ := Kd.V_slice HO587.out; subst eo42; obtain ⟨Ao43, co43, eo43⟩ := Kd.V_slice HO590.out; subst eo43; obtain ⟨Ao44, co44, eo44⟩ := Kd.V_slice HO593.out; subst eo44; obtain ⟨Ao45, co45, eo45⟩ := Kd.V_slice HO596.out; subst eo45; obtain ⟨Ao46, co46, eo46⟩ := Kd.V_slice HO599.out; subst eo46; obtain ⟨Ao47, co47, eo47⟩ := Kd.V_slice HO602.out; subst eo47; obtain ⟨Ao48, co48, eo48⟩ := Kd.V_slice HO605.out; subst eo48; obtain ⟨Ao49, co49, eo49⟩ := Kd.V_slice HO608.out; subst eo49) | ((with_reducible refine gate_callee (f := 87) rfl ?_); refine gL_ 14 Try.func87 rfl #[.slice A0 l0.length c0, .slice Ao39 t576.length co39] ?_; (with_reducible refine (impl_nat_cmp.calls k1 _ _ l0 _ _ t576 t610 _ ?side1 ?side2 ?side3 ?side4 A4.out).mono ?_); (case side1 => exact Kd.C_below HR0.out (by repeat (first | (with_reducible first | exact HB.out | apply below_alloc | apply pw_below_drewN | apply below_drew1 | refine below_set ?_ GE609.out) | exact HB.out))); (case side2 => exact HC0.out); (case side3 => refine (Kd.V_reads' (e := 89) (base := w.heap.size) (ok := fun k_ => (True ∧ k_ ≠ gb609)) (n := t576.length) (c := co39) ?_).2.2; exact (pV_ ((Kd.V_mono (Kd.V_far (p := ⟨gb609, 12, none⟩) (Kd.V_far (p := ⟨gb609, 11, none⟩) (Kd.V_far (p := ⟨gb609, 10, none⟩) (Kd.V_far (p := ⟨gb609, 9, none⟩) (Kd.V_far (p := ⟨gb609, 8, none⟩) (Kd.V_far (p := ⟨gb609, 7, none⟩) (Kd.V_far (p := ⟨gb609, 6, none⟩) (Kd.V_far (p := ⟨gb609, 5, none⟩) (Kd.V_far (p := ⟨gb609, 4, none⟩) (Kd.V_far (p := ⟨gb609, 3, none⟩) (Kd.V_far (p := ⟨gb609, 2, none⟩) (Kd.V_far (p := ⟨gb609, 1, none⟩) (Kd.V_far (p := ⟨gb609, 0, none⟩) (Kd.V_mono HO578.out (fun k_ hk => (⟨hk, hk.2⟩ : _ ∧ k_ ≠ gb609))) (fun _ hk => hk.2) (.string t574)) (fun _ hk => hk.2) (.bool t575)) (fun _ hk => hk.2) (.slice Ao39 t576.length co39)) (fun _ hk => hk.2) (.slice Ao40 t579.length co40)) (fun _ hk => hk.2) (.slice Ao41 t582.length co41)) (fun _ hk => hk.2) (.slice Ao42 t585.length co42)) (fun _ hk => hk.2) (.slice Ao43 t588.length co43)) (fun _ hk => hk.2) (.slice Ao44 t591.length co44)) (fun _ hk => hk.2) (.slice Ao45 t594.length co45)) (fun _ hk => hk.2) (.slice Ao46 t597.length co46)) (fun _ hk => hk.2) (.slice Ao47 t600.length co47)) (fun _ hk => hk.2) (.slice Ao48 t603.length co48)) (fun _ hk => hk.2) (.slice Ao49 t606.length co49)) (fun _ h_ => h_.1))))); (case side4 => exact (Kd.V_reads' HO578.out).2.1); rintro e w' ⟨rfl, ⟨nd, rfl⟩⟩; refine ⟨_, rfl, ?_⟩) | (go_at_call 87; (with_reducible refine (impl_nat_cmp.calls k1 _ _ l0 _ _ t579 t611 _ ?side1 ?side2 ?side3 ?side4 A20.out).mono ?_); (case side1 => exact Kd.C_below HR0.out (by repeat (first | (with_reducible first | exact HB.out | apply below_alloc | apply pw_below_drewN | apply below_drew1 | refine below_set ?_ GE609.out) | exact HB.out))); (case side2 => exact HC0.out); (case side3 => refine (Kd.V_reads' (e := 89) (base := w.heap.size) (ok := fun k_ => (True ∧ k_ ≠ gb609)) (n := t579.length) (c := co40) ?_).2.2; exact (pV_ ((Kd.V_mono (Kd.V_far (p := ⟨gb609, 12, none⟩) (Kd.V_far (p := ⟨gb609, 11, none⟩) (Kd.V_far (p := ⟨gb609, 10, none⟩) (Kd.V_far (p := ⟨gb609, 9, none⟩) (Kd.V_far (p := ⟨gb609, 8, none⟩) (Kd.V_far (p := ⟨gb609, 7, none⟩) (Kd.V_far (p := ⟨gb609, 6, none⟩) (Kd.V_far (p := ⟨gb609, 5, none⟩) (Kd.V_far (p := ⟨gb609, 4, none⟩) (Kd.V_far (p := ⟨gb609, 3, none⟩) (Kd.V_far (p := ⟨gb609, 2, none⟩) (Kd.V_far (p := ⟨gb609, 1, none⟩) (Kd.V_far (p := ⟨gb609, 0, none⟩) (Kd.V_mono HO581.out (fun k_ hk => (⟨hk, hk.2⟩ : _ ∧ k_ ≠ gb609))) (fun _ hk => hk.2) (.string t574)) (fun _ hk => hk.2) (.bool t575)) (fun _ hk => hk.2) (.slice Ao39 t576.length co39)) (fun _ hk => hk.2) (.slice Ao40 t579.length co40)) (fun _ hk => hk.2) (.slice Ao41 t582.length co41)) (fun _ hk => hk.2) (.slice Ao42 t585.length co42)) (fun _ hk => hk.2) (.slice Ao43 t588.length co43)) (fun _ hk => hk.2) (.slice Ao44 t591.length co44)) (fun _ hk => hk.2) (.slice Ao45 t594.length co45)) (fun _ hk => hk.2) (.slice Ao46 t597.length co46)) (fun _ hk => hk.2) (.slice Ao47 t600.length co47)) (fun _ hk => hk.2) (.slice Ao48 t603.length co48)) (fun _ hk => hk.2) (.slice Ao49 t606.length co49)) (fun _ h_ => h_.1))))); (case side4 => exact (Kd.V_reads' HO581.out).2.1); rintro e w' ⟨rfl, ⟨nd, rfl⟩⟩))
  go_roundg k1
  case measure => have := HK1.out; omega
  case rel => exact ⟨(wrap64 (x3_1 + 1)), (by first | rfl | (simp; done) | (simp [*]; done)), H', ⟨by have := HK1.out; omega⟩, ⟨by repeat (first | (with_reducible first | exact HB.out | apply below_alloc | apply pw_below_drewN | apply below_drew1 | refine below_set ?_ GE609.out) | exact HB.out)⟩⟩

/-! ### impl_primeOk: function 56 -/
mutual
def impl_primeOk.j0 : Nat → List Int → Bool → Option (List Int × Bool)
  | 0, _, _ => none
  | k + 1, x4, x16 => if x16 = true then (some (([] : List Int), false)) else ((impl_greatPrime.f k x4).bind fun t620 => (if t620 = true then (some (x4, true)) else ((impl_small.f k 10000).bind fun t621 => ((impl_nat_cmp.f k x4 t621).bind fun t624 => (if t624 ≥ 0 then (some (([] : List Int), false)) else (impl_primeOk.l0 k x4 2))))))
def impl_primeOk.l0 : Nat → List Int → Int → Option (List Int × Bool)
  | 0, _, _ => none
  | k + 1, x4, x5 => if 0 < (x4.length : Int) then (if (IntKind.u64.wrap (x5 * x5)) ≤ (rd x4 0) then (if x5 = 0 then (none) else (if (Int.tmod (rd x4 0) x5) = 0 then (some (([] : List Int), false)) else (impl_primeOk.l0 k x4 (IntKind.u64.wrap (x5 + 1))))) else (some (x4, true))) else (none)
end
def impl_primeOk.f (k : Nat) (a0 : ByteArray) : Option (List Int × Bool) := (impl_natOf.f k a0).bind fun t612 => ((impl_GreatOk.f a0).bind fun t615 => (if t615 = true then ((impl_small.f k 2).bind fun t616 => ((impl_nat_cmp.f k t612 t616).bind fun t619 => (impl_primeOk.j0 k t612 (decide (t619 ≤ 0))))) else (impl_primeOk.j0 k t612 true)))
set_option maxHeartbeats 8000000 in
set_option maxRecDepth 100000 in
theorem impl_primeOk.calls (k : Nat) (a0 : ByteArray) (r1 : List Int) (r2 : Bool) (w : World) (h : impl_primeOk.f k a0 = some (r1, r2)) :
    Calls Try.prog 56 #[.string a0] w fun e w' => ∃ v0_ : Value, e = .returned (.tuple #[v0_, .bool r2]) ∧ Kd.V (Kd.int .u64) 89 w' w.heap.size (fun k_ => (w.heap.size ≤ k_)) v0_ r1 ∧ Below w.heap.size w w' := by
  have HB := Aside0.mk (Below.refl w.heap.size w)
  have H : ((impl_natOf.f k a0).bind fun t612 => ((impl_GreatOk.f a0).bind fun t615 => (if t615 = true then ((impl_small.f k 2).bind fun t616 => ((impl_nat_cmp.f k t612 t616).bind fun t619 => (impl_primeOk.j0 k t612 (decide (t619 ≤ 0))))) else (impl_primeOk.j0 k t612 true)))) = some (r1, r2) := h
  clear h
  replace H := Option.bind_eq_some_iff.mp H
  obtain ⟨t612, A20, H⟩ := H
  have A2 := Aside0.mk A20
  clear A20
  have HC3 := Aside0.mk H
  clear H
  go_enter Try.func56, Try.ntmps56
  go_upto_region 2 with (first | ((with_reducible refine gate_callee (f := 52) rfl ?_); refine gL_ 7 Try.func52 rfl #[.string a0] ?_; (with_reducible refine (impl_natOf.calls k a0 t612 _ A2.out).mono ?_); rintro e w4 ⟨v613, rfl, ho0, hb⟩; refine ⟨_, rfl, ?_⟩; have HO614 := Aside0.mk (Kd.V_lower (Kd.V_mono (ok' := fun k_ => (w.heap.size ≤ k_)) ho0 (fun k_ hk_ => (Nat.le_trans (below_size (pB_ HB.out)) hk_))) (below_size (pB_ HB.out))); replace HB := Aside0.mk (below_step (pB_ HB.out) hb); clear hb ho0))
  (try simp only [Act.put, List.setIfInBounds_toArray, List.set_cons_zero, List.set_cons_succ])
  go_cut [16] (fun v16 wc => ∃ (kq : Nat) (x16_2 : Bool), v16 = .bool x16_2 ∧ Aside0 (impl_primeOk.j0 kq t612 x16_2 = some (r1, r2)) ∧ Aside0 (kq ≤ k) ∧ Aside0 (Kd.V (Kd.int .u64) 89 wc w.heap.size (fun k_ => (w.heap.size ≤ k_)) v613 t612) ∧ Aside0 (Below w.heap.size w wc))
  case first =>
    have H := HC3.out
    clear HC3
    replace H := Option.bind_eq_some_iff.mp H
    obtain ⟨t615, A50, H⟩ := H
    have A5 := Aside0.mk A50
    clear A50
    by_cases c6 : t615 = true
    · subst c6
      have H1 : ((impl_small.f k 2).bind fun t616 => ((impl_nat_cmp.f k t612 t616).bind fun t619 => (impl_primeOk.j0 k t612 (decide (t619 ≤ 0))))) = some (r1, r2) := by rw [if_pos rfl] at H; exact H
      clear H
      have H := H1
      clear H1
      replace H := Option.bind_eq_some_iff.mp H
      obtain ⟨t616, A70, H⟩ := H
      have A7 := Aside0.mk A70
      clear A70
      replace H := Option.bind_eq_some_iff.mp H
      obtain ⟨t619, A80, H⟩ := H
      have A8 := Aside0.mk A80
      clear A80
      have H' := Aside0.mk H
      clear H
      go_wp2_with (first | ((with_reducible refine gate_callee (f := 46) rfl ?_); refine gL_ 9 Try.func46 rfl #[.string a0] ?_; (with_reducible refine (impl_GreatOk.calls a0 true _ A5.out).mono ?_); rintro e w' ⟨rfl, ⟨nd, rfl⟩⟩; refine ⟨_, rfl, ?_⟩) | (go_at_call 80; (with_reducible refine (impl_small.calls k 2 t616 _ A7.out).mono ?_); rintro e w9 ⟨v617, rfl, ho0, hb⟩; replace HO614 := Aside0.mk (Kd.V_below (pV_ HO614.out) hb); have HO618 := Aside0.mk (Kd.V_lower (Kd.V_mono (ok' := fun k_ => (w.heap.size ≤ k_)) ho0 (fun k_ hk_ => (Nat.le_trans (below_size (pB_ HB.out)) hk_))) (below_size (pB_ HB.out))); replace HB := Aside0.mk (below_step (pB_ HB.out) hb); clear hb ho0; obtain ⟨Ao10, co10, eo10⟩ := Kd.V_slice HO614.out; subst eo10; obtain ⟨Ao11, co11, eo11⟩ := Kd.V_slice HO618.out; subst eo11) | (go_at_call 87; (with_reducible refine (impl_nat_cmp.calls k _ _ t612 _ _ t616 t619 _ ?side1 ?side2 ?side3 ?side4 A8.out).mono ?_); (case side1 => exact pC_ (Kd.V_reads' HO614.out).2.2); (case side2 => exact (Kd.V_reads' HO614.out).2.1); (case side3 => exact pC_ (Kd.V_reads' HO618.out).2.2); (case side4 => exact (Kd.V_reads' HO618.out).2.1); rintro e w' ⟨rfl, ⟨nd, rfl⟩⟩))
      go_meet
      case rel => exact ⟨_, (decide (t619 ≤ 0)), (by first | rfl | (simp; done) | (simp [*]; done)), H', ⟨by first | omega | exact Nat.le_refl _⟩, ⟨by (with_reducible repeat (first | apply Kd.V_alloc | apply Kd.V_drewN | apply Kd.V_drew)); exact HO614.out⟩, ⟨pB_ HB.out⟩⟩
    · replace c6 := Bool.eq_false_iff.mpr c6
      subst c6
      have H1 : (impl_primeOk.j0 k t612 true) = some (r1, r2) := by rw [if_neg (show ¬ (false = true) by decide)] at H; exact H
      clear H
      have H := H1
      clear H1
      have H' := Aside0.mk H
      clear H
      go_wp2_with (first | ((with_reducible refine gate_callee (f := 46) rfl ?_); refine gL_ 9 Try.func46 rfl #[.string a0] ?_; (with_reducible refine (impl_GreatOk.calls a0 false _ A5.out).mono ?_); rintro e w' ⟨rfl, ⟨nd, rfl⟩⟩; refine ⟨_, rfl, ?_⟩))
      go_meet
      case rel => exact ⟨_, (true), (by first | rfl | (simp; done) | (simp [*]; done)), H', ⟨by first | omega | exact Nat.le_refl _⟩, ⟨by (with_reducible repeat (first | apply Kd.V_alloc | apply Kd.V_drewN | apply Kd.V_drew)); exact HO614.out⟩, ⟨pB_ HB.out⟩⟩
  clear HC3
  try clear p2
  try clear c4
  try clear c5
  try clear c6
  obtain ⟨kq, x16_2, rfl, HA, HJ2, HO_4, HB⟩ := hcut
  rcases kq with _ | kj2
  · exact absurd HA.out (by simp [impl_primeOk.j0])
  have H := HA.out
  clear HA
  simp only [impl_primeOk.j0] at H
  by_cases c12 : x16_2 = true
  · subst c12
    have H1 : (some (([] : List Int), false)) = some (r1, r2) := by rw [if_pos rfl] at H; exact H
    clear H
    have H := H1
    clear H1
    simp only [Option.some.injEq, Prod.mk.injEq] at H
    obtain ⟨rfl, rfl⟩ := H
    go_wp2
    go_ret2
    exact ⟨.slice none 0 0, by first | rfl | (simp [errW_none, errW_some] <;> rfl) | (simp [*, errW_none, errW_some] <;> rfl), Kd.V_nil _ _ _ _ _, pB_ HB.out⟩
  · replace c12 := Bool.eq_false_iff.mpr c12
    subst c12
    have H1 : ((impl_greatPrime.f kj2 t612).bind fun t620 => (if t620 = true then (some (t612, true)) else ((impl_small.f kj2 10000).bind fun t621 => ((impl_nat_cmp.f kj2 t612 t621).bind fun t624 => (if t624 ≥ 0 then (some (([] : List Int), false)) else (impl_primeOk.l0 kj2 t612 2)))))) = some (r1, r2) := by rw [if_neg (show ¬ (false = true) by decide)] at H; exact H
    clear H
    have H := H1
    clear H1
    replace H := Option.bind_eq_some_iff.mp H
    obtain ⟨t620, A130, H⟩ := H
    have A13 := Aside0.mk A130
    clear A130
    by_cases c14 : t620 = true
    · subst c14
      have H1 : (some (t612, true)) = some (r1, r2) := by rw [if_pos rfl] at H; exact H
      clear H
      have H := H1
      clear H1
      simp only [Option.some.injEq, Prod.mk.injEq] at H
      obtain ⟨rfl, rfl⟩ := H
      obtain ⟨Ao15, co15, eo15⟩ := Kd.V_slice HO_4.out
      subst eo15
      go_wp2_with (first | ((with_reducible refine gate_callee (f := 92) rfl ?_); refine gL_ 18 Try.func92 rfl #[.slice Ao15 t612.length co15] ?_; (with_reducible refine (impl_greatPrime.calls kj2 _ _ t612 true _ ?side1 ?side2 A13.out).mono ?_); (case side1 => exact pC_ (Kd.V_reads' HO_4.out).2.2); (case side2 => exact (Kd.V_reads' HO_4.out).2.1); rintro e w16 ⟨rfl, hb⟩; refine ⟨_, rfl, ?_⟩; replace HO_4 := Aside0.mk (Kd.V_below (pV_ HO_4.out) hb); replace HB := Aside0.mk (below_step (pB_ HB.out) hb); clear hb))
      go_ret2
      exact ⟨_, by first | rfl | (simp [errW_none, errW_some] <;> rfl) | (simp [*, errW_none, errW_some] <;> rfl), by (with_reducible repeat (first | apply Kd.V_alloc | apply Kd.V_drewN | apply Kd.V_drew)); exact HO_4.out, pB_ HB.out⟩
    · replace c14 := Bool.eq_false_iff.mpr c14
      subst c14
      have H1 : ((impl_small.f kj2 10000).bind fun t621 => ((impl_nat_cmp.f kj2 t612 t621).bind fun t624 => (if t624 ≥ 0 then (some (([] : List Int), false)) else (impl_primeOk.l0 kj2 t612 2)))) = some (r1, r2) := by rw [if_neg (show ¬ (false = true) by decide)] at H; exact H
      clear H
      have H := H1
      clear H1
      replace H := Option.bind_eq_some_iff.mp H
      obtain ⟨t621, A170, H⟩ := H
      have A17 := Aside0.mk A170
      clear A170
      replace H := Option.bind_eq_some_iff.mp H
      obtain ⟨t624, A180, H⟩ := H
      have A18 := Aside0.mk A180
      clear A180
      by_cases c19 : t624 ≥ 0
      · rw [if_pos c19] at H
        have c19b0 : decide (0 ≤ t624) = true := decide_eq_true c19
        clear c19
        simp only [Option.some.injEq, Prod.mk.injEq] at H
        obtain ⟨rfl, rfl⟩ := H
        obtain ⟨Ao20, co20, eo20⟩ := Kd.V_slice HO_4.out
        subst eo20
        go_wp2_with (first | ((with_reducible refine gate_callee (f := 92) rfl ?_); refine gL_ 18 Try.func92 rfl #[.slice Ao20 t612.length co20] ?_; (with_reducible refine (impl_greatPrime.calls kj2 _ _ t612 false _ ?side1 ?side2 A13.out).mono ?_); (case side1 => exact pC_ (Kd.V_reads' HO_4.out).2.2); (case side2 => exact (Kd.V_reads' HO_4.out).2.1); rintro e w21 ⟨rfl, hb⟩; refine ⟨_, rfl, ?_⟩; replace HO_4 := Aside0.mk (Kd.V_below (pV_ HO_4.out) hb); replace HB := Aside0.mk (below_step (pB_ HB.out) hb); clear hb) | ((with_reducible refine gate_callee (f := 80) rfl ?_); refine gL_ 21 Try.func80 rfl #[.int .i64 10000] ?_; (with_reducible refine (impl_small.calls kj2 10000 t621 _ A17.out).mono ?_); rintro e w22 ⟨v622, rfl, ho0, hb⟩; refine ⟨_, rfl, ?_⟩; replace HO_4 := Aside0.mk (Kd.V_below (pV_ HO_4.out) hb); have HO623 := Aside0.mk (Kd.V_lower (Kd.V_mono (ok' := fun k_ => (w.heap.size ≤ k_)) ho0 (fun k_ hk_ => (Nat.le_trans (below_size (pB_ HB.out)) hk_))) (below_size (pB_ HB.out))); replace HB := Aside0.mk (below_step (pB_ HB.out) hb); clear hb ho0; obtain ⟨Ao23, co23, eo23⟩ := Kd.V_slice HO623.out; subst eo23) | ((with_reducible refine gate_callee (f := 87) rfl ?_); refine gL_ 22 Try.func87 rfl #[.slice Ao20 t612.length co20, .slice Ao23 t621.length co23] ?_; (with_reducible refine (impl_nat_cmp.calls kj2 _ _ t612 _ _ t621 t624 _ ?side1 ?side2 ?side3 ?side4 A18.out).mono ?_); (case side1 => exact pC_ (Kd.V_reads' HO_4.out).2.2); (case side2 => exact (Kd.V_reads' HO_4.out).2.1); (case side3 => exact pC_ (Kd.V_reads' HO623.out).2.2); (case side4 => exact (Kd.V_reads' HO623.out).2.1); rintro e w' ⟨rfl, ⟨nd, rfl⟩⟩; refine ⟨_, rfl, ?_⟩))
        go_ret2
        exact ⟨.slice none 0 0, by first | rfl | (simp [errW_none, errW_some] <;> rfl) | (simp [*, errW_none, errW_some] <;> rfl), Kd.V_nil _ _ _ _ _, pB_ HB.out⟩
      rw [if_neg c19] at H
      have c19b0 : decide (0 ≤ t624) = false := decide_eq_false c19
      clear c19
      have H' := Aside0.mk H
      clear H
      obtain ⟨Ao24, co24, eo24⟩ := Kd.V_slice HO_4.out
      subst eo24
      go_wp2_with (first | ((with_reducible refine gate_callee (f := 92) rfl ?_); refine gL_ 18 Try.func92 rfl #[.slice Ao24 t612.length co24] ?_; (with_reducible refine (impl_greatPrime.calls kj2 _ _ t612 false _ ?side1 ?side2 A13.out).mono ?_); (case side1 => exact pC_ (Kd.V_reads' HO_4.out).2.2); (case side2 => exact (Kd.V_reads' HO_4.out).2.1); rintro e w25 ⟨rfl, hb⟩; refine ⟨_, rfl, ?_⟩; replace HO_4 := Aside0.mk (Kd.V_below (pV_ HO_4.out) hb); replace HB := Aside0.mk (below_step (pB_ HB.out) hb); clear hb) | ((with_reducible refine gate_callee (f := 80) rfl ?_); refine gL_ 21 Try.func80 rfl #[.int .i64 10000] ?_; (with_reducible refine (impl_small.calls kj2 10000 t621 _ A17.out).mono ?_); rintro e w26 ⟨v622, rfl, ho0, hb⟩; refine ⟨_, rfl, ?_⟩; replace HO_4 := Aside0.mk (Kd.V_below (pV_ HO_4.out) hb); have HO623 := Aside0.mk (Kd.V_lower (Kd.V_mono (ok' := fun k_ => (w.heap.size ≤ k_)) ho0 (fun k_ hk_ => (Nat.le_trans (below_size (pB_ HB.out)) hk_))) (below_size (pB_ HB.out))); replace HB := Aside0.mk (below_step (pB_ HB.out) hb); clear hb ho0; obtain ⟨Ao27, co27, eo27⟩ := Kd.V_slice HO623.out; subst eo27) | ((with_reducible refine gate_callee (f := 87) rfl ?_); refine gL_ 22 Try.func87 rfl #[.slice Ao24 t612.length co24, .slice Ao27 t621.length co27] ?_; (with_reducible refine (impl_nat_cmp.calls kj2 _ _ t612 _ _ t621 t624 _ ?side1 ?side2 ?side3 ?side4 A18.out).mono ?_); (case side1 => exact pC_ (Kd.V_reads' HO_4.out).2.2); (case side2 => exact (Kd.V_reads' HO_4.out).2.1); (case side3 => exact pC_ (Kd.V_reads' HO623.out).2.2); (case side4 => exact (Kd.V_reads' HO623.out).2.1); rintro e w' ⟨rfl, ⟨nd, rfl⟩⟩; refine ⟨_, rfl, ?_⟩))
      go_loopg [5] kj2 (fun kq v5 w' => ∃ (x5_2 : Int), v5 = .int .u64 x5_2 ∧ Aside0 (impl_primeOk.l0 kq t612 x5_2 = some (r1, r2)) ∧ Aside0 (kq ≤ kj2) ∧ Aside0 (Kd.V (Kd.int .u64) 89 w' w.heap.size (fun k_ => (w.heap.size ≤ k_)) (.slice Ao24 t612.length co24) t612) ∧ Aside0 (Below w.heap.size w w'))
      case atStart => exact ⟨(2), (by first | rfl | (simp; done) | (simp [*]; done)), H', ⟨Nat.le_refl _⟩, ⟨by (with_reducible repeat (first | apply Kd.V_alloc | apply Kd.V_drewN | apply Kd.V_drew)); exact HO_4.out⟩, ⟨pB_ HB.out⟩⟩
      clear H'
      try clear c1
      try clear p2
      try clear c4
      try clear c5
      try clear c6
      try clear c8
      try clear c9
      try clear c12
      try clear c14
      try clear c19
      try clear c19b0
      try clear p2
      obtain ⟨x5_2, rfl, HA, HK2, HO_4, HB⟩ := hrel
      rcases gk with _ | k2
      · exact absurd HA.out (by simp [impl_primeOk.l0])
      have H := HA.out
      clear HA
      simp only [impl_primeOk.l0] at H
      by_cases c28 : 0 < (t612.length : Int)
      rotate_left
      · rw [if_neg c28] at H
        exact absurd H (by simp)

      rw [if_pos c28] at H
      have c28b0 : decide (0 < (t612.length : Int)) = true := decide_eq_true c28
      have c28b1 : decide (0 < t612.length) = true := decide_eq_true (by omega)
      clear c28
      by_cases c29 : (IntKind.u64.wrap (x5_2 * x5_2)) ≤ (rd t612 0)
      rotate_left
      · rw [if_neg c29] at H
        have c29b0 : decide ((IntKind.u64.wrap (x5_2 * x5_2)) ≤ (rd t612 0)) = false := decide_eq_false c29
        clear c29
        simp only [Option.some.injEq, Prod.mk.injEq] at H
        obtain ⟨rfl, rfl⟩ := H
        have p625 : 0 ≤ (0 : Int) := (by omega)
        have q625 : 0 < (t612.length : Int) := od_
        obtain ⟨ad625, e625, hx625_0⟩ := Kd.at_int (Kd.V_reads' HO_4.out).2.2 0 p625 q625
        cases e625
        have qi625 : (0 < t612.length) = True := eq_true (by omega)
        (try rw [show ((0 : Int)).toNat = 0 from rfl] at hx625_0)
        (try rw [Addr.add_zero'] at hx625_0)
        replace p625 := eq_true p625
        replace q625 := eq_true q625
        go_wp2
        go_ret2
        exact ⟨_, by first | rfl | (simp [errW_none, errW_some] <;> rfl) | (simp [*, errW_none, errW_some] <;> rfl), by (with_reducible repeat (first | apply Kd.V_alloc | apply Kd.V_drewN | apply Kd.V_drew)); exact HO_4.out, pB_ HB.out⟩
      rw [if_pos c29] at H
      have c29b0 : decide ((IntKind.u64.wrap (x5_2 * x5_2)) ≤ (rd t612 0)) = true := decide_eq_true c29
      clear c29
      by_cases c30 : x5_2 = 0
      · rw [if_pos c30] at H; exact absurd H (by simp)
      rw [if_neg c30] at H
      have c30b0 : (x5_2 == 0) = false := beq_eq_false_iff_ne.mpr c30
      have c30b1 : (x5_2 != 0) = true := bne_iff_ne.mpr c30
      by_cases c31 : (Int.tmod (rd t612 0) x5_2) = 0
      rotate_left
      · rw [if_neg c31] at H
        have c31b0 : ((Int.tmod (rd t612 0) x5_2) == 0) = false := beq_eq_false_iff_ne.mpr c31
        have c31b1 : ((Int.tmod (rd t612 0) x5_2) != 0) = true := bne_iff_ne.mpr c31
        have H' := Aside0.mk H
        clear H
        have p625 : 0 ≤ (0 : Int) := (by omega)
        have q625 : 0 < (t612.length : Int) := od_
        obtain ⟨ad625, e625, hx625_0⟩ := Kd.at_int (Kd.V_reads' HO_4.out).2.2 0 p625 q625
        cases e625
        have qi625 : (0 < t612.length) = True := eq_true (by omega)
        (try rw [show ((0 : Int)).toNat = 0 from rfl] at hx625_0)
        (try rw [Addr.add_zero'] at hx625_0)
        replace p625 := eq_true p625
        replace q625 := eq_true q625
        have p626 : 0 ≤ (0 : Int) := (by omega)
        have q626 : 0 < (t612.length : Int) := od_
        obtain ⟨ad626, e626, hx626_0⟩ := Kd.at_int (Kd.V_reads' HO_4.out).2.2 0 p626 q626
        obtain rfl : ad625 = ad626 := (by injection e626)
        have qi626 : (0 < t612.length) = True := eq_true (by omega)
        (try rw [show ((0 : Int)).toNat = 0 from rfl] at hx626_0)
        (try rw [Addr.add_zero'] at hx626_0)
        replace p626 := eq_true p626
        replace q626 := eq_true q626
        go_wp2
        go_roundg k2
        case measure => have := HJ2.out; have := HK2.out; omega
        case rel => exact ⟨(IntKind.u64.wrap (x5_2 + 1)), (by first | rfl | (simp; done) | (simp [*]; done)), H', ⟨by have := HJ2.out; have := HK2.out; omega⟩, ⟨by (with_reducible repeat (first | apply Kd.V_alloc | apply Kd.V_drewN | apply Kd.V_drew)); exact HO_4.out⟩, ⟨pB_ HB.out⟩⟩
      rw [if_pos c31] at H
      have c31b0 : ((Int.tmod (rd t612 0) x5_2) == 0) = true := beq_iff_eq.mpr c31
      have c31b1 : ((Int.tmod (rd t612 0) x5_2) != 0) = false := bne_eq_false_iff_eq.mpr c31
      clear c31
      simp only [Option.some.injEq, Prod.mk.injEq] at H
      obtain ⟨rfl, rfl⟩ := H
      have p625 : 0 ≤ (0 : Int) := (by omega)
      have q625 : 0 < (t612.length : Int) := od_
      obtain ⟨ad625, e625, hx625_0⟩ := Kd.at_int (Kd.V_reads' HO_4.out).2.2 0 p625 q625
      cases e625
      have qi625 : (0 < t612.length) = True := eq_true (by omega)
      (try rw [show ((0 : Int)).toNat = 0 from rfl] at hx625_0)
      (try rw [Addr.add_zero'] at hx625_0)
      replace p625 := eq_true p625
      replace q625 := eq_true q625
      have p626 : 0 ≤ (0 : Int) := (by omega)
      have q626 : 0 < (t612.length : Int) := od_
      obtain ⟨ad626, e626, hx626_0⟩ := Kd.at_int (Kd.V_reads' HO_4.out).2.2 0 p626 q626
      obtain rfl : ad625 = ad626 := (by injection e626)
      have qi626 : (0 < t612.length) = True := eq_true (by omega)
      (try rw [show ((0 : Int)).toNat = 0 from rfl] at hx626_0)
      (try rw [Addr.add_zero'] at hx626_0)
      replace p626 := eq_true p626
      replace q626 := eq_true q626
      go_wp2
      go_ret2
      exact ⟨.slice none 0 0, by first | rfl | (simp [errW_none, errW_some] <;> rfl) | (simp [*, errW_none, errW_some] <;> rfl), Kd.V_nil _ _ _ _ _, pB_ HB.out⟩

/-! ### impl_PrimeOk: function 17 -/
def impl_PrimeOk.f (k : Nat) (a0 : ByteArray) : Option (Bool) := (impl_primeOk.f k a0).bind fun bt627 => (some bt627.2)
set_option maxHeartbeats 8000000 in
set_option maxRecDepth 100000 in
theorem impl_PrimeOk.calls (k : Nat) (a0 : ByteArray) (r : Bool) (w : World) (h : impl_PrimeOk.f k a0 = some r) :
    Calls Try.prog 17 #[.string a0] w fun e w' => e = .returned (.bool r) ∧ Below w.heap.size w w' := by
  have HB := Aside0.mk (Below.refl w.heap.size w)
  have H : ((impl_primeOk.f k a0).bind fun bt627 => (some bt627.2)) = some r := h
  clear h
  replace H := Option.bind_eq_some_iff.mp H
  obtain ⟨⟨t627, t630⟩, A20, H⟩ := H
  replace H : (some t630) = some r := H
  have A2 := Aside0.mk A20
  clear A20
  obtain rfl := Option.some.inj H
  go_enter Try.func17, Try.ntmps17
  go_wp2_with (first | ((with_reducible refine gate_callee (f := 56) rfl ?_); refine gL_ 7 Try.func56 rfl #[.string a0] ?_; (with_reducible refine (impl_primeOk.calls k a0 t627 t630 _ A2.out).mono ?_); rintro e w3 ⟨v628, rfl, ho0, hb⟩; refine ⟨_, rfl, ?_⟩; have HO629 := Aside0.mk (Kd.V_lower (Kd.V_mono (ok' := fun k_ => True) ho0 (fun k_ hk_ => trivial)) (below_size (pB_ HB.out))); replace HB := Aside0.mk (below_step (pB_ HB.out) hb); clear hb ho0))
  go_ret
  exact ⟨by first | rfl | (simp [errW_none, errW_some] <;> rfl) | (simp [*, errW_none, errW_some] <;> rfl), pB_ HB.out⟩

/-! ### laws_FnExactPrimeOk: function 4 -/
def laws_FnExactPrimeOk.f (k : Nat) (a0 : ByteArray) : Option (Bool) := if (a0.size : Int) > 1048576 then (some true) else ((spec_PrimeOk.f k a0).bind fun t631 => ((impl_PrimeOk.f k a0).bind fun t632 => (if (t632 != t631) = true then (some false) else (some true))))
set_option maxHeartbeats 8000000 in
set_option maxRecDepth 100000 in
theorem laws_FnExactPrimeOk.calls (k : Nat) (a0 : ByteArray) (r : Bool) (w : World) (h : laws_FnExactPrimeOk.f k a0 = some r) :
    Calls Try.prog 4 #[.string a0] w fun e w' => e = .returned (.bool r) ∧ Below w.heap.size w w' := by
  have HB := Aside0.mk (Below.refl w.heap.size w)
  have H : (if (a0.size : Int) > 1048576 then (some true) else ((spec_PrimeOk.f k a0).bind fun t631 => ((impl_PrimeOk.f k a0).bind fun t632 => (if (t632 != t631) = true then (some false) else (some true))))) = some r := h
  clear h
  by_cases c2 : (a0.size : Int) > 1048576
  · rw [if_pos c2] at H
    have c2b0 : decide (1048576 < (a0.size : Int)) = true := decide_eq_true c2
    have c2b1 : decide (1048576 < a0.size) = true := decide_eq_true (by omega)
    clear c2
    obtain rfl := Option.some.inj H
    go_enter Try.func4, Try.ntmps4
    go_wp2
    go_ret
    exact ⟨by first | rfl | (simp [errW_none, errW_some] <;> rfl) | (simp [*, errW_none, errW_some] <;> rfl), pB_ HB.out⟩
  rw [if_neg c2] at H
  have c2b0 : decide (1048576 < (a0.size : Int)) = false := decide_eq_false c2
  have c2b1 : decide (1048576 < a0.size) = false := decide_eq_false (by omega)
  clear c2
  replace H := Option.bind_eq_some_iff.mp H
  obtain ⟨t631, A30, H⟩ := H
  have A3 := Aside0.mk A30
  clear A30
  replace H := Option.bind_eq_some_iff.mp H
  obtain ⟨t632, A40, H⟩ := H
  have A4 := Aside0.mk A40
  clear A40
  by_cases c5 : (t632 != t631) = true
  rotate_left
  · rw [if_neg c5] at H
    have c5b0 : (t632 != t631) = false := by simpa using c5
    (try (have c5b1 : decide (t632 = t631) = true := by simpa using c5))
    (try (have c5b2 : (t632 == t631) = true := by simpa using c5))
    clear c5
    obtain rfl := Option.some.inj H
    go_enter Try.func4, Try.ntmps4
    go_wp2_with (first | ((with_reducible refine gate_callee (f := 16) rfl ?_); refine gL_ 9 Try.func16 rfl #[.string a0] ?_; (with_reducible refine (spec_PrimeOk.calls k a0 t631 _ A3.out).mono ?_); rintro e w8 ⟨rfl, hb⟩; refine ⟨_, rfl, ?_⟩; replace HB := Aside0.mk (below_step (pB_ HB.out) hb); clear hb) | ((with_reducible refine gate_callee (f := 17) rfl ?_); refine gL_ 11 Try.func17 rfl #[.string a0] ?_; (with_reducible refine (impl_PrimeOk.calls k a0 t632 _ A4.out).mono ?_); rintro e w9 ⟨rfl, hb⟩; refine ⟨_, rfl, ?_⟩; replace HB := Aside0.mk (below_step (pB_ HB.out) hb); clear hb))
    go_ret
    exact ⟨by first | rfl | (simp [errW_none, errW_some] <;> rfl) | (simp [*, errW_none, errW_some] <;> rfl), pB_ HB.out⟩

  rw [if_pos c5] at H
  have c5b0 : (t632 != t631) = true := c5
  (try (have c5b1 : decide (t632 = t631) = false := by simpa using c5))
  (try (have c5b2 : (t632 == t631) = false := by simpa using c5))
  (try (have c5b3 : ¬ (t632 = t631) := by simpa using c5))
  clear c5
  obtain rfl := Option.some.inj H
  go_enter Try.func4, Try.ntmps4
  go_wp2_with (first | ((with_reducible refine gate_callee (f := 16) rfl ?_); refine gL_ 9 Try.func16 rfl #[.string a0] ?_; (with_reducible refine (spec_PrimeOk.calls k a0 t631 _ A3.out).mono ?_); rintro e w6 ⟨rfl, hb⟩; refine ⟨_, rfl, ?_⟩; replace HB := Aside0.mk (below_step (pB_ HB.out) hb); clear hb) | ((with_reducible refine gate_callee (f := 17) rfl ?_); refine gL_ 11 Try.func17 rfl #[.string a0] ?_; (with_reducible refine (impl_PrimeOk.calls k a0 t632 _ A4.out).mono ?_); rintro e w7 ⟨rfl, hb⟩; refine ⟨_, rfl, ?_⟩; replace HB := Aside0.mk (below_step (pB_ HB.out) hb); clear hb))
  go_ret
  exact ⟨by first | rfl | (simp [errW_none, errW_some] <;> rfl) | (simp [*, errW_none, errW_some] <;> rfl), pB_ HB.out⟩
/-- THE ONE PURE STATEMENT of laws_FnExactPrimeOk: yours. -/
def laws_FnExactPrimeOk.Pure : Prop := ∀ (a0 : ByteArray), a0.size ≤ 140737488351232 → ∃ k, laws_FnExactPrimeOk.f k a0 = some true
theorem laws_FnExactPrimeOk.walk (P : laws_FnExactPrimeOk.Pure) (a0 : ByteArray) (w : World) (w0 : a0.size ≤ 140737488351232) :
    Calls Try.prog 4 #[.string a0] w fun e w' => e = .returned (.bool true) ∧ Below w.heap.size w w' := by
  obtain ⟨k, h⟩ := P a0 w0
  refine (laws_FnExactPrimeOk.calls k a0 true w h).mono ?_
  rintro e w' ⟨rfl, hd⟩
  exact ⟨rfl, hd⟩

/-! ### spec_BitOf: function 57 -/
def spec_BitOf.f (a0 : ByteArray) (a1 : Int) : Option (Int) := (spec_GreatOk.f a0).bind fun t633 => (if t633 = true then (if a1 < 0 then (some 0) else (if (wrap64 (Int.tdiv a1 8)) ≥ (a0.size : Int) then (some 0) else (if 0 ≤ (wrap64 ((wrap64 ((a0.size : Int) - 1)) - (wrap64 (Int.tdiv a1 8)))) then (if (wrap64 ((wrap64 ((a0.size : Int) - 1)) - (wrap64 (Int.tdiv a1 8)))) < (a0.size : Int) then (if 0 ≤ (IntKind.u64.wrap (Int.tmod a1 8)) then (some (Go.bits .and .i64 (shr .i64 (wrap64 (bt a0 (wrap64 ((wrap64 ((a0.size : Int) - 1)) - (wrap64 (Int.tdiv a1 8)))))) (IntKind.u64.wrap (Int.tmod a1 8))) 1)) else (none)) else (none)) else (none)))) else (some 0))
set_option maxHeartbeats 8000000 in
set_option maxRecDepth 100000 in
theorem spec_BitOf.calls (a0 : ByteArray) (a1 : Int) (r : Int) (w : World) (h : spec_BitOf.f a0 a1 = some r) :
    Calls Try.prog 57 #[.string a0, .int .i64 a1] w fun e w' => e = .returned (.int .i64 r) ∧ Drawn0 w w' := by
  have H : ((spec_GreatOk.f a0).bind fun t633 => (if t633 = true then (if a1 < 0 then (some 0) else (if (wrap64 (Int.tdiv a1 8)) ≥ (a0.size : Int) then (some 0) else (if 0 ≤ (wrap64 ((wrap64 ((a0.size : Int) - 1)) - (wrap64 (Int.tdiv a1 8)))) then (if (wrap64 ((wrap64 ((a0.size : Int) - 1)) - (wrap64 (Int.tdiv a1 8)))) < (a0.size : Int) then (if 0 ≤ (IntKind.u64.wrap (Int.tmod a1 8)) then (some (Go.bits .and .i64 (shr .i64 (wrap64 (bt a0 (wrap64 ((wrap64 ((a0.size : Int) - 1)) - (wrap64 (Int.tdiv a1 8)))))) (IntKind.u64.wrap (Int.tmod a1 8))) 1)) else (none)) else (none)) else (none)))) else (some 0))) = some r := h
  clear h
  replace H := Option.bind_eq_some_iff.mp H
  obtain ⟨t633, A30, H⟩ := H
  have A3 := Aside0.mk A30
  clear A30
  by_cases c4 : t633 = true
  · subst c4
    have H1 : (if a1 < 0 then (some 0) else (if (wrap64 (Int.tdiv a1 8)) ≥ (a0.size : Int) then (some 0) else (if 0 ≤ (wrap64 ((wrap64 ((a0.size : Int) - 1)) - (wrap64 (Int.tdiv a1 8)))) then (if (wrap64 ((wrap64 ((a0.size : Int) - 1)) - (wrap64 (Int.tdiv a1 8)))) < (a0.size : Int) then (if 0 ≤ (IntKind.u64.wrap (Int.tmod a1 8)) then (some (Go.bits .and .i64 (shr .i64 (wrap64 (bt a0 (wrap64 ((wrap64 ((a0.size : Int) - 1)) - (wrap64 (Int.tdiv a1 8)))))) (IntKind.u64.wrap (Int.tmod a1 8))) 1)) else (none)) else (none)) else (none)))) = some r := by rw [if_pos rfl] at H; exact H
    clear H
    have H := H1
    clear H1
    by_cases c5 : a1 < 0
    · rw [if_pos c5] at H
      have c5b0 : decide (a1 < 0) = true := decide_eq_true c5
      clear c5
      obtain rfl := Option.some.inj H
      go_enter Try.func57, Try.ntmps57
      go_wp2_with (first | ((with_reducible refine gate_callee (f := 47) rfl ?_); refine gL_ 6 Try.func47 rfl #[.string a0] ?_; (with_reducible refine (spec_GreatOk.calls a0 true _ A3.out).mono ?_); rintro e w' ⟨rfl, ⟨nd, rfl⟩⟩; refine ⟨_, rfl, ?_⟩))
      go_ret
      exact ⟨by first | rfl | (simp; done) | (simp [*]; done), by repeat (first | exact Drawn0.refl _ | apply Drawn0.step)⟩
    rw [if_neg c5] at H
    have c5b0 : decide (a1 < 0) = false := decide_eq_false c5
    clear c5
    by_cases c6 : (wrap64 (Int.tdiv a1 8)) ≥ (a0.size : Int)
    · rw [if_pos c6] at H
      have c6b0 : decide ((a0.size : Int) ≤ (wrap64 (Int.tdiv a1 8))) = true := decide_eq_true c6
      clear c6
      obtain rfl := Option.some.inj H
      go_enter Try.func57, Try.ntmps57
      go_wp2_with (first | ((with_reducible refine gate_callee (f := 47) rfl ?_); refine gL_ 6 Try.func47 rfl #[.string a0] ?_; (with_reducible refine (spec_GreatOk.calls a0 true _ A3.out).mono ?_); rintro e w' ⟨rfl, ⟨nd, rfl⟩⟩; refine ⟨_, rfl, ?_⟩))
      go_ret
      exact ⟨by first | rfl | (simp; done) | (simp [*]; done), by repeat (first | exact Drawn0.refl _ | apply Drawn0.step)⟩
    rw [if_neg c6] at H
    have c6b0 : decide ((a0.size : Int) ≤ (wrap64 (Int.tdiv a1 8))) = false := decide_eq_false c6
    clear c6
    obtain ⟨ji7, hji7⟩ : ∃ j_ : Int, (wrap64 ((wrap64 ((a0.size : Int) - 1)) - (wrap64 (Int.tdiv a1 8)))) = j_ := ⟨_, rfl⟩
    first | rw [hji7] at H | simp only [hji7] at H | skip
    (try rw [hji7] at A3)
    have hji7w : (IntKind.i64.wrap ((wrap64 ((a0.size : Int) - 1)) - (wrap64 (Int.tdiv a1 8)))) = ji7 := (i64_w _).trans hji7
    by_cases c8 : 0 ≤ (ji7)
    rotate_left
    · rw [if_neg c8] at H; exact absurd H (by simp)
    rw [if_pos c8] at H
    have c8b0 : decide (0 ≤ (ji7)) = true := decide_eq_true c8
    clear c8
    by_cases c9 : (ji7) < (a0.size : Int)
    rotate_left
    · rw [if_neg c9] at H; exact absurd H (by simp)
    rw [if_pos c9] at H
    have c9b0 : decide ((ji7) < (a0.size : Int)) = true := decide_eq_true c9
    clear c9
    obtain ⟨ji11, hji11⟩ : ∃ j_ : Int, (IntKind.u64.wrap (Int.tmod a1 8)) = j_ := ⟨_, rfl⟩
    first | rw [hji11] at H | simp only [hji11] at H | skip
    (try rw [hji11] at A3)
    by_cases c12 : 0 ≤ (ji11)
    rotate_left
    · rw [if_neg c12] at H; exact absurd H (by simp)
    rw [if_pos c12] at H
    have c12b0 := eq_true c12
    have c12b1 : decide (0 ≤ (ji11)) = true := decide_eq_true c12
    clear c12
    obtain ⟨ji13, hji13⟩ : ∃ j_ : Int, (shr .i64 (wrap64 (bt a0 (ji7))) (ji11)) = j_ := ⟨_, rfl⟩
    first | rw [hji13] at H | simp only [hji13] at H | skip
    (try rw [hji13] at A3)
    have hji13_ : ((wrap64 (bt a0 (ji7))) / 2 ^ min (ji11).toNat 64) = ji13 := hji13
    have hji13z : (ji11) ≤ 64 → ((wrap64 (bt a0 (ji7))) / 2 ^ (ji11).toNat) = ji13 := shr_small hji13
    obtain rfl := Option.some.inj H
    go_enter Try.func57, Try.ntmps57
    go_wp2_with (first | ((with_reducible refine gate_callee (f := 47) rfl ?_); refine gL_ 6 Try.func47 rfl #[.string a0] ?_; (with_reducible refine (spec_GreatOk.calls a0 true _ A3.out).mono ?_); rintro e w' ⟨rfl, ⟨nd, rfl⟩⟩; refine ⟨_, rfl, ?_⟩; have p10 : 0 ≤ ((ji7) : Int) := od_; have q10 : (ji7) < (a0.size : Int) := od_; have hx10 := bt_at a0 (ji7); replace p10 := eq_true p10; replace q10 := eq_true q10))
    go_ret
    exact ⟨by first | rfl | (simp; done) | (simp only [← hji7, ← hji11, ← hji13] <;> (first | rfl | simp)) | (simp [*]; done), by repeat (first | exact Drawn0.refl _ | apply Drawn0.step)⟩
  · replace c4 := Bool.eq_false_iff.mpr c4
    subst c4
    have H1 : (some 0) = some r := by rw [if_neg (show ¬ (false = true) by decide)] at H; exact H
    clear H
    have H := H1
    clear H1
    obtain rfl := Option.some.inj H
    go_enter Try.func57, Try.ntmps57
    go_wp2_with (first | ((with_reducible refine gate_callee (f := 47) rfl ?_); refine gL_ 6 Try.func47 rfl #[.string a0] ?_; (with_reducible refine (spec_GreatOk.calls a0 false _ A3.out).mono ?_); rintro e w' ⟨rfl, ⟨nd, rfl⟩⟩; refine ⟨_, rfl, ?_⟩))
    go_ret
    exact ⟨by first | rfl | (simp; done) | (simp [*]; done), by repeat (first | exact Drawn0.refl _ | apply Drawn0.step)⟩

/-! ### spec_PairPrime: function 18 -/
def spec_PairPrime.f (k : Nat) (a0 : ByteArray) : Option (Bool) := (spec_PrimeOk.f k a0).bind fun t634 => (if t634 = true then ((spec_BitOf.f a0 0).bind fun t635 => (if t635 = 1 then ((spec_BitOf.f a0 1).bind fun t636 => (some (t636 == 1))) else (some false))) else (some false))
set_option maxHeartbeats 8000000 in
set_option maxRecDepth 100000 in
theorem spec_PairPrime.calls (k : Nat) (a0 : ByteArray) (r : Bool) (w : World) (h : spec_PairPrime.f k a0 = some r) :
    Calls Try.prog 18 #[.string a0] w fun e w' => e = .returned (.bool r) ∧ Below w.heap.size w w' := by
  have HB := Aside0.mk (Below.refl w.heap.size w)
  have H : ((spec_PrimeOk.f k a0).bind fun t634 => (if t634 = true then ((spec_BitOf.f a0 0).bind fun t635 => (if t635 = 1 then ((spec_BitOf.f a0 1).bind fun t636 => (some (t636 == 1))) else (some false))) else (some false))) = some r := h
  clear h
  replace H := Option.bind_eq_some_iff.mp H
  obtain ⟨t634, A20, H⟩ := H
  have A2 := Aside0.mk A20
  clear A20
  by_cases c3 : t634 = true
  · subst c3
    have H1 : ((spec_BitOf.f a0 0).bind fun t635 => (if t635 = 1 then ((spec_BitOf.f a0 1).bind fun t636 => (some (t636 == 1))) else (some false))) = some r := by rw [if_pos rfl] at H; exact H
    clear H
    have H := H1
    clear H1
    replace H := Option.bind_eq_some_iff.mp H
    obtain ⟨t635, A40, H⟩ := H
    have A4 := Aside0.mk A40
    clear A40
    by_cases c5 : t635 = 1
    rotate_left
    · rw [if_neg c5] at H
      have c5b0 : (t635 == 1) = false := beq_eq_false_iff_ne.mpr c5
      have c5b1 : (t635 != 1) = true := bne_iff_ne.mpr c5
      obtain rfl := Option.some.inj H
      go_enter Try.func18, Try.ntmps18
      go_wp2_with (first | ((with_reducible refine gate_callee (f := 16) rfl ?_); refine gL_ 4 Try.func16 rfl #[.string a0] ?_; (with_reducible refine (spec_PrimeOk.calls k a0 true _ A2.out).mono ?_); rintro e w8 ⟨rfl, hb⟩; refine ⟨_, rfl, ?_⟩; replace HB := Aside0.mk (below_step (pB_ HB.out) hb); clear hb) | (go_at_call 57; (with_reducible refine (spec_BitOf.calls a0 0 t635 _ A4.out).mono ?_); rintro e w' ⟨rfl, ⟨nd, rfl⟩⟩))
      go_ret
      exact ⟨by first | rfl | (simp [errW_none, errW_some] <;> rfl) | (simp [*, errW_none, errW_some] <;> rfl), pB_ HB.out⟩
    rw [if_pos c5] at H
    have c5b0 : (t635 == 1) = true := beq_iff_eq.mpr c5
    have c5b1 : (t635 != 1) = false := bne_eq_false_iff_eq.mpr c5
    clear c5
    replace H := Option.bind_eq_some_iff.mp H
    obtain ⟨t636, A60, H⟩ := H
    have A6 := Aside0.mk A60
    clear A60
    obtain rfl := Option.some.inj H
    go_enter Try.func18, Try.ntmps18
    go_wp2_with (first | ((with_reducible refine gate_callee (f := 16) rfl ?_); refine gL_ 4 Try.func16 rfl #[.string a0] ?_; (with_reducible refine (spec_PrimeOk.calls k a0 true _ A2.out).mono ?_); rintro e w7 ⟨rfl, hb⟩; refine ⟨_, rfl, ?_⟩; replace HB := Aside0.mk (below_step (pB_ HB.out) hb); clear hb) | (go_at_call 57; (with_reducible refine (spec_BitOf.calls a0 0 t635 _ A4.out).mono ?_); rintro e w' ⟨rfl, ⟨nd, rfl⟩⟩) | (go_at_call 57; (with_reducible refine (spec_BitOf.calls a0 1 t636 _ A6.out).mono ?_); rintro e w' ⟨rfl, ⟨nd, rfl⟩⟩))
    go_ret
    exact ⟨by first | rfl | (simp [errW_none, errW_some] <;> rfl) | (simp [*, errW_none, errW_some] <;> rfl), pB_ HB.out⟩
  · replace c3 := Bool.eq_false_iff.mpr c3
    subst c3
    have H1 : (some false) = some r := by rw [if_neg (show ¬ (false = true) by decide)] at H; exact H
    clear H
    have H := H1
    clear H1
    obtain rfl := Option.some.inj H
    go_enter Try.func18, Try.ntmps18
    go_wp2_with (first | ((with_reducible refine gate_callee (f := 16) rfl ?_); refine gL_ 4 Try.func16 rfl #[.string a0] ?_; (with_reducible refine (spec_PrimeOk.calls k a0 false _ A2.out).mono ?_); rintro e w9 ⟨rfl, hb⟩; refine ⟨_, rfl, ?_⟩; replace HB := Aside0.mk (below_step (pB_ HB.out) hb); clear hb))
    go_ret
    exact ⟨by first | rfl | (simp [errW_none, errW_some] <;> rfl) | (simp [*, errW_none, errW_some] <;> rfl), pB_ HB.out⟩

/-! ### impl_pairPrime: function 58 -/
def impl_pairPrime.f (k : Nat) (a0 : ByteArray) : Option (List Int × Bool) := (impl_primeOk.f k a0).bind fun bt637 => (if bt637.2 = true then (if 0 < (bt637.1.length : Int) then (some (bt637.1, ((Int.tmod (rd bt637.1 0) 4) == 3))) else (none)) else (some (bt637.1, false)))
set_option maxHeartbeats 8000000 in
set_option maxRecDepth 100000 in
theorem impl_pairPrime.calls (k : Nat) (a0 : ByteArray) (r1 : List Int) (r2 : Bool) (w : World) (h : impl_pairPrime.f k a0 = some (r1, r2)) :
    Calls Try.prog 58 #[.string a0] w fun e w' => ∃ v0_ : Value, e = .returned (.tuple #[v0_, .bool r2]) ∧ Kd.V (Kd.int .u64) 89 w' w.heap.size (fun k_ => (w.heap.size ≤ k_)) v0_ r1 ∧ Below w.heap.size w w' := by
  have HB := Aside0.mk (Below.refl w.heap.size w)
  have H : ((impl_primeOk.f k a0).bind fun bt637 => (if bt637.2 = true then (if 0 < (bt637.1.length : Int) then (some (bt637.1, ((Int.tmod (rd bt637.1 0) 4) == 3))) else (none)) else (some (bt637.1, false)))) = some (r1, r2) := h
  clear h
  replace H := Option.bind_eq_some_iff.mp H
  obtain ⟨⟨t637, t640⟩, A20, H⟩ := H
  replace H : (if t640 = true then (if 0 < (t637.length : Int) then (some (t637, ((Int.tmod (rd t637 0) 4) == 3))) else (none)) else (some (t637, false))) = some (r1, r2) := H
  have A2 := Aside0.mk A20
  clear A20
  by_cases c3 : t640 = true
  · subst c3
    have H1 : (if 0 < (t637.length : Int) then (some (t637, ((Int.tmod (rd t637 0) 4) == 3))) else (none)) = some (r1, r2) := by rw [if_pos rfl] at H; exact H
    clear H
    have H := H1
    clear H1
    by_cases c4 : 0 < (t637.length : Int)
    rotate_left
    · rw [if_neg c4] at H; exact absurd H (by simp)
    rw [if_pos c4] at H
    have c4b0 : decide (0 < (t637.length : Int)) = true := decide_eq_true c4
    have c4b1 : decide (0 < t637.length) = true := decide_eq_true (by omega)
    clear c4
    simp only [Option.some.injEq, Prod.mk.injEq] at H
    obtain ⟨rfl, rfl⟩ := H
    go_enter Try.func58, Try.ntmps58
    go_wp2_with (first | (go_at_call 56; (with_reducible refine (impl_primeOk.calls k a0 t637 true _ A2.out).mono ?_); rintro e w5 ⟨v638, rfl, ho0, hb⟩; have HO639 := Aside0.mk (Kd.V_lower (Kd.V_mono (ok' := fun k_ => (w.heap.size ≤ k_)) ho0 (fun k_ hk_ => (Nat.le_trans (below_size (pB_ HB.out)) hk_))) (below_size (pB_ HB.out))); replace HB := Aside0.mk (below_step (pB_ HB.out) hb); clear hb ho0; obtain ⟨Ao6, co6, eo6⟩ := Kd.V_slice HO639.out; subst eo6; have p641 : 0 ≤ (0 : Int) := (by omega); have q641 : 0 < (t637.length : Int) := od_; obtain ⟨ad641, e641, hx641_0⟩ := Kd.at_int (Kd.V_reads' HO639.out).2.2 0 p641 q641; cases e641; have qi641 : (0 < t637.length) = True := eq_true (by omega); (try rw [show ((0 : Int)).toNat = 0 from rfl] at hx641_0); (try rw [Addr.add_zero'] at hx641_0); replace p641 := eq_true p641; replace q641 := eq_true q641))
    repeat (go_quiet (first | (go_at_call 56; (with_reducible refine (impl_primeOk.calls k a0 t637 true _ A2.out).mono ?_); rintro e w5 ⟨v638, rfl, ho0, hb⟩; have HO639 := Aside0.mk (Kd.V_lower (Kd.V_mono (ok' := fun k_ => (w.heap.size ≤ k_)) ho0 (fun k_ hk_ => (Nat.le_trans (below_size (pB_ HB.out)) hk_))) (below_size (pB_ HB.out))); replace HB := Aside0.mk (below_step (pB_ HB.out) hb); clear hb ho0; obtain ⟨Ao6, co6, eo6⟩ := Kd.V_slice HO639.out; subst eo6; have p641 : 0 ≤ (0 : Int) := (by omega); have q641 : 0 < (t637.length : Int) := od_; obtain ⟨ad641, e641, hx641_0⟩ := Kd.at_int (Kd.V_reads' HO639.out).2.2 0 p641 q641; cases e641; have qi641 : (0 < t637.length) = True := eq_true (by omega); (try rw [show ((0 : Int)).toNat = 0 from rfl] at hx641_0); (try rw [Addr.add_zero'] at hx641_0); replace p641 := eq_true p641; replace q641 := eq_true q641)); try go_wp2_with (first | (go_at_call 56; (with_reducible refine (impl_primeOk.calls k a0 t637 true _ A2.out).mono ?_); rintro e w5 ⟨v638, rfl, ho0, hb⟩; have HO639 := Aside0.mk (Kd.V_lower (Kd.V_mono (ok' := fun k_ => (w.heap.size ≤ k_)) ho0 (fun k_ hk_ => (Nat.le_trans (below_size (pB_ HB.out)) hk_))) (below_size (pB_ HB.out))); replace HB := Aside0.mk (below_step (pB_ HB.out) hb); clear hb ho0; obtain ⟨Ao6, co6, eo6⟩ := Kd.V_slice HO639.out; subst eo6; have p641 : 0 ≤ (0 : Int) := (by omega); have q641 : 0 < (t637.length : Int) := od_; obtain ⟨ad641, e641, hx641_0⟩ := Kd.at_int (Kd.V_reads' HO639.out).2.2 0 p641 q641; cases e641; have qi641 : (0 < t637.length) = True := eq_true (by omega); (try rw [show ((0 : Int)).toNat = 0 from rfl] at hx641_0); (try rw [Addr.add_zero'] at hx641_0); replace p641 := eq_true p641; replace q641 := eq_true q641)))
    go_ret2
    exact ⟨_, by first | rfl | (simp [errW_none, errW_some] <;> rfl) | (simp [*, errW_none, errW_some] <;> rfl), by (with_reducible repeat (first | apply Kd.V_alloc | apply Kd.V_drewN | apply Kd.V_drew)); exact HO639.out, pB_ HB.out⟩
  · replace c3 := Bool.eq_false_iff.mpr c3
    subst c3
    have H1 : (some (t637, false)) = some (r1, r2) := by rw [if_neg (show ¬ (false = true) by decide)] at H; exact H
    clear H
    have H := H1
    clear H1
    simp only [Option.some.injEq, Prod.mk.injEq] at H
    obtain ⟨rfl, rfl⟩ := H
    go_enter Try.func58, Try.ntmps58
    go_wp2_with (first | (go_at_call 56; (with_reducible refine (impl_primeOk.calls k a0 t637 false _ A2.out).mono ?_); rintro e w7 ⟨v638, rfl, ho0, hb⟩; have HO639 := Aside0.mk (Kd.V_lower (Kd.V_mono (ok' := fun k_ => (w.heap.size ≤ k_)) ho0 (fun k_ hk_ => (Nat.le_trans (below_size (pB_ HB.out)) hk_))) (below_size (pB_ HB.out))); replace HB := Aside0.mk (below_step (pB_ HB.out) hb); clear hb ho0))
    repeat (go_quiet (first | (go_at_call 56; (with_reducible refine (impl_primeOk.calls k a0 t637 false _ A2.out).mono ?_); rintro e w7 ⟨v638, rfl, ho0, hb⟩; have HO639 := Aside0.mk (Kd.V_lower (Kd.V_mono (ok' := fun k_ => (w.heap.size ≤ k_)) ho0 (fun k_ hk_ => (Nat.le_trans (below_size (pB_ HB.out)) hk_))) (below_size (pB_ HB.out))); replace HB := Aside0.mk (below_step (pB_ HB.out) hb); clear hb ho0)); try go_wp2_with (first | (go_at_call 56; (with_reducible refine (impl_primeOk.calls k a0 t637 false _ A2.out).mono ?_); rintro e w7 ⟨v638, rfl, ho0, hb⟩; have HO639 := Aside0.mk (Kd.V_lower (Kd.V_mono (ok' := fun k_ => (w.heap.size ≤ k_)) ho0 (fun k_ hk_ => (Nat.le_trans (below_size (pB_ HB.out)) hk_))) (below_size (pB_ HB.out))); replace HB := Aside0.mk (below_step (pB_ HB.out) hb); clear hb ho0)))
    go_ret2
    exact ⟨_, by first | rfl | (simp [errW_none, errW_some] <;> rfl) | (simp [*, errW_none, errW_some] <;> rfl), by (with_reducible repeat (first | apply Kd.V_alloc | apply Kd.V_drewN | apply Kd.V_drew)); exact HO639.out, pB_ HB.out⟩

/-! ### impl_PairPrime: function 19 -/
def impl_PairPrime.f (k : Nat) (a0 : ByteArray) : Option (Bool) := (impl_pairPrime.f k a0).bind fun bt642 => (some bt642.2)
set_option maxHeartbeats 8000000 in
set_option maxRecDepth 100000 in
theorem impl_PairPrime.calls (k : Nat) (a0 : ByteArray) (r : Bool) (w : World) (h : impl_PairPrime.f k a0 = some r) :
    Calls Try.prog 19 #[.string a0] w fun e w' => e = .returned (.bool r) ∧ Below w.heap.size w w' := by
  have HB := Aside0.mk (Below.refl w.heap.size w)
  have H : ((impl_pairPrime.f k a0).bind fun bt642 => (some bt642.2)) = some r := h
  clear h
  replace H := Option.bind_eq_some_iff.mp H
  obtain ⟨⟨t642, t645⟩, A20, H⟩ := H
  replace H : (some t645) = some r := H
  have A2 := Aside0.mk A20
  clear A20
  obtain rfl := Option.some.inj H
  go_enter Try.func19, Try.ntmps19
  go_wp2_with (first | ((with_reducible refine gate_callee (f := 58) rfl ?_); refine gL_ 7 Try.func58 rfl #[.string a0] ?_; (with_reducible refine (impl_pairPrime.calls k a0 t642 t645 _ A2.out).mono ?_); rintro e w3 ⟨v643, rfl, ho0, hb⟩; refine ⟨_, rfl, ?_⟩; have HO644 := Aside0.mk (Kd.V_lower (Kd.V_mono (ok' := fun k_ => True) ho0 (fun k_ hk_ => trivial)) (below_size (pB_ HB.out))); replace HB := Aside0.mk (below_step (pB_ HB.out) hb); clear hb ho0))
  go_ret
  exact ⟨by first | rfl | (simp [errW_none, errW_some] <;> rfl) | (simp [*, errW_none, errW_some] <;> rfl), pB_ HB.out⟩

end Go.Proofs.Ytohfimjpfnnpgaa.F
