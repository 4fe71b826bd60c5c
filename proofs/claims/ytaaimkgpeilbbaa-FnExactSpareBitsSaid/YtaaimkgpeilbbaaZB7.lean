-- Made for this seat by a program of this session (wip/fork, wip/slim.py). Lean checks it.
import Derived.Test.YtaaimkgpeilbbaaFx0
import Derived.Test.YtaaimkgpeilbbaaZB3
import Derived.Test.YtaaimkgpeilbbaaZB4
import Derived.Test.YtaaimkgpeilbbaaZB6
namespace Go.Proofs.Ytaaimkgpeilbbaa.F
open Go.RowKit Go.Proofs.YtaaimkgpeilbbaaW.PrintWords Go.Proofs.YtaaimkgpeilbbaaW.PrintLast Go.Proofs.YtaaimkgpeilbbaaW.PrintMore
attribute [local go_sem] max2_int min2_int max_two min_two max_three min_three max_four min_four   -- for this text's walks alone
set_option linter.unusedVariables false
set_option linter.unusedSimpArgs false

/-! ### impl_SpareBits: function 34 -/
def impl_SpareBits.f (k : Nat) (a0 : Int) : Option (Int) := (impl_isCurve.f a0).bind fun t663 => (if t663 = true then ((impl_curve.f k a0).bind fun bt664 => ((impl_form_size.f k bt664.1 bt664.2.1 bt664.2.2.1 bt664.2.2.2.1 bt664.2.2.2.2.1 bt664.2.2.2.2.2.1 bt664.2.2.2.2.2.2.1 bt664.2.2.2.2.2.2.2.1 bt664.2.2.2.2.2.2.2.2.1 bt664.2.2.2.2.2.2.2.2.2.1 bt664.2.2.2.2.2.2.2.2.2.2.1 bt664.2.2.2.2.2.2.2.2.2.2.2.1 bt664.2.2.2.2.2.2.2.2.2.2.2.2).bind fun t700 => ((impl_nat_size.f k bt664.2.2.1).bind fun t701 => (some (wrap64 ((wrap64 (8 * t700)) - t701)))))) else (some 0))
def impl_SpareBits.T4 : Bool × List (List Nat × List Nat) := (true, [([], []), ([0], [0]), ([1], [1]), ([], []), ([3], [3]), ([4, 1], [4]), ([2, 5], [2, 5]), ([6, 5, 0, 1, 2, 3, 4, 5, 6], [6])])
def impl_SpareBits.B4 : List Nat := [0, 1, 3, 0, 8, 27, 63, 127]
theorem impl_SpareBits.tab4 : rtab .any (opsOf Try.f34 4) = impl_SpareBits.T4 := by kernel_rfl
theorem impl_SpareBits.bits4 : waitsOk impl_SpareBits.T4.2 impl_SpareBits.B4 = true := by kernel_rfl
set_option maxHeartbeats 8000000 in
set_option maxRecDepth 100000 in
theorem impl_SpareBits.calls (k : Nat) (a0 : Int) (r : Int) (w : World) (h : impl_SpareBits.f k a0 = some r) :
    Calls Try.prog 34 #[.int .i64 a0] w fun e w' => e = .returned (.int .i64 r) ∧ Below w.heap.size w w' := by
  have hu67 := Try.underlying67
  have HB := Aside0.mk (Below.refl w.heap.size w)
  have H : ((impl_isCurve.f a0).bind fun t663 => (if t663 = true then ((impl_curve.f k a0).bind fun bt664 => ((impl_form_size.f k bt664.1 bt664.2.1 bt664.2.2.1 bt664.2.2.2.1 bt664.2.2.2.2.1 bt664.2.2.2.2.2.1 bt664.2.2.2.2.2.2.1 bt664.2.2.2.2.2.2.2.1 bt664.2.2.2.2.2.2.2.2.1 bt664.2.2.2.2.2.2.2.2.2.1 bt664.2.2.2.2.2.2.2.2.2.2.1 bt664.2.2.2.2.2.2.2.2.2.2.2.1 bt664.2.2.2.2.2.2.2.2.2.2.2.2).bind fun t700 => ((impl_nat_size.f k bt664.2.2.1).bind fun t701 => (some (wrap64 ((wrap64 (8 * t700)) - t701)))))) else (some 0))) = some r := h
  clear h
  replace H := Option.bind_eq_some_iff.mp H
  obtain ⟨t663, A20, H⟩ := H
  have A2 := Aside0.mk A20
  clear A20
  by_cases c3 : t663 = true
  · subst c3
    have H1 : ((impl_curve.f k a0).bind fun bt664 => ((impl_form_size.f k bt664.1 bt664.2.1 bt664.2.2.1 bt664.2.2.2.1 bt664.2.2.2.2.1 bt664.2.2.2.2.2.1 bt664.2.2.2.2.2.2.1 bt664.2.2.2.2.2.2.2.1 bt664.2.2.2.2.2.2.2.2.1 bt664.2.2.2.2.2.2.2.2.2.1 bt664.2.2.2.2.2.2.2.2.2.2.1 bt664.2.2.2.2.2.2.2.2.2.2.2.1 bt664.2.2.2.2.2.2.2.2.2.2.2.2).bind fun t700 => ((impl_nat_size.f k bt664.2.2.1).bind fun t701 => (some (wrap64 ((wrap64 (8 * t700)) - t701)))))) = some r := by rw [if_pos rfl] at H; exact H
    clear H
    have H := H1
    clear H1
    replace H := Option.bind_eq_some_iff.mp H
    obtain ⟨⟨t664, t665, t666, t669, t672, t675, t678, t681, t684, t687, t690, t693, t696⟩, A40, H⟩ := H
    replace H : ((impl_form_size.f k t664 t665 t666 t669 t672 t675 t678 t681 t684 t687 t690 t693 t696).bind fun t700 => ((impl_nat_size.f k t666).bind fun t701 => (some (wrap64 ((wrap64 (8 * t700)) - t701))))) = some r := H
    have A4 := Aside0.mk A40
    clear A40
    replace H := Option.bind_eq_some_iff.mp H
    obtain ⟨t700, A50, H⟩ := H
    have A5 := Aside0.mk A50
    clear A50
    replace H := Option.bind_eq_some_iff.mp H
    obtain ⟨t701, A60, H⟩ := H
    have A6 := Aside0.mk A60
    clear A60
    obtain rfl := Option.some.inj H
    go_enter Try.func34, Try.ntmps34
    try go_wp2_with (first | ((with_reducible refine gate_callee (f := 56) rfl ?_); refine gL_ 5 Try.func56 rfl #[.int .i64 a0] ?_; (with_reducible refine (impl_isCurve.calls a0 true _ A2.out).mono ?_); rintro e w' ⟨rfl, ⟨nd, rfl⟩⟩; refine ⟨_, rfl, ?_⟩) | ((with_reducible refine gate_callee (f := 51) rfl ?_); refine gL_ 8 Try.func51 rfl #[.int .i64 a0] ?_; (with_reducible refine (impl_curve.calls k a0 t664 t665 t666 t669 t672 t675 t678 t681 t684 t687 t690 t693 t696 _ A4.out).mono ?_); rintro e w7 ⟨v667, v670, v673, v676, v679, v682, v685, v688, v691, v694, v697, rfl, ho0, ho1, ho2, ho3, ho4, ho5, ho6, ho7, ho8, ho9, ho10, hb⟩; refine ⟨_, rfl, ?_⟩; have HO668 := Aside0.mk (Kd.V_lower (Kd.V_mono (ok' := fun k_ => True) ho0 (fun k_ hk_ => trivial)) (below_size (pB_ HB.out))); have HO671 := Aside0.mk (Kd.V_lower (Kd.V_mono (ok' := fun k_ => True) ho1 (fun k_ hk_ => trivial)) (below_size (pB_ HB.out))); have HO674 := Aside0.mk (Kd.V_lower (Kd.V_mono (ok' := fun k_ => True) ho2 (fun k_ hk_ => trivial)) (below_size (pB_ HB.out))); have HO677 := Aside0.mk (Kd.V_lower (Kd.V_mono (ok' := fun k_ => True) ho3 (fun k_ hk_ => trivial)) (below_size (pB_ HB.out))); have HO680 := Aside0.mk (Kd.V_lower (Kd.V_mono (ok' := fun k_ => True) ho4 (fun k_ hk_ => trivial)) (below_size (pB_ HB.out))); have HO683 := Aside0.mk (Kd.V_lower (Kd.V_mono (ok' := fun k_ => True) ho5 (fun k_ hk_ => trivial)) (below_size (pB_ HB.out))); have HO686 := Aside0.mk (Kd.V_lower (Kd.V_mono (ok' := fun k_ => True) ho6 (fun k_ hk_ => trivial)) (below_size (pB_ HB.out))); have HO689 := Aside0.mk (Kd.V_lower (Kd.V_mono (ok' := fun k_ => True) ho7 (fun k_ hk_ => trivial)) (below_size (pB_ HB.out))); have HO692 := Aside0.mk (Kd.V_lower (Kd.V_mono (ok' := fun k_ => True) ho8 (fun k_ hk_ => trivial)) (below_size (pB_ HB.out))); have HO695 := Aside0.mk (Kd.V_lower (Kd.V_mono (ok' := fun k_ => True) ho9 (fun k_ hk_ => trivial)) (below_size (pB_ HB.out))); have HO698 := Aside0.mk (Kd.V_lower (Kd.V_mono (ok' := fun k_ => True) ho10 (fun k_ hk_ => trivial)) (below_size (pB_ HB.out))); replace HB := Aside0.mk (below_step (pB_ HB.out) hb); clear hb ho0 ho1 ho2 ho3 ho4 ho5 ho6 ho7 ho8 ho9 ho10) | ((with_reducible refine gate_dst (N := 3) rfl ?_); refine box_event ?hg (N := 3) ?hd (cs := #[.string (⟨#[]⟩ : ByteArray), .bool false, .slice none 0 0, .slice none 0 0, .slice none 0 0, .slice none 0 0, .slice none 0 0, .slice none 0 0, .slice none 0 0, .slice none 0 0, .slice none 0 0, .slice none 0 0, .slice none 0 0]) (t := 67) ?hr ?_; (case hd => rfl); (case hg => rfl); (case hr => first | (go_simp; done) | (go_simp; rfl)); intro gb699 hg w8 hbox hb; replace HO668 := Aside0.mk (Kd.V_below (Kd.V_elderB (pV_ HO668.out) gb699 (Nat.le_of_eq hg.symm)) hb); replace HO671 := Aside0.mk (Kd.V_below (Kd.V_elderB (pV_ HO671.out) gb699 (Nat.le_of_eq hg.symm)) hb); replace HO674 := Aside0.mk (Kd.V_below (Kd.V_elderB (pV_ HO674.out) gb699 (Nat.le_of_eq hg.symm)) hb); replace HO677 := Aside0.mk (Kd.V_below (Kd.V_elderB (pV_ HO677.out) gb699 (Nat.le_of_eq hg.symm)) hb); replace HO680 := Aside0.mk (Kd.V_below (Kd.V_elderB (pV_ HO680.out) gb699 (Nat.le_of_eq hg.symm)) hb); replace HO683 := Aside0.mk (Kd.V_below (Kd.V_elderB (pV_ HO683.out) gb699 (Nat.le_of_eq hg.symm)) hb); replace HO686 := Aside0.mk (Kd.V_below (Kd.V_elderB (pV_ HO686.out) gb699 (Nat.le_of_eq hg.symm)) hb); replace HO689 := Aside0.mk (Kd.V_below (Kd.V_elderB (pV_ HO689.out) gb699 (Nat.le_of_eq hg.symm)) hb); replace HO692 := Aside0.mk (Kd.V_below (Kd.V_elderB (pV_ HO692.out) gb699 (Nat.le_of_eq hg.symm)) hb); replace HO695 := Aside0.mk (Kd.V_below (Kd.V_elderB (pV_ HO695.out) gb699 (Nat.le_of_eq hg.symm)) hb); replace HO698 := Aside0.mk (Kd.V_below (Kd.V_elderB (pV_ HO698.out) gb699 (Nat.le_of_eq hg.symm)) hb); have BK699 := Aside0.mk (hbox); have GW699 := Aside0.mk ((by rw [hg]; exact (below_size (pB_ HB.out)) : w.heap.size ≤ gb699)); have GE699 := Aside0.mk ((by rw [hg]; exact (below_size (pB_ HB.out)) : w.heap.size ≤ gb699)); replace HB := Aside0.mk (below_step (pB_ HB.out) hb); clear hb hbox hg; have hcz9_0 : w8.cell? ⟨gb699, 0, none⟩ = some (.string (⟨#[]⟩ : ByteArray)) := (blk_cell BK699.out 0).trans rfl; have hcz9_1 : w8.cell? ⟨gb699, 1, none⟩ = some (.bool false) := (blk_cell BK699.out 1).trans rfl; have hcz9_2 : w8.cell? ⟨gb699, 2, none⟩ = some (.slice none 0 0) := (blk_cell BK699.out 2).trans rfl; have hcz9_3 : w8.cell? ⟨gb699, 3, none⟩ = some (.slice none 0 0) := (blk_cell BK699.out 3).trans rfl; have hcz9_4 : w8.cell? ⟨gb699, 4, none⟩ = some (.slice none 0 0) := (blk_cell BK699.out 4).trans rfl; have hcz9_5 : w8.cell? ⟨gb699, 5, none⟩ = some (.slice none 0 0) := (blk_cell BK699.out 5).trans rfl; have hcz9_6 : w8.cell? ⟨gb699, 6, none⟩ = some (.slice none 0 0) := (blk_cell BK699.out 6).trans rfl; have hcz9_7 : w8.cell? ⟨gb699, 7, none⟩ = some (.slice none 0 0) := (blk_cell BK699.out 7).trans rfl; have hcz9_8 : w8.cell? ⟨gb699, 8, none⟩ = some (.slice none 0 0) := (blk_cell BK699.out 8).trans rfl; have hcz9_9 : w8.cell? ⟨gb699, 9, none⟩ = some (.slice none 0 0) := (blk_cell BK699.out 9).trans rfl; have hcz9_10 : w8.cell? ⟨gb699, 10, none⟩ = some (.slice none 0 0) := (blk_cell BK699.out 10).trans rfl; have hcz9_11 : w8.cell? ⟨gb699, 11, none⟩ = some (.slice none 0 0) := (blk_cell BK699.out 11).trans rfl; have hcz9_12 : w8.cell? ⟨gb699, 12, none⟩ = some (.slice none 0 0) := (blk_cell BK699.out 12).trans rfl; have hfz9_0 := blk_frozen BK699.out 0; have hfz9_1 := blk_frozen BK699.out 1; have hfz9_2 := blk_frozen BK699.out 2; have hfz9_3 := blk_frozen BK699.out 3; have hfz9_4 := blk_frozen BK699.out 4; have hfz9_5 := blk_frozen BK699.out 5; have hfz9_6 := blk_frozen BK699.out 6; have hfz9_7 := blk_frozen BK699.out 7; have hfz9_8 := blk_frozen BK699.out 8; have hfz9_9 := blk_frozen BK699.out 9; have hfz9_10 := blk_frozen BK699.out 10; have hfz9_11 := blk_frozen BK699.out 11; have hfz9_12 := blk_frozen BK699.out 12; obtain ⟨Ao10, co10, eo10⟩ := Kd.V_slice HO668.out; subst eo10; obtain ⟨Ao11, co11, eo11⟩ := Kd.V_slice HO671.out; subst eo11; obtain ⟨Ao12, co12, eo12⟩ := Kd.V_slice HO674.out; subst eo12; obtain ⟨Ao13, co13, eo13⟩ := Kd.V_slice HO677.out; subst eo13; obtain ⟨Ao14, co14, eo14⟩ := Kd.V_slice HO680.out; subst eo14; obtain ⟨Ao15, co15, eo15⟩ := Kd.V_slice HO683.out; subst eo15; obtain ⟨Ao16, co16, eo16⟩ := Kd.V_slice HO686.out; subst eo16; obtain ⟨Ao17, co17, eo17⟩ := Kd.V_slice HO689.out; subst eo17; obtain ⟨Ao18, co18, eo18⟩ := Kd.V_slice HO692.out; subst eo18; obtain ⟨Ao19, co19, eo19⟩ := Kd.V_slice HO695.out; subst eo19; obtain ⟨Ao20, co20, eo20⟩ := Kd.V_slice HO698.out; subst eo20))
    have n0_ : Aside0 (Kd.V (Kd.int .u64) 80 (((((((((((((w8.setCell ⟨gb699, 0, none⟩ (.string t664)).setCell ⟨gb699, 1, none⟩ (.bool t665)).setCell ⟨gb699, 2, none⟩ (.slice Ao10 t666.length co10)).setCell ⟨gb699, 3, none⟩ (.slice Ao11 t669.length co11)).setCell ⟨gb699, 4, none⟩ (.slice Ao12 t672.length co12)).setCell ⟨gb699, 5, none⟩ (.slice Ao13 t675.length co13)).setCell ⟨gb699, 6, none⟩ (.slice Ao14 t678.length co14)).setCell ⟨gb699, 7, none⟩ (.slice Ao15 t681.length co15)).setCell ⟨gb699, 8, none⟩ (.slice Ao16 t684.length co16)).setCell ⟨gb699, 9, none⟩ (.slice Ao17 t687.length co17)).setCell ⟨gb699, 10, none⟩ (.slice Ao18 t690.length co18)).setCell ⟨gb699, 11, none⟩ (.slice Ao19 t693.length co19)).setCell ⟨gb699, 12, none⟩ (.slice Ao20 t696.length co20)) w.heap.size (fun k_ => k_ ≠ gb699) (.slice Ao10 t666.length co10) t666) := ⟨by (with_reducible repeat (first | apply Kd.V_alloc | apply Kd.V_drewN | apply Kd.V_drew)); exact Kd.V_mono (Kd.V_far (p := ⟨gb699, 12, none⟩) (Kd.V_far (p := ⟨gb699, 11, none⟩) (Kd.V_far (p := ⟨gb699, 10, none⟩) (Kd.V_far (p := ⟨gb699, 9, none⟩) (Kd.V_far (p := ⟨gb699, 8, none⟩) (Kd.V_far (p := ⟨gb699, 7, none⟩) (Kd.V_far (p := ⟨gb699, 6, none⟩) (Kd.V_far (p := ⟨gb699, 5, none⟩) (Kd.V_far (p := ⟨gb699, 4, none⟩) (Kd.V_far (p := ⟨gb699, 3, none⟩) (Kd.V_far (p := ⟨gb699, 2, none⟩) (Kd.V_far (p := ⟨gb699, 1, none⟩) (Kd.V_far (p := ⟨gb699, 0, none⟩) (Kd.V_mono HO668.out (fun k_ hk => (⟨hk, hk.2⟩ : _ ∧ k_ ≠ gb699))) (fun _ hk => hk.2) (.string t664)) (fun _ hk => hk.2) (.bool t665)) (fun _ hk => hk.2) (.slice Ao10 t666.length co10)) (fun _ hk => hk.2) (.slice Ao11 t669.length co11)) (fun _ hk => hk.2) (.slice Ao12 t672.length co12)) (fun _ hk => hk.2) (.slice Ao13 t675.length co13)) (fun _ hk => hk.2) (.slice Ao14 t678.length co14)) (fun _ hk => hk.2) (.slice Ao15 t681.length co15)) (fun _ hk => hk.2) (.slice Ao16 t684.length co16)) (fun _ hk => hk.2) (.slice Ao17 t687.length co17)) (fun _ hk => hk.2) (.slice Ao18 t690.length co18)) (fun _ hk => hk.2) (.slice Ao19 t693.length co19)) (fun _ hk => hk.2) (.slice Ao20 t696.length co20)) (fun _ hk => hk.1.2)⟩
    have n1_ : Aside0 (Kd.V (Kd.int .u64) 80 (((((((((((((w8.setCell ⟨gb699, 0, none⟩ (.string t664)).setCell ⟨gb699, 1, none⟩ (.bool t665)).setCell ⟨gb699, 2, none⟩ (.slice Ao10 t666.length co10)).setCell ⟨gb699, 3, none⟩ (.slice Ao11 t669.length co11)).setCell ⟨gb699, 4, none⟩ (.slice Ao12 t672.length co12)).setCell ⟨gb699, 5, none⟩ (.slice Ao13 t675.length co13)).setCell ⟨gb699, 6, none⟩ (.slice Ao14 t678.length co14)).setCell ⟨gb699, 7, none⟩ (.slice Ao15 t681.length co15)).setCell ⟨gb699, 8, none⟩ (.slice Ao16 t684.length co16)).setCell ⟨gb699, 9, none⟩ (.slice Ao17 t687.length co17)).setCell ⟨gb699, 10, none⟩ (.slice Ao18 t690.length co18)).setCell ⟨gb699, 11, none⟩ (.slice Ao19 t693.length co19)).setCell ⟨gb699, 12, none⟩ (.slice Ao20 t696.length co20)) w.heap.size (fun k_ => k_ ≠ gb699) (.slice Ao11 t669.length co11) t669) := ⟨by (with_reducible repeat (first | apply Kd.V_alloc | apply Kd.V_drewN | apply Kd.V_drew)); exact Kd.V_mono (Kd.V_far (p := ⟨gb699, 12, none⟩) (Kd.V_far (p := ⟨gb699, 11, none⟩) (Kd.V_far (p := ⟨gb699, 10, none⟩) (Kd.V_far (p := ⟨gb699, 9, none⟩) (Kd.V_far (p := ⟨gb699, 8, none⟩) (Kd.V_far (p := ⟨gb699, 7, none⟩) (Kd.V_far (p := ⟨gb699, 6, none⟩) (Kd.V_far (p := ⟨gb699, 5, none⟩) (Kd.V_far (p := ⟨gb699, 4, none⟩) (Kd.V_far (p := ⟨gb699, 3, none⟩) (Kd.V_far (p := ⟨gb699, 2, none⟩) (Kd.V_far (p := ⟨gb699, 1, none⟩) (Kd.V_far (p := ⟨gb699, 0, none⟩) (Kd.V_mono HO671.out (fun k_ hk => (⟨hk, hk.2⟩ : _ ∧ k_ ≠ gb699))) (fun _ hk => hk.2) (.string t664)) (fun _ hk => hk.2) (.bool t665)) (fun _ hk => hk.2) (.slice Ao10 t666.length co10)) (fun _ hk => hk.2) (.slice Ao11 t669.length co11)) (fun _ hk => hk.2) (.slice Ao12 t672.length co12)) (fun _ hk => hk.2) (.slice Ao13 t675.length co13)) (fun _ hk => hk.2) (.slice Ao14 t678.length co14)) (fun _ hk => hk.2) (.slice Ao15 t681.length co15)) (fun _ hk => hk.2) (.slice Ao16 t684.length co16)) (fun _ hk => hk.2) (.slice Ao17 t687.length co17)) (fun _ hk => hk.2) (.slice Ao18 t690.length co18)) (fun _ hk => hk.2) (.slice Ao19 t693.length co19)) (fun _ hk => hk.2) (.slice Ao20 t696.length co20)) (fun _ hk => hk.1.2)⟩
    have n2_ : Aside0 (Kd.V (Kd.int .u64) 80 (((((((((((((w8.setCell ⟨gb699, 0, none⟩ (.string t664)).setCell ⟨gb699, 1, none⟩ (.bool t665)).setCell ⟨gb699, 2, none⟩ (.slice Ao10 t666.length co10)).setCell ⟨gb699, 3, none⟩ (.slice Ao11 t669.length co11)).setCell ⟨gb699, 4, none⟩ (.slice Ao12 t672.length co12)).setCell ⟨gb699, 5, none⟩ (.slice Ao13 t675.length co13)).setCell ⟨gb699, 6, none⟩ (.slice Ao14 t678.length co14)).setCell ⟨gb699, 7, none⟩ (.slice Ao15 t681.length co15)).setCell ⟨gb699, 8, none⟩ (.slice Ao16 t684.length co16)).setCell ⟨gb699, 9, none⟩ (.slice Ao17 t687.length co17)).setCell ⟨gb699, 10, none⟩ (.slice Ao18 t690.length co18)).setCell ⟨gb699, 11, none⟩ (.slice Ao19 t693.length co19)).setCell ⟨gb699, 12, none⟩ (.slice Ao20 t696.length co20)) w.heap.size (fun k_ => k_ ≠ gb699) (.slice Ao12 t672.length co12) t672) := ⟨by (with_reducible repeat (first | apply Kd.V_alloc | apply Kd.V_drewN | apply Kd.V_drew)); exact Kd.V_mono (Kd.V_far (p := ⟨gb699, 12, none⟩) (Kd.V_far (p := ⟨gb699, 11, none⟩) (Kd.V_far (p := ⟨gb699, 10, none⟩) (Kd.V_far (p := ⟨gb699, 9, none⟩) (Kd.V_far (p := ⟨gb699, 8, none⟩) (Kd.V_far (p := ⟨gb699, 7, none⟩) (Kd.V_far (p := ⟨gb699, 6, none⟩) (Kd.V_far (p := ⟨gb699, 5, none⟩) (Kd.V_far (p := ⟨gb699, 4, none⟩) (Kd.V_far (p := ⟨gb699, 3, none⟩) (Kd.V_far (p := ⟨gb699, 2, none⟩) (Kd.V_far (p := ⟨gb699, 1, none⟩) (Kd.V_far (p := ⟨gb699, 0, none⟩) (Kd.V_mono HO674.out (fun k_ hk => (⟨hk, hk.2⟩ : _ ∧ k_ ≠ gb699))) (fun _ hk => hk.2) (.string t664)) (fun _ hk => hk.2) (.bool t665)) (fun _ hk => hk.2) (.slice Ao10 t666.length co10)) (fun _ hk => hk.2) (.slice Ao11 t669.length co11)) (fun _ hk => hk.2) (.slice Ao12 t672.length co12)) (fun _ hk => hk.2) (.slice Ao13 t675.length co13)) (fun _ hk => hk.2) (.slice Ao14 t678.length co14)) (fun _ hk => hk.2) (.slice Ao15 t681.length co15)) (fun _ hk => hk.2) (.slice Ao16 t684.length co16)) (fun _ hk => hk.2) (.slice Ao17 t687.length co17)) (fun _ hk => hk.2) (.slice Ao18 t690.length co18)) (fun _ hk => hk.2) (.slice Ao19 t693.length co19)) (fun _ hk => hk.2) (.slice Ao20 t696.length co20)) (fun _ hk => hk.1.2)⟩
    have n3_ : Aside0 (Kd.V (Kd.int .u64) 80 (((((((((((((w8.setCell ⟨gb699, 0, none⟩ (.string t664)).setCell ⟨gb699, 1, none⟩ (.bool t665)).setCell ⟨gb699, 2, none⟩ (.slice Ao10 t666.length co10)).setCell ⟨gb699, 3, none⟩ (.slice Ao11 t669.length co11)).setCell ⟨gb699, 4, none⟩ (.slice Ao12 t672.length co12)).setCell ⟨gb699, 5, none⟩ (.slice Ao13 t675.length co13)).setCell ⟨gb699, 6, none⟩ (.slice Ao14 t678.length co14)).setCell ⟨gb699, 7, none⟩ (.slice Ao15 t681.length co15)).setCell ⟨gb699, 8, none⟩ (.slice Ao16 t684.length co16)).setCell ⟨gb699, 9, none⟩ (.slice Ao17 t687.length co17)).setCell ⟨gb699, 10, none⟩ (.slice Ao18 t690.length co18)).setCell ⟨gb699, 11, none⟩ (.slice Ao19 t693.length co19)).setCell ⟨gb699, 12, none⟩ (.slice Ao20 t696.length co20)) w.heap.size (fun k_ => k_ ≠ gb699) (.slice Ao13 t675.length co13) t675) := ⟨by (with_reducible repeat (first | apply Kd.V_alloc | apply Kd.V_drewN | apply Kd.V_drew)); exact Kd.V_mono (Kd.V_far (p := ⟨gb699, 12, none⟩) (Kd.V_far (p := ⟨gb699, 11, none⟩) (Kd.V_far (p := ⟨gb699, 10, none⟩) (Kd.V_far (p := ⟨gb699, 9, none⟩) (Kd.V_far (p := ⟨gb699, 8, none⟩) (Kd.V_far (p := ⟨gb699, 7, none⟩) (Kd.V_far (p := ⟨gb699, 6, none⟩) (Kd.V_far (p := ⟨gb699, 5, none⟩) (Kd.V_far (p := ⟨gb699, 4, none⟩) (Kd.V_far (p := ⟨gb699, 3, none⟩) (Kd.V_far (p := ⟨gb699, 2, none⟩) (Kd.V_far (p := ⟨gb699, 1, none⟩) (Kd.V_far (p := ⟨gb699, 0, none⟩) (Kd.V_mono HO677.out (fun k_ hk => (⟨hk, hk.2⟩ : _ ∧ k_ ≠ gb699))) (fun _ hk => hk.2) (.string t664)) (fun _ hk => hk.2) (.bool t665)) (fun _ hk => hk.2) (.slice Ao10 t666.length co10)) (fun _ hk => hk.2) (.slice Ao11 t669.length co11)) (fun _ hk => hk.2) (.slice Ao12 t672.length co12)) (fun _ hk => hk.2) (.slice Ao13 t675.length co13)) (fun _ hk => hk.2) (.slice Ao14 t678.length co14)) (fun _ hk => hk.2) (.slice Ao15 t681.length co15)) (fun _ hk => hk.2) (.slice Ao16 t684.length co16)) (fun _ hk => hk.2) (.slice Ao17 t687.length co17)) (fun _ hk => hk.2) (.slice Ao18 t690.length co18)) (fun _ hk => hk.2) (.slice Ao19 t693.length co19)) (fun _ hk => hk.2) (.slice Ao20 t696.length co20)) (fun _ hk => hk.1.2)⟩
    have n4_ : Aside0 (Kd.V (Kd.int .u64) 80 (((((((((((((w8.setCell ⟨gb699, 0, none⟩ (.string t664)).setCell ⟨gb699, 1, none⟩ (.bool t665)).setCell ⟨gb699, 2, none⟩ (.slice Ao10 t666.length co10)).setCell ⟨gb699, 3, none⟩ (.slice Ao11 t669.length co11)).setCell ⟨gb699, 4, none⟩ (.slice Ao12 t672.length co12)).setCell ⟨gb699, 5, none⟩ (.slice Ao13 t675.length co13)).setCell ⟨gb699, 6, none⟩ (.slice Ao14 t678.length co14)).setCell ⟨gb699, 7, none⟩ (.slice Ao15 t681.length co15)).setCell ⟨gb699, 8, none⟩ (.slice Ao16 t684.length co16)).setCell ⟨gb699, 9, none⟩ (.slice Ao17 t687.length co17)).setCell ⟨gb699, 10, none⟩ (.slice Ao18 t690.length co18)).setCell ⟨gb699, 11, none⟩ (.slice Ao19 t693.length co19)).setCell ⟨gb699, 12, none⟩ (.slice Ao20 t696.length co20)) w.heap.size (fun k_ => k_ ≠ gb699) (.slice Ao14 t678.length co14) t678) := ⟨by (with_reducible repeat (first | apply Kd.V_alloc | apply Kd.V_drewN | apply Kd.V_drew)); exact Kd.V_mono (Kd.V_far (p := ⟨gb699, 12, none⟩) (Kd.V_far (p := ⟨gb699, 11, none⟩) (Kd.V_far (p := ⟨gb699, 10, none⟩) (Kd.V_far (p := ⟨gb699, 9, none⟩) (Kd.V_far (p := ⟨gb699, 8, none⟩) (Kd.V_far (p := ⟨gb699, 7, none⟩) (Kd.V_far (p := ⟨gb699, 6, none⟩) (Kd.V_far (p := ⟨gb699, 5, none⟩) (Kd.V_far (p := ⟨gb699, 4, none⟩) (Kd.V_far (p := ⟨gb699, 3, none⟩) (Kd.V_far (p := ⟨gb699, 2, none⟩) (Kd.V_far (p := ⟨gb699, 1, none⟩) (Kd.V_far (p := ⟨gb699, 0, none⟩) (Kd.V_mono HO680.out (fun k_ hk => (⟨hk, hk.2⟩ : _ ∧ k_ ≠ gb699))) (fun _ hk => hk.2) (.string t664)) (fun _ hk => hk.2) (.bool t665)) (fun _ hk => hk.2) (.slice Ao10 t666.length co10)) (fun _ hk => hk.2) (.slice Ao11 t669.length co11)) (fun _ hk => hk.2) (.slice Ao12 t672.length co12)) (fun _ hk => hk.2) (.slice Ao13 t675.length co13)) (fun _ hk => hk.2) (.slice Ao14 t678.length co14)) (fun _ hk => hk.2) (.slice Ao15 t681.length co15)) (fun _ hk => hk.2) (.slice Ao16 t684.length co16)) (fun _ hk => hk.2) (.slice Ao17 t687.length co17)) (fun _ hk => hk.2) (.slice Ao18 t690.length co18)) (fun _ hk => hk.2) (.slice Ao19 t693.length co19)) (fun _ hk => hk.2) (.slice Ao20 t696.length co20)) (fun _ hk => hk.1.2)⟩
    have n5_ : Aside0 (Kd.V (Kd.int .u64) 80 (((((((((((((w8.setCell ⟨gb699, 0, none⟩ (.string t664)).setCell ⟨gb699, 1, none⟩ (.bool t665)).setCell ⟨gb699, 2, none⟩ (.slice Ao10 t666.length co10)).setCell ⟨gb699, 3, none⟩ (.slice Ao11 t669.length co11)).setCell ⟨gb699, 4, none⟩ (.slice Ao12 t672.length co12)).setCell ⟨gb699, 5, none⟩ (.slice Ao13 t675.length co13)).setCell ⟨gb699, 6, none⟩ (.slice Ao14 t678.length co14)).setCell ⟨gb699, 7, none⟩ (.slice Ao15 t681.length co15)).setCell ⟨gb699, 8, none⟩ (.slice Ao16 t684.length co16)).setCell ⟨gb699, 9, none⟩ (.slice Ao17 t687.length co17)).setCell ⟨gb699, 10, none⟩ (.slice Ao18 t690.length co18)).setCell ⟨gb699, 11, none⟩ (.slice Ao19 t693.length co19)).setCell ⟨gb699, 12, none⟩ (.slice Ao20 t696.length co20)) w.heap.size (fun k_ => k_ ≠ gb699) (.slice Ao15 t681.length co15) t681) := ⟨by (with_reducible repeat (first | apply Kd.V_alloc | apply Kd.V_drewN | apply Kd.V_drew)); exact Kd.V_mono (Kd.V_far (p := ⟨gb699, 12, none⟩) (Kd.V_far (p := ⟨gb699, 11, none⟩) (Kd.V_far (p := ⟨gb699, 10, none⟩) (Kd.V_far (p := ⟨gb699, 9, none⟩) (Kd.V_far (p := ⟨gb699, 8, none⟩) (Kd.V_far (p := ⟨gb699, 7, none⟩) (Kd.V_far (p := ⟨gb699, 6, none⟩) (Kd.V_far (p := ⟨gb699, 5, none⟩) (Kd.V_far (p := ⟨gb699, 4, none⟩) (Kd.V_far (p := ⟨gb699, 3, none⟩) (Kd.V_far (p := ⟨gb699, 2, none⟩) (Kd.V_far (p := ⟨gb699, 1, none⟩) (Kd.V_far (p := ⟨gb699, 0, none⟩) (Kd.V_mono HO683.out (fun k_ hk => (⟨hk, hk.2⟩ : _ ∧ k_ ≠ gb699))) (fun _ hk => hk.2) (.string t664)) (fun _ hk => hk.2) (.bool t665)) (fun _ hk => hk.2) (.slice Ao10 t666.length co10)) (fun _ hk => hk.2) (.slice Ao11 t669.length co11)) (fun _ hk => hk.2) (.slice Ao12 t672.length co12)) (fun _ hk => hk.2) (.slice Ao13 t675.length co13)) (fun _ hk => hk.2) (.slice Ao14 t678.length co14)) (fun _ hk => hk.2) (.slice Ao15 t681.length co15)) (fun _ hk => hk.2) (.slice Ao16 t684.length co16)) (fun _ hk => hk.2) (.slice Ao17 t687.length co17)) (fun _ hk => hk.2) (.slice Ao18 t690.length co18)) (fun _ hk => hk.2) (.slice Ao19 t693.length co19)) (fun _ hk => hk.2) (.slice Ao20 t696.length co20)) (fun _ hk => hk.1.2)⟩
    have n6_ : Aside0 (Kd.V (Kd.int .u64) 80 (((((((((((((w8.setCell ⟨gb699, 0, none⟩ (.string t664)).setCell ⟨gb699, 1, none⟩ (.bool t665)).setCell ⟨gb699, 2, none⟩ (.slice Ao10 t666.length co10)).setCell ⟨gb699, 3, none⟩ (.slice Ao11 t669.length co11)).setCell ⟨gb699, 4, none⟩ (.slice Ao12 t672.length co12)).setCell ⟨gb699, 5, none⟩ (.slice Ao13 t675.length co13)).setCell ⟨gb699, 6, none⟩ (.slice Ao14 t678.length co14)).setCell ⟨gb699, 7, none⟩ (.slice Ao15 t681.length co15)).setCell ⟨gb699, 8, none⟩ (.slice Ao16 t684.length co16)).setCell ⟨gb699, 9, none⟩ (.slice Ao17 t687.length co17)).setCell ⟨gb699, 10, none⟩ (.slice Ao18 t690.length co18)).setCell ⟨gb699, 11, none⟩ (.slice Ao19 t693.length co19)).setCell ⟨gb699, 12, none⟩ (.slice Ao20 t696.length co20)) w.heap.size (fun k_ => k_ ≠ gb699) (.slice Ao16 t684.length co16) t684) := ⟨by (with_reducible repeat (first | apply Kd.V_alloc | apply Kd.V_drewN | apply Kd.V_drew)); exact Kd.V_mono (Kd.V_far (p := ⟨gb699, 12, none⟩) (Kd.V_far (p := ⟨gb699, 11, none⟩) (Kd.V_far (p := ⟨gb699, 10, none⟩) (Kd.V_far (p := ⟨gb699, 9, none⟩) (Kd.V_far (p := ⟨gb699, 8, none⟩) (Kd.V_far (p := ⟨gb699, 7, none⟩) (Kd.V_far (p := ⟨gb699, 6, none⟩) (Kd.V_far (p := ⟨gb699, 5, none⟩) (Kd.V_far (p := ⟨gb699, 4, none⟩) (Kd.V_far (p := ⟨gb699, 3, none⟩) (Kd.V_far (p := ⟨gb699, 2, none⟩) (Kd.V_far (p := ⟨gb699, 1, none⟩) (Kd.V_far (p := ⟨gb699, 0, none⟩) (Kd.V_mono HO686.out (fun k_ hk => (⟨hk, hk.2⟩ : _ ∧ k_ ≠ gb699))) (fun _ hk => hk.2) (.string t664)) (fun _ hk => hk.2) (.bool t665)) (fun _ hk => hk.2) (.slice Ao10 t666.length co10)) (fun _ hk => hk.2) (.slice Ao11 t669.length co11)) (fun _ hk => hk.2) (.slice Ao12 t672.length co12)) (fun _ hk => hk.2) (.slice Ao13 t675.length co13)) (fun _ hk => hk.2) (.slice Ao14 t678.length co14)) (fun _ hk => hk.2) (.slice Ao15 t681.length co15)) (fun _ hk => hk.2) (.slice Ao16 t684.length co16)) (fun _ hk => hk.2) (.slice Ao17 t687.length co17)) (fun _ hk => hk.2) (.slice Ao18 t690.length co18)) (fun _ hk => hk.2) (.slice Ao19 t693.length co19)) (fun _ hk => hk.2) (.slice Ao20 t696.length co20)) (fun _ hk => hk.1.2)⟩
    have n7_ : Aside0 (Kd.V (Kd.int .u64) 80 (((((((((((((w8.setCell ⟨gb699, 0, none⟩ (.string t664)).setCell ⟨gb699, 1, none⟩ (.bool t665)).setCell ⟨gb699, 2, none⟩ (.slice Ao10 t666.length co10)).setCell ⟨gb699, 3, none⟩ (.slice Ao11 t669.length co11)).setCell ⟨gb699, 4, none⟩ (.slice Ao12 t672.length co12)).setCell ⟨gb699, 5, none⟩ (.slice Ao13 t675.length co13)).setCell ⟨gb699, 6, none⟩ (.slice Ao14 t678.length co14)).setCell ⟨gb699, 7, none⟩ (.slice Ao15 t681.length co15)).setCell ⟨gb699, 8, none⟩ (.slice Ao16 t684.length co16)).setCell ⟨gb699, 9, none⟩ (.slice Ao17 t687.length co17)).setCell ⟨gb699, 10, none⟩ (.slice Ao18 t690.length co18)).setCell ⟨gb699, 11, none⟩ (.slice Ao19 t693.length co19)).setCell ⟨gb699, 12, none⟩ (.slice Ao20 t696.length co20)) w.heap.size (fun k_ => k_ ≠ gb699) (.slice Ao17 t687.length co17) t687) := ⟨by (with_reducible repeat (first | apply Kd.V_alloc | apply Kd.V_drewN | apply Kd.V_drew)); exact Kd.V_mono (Kd.V_far (p := ⟨gb699, 12, none⟩) (Kd.V_far (p := ⟨gb699, 11, none⟩) (Kd.V_far (p := ⟨gb699, 10, none⟩) (Kd.V_far (p := ⟨gb699, 9, none⟩) (Kd.V_far (p := ⟨gb699, 8, none⟩) (Kd.V_far (p := ⟨gb699, 7, none⟩) (Kd.V_far (p := ⟨gb699, 6, none⟩) (Kd.V_far (p := ⟨gb699, 5, none⟩) (Kd.V_far (p := ⟨gb699, 4, none⟩) (Kd.V_far (p := ⟨gb699, 3, none⟩) (Kd.V_far (p := ⟨gb699, 2, none⟩) (Kd.V_far (p := ⟨gb699, 1, none⟩) (Kd.V_far (p := ⟨gb699, 0, none⟩) (Kd.V_mono HO689.out (fun k_ hk => (⟨hk, hk.2⟩ : _ ∧ k_ ≠ gb699))) (fun _ hk => hk.2) (.string t664)) (fun _ hk => hk.2) (.bool t665)) (fun _ hk => hk.2) (.slice Ao10 t666.length co10)) (fun _ hk => hk.2) (.slice Ao11 t669.length co11)) (fun _ hk => hk.2) (.slice Ao12 t672.length co12)) (fun _ hk => hk.2) (.slice Ao13 t675.length co13)) (fun _ hk => hk.2) (.slice Ao14 t678.length co14)) (fun _ hk => hk.2) (.slice Ao15 t681.length co15)) (fun _ hk => hk.2) (.slice Ao16 t684.length co16)) (fun _ hk => hk.2) (.slice Ao17 t687.length co17)) (fun _ hk => hk.2) (.slice Ao18 t690.length co18)) (fun _ hk => hk.2) (.slice Ao19 t693.length co19)) (fun _ hk => hk.2) (.slice Ao20 t696.length co20)) (fun _ hk => hk.1.2)⟩
    have n8_ : Aside0 (Kd.V (Kd.int .u64) 80 (((((((((((((w8.setCell ⟨gb699, 0, none⟩ (.string t664)).setCell ⟨gb699, 1, none⟩ (.bool t665)).setCell ⟨gb699, 2, none⟩ (.slice Ao10 t666.length co10)).setCell ⟨gb699, 3, none⟩ (.slice Ao11 t669.length co11)).setCell ⟨gb699, 4, none⟩ (.slice Ao12 t672.length co12)).setCell ⟨gb699, 5, none⟩ (.slice Ao13 t675.length co13)).setCell ⟨gb699, 6, none⟩ (.slice Ao14 t678.length co14)).setCell ⟨gb699, 7, none⟩ (.slice Ao15 t681.length co15)).setCell ⟨gb699, 8, none⟩ (.slice Ao16 t684.length co16)).setCell ⟨gb699, 9, none⟩ (.slice Ao17 t687.length co17)).setCell ⟨gb699, 10, none⟩ (.slice Ao18 t690.length co18)).setCell ⟨gb699, 11, none⟩ (.slice Ao19 t693.length co19)).setCell ⟨gb699, 12, none⟩ (.slice Ao20 t696.length co20)) w.heap.size (fun k_ => k_ ≠ gb699) (.slice Ao18 t690.length co18) t690) := ⟨by (with_reducible repeat (first | apply Kd.V_alloc | apply Kd.V_drewN | apply Kd.V_drew)); exact Kd.V_mono (Kd.V_far (p := ⟨gb699, 12, none⟩) (Kd.V_far (p := ⟨gb699, 11, none⟩) (Kd.V_far (p := ⟨gb699, 10, none⟩) (Kd.V_far (p := ⟨gb699, 9, none⟩) (Kd.V_far (p := ⟨gb699, 8, none⟩) (Kd.V_far (p := ⟨gb699, 7, none⟩) (Kd.V_far (p := ⟨gb699, 6, none⟩) (Kd.V_far (p := ⟨gb699, 5, none⟩) (Kd.V_far (p := ⟨gb699, 4, none⟩) (Kd.V_far (p := ⟨gb699, 3, none⟩) (Kd.V_far (p := ⟨gb699, 2, none⟩) (Kd.V_far (p := ⟨gb699, 1, none⟩) (Kd.V_far (p := ⟨gb699, 0, none⟩) (Kd.V_mono HO692.out (fun k_ hk => (⟨hk, hk.2⟩ : _ ∧ k_ ≠ gb699))) (fun _ hk => hk.2) (.string t664)) (fun _ hk => hk.2) (.bool t665)) (fun _ hk => hk.2) (.slice Ao10 t666.length co10)) (fun _ hk => hk.2) (.slice Ao11 t669.length co11)) (fun _ hk => hk.2) (.slice Ao12 t672.length co12)) (fun _ hk => hk.2) (.slice Ao13 t675.length co13)) (fun _ hk => hk.2) (.slice Ao14 t678.length co14)) (fun _ hk => hk.2) (.slice Ao15 t681.length co15)) (fun _ hk => hk.2) (.slice Ao16 t684.length co16)) (fun _ hk => hk.2) (.slice Ao17 t687.length co17)) (fun _ hk => hk.2) (.slice Ao18 t690.length co18)) (fun _ hk => hk.2) (.slice Ao19 t693.length co19)) (fun _ hk => hk.2) (.slice Ao20 t696.length co20)) (fun _ hk => hk.1.2)⟩
    have n9_ : Aside0 (Kd.V (Kd.int .u64) 80 (((((((((((((w8.setCell ⟨gb699, 0, none⟩ (.string t664)).setCell ⟨gb699, 1, none⟩ (.bool t665)).setCell ⟨gb699, 2, none⟩ (.slice Ao10 t666.length co10)).setCell ⟨gb699, 3, none⟩ (.slice Ao11 t669.length co11)).setCell ⟨gb699, 4, none⟩ (.slice Ao12 t672.length co12)).setCell ⟨gb699, 5, none⟩ (.slice Ao13 t675.length co13)).setCell ⟨gb699, 6, none⟩ (.slice Ao14 t678.length co14)).setCell ⟨gb699, 7, none⟩ (.slice Ao15 t681.length co15)).setCell ⟨gb699, 8, none⟩ (.slice Ao16 t684.length co16)).setCell ⟨gb699, 9, none⟩ (.slice Ao17 t687.length co17)).setCell ⟨gb699, 10, none⟩ (.slice Ao18 t690.length co18)).setCell ⟨gb699, 11, none⟩ (.slice Ao19 t693.length co19)).setCell ⟨gb699, 12, none⟩ (.slice Ao20 t696.length co20)) w.heap.size (fun k_ => k_ ≠ gb699) (.slice Ao19 t693.length co19) t693) := ⟨by (with_reducible repeat (first | apply Kd.V_alloc | apply Kd.V_drewN | apply Kd.V_drew)); exact Kd.V_mono (Kd.V_far (p := ⟨gb699, 12, none⟩) (Kd.V_far (p := ⟨gb699, 11, none⟩) (Kd.V_far (p := ⟨gb699, 10, none⟩) (Kd.V_far (p := ⟨gb699, 9, none⟩) (Kd.V_far (p := ⟨gb699, 8, none⟩) (Kd.V_far (p := ⟨gb699, 7, none⟩) (Kd.V_far (p := ⟨gb699, 6, none⟩) (Kd.V_far (p := ⟨gb699, 5, none⟩) (Kd.V_far (p := ⟨gb699, 4, none⟩) (Kd.V_far (p := ⟨gb699, 3, none⟩) (Kd.V_far (p := ⟨gb699, 2, none⟩) (Kd.V_far (p := ⟨gb699, 1, none⟩) (Kd.V_far (p := ⟨gb699, 0, none⟩) (Kd.V_mono HO695.out (fun k_ hk => (⟨hk, hk.2⟩ : _ ∧ k_ ≠ gb699))) (fun _ hk => hk.2) (.string t664)) (fun _ hk => hk.2) (.bool t665)) (fun _ hk => hk.2) (.slice Ao10 t666.length co10)) (fun _ hk => hk.2) (.slice Ao11 t669.length co11)) (fun _ hk => hk.2) (.slice Ao12 t672.length co12)) (fun _ hk => hk.2) (.slice Ao13 t675.length co13)) (fun _ hk => hk.2) (.slice Ao14 t678.length co14)) (fun _ hk => hk.2) (.slice Ao15 t681.length co15)) (fun _ hk => hk.2) (.slice Ao16 t684.length co16)) (fun _ hk => hk.2) (.slice Ao17 t687.length co17)) (fun _ hk => hk.2) (.slice Ao18 t690.length co18)) (fun _ hk => hk.2) (.slice Ao19 t693.length co19)) (fun _ hk => hk.2) (.slice Ao20 t696.length co20)) (fun _ hk => hk.1.2)⟩
    have n10_ : Aside0 (Kd.V (Kd.int .u64) 80 (((((((((((((w8.setCell ⟨gb699, 0, none⟩ (.string t664)).setCell ⟨gb699, 1, none⟩ (.bool t665)).setCell ⟨gb699, 2, none⟩ (.slice Ao10 t666.length co10)).setCell ⟨gb699, 3, none⟩ (.slice Ao11 t669.length co11)).setCell ⟨gb699, 4, none⟩ (.slice Ao12 t672.length co12)).setCell ⟨gb699, 5, none⟩ (.slice Ao13 t675.length co13)).setCell ⟨gb699, 6, none⟩ (.slice Ao14 t678.length co14)).setCell ⟨gb699, 7, none⟩ (.slice Ao15 t681.length co15)).setCell ⟨gb699, 8, none⟩ (.slice Ao16 t684.length co16)).setCell ⟨gb699, 9, none⟩ (.slice Ao17 t687.length co17)).setCell ⟨gb699, 10, none⟩ (.slice Ao18 t690.length co18)).setCell ⟨gb699, 11, none⟩ (.slice Ao19 t693.length co19)).setCell ⟨gb699, 12, none⟩ (.slice Ao20 t696.length co20)) w.heap.size (fun k_ => k_ ≠ gb699) (.slice Ao20 t696.length co20) t696) := ⟨by (with_reducible repeat (first | apply Kd.V_alloc | apply Kd.V_drewN | apply Kd.V_drew)); exact Kd.V_mono (Kd.V_far (p := ⟨gb699, 12, none⟩) (Kd.V_far (p := ⟨gb699, 11, none⟩) (Kd.V_far (p := ⟨gb699, 10, none⟩) (Kd.V_far (p := ⟨gb699, 9, none⟩) (Kd.V_far (p := ⟨gb699, 8, none⟩) (Kd.V_far (p := ⟨gb699, 7, none⟩) (Kd.V_far (p := ⟨gb699, 6, none⟩) (Kd.V_far (p := ⟨gb699, 5, none⟩) (Kd.V_far (p := ⟨gb699, 4, none⟩) (Kd.V_far (p := ⟨gb699, 3, none⟩) (Kd.V_far (p := ⟨gb699, 2, none⟩) (Kd.V_far (p := ⟨gb699, 1, none⟩) (Kd.V_far (p := ⟨gb699, 0, none⟩) (Kd.V_mono HO698.out (fun k_ hk => (⟨hk, hk.2⟩ : _ ∧ k_ ≠ gb699))) (fun _ hk => hk.2) (.string t664)) (fun _ hk => hk.2) (.bool t665)) (fun _ hk => hk.2) (.slice Ao10 t666.length co10)) (fun _ hk => hk.2) (.slice Ao11 t669.length co11)) (fun _ hk => hk.2) (.slice Ao12 t672.length co12)) (fun _ hk => hk.2) (.slice Ao13 t675.length co13)) (fun _ hk => hk.2) (.slice Ao14 t678.length co14)) (fun _ hk => hk.2) (.slice Ao15 t681.length co15)) (fun _ hk => hk.2) (.slice Ao16 t684.length co16)) (fun _ hk => hk.2) (.slice Ao17 t687.length co17)) (fun _ hk => hk.2) (.slice Ao18 t690.length co18)) (fun _ hk => hk.2) (.slice Ao19 t693.length co19)) (fun _ hk => hk.2) (.slice Ao20 t696.length co20)) (fun _ hk => hk.1.2)⟩
    have n11_ : Aside0 ((((((((((((((w8.setCell ⟨gb699, 0, none⟩ (.string t664)).setCell ⟨gb699, 1, none⟩ (.bool t665)).setCell ⟨gb699, 2, none⟩ (.slice Ao10 t666.length co10)).setCell ⟨gb699, 3, none⟩ (.slice Ao11 t669.length co11)).setCell ⟨gb699, 4, none⟩ (.slice Ao12 t672.length co12)).setCell ⟨gb699, 5, none⟩ (.slice Ao13 t675.length co13)).setCell ⟨gb699, 6, none⟩ (.slice Ao14 t678.length co14)).setCell ⟨gb699, 7, none⟩ (.slice Ao15 t681.length co15)).setCell ⟨gb699, 8, none⟩ (.slice Ao16 t684.length co16)).setCell ⟨gb699, 9, none⟩ (.slice Ao17 t687.length co17)).setCell ⟨gb699, 10, none⟩ (.slice Ao18 t690.length co18)).setCell ⟨gb699, 11, none⟩ (.slice Ao19 t693.length co19)).setCell ⟨gb699, 12, none⟩ (.slice Ao20 t696.length co20)).heap[gb699]? = some (.cells #[.string t664, .bool t665, .slice Ao10 t666.length co10, .slice Ao11 t669.length co11, .slice Ao12 t672.length co12, .slice Ao13 t675.length co13, .slice Ao14 t678.length co14, .slice Ao15 t681.length co15, .slice Ao16 t684.length co16, .slice Ao17 t687.length co17, .slice Ao18 t690.length co18, .slice Ao19 t693.length co19, .slice Ao20 t696.length co20] 67 (0, 0))) := ⟨by (with_reducible repeat (first | refine blk_drewN ?_ _ | refine blk_drew ?_ | refine blk_alloc ?_ _)); refine blk_put (cs := #[.string t664, .bool t665, .slice Ao10 t666.length co10, .slice Ao11 t669.length co11, .slice Ao12 t672.length co12, .slice Ao13 t675.length co13, .slice Ao14 t678.length co14, .slice Ao15 t681.length co15, .slice Ao16 t684.length co16, .slice Ao17 t687.length co17, .slice Ao18 t690.length co18, .slice Ao19 t693.length co19, .slice none 0 0]) ?_ 12 _ rfl; (with_reducible repeat (first | refine blk_drewN ?_ _ | refine blk_drew ?_ | refine blk_alloc ?_ _)); refine blk_put (cs := #[.string t664, .bool t665, .slice Ao10 t666.length co10, .slice Ao11 t669.length co11, .slice Ao12 t672.length co12, .slice Ao13 t675.length co13, .slice Ao14 t678.length co14, .slice Ao15 t681.length co15, .slice Ao16 t684.length co16, .slice Ao17 t687.length co17, .slice Ao18 t690.length co18, .slice none 0 0, .slice none 0 0]) ?_ 11 _ rfl; (with_reducible repeat (first | refine blk_drewN ?_ _ | refine blk_drew ?_ | refine blk_alloc ?_ _)); refine blk_put (cs := #[.string t664, .bool t665, .slice Ao10 t666.length co10, .slice Ao11 t669.length co11, .slice Ao12 t672.length co12, .slice Ao13 t675.length co13, .slice Ao14 t678.length co14, .slice Ao15 t681.length co15, .slice Ao16 t684.length co16, .slice Ao17 t687.length co17, .slice none 0 0, .slice none 0 0, .slice none 0 0]) ?_ 10 _ rfl; (with_reducible repeat (first | refine blk_drewN ?_ _ | refine blk_drew ?_ | refine blk_alloc ?_ _)); refine blk_put (cs := #[.string t664, .bool t665, .slice Ao10 t666.length co10, .slice Ao11 t669.length co11, .slice Ao12 t672.length co12, .slice Ao13 t675.length co13, .slice Ao14 t678.length co14, .slice Ao15 t681.length co15, .slice Ao16 t684.length co16, .slice none 0 0, .slice none 0 0, .slice none 0 0, .slice none 0 0]) ?_ 9 _ rfl; (with_reducible repeat (first | refine blk_drewN ?_ _ | refine blk_drew ?_ | refine blk_alloc ?_ _)); refine blk_put (cs := #[.string t664, .bool t665, .slice Ao10 t666.length co10, .slice Ao11 t669.length co11, .slice Ao12 t672.length co12, .slice Ao13 t675.length co13, .slice Ao14 t678.length co14, .slice Ao15 t681.length co15, .slice none 0 0, .slice none 0 0, .slice none 0 0, .slice none 0 0, .slice none 0 0]) ?_ 8 _ rfl; (with_reducible repeat (first | refine blk_drewN ?_ _ | refine blk_drew ?_ | refine blk_alloc ?_ _)); refine blk_put (cs := #[.string t664, .bool t665, .slice Ao10 t666.length co10, .slice Ao11 t669.length co11, .slice Ao12 t672.length co12, .slice Ao13 t675.length co13, .slice Ao14 t678.length co14, .slice none 0 0, .slice none 0 0, .slice none 0 0, .slice none 0 0, .slice none 0 0, .slice none 0 0]) ?_ 7 _ rfl; (with_reducible repeat (first | refine blk_drewN ?_ _ | refine blk_drew ?_ | refine blk_alloc ?_ _)); refine blk_put (cs := #[.string t664, .bool t665, .slice Ao10 t666.length co10, .slice Ao11 t669.length co11, .slice Ao12 t672.length co12, .slice Ao13 t675.length co13, .slice none 0 0, .slice none 0 0, .slice none 0 0, .slice none 0 0, .slice none 0 0, .slice none 0 0, .slice none 0 0]) ?_ 6 _ rfl; (with_reducible repeat (first | refine blk_drewN ?_ _ | refine blk_drew ?_ | refine blk_alloc ?_ _)); refine blk_put (cs := #[.string t664, .bool t665, .slice Ao10 t666.length co10, .slice Ao11 t669.length co11, .slice Ao12 t672.length co12, .slice none 0 0, .slice none 0 0, .slice none 0 0, .slice none 0 0, .slice none 0 0, .slice none 0 0, .slice none 0 0, .slice none 0 0]) ?_ 5 _ rfl; (with_reducible repeat (first | refine blk_drewN ?_ _ | refine blk_drew ?_ | refine blk_alloc ?_ _)); refine blk_put (cs := #[.string t664, .bool t665, .slice Ao10 t666.length co10, .slice Ao11 t669.length co11, .slice none 0 0, .slice none 0 0, .slice none 0 0, .slice none 0 0, .slice none 0 0, .slice none 0 0, .slice none 0 0, .slice none 0 0, .slice none 0 0]) ?_ 4 _ rfl; (with_reducible repeat (first | refine blk_drewN ?_ _ | refine blk_drew ?_ | refine blk_alloc ?_ _)); refine blk_put (cs := #[.string t664, .bool t665, .slice Ao10 t666.length co10, .slice none 0 0, .slice none 0 0, .slice none 0 0, .slice none 0 0, .slice none 0 0, .slice none 0 0, .slice none 0 0, .slice none 0 0, .slice none 0 0, .slice none 0 0]) ?_ 3 _ rfl; (with_reducible repeat (first | refine blk_drewN ?_ _ | refine blk_drew ?_ | refine blk_alloc ?_ _)); refine blk_put (cs := #[.string t664, .bool t665, .slice none 0 0, .slice none 0 0, .slice none 0 0, .slice none 0 0, .slice none 0 0, .slice none 0 0, .slice none 0 0, .slice none 0 0, .slice none 0 0, .slice none 0 0, .slice none 0 0]) ?_ 2 _ rfl; (with_reducible repeat (first | refine blk_drewN ?_ _ | refine blk_drew ?_ | refine blk_alloc ?_ _)); refine blk_put (cs := #[.string t664, .bool false, .slice none 0 0, .slice none 0 0, .slice none 0 0, .slice none 0 0, .slice none 0 0, .slice none 0 0, .slice none 0 0, .slice none 0 0, .slice none 0 0, .slice none 0 0, .slice none 0 0]) ?_ 1 _ rfl; (with_reducible repeat (first | refine blk_drewN ?_ _ | refine blk_drew ?_ | refine blk_alloc ?_ _)); refine blk_put (cs := #[.string (⟨#[]⟩ : ByteArray), .bool false, .slice none 0 0, .slice none 0 0, .slice none 0 0, .slice none 0 0, .slice none 0 0, .slice none 0 0, .slice none 0 0, .slice none 0 0, .slice none 0 0, .slice none 0 0, .slice none 0 0]) ?_ 0 _ rfl; (with_reducible repeat (first | refine blk_drewN ?_ _ | refine blk_drew ?_ | refine blk_alloc ?_ _)); exact BK699.out⟩
    have n12_ : Aside0 (Below w.heap.size w (((((((((((((w8.setCell ⟨gb699, 0, none⟩ (.string t664)).setCell ⟨gb699, 1, none⟩ (.bool t665)).setCell ⟨gb699, 2, none⟩ (.slice Ao10 t666.length co10)).setCell ⟨gb699, 3, none⟩ (.slice Ao11 t669.length co11)).setCell ⟨gb699, 4, none⟩ (.slice Ao12 t672.length co12)).setCell ⟨gb699, 5, none⟩ (.slice Ao13 t675.length co13)).setCell ⟨gb699, 6, none⟩ (.slice Ao14 t678.length co14)).setCell ⟨gb699, 7, none⟩ (.slice Ao15 t681.length co15)).setCell ⟨gb699, 8, none⟩ (.slice Ao16 t684.length co16)).setCell ⟨gb699, 9, none⟩ (.slice Ao17 t687.length co17)).setCell ⟨gb699, 10, none⟩ (.slice Ao18 t690.length co18)).setCell ⟨gb699, 11, none⟩ (.slice Ao19 t693.length co19)).setCell ⟨gb699, 12, none⟩ (.slice Ao20 t696.length co20))) := ⟨by repeat (first | (with_reducible first | exact HB.out | apply below_alloc | apply pw_below_drewN | apply below_drew1 | refine below_set ?_ GE699.out) | exact HB.out)⟩
    (try clear HO668)
    (try clear HO671)
    (try clear HO674)
    (try clear HO677)
    (try clear HO680)
    (try clear HO683)
    (try clear HO686)
    (try clear HO689)
    (try clear HO692)
    (try clear HO695)
    (try clear HO698)
    (try clear BK699)
    (try clear HB)
    generalize (((((((((((((w8.setCell ⟨gb699, 0, none⟩ (.string t664)).setCell ⟨gb699, 1, none⟩ (.bool t665)).setCell ⟨gb699, 2, none⟩ (.slice Ao10 t666.length co10)).setCell ⟨gb699, 3, none⟩ (.slice Ao11 t669.length co11)).setCell ⟨gb699, 4, none⟩ (.slice Ao12 t672.length co12)).setCell ⟨gb699, 5, none⟩ (.slice Ao13 t675.length co13)).setCell ⟨gb699, 6, none⟩ (.slice Ao14 t678.length co14)).setCell ⟨gb699, 7, none⟩ (.slice Ao15 t681.length co15)).setCell ⟨gb699, 8, none⟩ (.slice Ao16 t684.length co16)).setCell ⟨gb699, 9, none⟩ (.slice Ao17 t687.length co17)).setCell ⟨gb699, 10, none⟩ (.slice Ao18 t690.length co18)).setCell ⟨gb699, 11, none⟩ (.slice Ao19 t693.length co19)).setCell ⟨gb699, 12, none⟩ (.slice Ao20 t696.length co20)) = w21 at n0_ n1_ n2_ n3_ n4_ n5_ n6_ n7_ n8_ n9_ n10_ n11_ n12_ ⊢
    have HO668 := n0_
    have HO671 := n1_
    have HO674 := n2_
    have HO677 := n3_
    have HO680 := n4_
    have HO683 := n5_
    have HO686 := n6_
    have HO689 := n7_
    have HO692 := n8_
    have HO695 := n9_
    have HO698 := n10_
    have BK699 := n11_
    have HB := n12_
    clear n0_ n1_ n2_ n3_ n4_ n5_ n6_ n7_ n8_ n9_ n10_ n11_ n12_
    have n0_ := Aside0.mk (Kd.V_drew HO668.out)
    have n1_ := Aside0.mk (Kd.V_drew HO671.out)
    have n2_ := Aside0.mk (Kd.V_drew HO674.out)
    have n3_ := Aside0.mk (Kd.V_drew HO677.out)
    have n4_ := Aside0.mk (Kd.V_drew HO680.out)
    have n5_ := Aside0.mk (Kd.V_drew HO683.out)
    have n6_ := Aside0.mk (Kd.V_drew HO686.out)
    have n7_ := Aside0.mk (Kd.V_drew HO689.out)
    have n8_ := Aside0.mk (Kd.V_drew HO692.out)
    have n9_ := Aside0.mk (Kd.V_drew HO695.out)
    have n10_ := Aside0.mk (Kd.V_drew HO698.out)
    have n11_ := Aside0.mk (blk_drew BK699.out)
    have n12_ := Aside0.mk (below_drew1 HB.out)
    clear HO668
    clear HO671
    clear HO674
    clear HO677
    clear HO680
    clear HO683
    clear HO686
    clear HO689
    clear HO692
    clear HO695
    clear HO698
    clear BK699
    clear HB
    have HO668 := n0_
    have HO671 := n1_
    have HO674 := n2_
    have HO677 := n3_
    have HO680 := n4_
    have HO683 := n5_
    have HO686 := n6_
    have HO689 := n7_
    have HO692 := n8_
    have HO695 := n9_
    have HO698 := n10_
    have BK699 := n11_
    have HB := n12_
    clear n0_ n1_ n2_ n3_ n4_ n5_ n6_ n7_ n8_ n9_ n10_ n11_ n12_
    refine start_ (n := 8) (S := fun w' => w'.cell? ⟨gb699, 0, none⟩ = some (.string t664) ∧ w'.cell? ⟨gb699, 1, none⟩ = some (.bool t665) ∧ w'.cell? ⟨gb699, 2, none⟩ = some (.slice Ao10 t666.length co10) ∧ w'.cell? ⟨gb699, 3, none⟩ = some (.slice Ao11 t669.length co11) ∧ w'.cell? ⟨gb699, 4, none⟩ = some (.slice Ao12 t672.length co12) ∧ w'.cell? ⟨gb699, 5, none⟩ = some (.slice Ao13 t675.length co13) ∧ w'.cell? ⟨gb699, 6, none⟩ = some (.slice Ao14 t678.length co14) ∧ w'.cell? ⟨gb699, 7, none⟩ = some (.slice Ao15 t681.length co15) ∧ w'.cell? ⟨gb699, 8, none⟩ = some (.slice Ao16 t684.length co16) ∧ w'.cell? ⟨gb699, 9, none⟩ = some (.slice Ao17 t687.length co17) ∧ w'.cell? ⟨gb699, 10, none⟩ = some (.slice Ao18 t690.length co18) ∧ w'.cell? ⟨gb699, 11, none⟩ = some (.slice Ao19 t693.length co19) ∧ w'.cell? ⟨gb699, 12, none⟩ = some (.slice Ao20 t696.length co20)) (ds := []) #[false, false, false, false, false, false, false, false] (by kernel_rfl) rfl rfl ⟨(blk_cell BK699.out 0).trans rfl, (blk_cell BK699.out 1).trans rfl, (blk_cell BK699.out 2).trans rfl, (blk_cell BK699.out 3).trans rfl, (blk_cell BK699.out 4).trans rfl, (blk_cell BK699.out 5).trans rfl, (blk_cell BK699.out 6).trans rfl, (blk_cell BK699.out 7).trans rfl, (blk_cell BK699.out 8).trans rfl, (blk_cell BK699.out 9).trans rfl, (blk_cell BK699.out 10).trans rfl, (blk_cell BK699.out 11).trans rfl, (blk_cell BK699.out 12).trans rfl⟩ (fun hHeld => ?_); refine with_tabW impl_SpareBits.tab4 impl_SpareBits.bits4 (fun HT_ HW_ => ?_)
    generalize w21.drew = w22 at HO668 HO671 HO674 HO677 HO680 HO683 HO686 HO689 HO692 HO695 HO698 BK699 HB hHeld ⊢
    refine pu_ 3 12 HT_.out ?_
    refine take_ (i := 0) (N := some 9) (v := ?_) (a' := ?_) #[true, false, false, true, false, false, false, false] rfl rfl (take_ofW HT_.out HW_.out (by kernel_rfl)) (fun _ _ _ h => h) (Or.inl ⟨by rfl, ?_⟩) hHeld ?_ ?_
    rotate_left
    · rintro w' ⟨s0, s1, s2, s3, s4, s5, s6, s7, s8, s9, s10, s11, s12⟩
      go_simp
      with_reducible rfl
    rotate_left
    · simp only [Act.put, List.setIfInBounds_toArray, List.set_cons_zero, List.set_cons_succ, i64_w, i32_w]
      rfl
    refine take_ (i := 4) (N := some 13) (v := ?_) (a' := ?_) #[true, false, false, true, true, false, false, false] rfl rfl (take_ofW HT_.out HW_.out (by kernel_rfl)) (fun _ _ _ h => h) (Or.inl ⟨by rfl, ?_⟩) hHeld ?_ ?_
    rotate_left
    · rintro w' ⟨s0, s1, s2, s3, s4, s5, s6, s7, s8, s9, s10, s11, s12⟩
      go_simp
      with_reducible rfl
    rotate_left
    · simp only [Act.put, List.setIfInBounds_toArray, List.set_cons_zero, List.set_cons_succ, i64_w, i32_w]
      rfl
    refine one_ (i := 1) (N := some 10) #[true, true, false, true, true, false, false, false] rfl rfl (one_of HT_.out (by kernel_rfl)) (by decide) (fun K hK => ?_)
    refine goes_ Try.func60 (by kernel_rfl) rfl #[.agg #[.string t664, .bool t665, .slice Ao10 t666.length co10, .slice Ao11 t669.length co11, .slice Ao12 t672.length co12, .slice Ao13 t675.length co13, .slice Ao14 t678.length co14, .slice Ao15 t681.length co15, .slice Ao16 t684.length co16, .slice Ao17 t687.length co17, .slice Ao18 t690.length co18, .slice Ao19 t693.length co19, .slice Ao20 t696.length co20]] (by rfl) rfl rfl (by (try simp only [List.map_toArray, List.map_cons, List.map_nil]); first | done | rfl | (simp only [List.length_drop, List.length_take]; rfl)) ?_
    with_reducible refine (impl_form_size.calls k t664 t665 _ _ t666 _ _ t669 _ _ t672 _ _ t675 _ _ t678 _ _ t681 _ _ t684 _ _ t687 _ _ t690 _ _ t693 _ _ t696 t700 _ ?side1 ?side2 ?side3 ?side4 ?side5 ?side6 ?side7 ?side8 ?side9 ?side10 ?side11 ?side12 ?side13 ?side14 ?side15 ?side16 ?side17 ?side18 ?side19 ?side20 ?side21 ?side22 A5.out).mono ?_
    (case side1 => exact pC_ (Kd.V_reads' HO668.out).2.2)
    (case side2 => exact (Kd.V_reads' HO668.out).2.1)
    (case side3 => exact pC_ (Kd.V_reads' HO671.out).2.2)
    (case side4 => exact (Kd.V_reads' HO671.out).2.1)
    (case side5 => exact pC_ (Kd.V_reads' HO674.out).2.2)
    (case side6 => exact (Kd.V_reads' HO674.out).2.1)
    (case side7 => exact pC_ (Kd.V_reads' HO677.out).2.2)
    (case side8 => exact (Kd.V_reads' HO677.out).2.1)
    (case side9 => exact pC_ (Kd.V_reads' HO680.out).2.2)
    (case side10 => exact (Kd.V_reads' HO680.out).2.1)
    (case side11 => exact pC_ (Kd.V_reads' HO683.out).2.2)
    (case side12 => exact (Kd.V_reads' HO683.out).2.1)
    (case side13 => exact pC_ (Kd.V_reads' HO686.out).2.2)
    (case side14 => exact (Kd.V_reads' HO686.out).2.1)
    (case side15 => exact pC_ (Kd.V_reads' HO689.out).2.2)
    (case side16 => exact (Kd.V_reads' HO689.out).2.1)
    (case side17 => exact pC_ (Kd.V_reads' HO692.out).2.2)
    (case side18 => exact (Kd.V_reads' HO692.out).2.1)
    (case side19 => exact pC_ (Kd.V_reads' HO695.out).2.2)
    (case side20 => exact (Kd.V_reads' HO695.out).2.1)
    (case side21 => exact pC_ (Kd.V_reads' HO698.out).2.2)
    (case side22 => exact (Kd.V_reads' HO698.out).2.1)
    rintro e w23 ⟨rfl, hb⟩
    refine ⟨_, rfl, ?_⟩
    have n0_ := Aside0.mk (Kd.V_below (pV_ HO668.out) hb)
    have n1_ := Aside0.mk (Kd.V_below (pV_ HO671.out) hb)
    have n2_ := Aside0.mk (Kd.V_below (pV_ HO674.out) hb)
    have n3_ := Aside0.mk (Kd.V_below (pV_ HO677.out) hb)
    have n4_ := Aside0.mk (Kd.V_below (pV_ HO680.out) hb)
    have n5_ := Aside0.mk (Kd.V_below (pV_ HO683.out) hb)
    have n6_ := Aside0.mk (Kd.V_below (pV_ HO686.out) hb)
    have n7_ := Aside0.mk (Kd.V_below (pV_ HO689.out) hb)
    have n8_ := Aside0.mk (Kd.V_below (pV_ HO692.out) hb)
    have n9_ := Aside0.mk (Kd.V_below (pV_ HO695.out) hb)
    have n10_ := Aside0.mk (Kd.V_below (pV_ HO698.out) hb)
    have n11_ := Aside0.mk (blk_below (g := gb699) (o := .cells #[.string t664, .bool t665, .slice Ao10 t666.length co10, .slice Ao11 t669.length co11, .slice Ao12 t672.length co12, .slice Ao13 t675.length co13, .slice Ao14 t678.length co14, .slice Ao15 t681.length co15, .slice Ao16 t684.length co16, .slice Ao17 t687.length co17, .slice Ao18 t690.length co18, .slice Ao19 t693.length co19, .slice Ao20 t696.length co20] 67 (0, 0)) (by (with_reducible repeat (first | refine blk_drewN ?_ _ | refine blk_drew ?_ | refine blk_alloc ?_ _)); exact BK699.out) hb)
    have n12_ := Aside0.mk (below_step (by repeat (first | (with_reducible first | exact HB.out | apply below_alloc | apply pw_below_drewN | apply below_drew1 | refine below_set ?_ GE699.out) | exact HB.out)) hb)
    clear HO668
    clear HO671
    clear HO674
    clear HO677
    clear HO680
    clear HO683
    clear HO686
    clear HO689
    clear HO692
    clear HO695
    clear HO698
    clear BK699
    clear HB
    have HO668 := n0_
    have HO671 := n1_
    have HO674 := n2_
    have HO677 := n3_
    have HO680 := n4_
    have HO683 := n5_
    have HO686 := n6_
    have HO689 := n7_
    have HO692 := n8_
    have HO695 := n9_
    have HO698 := n10_
    have BK699 := n11_
    have HB := n12_
    clear n0_ n1_ n2_ n3_ n4_ n5_ n6_ n7_ n8_ n9_ n10_ n11_ n12_
    (try clear hb)
    (try clear hb2)
    (try clear hk)
    (try clear hi)
    refine hK.out _ _ ⟨(blk_cell BK699.out 0).trans rfl, (blk_cell BK699.out 1).trans rfl, (blk_cell BK699.out 2).trans rfl, (blk_cell BK699.out 3).trans rfl, (blk_cell BK699.out 4).trans rfl, (blk_cell BK699.out 5).trans rfl, (blk_cell BK699.out 6).trans rfl, (blk_cell BK699.out 7).trans rfl, (blk_cell BK699.out 8).trans rfl, (blk_cell BK699.out 9).trans rfl, (blk_cell BK699.out 10).trans rfl, (blk_cell BK699.out 11).trans rfl, (blk_cell BK699.out 12).trans rfl⟩ (fun hHeld => ?_)
    clear hK K
    refine norm_ (a' := ?_) ?_ ?_
    rotate_left
    · show Act.put _ (some 10) _ = _
      simp only [Act.put, List.setIfInBounds_toArray, List.set_cons_zero, List.set_cons_succ, i64_w, i32_w]
      rfl
    refine pu_ 2 11 HT_.out ?_
    refine one_ (i := 5) (N := some 14) #[true, true, true, true, true, true, false, false] rfl rfl (one_of HT_.out (by kernel_rfl)) (by decide) (fun K hK => ?_)
    refine goes_ Try.func61 (by kernel_rfl) rfl #[.slice Ao10 t666.length co10] (by rfl) rfl rfl (by (try simp only [List.map_toArray, List.map_cons, List.map_nil]); first | done | rfl | (simp only [List.length_drop, List.length_take]; rfl)) ?_
    with_reducible refine (impl_nat_size.calls k _ _ t666 t701 _ ?side1 ?side2 A6.out).mono ?_
    (case side1 => exact pC_ (Kd.V_reads' HO668.out).2.2)
    (case side2 => exact (Kd.V_reads' HO668.out).2.1)
    rintro e w' ⟨rfl, ⟨nd, rfl⟩⟩
    refine ⟨_, rfl, ?_⟩
    refine hK.out _ _ ⟨(blk_cell BK699.out 0).trans rfl, (blk_cell BK699.out 1).trans rfl, (blk_cell BK699.out 2).trans rfl, (blk_cell BK699.out 3).trans rfl, (blk_cell BK699.out 4).trans rfl, (blk_cell BK699.out 5).trans rfl, (blk_cell BK699.out 6).trans rfl, (blk_cell BK699.out 7).trans rfl, (blk_cell BK699.out 8).trans rfl, (blk_cell BK699.out 9).trans rfl, (blk_cell BK699.out 10).trans rfl, (blk_cell BK699.out 11).trans rfl, (blk_cell BK699.out 12).trans rfl⟩ (fun hHeld => ?_)
    clear hK K
    refine norm_ (a' := ?_) ?_ ?_
    rotate_left
    · show Act.put _ (some 14) _ = _
      simp only [Act.put, List.setIfInBounds_toArray, List.set_cons_zero, List.set_cons_succ, i64_w, i32_w]
      rfl
    refine pu_ 6 15 HT_.out ?_
    refine pu_ 7 2 HT_.out ?_
    refine done_ (done_of HT_.out (by kernel_rfl)) ?_
    try go_wp2
    go_ret
    exact ⟨by first | rfl | (simp [errW_none, errW_some] <;> rfl) | (simp [*, errW_none, errW_some] <;> rfl), by repeat (first | (with_reducible first | exact HB.out | apply below_alloc | apply pw_below_drewN | apply below_drew1 | refine below_set ?_ GE699.out) | exact HB.out)⟩
  · replace c3 := Bool.eq_false_iff.mpr c3
    subst c3
    have H1 : (some 0) = some r := by rw [if_neg (show ¬ (false = true) by decide)] at H; exact H
    clear H
    have H := H1
    clear H1
    obtain rfl := Option.some.inj H
    go_enter Try.func34, Try.ntmps34
    go_wp2_with (first | ((with_reducible refine gate_callee (f := 56) rfl ?_); refine gL_ 5 Try.func56 rfl #[.int .i64 a0] ?_; (with_reducible refine (impl_isCurve.calls a0 false _ A2.out).mono ?_); rintro e w' ⟨rfl, ⟨nd, rfl⟩⟩; refine ⟨_, rfl, ?_⟩))
    go_ret
    exact ⟨by first | rfl | (simp [errW_none, errW_some] <;> rfl) | (simp [*, errW_none, errW_some] <;> rfl), pB_ HB.out⟩

/-! ### laws_FnExactSpareBits: function 10 -/
def laws_FnExactSpareBits.f (k : Nat) (a0 : Int) : Option (Bool) := (spec_SpareBits.f k a0).bind fun t702 => ((impl_SpareBits.f k a0).bind fun t703 => (if t703 = t702 then (some true) else (some false)))
set_option maxHeartbeats 8000000 in
set_option maxRecDepth 100000 in
theorem laws_FnExactSpareBits.calls (k : Nat) (a0 : Int) (r : Bool) (w : World) (h : laws_FnExactSpareBits.f k a0 = some r) :
    Calls Try.prog 10 #[.int .i64 a0] w fun e w' => e = .returned (.bool r) ∧ Below w.heap.size w w' := by
  have HB := Aside0.mk (Below.refl w.heap.size w)
  have H : ((spec_SpareBits.f k a0).bind fun t702 => ((impl_SpareBits.f k a0).bind fun t703 => (if t703 = t702 then (some true) else (some false)))) = some r := h
  clear h
  replace H := Option.bind_eq_some_iff.mp H
  obtain ⟨t702, A20, H⟩ := H
  have A2 := Aside0.mk A20
  clear A20
  replace H := Option.bind_eq_some_iff.mp H
  obtain ⟨t703, A30, H⟩ := H
  have A3 := Aside0.mk A30
  clear A30
  by_cases c4 : t703 = t702
  rotate_left
  · rw [if_neg c4] at H
    have c4b0 : (t703 == t702) = false := beq_eq_false_iff_ne.mpr c4
    have c4b1 : (t703 != t702) = true := bne_iff_ne.mpr c4
    obtain rfl := Option.some.inj H
    go_enter Try.func10, Try.ntmps10
    go_wp2_with (first | ((with_reducible refine gate_callee (f := 33) rfl ?_); refine gL_ 6 Try.func33 rfl #[.int .i64 a0] ?_; (with_reducible refine (spec_SpareBits.calls k a0 t702 _ A2.out).mono ?_); rintro e w7 ⟨rfl, hb⟩; refine ⟨_, rfl, ?_⟩; replace HB := Aside0.mk (below_step (pB_ HB.out) hb); clear hb) | ((with_reducible refine gate_callee (f := 34) rfl ?_); refine gL_ 8 Try.func34 rfl #[.int .i64 a0] ?_; (with_reducible refine (impl_SpareBits.calls k a0 t703 _ A3.out).mono ?_); rintro e w8 ⟨rfl, hb⟩; refine ⟨_, rfl, ?_⟩; replace HB := Aside0.mk (below_step (pB_ HB.out) hb); clear hb))
    go_ret
    exact ⟨by first | rfl | (simp [errW_none, errW_some] <;> rfl) | (simp [*, errW_none, errW_some] <;> rfl), pB_ HB.out⟩

  rw [if_pos c4] at H
  have c4b0 : (t703 == t702) = true := beq_iff_eq.mpr c4
  have c4b1 : (t703 != t702) = false := bne_eq_false_iff_eq.mpr c4
  clear c4
  obtain rfl := Option.some.inj H
  go_enter Try.func10, Try.ntmps10
  go_wp2_with (first | ((with_reducible refine gate_callee (f := 33) rfl ?_); refine gL_ 6 Try.func33 rfl #[.int .i64 a0] ?_; (with_reducible refine (spec_SpareBits.calls k a0 t702 _ A2.out).mono ?_); rintro e w5 ⟨rfl, hb⟩; refine ⟨_, rfl, ?_⟩; replace HB := Aside0.mk (below_step (pB_ HB.out) hb); clear hb) | ((with_reducible refine gate_callee (f := 34) rfl ?_); refine gL_ 8 Try.func34 rfl #[.int .i64 a0] ?_; (with_reducible refine (impl_SpareBits.calls k a0 t703 _ A3.out).mono ?_); rintro e w6 ⟨rfl, hb⟩; refine ⟨_, rfl, ?_⟩; replace HB := Aside0.mk (below_step (pB_ HB.out) hb); clear hb))
  go_ret
  exact ⟨by first | rfl | (simp [errW_none, errW_some] <;> rfl) | (simp [*, errW_none, errW_some] <;> rfl), pB_ HB.out⟩
/-- THE ONE PURE STATEMENT of laws_FnExactSpareBits: yours. -/
def laws_FnExactSpareBits.Pure : Prop := ∀ (a0 : Int), (Lit.int .i64 a0).wf = true → ∃ k, laws_FnExactSpareBits.f k a0 = some true
theorem laws_FnExactSpareBits.walk (P : laws_FnExactSpareBits.Pure) (a0 : Int) (w : World) (w0 : (Lit.int .i64 a0).wf = true) :
    Calls Try.prog 10 #[.int .i64 a0] w fun e w' => e = .returned (.bool true) ∧ Below w.heap.size w w' := by
  obtain ⟨k, h⟩ := P a0 w0
  refine (laws_FnExactSpareBits.calls k a0 true w h).mono ?_
  rintro e w' ⟨rfl, hd⟩
  exact ⟨rfl, hd⟩

end Go.Proofs.Ytaaimkgpeilbbaa.F
