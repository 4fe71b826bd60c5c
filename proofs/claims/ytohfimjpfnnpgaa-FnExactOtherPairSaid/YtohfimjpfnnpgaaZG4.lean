-- Made for this seat by a program of this session (wip/fork, wip/slim.py). Lean checks it.
import Derived.Test.YtohfimjpfnnpgaaFx0
import Derived.Test.YtohfimjpfnnpgaaZG1
import Derived.Test.YtohfimjpfnnpgaaZG2
import Derived.Test.YtohfimjpfnnpgaaZG3
namespace Go.Proofs.Ytohfimjpfnnpgaa.F
open Go.RowKit Go.Proofs.YtohfimjpfnnpgaaW.PrintWords Go.Proofs.YtohfimjpfnnpgaaW.PrintLast Go.Proofs.YtohfimjpfnnpgaaW.PrintMore
attribute [local go_sem] max2_int min2_int max_two min_two max_three min_three max_four min_four   -- for this text's walks alone
set_option linter.unusedVariables false
set_option linter.unusedSimpArgs false

/-! ### spec_PairGreater: function 29 -/
def spec_PairGreater.f (k : Nat) (a0_0 : ByteArray) (a0_1 : ByteArray) (a1 : ByteArray) : Option (Bool) := (spec_PairOk.f k a0_0 a0_1 a1).bind fun t787 => (if t787 = true then ((spec_Greater.f k a0_1 a1).bind fun t788 => (if t788 = true then (some true) else (if a0_1.toList = ([] : List UInt8) then ((spec_Greater.f k a0_0 a1).bind fun t789 => (some t789)) else (some false)))) else (some false))
set_option maxHeartbeats 8000000 in
set_option maxRecDepth 100000 in
theorem spec_PairGreater.calls (k : Nat) (a0_0 : ByteArray) (a0_1 : ByteArray) (a1 : ByteArray) (r : Bool) (w : World) (h : spec_PairGreater.f k a0_0 a0_1 a1 = some r) :
    Calls Try.prog 29 #[.agg #[.string a0_0, .string a0_1], .string a1] w fun e w' => e = .returned (.bool r) ∧ Below w.heap.size w w' := by
  have hu32 := Try.underlying32
  have HB := Aside0.mk (Below.refl w.heap.size w)
  have H : ((spec_PairOk.f k a0_0 a0_1 a1).bind fun t787 => (if t787 = true then ((spec_Greater.f k a0_1 a1).bind fun t788 => (if t788 = true then (some true) else (if a0_1.toList = ([] : List UInt8) then ((spec_Greater.f k a0_0 a1).bind fun t789 => (some t789)) else (some false)))) else (some false))) = some r := h
  clear h
  replace H := Option.bind_eq_some_iff.mp H
  obtain ⟨t787, A30, H⟩ := H
  have A3 := Aside0.mk A30
  clear A30
  by_cases c4 : t787 = true
  · subst c4
    have H1 : ((spec_Greater.f k a0_1 a1).bind fun t788 => (if t788 = true then (some true) else (if a0_1.toList = ([] : List UInt8) then ((spec_Greater.f k a0_0 a1).bind fun t789 => (some t789)) else (some false)))) = some r := by rw [if_pos rfl] at H; exact H
    clear H
    have H := H1
    clear H1
    replace H := Option.bind_eq_some_iff.mp H
    obtain ⟨t788, A50, H⟩ := H
    have A5 := Aside0.mk A50
    clear A50
    by_cases c6 : t788 = true
    · subst c6
      have H1 : (some true) = some r := by rw [if_pos rfl] at H; exact H
      clear H
      have H := H1
      clear H1
      obtain rfl := Option.some.inj H
      go_enter Try.func29, Try.ntmps29
      go_wp2_with (first | ((with_reducible refine gate_dst (N := 2) rfl ?_); refine box_event ?hg (N := 2) ?hd (cs := #[.string a0_0, .string a0_1]) (t := 32) ?hr ?_; (case hd => rfl); (case hg => rfl); (case hr => first | (go_simp; done) | (go_simp; rfl)); intro gb786 hg w7 hbox hb; have BK786 := Aside0.mk (hbox); have GW786 := Aside0.mk ((by rw [hg]; exact (below_size (pB_ HB.out)) : w.heap.size ≤ gb786)); have GE786 := Aside0.mk ((by rw [hg]; exact (below_size (pB_ HB.out)) : w.heap.size ≤ gb786)); replace HB := Aside0.mk (below_step (pB_ HB.out) hb); clear hb hbox hg; have hcz8_0 : w7.cell? ⟨gb786, 0, none⟩ = some (.string a0_0) := (blk_cell BK786.out 0).trans rfl; have hcz8_1 : w7.cell? ⟨gb786, 1, none⟩ = some (.string a0_1) := (blk_cell BK786.out 1).trans rfl; have hfz8_0 := blk_frozen BK786.out 0; have hfz8_1 := blk_frozen BK786.out 1) | ((with_reducible refine gate_callee (f := 70) rfl ?_); refine gL_ 7 Try.func70 rfl #[.agg #[.string a0_0, .string a0_1], .string a1] ?_; (with_reducible refine (spec_PairOk.calls k a0_0 a0_1 a1 true _ A3.out).mono ?_); rintro e w9 ⟨rfl, hb⟩; refine ⟨_, rfl, ?_⟩; replace BK786 := Aside0.mk (blk_below (g := gb786) (o := .cells #[.string a0_0, .string a0_1] 32 (0, 0)) (by (with_reducible repeat (first | refine blk_drewN ?_ _ | refine blk_drew ?_ | refine blk_alloc ?_ _)); exact BK786.out) hb); replace HB := Aside0.mk (below_step (by repeat (first | (with_reducible first | exact HB.out | apply below_alloc | apply pw_below_drewN | apply below_drew1 | refine below_set ?_ GE786.out) | exact HB.out)) hb); clear hb; have hcz10_0 : w9.cell? ⟨gb786, 0, none⟩ = some (.string a0_0) := (blk_cell BK786.out 0).trans rfl; have hcz10_1 : w9.cell? ⟨gb786, 1, none⟩ = some (.string a0_1) := (blk_cell BK786.out 1).trans rfl; have hfz10_0 := blk_frozen BK786.out 0; have hfz10_1 := blk_frozen BK786.out 1) | ((with_reducible refine gate_callee (f := 14) rfl ?_); refine gL_ 12 Try.func14 rfl #[.string a0_1, .string a1] ?_; (with_reducible refine (spec_Greater.calls k a0_1 a1 true _ A5.out).mono ?_); rintro e w11 ⟨rfl, hb⟩; refine ⟨_, rfl, ?_⟩; replace BK786 := Aside0.mk (blk_below (g := gb786) (o := .cells #[.string a0_0, .string a0_1] 32 (0, 0)) (by (with_reducible repeat (first | refine blk_drewN ?_ _ | refine blk_drew ?_ | refine blk_alloc ?_ _)); exact BK786.out) hb); replace HB := Aside0.mk (below_step (by repeat (first | (with_reducible first | exact HB.out | apply below_alloc | apply pw_below_drewN | apply below_drew1 | refine below_set ?_ GE786.out) | exact HB.out)) hb); clear hb))
      go_ret
      exact ⟨by first | rfl | (simp [errW_none, errW_some] <;> rfl) | (simp [*, errW_none, errW_some] <;> rfl), by repeat (first | (with_reducible first | exact HB.out | apply below_alloc | apply pw_below_drewN | apply below_drew1 | refine below_set ?_ GE786.out) | exact HB.out)⟩
    · replace c6 := Bool.eq_false_iff.mpr c6
      subst c6
      have H1 : (if a0_1.toList = ([] : List UInt8) then ((spec_Greater.f k a0_0 a1).bind fun t789 => (some t789)) else (some false)) = some r := by rw [if_neg (show ¬ (false = true) by decide)] at H; exact H
      clear H
      have H := H1
      clear H1
      by_cases c12 : a0_1.toList = ([] : List UInt8)
      rotate_left
      · rw [if_neg c12] at H
        have c12b0 : (a0_1.toList == ([] : List UInt8)) = false := beq_eq_false_iff_ne.mpr c12
        have c12b1 : (a0_1.toList != ([] : List UInt8)) = true := bne_iff_ne.mpr c12
        obtain rfl := Option.some.inj H
        go_enter Try.func29, Try.ntmps29
        go_wp2_with (first | ((with_reducible refine gate_dst (N := 2) rfl ?_); refine box_event ?hg (N := 2) ?hd (cs := #[.string a0_0, .string a0_1]) (t := 32) ?hr ?_; (case hd => rfl); (case hg => rfl); (case hr => first | (go_simp; done) | (go_simp; rfl)); intro gb786 hg w21 hbox hb; have BK786 := Aside0.mk (hbox); have GW786 := Aside0.mk ((by rw [hg]; exact (below_size (pB_ HB.out)) : w.heap.size ≤ gb786)); have GE786 := Aside0.mk ((by rw [hg]; exact (below_size (pB_ HB.out)) : w.heap.size ≤ gb786)); replace HB := Aside0.mk (below_step (pB_ HB.out) hb); clear hb hbox hg; have hcz22_0 : w21.cell? ⟨gb786, 0, none⟩ = some (.string a0_0) := (blk_cell BK786.out 0).trans rfl; have hcz22_1 : w21.cell? ⟨gb786, 1, none⟩ = some (.string a0_1) := (blk_cell BK786.out 1).trans rfl; have hfz22_0 := blk_frozen BK786.out 0; have hfz22_1 := blk_frozen BK786.out 1) | ((with_reducible refine gate_callee (f := 70) rfl ?_); refine gL_ 7 Try.func70 rfl #[.agg #[.string a0_0, .string a0_1], .string a1] ?_; (with_reducible refine (spec_PairOk.calls k a0_0 a0_1 a1 true _ A3.out).mono ?_); rintro e w23 ⟨rfl, hb⟩; refine ⟨_, rfl, ?_⟩; replace BK786 := Aside0.mk (blk_below (g := gb786) (o := .cells #[.string a0_0, .string a0_1] 32 (0, 0)) (by (with_reducible repeat (first | refine blk_drewN ?_ _ | refine blk_drew ?_ | refine blk_alloc ?_ _)); exact BK786.out) hb); replace HB := Aside0.mk (below_step (by repeat (first | (with_reducible first | exact HB.out | apply below_alloc | apply pw_below_drewN | apply below_drew1 | refine below_set ?_ GE786.out) | exact HB.out)) hb); clear hb; have hcz24_0 : w23.cell? ⟨gb786, 0, none⟩ = some (.string a0_0) := (blk_cell BK786.out 0).trans rfl; have hcz24_1 : w23.cell? ⟨gb786, 1, none⟩ = some (.string a0_1) := (blk_cell BK786.out 1).trans rfl; have hfz24_0 := blk_frozen BK786.out 0; have hfz24_1 := blk_frozen BK786.out 1) | ((with_reducible refine gate_callee (f := 14) rfl ?_); refine gL_ 12 Try.func14 rfl #[.string a0_1, .string a1] ?_; (with_reducible refine (spec_Greater.calls k a0_1 a1 false _ A5.out).mono ?_); rintro e w25 ⟨rfl, hb⟩; refine ⟨_, rfl, ?_⟩; replace BK786 := Aside0.mk (blk_below (g := gb786) (o := .cells #[.string a0_0, .string a0_1] 32 (0, 0)) (by (with_reducible repeat (first | refine blk_drewN ?_ _ | refine blk_drew ?_ | refine blk_alloc ?_ _)); exact BK786.out) hb); replace HB := Aside0.mk (below_step (by repeat (first | (with_reducible first | exact HB.out | apply below_alloc | apply pw_below_drewN | apply below_drew1 | refine below_set ?_ GE786.out) | exact HB.out)) hb); clear hb; have hcz26_0 : w25.cell? ⟨gb786, 0, none⟩ = some (.string a0_0) := (blk_cell BK786.out 0).trans rfl; have hcz26_1 : w25.cell? ⟨gb786, 1, none⟩ = some (.string a0_1) := (blk_cell BK786.out 1).trans rfl; have hfz26_0 := blk_frozen BK786.out 0; have hfz26_1 := blk_frozen BK786.out 1))
        go_ret
        exact ⟨by first | rfl | (simp [errW_none, errW_some] <;> rfl) | (simp [*, errW_none, errW_some] <;> rfl), by repeat (first | (with_reducible first | exact HB.out | apply below_alloc | apply pw_below_drewN | apply below_drew1 | refine below_set ?_ GE786.out) | exact HB.out)⟩
      rw [if_pos c12] at H
      have c12b0 : (a0_1.toList == ([] : List UInt8)) = true := beq_iff_eq.mpr c12
      have c12b1 : (a0_1.toList != ([] : List UInt8)) = false := bne_eq_false_iff_eq.mpr c12
      clear c12
      replace H := Option.bind_eq_some_iff.mp H
      obtain ⟨t789, A130, H⟩ := H
      have A13 := Aside0.mk A130
      clear A130
      obtain rfl := Option.some.inj H
      go_enter Try.func29, Try.ntmps29
      go_wp2_with (first | ((with_reducible refine gate_dst (N := 2) rfl ?_); refine box_event ?hg (N := 2) ?hd (cs := #[.string a0_0, .string a0_1]) (t := 32) ?hr ?_; (case hd => rfl); (case hg => rfl); (case hr => first | (go_simp; done) | (go_simp; rfl)); intro gb786 hg w14 hbox hb; have BK786 := Aside0.mk (hbox); have GW786 := Aside0.mk ((by rw [hg]; exact (below_size (pB_ HB.out)) : w.heap.size ≤ gb786)); have GE786 := Aside0.mk ((by rw [hg]; exact (below_size (pB_ HB.out)) : w.heap.size ≤ gb786)); replace HB := Aside0.mk (below_step (pB_ HB.out) hb); clear hb hbox hg; have hcz15_0 : w14.cell? ⟨gb786, 0, none⟩ = some (.string a0_0) := (blk_cell BK786.out 0).trans rfl; have hcz15_1 : w14.cell? ⟨gb786, 1, none⟩ = some (.string a0_1) := (blk_cell BK786.out 1).trans rfl; have hfz15_0 := blk_frozen BK786.out 0; have hfz15_1 := blk_frozen BK786.out 1) | ((with_reducible refine gate_callee (f := 70) rfl ?_); refine gL_ 7 Try.func70 rfl #[.agg #[.string a0_0, .string a0_1], .string a1] ?_; (with_reducible refine (spec_PairOk.calls k a0_0 a0_1 a1 true _ A3.out).mono ?_); rintro e w16 ⟨rfl, hb⟩; refine ⟨_, rfl, ?_⟩; replace BK786 := Aside0.mk (blk_below (g := gb786) (o := .cells #[.string a0_0, .string a0_1] 32 (0, 0)) (by (with_reducible repeat (first | refine blk_drewN ?_ _ | refine blk_drew ?_ | refine blk_alloc ?_ _)); exact BK786.out) hb); replace HB := Aside0.mk (below_step (by repeat (first | (with_reducible first | exact HB.out | apply below_alloc | apply pw_below_drewN | apply below_drew1 | refine below_set ?_ GE786.out) | exact HB.out)) hb); clear hb; have hcz17_0 : w16.cell? ⟨gb786, 0, none⟩ = some (.string a0_0) := (blk_cell BK786.out 0).trans rfl; have hcz17_1 : w16.cell? ⟨gb786, 1, none⟩ = some (.string a0_1) := (blk_cell BK786.out 1).trans rfl; have hfz17_0 := blk_frozen BK786.out 0; have hfz17_1 := blk_frozen BK786.out 1) | ((with_reducible refine gate_callee (f := 14) rfl ?_); refine gL_ 12 Try.func14 rfl #[.string a0_1, .string a1] ?_; (with_reducible refine (spec_Greater.calls k a0_1 a1 false _ A5.out).mono ?_); rintro e w18 ⟨rfl, hb⟩; refine ⟨_, rfl, ?_⟩; replace BK786 := Aside0.mk (blk_below (g := gb786) (o := .cells #[.string a0_0, .string a0_1] 32 (0, 0)) (by (with_reducible repeat (first | refine blk_drewN ?_ _ | refine blk_drew ?_ | refine blk_alloc ?_ _)); exact BK786.out) hb); replace HB := Aside0.mk (below_step (by repeat (first | (with_reducible first | exact HB.out | apply below_alloc | apply pw_below_drewN | apply below_drew1 | refine below_set ?_ GE786.out) | exact HB.out)) hb); clear hb; have hcz19_0 : w18.cell? ⟨gb786, 0, none⟩ = some (.string a0_0) := (blk_cell BK786.out 0).trans rfl; have hcz19_1 : w18.cell? ⟨gb786, 1, none⟩ = some (.string a0_1) := (blk_cell BK786.out 1).trans rfl; have hfz19_0 := blk_frozen BK786.out 0; have hfz19_1 := blk_frozen BK786.out 1) | (go_at_call 14; (with_reducible refine (spec_Greater.calls k a0_0 a1 t789 _ A13.out).mono ?_); rintro e w20 ⟨rfl, hb⟩; replace BK786 := Aside0.mk (blk_below (g := gb786) (o := .cells #[.string a0_0, .string a0_1] 32 (0, 0)) (by (with_reducible repeat (first | refine blk_drewN ?_ _ | refine blk_drew ?_ | refine blk_alloc ?_ _)); exact BK786.out) hb); replace HB := Aside0.mk (below_step (by repeat (first | (with_reducible first | exact HB.out | apply below_alloc | apply pw_below_drewN | apply below_drew1 | refine below_set ?_ GE786.out) | exact HB.out)) hb); clear hb))
      go_ret
      exact ⟨by first | rfl | (simp [errW_none, errW_some] <;> rfl) | (simp [*, errW_none, errW_some] <;> rfl), by repeat (first | (with_reducible first | exact HB.out | apply below_alloc | apply pw_below_drewN | apply below_drew1 | refine below_set ?_ GE786.out) | exact HB.out)⟩
  · replace c4 := Bool.eq_false_iff.mpr c4
    subst c4
    have H1 : (some false) = some r := by rw [if_neg (show ¬ (false = true) by decide)] at H; exact H
    clear H
    have H := H1
    clear H1
    obtain rfl := Option.some.inj H
    go_enter Try.func29, Try.ntmps29
    go_wp2_with (first | ((with_reducible refine gate_dst (N := 2) rfl ?_); refine box_event ?hg (N := 2) ?hd (cs := #[.string a0_0, .string a0_1]) (t := 32) ?hr ?_; (case hd => rfl); (case hg => rfl); (case hr => first | (go_simp; done) | (go_simp; rfl)); intro gb786 hg w27 hbox hb; have BK786 := Aside0.mk (hbox); have GW786 := Aside0.mk ((by rw [hg]; exact (below_size (pB_ HB.out)) : w.heap.size ≤ gb786)); have GE786 := Aside0.mk ((by rw [hg]; exact (below_size (pB_ HB.out)) : w.heap.size ≤ gb786)); replace HB := Aside0.mk (below_step (pB_ HB.out) hb); clear hb hbox hg; have hcz28_0 : w27.cell? ⟨gb786, 0, none⟩ = some (.string a0_0) := (blk_cell BK786.out 0).trans rfl; have hcz28_1 : w27.cell? ⟨gb786, 1, none⟩ = some (.string a0_1) := (blk_cell BK786.out 1).trans rfl; have hfz28_0 := blk_frozen BK786.out 0; have hfz28_1 := blk_frozen BK786.out 1) | ((with_reducible refine gate_callee (f := 70) rfl ?_); refine gL_ 7 Try.func70 rfl #[.agg #[.string a0_0, .string a0_1], .string a1] ?_; (with_reducible refine (spec_PairOk.calls k a0_0 a0_1 a1 false _ A3.out).mono ?_); rintro e w29 ⟨rfl, hb⟩; refine ⟨_, rfl, ?_⟩; replace BK786 := Aside0.mk (blk_below (g := gb786) (o := .cells #[.string a0_0, .string a0_1] 32 (0, 0)) (by (with_reducible repeat (first | refine blk_drewN ?_ _ | refine blk_drew ?_ | refine blk_alloc ?_ _)); exact BK786.out) hb); replace HB := Aside0.mk (below_step (by repeat (first | (with_reducible first | exact HB.out | apply below_alloc | apply pw_below_drewN | apply below_drew1 | refine below_set ?_ GE786.out) | exact HB.out)) hb); clear hb))
    go_ret
    exact ⟨by first | rfl | (simp [errW_none, errW_some] <;> rfl) | (simp [*, errW_none, errW_some] <;> rfl), by repeat (first | (with_reducible first | exact HB.out | apply below_alloc | apply pw_below_drewN | apply below_drew1 | refine below_set ?_ GE786.out) | exact HB.out)⟩

/-! ### laws_toPair: function 30 -/
def laws_toPair.f (a0_0 : ByteArray) (a0_1 : ByteArray) : Option (ByteArray × ByteArray) := some (a0_0, a0_1)
set_option maxHeartbeats 8000000 in
set_option maxRecDepth 100000 in
theorem laws_toPair.calls (a0_0 : ByteArray) (a0_1 : ByteArray) (r1 : ByteArray) (r2 : ByteArray) (w : World) (h : laws_toPair.f a0_0 a0_1 = some (r1, r2)) :
    Calls Try.prog 30 #[.agg #[.string a0_0, .string a0_1]] w fun e w' => e = .returned (.agg #[.string r1, .string r2]) ∧ Below w.heap.size w w' := by
  have hu29 := Try.underlying29
  have hu32 := Try.underlying32
  have HB := Aside0.mk (Below.refl w.heap.size w)
  have H : (some (a0_0, a0_1)) = some (r1, r2) := h
  clear h
  simp only [Option.some.injEq, Prod.mk.injEq] at H
  obtain ⟨rfl, rfl⟩ := H
  go_enter Try.func30, Try.ntmps30
  go_wp2_with (first | ((with_reducible refine gate_dst (N := 1) rfl ?_); refine box_event ?hg (N := 1) ?hd (cs := #[.string a0_0, .string a0_1]) (t := 29) ?hr ?_; (case hd => rfl); (case hg => rfl); (case hr => first | (go_simp; done) | (go_simp; rfl)); intro gb790 hg w2 hbox hb; have BK790 := Aside0.mk (hbox); have GW790 := Aside0.mk ((by rw [hg]; exact (below_size (pB_ HB.out)) : w.heap.size ≤ gb790)); have GE790 := Aside0.mk ((by rw [hg]; exact (below_size (pB_ HB.out)) : w.heap.size ≤ gb790)); replace HB := Aside0.mk (below_step (pB_ HB.out) hb); clear hb hbox hg) | ((with_reducible refine gate_dst (N := 2) rfl ?_); refine box_event ?hg (N := 2) ?hd (cs := #[.string (⟨#[]⟩ : ByteArray), .string (⟨#[]⟩ : ByteArray)]) (t := 32) ?hr ?_; (case hd => rfl); (case hg => rfl); (case hr => first | (go_simp; done) | (go_simp; rfl)); intro gb791 hg w3 hbox hb; have BK791 := Aside0.mk (hbox); have GW791 := Aside0.mk ((by rw [hg]; exact (below_size (by repeat (first | (with_reducible first | exact HB.out | apply below_alloc | apply pw_below_drewN | apply below_drew1 | refine below_set ?_ GE790.out) | exact HB.out))) : w.heap.size ≤ gb791)); have GE791 := Aside0.mk ((by rw [hg]; exact (below_size (by repeat (first | (with_reducible first | exact HB.out | apply below_alloc | apply pw_below_drewN | apply below_drew1 | refine below_set ?_ GE790.out) | exact HB.out))) : w.heap.size ≤ gb791)); replace HB := Aside0.mk (below_step (by repeat (first | (with_reducible first | exact HB.out | apply below_alloc | apply pw_below_drewN | apply below_drew1 | refine below_set ?_ GE790.out) | exact HB.out)) hb); have NB790_791 := Aside0.mk ((by rw [hg]; exact Nat.ne_of_lt (blk_lt (g := gb790) (o := .cells #[.string a0_0, .string a0_1] 29 (0, 0)) (by (with_reducible repeat (first | refine blk_drewN ?_ _ | refine blk_drew ?_ | refine blk_alloc ?_ _)); exact BK790.out)) : gb790 ≠ gb791)); have NB791_790 := Aside0.mk ((by rw [hg]; exact Nat.ne_of_gt (blk_lt (g := gb790) (o := .cells #[.string a0_0, .string a0_1] 29 (0, 0)) (by (with_reducible repeat (first | refine blk_drewN ?_ _ | refine blk_drew ?_ | refine blk_alloc ?_ _)); exact BK790.out)) : gb791 ≠ gb790)); replace BK790 := Aside0.mk (blk_below (g := gb790) (o := .cells #[.string a0_0, .string a0_1] 29 (0, 0)) (by (with_reducible repeat (first | refine blk_drewN ?_ _ | refine blk_drew ?_ | refine blk_alloc ?_ _)); exact BK790.out) hb); clear hb hbox hg) | ((with_reducible refine gate_dst (N := 3) rfl ?_); refine box_event ?hg (N := 3) ?hd (cs := #[.string (⟨#[]⟩ : ByteArray), .string (⟨#[]⟩ : ByteArray)]) (t := 32) ?hr ?_; (case hd => rfl); (case hg => rfl); (case hr => first | (go_simp; done) | (go_simp; rfl)); intro gb792 hg w4 hbox hb; have BK792 := Aside0.mk (hbox); have GW792 := Aside0.mk ((by rw [hg]; exact (below_size (by repeat (first | (with_reducible first | exact HB.out | apply below_alloc | apply pw_below_drewN | apply below_drew1 | refine below_set ?_ GE790.out | refine below_set ?_ GE791.out) | exact HB.out))) : w.heap.size ≤ gb792)); have GE792 := Aside0.mk ((by rw [hg]; exact (below_size (by repeat (first | (with_reducible first | exact HB.out | apply below_alloc | apply pw_below_drewN | apply below_drew1 | refine below_set ?_ GE790.out | refine below_set ?_ GE791.out) | exact HB.out))) : w.heap.size ≤ gb792)); replace HB := Aside0.mk (below_step (by repeat (first | (with_reducible first | exact HB.out | apply below_alloc | apply pw_below_drewN | apply below_drew1 | refine below_set ?_ GE790.out | refine below_set ?_ GE791.out) | exact HB.out)) hb); have NB790_792 := Aside0.mk ((by rw [hg]; exact Nat.ne_of_lt (blk_lt (g := gb790) (o := .cells #[.string a0_0, .string a0_1] 29 (0, 0)) (by (with_reducible repeat (first | refine blk_drewN ?_ _ | refine blk_drew ?_ | refine blk_alloc ?_ _)); exact BK790.out)) : gb790 ≠ gb792)); have NB792_790 := Aside0.mk ((by rw [hg]; exact Nat.ne_of_gt (blk_lt (g := gb790) (o := .cells #[.string a0_0, .string a0_1] 29 (0, 0)) (by (with_reducible repeat (first | refine blk_drewN ?_ _ | refine blk_drew ?_ | refine blk_alloc ?_ _)); exact BK790.out)) : gb792 ≠ gb790)); replace BK790 := Aside0.mk (blk_below (g := gb790) (o := .cells #[.string a0_0, .string a0_1] 29 (0, 0)) (by (with_reducible repeat (first | refine blk_drewN ?_ _ | refine blk_drew ?_ | refine blk_alloc ?_ _)); exact BK790.out) hb); have NB791_792 := Aside0.mk ((by rw [hg]; exact Nat.ne_of_lt (blk_lt (g := gb791) (o := .cells #[.string (⟨#[]⟩ : ByteArray), .string (⟨#[]⟩ : ByteArray)] 32 (0, 0)) (by (with_reducible repeat (first | refine blk_drewN ?_ _ | refine blk_drew ?_ | refine blk_alloc ?_ _)); exact BK791.out)) : gb791 ≠ gb792)); have NB792_791 := Aside0.mk ((by rw [hg]; exact Nat.ne_of_gt (blk_lt (g := gb791) (o := .cells #[.string (⟨#[]⟩ : ByteArray), .string (⟨#[]⟩ : ByteArray)] 32 (0, 0)) (by (with_reducible repeat (first | refine blk_drewN ?_ _ | refine blk_drew ?_ | refine blk_alloc ?_ _)); exact BK791.out)) : gb792 ≠ gb791)); replace BK791 := Aside0.mk (blk_below (g := gb791) (o := .cells #[.string (⟨#[]⟩ : ByteArray), .string (⟨#[]⟩ : ByteArray)] 32 (0, 0)) (by (with_reducible repeat (first | refine blk_drewN ?_ _ | refine blk_drew ?_ | refine blk_alloc ?_ _)); exact BK791.out) hb); clear hb hbox hg; have hnb5 := NB790_791.out; have hnc5 := NB791_790.out; have hnb6 := NB790_792.out; have hnc6 := NB792_790.out; have hcz7_0 : w4.cell? ⟨gb790, 0, none⟩ = some (.string a0_0) := (blk_cell BK790.out 0).trans rfl; have hcz7_1 : w4.cell? ⟨gb790, 1, none⟩ = some (.string a0_1) := (blk_cell BK790.out 1).trans rfl; have hfz7_0 := blk_frozen BK790.out 0; have hfz7_1 := blk_frozen BK790.out 1; have hnb8 := NB792_791.out; have hnc8 := NB791_792.out; have hcz9_0 : w4.cell? ⟨gb792, 0, none⟩ = some (.string (⟨#[]⟩ : ByteArray)) := (blk_cell BK792.out 0).trans rfl; have hcz9_1 : w4.cell? ⟨gb792, 1, none⟩ = some (.string (⟨#[]⟩ : ByteArray)) := (blk_cell BK792.out 1).trans rfl; have hfz9_0 := blk_frozen BK792.out 0; have hfz9_1 := blk_frozen BK792.out 1; have hcz10_0 : w4.cell? ⟨gb791, 0, none⟩ = some (.string (⟨#[]⟩ : ByteArray)) := (blk_cell BK791.out 0).trans rfl; have hcz10_1 : w4.cell? ⟨gb791, 1, none⟩ = some (.string (⟨#[]⟩ : ByteArray)) := (blk_cell BK791.out 1).trans rfl; have hfz10_0 := blk_frozen BK791.out 0; have hfz10_1 := blk_frozen BK791.out 1))
  refine bodyPost_ret (results_cell_row rfl _ _ gb791 32 #[.string a0_0, .string a0_1] (0, 0) _ rfl (by (with_reducible repeat (first | refine blk_drewN ?_ _ | refine blk_drew ?_ | refine blk_alloc ?_ _)); refine blk_put (cs := #[.string a0_0, .string (⟨#[]⟩ : ByteArray)]) ?_ 1 _ rfl; (with_reducible repeat (first | refine blk_drewN ?_ _ | refine blk_drew ?_ | refine blk_alloc ?_ _)); refine blk_put (cs := #[.string (⟨#[]⟩ : ByteArray), .string (⟨#[]⟩ : ByteArray)]) ?_ 0 _ rfl; (with_reducible repeat (first | refine blk_drewN ?_ _ | refine blk_drew ?_ | refine blk_alloc ?_ _)); refine blk_far ?_ NB791_792.out _; (with_reducible repeat (first | refine blk_drewN ?_ _ | refine blk_drew ?_ | refine blk_alloc ?_ _)); refine blk_far ?_ NB791_792.out _; (with_reducible repeat (first | refine blk_drewN ?_ _ | refine blk_drew ?_ | refine blk_alloc ?_ _)); exact BK791.out) Try.underlying32 rfl (by kernel_rfl)) rfl ?_
  exact ⟨by first | rfl | (simp [errW_none, errW_some] <;> rfl) | (simp [*, errW_none, errW_some] <;> rfl), by repeat (first | (with_reducible first | exact HB.out | apply below_alloc | apply pw_below_drewN | apply below_drew1 | refine below_set ?_ GE790.out | refine below_set ?_ GE791.out | refine below_set ?_ GE792.out) | exact HB.out)⟩

/-! ### impl_pairs: function 71 -/
def impl_pairs.l0 : Nat → ByteArray → List Int → Bool → List (S32) → Int → Int → Option (List Int × Bool)
  | 0, _, _, _, _, _, _ => none
  | k + 1, x0, x6, x7, x15, x16, x17 => if x17 < x16 then (if 0 ≤ x17 then (if x17 < (x15.length : Int) then (if x7 = true then ((impl_RestOk.f k ((rd_T32 x15 x17).f0) x0).bind fun t799 => (if t799 = true then ((impl_RestOk.f k ((rd_T32 x15 x17).f1) x0).bind fun t800 => (impl_pairs.l0 k x0 x6 t800 x15 x16 (wrap64 (x17 + 1)))) else (impl_pairs.l0 k x0 x6 false x15 x16 (wrap64 (x17 + 1))))) else (impl_pairs.l0 k x0 x6 false x15 x16 (wrap64 (x17 + 1)))) else (none)) else (none)) else (some (x6, x7))
def impl_pairs.f (k : Nat) (a0 : ByteArray) (l1 : List (S32)) : Option (List Int × Bool) := (impl_modulus.f k a0 ([] : List ByteArray)).bind fun bt793 => (impl_pairs.l0 k a0 bt793.1 bt793.2 l1 (l1.length : Int) 0)
set_option maxHeartbeats 8000000 in
set_option maxRecDepth 100000 in
theorem impl_pairs.calls (k : Nat) (a0 : ByteArray) (A1 : Option Addr) (c1 : Nat) (l1 : List (S32)) (r1 : List Int) (r2 : Bool) (w : World) (hr1 : Kd.C k32 w A1 l1.length l1) (hc1 : l1.length ≤ c1) (h : impl_pairs.f k a0 l1 = some (r1, r2)) :
    Calls Try.prog 71 #[.string a0, .slice A1 l1.length c1] w fun e w' => ∃ v0_ : Value, e = .returned (.tuple #[v0_, .bool r2]) ∧ Kd.V (Kd.int .u64) 89 w' w.heap.size (fun k_ => (w.heap.size ≤ k_)) v0_ r1 ∧ Below w.heap.size w w' := by
  have hu32 := Try.underlying32
  have HR1 := Aside0.mk hr1
  have HC1 := Aside0.mk hc1
  clear hr1 hc1
  have HB := Aside0.mk (Below.refl w.heap.size w)
  have H : ((impl_modulus.f k a0 ([] : List ByteArray)).bind fun bt793 => (impl_pairs.l0 k a0 bt793.1 bt793.2 l1 (l1.length : Int) 0)) = some (r1, r2) := h
  clear h
  replace H := Option.bind_eq_some_iff.mp H
  obtain ⟨⟨t793, t796⟩, A30, H⟩ := H
  replace H : (impl_pairs.l0 k a0 t793 t796 l1 (l1.length : Int) 0) = some (r1, r2) := H
  have A3 := Aside0.mk A30
  clear A30
  have H' := Aside0.mk H
  clear H
  go_enter Try.func71, Try.ntmps71
  go_wp2_with (first | ((with_reducible refine gate_callee (f := 50) rfl ?_); refine gL_ 12 Try.func50 rfl #[.string a0, .slice none 0 0] ?_; (refine (impl_modulus.calls k a0 _ _ ([] : List ByteArray) t793 t796 _ ?side1 ?side2 A3.out).mono ?_); (case side1 => exact Kd.C_nil _ _); (case side2 => exact Nat.le_refl _); rintro e w4 ⟨v794, rfl, ho0, hb⟩; refine ⟨_, rfl, ?_⟩; have HO795 := Aside0.mk (Kd.V_lower (Kd.V_mono (ok' := fun k_ => (w.heap.size ≤ k_)) ho0 (fun k_ hk_ => (Nat.le_trans (below_size (pB_ HB.out)) hk_))) (below_size (pB_ HB.out))); replace HB := Aside0.mk (below_step (pB_ HB.out) hb); clear hb ho0))
  go_loopg [7, 17] k (fun kq v7 v17 w' => ∃ (x7_1 : Bool) (x17_1 : Int), v7 = .bool x7_1 ∧ v17 = .int .i64 x17_1 ∧ Aside0 (impl_pairs.l0 kq a0 t793 x7_1 l1 (l1.length : Int) x17_1 = some (r1, r2)) ∧ Aside0 (kq ≤ k) ∧ Aside0 (Kd.V (Kd.int .u64) 89 w' w.heap.size (fun k_ => (w.heap.size ≤ k_)) v794 t793) ∧ Aside0 (Below w.heap.size w w'))
  case atStart => exact ⟨(t796), (0), (by first | rfl | (simp; done) | (simp [*]; done)), (by first | rfl | (simp; done) | (simp [*]; done)), H', ⟨Nat.le_refl _⟩, ⟨by (with_reducible repeat (first | apply Kd.V_alloc | apply Kd.V_drewN | apply Kd.V_drew)); exact HO795.out⟩, ⟨pB_ HB.out⟩⟩
  clear H'
  try clear c1
  try clear p2
  obtain ⟨x7_1, x17_1, rfl, rfl, HA, HK1, HO_6, HB⟩ := hrel
  rcases gk with _ | k1
  · exact absurd HA.out (by simp [impl_pairs.l0])
  have H := HA.out
  clear HA
  simp only [impl_pairs.l0] at H
  by_cases c5 : x17_1 < (l1.length : Int)
  rotate_left
  · rw [if_neg c5] at H
    have c5b0 : decide (x17_1 < (l1.length : Int)) = false := decide_eq_false c5
    clear c5
    simp only [Option.some.injEq, Prod.mk.injEq] at H
    obtain ⟨rfl, rfl⟩ := H
    go_wp2
    go_ret2
    exact ⟨_, by first | rfl | (simp [errW_none, errW_some] <;> rfl) | (simp [*, errW_none, errW_some] <;> rfl), by (with_reducible repeat (first | apply Kd.V_alloc | apply Kd.V_drewN | apply Kd.V_drew)); exact HO_6.out, pB_ HB.out⟩

  rw [if_pos c5] at H
  have c5b0 : decide (x17_1 < (l1.length : Int)) = true := decide_eq_true c5
  clear c5
  by_cases c6 : 0 ≤ x17_1
  rotate_left
  · rw [if_neg c6] at H; exact absurd H (by simp)
  rw [if_pos c6] at H
  have c6b0 : decide (0 ≤ x17_1) = true := decide_eq_true c6
  clear c6
  by_cases c7 : x17_1 < (l1.length : Int)
  rotate_left
  · rw [if_neg c7] at H; exact absurd H (by simp)
  rw [if_pos c7] at H
  have c7b0 : decide (x17_1 < (l1.length : Int)) = true := decide_eq_true c7
  clear c7
  by_cases c8 : x7_1 = true
  · subst c8
    have H1 : ((impl_RestOk.f k1 ((rd_T32 l1 x17_1).f0) a0).bind fun t799 => (if t799 = true then ((impl_RestOk.f k1 ((rd_T32 l1 x17_1).f1) a0).bind fun t800 => (impl_pairs.l0 k1 a0 t793 t800 l1 (l1.length : Int) (wrap64 (x17_1 + 1)))) else (impl_pairs.l0 k1 a0 t793 false l1 (l1.length : Int) (wrap64 (x17_1 + 1))))) = some (r1, r2) := by rw [if_pos rfl] at H; exact H
    clear H
    have H := H1
    clear H1
    replace H := Option.bind_eq_some_iff.mp H
    obtain ⟨t799, A90, H⟩ := H
    have A9 := Aside0.mk A90
    clear A90
    by_cases c10 : t799 = true
    · subst c10
      have H1 : ((impl_RestOk.f k1 ((rd_T32 l1 x17_1).f1) a0).bind fun t800 => (impl_pairs.l0 k1 a0 t793 t800 l1 (l1.length : Int) (wrap64 (x17_1 + 1)))) = some (r1, r2) := by rw [if_pos rfl] at H; exact H
      clear H
      have H := H1
      clear H1
      replace H := Option.bind_eq_some_iff.mp H
      obtain ⟨t800, A110, H⟩ := H
      have A11 := Aside0.mk A110
      clear A110
      have H' := Aside0.mk H
      clear H
      have p797 : 0 ≤ (x17_1 : Int) := od_
      have q797 : x17_1 < (l1.length : Int) := od_
      obtain ⟨ad797, e797, hx797_0, hx797_1⟩ := at_T32 HR1.out x17_1 p797 q797
      cases e797
      replace hx797_0 := (HB.out.cell (World.block_lt_of_cell? w _ hx797_0)).trans hx797_0
      replace hx797_1 := (HB.out.cell (World.block_lt_of_cell? w _ hx797_1)).trans hx797_1
      replace p797 := eq_true p797
      replace q797 := eq_true q797
      go_wp2_with (first | ((with_reducible refine gate_dst (N := 9) rfl ?_); refine box_event ?hg (N := 9) ?hd (cs := #[.string (⟨#[]⟩ : ByteArray), .string (⟨#[]⟩ : ByteArray)]) (t := 32) ?hr ?_; (case hd => rfl); (case hg => rfl); (case hr => first | (go_simp; done) | (go_simp; rfl)); intro gb798 hg w12 hbox hb; replace HO_6 := Aside0.mk (Kd.V_below (Kd.V_elderB (pV_ HO_6.out) gb798 (Nat.le_of_eq hg.symm)) hb); have BK798 := Aside0.mk (hbox); have GW798 := Aside0.mk ((by rw [hg]; exact (below_size (pB_ HB.out)) : w.heap.size ≤ gb798)); have GE798 := Aside0.mk ((by rw [hg]; exact (below_size (pB_ HB.out)) : w.heap.size ≤ gb798)); replace HB := Aside0.mk (below_step (pB_ HB.out) hb); clear hb hbox hg; have hcz13_0 : w12.cell? ⟨gb798, 0, none⟩ = some (.string (⟨#[]⟩ : ByteArray)) := (blk_cell BK798.out 0).trans rfl; have hcz13_1 : w12.cell? ⟨gb798, 1, none⟩ = some (.string (⟨#[]⟩ : ByteArray)) := (blk_cell BK798.out 1).trans rfl; have hfz13_0 := blk_frozen BK798.out 0; have hfz13_1 := blk_frozen BK798.out 1) | (go_at_call 66; (with_reducible refine (impl_RestOk.calls k1 ((rd_T32 l1 x17_1).f0) a0 true _ A9.out).mono ?_); rintro e w14 ⟨rfl, hb⟩; replace HO_6 := Aside0.mk (Kd.V_below (pV_ ((Kd.V_mono (Kd.V_far (p := ⟨gb798, 1, none⟩) (Kd.V_far (p := ⟨gb798, 0, none⟩) (Kd.V_mono HO_6.out (fun k_ hk => (⟨hk, hk.2⟩ : _ ∧ k_ ≠ gb798))) (fun _ hk => hk.2) (.string ((rd_T32 l1 x17_1).f0))) (fun _ hk => hk.2) (.string ((rd_T32 l1 x17_1).f1))) (fun _ h_ => h_.1)))) hb); replace BK798 := Aside0.mk (blk_below (g := gb798) (o := .cells #[.string ((rd_T32 l1 x17_1).f0), .string ((rd_T32 l1 x17_1).f1)] 32 (0, 0)) (by (with_reducible repeat (first | refine blk_drewN ?_ _ | refine blk_drew ?_ | refine blk_alloc ?_ _)); refine blk_put (cs := #[.string ((rd_T32 l1 x17_1).f0), .string (⟨#[]⟩ : ByteArray)]) ?_ 1 _ rfl; (with_reducible repeat (first | refine blk_drewN ?_ _ | refine blk_drew ?_ | refine blk_alloc ?_ _)); refine blk_put (cs := #[.string (⟨#[]⟩ : ByteArray), .string (⟨#[]⟩ : ByteArray)]) ?_ 0 _ rfl; (with_reducible repeat (first | refine blk_drewN ?_ _ | refine blk_drew ?_ | refine blk_alloc ?_ _)); exact BK798.out) hb); replace HB := Aside0.mk (below_step (by repeat (first | (with_reducible first | exact HB.out | apply below_alloc | apply pw_below_drewN | apply below_drew1 | refine below_set ?_ GE798.out) | exact HB.out)) hb); clear hb; have hcz15_0 : w14.cell? ⟨gb798, 0, none⟩ = some (.string ((rd_T32 l1 x17_1).f0)) := (blk_cell BK798.out 0).trans rfl; have hcz15_1 : w14.cell? ⟨gb798, 1, none⟩ = some (.string ((rd_T32 l1 x17_1).f1)) := (blk_cell BK798.out 1).trans rfl; have hfz15_0 := blk_frozen BK798.out 0; have hfz15_1 := blk_frozen BK798.out 1) | (go_at_call 66; (with_reducible refine (impl_RestOk.calls k1 ((rd_T32 l1 x17_1).f1) a0 t800 _ A11.out).mono ?_); rintro e w16 ⟨rfl, hb⟩; replace HO_6 := Aside0.mk (Kd.V_below (pV_ HO_6.out) hb); replace BK798 := Aside0.mk (blk_below (g := gb798) (o := .cells #[.string ((rd_T32 l1 x17_1).f0), .string ((rd_T32 l1 x17_1).f1)] 32 (0, 0)) (by (with_reducible repeat (first | refine blk_drewN ?_ _ | refine blk_drew ?_ | refine blk_alloc ?_ _)); exact BK798.out) hb); replace HB := Aside0.mk (below_step (by repeat (first | (with_reducible first | exact HB.out | apply below_alloc | apply pw_below_drewN | apply below_drew1 | refine below_set ?_ GE798.out) | exact HB.out)) hb); clear hb))
      go_roundg k1
      case measure => have := HK1.out; omega
      case rel => exact ⟨(t800), (wrap64 (x17_1 + 1)), (by first | rfl | (simp; done) | (simp [*]; done)), (by first | rfl | (simp; done) | (simp [*]; done)), H', ⟨by have := HK1.out; omega⟩, ⟨by (with_reducible repeat (first | apply Kd.V_alloc | apply Kd.V_drewN | apply Kd.V_drew)); exact Kd.V_mono HO_6.out (fun _ hk => hk.1)⟩, ⟨by repeat (first | (with_reducible first | exact HB.out | apply below_alloc | apply pw_below_drewN | apply below_drew1 | refine below_set ?_ GE798.out) | exact HB.out)⟩⟩
    · replace c10 := Bool.eq_false_iff.mpr c10
      subst c10
      have H1 : (impl_pairs.l0 k1 a0 t793 false l1 (l1.length : Int) (wrap64 (x17_1 + 1))) = some (r1, r2) := by rw [if_neg (show ¬ (false = true) by decide)] at H; exact H
      clear H
      have H := H1
      clear H1
      have H' := Aside0.mk H
      clear H
      have p797 : 0 ≤ (x17_1 : Int) := od_
      have q797 : x17_1 < (l1.length : Int) := od_
      obtain ⟨ad797, e797, hx797_0, hx797_1⟩ := at_T32 HR1.out x17_1 p797 q797
      cases e797
      replace hx797_0 := (HB.out.cell (World.block_lt_of_cell? w _ hx797_0)).trans hx797_0
      replace hx797_1 := (HB.out.cell (World.block_lt_of_cell? w _ hx797_1)).trans hx797_1
      replace p797 := eq_true p797
      replace q797 := eq_true q797
      go_wp2_with (first | ((with_reducible refine gate_dst (N := 9) rfl ?_); refine box_event ?hg (N := 9) ?hd (cs := #[.string (⟨#[]⟩ : ByteArray), .string (⟨#[]⟩ : ByteArray)]) (t := 32) ?hr ?_; (case hd => rfl); (case hg => rfl); (case hr => first | (go_simp; done) | (go_simp; rfl)); intro gb798 hg w17 hbox hb; replace HO_6 := Aside0.mk (Kd.V_below (Kd.V_elderB (pV_ HO_6.out) gb798 (Nat.le_of_eq hg.symm)) hb); have BK798 := Aside0.mk (hbox); have GW798 := Aside0.mk ((by rw [hg]; exact (below_size (pB_ HB.out)) : w.heap.size ≤ gb798)); have GE798 := Aside0.mk ((by rw [hg]; exact (below_size (pB_ HB.out)) : w.heap.size ≤ gb798)); replace HB := Aside0.mk (below_step (pB_ HB.out) hb); clear hb hbox hg; have hcz18_0 : w17.cell? ⟨gb798, 0, none⟩ = some (.string (⟨#[]⟩ : ByteArray)) := (blk_cell BK798.out 0).trans rfl; have hcz18_1 : w17.cell? ⟨gb798, 1, none⟩ = some (.string (⟨#[]⟩ : ByteArray)) := (blk_cell BK798.out 1).trans rfl; have hfz18_0 := blk_frozen BK798.out 0; have hfz18_1 := blk_frozen BK798.out 1) | (go_at_call 66; (with_reducible refine (impl_RestOk.calls k1 ((rd_T32 l1 x17_1).f0) a0 false _ A9.out).mono ?_); rintro e w19 ⟨rfl, hb⟩; replace HO_6 := Aside0.mk (Kd.V_below (pV_ ((Kd.V_mono (Kd.V_far (p := ⟨gb798, 1, none⟩) (Kd.V_far (p := ⟨gb798, 0, none⟩) (Kd.V_mono HO_6.out (fun k_ hk => (⟨hk, hk.2⟩ : _ ∧ k_ ≠ gb798))) (fun _ hk => hk.2) (.string ((rd_T32 l1 x17_1).f0))) (fun _ hk => hk.2) (.string ((rd_T32 l1 x17_1).f1))) (fun _ h_ => h_.1)))) hb); replace BK798 := Aside0.mk (blk_below (g := gb798) (o := .cells #[.string ((rd_T32 l1 x17_1).f0), .string ((rd_T32 l1 x17_1).f1)] 32 (0, 0)) (by (with_reducible repeat (first | refine blk_drewN ?_ _ | refine blk_drew ?_ | refine blk_alloc ?_ _)); refine blk_put (cs := #[.string ((rd_T32 l1 x17_1).f0), .string (⟨#[]⟩ : ByteArray)]) ?_ 1 _ rfl; (with_reducible repeat (first | refine blk_drewN ?_ _ | refine blk_drew ?_ | refine blk_alloc ?_ _)); refine blk_put (cs := #[.string (⟨#[]⟩ : ByteArray), .string (⟨#[]⟩ : ByteArray)]) ?_ 0 _ rfl; (with_reducible repeat (first | refine blk_drewN ?_ _ | refine blk_drew ?_ | refine blk_alloc ?_ _)); exact BK798.out) hb); replace HB := Aside0.mk (below_step (by repeat (first | (with_reducible first | exact HB.out | apply below_alloc | apply pw_below_drewN | apply below_drew1 | refine below_set ?_ GE798.out) | exact HB.out)) hb); clear hb))
      go_roundg k1
      case measure => have := HK1.out; omega
      case rel => exact ⟨(false), (wrap64 (x17_1 + 1)), (by first | rfl | (simp; done) | (simp [*]; done)), (by first | rfl | (simp; done) | (simp [*]; done)), H', ⟨by have := HK1.out; omega⟩, ⟨by (with_reducible repeat (first | apply Kd.V_alloc | apply Kd.V_drewN | apply Kd.V_drew)); exact Kd.V_mono HO_6.out (fun _ hk => hk.1)⟩, ⟨by repeat (first | (with_reducible first | exact HB.out | apply below_alloc | apply pw_below_drewN | apply below_drew1 | refine below_set ?_ GE798.out) | exact HB.out)⟩⟩
  · replace c8 := Bool.eq_false_iff.mpr c8
    subst c8
    have H1 : (impl_pairs.l0 k1 a0 t793 false l1 (l1.length : Int) (wrap64 (x17_1 + 1))) = some (r1, r2) := by rw [if_neg (show ¬ (false = true) by decide)] at H; exact H
    clear H
    have H := H1
    clear H1
    have H' := Aside0.mk H
    clear H
    have p797 : 0 ≤ (x17_1 : Int) := od_
    have q797 : x17_1 < (l1.length : Int) := od_
    obtain ⟨ad797, e797, hx797_0, hx797_1⟩ := at_T32 HR1.out x17_1 p797 q797
    cases e797
    replace hx797_0 := (HB.out.cell (World.block_lt_of_cell? w _ hx797_0)).trans hx797_0
    replace hx797_1 := (HB.out.cell (World.block_lt_of_cell? w _ hx797_1)).trans hx797_1
    replace p797 := eq_true p797
    replace q797 := eq_true q797
    go_wp2_with (first | ((with_reducible refine gate_dst (N := 9) rfl ?_); refine box_event ?hg (N := 9) ?hd (cs := #[.string (⟨#[]⟩ : ByteArray), .string (⟨#[]⟩ : ByteArray)]) (t := 32) ?hr ?_; (case hd => rfl); (case hg => rfl); (case hr => first | (go_simp; done) | (go_simp; rfl)); intro gb798 hg w20 hbox hb; replace HO_6 := Aside0.mk (Kd.V_below (Kd.V_elderB (pV_ HO_6.out) gb798 (Nat.le_of_eq hg.symm)) hb); have BK798 := Aside0.mk (hbox); have GW798 := Aside0.mk ((by rw [hg]; exact (below_size (pB_ HB.out)) : w.heap.size ≤ gb798)); have GE798 := Aside0.mk ((by rw [hg]; exact (below_size (pB_ HB.out)) : w.heap.size ≤ gb798)); replace HB := Aside0.mk (below_step (pB_ HB.out) hb); clear hb hbox hg; have hcz21_0 : w20.cell? ⟨gb798, 0, none⟩ = some (.string (⟨#[]⟩ : ByteArray)) := (blk_cell BK798.out 0).trans rfl; have hcz21_1 : w20.cell? ⟨gb798, 1, none⟩ = some (.string (⟨#[]⟩ : ByteArray)) := (blk_cell BK798.out 1).trans rfl; have hfz21_0 := blk_frozen BK798.out 0; have hfz21_1 := blk_frozen BK798.out 1))
    go_roundg k1
    case measure => have := HK1.out; omega
    case rel => exact ⟨(false), (wrap64 (x17_1 + 1)), (by first | rfl | (simp; done) | (simp [*]; done)), (by first | rfl | (simp; done) | (simp [*]; done)), H', ⟨by have := HK1.out; omega⟩, ⟨by (with_reducible repeat (first | apply Kd.V_alloc | apply Kd.V_drewN | apply Kd.V_drew)); exact Kd.V_mono (Kd.V_far (p := ⟨gb798, 1, none⟩) (Kd.V_far (p := ⟨gb798, 0, none⟩) (Kd.V_mono HO_6.out (fun k_ hk => (⟨hk, hk.2⟩ : _ ∧ k_ ≠ gb798))) (fun _ hk => hk.2) (.string ((rd_T32 l1 x17_1).f0))) (fun _ hk => hk.2) (.string ((rd_T32 l1 x17_1).f1))) (fun _ hk => hk.1.1)⟩, ⟨by repeat (first | (with_reducible first | exact HB.out | apply below_alloc | apply pw_below_drewN | apply below_drew1 | refine below_set ?_ GE798.out) | exact HB.out)⟩⟩

/-! ### impl_nat_zero: function 82 -/
def impl_nat_zero.f (l0 : List Int) : Option (Bool) := some ((l0.length : Int) == 0)
set_option maxHeartbeats 8000000 in
set_option maxRecDepth 100000 in
theorem impl_nat_zero.calls (A0 : Option Addr) (c0 : Nat) (l0 : List Int) (r : Bool) (w : World) (hr0 : Kd.C (Kd.int .u64) w A0 l0.length l0) (hc0 : l0.length ≤ c0) (h : impl_nat_zero.f l0 = some r) :
    Calls Try.prog 82 #[.slice A0 l0.length c0] w fun e w' => e = .returned (.bool r) ∧ Drawn0 w w' := by
  have HR0 := Aside0.mk hr0
  have HC0 := Aside0.mk hc0
  clear hr0 hc0
  have H : (some ((l0.length : Int) == 0)) = some r := h
  clear h
  obtain rfl := Option.some.inj H
  go_enter Try.func82, Try.ntmps82
  go_wp2
  go_ret
  exact ⟨by first | rfl | (simp; done) | (simp [*]; done), by repeat (first | exact Drawn0.refl _ | apply Drawn0.step)⟩

/-! ### impl_prime_greater2: function 72 -/
def impl_prime_greater2.f (k : Nat) (l0 : List Int) (l1_0 : List Int) (l1_1 : List Int) : Option (Bool) := (impl_prime_greater.f k l0 l1_1).bind fun t802 => (if t802 = true then (some true) else ((impl_nat_zero.f l1_1).bind fun t803 => (if t803 = true then ((impl_prime_greater.f k l0 l1_0).bind fun t804 => (some t804)) else (some false))))
set_option maxHeartbeats 8000000 in
set_option maxRecDepth 100000 in
theorem impl_prime_greater2.calls (k : Nat) (A0 : Option Addr) (c0 : Nat) (l0 : List Int) (A1_0 : Option Addr) (c1_0 : Nat) (l1_0 : List Int) (A1_1 : Option Addr) (c1_1 : Nat) (l1_1 : List Int) (r : Bool) (w : World) (hr0 : Kd.C (Kd.int .u64) w A0 l0.length l0) (hc0 : l0.length ≤ c0) (hr1_0 : Kd.C (Kd.int .u64) w A1_0 l1_0.length l1_0) (hc1_0 : l1_0.length ≤ c1_0) (hr1_1 : Kd.C (Kd.int .u64) w A1_1 l1_1.length l1_1) (hc1_1 : l1_1.length ≤ c1_1) (h : impl_prime_greater2.f k l0 l1_0 l1_1 = some r) :
    Calls Try.prog 72 #[.slice A0 l0.length c0, .agg #[.slice A1_0 l1_0.length c1_0, .slice A1_1 l1_1.length c1_1]] w fun e w' => e = .returned (.bool r) ∧ Below w.heap.size w w' := by
  have hu70 := Try.underlying70
  have HR0 := Aside0.mk hr0
  have HC0 := Aside0.mk hc0
  clear hr0 hc0
  have HR1_0 := Aside0.mk hr1_0
  have HC1_0 := Aside0.mk hc1_0
  clear hr1_0 hc1_0
  have HR1_1 := Aside0.mk hr1_1
  have HC1_1 := Aside0.mk hc1_1
  clear hr1_1 hc1_1
  have HB := Aside0.mk (Below.refl w.heap.size w)
  have H : ((impl_prime_greater.f k l0 l1_1).bind fun t802 => (if t802 = true then (some true) else ((impl_nat_zero.f l1_1).bind fun t803 => (if t803 = true then ((impl_prime_greater.f k l0 l1_0).bind fun t804 => (some t804)) else (some false))))) = some r := h
  clear h
  replace H := Option.bind_eq_some_iff.mp H
  obtain ⟨t802, A30, H⟩ := H
  have A3 := Aside0.mk A30
  clear A30
  by_cases c4 : t802 = true
  · subst c4
    have H1 : (some true) = some r := by rw [if_pos rfl] at H; exact H
    clear H
    have H := H1
    clear H1
    obtain rfl := Option.some.inj H
    go_enter Try.func72, Try.ntmps72
    go_wp2_with (first | ((with_reducible refine gate_dst (N := 3) rfl ?_); refine box_event ?hg (N := 3) ?hd (cs := #[.slice A1_0 l1_0.length c1_0, .slice A1_1 l1_1.length c1_1]) (t := 70) ?hr ?_; (case hd => rfl); (case hg => rfl); (case hr => first | (go_simp; done) | (go_simp; rfl)); intro gb801 hg w5 hbox hb; have BK801 := Aside0.mk (hbox); have GW801 := Aside0.mk ((by rw [hg]; exact (below_size (pB_ HB.out)) : w.heap.size ≤ gb801)); have GE801 := Aside0.mk ((by rw [hg]; exact (below_size (pB_ HB.out)) : w.heap.size ≤ gb801)); replace HB := Aside0.mk (below_step (pB_ HB.out) hb); clear hb hbox hg; have hcz6_0 : w5.cell? ⟨gb801, 0, none⟩ = some (.slice A1_0 l1_0.length c1_0) := (blk_cell BK801.out 0).trans rfl; have hcz6_1 : w5.cell? ⟨gb801, 1, none⟩ = some (.slice A1_1 l1_1.length c1_1) := (blk_cell BK801.out 1).trans rfl; have hfz6_0 := blk_frozen BK801.out 0; have hfz6_1 := blk_frozen BK801.out 1) | ((with_reducible refine gate_callee (f := 51) rfl ?_); refine gL_ 8 Try.func51 rfl #[.slice A0 l0.length c0, .slice A1_1 l1_1.length c1_1] ?_; (with_reducible refine (impl_prime_greater.calls k _ _ l0 _ _ l1_1 true _ ?side1 ?side2 ?side3 ?side4 A3.out).mono ?_); (case side1 => exact pC_ (Kd.C_below HR0.out HB.out)); (case side2 => exact HC0.out); (case side3 => exact pC_ (Kd.C_below HR1_1.out HB.out)); (case side4 => exact HC1_1.out); rintro e w7 ⟨rfl, hb⟩; refine ⟨_, rfl, ?_⟩; replace BK801 := Aside0.mk (blk_below (g := gb801) (o := .cells #[.slice A1_0 l1_0.length c1_0, .slice A1_1 l1_1.length c1_1] 70 (0, 0)) (by (with_reducible repeat (first | refine blk_drewN ?_ _ | refine blk_drew ?_ | refine blk_alloc ?_ _)); exact BK801.out) hb); replace HB := Aside0.mk (below_step (by repeat (first | (with_reducible first | exact HB.out | apply below_alloc | apply pw_below_drewN | apply below_drew1 | refine below_set ?_ GE801.out) | exact HB.out)) hb); clear hb))
    go_ret
    exact ⟨by first | rfl | (simp [errW_none, errW_some] <;> rfl) | (simp [*, errW_none, errW_some] <;> rfl), by repeat (first | (with_reducible first | exact HB.out | apply below_alloc | apply pw_below_drewN | apply below_drew1 | refine below_set ?_ GE801.out) | exact HB.out)⟩
  · replace c4 := Bool.eq_false_iff.mpr c4
    subst c4
    have H1 : ((impl_nat_zero.f l1_1).bind fun t803 => (if t803 = true then ((impl_prime_greater.f k l0 l1_0).bind fun t804 => (some t804)) else (some false))) = some r := by rw [if_neg (show ¬ (false = true) by decide)] at H; exact H
    clear H
    have H := H1
    clear H1
    replace H := Option.bind_eq_some_iff.mp H
    obtain ⟨t803, A80, H⟩ := H
    have A8 := Aside0.mk A80
    clear A80
    by_cases c9 : t803 = true
    · subst c9
      have H1 : ((impl_prime_greater.f k l0 l1_0).bind fun t804 => (some t804)) = some r := by rw [if_pos rfl] at H; exact H
      clear H
      have H := H1
      clear H1
      replace H := Option.bind_eq_some_iff.mp H
      obtain ⟨t804, A100, H⟩ := H
      have A10 := Aside0.mk A100
      clear A100
      obtain rfl := Option.some.inj H
      go_enter Try.func72, Try.ntmps72
      go_wp2_with (first | ((with_reducible refine gate_dst (N := 3) rfl ?_); refine box_event ?hg (N := 3) ?hd (cs := #[.slice A1_0 l1_0.length c1_0, .slice A1_1 l1_1.length c1_1]) (t := 70) ?hr ?_; (case hd => rfl); (case hg => rfl); (case hr => first | (go_simp; done) | (go_simp; rfl)); intro gb801 hg w11 hbox hb; have BK801 := Aside0.mk (hbox); have GW801 := Aside0.mk ((by rw [hg]; exact (below_size (pB_ HB.out)) : w.heap.size ≤ gb801)); have GE801 := Aside0.mk ((by rw [hg]; exact (below_size (pB_ HB.out)) : w.heap.size ≤ gb801)); replace HB := Aside0.mk (below_step (pB_ HB.out) hb); clear hb hbox hg; have hcz12_0 : w11.cell? ⟨gb801, 0, none⟩ = some (.slice A1_0 l1_0.length c1_0) := (blk_cell BK801.out 0).trans rfl; have hcz12_1 : w11.cell? ⟨gb801, 1, none⟩ = some (.slice A1_1 l1_1.length c1_1) := (blk_cell BK801.out 1).trans rfl; have hfz12_0 := blk_frozen BK801.out 0; have hfz12_1 := blk_frozen BK801.out 1) | ((with_reducible refine gate_callee (f := 51) rfl ?_); refine gL_ 8 Try.func51 rfl #[.slice A0 l0.length c0, .slice A1_1 l1_1.length c1_1] ?_; (with_reducible refine (impl_prime_greater.calls k _ _ l0 _ _ l1_1 false _ ?side1 ?side2 ?side3 ?side4 A3.out).mono ?_); (case side1 => exact pC_ (Kd.C_below HR0.out HB.out)); (case side2 => exact HC0.out); (case side3 => exact pC_ (Kd.C_below HR1_1.out HB.out)); (case side4 => exact HC1_1.out); rintro e w13 ⟨rfl, hb⟩; refine ⟨_, rfl, ?_⟩; replace BK801 := Aside0.mk (blk_below (g := gb801) (o := .cells #[.slice A1_0 l1_0.length c1_0, .slice A1_1 l1_1.length c1_1] 70 (0, 0)) (by (with_reducible repeat (first | refine blk_drewN ?_ _ | refine blk_drew ?_ | refine blk_alloc ?_ _)); exact BK801.out) hb); replace HB := Aside0.mk (below_step (by repeat (first | (with_reducible first | exact HB.out | apply below_alloc | apply pw_below_drewN | apply below_drew1 | refine below_set ?_ GE801.out) | exact HB.out)) hb); clear hb; have hcz14_0 : w13.cell? ⟨gb801, 0, none⟩ = some (.slice A1_0 l1_0.length c1_0) := (blk_cell BK801.out 0).trans rfl; have hcz14_1 : w13.cell? ⟨gb801, 1, none⟩ = some (.slice A1_1 l1_1.length c1_1) := (blk_cell BK801.out 1).trans rfl; have hfz14_0 := blk_frozen BK801.out 0; have hfz14_1 := blk_frozen BK801.out 1) | (go_at_call 82; (with_reducible refine (impl_nat_zero.calls _ _ l1_1 true _ ?side1 ?side2 A8.out).mono ?_); (case side1 => exact pC_ (Kd.C_below HR1_1.out HB.out)); (case side2 => exact HC1_1.out); rintro e w' ⟨rfl, ⟨nd, rfl⟩⟩) | (go_at_call 51; (with_reducible refine (impl_prime_greater.calls k _ _ l0 _ _ l1_0 t804 _ ?side1 ?side2 ?side3 ?side4 A10.out).mono ?_); (case side1 => repeat (first | exact (Kd.C_below HR0.out (by repeat (first | (with_reducible first | exact HB.out | apply below_alloc | apply pw_below_drewN | apply below_drew1 | refine below_set ?_ GE801.out) | exact HB.out))) | (with_reducible refine Kd.C_alloc ?_ _) | (with_reducible refine Kd.C_drewN ?_ _) | (with_reducible refine Kd.C_drew ?_))); (case side2 => exact HC0.out); (case side3 => repeat (first | exact (Kd.C_below HR1_0.out (by repeat (first | (with_reducible first | exact HB.out | apply below_alloc | apply pw_below_drewN | apply below_drew1 | refine below_set ?_ GE801.out) | exact HB.out))) | (with_reducible refine Kd.C_alloc ?_ _) | (with_reducible refine Kd.C_drewN ?_ _) | (with_reducible refine Kd.C_drew ?_))); (case side4 => exact HC1_0.out); rintro e w15 ⟨rfl, hb⟩; replace BK801 := Aside0.mk (blk_below (g := gb801) (o := .cells #[.slice A1_0 l1_0.length c1_0, .slice A1_1 l1_1.length c1_1] 70 (0, 0)) (by (with_reducible repeat (first | refine blk_drewN ?_ _ | refine blk_drew ?_ | refine blk_alloc ?_ _)); exact BK801.out) hb); replace HB := Aside0.mk (below_step (by repeat (first | (with_reducible first | exact HB.out | apply below_alloc | apply pw_below_drewN | apply below_drew1 | refine below_set ?_ GE801.out) | exact HB.out)) hb); clear hb))
      go_ret
      exact ⟨by first | rfl | (simp [errW_none, errW_some] <;> rfl) | (simp [*, errW_none, errW_some] <;> rfl), by repeat (first | (with_reducible first | exact HB.out | apply below_alloc | apply pw_below_drewN | apply below_drew1 | refine below_set ?_ GE801.out) | exact HB.out)⟩
    · replace c9 := Bool.eq_false_iff.mpr c9
      subst c9
      have H1 : (some false) = some r := by rw [if_neg (show ¬ (false = true) by decide)] at H; exact H
      clear H
      have H := H1
      clear H1
      obtain rfl := Option.some.inj H
      go_enter Try.func72, Try.ntmps72
      go_wp2_with (first | ((with_reducible refine gate_dst (N := 3) rfl ?_); refine box_event ?hg (N := 3) ?hd (cs := #[.slice A1_0 l1_0.length c1_0, .slice A1_1 l1_1.length c1_1]) (t := 70) ?hr ?_; (case hd => rfl); (case hg => rfl); (case hr => first | (go_simp; done) | (go_simp; rfl)); intro gb801 hg w16 hbox hb; have BK801 := Aside0.mk (hbox); have GW801 := Aside0.mk ((by rw [hg]; exact (below_size (pB_ HB.out)) : w.heap.size ≤ gb801)); have GE801 := Aside0.mk ((by rw [hg]; exact (below_size (pB_ HB.out)) : w.heap.size ≤ gb801)); replace HB := Aside0.mk (below_step (pB_ HB.out) hb); clear hb hbox hg; have hcz17_0 : w16.cell? ⟨gb801, 0, none⟩ = some (.slice A1_0 l1_0.length c1_0) := (blk_cell BK801.out 0).trans rfl; have hcz17_1 : w16.cell? ⟨gb801, 1, none⟩ = some (.slice A1_1 l1_1.length c1_1) := (blk_cell BK801.out 1).trans rfl; have hfz17_0 := blk_frozen BK801.out 0; have hfz17_1 := blk_frozen BK801.out 1) | ((with_reducible refine gate_callee (f := 51) rfl ?_); refine gL_ 8 Try.func51 rfl #[.slice A0 l0.length c0, .slice A1_1 l1_1.length c1_1] ?_; (with_reducible refine (impl_prime_greater.calls k _ _ l0 _ _ l1_1 false _ ?side1 ?side2 ?side3 ?side4 A3.out).mono ?_); (case side1 => exact pC_ (Kd.C_below HR0.out HB.out)); (case side2 => exact HC0.out); (case side3 => exact pC_ (Kd.C_below HR1_1.out HB.out)); (case side4 => exact HC1_1.out); rintro e w18 ⟨rfl, hb⟩; refine ⟨_, rfl, ?_⟩; replace BK801 := Aside0.mk (blk_below (g := gb801) (o := .cells #[.slice A1_0 l1_0.length c1_0, .slice A1_1 l1_1.length c1_1] 70 (0, 0)) (by (with_reducible repeat (first | refine blk_drewN ?_ _ | refine blk_drew ?_ | refine blk_alloc ?_ _)); exact BK801.out) hb); replace HB := Aside0.mk (below_step (by repeat (first | (with_reducible first | exact HB.out | apply below_alloc | apply pw_below_drewN | apply below_drew1 | refine below_set ?_ GE801.out) | exact HB.out)) hb); clear hb; have hcz19_0 : w18.cell? ⟨gb801, 0, none⟩ = some (.slice A1_0 l1_0.length c1_0) := (blk_cell BK801.out 0).trans rfl; have hcz19_1 : w18.cell? ⟨gb801, 1, none⟩ = some (.slice A1_1 l1_1.length c1_1) := (blk_cell BK801.out 1).trans rfl; have hfz19_0 := blk_frozen BK801.out 0; have hfz19_1 := blk_frozen BK801.out 1) | (go_at_call 82; (with_reducible refine (impl_nat_zero.calls _ _ l1_1 false _ ?side1 ?side2 A8.out).mono ?_); (case side1 => exact pC_ (Kd.C_below HR1_1.out HB.out)); (case side2 => exact HC1_1.out); rintro e w' ⟨rfl, ⟨nd, rfl⟩⟩))
      go_ret
      exact ⟨by first | rfl | (simp [errW_none, errW_some] <;> rfl) | (simp [*, errW_none, errW_some] <;> rfl), by repeat (first | (with_reducible first | exact HB.out | apply below_alloc | apply pw_below_drewN | apply below_drew1 | refine below_set ?_ GE801.out) | exact HB.out)⟩

/-! ### impl_pairOf: function 73 -/
def impl_pairOf.f (k : Nat) (a0_0 : ByteArray) (a0_1 : ByteArray) : Option (List Int × List Int) := (impl_natOf.f k a0_0).bind fun t807 => ((impl_natOf.f k a0_1).bind fun t810 => (some (t807, t810)))
def impl_pairOf.T1 : Bool × List (List Nat × List Nat) := (true, [([], []), ([0], [0]), ([1], [1]), ([], []), ([3], [3]), ([4, 2], [4]), ([2, 5], [2, 5]), ([6, 5, 0, 1, 2, 3, 4, 5, 6], [6])])
def impl_pairOf.B1 : List Nat := [0, 1, 3, 0, 8, 31, 63, 127]
theorem impl_pairOf.tab1 : rtab .any (opsOf Try.f73 1) = impl_pairOf.T1 := by kernel_rfl
theorem impl_pairOf.bits1 : waitsOk impl_pairOf.T1.2 impl_pairOf.B1 = true := by kernel_rfl
set_option maxHeartbeats 8000000 in
set_option maxRecDepth 100000 in
theorem impl_pairOf.calls (k : Nat) (a0_0 : ByteArray) (a0_1 : ByteArray) (r1 : List Int) (r2 : List Int) (w : World) (h : impl_pairOf.f k a0_0 a0_1 = some (r1, r2)) :
    Calls Try.prog 73 #[.agg #[.string a0_0, .string a0_1]] w fun e w' => ∃ v0_ v1_ : Value, e = .returned (.agg #[v0_, v1_]) ∧ Kd.V (Kd.int .u64) 89 w' w.heap.size (fun k_ => (w.heap.size ≤ k_)) v0_ r1 ∧ Kd.V (Kd.int .u64) 89 w' w.heap.size (fun k_ => (w.heap.size ≤ k_)) v1_ r2 ∧ Below w.heap.size w w' := by
  have hu32 := Try.underlying32
  have hu70 := Try.underlying70
  have HB := Aside0.mk (Below.refl w.heap.size w)
  have H : ((impl_natOf.f k a0_0).bind fun t807 => ((impl_natOf.f k a0_1).bind fun t810 => (some (t807, t810)))) = some (r1, r2) := h
  clear h
  replace H := Option.bind_eq_some_iff.mp H
  obtain ⟨t807, A20, H⟩ := H
  have A2 := Aside0.mk A20
  clear A20
  replace H := Option.bind_eq_some_iff.mp H
  obtain ⟨t810, A30, H⟩ := H
  have A3 := Aside0.mk A30
  clear A30
  simp only [Option.some.injEq, Prod.mk.injEq] at H
  obtain ⟨rfl, rfl⟩ := H
  go_enter Try.func73, Try.ntmps73
  try go_wp2_with (first | ((with_reducible refine gate_dst (N := 1) rfl ?_); refine box_event ?hg (N := 1) ?hd (cs := #[.string a0_0, .string a0_1]) (t := 32) ?hr ?_; (case hd => rfl); (case hg => rfl); (case hr => first | (go_simp; done) | (go_simp; rfl)); intro gb805 hg w4 hbox hb; have BK805 := Aside0.mk (hbox); have GW805 := Aside0.mk ((by rw [hg]; exact (below_size (pB_ HB.out)) : w.heap.size ≤ gb805)); have GE805 := Aside0.mk ((by rw [hg]; exact (below_size (pB_ HB.out)) : w.heap.size ≤ gb805)); replace HB := Aside0.mk (below_step (pB_ HB.out) hb); clear hb hbox hg) | ((with_reducible refine gate_dst (N := 2) rfl ?_); refine box_event ?hg (N := 2) ?hd (cs := #[.slice none 0 0, .slice none 0 0]) (t := 70) ?hr ?_; (case hd => rfl); (case hg => rfl); (case hr => first | (go_simp; done) | (go_simp; rfl)); intro gb806 hg w5 hbox hb; have BK806 := Aside0.mk (hbox); have GW806 := Aside0.mk ((by rw [hg]; exact (below_size (by repeat (first | (with_reducible first | exact HB.out | apply below_alloc | apply pw_below_drewN | apply below_drew1 | refine below_set ?_ GE805.out) | exact HB.out))) : w.heap.size ≤ gb806)); have GE806 := Aside0.mk ((by rw [hg]; exact (below_size (by repeat (first | (with_reducible first | exact HB.out | apply below_alloc | apply pw_below_drewN | apply below_drew1 | refine below_set ?_ GE805.out) | exact HB.out))) : w.heap.size ≤ gb806)); replace HB := Aside0.mk (below_step (by repeat (first | (with_reducible first | exact HB.out | apply below_alloc | apply pw_below_drewN | apply below_drew1 | refine below_set ?_ GE805.out) | exact HB.out)) hb); have NB805_806 := Aside0.mk ((by rw [hg]; exact Nat.ne_of_lt (blk_lt (g := gb805) (o := .cells #[.string a0_0, .string a0_1] 32 (0, 0)) (by (with_reducible repeat (first | refine blk_drewN ?_ _ | refine blk_drew ?_ | refine blk_alloc ?_ _)); exact BK805.out)) : gb805 ≠ gb806)); have NB806_805 := Aside0.mk ((by rw [hg]; exact Nat.ne_of_gt (blk_lt (g := gb805) (o := .cells #[.string a0_0, .string a0_1] 32 (0, 0)) (by (with_reducible repeat (first | refine blk_drewN ?_ _ | refine blk_drew ?_ | refine blk_alloc ?_ _)); exact BK805.out)) : gb806 ≠ gb805)); replace BK805 := Aside0.mk (blk_below (g := gb805) (o := .cells #[.string a0_0, .string a0_1] 32 (0, 0)) (by (with_reducible repeat (first | refine blk_drewN ?_ _ | refine blk_drew ?_ | refine blk_alloc ?_ _)); exact BK805.out) hb); clear hb hbox hg))
  have n0_ := Aside0.mk (blk_drew BK805.out)
  have n1_ := Aside0.mk (blk_drew BK806.out)
  have n2_ := Aside0.mk (below_drew1 HB.out)
  clear BK805
  clear BK806
  clear HB
  have BK805 := n0_
  have BK806 := n1_
  have HB := n2_
  clear n0_ n1_ n2_
  refine start_ (n := 8) (S := fun w' => w'.cell? ⟨gb805, 0, none⟩ = some (.string a0_0) ∧ w'.cell? ⟨gb805, 1, none⟩ = some (.string a0_1)) (ds := []) #[false, false, false, false, false, false, false, false] (by kernel_rfl) rfl rfl ⟨(blk_cell BK805.out 0).trans rfl, (blk_cell BK805.out 1).trans rfl⟩ (fun hHeld => ?_); refine with_tabW impl_pairOf.tab1 impl_pairOf.bits1 (fun HT_ HW_ => ?_)
  generalize w5.drew = w6 at BK805 BK806 HB hHeld ⊢
  refine pu_ 0 3 HT_.out ?_
  refine pu_ 3 6 HT_.out ?_
  refine take_ (i := 1) (N := some 4) (v := ?_) (a' := ?_) #[true, true, false, true, false, false, false, false] rfl rfl (take_ofW HT_.out HW_.out (by kernel_rfl)) (fun _ _ _ h => h) (Or.inl ⟨by rfl, ?_⟩) hHeld ?_ ?_
  rotate_left
  · rintro w' ⟨s0, s1⟩
    go_simp
    with_reducible rfl
  rotate_left
  · simp only [Act.put, List.setIfInBounds_toArray, List.set_cons_zero, List.set_cons_succ, i64_w, i32_w]
    rfl
  refine take_ (i := 4) (N := some 7) (v := ?_) (a' := ?_) #[true, true, false, true, true, false, false, false] rfl rfl (take_ofW HT_.out HW_.out (by kernel_rfl)) (fun _ _ _ h => h) (Or.inl ⟨by rfl, ?_⟩) hHeld ?_ ?_
  rotate_left
  · rintro w' ⟨s0, s1⟩
    go_simp
    with_reducible rfl
  rotate_left
  · simp only [Act.put, List.setIfInBounds_toArray, List.set_cons_zero, List.set_cons_succ, i64_w, i32_w]
    rfl
  refine one_ (i := 2) (N := some 5) #[true, true, true, true, true, false, false, false] rfl rfl (one_of HT_.out (by kernel_rfl)) (by decide) (fun K hK => ?_)
  refine goes_ Try.func52 (by kernel_rfl) rfl #[.string a0_0] (by rfl) rfl rfl (by (try simp only [List.map_toArray, List.map_cons, List.map_nil]); first | done | rfl | (simp only [List.length_drop, List.length_take]; rfl)) ?_
  with_reducible refine (impl_natOf.calls k a0_0 t807 _ A2.out).mono ?_
  rintro e w7 ⟨v808, rfl, ho0, hb⟩
  refine ⟨_, rfl, ?_⟩
  have n0_ := Aside0.mk (Kd.V_lower (Kd.V_mono (ok' := fun k_ => (w.heap.size ≤ k_) ∧ k_ ≠ gb805 ∧ k_ ≠ gb806) ho0 (fun k_ hk_ => ⟨(Nat.le_trans (below_size (by repeat (first | (with_reducible first | exact HB.out | apply below_alloc | apply pw_below_drewN | apply below_drew1 | refine below_set ?_ GE805.out | refine below_set ?_ GE806.out) | exact HB.out))) hk_), (Kd.freshB (g := gb805) (o := .cells #[.string a0_0, .string a0_1] 32 (0, 0)) (by (with_reducible repeat (first | refine blk_drewN ?_ _ | refine blk_drew ?_ | refine blk_alloc ?_ _)); exact BK805.out) k_ hk_), (Kd.freshB (g := gb806) (o := .cells #[.slice none 0 0, .slice none 0 0] 70 (0, 0)) (by (with_reducible repeat (first | refine blk_drewN ?_ _ | refine blk_drew ?_ | refine blk_alloc ?_ _)); exact BK806.out) k_ hk_)⟩)) (below_size (by repeat (first | (with_reducible first | exact HB.out | apply below_alloc | apply pw_below_drewN | apply below_drew1 | refine below_set ?_ GE805.out | refine below_set ?_ GE806.out) | exact HB.out))))
  have n1_ := Aside0.mk (blk_below (g := gb805) (o := .cells #[.string a0_0, .string a0_1] 32 (0, 0)) (by (with_reducible repeat (first | refine blk_drewN ?_ _ | refine blk_drew ?_ | refine blk_alloc ?_ _)); exact BK805.out) hb)
  have n2_ := Aside0.mk (blk_below (g := gb806) (o := .cells #[.slice none 0 0, .slice none 0 0] 70 (0, 0)) (by (with_reducible repeat (first | refine blk_drewN ?_ _ | refine blk_drew ?_ | refine blk_alloc ?_ _)); exact BK806.out) hb)
  have n3_ := Aside0.mk (below_step (by repeat (first | (with_reducible first | exact HB.out | apply below_alloc | apply pw_below_drewN | apply below_drew1 | refine below_set ?_ GE805.out | refine below_set ?_ GE806.out) | exact HB.out)) hb)
  clear BK805
  clear BK806
  clear HB
  have HO809 := n0_
  have BK805 := n1_
  have BK806 := n2_
  have HB := n3_
  clear n0_ n1_ n2_ n3_
  (try clear hb)
  (try clear hb2)
  (try clear hk)
  (try clear hi)
  (try clear ho0)
  refine hK.out _ _ ⟨(blk_cell BK805.out 0).trans rfl, (blk_cell BK805.out 1).trans rfl⟩ (fun hHeld => ?_)
  clear hK K
  refine norm_ (a' := ?_) ?_ ?_
  rotate_left
  · show Act.put _ (some 5) _ = _
    simp only [Act.put, List.setIfInBounds_toArray, List.set_cons_zero, List.set_cons_succ, i64_w, i32_w]
    rfl
  refine one_ (i := 5) (N := some 8) #[true, true, true, true, true, true, false, false] rfl rfl (one_of HT_.out (by kernel_rfl)) (by decide) (fun K hK => ?_)
  refine goes_ Try.func52 (by kernel_rfl) rfl #[.string a0_1] (by rfl) rfl rfl (by (try simp only [List.map_toArray, List.map_cons, List.map_nil]); first | done | rfl | (simp only [List.length_drop, List.length_take]; rfl)) ?_
  with_reducible refine (impl_natOf.calls k a0_1 t810 _ A3.out).mono ?_
  rintro e w8 ⟨v811, rfl, ho0, hb⟩
  refine ⟨_, rfl, ?_⟩
  have n0_ := Aside0.mk (Kd.V_below (pV_ HO809.out) hb)
  have n1_ := Aside0.mk (Kd.V_lower (Kd.V_mono (ok' := fun k_ => (w.heap.size ≤ k_) ∧ k_ ≠ gb805 ∧ k_ ≠ gb806) ho0 (fun k_ hk_ => ⟨(Nat.le_trans (below_size (by repeat (first | (with_reducible first | exact HB.out | apply below_alloc | apply pw_below_drewN | apply below_drew1 | refine below_set ?_ GE805.out | refine below_set ?_ GE806.out) | exact HB.out))) hk_), (Kd.freshB (g := gb805) (o := .cells #[.string a0_0, .string a0_1] 32 (0, 0)) (by (with_reducible repeat (first | refine blk_drewN ?_ _ | refine blk_drew ?_ | refine blk_alloc ?_ _)); exact BK805.out) k_ hk_), (Kd.freshB (g := gb806) (o := .cells #[.slice none 0 0, .slice none 0 0] 70 (0, 0)) (by (with_reducible repeat (first | refine blk_drewN ?_ _ | refine blk_drew ?_ | refine blk_alloc ?_ _)); exact BK806.out) k_ hk_)⟩)) (below_size (by repeat (first | (with_reducible first | exact HB.out | apply below_alloc | apply pw_below_drewN | apply below_drew1 | refine below_set ?_ GE805.out | refine below_set ?_ GE806.out) | exact HB.out))))
  have n2_ := Aside0.mk (blk_below (g := gb805) (o := .cells #[.string a0_0, .string a0_1] 32 (0, 0)) (by (with_reducible repeat (first | refine blk_drewN ?_ _ | refine blk_drew ?_ | refine blk_alloc ?_ _)); exact BK805.out) hb)
  have n3_ := Aside0.mk (blk_below (g := gb806) (o := .cells #[.slice none 0 0, .slice none 0 0] 70 (0, 0)) (by (with_reducible repeat (first | refine blk_drewN ?_ _ | refine blk_drew ?_ | refine blk_alloc ?_ _)); exact BK806.out) hb)
  have n4_ := Aside0.mk (below_step (by repeat (first | (with_reducible first | exact HB.out | apply below_alloc | apply pw_below_drewN | apply below_drew1 | refine below_set ?_ GE805.out | refine below_set ?_ GE806.out) | exact HB.out)) hb)
  clear HO809
  clear BK805
  clear BK806
  clear HB
  have HO809 := n0_
  have HO812 := n1_
  have BK805 := n2_
  have BK806 := n3_
  have HB := n4_
  clear n0_ n1_ n2_ n3_ n4_
  (try clear hb)
  (try clear hb2)
  (try clear hk)
  (try clear hi)
  (try clear ho0)
  obtain ⟨Ao9, co9, eo9⟩ := Kd.V_slice HO812.out
  (first | subst eo9 | (injection eo9 with f1_ f2_ f3_; have f4_ := f1_.symm; have f5_ := f3_.symm; clear f1_ f2_ f3_; subst f4_; subst f5_))
  obtain ⟨Ao10, co10, eo10⟩ := Kd.V_slice HO809.out
  (first | subst eo10 | (injection eo10 with f1_ f2_ f3_; have f4_ := f1_.symm; have f5_ := f3_.symm; clear f1_ f2_ f3_; subst f4_; subst f5_))
  refine hK.out _ _ ⟨(blk_cell BK805.out 0).trans rfl, (blk_cell BK805.out 1).trans rfl⟩ (fun hHeld => ?_)
  clear hK K
  refine norm_ (a' := ?_) ?_ ?_
  rotate_left
  · show Act.put _ (some 8) _ = _
    simp only [Act.put, List.setIfInBounds_toArray, List.set_cons_zero, List.set_cons_succ, i64_w, i32_w]
    rfl
  refine pu_ 6 9 HT_.out ?_
  refine one_ (i := 7) (N := none) #[true, true, true, true, true, true, true, true] rfl rfl (one_of HT_.out (by kernel_rfl)) (by decide) (fun K hK => ?_)
  have hs11 : w8.cell? ⟨gb806, 0, none⟩ = some (.slice none 0 0) := (blk_cell BK806.out 0).trans rfl
  have hfs11 := blk_frozen BK806.out 0
  have hns11_0 := NB805_806.out
  have hms11_0 := NB806_805.out
  have hs12 : w8.cell? ⟨gb806, 1, none⟩ = some (.slice none 0 0) := (blk_cell BK806.out 1).trans rfl
  have hfs12 := blk_frozen BK806.out 1
  have hns12_0 := NB805_806.out
  have hms12_0 := NB806_805.out
  refine skip_ (w1 := ?_) (by rfl) rfl ?_ ?_
  rotate_left
  · go_simp
    rfl
  refine hK.out _ _ ⟨((cell_far (p := ⟨gb806, _, none⟩) NB805_806.out _).trans (((cell_far (p := ⟨gb806, _, none⟩) NB805_806.out _).trans (hHeld.1)))), ((cell_far (p := ⟨gb806, _, none⟩) NB805_806.out _).trans (((cell_far (p := ⟨gb806, _, none⟩) NB805_806.out _).trans (hHeld.2))))⟩ (fun hHeld => ?_)
  clear hK K
  refine done_ (done_of HT_.out (by kernel_rfl)) ?_
  try go_wp2
  refine bodyPost_ret (results_cell_row rfl _ _ gb806 70 #[.slice Ao10 t807.length co10, .slice Ao9 t810.length co9] (0, 0) _ rfl (by (with_reducible repeat (first | refine blk_drewN ?_ _ | refine blk_drew ?_ | refine blk_alloc ?_ _)); refine blk_put (cs := #[.slice Ao10 t807.length co10, .slice none 0 0]) ?_ 1 _ rfl; (with_reducible repeat (first | refine blk_drewN ?_ _ | refine blk_drew ?_ | refine blk_alloc ?_ _)); refine blk_put (cs := #[.slice none 0 0, .slice none 0 0]) ?_ 0 _ rfl; (with_reducible repeat (first | refine blk_drewN ?_ _ | refine blk_drew ?_ | refine blk_alloc ?_ _)); exact BK806.out) Try.underlying70 rfl (by kernel_rfl)) rfl ?_
  exact ⟨_, _, by first | rfl | (simp [errW_none, errW_some] <;> rfl) | (simp [*, errW_none, errW_some] <;> rfl), by (with_reducible repeat (first | apply Kd.V_alloc | apply Kd.V_drewN | apply Kd.V_drew)); exact Kd.V_mono (Kd.V_far (p := ⟨gb806, 1, none⟩) (Kd.V_far (p := ⟨gb806, 0, none⟩) (Kd.V_mono HO809.out (fun k_ hk => (⟨hk, hk.2.2⟩ : _ ∧ k_ ≠ gb806))) (fun _ hk => hk.2) (.slice Ao10 t807.length co10)) (fun _ hk => hk.2) (.slice Ao9 t810.length co9)) (fun _ hk => hk.1.1), by (with_reducible repeat (first | apply Kd.V_alloc | apply Kd.V_drewN | apply Kd.V_drew)); exact Kd.V_mono (Kd.V_far (p := ⟨gb806, 1, none⟩) (Kd.V_far (p := ⟨gb806, 0, none⟩) (Kd.V_mono HO812.out (fun k_ hk => (⟨hk, hk.2.2⟩ : _ ∧ k_ ≠ gb806))) (fun _ hk => hk.2) (.slice Ao10 t807.length co10)) (fun _ hk => hk.2) (.slice Ao9 t810.length co9)) (fun _ hk => hk.1.1), by repeat (first | (with_reducible first | exact HB.out | apply below_alloc | apply pw_below_drewN | apply below_drew1 | refine below_set ?_ GE805.out | refine below_set ?_ GE806.out) | exact HB.out)⟩

end Go.Proofs.Ytohfimjpfnnpgaa.F
