-- Made for this seat by a program of this session (wip/fork, wip/slim.py). Lean checks it.
import Derived.Test.YtohfimjpfnnpgaaFx0
import Derived.Test.YtohfimjpfnnpgaaZG1
import Derived.Test.YtohfimjpfnnpgaaZG3
import Derived.Test.YtohfimjpfnnpgaaZG4
namespace Go.Proofs.Ytohfimjpfnnpgaa.F
open Go.RowKit Go.Proofs.YtohfimjpfnnpgaaW.PrintWords Go.Proofs.YtohfimjpfnnpgaaW.PrintLast Go.Proofs.YtohfimjpfnnpgaaW.PrintMore
attribute [local go_sem] max2_int min2_int max_two min_two max_three min_three max_four min_four   -- for this text's walks alone
set_option linter.unusedVariables false
set_option linter.unusedSimpArgs false

/-! ### impl_PairGreater: function 31 -/
def impl_PairGreater.f (k : Nat) (a0_0 : ByteArray) (a0_1 : ByteArray) (a1 : ByteArray) : Option (Bool) := (impl_pairs.f k a1 (([(⟨a0_0, a0_1⟩ : S32)] : List (S32)))).bind fun bt817 => (if bt817.2 = true then ((impl_pairOf.f k a0_0 a0_1).bind fun bt821 => ((impl_prime_greater2.f k bt817.1 bt821.1 bt821.2).bind fun t827 => (some t827))) else (some false))
set_option maxHeartbeats 8000000 in
set_option maxRecDepth 100000 in
theorem impl_PairGreater.calls (k : Nat) (a0_0 : ByteArray) (a0_1 : ByteArray) (a1 : ByteArray) (r : Bool) (w : World) (h : impl_PairGreater.f k a0_0 a0_1 a1 = some r) :
    Calls Try.prog 31 #[.agg #[.string a0_0, .string a0_1], .string a1] w fun e w' => e = .returned (.bool r) ∧ Below w.heap.size w w' := by
  have hu32 := Try.underlying32
  have HB := Aside0.mk (Below.refl w.heap.size w)
  have H : ((impl_pairs.f k a1 (([(⟨a0_0, a0_1⟩ : S32)] : List (S32)))).bind fun bt817 => (if bt817.2 = true then ((impl_pairOf.f k a0_0 a0_1).bind fun bt821 => ((impl_prime_greater2.f k bt817.1 bt821.1 bt821.2).bind fun t827 => (some t827))) else (some false))) = some r := h
  clear h
  obtain ⟨y814, hy814⟩ : ∃ y_ : List (S32), y_ = (([(⟨a0_0, a0_1⟩ : S32)] : List (S32))) := ⟨_, rfl⟩
  replace H : ((impl_pairs.f k a1 y814).bind fun bt817 => (if bt817.2 = true then ((impl_pairOf.f k a0_0 a0_1).bind fun bt821 => ((impl_prime_greater2.f k bt817.1 bt821.1 bt821.2).bind fun t827 => (some t827))) else (some false))) = some r := by first | (rw [hy814]; with_reducible exact H) | (have H2_ := (Option.bind_some _ _).symm.trans H; rw [hy814]; with_reducible exact H2_) | (have H2_ := (Option.bind_some _ _).symm.trans H; with_reducible exact H2_) | with_reducible exact H | (rw [hy814]; exact H) | exact H
  have Ny814 := Aside0.mk hy814
  clear hy814
  replace H := Option.bind_eq_some_iff.mp H
  obtain ⟨⟨t817, t820⟩, A30, H⟩ := H
  replace H : (if t820 = true then ((impl_pairOf.f k a0_0 a0_1).bind fun bt821 => ((impl_prime_greater2.f k t817 bt821.1 bt821.2).bind fun t827 => (some t827))) else (some false)) = some r := H
  have A3 := Aside0.mk A30
  clear A30
  by_cases c4 : t820 = true
  · subst c4
    have H1 : ((impl_pairOf.f k a0_0 a0_1).bind fun bt821 => ((impl_prime_greater2.f k t817 bt821.1 bt821.2).bind fun t827 => (some t827))) = some r := by rw [if_pos rfl] at H; exact H
    clear H
    have H := H1
    clear H1
    replace H := Option.bind_eq_some_iff.mp H
    obtain ⟨⟨t821, t824⟩, A50, H⟩ := H
    replace H : ((impl_prime_greater2.f k t817 t821 t824).bind fun t827 => (some t827)) = some r := H
    have A5 := Aside0.mk A50
    clear A50
    replace H := Option.bind_eq_some_iff.mp H
    obtain ⟨t827, A60, H⟩ := H
    have A6 := Aside0.mk A60
    clear A60
    obtain rfl := Option.some.inj H
    go_enter Try.func31, Try.ntmps31
    go_wp2_with (first | ((with_reducible refine gate_dst (N := 2) rfl ?_); refine box_event ?hg (N := 2) ?hd (cs := #[.string a0_0, .string a0_1]) (t := 32) ?hr ?_; (case hd => rfl); (case hg => rfl); (case hr => first | (go_simp; done) | (go_simp; rfl)); intro gb813 hg w7 hbox hb; have BK813 := Aside0.mk (hbox); have GW813 := Aside0.mk ((by rw [hg]; exact (below_size (pB_ HB.out)) : w.heap.size ≤ gb813)); have GE813 := Aside0.mk ((by rw [hg]; exact (below_size (pB_ HB.out)) : w.heap.size ≤ gb813)); replace HB := Aside0.mk (below_step (pB_ HB.out) hb); clear hb hbox hg; have hcz8_0 : w7.cell? ⟨gb813, 0, none⟩ = some (.string a0_0) := (blk_cell BK813.out 0).trans rfl; have hcz8_1 : w7.cell? ⟨gb813, 1, none⟩ = some (.string a0_1) := (blk_cell BK813.out 1).trans rfl; have hfz8_0 := blk_frozen BK813.out 0; have hfz8_1 := blk_frozen BK813.out 1) | ((with_reducible refine gate_dst (N := 10) rfl ?_); refine Kd.R_lit k32 _ 32 ?hg (N := 10) ?hd (xs := ([(⟨a0_0, a0_1⟩ : S32)] : List (S32))) (inner := [.string a0_0, .string a0_1]) (ok := fun _ => True) (okp := fun _ => True) ?hr ?hp (fun _ hk => hk) trivial (Below.refl _ _) (Nat.le_refl _) (by simp) ?_; (case hd => rfl); (case hg => rfl); (case hr => first | (go_simp; done) | (go_simp; rfl)); (case hp => exact (Reps.c2 (show Kd.M k32 _ _ _ (⟨a0_0, a0_1⟩ : S32) [.string a0_0, .string a0_1] from (k32_mkM _ _ _ (⟨a0_0, a0_1⟩ : S32) )) (Reps.none _ _))); intro v815 w9 ho10 hb hg_ hnew_; clear hg_ hnew_; (first | rw [← Ny814.out] at ho10 | (simp only [Int.reduceToNat] at ho10; rw [← Ny814.out] at ho10)); have HO816 := Aside0.mk (Kd.R_lower (Kd.R_newB ho10 (g := gb813) (o := .cells #[.string a0_0, .string a0_1] 32 (0, 0)) (by (with_reducible repeat (first | refine blk_drewN ?_ _ | refine blk_drew ?_ | refine blk_alloc ?_ _)); exact BK813.out)) (below_size (by repeat (first | (with_reducible first | exact HB.out | apply below_alloc | apply pw_below_drewN | apply below_drew1 | refine below_set ?_ GE813.out) | exact HB.out)))); replace BK813 := Aside0.mk (blk_below (g := gb813) (o := .cells #[.string a0_0, .string a0_1] 32 (0, 0)) (by (with_reducible repeat (first | refine blk_drewN ?_ _ | refine blk_drew ?_ | refine blk_alloc ?_ _)); exact BK813.out) hb); replace HB := Aside0.mk (below_step (by repeat (first | (with_reducible first | exact HB.out | apply below_alloc | apply pw_below_drewN | apply below_drew1 | refine below_set ?_ GE813.out) | exact HB.out)) hb); clear hb ho10; obtain ⟨Ao11, co11, eo11⟩ := Kd.R_slice HO816.out; subst eo11) | ((with_reducible refine gate_callee (f := 71) rfl ?_); refine gL_ 11 Try.func71 rfl #[.string a1, .slice Ao11 y814.length co11] ?_; (with_reducible refine (impl_pairs.calls k a1 _ _ y814 t817 true _ ?side1 ?side2 A3.out).mono ?_); (case side1 => exact pC_ (Kd.R_reads' HO816.out).2.2); (case side2 => exact (Kd.R_reads' HO816.out).2.1); rintro e w12 ⟨v818, rfl, ho0, hb⟩; refine ⟨_, rfl, ?_⟩; have HO819 := Aside0.mk (Kd.V_lower (Kd.V_mono (ok' := fun k_ => some k_ ≠ (.slice Ao11 y814.length co11 : Value).ownBlock ∧ k_ ≠ gb813) ho0 (fun k_ hk_ => ⟨(Kd.fresh' (Kd.R_lt (pR_ HO816.out)) k_ hk_), (Kd.freshB (g := gb813) (o := .cells #[.string a0_0, .string a0_1] 32 (0, 0)) (by (with_reducible repeat (first | refine blk_drewN ?_ _ | refine blk_drew ?_ | refine blk_alloc ?_ _)); exact BK813.out) k_ hk_)⟩)) (below_size (by repeat (first | (with_reducible first | exact HB.out | apply below_alloc | apply pw_below_drewN | apply below_drew1 | refine below_set ?_ GE813.out) | exact HB.out)))); replace HO816 := Aside0.mk (Kd.R_below (pR_ HO816.out) hb); replace BK813 := Aside0.mk (blk_below (g := gb813) (o := .cells #[.string a0_0, .string a0_1] 32 (0, 0)) (by (with_reducible repeat (first | refine blk_drewN ?_ _ | refine blk_drew ?_ | refine blk_alloc ?_ _)); exact BK813.out) hb); replace HB := Aside0.mk (below_step (by repeat (first | (with_reducible first | exact HB.out | apply below_alloc | apply pw_below_drewN | apply below_drew1 | refine below_set ?_ GE813.out) | exact HB.out)) hb); clear hb ho0; have hcz13_0 : w12.cell? ⟨gb813, 0, none⟩ = some (.string a0_0) := (blk_cell BK813.out 0).trans rfl; have hcz13_1 : w12.cell? ⟨gb813, 1, none⟩ = some (.string a0_1) := (blk_cell BK813.out 1).trans rfl; have hfz13_0 := blk_frozen BK813.out 0; have hfz13_1 := blk_frozen BK813.out 1) | (go_at_call 73; (with_reducible refine (impl_pairOf.calls k a0_0 a0_1 t821 t824 _ A5.out).mono ?_); rintro e w14 ⟨v822, v825, rfl, ho0, ho1, hb⟩; replace HO819 := Aside0.mk (Kd.V_below (pV_ HO819.out) hb); have HO823 := Aside0.mk (Kd.V_lower (Kd.V_mono (ok' := fun k_ => some k_ ≠ (.slice Ao11 y814.length co11 : Value).ownBlock ∧ k_ ≠ gb813) ho0 (fun k_ hk_ => ⟨(Kd.fresh' (Kd.R_lt (pR_ HO816.out)) k_ hk_), (Kd.freshB (g := gb813) (o := .cells #[.string a0_0, .string a0_1] 32 (0, 0)) (by (with_reducible repeat (first | refine blk_drewN ?_ _ | refine blk_drew ?_ | refine blk_alloc ?_ _)); exact BK813.out) k_ hk_)⟩)) (below_size (by repeat (first | (with_reducible first | exact HB.out | apply below_alloc | apply pw_below_drewN | apply below_drew1 | refine below_set ?_ GE813.out) | exact HB.out)))); have HO826 := Aside0.mk (Kd.V_lower (Kd.V_mono (ok' := fun k_ => some k_ ≠ (.slice Ao11 y814.length co11 : Value).ownBlock ∧ k_ ≠ gb813) ho1 (fun k_ hk_ => ⟨(Kd.fresh' (Kd.R_lt (pR_ HO816.out)) k_ hk_), (Kd.freshB (g := gb813) (o := .cells #[.string a0_0, .string a0_1] 32 (0, 0)) (by (with_reducible repeat (first | refine blk_drewN ?_ _ | refine blk_drew ?_ | refine blk_alloc ?_ _)); exact BK813.out) k_ hk_)⟩)) (below_size (by repeat (first | (with_reducible first | exact HB.out | apply below_alloc | apply pw_below_drewN | apply below_drew1 | refine below_set ?_ GE813.out) | exact HB.out)))); replace HO816 := Aside0.mk (Kd.R_below (pR_ HO816.out) hb); replace BK813 := Aside0.mk (blk_below (g := gb813) (o := .cells #[.string a0_0, .string a0_1] 32 (0, 0)) (by (with_reducible repeat (first | refine blk_drewN ?_ _ | refine blk_drew ?_ | refine blk_alloc ?_ _)); exact BK813.out) hb); replace HB := Aside0.mk (below_step (by repeat (first | (with_reducible first | exact HB.out | apply below_alloc | apply pw_below_drewN | apply below_drew1 | refine below_set ?_ GE813.out) | exact HB.out)) hb); clear hb ho0 ho1; obtain ⟨Ao15, co15, eo15⟩ := Kd.V_slice HO819.out; subst eo15; obtain ⟨Ao16, co16, eo16⟩ := Kd.V_slice HO823.out; subst eo16; obtain ⟨Ao17, co17, eo17⟩ := Kd.V_slice HO826.out; subst eo17) | (go_at_call 72; (with_reducible refine (impl_prime_greater2.calls k _ _ t817 _ _ t821 _ _ t824 t827 _ ?side1 ?side2 ?side3 ?side4 ?side5 ?side6 A6.out).mono ?_); (case side1 => exact pC_ (Kd.V_reads' HO819.out).2.2); (case side2 => exact (Kd.V_reads' HO819.out).2.1); (case side3 => exact pC_ (Kd.V_reads' HO823.out).2.2); (case side4 => exact (Kd.V_reads' HO823.out).2.1); (case side5 => exact pC_ (Kd.V_reads' HO826.out).2.2); (case side6 => exact (Kd.V_reads' HO826.out).2.1); rintro e w18 ⟨rfl, hb⟩; replace HO816 := Aside0.mk (Kd.R_below (pR_ HO816.out) hb); replace HO819 := Aside0.mk (Kd.V_below (pV_ HO819.out) hb); replace HO823 := Aside0.mk (Kd.V_below (pV_ HO823.out) hb); replace HO826 := Aside0.mk (Kd.V_below (pV_ HO826.out) hb); replace BK813 := Aside0.mk (blk_below (g := gb813) (o := .cells #[.string a0_0, .string a0_1] 32 (0, 0)) (by (with_reducible repeat (first | refine blk_drewN ?_ _ | refine blk_drew ?_ | refine blk_alloc ?_ _)); exact BK813.out) hb); replace HB := Aside0.mk (below_step (by repeat (first | (with_reducible first | exact HB.out | apply below_alloc | apply pw_below_drewN | apply below_drew1 | refine below_set ?_ GE813.out) | exact HB.out)) hb); clear hb))
    go_ret
    exact ⟨by first | rfl | (simp [errW_none, errW_some] <;> rfl) | (simp [*, errW_none, errW_some] <;> rfl), by repeat (first | (with_reducible first | exact HB.out | apply below_alloc | apply pw_below_drewN | apply below_drew1 | refine below_set ?_ GE813.out) | exact HB.out)⟩
  · replace c4 := Bool.eq_false_iff.mpr c4
    subst c4
    have H1 : (some false) = some r := by rw [if_neg (show ¬ (false = true) by decide)] at H; exact H
    clear H
    have H := H1
    clear H1
    obtain rfl := Option.some.inj H
    go_enter Try.func31, Try.ntmps31
    go_wp2_with (first | ((with_reducible refine gate_dst (N := 2) rfl ?_); refine box_event ?hg (N := 2) ?hd (cs := #[.string a0_0, .string a0_1]) (t := 32) ?hr ?_; (case hd => rfl); (case hg => rfl); (case hr => first | (go_simp; done) | (go_simp; rfl)); intro gb813 hg w19 hbox hb; have BK813 := Aside0.mk (hbox); have GW813 := Aside0.mk ((by rw [hg]; exact (below_size (pB_ HB.out)) : w.heap.size ≤ gb813)); have GE813 := Aside0.mk ((by rw [hg]; exact (below_size (pB_ HB.out)) : w.heap.size ≤ gb813)); replace HB := Aside0.mk (below_step (pB_ HB.out) hb); clear hb hbox hg; have hcz20_0 : w19.cell? ⟨gb813, 0, none⟩ = some (.string a0_0) := (blk_cell BK813.out 0).trans rfl; have hcz20_1 : w19.cell? ⟨gb813, 1, none⟩ = some (.string a0_1) := (blk_cell BK813.out 1).trans rfl; have hfz20_0 := blk_frozen BK813.out 0; have hfz20_1 := blk_frozen BK813.out 1) | ((with_reducible refine gate_dst (N := 10) rfl ?_); refine Kd.R_lit k32 _ 32 ?hg (N := 10) ?hd (xs := ([(⟨a0_0, a0_1⟩ : S32)] : List (S32))) (inner := [.string a0_0, .string a0_1]) (ok := fun _ => True) (okp := fun _ => True) ?hr ?hp (fun _ hk => hk) trivial (Below.refl _ _) (Nat.le_refl _) (by simp) ?_; (case hd => rfl); (case hg => rfl); (case hr => first | (go_simp; done) | (go_simp; rfl)); (case hp => exact (Reps.c2 (show Kd.M k32 _ _ _ (⟨a0_0, a0_1⟩ : S32) [.string a0_0, .string a0_1] from (k32_mkM _ _ _ (⟨a0_0, a0_1⟩ : S32) )) (Reps.none _ _))); intro v815 w21 ho22 hb hg_ hnew_; clear hg_ hnew_; (first | rw [← Ny814.out] at ho22 | (simp only [Int.reduceToNat] at ho22; rw [← Ny814.out] at ho22)); have HO816 := Aside0.mk (Kd.R_lower (Kd.R_newB ho22 (g := gb813) (o := .cells #[.string a0_0, .string a0_1] 32 (0, 0)) (by (with_reducible repeat (first | refine blk_drewN ?_ _ | refine blk_drew ?_ | refine blk_alloc ?_ _)); exact BK813.out)) (below_size (by repeat (first | (with_reducible first | exact HB.out | apply below_alloc | apply pw_below_drewN | apply below_drew1 | refine below_set ?_ GE813.out) | exact HB.out)))); replace BK813 := Aside0.mk (blk_below (g := gb813) (o := .cells #[.string a0_0, .string a0_1] 32 (0, 0)) (by (with_reducible repeat (first | refine blk_drewN ?_ _ | refine blk_drew ?_ | refine blk_alloc ?_ _)); exact BK813.out) hb); replace HB := Aside0.mk (below_step (by repeat (first | (with_reducible first | exact HB.out | apply below_alloc | apply pw_below_drewN | apply below_drew1 | refine below_set ?_ GE813.out) | exact HB.out)) hb); clear hb ho22; obtain ⟨Ao23, co23, eo23⟩ := Kd.R_slice HO816.out; subst eo23) | ((with_reducible refine gate_callee (f := 71) rfl ?_); refine gL_ 11 Try.func71 rfl #[.string a1, .slice Ao23 y814.length co23] ?_; (with_reducible refine (impl_pairs.calls k a1 _ _ y814 t817 false _ ?side1 ?side2 A3.out).mono ?_); (case side1 => exact pC_ (Kd.R_reads' HO816.out).2.2); (case side2 => exact (Kd.R_reads' HO816.out).2.1); rintro e w24 ⟨v818, rfl, ho0, hb⟩; refine ⟨_, rfl, ?_⟩; have HO819 := Aside0.mk (Kd.V_lower (Kd.V_mono (ok' := fun k_ => some k_ ≠ (.slice Ao23 y814.length co23 : Value).ownBlock ∧ k_ ≠ gb813) ho0 (fun k_ hk_ => ⟨(Kd.fresh' (Kd.R_lt (pR_ HO816.out)) k_ hk_), (Kd.freshB (g := gb813) (o := .cells #[.string a0_0, .string a0_1] 32 (0, 0)) (by (with_reducible repeat (first | refine blk_drewN ?_ _ | refine blk_drew ?_ | refine blk_alloc ?_ _)); exact BK813.out) k_ hk_)⟩)) (below_size (by repeat (first | (with_reducible first | exact HB.out | apply below_alloc | apply pw_below_drewN | apply below_drew1 | refine below_set ?_ GE813.out) | exact HB.out)))); replace HO816 := Aside0.mk (Kd.R_below (pR_ HO816.out) hb); replace BK813 := Aside0.mk (blk_below (g := gb813) (o := .cells #[.string a0_0, .string a0_1] 32 (0, 0)) (by (with_reducible repeat (first | refine blk_drewN ?_ _ | refine blk_drew ?_ | refine blk_alloc ?_ _)); exact BK813.out) hb); replace HB := Aside0.mk (below_step (by repeat (first | (with_reducible first | exact HB.out | apply below_alloc | apply pw_below_drewN | apply below_drew1 | refine below_set ?_ GE813.out) | exact HB.out)) hb); clear hb ho0))
    go_ret
    exact ⟨by first | rfl | (simp [errW_none, errW_some] <;> rfl) | (simp [*, errW_none, errW_some] <;> rfl), by repeat (first | (with_reducible first | exact HB.out | apply below_alloc | apply pw_below_drewN | apply below_drew1 | refine below_set ?_ GE813.out) | exact HB.out)⟩

/-! ### laws_FnExactPairGreater: function 10 -/
def laws_FnExactPairGreater.f (k : Nat) (a0_0 : ByteArray) (a0_1 : ByteArray) (a1 : ByteArray) : Option (Bool) := if (a1.size : Int) > 1048576 then (some true) else ((laws_szPair.f a0_0 a0_1 1048576).bind fun t829 => (if t829 < 0 then (some true) else ((laws_toPair.f a0_0 a0_1).bind fun bt830 => ((spec_PairGreater.f k bt830.1 bt830.2 a1).bind fun t832 => ((laws_toPair.f a0_0 a0_1).bind fun bt833 => ((impl_PairGreater.f k bt833.1 bt833.2 a1).bind fun t835 => (if (t835 != t832) = true then (some false) else (some true))))))))
set_option maxHeartbeats 8000000 in
set_option maxRecDepth 100000 in
theorem laws_FnExactPairGreater.calls (k : Nat) (a0_0 : ByteArray) (a0_1 : ByteArray) (a1 : ByteArray) (r : Bool) (w : World) (h : laws_FnExactPairGreater.f k a0_0 a0_1 a1 = some r) :
    Calls Try.prog 10 #[.agg #[.string a0_0, .string a0_1], .string a1] w fun e w' => e = .returned (.bool r) ∧ Below w.heap.size w w' := by
  have hu29 := Try.underlying29
  have HB := Aside0.mk (Below.refl w.heap.size w)
  have H : (if (a1.size : Int) > 1048576 then (some true) else ((laws_szPair.f a0_0 a0_1 1048576).bind fun t829 => (if t829 < 0 then (some true) else ((laws_toPair.f a0_0 a0_1).bind fun bt830 => ((spec_PairGreater.f k bt830.1 bt830.2 a1).bind fun t832 => ((laws_toPair.f a0_0 a0_1).bind fun bt833 => ((impl_PairGreater.f k bt833.1 bt833.2 a1).bind fun t835 => (if (t835 != t832) = true then (some false) else (some true))))))))) = some r := h
  clear h
  by_cases c3 : (a1.size : Int) > 1048576
  · rw [if_pos c3] at H
    have c3b0 : decide (1048576 < (a1.size : Int)) = true := decide_eq_true c3
    have c3b1 : decide (1048576 < a1.size) = true := decide_eq_true (by omega)
    clear c3
    obtain rfl := Option.some.inj H
    go_enter Try.func10, Try.ntmps10
    go_wp2_with (first | ((with_reducible refine gate_dst (N := 2) rfl ?_); refine box_event ?hg (N := 2) ?hd (cs := #[.string a0_0, .string a0_1]) (t := 29) ?hr ?_; (case hd => rfl); (case hg => rfl); (case hr => first | (go_simp; done) | (go_simp; rfl)); intro gb828 hg w4 hbox hb; have BK828 := Aside0.mk (hbox); have GW828 := Aside0.mk ((by rw [hg]; exact (below_size (pB_ HB.out)) : w.heap.size ≤ gb828)); have GE828 := Aside0.mk ((by rw [hg]; exact (below_size (pB_ HB.out)) : w.heap.size ≤ gb828)); replace HB := Aside0.mk (below_step (pB_ HB.out) hb); clear hb hbox hg))
    go_ret
    exact ⟨by first | rfl | (simp [errW_none, errW_some] <;> rfl) | (simp [*, errW_none, errW_some] <;> rfl), by repeat (first | (with_reducible first | exact HB.out | apply below_alloc | apply pw_below_drewN | apply below_drew1 | refine below_set ?_ GE828.out) | exact HB.out)⟩
  rw [if_neg c3] at H
  have c3b0 : decide (1048576 < (a1.size : Int)) = false := decide_eq_false c3
  have c3b1 : decide (1048576 < a1.size) = false := decide_eq_false (by omega)
  clear c3
  replace H := Option.bind_eq_some_iff.mp H
  obtain ⟨t829, A50, H⟩ := H
  have A5 := Aside0.mk A50
  clear A50
  by_cases c6 : t829 < 0
  · rw [if_pos c6] at H
    have c6b0 : decide (t829 < 0) = true := decide_eq_true c6
    clear c6
    obtain rfl := Option.some.inj H
    go_enter Try.func10, Try.ntmps10
    go_wp2_with (first | ((with_reducible refine gate_dst (N := 2) rfl ?_); refine box_event ?hg (N := 2) ?hd (cs := #[.string a0_0, .string a0_1]) (t := 29) ?hr ?_; (case hd => rfl); (case hg => rfl); (case hr => first | (go_simp; done) | (go_simp; rfl)); intro gb828 hg w7 hbox hb; have BK828 := Aside0.mk (hbox); have GW828 := Aside0.mk ((by rw [hg]; exact (below_size (pB_ HB.out)) : w.heap.size ≤ gb828)); have GE828 := Aside0.mk ((by rw [hg]; exact (below_size (pB_ HB.out)) : w.heap.size ≤ gb828)); replace HB := Aside0.mk (below_step (pB_ HB.out) hb); clear hb hbox hg; have hcz8_0 : w7.cell? ⟨gb828, 0, none⟩ = some (.string a0_0) := (blk_cell BK828.out 0).trans rfl; have hcz8_1 : w7.cell? ⟨gb828, 1, none⟩ = some (.string a0_1) := (blk_cell BK828.out 1).trans rfl; have hfz8_0 := blk_frozen BK828.out 0; have hfz8_1 := blk_frozen BK828.out 1) | ((with_reducible refine gate_callee (f := 28) rfl ?_); refine gL_ 13 Try.func28 rfl #[.agg #[.string a0_0, .string a0_1], .int .i64 1048576] ?_; (with_reducible refine (laws_szPair.calls a0_0 a0_1 1048576 t829 _ A5.out).mono ?_); rintro e w9 ⟨rfl, hb⟩; refine ⟨_, rfl, ?_⟩; replace BK828 := Aside0.mk (blk_below (g := gb828) (o := .cells #[.string a0_0, .string a0_1] 29 (0, 0)) (by (with_reducible repeat (first | refine blk_drewN ?_ _ | refine blk_drew ?_ | refine blk_alloc ?_ _)); exact BK828.out) hb); replace HB := Aside0.mk (below_step (by repeat (first | (with_reducible first | exact HB.out | apply below_alloc | apply pw_below_drewN | apply below_drew1 | refine below_set ?_ GE828.out) | exact HB.out)) hb); clear hb))
    go_ret
    exact ⟨by first | rfl | (simp [errW_none, errW_some] <;> rfl) | (simp [*, errW_none, errW_some] <;> rfl), by repeat (first | (with_reducible first | exact HB.out | apply below_alloc | apply pw_below_drewN | apply below_drew1 | refine below_set ?_ GE828.out) | exact HB.out)⟩
  rw [if_neg c6] at H
  have c6b0 : decide (t829 < 0) = false := decide_eq_false c6
  clear c6
  replace H := Option.bind_eq_some_iff.mp H
  obtain ⟨⟨t830, t831⟩, A100, H⟩ := H
  replace H : ((spec_PairGreater.f k t830 t831 a1).bind fun t832 => ((laws_toPair.f a0_0 a0_1).bind fun bt833 => ((impl_PairGreater.f k bt833.1 bt833.2 a1).bind fun t835 => (if (t835 != t832) = true then (some false) else (some true))))) = some r := H
  have A10 := Aside0.mk A100
  clear A100
  replace H := Option.bind_eq_some_iff.mp H
  obtain ⟨t832, A110, H⟩ := H
  have A11 := Aside0.mk A110
  clear A110
  replace H := Option.bind_eq_some_iff.mp H
  obtain ⟨⟨t833, t834⟩, A120, H⟩ := H
  replace H : ((impl_PairGreater.f k t833 t834 a1).bind fun t835 => (if (t835 != t832) = true then (some false) else (some true))) = some r := H
  have A12 := Aside0.mk A120
  clear A120
  replace H := Option.bind_eq_some_iff.mp H
  obtain ⟨t835, A130, H⟩ := H
  have A13 := Aside0.mk A130
  clear A130
  by_cases c14 : (t835 != t832) = true
  rotate_left
  · rw [if_neg c14] at H
    have c14b0 : (t835 != t832) = false := by simpa using c14
    (try (have c14b1 : decide (t835 = t832) = true := by simpa using c14))
    (try (have c14b2 : (t835 == t832) = true := by simpa using c14))
    clear c14
    obtain rfl := Option.some.inj H
    go_enter Try.func10, Try.ntmps10
    go_wp2_with (first | ((with_reducible refine gate_dst (N := 2) rfl ?_); refine box_event ?hg (N := 2) ?hd (cs := #[.string a0_0, .string a0_1]) (t := 29) ?hr ?_; (case hd => rfl); (case hg => rfl); (case hr => first | (go_simp; done) | (go_simp; rfl)); intro gb828 hg w24 hbox hb; have BK828 := Aside0.mk (hbox); have GW828 := Aside0.mk ((by rw [hg]; exact (below_size (pB_ HB.out)) : w.heap.size ≤ gb828)); have GE828 := Aside0.mk ((by rw [hg]; exact (below_size (pB_ HB.out)) : w.heap.size ≤ gb828)); replace HB := Aside0.mk (below_step (pB_ HB.out) hb); clear hb hbox hg; have hcz25_0 : w24.cell? ⟨gb828, 0, none⟩ = some (.string a0_0) := (blk_cell BK828.out 0).trans rfl; have hcz25_1 : w24.cell? ⟨gb828, 1, none⟩ = some (.string a0_1) := (blk_cell BK828.out 1).trans rfl; have hfz25_0 := blk_frozen BK828.out 0; have hfz25_1 := blk_frozen BK828.out 1) | ((with_reducible refine gate_callee (f := 28) rfl ?_); refine gL_ 13 Try.func28 rfl #[.agg #[.string a0_0, .string a0_1], .int .i64 1048576] ?_; (with_reducible refine (laws_szPair.calls a0_0 a0_1 1048576 t829 _ A5.out).mono ?_); rintro e w26 ⟨rfl, hb⟩; refine ⟨_, rfl, ?_⟩; replace BK828 := Aside0.mk (blk_below (g := gb828) (o := .cells #[.string a0_0, .string a0_1] 29 (0, 0)) (by (with_reducible repeat (first | refine blk_drewN ?_ _ | refine blk_drew ?_ | refine blk_alloc ?_ _)); exact BK828.out) hb); replace HB := Aside0.mk (below_step (by repeat (first | (with_reducible first | exact HB.out | apply below_alloc | apply pw_below_drewN | apply below_drew1 | refine below_set ?_ GE828.out) | exact HB.out)) hb); clear hb; have hcz27_0 : w26.cell? ⟨gb828, 0, none⟩ = some (.string a0_0) := (blk_cell BK828.out 0).trans rfl; have hcz27_1 : w26.cell? ⟨gb828, 1, none⟩ = some (.string a0_1) := (blk_cell BK828.out 1).trans rfl; have hfz27_0 := blk_frozen BK828.out 0; have hfz27_1 := blk_frozen BK828.out 1) | ((with_reducible refine gate_callee (f := 30) rfl ?_); refine gL_ 17 Try.func30 rfl #[.agg #[.string a0_0, .string a0_1]] ?_; (with_reducible refine (laws_toPair.calls a0_0 a0_1 t830 t831 _ A10.out).mono ?_); rintro e w28 ⟨rfl, hb⟩; refine ⟨_, rfl, ?_⟩; replace BK828 := Aside0.mk (blk_below (g := gb828) (o := .cells #[.string a0_0, .string a0_1] 29 (0, 0)) (by (with_reducible repeat (first | refine blk_drewN ?_ _ | refine blk_drew ?_ | refine blk_alloc ?_ _)); exact BK828.out) hb); replace HB := Aside0.mk (below_step (by repeat (first | (with_reducible first | exact HB.out | apply below_alloc | apply pw_below_drewN | apply below_drew1 | refine below_set ?_ GE828.out) | exact HB.out)) hb); clear hb) | ((with_reducible refine gate_callee (f := 29) rfl ?_); refine gL_ 19 Try.func29 rfl #[.agg #[.string t830, .string t831], .string a1] ?_; (with_reducible refine (spec_PairGreater.calls k t830 t831 a1 t832 _ A11.out).mono ?_); rintro e w29 ⟨rfl, hb⟩; refine ⟨_, rfl, ?_⟩; replace BK828 := Aside0.mk (blk_below (g := gb828) (o := .cells #[.string a0_0, .string a0_1] 29 (0, 0)) (by (with_reducible repeat (first | refine blk_drewN ?_ _ | refine blk_drew ?_ | refine blk_alloc ?_ _)); exact BK828.out) hb); replace HB := Aside0.mk (below_step (by repeat (first | (with_reducible first | exact HB.out | apply below_alloc | apply pw_below_drewN | apply below_drew1 | refine below_set ?_ GE828.out) | exact HB.out)) hb); clear hb; have hcz30_0 : w29.cell? ⟨gb828, 0, none⟩ = some (.string a0_0) := (blk_cell BK828.out 0).trans rfl; have hcz30_1 : w29.cell? ⟨gb828, 1, none⟩ = some (.string a0_1) := (blk_cell BK828.out 1).trans rfl; have hfz30_0 := blk_frozen BK828.out 0; have hfz30_1 := blk_frozen BK828.out 1) | ((with_reducible refine gate_callee (f := 30) rfl ?_); refine gL_ 21 Try.func30 rfl #[.agg #[.string a0_0, .string a0_1]] ?_; (with_reducible refine (laws_toPair.calls a0_0 a0_1 t833 t834 _ A12.out).mono ?_); rintro e w31 ⟨rfl, hb⟩; refine ⟨_, rfl, ?_⟩; replace BK828 := Aside0.mk (blk_below (g := gb828) (o := .cells #[.string a0_0, .string a0_1] 29 (0, 0)) (by (with_reducible repeat (first | refine blk_drewN ?_ _ | refine blk_drew ?_ | refine blk_alloc ?_ _)); exact BK828.out) hb); replace HB := Aside0.mk (below_step (by repeat (first | (with_reducible first | exact HB.out | apply below_alloc | apply pw_below_drewN | apply below_drew1 | refine below_set ?_ GE828.out) | exact HB.out)) hb); clear hb) | ((with_reducible refine gate_callee (f := 31) rfl ?_); refine gL_ 23 Try.func31 rfl #[.agg #[.string t833, .string t834], .string a1] ?_; (with_reducible refine (impl_PairGreater.calls k t833 t834 a1 t835 _ A13.out).mono ?_); rintro e w32 ⟨rfl, hb⟩; refine ⟨_, rfl, ?_⟩; replace BK828 := Aside0.mk (blk_below (g := gb828) (o := .cells #[.string a0_0, .string a0_1] 29 (0, 0)) (by (with_reducible repeat (first | refine blk_drewN ?_ _ | refine blk_drew ?_ | refine blk_alloc ?_ _)); exact BK828.out) hb); replace HB := Aside0.mk (below_step (by repeat (first | (with_reducible first | exact HB.out | apply below_alloc | apply pw_below_drewN | apply below_drew1 | refine below_set ?_ GE828.out) | exact HB.out)) hb); clear hb))
    go_ret
    exact ⟨by first | rfl | (simp [errW_none, errW_some] <;> rfl) | (simp [*, errW_none, errW_some] <;> rfl), by repeat (first | (with_reducible first | exact HB.out | apply below_alloc | apply pw_below_drewN | apply below_drew1 | refine below_set ?_ GE828.out) | exact HB.out)⟩

  rw [if_pos c14] at H
  have c14b0 : (t835 != t832) = true := c14
  (try (have c14b1 : decide (t835 = t832) = false := by simpa using c14))
  (try (have c14b2 : (t835 == t832) = false := by simpa using c14))
  (try (have c14b3 : ¬ (t835 = t832) := by simpa using c14))
  clear c14
  obtain rfl := Option.some.inj H
  go_enter Try.func10, Try.ntmps10
  go_wp2_with (first | ((with_reducible refine gate_dst (N := 2) rfl ?_); refine box_event ?hg (N := 2) ?hd (cs := #[.string a0_0, .string a0_1]) (t := 29) ?hr ?_; (case hd => rfl); (case hg => rfl); (case hr => first | (go_simp; done) | (go_simp; rfl)); intro gb828 hg w15 hbox hb; have BK828 := Aside0.mk (hbox); have GW828 := Aside0.mk ((by rw [hg]; exact (below_size (pB_ HB.out)) : w.heap.size ≤ gb828)); have GE828 := Aside0.mk ((by rw [hg]; exact (below_size (pB_ HB.out)) : w.heap.size ≤ gb828)); replace HB := Aside0.mk (below_step (pB_ HB.out) hb); clear hb hbox hg; have hcz16_0 : w15.cell? ⟨gb828, 0, none⟩ = some (.string a0_0) := (blk_cell BK828.out 0).trans rfl; have hcz16_1 : w15.cell? ⟨gb828, 1, none⟩ = some (.string a0_1) := (blk_cell BK828.out 1).trans rfl; have hfz16_0 := blk_frozen BK828.out 0; have hfz16_1 := blk_frozen BK828.out 1) | ((with_reducible refine gate_callee (f := 28) rfl ?_); refine gL_ 13 Try.func28 rfl #[.agg #[.string a0_0, .string a0_1], .int .i64 1048576] ?_; (with_reducible refine (laws_szPair.calls a0_0 a0_1 1048576 t829 _ A5.out).mono ?_); rintro e w17 ⟨rfl, hb⟩; refine ⟨_, rfl, ?_⟩; replace BK828 := Aside0.mk (blk_below (g := gb828) (o := .cells #[.string a0_0, .string a0_1] 29 (0, 0)) (by (with_reducible repeat (first | refine blk_drewN ?_ _ | refine blk_drew ?_ | refine blk_alloc ?_ _)); exact BK828.out) hb); replace HB := Aside0.mk (below_step (by repeat (first | (with_reducible first | exact HB.out | apply below_alloc | apply pw_below_drewN | apply below_drew1 | refine below_set ?_ GE828.out) | exact HB.out)) hb); clear hb; have hcz18_0 : w17.cell? ⟨gb828, 0, none⟩ = some (.string a0_0) := (blk_cell BK828.out 0).trans rfl; have hcz18_1 : w17.cell? ⟨gb828, 1, none⟩ = some (.string a0_1) := (blk_cell BK828.out 1).trans rfl; have hfz18_0 := blk_frozen BK828.out 0; have hfz18_1 := blk_frozen BK828.out 1) | ((with_reducible refine gate_callee (f := 30) rfl ?_); refine gL_ 17 Try.func30 rfl #[.agg #[.string a0_0, .string a0_1]] ?_; (with_reducible refine (laws_toPair.calls a0_0 a0_1 t830 t831 _ A10.out).mono ?_); rintro e w19 ⟨rfl, hb⟩; refine ⟨_, rfl, ?_⟩; replace BK828 := Aside0.mk (blk_below (g := gb828) (o := .cells #[.string a0_0, .string a0_1] 29 (0, 0)) (by (with_reducible repeat (first | refine blk_drewN ?_ _ | refine blk_drew ?_ | refine blk_alloc ?_ _)); exact BK828.out) hb); replace HB := Aside0.mk (below_step (by repeat (first | (with_reducible first | exact HB.out | apply below_alloc | apply pw_below_drewN | apply below_drew1 | refine below_set ?_ GE828.out) | exact HB.out)) hb); clear hb) | ((with_reducible refine gate_callee (f := 29) rfl ?_); refine gL_ 19 Try.func29 rfl #[.agg #[.string t830, .string t831], .string a1] ?_; (with_reducible refine (spec_PairGreater.calls k t830 t831 a1 t832 _ A11.out).mono ?_); rintro e w20 ⟨rfl, hb⟩; refine ⟨_, rfl, ?_⟩; replace BK828 := Aside0.mk (blk_below (g := gb828) (o := .cells #[.string a0_0, .string a0_1] 29 (0, 0)) (by (with_reducible repeat (first | refine blk_drewN ?_ _ | refine blk_drew ?_ | refine blk_alloc ?_ _)); exact BK828.out) hb); replace HB := Aside0.mk (below_step (by repeat (first | (with_reducible first | exact HB.out | apply below_alloc | apply pw_below_drewN | apply below_drew1 | refine below_set ?_ GE828.out) | exact HB.out)) hb); clear hb; have hcz21_0 : w20.cell? ⟨gb828, 0, none⟩ = some (.string a0_0) := (blk_cell BK828.out 0).trans rfl; have hcz21_1 : w20.cell? ⟨gb828, 1, none⟩ = some (.string a0_1) := (blk_cell BK828.out 1).trans rfl; have hfz21_0 := blk_frozen BK828.out 0; have hfz21_1 := blk_frozen BK828.out 1) | ((with_reducible refine gate_callee (f := 30) rfl ?_); refine gL_ 21 Try.func30 rfl #[.agg #[.string a0_0, .string a0_1]] ?_; (with_reducible refine (laws_toPair.calls a0_0 a0_1 t833 t834 _ A12.out).mono ?_); rintro e w22 ⟨rfl, hb⟩; refine ⟨_, rfl, ?_⟩; replace BK828 := Aside0.mk (blk_below (g := gb828) (o := .cells #[.string a0_0, .string a0_1] 29 (0, 0)) (by (with_reducible repeat (first | refine blk_drewN ?_ _ | refine blk_drew ?_ | refine blk_alloc ?_ _)); exact BK828.out) hb); replace HB := Aside0.mk (below_step (by repeat (first | (with_reducible first | exact HB.out | apply below_alloc | apply pw_below_drewN | apply below_drew1 | refine below_set ?_ GE828.out) | exact HB.out)) hb); clear hb) | ((with_reducible refine gate_callee (f := 31) rfl ?_); refine gL_ 23 Try.func31 rfl #[.agg #[.string t833, .string t834], .string a1] ?_; (with_reducible refine (impl_PairGreater.calls k t833 t834 a1 t835 _ A13.out).mono ?_); rintro e w23 ⟨rfl, hb⟩; refine ⟨_, rfl, ?_⟩; replace BK828 := Aside0.mk (blk_below (g := gb828) (o := .cells #[.string a0_0, .string a0_1] 29 (0, 0)) (by (with_reducible repeat (first | refine blk_drewN ?_ _ | refine blk_drew ?_ | refine blk_alloc ?_ _)); exact BK828.out) hb); replace HB := Aside0.mk (below_step (by repeat (first | (with_reducible first | exact HB.out | apply below_alloc | apply pw_below_drewN | apply below_drew1 | refine below_set ?_ GE828.out) | exact HB.out)) hb); clear hb))
  go_ret
  exact ⟨by first | rfl | (simp [errW_none, errW_some] <;> rfl) | (simp [*, errW_none, errW_some] <;> rfl), by repeat (first | (with_reducible first | exact HB.out | apply below_alloc | apply pw_below_drewN | apply below_drew1 | refine below_set ?_ GE828.out) | exact HB.out)⟩

/-! ### spec_OtherPair: function 32 -/
def spec_OtherPair.f (k : Nat) (a0_0 : ByteArray) (a0_1 : ByteArray) (a1 : ByteArray) : Option (ByteArray × ByteArray) := (spec_PairOk.f k a0_0 a0_1 a1).bind fun t838 => (if t838 = true then ((spec_NegRest.f k a0_1 a1).bind fun t839 => (some (a0_0, t839))) else (some ((⟨#[]⟩ : ByteArray), (⟨#[]⟩ : ByteArray))))
def spec_OtherPair.T3 : Bool × List (List Nat × List Nat) := (true, [([], []), ([0], [0]), ([], []), ([2], [2]), ([], []), ([3, 4], [3, 4]), ([1, 5], [1, 5]), ([6, 5, 0, 1, 2, 3, 4, 5, 6], [6])])
def spec_OtherPair.B3 : List Nat := [0, 1, 0, 4, 0, 28, 63, 127]
theorem spec_OtherPair.tab3 : rtab .any (opsOf Try.f32 3) = spec_OtherPair.T3 := by kernel_rfl
theorem spec_OtherPair.bits3 : waitsOk spec_OtherPair.T3.2 spec_OtherPair.B3 = true := by kernel_rfl
set_option maxHeartbeats 8000000 in
set_option maxRecDepth 100000 in
theorem spec_OtherPair.calls (k : Nat) (a0_0 : ByteArray) (a0_1 : ByteArray) (a1 : ByteArray) (r1 : ByteArray) (r2 : ByteArray) (w : World) (h : spec_OtherPair.f k a0_0 a0_1 a1 = some (r1, r2)) :
    Calls Try.prog 32 #[.agg #[.string a0_0, .string a0_1], .string a1] w fun e w' => e = .returned (.agg #[.string r1, .string r2]) ∧ Below w.heap.size w w' := by
  have hu32 := Try.underlying32
  have HB := Aside0.mk (Below.refl w.heap.size w)
  have H : ((spec_PairOk.f k a0_0 a0_1 a1).bind fun t838 => (if t838 = true then ((spec_NegRest.f k a0_1 a1).bind fun t839 => (some (a0_0, t839))) else (some ((⟨#[]⟩ : ByteArray), (⟨#[]⟩ : ByteArray))))) = some (r1, r2) := h
  clear h
  replace H := Option.bind_eq_some_iff.mp H
  obtain ⟨t838, A30, H⟩ := H
  have A3 := Aside0.mk A30
  clear A30
  by_cases c4 : t838 = true
  · subst c4
    have H1 : ((spec_NegRest.f k a0_1 a1).bind fun t839 => (some (a0_0, t839))) = some (r1, r2) := by rw [if_pos rfl] at H; exact H
    clear H
    have H := H1
    clear H1
    replace H := Option.bind_eq_some_iff.mp H
    obtain ⟨t839, A50, H⟩ := H
    have A5 := Aside0.mk A50
    clear A50
    simp only [Option.some.injEq, Prod.mk.injEq] at H
    obtain ⟨rfl, rfl⟩ := H
    go_enter Try.func32, Try.ntmps32
    try go_wp2_with (first | ((with_reducible refine gate_dst (N := 2) rfl ?_); refine box_event ?hg (N := 2) ?hd (cs := #[.string a0_0, .string a0_1]) (t := 32) ?hr ?_; (case hd => rfl); (case hg => rfl); (case hr => first | (go_simp; done) | (go_simp; rfl)); intro gb836 hg w6 hbox hb; have BK836 := Aside0.mk (hbox); have GW836 := Aside0.mk ((by rw [hg]; exact (below_size (pB_ HB.out)) : w.heap.size ≤ gb836)); have GE836 := Aside0.mk ((by rw [hg]; exact (below_size (pB_ HB.out)) : w.heap.size ≤ gb836)); replace HB := Aside0.mk (below_step (pB_ HB.out) hb); clear hb hbox hg) | ((with_reducible refine gate_dst (N := 4) rfl ?_); refine box_event ?hg (N := 4) ?hd (cs := #[.string (⟨#[]⟩ : ByteArray), .string (⟨#[]⟩ : ByteArray)]) (t := 32) ?hr ?_; (case hd => rfl); (case hg => rfl); (case hr => first | (go_simp; done) | (go_simp; rfl)); intro gb837 hg w7 hbox hb; have BK837 := Aside0.mk (hbox); have GW837 := Aside0.mk ((by rw [hg]; exact (below_size (by repeat (first | (with_reducible first | exact HB.out | apply below_alloc | apply pw_below_drewN | apply below_drew1 | refine below_set ?_ GE836.out) | exact HB.out))) : w.heap.size ≤ gb837)); have GE837 := Aside0.mk ((by rw [hg]; exact (below_size (by repeat (first | (with_reducible first | exact HB.out | apply below_alloc | apply pw_below_drewN | apply below_drew1 | refine below_set ?_ GE836.out) | exact HB.out))) : w.heap.size ≤ gb837)); replace HB := Aside0.mk (below_step (by repeat (first | (with_reducible first | exact HB.out | apply below_alloc | apply pw_below_drewN | apply below_drew1 | refine below_set ?_ GE836.out) | exact HB.out)) hb); have NB836_837 := Aside0.mk ((by rw [hg]; exact Nat.ne_of_lt (blk_lt (g := gb836) (o := .cells #[.string a0_0, .string a0_1] 32 (0, 0)) (by (with_reducible repeat (first | refine blk_drewN ?_ _ | refine blk_drew ?_ | refine blk_alloc ?_ _)); exact BK836.out)) : gb836 ≠ gb837)); have NB837_836 := Aside0.mk ((by rw [hg]; exact Nat.ne_of_gt (blk_lt (g := gb836) (o := .cells #[.string a0_0, .string a0_1] 32 (0, 0)) (by (with_reducible repeat (first | refine blk_drewN ?_ _ | refine blk_drew ?_ | refine blk_alloc ?_ _)); exact BK836.out)) : gb837 ≠ gb836)); replace BK836 := Aside0.mk (blk_below (g := gb836) (o := .cells #[.string a0_0, .string a0_1] 32 (0, 0)) (by (with_reducible repeat (first | refine blk_drewN ?_ _ | refine blk_drew ?_ | refine blk_alloc ?_ _)); exact BK836.out) hb); clear hb hbox hg; have hnb8 := NB836_837.out; have hnc8 := NB837_836.out; have hcz9_0 : w7.cell? ⟨gb836, 0, none⟩ = some (.string a0_0) := (blk_cell BK836.out 0).trans rfl; have hcz9_1 : w7.cell? ⟨gb836, 1, none⟩ = some (.string a0_1) := (blk_cell BK836.out 1).trans rfl; have hfz9_0 := blk_frozen BK836.out 0; have hfz9_1 := blk_frozen BK836.out 1) | ((with_reducible refine gate_callee (f := 70) rfl ?_); refine gL_ 7 Try.func70 rfl #[.agg #[.string a0_0, .string a0_1], .string a1] ?_; (with_reducible refine (spec_PairOk.calls k a0_0 a0_1 a1 true _ A3.out).mono ?_); rintro e w10 ⟨rfl, hb⟩; refine ⟨_, rfl, ?_⟩; replace BK836 := Aside0.mk (blk_below (g := gb836) (o := .cells #[.string a0_0, .string a0_1] 32 (0, 0)) (by (with_reducible repeat (first | refine blk_drewN ?_ _ | refine blk_drew ?_ | refine blk_alloc ?_ _)); exact BK836.out) hb); replace BK837 := Aside0.mk (blk_below (g := gb837) (o := .cells #[.string (⟨#[]⟩ : ByteArray), .string (⟨#[]⟩ : ByteArray)] 32 (0, 0)) (by (with_reducible repeat (first | refine blk_drewN ?_ _ | refine blk_drew ?_ | refine blk_alloc ?_ _)); exact BK837.out) hb); replace HB := Aside0.mk (below_step (by repeat (first | (with_reducible first | exact HB.out | apply below_alloc | apply pw_below_drewN | apply below_drew1 | refine below_set ?_ GE836.out | refine below_set ?_ GE837.out) | exact HB.out)) hb); clear hb))
    have n0_ := Aside0.mk (blk_drew BK836.out)
    have n1_ := Aside0.mk (blk_drew BK837.out)
    have n2_ := Aside0.mk (below_drew1 HB.out)
    clear BK836
    clear BK837
    clear HB
    have BK836 := n0_
    have BK837 := n1_
    have HB := n2_
    clear n0_ n1_ n2_
    refine start_ (n := 8) (S := fun w' => w'.cell? ⟨gb836, 0, none⟩ = some (.string a0_0) ∧ w'.cell? ⟨gb836, 1, none⟩ = some (.string a0_1)) (ds := []) #[false, false, false, false, false, false, false, false] (by kernel_rfl) rfl rfl ⟨(blk_cell BK836.out 0).trans rfl, (blk_cell BK836.out 1).trans rfl⟩ (fun hHeld => ?_); refine with_tabW spec_OtherPair.tab3 spec_OtherPair.bits3 (fun HT_ HW_ => ?_)
    generalize w10.drew = w11 at BK836 BK837 HB hHeld ⊢
    refine pu_ 0 10 HT_.out ?_
    refine pu_ 2 12 HT_.out ?_
    refine pu_ 4 14 HT_.out ?_
    refine take_ (i := 1) (N := some 11) (v := ?_) (a' := ?_) #[true, true, true, false, true, false, false, false] rfl rfl (take_ofW HT_.out HW_.out (by kernel_rfl)) (fun _ _ _ h => h) (Or.inl ⟨by rfl, ?_⟩) hHeld ?_ ?_
    rotate_left
    · rintro w' ⟨s0, s1⟩
      go_simp
      with_reducible rfl
    rotate_left
    · simp only [Act.put, List.setIfInBounds_toArray, List.set_cons_zero, List.set_cons_succ, i64_w, i32_w]
      rfl
    refine take_ (i := 3) (N := some 13) (v := ?_) (a' := ?_) #[true, true, true, true, true, false, false, false] rfl rfl (take_ofW HT_.out HW_.out (by kernel_rfl)) (fun _ _ _ h => h) (Or.inl ⟨by rfl, ?_⟩) hHeld ?_ ?_
    rotate_left
    · rintro w' ⟨s0, s1⟩
      go_simp
      with_reducible rfl
    rotate_left
    · simp only [Act.put, List.setIfInBounds_toArray, List.set_cons_zero, List.set_cons_succ, i64_w, i32_w]
      rfl
    refine one_ (i := 5) (N := some 15) #[true, true, true, true, true, true, false, false] rfl rfl (one_of HT_.out (by kernel_rfl)) (by decide) (fun K hK => ?_)
    refine goes_ Try.func26 (by kernel_rfl) rfl #[.string a0_1, .string a1] (by rfl) rfl rfl (by (try simp only [List.map_toArray, List.map_cons, List.map_nil]); first | done | rfl | (simp only [List.length_drop, List.length_take]; rfl)) ?_
    with_reducible refine (spec_NegRest.calls k a0_1 a1 t839 _ A5.out).mono ?_
    rintro e w12 ⟨rfl, hb⟩
    refine ⟨_, rfl, ?_⟩
    have n0_ := Aside0.mk (blk_below (g := gb836) (o := .cells #[.string a0_0, .string a0_1] 32 (0, 0)) (by (with_reducible repeat (first | refine blk_drewN ?_ _ | refine blk_drew ?_ | refine blk_alloc ?_ _)); exact BK836.out) hb)
    have n1_ := Aside0.mk (blk_below (g := gb837) (o := .cells #[.string (⟨#[]⟩ : ByteArray), .string (⟨#[]⟩ : ByteArray)] 32 (0, 0)) (by (with_reducible repeat (first | refine blk_drewN ?_ _ | refine blk_drew ?_ | refine blk_alloc ?_ _)); exact BK837.out) hb)
    have n2_ := Aside0.mk (below_step (by repeat (first | (with_reducible first | exact HB.out | apply below_alloc | apply pw_below_drewN | apply below_drew1 | refine below_set ?_ GE836.out | refine below_set ?_ GE837.out) | exact HB.out)) hb)
    clear BK836
    clear BK837
    clear HB
    have BK836 := n0_
    have BK837 := n1_
    have HB := n2_
    clear n0_ n1_ n2_
    (try clear hb)
    (try clear hb2)
    (try clear hk)
    (try clear hi)
    refine hK.out _ _ ⟨(blk_cell BK836.out 0).trans rfl, (blk_cell BK836.out 1).trans rfl⟩ (fun hHeld => ?_)
    clear hK K
    refine norm_ (a' := ?_) ?_ ?_
    rotate_left
    · show Act.put _ (some 15) _ = _
      simp only [Act.put, List.setIfInBounds_toArray, List.set_cons_zero, List.set_cons_succ, i64_w, i32_w]
      rfl
    refine pu_ 6 16 HT_.out ?_
    refine one_ (i := 7) (N := none) #[true, true, true, true, true, true, true, true] rfl rfl (one_of HT_.out (by kernel_rfl)) (by decide) (fun K hK => ?_)
    have hs13 : w12.cell? ⟨gb837, 0, none⟩ = some (.string (⟨#[]⟩ : ByteArray)) := (blk_cell BK837.out 0).trans rfl
    have hfs13 := blk_frozen BK837.out 0
    have hns13_0 := NB836_837.out
    have hms13_0 := NB837_836.out
    have hs14 : w12.cell? ⟨gb837, 1, none⟩ = some (.string (⟨#[]⟩ : ByteArray)) := (blk_cell BK837.out 1).trans rfl
    have hfs14 := blk_frozen BK837.out 1
    have hns14_0 := NB836_837.out
    have hms14_0 := NB837_836.out
    refine skip_ (w1 := ?_) (by rfl) rfl ?_ ?_
    rotate_left
    · go_simp
      rfl
    refine hK.out _ _ ⟨((cell_far (p := ⟨gb837, _, none⟩) NB836_837.out _).trans (((cell_far (p := ⟨gb837, _, none⟩) NB836_837.out _).trans (hHeld.1)))), ((cell_far (p := ⟨gb837, _, none⟩) NB836_837.out _).trans (((cell_far (p := ⟨gb837, _, none⟩) NB836_837.out _).trans (hHeld.2))))⟩ (fun hHeld => ?_)
    clear hK K
    refine done_ (done_of HT_.out (by kernel_rfl)) ?_
    try go_wp2
    refine bodyPost_ret (results_cell_row rfl _ _ gb837 32 #[.string a0_0, .string t839] (0, 0) _ rfl (by (with_reducible repeat (first | refine blk_drewN ?_ _ | refine blk_drew ?_ | refine blk_alloc ?_ _)); refine blk_put (cs := #[.string a0_0, .string (⟨#[]⟩ : ByteArray)]) ?_ 1 _ rfl; (with_reducible repeat (first | refine blk_drewN ?_ _ | refine blk_drew ?_ | refine blk_alloc ?_ _)); refine blk_put (cs := #[.string (⟨#[]⟩ : ByteArray), .string (⟨#[]⟩ : ByteArray)]) ?_ 0 _ rfl; (with_reducible repeat (first | refine blk_drewN ?_ _ | refine blk_drew ?_ | refine blk_alloc ?_ _)); exact BK837.out) Try.underlying32 rfl (by kernel_rfl)) rfl ?_
    exact ⟨by first | rfl | (simp [errW_none, errW_some] <;> rfl) | (simp [*, errW_none, errW_some] <;> rfl), by repeat (first | (with_reducible first | exact HB.out | apply below_alloc | apply pw_below_drewN | apply below_drew1 | refine below_set ?_ GE836.out | refine below_set ?_ GE837.out) | exact HB.out)⟩
  · replace c4 := Bool.eq_false_iff.mpr c4
    subst c4
    have H1 : (some ((⟨#[]⟩ : ByteArray), (⟨#[]⟩ : ByteArray))) = some (r1, r2) := by rw [if_neg (show ¬ (false = true) by decide)] at H; exact H
    clear H
    have H := H1
    clear H1
    simp only [Option.some.injEq, Prod.mk.injEq] at H
    obtain ⟨rfl, rfl⟩ := H
    go_enter Try.func32, Try.ntmps32
    go_wp2_with (first | ((with_reducible refine gate_dst (N := 2) rfl ?_); refine box_event ?hg (N := 2) ?hd (cs := #[.string a0_0, .string a0_1]) (t := 32) ?hr ?_; (case hd => rfl); (case hg => rfl); (case hr => first | (go_simp; done) | (go_simp; rfl)); intro gb836 hg w15 hbox hb; have BK836 := Aside0.mk (hbox); have GW836 := Aside0.mk ((by rw [hg]; exact (below_size (pB_ HB.out)) : w.heap.size ≤ gb836)); have GE836 := Aside0.mk ((by rw [hg]; exact (below_size (pB_ HB.out)) : w.heap.size ≤ gb836)); replace HB := Aside0.mk (below_step (pB_ HB.out) hb); clear hb hbox hg) | ((with_reducible refine gate_dst (N := 4) rfl ?_); refine box_event ?hg (N := 4) ?hd (cs := #[.string (⟨#[]⟩ : ByteArray), .string (⟨#[]⟩ : ByteArray)]) (t := 32) ?hr ?_; (case hd => rfl); (case hg => rfl); (case hr => first | (go_simp; done) | (go_simp; rfl)); intro gb837 hg w16 hbox hb; have BK837 := Aside0.mk (hbox); have GW837 := Aside0.mk ((by rw [hg]; exact (below_size (by repeat (first | (with_reducible first | exact HB.out | apply below_alloc | apply pw_below_drewN | apply below_drew1 | refine below_set ?_ GE836.out) | exact HB.out))) : w.heap.size ≤ gb837)); have GE837 := Aside0.mk ((by rw [hg]; exact (below_size (by repeat (first | (with_reducible first | exact HB.out | apply below_alloc | apply pw_below_drewN | apply below_drew1 | refine below_set ?_ GE836.out) | exact HB.out))) : w.heap.size ≤ gb837)); replace HB := Aside0.mk (below_step (by repeat (first | (with_reducible first | exact HB.out | apply below_alloc | apply pw_below_drewN | apply below_drew1 | refine below_set ?_ GE836.out) | exact HB.out)) hb); have NB836_837 := Aside0.mk ((by rw [hg]; exact Nat.ne_of_lt (blk_lt (g := gb836) (o := .cells #[.string a0_0, .string a0_1] 32 (0, 0)) (by (with_reducible repeat (first | refine blk_drewN ?_ _ | refine blk_drew ?_ | refine blk_alloc ?_ _)); exact BK836.out)) : gb836 ≠ gb837)); have NB837_836 := Aside0.mk ((by rw [hg]; exact Nat.ne_of_gt (blk_lt (g := gb836) (o := .cells #[.string a0_0, .string a0_1] 32 (0, 0)) (by (with_reducible repeat (first | refine blk_drewN ?_ _ | refine blk_drew ?_ | refine blk_alloc ?_ _)); exact BK836.out)) : gb837 ≠ gb836)); replace BK836 := Aside0.mk (blk_below (g := gb836) (o := .cells #[.string a0_0, .string a0_1] 32 (0, 0)) (by (with_reducible repeat (first | refine blk_drewN ?_ _ | refine blk_drew ?_ | refine blk_alloc ?_ _)); exact BK836.out) hb); clear hb hbox hg; have hnb17 := NB836_837.out; have hnc17 := NB837_836.out; have hcz18_0 : w16.cell? ⟨gb836, 0, none⟩ = some (.string a0_0) := (blk_cell BK836.out 0).trans rfl; have hcz18_1 : w16.cell? ⟨gb836, 1, none⟩ = some (.string a0_1) := (blk_cell BK836.out 1).trans rfl; have hfz18_0 := blk_frozen BK836.out 0; have hfz18_1 := blk_frozen BK836.out 1) | ((with_reducible refine gate_callee (f := 70) rfl ?_); refine gL_ 7 Try.func70 rfl #[.agg #[.string a0_0, .string a0_1], .string a1] ?_; (with_reducible refine (spec_PairOk.calls k a0_0 a0_1 a1 false _ A3.out).mono ?_); rintro e w19 ⟨rfl, hb⟩; refine ⟨_, rfl, ?_⟩; replace BK836 := Aside0.mk (blk_below (g := gb836) (o := .cells #[.string a0_0, .string a0_1] 32 (0, 0)) (by (with_reducible repeat (first | refine blk_drewN ?_ _ | refine blk_drew ?_ | refine blk_alloc ?_ _)); exact BK836.out) hb); replace BK837 := Aside0.mk (blk_below (g := gb837) (o := .cells #[.string (⟨#[]⟩ : ByteArray), .string (⟨#[]⟩ : ByteArray)] 32 (0, 0)) (by (with_reducible repeat (first | refine blk_drewN ?_ _ | refine blk_drew ?_ | refine blk_alloc ?_ _)); exact BK837.out) hb); replace HB := Aside0.mk (below_step (by repeat (first | (with_reducible first | exact HB.out | apply below_alloc | apply pw_below_drewN | apply below_drew1 | refine below_set ?_ GE836.out | refine below_set ?_ GE837.out) | exact HB.out)) hb); clear hb; have hcz20_0 : w19.cell? ⟨gb837, 0, none⟩ = some (.string (⟨#[]⟩ : ByteArray)) := (blk_cell BK837.out 0).trans rfl; have hcz20_1 : w19.cell? ⟨gb837, 1, none⟩ = some (.string (⟨#[]⟩ : ByteArray)) := (blk_cell BK837.out 1).trans rfl; have hfz20_0 := blk_frozen BK837.out 0; have hfz20_1 := blk_frozen BK837.out 1))
    refine bodyPost_ret (results_cell_row rfl _ _ gb837 32 #[.string (⟨#[]⟩ : ByteArray), .string (⟨#[]⟩ : ByteArray)] (0, 0) _ rfl (by (with_reducible repeat (first | refine blk_drewN ?_ _ | refine blk_drew ?_ | refine blk_alloc ?_ _)); refine blk_put (cs := #[.string (⟨#[]⟩ : ByteArray), .string (⟨#[]⟩ : ByteArray)]) ?_ 1 _ rfl; (with_reducible repeat (first | refine blk_drewN ?_ _ | refine blk_drew ?_ | refine blk_alloc ?_ _)); refine blk_put (cs := #[.string (⟨#[]⟩ : ByteArray), .string (⟨#[]⟩ : ByteArray)]) ?_ 0 _ rfl; (with_reducible repeat (first | refine blk_drewN ?_ _ | refine blk_drew ?_ | refine blk_alloc ?_ _)); exact BK837.out) Try.underlying32 rfl (by kernel_rfl)) rfl ?_
    exact ⟨by first | rfl | (simp [errW_none, errW_some] <;> rfl) | (simp [*, errW_none, errW_some] <;> rfl), by repeat (first | (with_reducible first | exact HB.out | apply below_alloc | apply pw_below_drewN | apply below_drew1 | refine below_set ?_ GE836.out | refine below_set ?_ GE837.out) | exact HB.out)⟩

end Go.Proofs.Ytohfimjpfnnpgaa.F
