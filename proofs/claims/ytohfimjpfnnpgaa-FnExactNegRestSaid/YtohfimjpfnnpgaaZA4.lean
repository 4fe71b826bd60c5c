-- Made for this seat by a program of this session (wip/fork, wip/slim.py). Lean checks it.
import Derived.Test.YtohfimjpfnnpgaaFx0
import Derived.Test.YtohfimjpfnnpgaaZA0
import Derived.Test.YtohfimjpfnnpgaaZA1
import Derived.Test.YtohfimjpfnnpgaaZA2
import Derived.Test.YtohfimjpfnnpgaaZA3
namespace Go.Proofs.Ytohfimjpfnnpgaa.F
open Go.RowKit Go.Proofs.YtohfimjpfnnpgaaW.PrintWords Go.Proofs.YtohfimjpfnnpgaaW.PrintLast Go.Proofs.YtohfimjpfnnpgaaW.PrintMore
attribute [local go_sem] max2_int min2_int max_two min_two max_three min_three max_four min_four   -- for this text's walks alone
set_option linter.unusedVariables false
set_option linter.unusedSimpArgs false

/-! ### impl_SubRest: function 21 -/
def impl_SubRest.f (k : Nat) (a0 : ByteArray) (a1 : ByteArray) (a2 : ByteArray) : Option (ByteArray) := (impl_modulus.f k a2 (([a0, a1] : List ByteArray))).bind fun bt662 => (if bt662.2 = true then ((impl_natOf.f k a0).bind fun t666 => ((impl_natOf.f k a1).bind fun t669 => ((impl_prime_sub.f k bt662.1 t666 t669).bind fun t672 => ((impl_nat_text.f k t672).bind fun t675 => (some t675))))) else (some (⟨#[]⟩ : ByteArray)))
set_option maxHeartbeats 8000000 in
set_option maxRecDepth 100000 in
theorem impl_SubRest.calls (k : Nat) (a0 : ByteArray) (a1 : ByteArray) (a2 : ByteArray) (r : ByteArray) (w : World) (h : impl_SubRest.f k a0 a1 a2 = some r) :
    Calls Try.prog 21 #[.string a0, .string a1, .string a2] w fun e w' => e = .returned (.string r) ∧ Below w.heap.size w w' := by
  have HB := Aside0.mk (Below.refl w.heap.size w)
  have H : ((impl_modulus.f k a2 (([a0, a1] : List ByteArray))).bind fun bt662 => (if bt662.2 = true then ((impl_natOf.f k a0).bind fun t666 => ((impl_natOf.f k a1).bind fun t669 => ((impl_prime_sub.f k bt662.1 t666 t669).bind fun t672 => ((impl_nat_text.f k t672).bind fun t675 => (some t675))))) else (some (⟨#[]⟩ : ByteArray)))) = some r := h
  clear h
  obtain ⟨y659, hy659⟩ : ∃ y_ : List ByteArray, y_ = (([a0, a1] : List ByteArray)) := ⟨_, rfl⟩
  replace H : ((impl_modulus.f k a2 y659).bind fun bt662 => (if bt662.2 = true then ((impl_natOf.f k a0).bind fun t666 => ((impl_natOf.f k a1).bind fun t669 => ((impl_prime_sub.f k bt662.1 t666 t669).bind fun t672 => ((impl_nat_text.f k t672).bind fun t675 => (some t675))))) else (some (⟨#[]⟩ : ByteArray)))) = some r := by first | (rw [hy659]; with_reducible exact H) | (have H2_ := (Option.bind_some _ _).symm.trans H; rw [hy659]; with_reducible exact H2_) | (have H2_ := (Option.bind_some _ _).symm.trans H; with_reducible exact H2_) | with_reducible exact H | (rw [hy659]; exact H) | exact H
  have Ny659 := Aside0.mk hy659
  clear hy659
  replace H := Option.bind_eq_some_iff.mp H
  obtain ⟨⟨t662, t665⟩, A40, H⟩ := H
  replace H : (if t665 = true then ((impl_natOf.f k a0).bind fun t666 => ((impl_natOf.f k a1).bind fun t669 => ((impl_prime_sub.f k t662 t666 t669).bind fun t672 => ((impl_nat_text.f k t672).bind fun t675 => (some t675))))) else (some (⟨#[]⟩ : ByteArray))) = some r := H
  have A4 := Aside0.mk A40
  clear A40
  by_cases c5 : t665 = true
  · subst c5
    have H1 : ((impl_natOf.f k a0).bind fun t666 => ((impl_natOf.f k a1).bind fun t669 => ((impl_prime_sub.f k t662 t666 t669).bind fun t672 => ((impl_nat_text.f k t672).bind fun t675 => (some t675))))) = some r := by rw [if_pos rfl] at H; exact H
    clear H
    have H := H1
    clear H1
    replace H := Option.bind_eq_some_iff.mp H
    obtain ⟨t666, A60, H⟩ := H
    have A6 := Aside0.mk A60
    clear A60
    replace H := Option.bind_eq_some_iff.mp H
    obtain ⟨t669, A70, H⟩ := H
    have A7 := Aside0.mk A70
    clear A70
    replace H := Option.bind_eq_some_iff.mp H
    obtain ⟨t672, A80, H⟩ := H
    have A8 := Aside0.mk A80
    clear A80
    replace H := Option.bind_eq_some_iff.mp H
    obtain ⟨t675, A90, H⟩ := H
    have A9 := Aside0.mk A90
    clear A90
    obtain rfl := Option.some.inj H
    go_enter Try.func21, Try.ntmps21
    go_wp2_with (first | ((with_reducible refine gate_dst (N := 13) rfl ?_); refine Kd.R_lit Kd.string _ 9 ?hg (N := 13) ?hd (xs := ([a0, a1] : List ByteArray)) (inner := [.string a0, .string a1]) (ok := fun _ => True) (okp := fun _ => True) ?hr ?hp (fun _ hk => hk) trivial (Below.refl _ _) (Nat.le_refl _) (by simp) ?_; (case hd => rfl); (case hg => rfl); (case hr => first | (go_simp; done) | (go_simp; rfl)); (case hp => exact (Reps.one (show Kd.M Kd.string _ _ _ a0 [.string a0] from rfl) (Reps.one (show Kd.M Kd.string _ _ _ a1 [.string a1] from rfl) (Reps.none _ _)))); intro v660 w10 ho11 hb hg_ hnew_; clear hg_ hnew_; (first | rw [← Ny659.out] at ho11 | (simp only [Int.reduceToNat] at ho11; rw [← Ny659.out] at ho11)); have HO661 := Aside0.mk (Kd.R_lower ho11 (below_size (pB_ HB.out))); replace HB := Aside0.mk (below_step (pB_ HB.out) hb); clear hb ho11; obtain ⟨Ao12, co12, eo12⟩ := Kd.R_slice HO661.out; subst eo12) | ((with_reducible refine gate_callee (f := 50) rfl ?_); refine gL_ 14 Try.func50 rfl #[.string a2, .slice Ao12 y659.length co12] ?_; (with_reducible refine (impl_modulus.calls k a2 _ _ y659 t662 true _ ?side1 ?side2 A4.out).mono ?_); (case side1 => exact pC_ (Kd.R_reads' HO661.out).2.2); (case side2 => exact (Kd.R_reads' HO661.out).2.1); rintro e w13 ⟨v663, rfl, ho0, hb⟩; refine ⟨_, rfl, ?_⟩; have HO664 := Aside0.mk (Kd.V_lower (Kd.V_mono (ok' := fun k_ => some k_ ≠ (.slice Ao12 y659.length co12 : Value).ownBlock) ho0 (fun k_ hk_ => (Kd.fresh' (Kd.R_lt (pR_ HO661.out)) k_ hk_))) (below_size (pB_ HB.out))); replace HO661 := Aside0.mk (Kd.R_below (pR_ HO661.out) hb); replace HB := Aside0.mk (below_step (pB_ HB.out) hb); clear hb ho0) | ((with_reducible refine gate_callee (f := 52) rfl ?_); refine gL_ 21 Try.func52 rfl #[.string a0] ?_; (with_reducible refine (impl_natOf.calls k a0 t666 _ A6.out).mono ?_); rintro e w14 ⟨v667, rfl, ho0, hb⟩; refine ⟨_, rfl, ?_⟩; replace HO664 := Aside0.mk (Kd.V_below (pV_ HO664.out) hb); have HO668 := Aside0.mk (Kd.V_lower (Kd.V_mono (ok' := fun k_ => some k_ ≠ (.slice Ao12 y659.length co12 : Value).ownBlock) ho0 (fun k_ hk_ => (Kd.fresh' (Kd.R_lt (pR_ HO661.out)) k_ hk_))) (below_size (pB_ HB.out))); replace HO661 := Aside0.mk (Kd.R_below (pR_ HO661.out) hb); replace HB := Aside0.mk (below_step (pB_ HB.out) hb); clear hb ho0) | ((with_reducible refine gate_callee (f := 52) rfl ?_); refine gL_ 23 Try.func52 rfl #[.string a1] ?_; (with_reducible refine (impl_natOf.calls k a1 t669 _ A7.out).mono ?_); rintro e w15 ⟨v670, rfl, ho0, hb⟩; refine ⟨_, rfl, ?_⟩; replace HO664 := Aside0.mk (Kd.V_below (pV_ HO664.out) hb); replace HO668 := Aside0.mk (Kd.V_below (pV_ HO668.out) hb); have HO671 := Aside0.mk (Kd.V_lower (Kd.V_mono (ok' := fun k_ => some k_ ≠ (.slice Ao12 y659.length co12 : Value).ownBlock) ho0 (fun k_ hk_ => (Kd.fresh' (Kd.R_lt (pR_ HO661.out)) k_ hk_))) (below_size (pB_ HB.out))); replace HO661 := Aside0.mk (Kd.R_below (pR_ HO661.out) hb); replace HB := Aside0.mk (below_step (pB_ HB.out) hb); clear hb ho0; obtain ⟨Ao16, co16, eo16⟩ := Kd.V_slice HO664.out; subst eo16; obtain ⟨Ao17, co17, eo17⟩ := Kd.V_slice HO668.out; subst eo17; obtain ⟨Ao18, co18, eo18⟩ := Kd.V_slice HO671.out; subst eo18) | ((with_reducible refine gate_callee (f := 63) rfl ?_); refine gL_ 24 Try.func63 rfl #[.slice Ao16 t662.length co16, .slice Ao17 t666.length co17, .slice Ao18 t669.length co18] ?_; (with_reducible refine (impl_prime_sub.calls k (fun k_ => some k_ ≠ (.slice Ao12 y659.length co12 : Value).ownBlock) _ _ t662 (fun k_ => some k_ ≠ (.slice Ao12 y659.length co12 : Value).ownBlock) _ _ t666 _ _ t669 t672 _ ?side1 ?side2 ?side3 ?side4 A8.out).mono ?_); (case side1 => exact HO664.out); (case side2 => exact HO668.out); (case side3 => exact pC_ (Kd.V_reads' HO671.out).2.2); (case side4 => exact (Kd.V_reads' HO671.out).2.1); rintro e w19 ⟨v673, rfl, ho0, hb⟩; refine ⟨_, rfl, ?_⟩; replace HO664 := Aside0.mk (Kd.V_below (pV_ HO664.out) hb); replace HO668 := Aside0.mk (Kd.V_below (pV_ HO668.out) hb); replace HO671 := Aside0.mk (Kd.V_below (pV_ HO671.out) hb); have HO674 := Aside0.mk (Kd.V_lower (Kd.V_mono (ok' := fun k_ => some k_ ≠ (.slice Ao12 y659.length co12 : Value).ownBlock) ho0 (fun k_ hk_ => Or.elim hk_ (fun hs_ => Or.elim hs_ (fun hs_ => hs_) (fun hs_ => hs_)) (fun hn_ => (Kd.fresh' (Kd.R_lt (pR_ HO661.out)) k_ hn_)))) (below_size (pB_ HB.out))); replace HO661 := Aside0.mk (Kd.R_below (pR_ HO661.out) hb); replace HB := Aside0.mk (below_step (pB_ HB.out) hb); clear hb ho0; obtain ⟨Ao20, co20, eo20⟩ := Kd.V_slice HO674.out; subst eo20) | ((with_reducible refine gate_callee (f := 64) rfl ?_); refine gL_ 25 Try.func64 rfl #[.slice Ao20 t672.length co20] ?_; (with_reducible refine (impl_nat_text.calls k _ _ t672 t675 _ ?side1 ?side2 A9.out).mono ?_); (case side1 => exact pC_ (Kd.V_reads' HO674.out).2.2); (case side2 => exact (Kd.V_reads' HO674.out).2.1); rintro e w21 ⟨rfl, hb⟩; refine ⟨_, rfl, ?_⟩; replace HO661 := Aside0.mk (Kd.R_below (pR_ HO661.out) hb); replace HO664 := Aside0.mk (Kd.V_below (pV_ HO664.out) hb); replace HO668 := Aside0.mk (Kd.V_below (pV_ HO668.out) hb); replace HO671 := Aside0.mk (Kd.V_below (pV_ HO671.out) hb); replace HO674 := Aside0.mk (Kd.V_below (pV_ HO674.out) hb); replace HB := Aside0.mk (below_step (pB_ HB.out) hb); clear hb))
    go_ret
    exact ⟨by first | rfl | (simp [errW_none, errW_some] <;> rfl) | (simp [*, errW_none, errW_some] <;> rfl), pB_ HB.out⟩
  · replace c5 := Bool.eq_false_iff.mpr c5
    subst c5
    have H1 : (some (⟨#[]⟩ : ByteArray)) = some r := by rw [if_neg (show ¬ (false = true) by decide)] at H; exact H
    clear H
    have H := H1
    clear H1
    obtain rfl := Option.some.inj H
    go_enter Try.func21, Try.ntmps21
    go_wp2_with (first | ((with_reducible refine gate_dst (N := 13) rfl ?_); refine Kd.R_lit Kd.string _ 9 ?hg (N := 13) ?hd (xs := ([a0, a1] : List ByteArray)) (inner := [.string a0, .string a1]) (ok := fun _ => True) (okp := fun _ => True) ?hr ?hp (fun _ hk => hk) trivial (Below.refl _ _) (Nat.le_refl _) (by simp) ?_; (case hd => rfl); (case hg => rfl); (case hr => first | (go_simp; done) | (go_simp; rfl)); (case hp => exact (Reps.one (show Kd.M Kd.string _ _ _ a0 [.string a0] from rfl) (Reps.one (show Kd.M Kd.string _ _ _ a1 [.string a1] from rfl) (Reps.none _ _)))); intro v660 w22 ho23 hb hg_ hnew_; clear hg_ hnew_; (first | rw [← Ny659.out] at ho23 | (simp only [Int.reduceToNat] at ho23; rw [← Ny659.out] at ho23)); have HO661 := Aside0.mk (Kd.R_lower ho23 (below_size (pB_ HB.out))); replace HB := Aside0.mk (below_step (pB_ HB.out) hb); clear hb ho23; obtain ⟨Ao24, co24, eo24⟩ := Kd.R_slice HO661.out; subst eo24) | ((with_reducible refine gate_callee (f := 50) rfl ?_); refine gL_ 14 Try.func50 rfl #[.string a2, .slice Ao24 y659.length co24] ?_; (with_reducible refine (impl_modulus.calls k a2 _ _ y659 t662 false _ ?side1 ?side2 A4.out).mono ?_); (case side1 => exact pC_ (Kd.R_reads' HO661.out).2.2); (case side2 => exact (Kd.R_reads' HO661.out).2.1); rintro e w25 ⟨v663, rfl, ho0, hb⟩; refine ⟨_, rfl, ?_⟩; have HO664 := Aside0.mk (Kd.V_lower (Kd.V_mono (ok' := fun k_ => some k_ ≠ (.slice Ao24 y659.length co24 : Value).ownBlock) ho0 (fun k_ hk_ => (Kd.fresh' (Kd.R_lt (pR_ HO661.out)) k_ hk_))) (below_size (pB_ HB.out))); replace HO661 := Aside0.mk (Kd.R_below (pR_ HO661.out) hb); replace HB := Aside0.mk (below_step (pB_ HB.out) hb); clear hb ho0))
    go_ret
    exact ⟨by first | rfl | (simp [errW_none, errW_some] <;> rfl) | (simp [*, errW_none, errW_some] <;> rfl), pB_ HB.out⟩

/-! ### laws_FnExactSubRest: function 6 -/
def laws_FnExactSubRest.f (k : Nat) (a0 : ByteArray) (a1 : ByteArray) (a2 : ByteArray) : Option (Bool) := if (a0.size : Int) > 1048576 then (some true) else (if (a1.size : Int) > 1048576 then (some true) else (if (a2.size : Int) > 1048576 then (some true) else ((spec_SubRest.f k a0 a1 a2).bind fun t676 => ((impl_SubRest.f k a0 a1 a2).bind fun t677 => (if t677.toList = t676.toList then (some true) else (some false))))))
set_option maxHeartbeats 8000000 in
set_option maxRecDepth 100000 in
theorem laws_FnExactSubRest.calls (k : Nat) (a0 : ByteArray) (a1 : ByteArray) (a2 : ByteArray) (r : Bool) (w : World) (h : laws_FnExactSubRest.f k a0 a1 a2 = some r) :
    Calls Try.prog 6 #[.string a0, .string a1, .string a2] w fun e w' => e = .returned (.bool r) ∧ Below w.heap.size w w' := by
  have HB := Aside0.mk (Below.refl w.heap.size w)
  have H : (if (a0.size : Int) > 1048576 then (some true) else (if (a1.size : Int) > 1048576 then (some true) else (if (a2.size : Int) > 1048576 then (some true) else ((spec_SubRest.f k a0 a1 a2).bind fun t676 => ((impl_SubRest.f k a0 a1 a2).bind fun t677 => (if t677.toList = t676.toList then (some true) else (some false))))))) = some r := h
  clear h
  by_cases c4 : (a0.size : Int) > 1048576
  · rw [if_pos c4] at H
    have c4b0 : decide (1048576 < (a0.size : Int)) = true := decide_eq_true c4
    have c4b1 : decide (1048576 < a0.size) = true := decide_eq_true (by omega)
    clear c4
    obtain rfl := Option.some.inj H
    go_enter Try.func6, Try.ntmps6
    go_wp2
    go_ret
    exact ⟨by first | rfl | (simp [errW_none, errW_some] <;> rfl) | (simp [*, errW_none, errW_some] <;> rfl), pB_ HB.out⟩
  rw [if_neg c4] at H
  have c4b0 : decide (1048576 < (a0.size : Int)) = false := decide_eq_false c4
  have c4b1 : decide (1048576 < a0.size) = false := decide_eq_false (by omega)
  clear c4
  by_cases c5 : (a1.size : Int) > 1048576
  · rw [if_pos c5] at H
    have c5b0 : decide (1048576 < (a1.size : Int)) = true := decide_eq_true c5
    have c5b1 : decide (1048576 < a1.size) = true := decide_eq_true (by omega)
    clear c5
    obtain rfl := Option.some.inj H
    go_enter Try.func6, Try.ntmps6
    go_wp2
    go_ret
    exact ⟨by first | rfl | (simp [errW_none, errW_some] <;> rfl) | (simp [*, errW_none, errW_some] <;> rfl), pB_ HB.out⟩
  rw [if_neg c5] at H
  have c5b0 : decide (1048576 < (a1.size : Int)) = false := decide_eq_false c5
  have c5b1 : decide (1048576 < a1.size) = false := decide_eq_false (by omega)
  clear c5
  by_cases c6 : (a2.size : Int) > 1048576
  · rw [if_pos c6] at H
    have c6b0 : decide (1048576 < (a2.size : Int)) = true := decide_eq_true c6
    have c6b1 : decide (1048576 < a2.size) = true := decide_eq_true (by omega)
    clear c6
    obtain rfl := Option.some.inj H
    go_enter Try.func6, Try.ntmps6
    go_wp2
    go_ret
    exact ⟨by first | rfl | (simp [errW_none, errW_some] <;> rfl) | (simp [*, errW_none, errW_some] <;> rfl), pB_ HB.out⟩
  rw [if_neg c6] at H
  have c6b0 : decide (1048576 < (a2.size : Int)) = false := decide_eq_false c6
  have c6b1 : decide (1048576 < a2.size) = false := decide_eq_false (by omega)
  clear c6
  replace H := Option.bind_eq_some_iff.mp H
  obtain ⟨t676, A70, H⟩ := H
  have A7 := Aside0.mk A70
  clear A70
  replace H := Option.bind_eq_some_iff.mp H
  obtain ⟨t677, A80, H⟩ := H
  have A8 := Aside0.mk A80
  clear A80
  by_cases c9 : t677.toList = t676.toList
  rotate_left
  · rw [if_neg c9] at H
    have c9b0 : (t677.toList == t676.toList) = false := beq_eq_false_iff_ne.mpr c9
    have c9b1 : (t677.toList != t676.toList) = true := bne_iff_ne.mpr c9
    obtain rfl := Option.some.inj H
    go_enter Try.func6, Try.ntmps6
    go_wp2_with (first | ((with_reducible refine gate_callee (f := 20) rfl ?_); refine gL_ 21 Try.func20 rfl #[.string a0, .string a1, .string a2] ?_; (with_reducible refine (spec_SubRest.calls k a0 a1 a2 t676 _ A7.out).mono ?_); rintro e w12 ⟨rfl, hb⟩; refine ⟨_, rfl, ?_⟩; replace HB := Aside0.mk (below_step (pB_ HB.out) hb); clear hb) | ((with_reducible refine gate_callee (f := 21) rfl ?_); refine gL_ 25 Try.func21 rfl #[.string a0, .string a1, .string a2] ?_; (with_reducible refine (impl_SubRest.calls k a0 a1 a2 t677 _ A8.out).mono ?_); rintro e w13 ⟨rfl, hb⟩; refine ⟨_, rfl, ?_⟩; replace HB := Aside0.mk (below_step (pB_ HB.out) hb); clear hb))
    go_ret
    exact ⟨by first | rfl | (simp [errW_none, errW_some] <;> rfl) | (simp [*, errW_none, errW_some] <;> rfl), pB_ HB.out⟩

  rw [if_pos c9] at H
  have c9b0 : (t677.toList == t676.toList) = true := beq_iff_eq.mpr c9
  have c9b1 : (t677.toList != t676.toList) = false := bne_eq_false_iff_eq.mpr c9
  clear c9
  obtain rfl := Option.some.inj H
  go_enter Try.func6, Try.ntmps6
  go_wp2_with (first | ((with_reducible refine gate_callee (f := 20) rfl ?_); refine gL_ 21 Try.func20 rfl #[.string a0, .string a1, .string a2] ?_; (with_reducible refine (spec_SubRest.calls k a0 a1 a2 t676 _ A7.out).mono ?_); rintro e w10 ⟨rfl, hb⟩; refine ⟨_, rfl, ?_⟩; replace HB := Aside0.mk (below_step (pB_ HB.out) hb); clear hb) | ((with_reducible refine gate_callee (f := 21) rfl ?_); refine gL_ 25 Try.func21 rfl #[.string a0, .string a1, .string a2] ?_; (with_reducible refine (impl_SubRest.calls k a0 a1 a2 t677 _ A8.out).mono ?_); rintro e w11 ⟨rfl, hb⟩; refine ⟨_, rfl, ?_⟩; replace HB := Aside0.mk (below_step (pB_ HB.out) hb); clear hb))
  go_ret
  exact ⟨by first | rfl | (simp [errW_none, errW_some] <;> rfl) | (simp [*, errW_none, errW_some] <;> rfl), pB_ HB.out⟩
/-- THE ONE PURE STATEMENT of laws_FnExactSubRest: yours. -/
def laws_FnExactSubRest.Pure : Prop := ∀ (a0 : ByteArray) (a1 : ByteArray) (a2 : ByteArray), a0.size ≤ 140737488351232 → a1.size ≤ 140737488351232 → a2.size ≤ 140737488351232 → ∃ k, laws_FnExactSubRest.f k a0 a1 a2 = some true
theorem laws_FnExactSubRest.walk (P : laws_FnExactSubRest.Pure) (a0 : ByteArray) (a1 : ByteArray) (a2 : ByteArray) (w : World) (w0 : a0.size ≤ 140737488351232) (w1 : a1.size ≤ 140737488351232) (w2 : a2.size ≤ 140737488351232) :
    Calls Try.prog 6 #[.string a0, .string a1, .string a2] w fun e w' => e = .returned (.bool true) ∧ Below w.heap.size w w' := by
  obtain ⟨k, h⟩ := P a0 a1 a2 w0 w1 w2
  refine (laws_FnExactSubRest.calls k a0 a1 a2 true w h).mono ?_
  rintro e w' ⟨rfl, hd⟩
  exact ⟨rfl, hd⟩

/-! ### spec_l04Add: function 68 -/
def spec_l04Add.f (k : Nat) (l0 : List Int) (l1 : List Int) (l2 : List Int) : Option (List Int) := (spec_l02Add.f k l0 l1).bind fun t731 => ((spec_l02Cmp.f k t731 l2).bind fun t734 => (if t734 ≥ 0 then ((spec_l02Sub.f k t731 l2).bind fun t735 => (some t735)) else (some t731)))
set_option maxHeartbeats 8000000 in
set_option maxRecDepth 100000 in
theorem spec_l04Add.calls (k : Nat) (A0 : Option Addr) (c0 : Nat) (l0 : List Int) (A1 : Option Addr) (c1 : Nat) (l1 : List Int) (A2 : Option Addr) (c2 : Nat) (l2 : List Int) (r : List Int) (w : World) (hr0 : Kd.C (Kd.int .i64) w A0 l0.length l0) (hc0 : l0.length ≤ c0) (hr1 : Kd.C (Kd.int .i64) w A1 l1.length l1) (hc1 : l1.length ≤ c1) (hr2 : Kd.C (Kd.int .i64) w A2 l2.length l2) (hc2 : l2.length ≤ c2) (h : spec_l04Add.f k l0 l1 l2 = some r) :
    Calls Try.prog 68 #[.slice A0 l0.length c0, .slice A1 l1.length c1, .slice A2 l2.length c2] w fun e w' => ∃ v0_ : Value, e = .returned (v0_) ∧ Kd.V (Kd.int .i64) 3 w' w.heap.size (fun k_ => (w.heap.size ≤ k_)) v0_ r ∧ Below w.heap.size w w' := by
  have HR0 := Aside0.mk hr0
  have HC0 := Aside0.mk hc0
  clear hr0 hc0
  have HR1 := Aside0.mk hr1
  have HC1 := Aside0.mk hc1
  clear hr1 hc1
  have HR2 := Aside0.mk hr2
  have HC2 := Aside0.mk hc2
  clear hr2 hc2
  have HB := Aside0.mk (Below.refl w.heap.size w)
  have H : ((spec_l02Add.f k l0 l1).bind fun t731 => ((spec_l02Cmp.f k t731 l2).bind fun t734 => (if t734 ≥ 0 then ((spec_l02Sub.f k t731 l2).bind fun t735 => (some t735)) else (some t731)))) = some r := h
  clear h
  replace H := Option.bind_eq_some_iff.mp H
  obtain ⟨t731, A40, H⟩ := H
  have A4 := Aside0.mk A40
  clear A40
  replace H := Option.bind_eq_some_iff.mp H
  obtain ⟨t734, A50, H⟩ := H
  have A5 := Aside0.mk A50
  clear A50
  by_cases c6 : t734 ≥ 0
  rotate_left
  · rw [if_neg c6] at H
    have c6b0 : decide (0 ≤ t734) = false := decide_eq_false c6
    clear c6
    obtain rfl := Option.some.inj H
    go_enter Try.func68, Try.ntmps68
    go_wp2_with (first | ((with_reducible refine gate_callee (f := 93) rfl ?_); refine gL_ 10 Try.func93 rfl #[.slice A0 l0.length c0, .slice A1 l1.length c1] ?_; (with_reducible refine (spec_l02Add.calls k _ _ l0 _ _ l1 t731 _ ?side1 ?side2 ?side3 ?side4 A4.out).mono ?_); (case side1 => exact pC_ HR0.out); (case side2 => exact HC0.out); (case side3 => exact pC_ HR1.out); (case side4 => exact HC1.out); rintro e w11 ⟨v732, rfl, ho0, hb⟩; refine ⟨_, rfl, ?_⟩; have HO733 := Aside0.mk (Kd.R_lower (Kd.R_newM (M := fun k_ => (w.heap.size ≤ k_)) ho0 (below_size (pB_ HB.out)) (fun k_ h_ => h_)) (below_size (pB_ HB.out))); replace HB := Aside0.mk (below_step (pB_ HB.out) hb); clear hb ho0; obtain ⟨Ao12, co12, eo12⟩ := Kd.R_slice HO733.out; subst eo12) | ((with_reducible refine gate_callee (f := 88) rfl ?_); refine gL_ 13 Try.func88 rfl #[.slice Ao12 t731.length co12, .slice A2 l2.length c2] ?_; (with_reducible refine (spec_l02Cmp.calls k _ _ t731 _ _ l2 t734 _ ?side1 ?side2 ?side3 ?side4 A5.out).mono ?_); (case side1 => exact pC_ (Kd.R_reads' HO733.out).2.2); (case side2 => exact (Kd.R_reads' HO733.out).2.1); (case side3 => exact pC_ (Kd.C_below HR2.out HB.out)); (case side4 => exact HC2.out); rintro e w' ⟨rfl, ⟨nd, rfl⟩⟩; refine ⟨_, rfl, ?_⟩))
    go_ret
    exact ⟨_, by first | rfl | (simp [errW_none, errW_some] <;> rfl) | (simp [*, errW_none, errW_some] <;> rfl), Kd.R_V (pR_ (Kd.R_mono HO733.out (fun _ hk => hk.1))), pB_ HB.out⟩

  rw [if_pos c6] at H
  have c6b0 : decide (0 ≤ t734) = true := decide_eq_true c6
  clear c6
  replace H := Option.bind_eq_some_iff.mp H
  obtain ⟨t735, A70, H⟩ := H
  have A7 := Aside0.mk A70
  clear A70
  obtain rfl := Option.some.inj H
  go_enter Try.func68, Try.ntmps68
  go_wp2_with (first | ((with_reducible refine gate_callee (f := 93) rfl ?_); refine gL_ 10 Try.func93 rfl #[.slice A0 l0.length c0, .slice A1 l1.length c1] ?_; (with_reducible refine (spec_l02Add.calls k _ _ l0 _ _ l1 t731 _ ?side1 ?side2 ?side3 ?side4 A4.out).mono ?_); (case side1 => exact pC_ HR0.out); (case side2 => exact HC0.out); (case side3 => exact pC_ HR1.out); (case side4 => exact HC1.out); rintro e w8 ⟨v732, rfl, ho0, hb⟩; refine ⟨_, rfl, ?_⟩; have HO733 := Aside0.mk (Kd.R_lower (Kd.R_newM (M := fun k_ => (w.heap.size ≤ k_)) ho0 (below_size (pB_ HB.out)) (fun k_ h_ => h_)) (below_size (pB_ HB.out))); replace HB := Aside0.mk (below_step (pB_ HB.out) hb); clear hb ho0; obtain ⟨Ao9, co9, eo9⟩ := Kd.R_slice HO733.out; subst eo9) | ((with_reducible refine gate_callee (f := 88) rfl ?_); refine gL_ 13 Try.func88 rfl #[.slice Ao9 t731.length co9, .slice A2 l2.length c2] ?_; (with_reducible refine (spec_l02Cmp.calls k _ _ t731 _ _ l2 t734 _ ?side1 ?side2 ?side3 ?side4 A5.out).mono ?_); (case side1 => exact pC_ (Kd.R_reads' HO733.out).2.2); (case side2 => exact (Kd.R_reads' HO733.out).2.1); (case side3 => exact pC_ (Kd.C_below HR2.out HB.out)); (case side4 => exact HC2.out); rintro e w' ⟨rfl, ⟨nd, rfl⟩⟩; refine ⟨_, rfl, ?_⟩) | ((with_reducible refine gate_callee (f := 75) rfl ?_); refine gL_ 17 Try.func75 rfl #[.slice Ao9 t731.length co9, .slice A2 l2.length c2] ?_; (with_reducible refine (spec_l02Sub.calls k _ _ t731 _ _ l2 t735 _ ?side1 ?side2 ?side3 ?side4 A7.out).mono ?_); (case side1 => exact pC_ (Kd.R_reads' HO733.out).2.2); (case side2 => exact (Kd.R_reads' HO733.out).2.1); (case side3 => exact pC_ (Kd.C_below HR2.out (pB_ HB.out))); (case side4 => exact HC2.out); rintro e w10 ⟨v736, rfl, ho0, hb⟩; refine ⟨_, rfl, ?_⟩; have HO737 := Aside0.mk (Kd.V_lower (Kd.V_mono (ok' := fun k_ => (w.heap.size ≤ k_) ∧ some k_ ≠ (.slice Ao9 t731.length co9 : Value).ownBlock) ho0 (fun k_ hk_ => ⟨(Nat.le_trans (below_size (pB_ HB.out)) hk_), (Kd.fresh' (Kd.R_lt (pR_ HO733.out)) k_ hk_)⟩)) (below_size (pB_ HB.out))); replace HO733 := Aside0.mk (Kd.R_below (pR_ HO733.out) hb); replace HB := Aside0.mk (below_step (pB_ HB.out) hb); clear hb ho0))
  go_ret
  exact ⟨_, by first | rfl | (simp [errW_none, errW_some] <;> rfl) | (simp [*, errW_none, errW_some] <;> rfl), by (with_reducible repeat (first | apply Kd.V_alloc | apply Kd.V_drewN | apply Kd.V_drew)); exact Kd.V_mono HO737.out (fun _ hk => hk.1), pB_ HB.out⟩

/-! ### spec_AddRest: function 24 -/
def spec_AddRest.f (k : Nat) (a0 : ByteArray) (a1 : ByteArray) (a2 : ByteArray) : Option (ByteArray) := (spec_l04Two.f k a0 a1 a2).bind fun t738 => (if t738 = true then ((spec_l02In.f k a0).bind fun t739 => ((spec_l02In.f k a1).bind fun t742 => ((spec_l02In.f k a2).bind fun t745 => ((spec_l04Add.f k t739 t742 t745).bind fun t748 => ((spec_l02Out.f k t748).bind fun t751 => (some t751)))))) else (some (⟨#[]⟩ : ByteArray)))
set_option maxHeartbeats 8000000 in
set_option maxRecDepth 100000 in
theorem spec_AddRest.calls (k : Nat) (a0 : ByteArray) (a1 : ByteArray) (a2 : ByteArray) (r : ByteArray) (w : World) (h : spec_AddRest.f k a0 a1 a2 = some r) :
    Calls Try.prog 24 #[.string a0, .string a1, .string a2] w fun e w' => e = .returned (.string r) ∧ Below w.heap.size w w' := by
  have HB := Aside0.mk (Below.refl w.heap.size w)
  have H : ((spec_l04Two.f k a0 a1 a2).bind fun t738 => (if t738 = true then ((spec_l02In.f k a0).bind fun t739 => ((spec_l02In.f k a1).bind fun t742 => ((spec_l02In.f k a2).bind fun t745 => ((spec_l04Add.f k t739 t742 t745).bind fun t748 => ((spec_l02Out.f k t748).bind fun t751 => (some t751)))))) else (some (⟨#[]⟩ : ByteArray)))) = some r := h
  clear h
  replace H := Option.bind_eq_some_iff.mp H
  obtain ⟨t738, A40, H⟩ := H
  have A4 := Aside0.mk A40
  clear A40
  by_cases c5 : t738 = true
  · subst c5
    have H1 : ((spec_l02In.f k a0).bind fun t739 => ((spec_l02In.f k a1).bind fun t742 => ((spec_l02In.f k a2).bind fun t745 => ((spec_l04Add.f k t739 t742 t745).bind fun t748 => ((spec_l02Out.f k t748).bind fun t751 => (some t751)))))) = some r := by rw [if_pos rfl] at H; exact H
    clear H
    have H := H1
    clear H1
    replace H := Option.bind_eq_some_iff.mp H
    obtain ⟨t739, A60, H⟩ := H
    have A6 := Aside0.mk A60
    clear A60
    replace H := Option.bind_eq_some_iff.mp H
    obtain ⟨t742, A70, H⟩ := H
    have A7 := Aside0.mk A70
    clear A70
    replace H := Option.bind_eq_some_iff.mp H
    obtain ⟨t745, A80, H⟩ := H
    have A8 := Aside0.mk A80
    clear A80
    replace H := Option.bind_eq_some_iff.mp H
    obtain ⟨t748, A90, H⟩ := H
    have A9 := Aside0.mk A90
    clear A90
    replace H := Option.bind_eq_some_iff.mp H
    obtain ⟨t751, A100, H⟩ := H
    have A10 := Aside0.mk A100
    clear A100
    obtain rfl := Option.some.inj H
    go_enter Try.func24, Try.ntmps24
    go_wp2_with (first | ((with_reducible refine gate_callee (f := 59) rfl ?_); refine gL_ 10 Try.func59 rfl #[.string a0, .string a1, .string a2] ?_; (with_reducible refine (spec_l04Two.calls k a0 a1 a2 true _ A4.out).mono ?_); rintro e w11 ⟨rfl, hb⟩; refine ⟨_, rfl, ?_⟩; replace HB := Aside0.mk (below_step (pB_ HB.out) hb); clear hb) | ((with_reducible refine gate_callee (f := 62) rfl ?_); refine gL_ 13 Try.func62 rfl #[.string a0] ?_; (with_reducible refine (spec_l02In.calls k a0 t739 _ A6.out).mono ?_); rintro e w12 ⟨v740, rfl, ho0, hb⟩; refine ⟨_, rfl, ?_⟩; have HO741 := Aside0.mk (Kd.V_lower (Kd.V_mono (ok' := fun k_ => True) ho0 (fun k_ hk_ => trivial)) (below_size (pB_ HB.out))); replace HB := Aside0.mk (below_step (pB_ HB.out) hb); clear hb ho0) | ((with_reducible refine gate_callee (f := 62) rfl ?_); refine gL_ 15 Try.func62 rfl #[.string a1] ?_; (with_reducible refine (spec_l02In.calls k a1 t742 _ A7.out).mono ?_); rintro e w13 ⟨v743, rfl, ho0, hb⟩; refine ⟨_, rfl, ?_⟩; replace HO741 := Aside0.mk (Kd.V_below (pV_ HO741.out) hb); have HO744 := Aside0.mk (Kd.V_lower (Kd.V_mono (ok' := fun k_ => True) ho0 (fun k_ hk_ => trivial)) (below_size (pB_ HB.out))); replace HB := Aside0.mk (below_step (pB_ HB.out) hb); clear hb ho0) | ((with_reducible refine gate_callee (f := 62) rfl ?_); refine gL_ 17 Try.func62 rfl #[.string a2] ?_; (with_reducible refine (spec_l02In.calls k a2 t745 _ A8.out).mono ?_); rintro e w14 ⟨v746, rfl, ho0, hb⟩; refine ⟨_, rfl, ?_⟩; replace HO741 := Aside0.mk (Kd.V_below (pV_ HO741.out) hb); replace HO744 := Aside0.mk (Kd.V_below (pV_ HO744.out) hb); have HO747 := Aside0.mk (Kd.V_lower (Kd.V_mono (ok' := fun k_ => True) ho0 (fun k_ hk_ => trivial)) (below_size (pB_ HB.out))); replace HB := Aside0.mk (below_step (pB_ HB.out) hb); clear hb ho0; obtain ⟨Ao15, co15, eo15⟩ := Kd.V_slice HO741.out; subst eo15; obtain ⟨Ao16, co16, eo16⟩ := Kd.V_slice HO744.out; subst eo16; obtain ⟨Ao17, co17, eo17⟩ := Kd.V_slice HO747.out; subst eo17) | ((with_reducible refine gate_callee (f := 68) rfl ?_); refine gL_ 18 Try.func68 rfl #[.slice Ao15 t739.length co15, .slice Ao16 t742.length co16, .slice Ao17 t745.length co17] ?_; (with_reducible refine (spec_l04Add.calls k _ _ t739 _ _ t742 _ _ t745 t748 _ ?side1 ?side2 ?side3 ?side4 ?side5 ?side6 A9.out).mono ?_); (case side1 => exact pC_ (Kd.V_reads' HO741.out).2.2); (case side2 => exact (Kd.V_reads' HO741.out).2.1); (case side3 => exact pC_ (Kd.V_reads' HO744.out).2.2); (case side4 => exact (Kd.V_reads' HO744.out).2.1); (case side5 => exact pC_ (Kd.V_reads' HO747.out).2.2); (case side6 => exact (Kd.V_reads' HO747.out).2.1); rintro e w18 ⟨v749, rfl, ho0, hb⟩; refine ⟨_, rfl, ?_⟩; replace HO741 := Aside0.mk (Kd.V_below (pV_ HO741.out) hb); replace HO744 := Aside0.mk (Kd.V_below (pV_ HO744.out) hb); replace HO747 := Aside0.mk (Kd.V_below (pV_ HO747.out) hb); have HO750 := Aside0.mk (Kd.V_lower (Kd.V_mono (ok' := fun k_ => True) ho0 (fun k_ hk_ => trivial)) (below_size (pB_ HB.out))); replace HB := Aside0.mk (below_step (pB_ HB.out) hb); clear hb ho0; obtain ⟨Ao19, co19, eo19⟩ := Kd.V_slice HO750.out; subst eo19) | ((with_reducible refine gate_callee (f := 60) rfl ?_); refine gL_ 19 Try.func60 rfl #[.slice Ao19 t748.length co19] ?_; (with_reducible refine (spec_l02Out.calls k _ _ t748 t751 _ ?side1 ?side2 A10.out).mono ?_); (case side1 => exact pC_ (Kd.V_reads' HO750.out).2.2); (case side2 => exact (Kd.V_reads' HO750.out).2.1); rintro e w20 ⟨rfl, hb⟩; refine ⟨_, rfl, ?_⟩; replace HO741 := Aside0.mk (Kd.V_below (pV_ HO741.out) hb); replace HO744 := Aside0.mk (Kd.V_below (pV_ HO744.out) hb); replace HO747 := Aside0.mk (Kd.V_below (pV_ HO747.out) hb); replace HO750 := Aside0.mk (Kd.V_below (pV_ HO750.out) hb); replace HB := Aside0.mk (below_step (pB_ HB.out) hb); clear hb))
    go_ret
    exact ⟨by first | rfl | (simp [errW_none, errW_some] <;> rfl) | (simp [*, errW_none, errW_some] <;> rfl), pB_ HB.out⟩
  · replace c5 := Bool.eq_false_iff.mpr c5
    subst c5
    have H1 : (some (⟨#[]⟩ : ByteArray)) = some r := by rw [if_neg (show ¬ (false = true) by decide)] at H; exact H
    clear H
    have H := H1
    clear H1
    obtain rfl := Option.some.inj H
    go_enter Try.func24, Try.ntmps24
    go_wp2_with (first | ((with_reducible refine gate_callee (f := 59) rfl ?_); refine gL_ 10 Try.func59 rfl #[.string a0, .string a1, .string a2] ?_; (with_reducible refine (spec_l04Two.calls k a0 a1 a2 false _ A4.out).mono ?_); rintro e w21 ⟨rfl, hb⟩; refine ⟨_, rfl, ?_⟩; replace HB := Aside0.mk (below_step (pB_ HB.out) hb); clear hb))
    go_ret
    exact ⟨by first | rfl | (simp [errW_none, errW_some] <;> rfl) | (simp [*, errW_none, errW_some] <;> rfl), pB_ HB.out⟩

/-! ### impl_prime_add: function 69 -/
def impl_prime_add.f (k : Nat) (l0 : List Int) (l1 : List Int) (l2 : List Int) : Option (List Int) := (impl_nat_plus.f k l1 l2).bind fun t752 => ((impl_nat_cmp.f k t752 l0).bind fun t755 => (if t755 ≥ 0 then ((impl_nat_less.f k t752 l0).bind fun t756 => (some t756)) else (some t752)))
set_option maxHeartbeats 8000000 in
set_option maxRecDepth 100000 in
theorem impl_prime_add.calls (k : Nat) (A0 : Option Addr) (c0 : Nat) (l0 : List Int) (P1_ : Nat → Prop) (A1 : Option Addr) (c1 : Nat) (l1 : List Int) (P2_ : Nat → Prop) (A2 : Option Addr) (c2 : Nat) (l2 : List Int) (r : List Int) (w : World) (hr0 : Kd.C (Kd.int .u64) w A0 l0.length l0) (hc0 : l0.length ≤ c0) (hs1 : Kd.V (Kd.int .u64) 89 w w.heap.size (fun k_ => P1_ k_) (.slice A1 l1.length c1) l1) (hs2 : Kd.V (Kd.int .u64) 89 w w.heap.size (fun k_ => P2_ k_) (.slice A2 l2.length c2) l2) (h : impl_prime_add.f k l0 l1 l2 = some r) :
    Calls Try.prog 69 #[.slice A0 l0.length c0, .slice A1 l1.length c1, .slice A2 l2.length c2] w fun e w' => ∃ v0_ : Value, e = .returned (v0_) ∧ Kd.V (Kd.int .u64) 89 w' w.heap.size (fun k_ => ((P1_ k_ ∨ P2_ k_) ∨ w.heap.size ≤ k_)) v0_ r ∧ Below w.heap.size w w' := by
  have HR0 := Aside0.mk hr0
  have HC0 := Aside0.mk hc0
  clear hr0 hc0
  have HO1 := Aside0.mk (show Kd.V (Kd.int .u64) 89 w w.heap.size (fun k_ => ((P1_ k_ ∨ P2_ k_) ∨ w.heap.size ≤ k_)) (.slice A1 l1.length c1) l1 from Kd.V_mono hs1 (fun k_ hk => .inl (.inl hk)))
  have HO2 := Aside0.mk (show Kd.V (Kd.int .u64) 89 w w.heap.size (fun k_ => ((P1_ k_ ∨ P2_ k_) ∨ w.heap.size ≤ k_)) (.slice A2 l2.length c2) l2 from Kd.V_mono hs2 (fun k_ hk => .inl (.inr hk)))
  have HB := Aside0.mk (Below.refl w.heap.size w)
  have H : ((impl_nat_plus.f k l1 l2).bind fun t752 => ((impl_nat_cmp.f k t752 l0).bind fun t755 => (if t755 ≥ 0 then ((impl_nat_less.f k t752 l0).bind fun t756 => (some t756)) else (some t752)))) = some r := h
  clear h
  replace H := Option.bind_eq_some_iff.mp H
  obtain ⟨t752, A40, H⟩ := H
  have A4 := Aside0.mk A40
  clear A40
  replace H := Option.bind_eq_some_iff.mp H
  obtain ⟨t755, A50, H⟩ := H
  have A5 := Aside0.mk A50
  clear A50
  by_cases c6 : t755 ≥ 0
  rotate_left
  · rw [if_neg c6] at H
    have c6b0 : decide (0 ≤ t755) = false := decide_eq_false c6
    clear c6
    obtain rfl := Option.some.inj H
    go_enter Try.func69, Try.ntmps69
    go_wp2_with (first | ((with_reducible refine gate_callee (f := 96) rfl ?_); refine gL_ 10 Try.func96 rfl #[.slice A1 l1.length c1, .slice A2 l2.length c2] ?_; (with_reducible refine (impl_nat_plus.calls k (fun k_ => ((P1_ k_ ∨ P2_ k_) ∨ w.heap.size ≤ k_)) _ _ l1 (fun k_ => ((P1_ k_ ∨ P2_ k_) ∨ w.heap.size ≤ k_)) _ _ l2 t752 _ ?side1 ?side2 A4.out).mono ?_); (case side1 => exact HO1.out); (case side2 => exact HO2.out); rintro e w11 ⟨v753, rfl, ho0, hb⟩; refine ⟨_, rfl, ?_⟩; replace HO1 := Aside0.mk (Kd.V_below (pV_ HO1.out) hb); replace HO2 := Aside0.mk (Kd.V_below (pV_ HO2.out) hb); have HO754 := Aside0.mk (Kd.V_lower (Kd.V_mono (ok' := fun k_ => ((P1_ k_ ∨ P2_ k_) ∨ w.heap.size ≤ k_)) ho0 (fun k_ hk_ => Or.elim hk_ (fun hs_ => Or.elim hs_ (fun hs_ => hs_) (fun hs_ => hs_)) (fun hn_ => (.inr (Nat.le_trans (below_size (pB_ HB.out)) hn_))))) (below_size (pB_ HB.out))); replace HB := Aside0.mk (below_step (pB_ HB.out) hb); clear hb ho0; obtain ⟨Ao12, co12, eo12⟩ := Kd.V_slice HO754.out; subst eo12) | ((with_reducible refine gate_callee (f := 87) rfl ?_); refine gL_ 13 Try.func87 rfl #[.slice Ao12 t752.length co12, .slice A0 l0.length c0] ?_; (with_reducible refine (impl_nat_cmp.calls k _ _ t752 _ _ l0 t755 _ ?side1 ?side2 ?side3 ?side4 A5.out).mono ?_); (case side1 => exact pC_ (Kd.V_reads' HO754.out).2.2); (case side2 => exact (Kd.V_reads' HO754.out).2.1); (case side3 => exact pC_ (Kd.C_below HR0.out HB.out)); (case side4 => exact HC0.out); rintro e w' ⟨rfl, ⟨nd, rfl⟩⟩; refine ⟨_, rfl, ?_⟩))
    go_ret
    exact ⟨_, by first | rfl | (simp [errW_none, errW_some] <;> rfl) | (simp [*, errW_none, errW_some] <;> rfl), by (with_reducible repeat (first | apply Kd.V_alloc | apply Kd.V_drewN | apply Kd.V_drew)); exact HO754.out, pB_ HB.out⟩

  rw [if_pos c6] at H
  have c6b0 : decide (0 ≤ t755) = true := decide_eq_true c6
  clear c6
  replace H := Option.bind_eq_some_iff.mp H
  obtain ⟨t756, A70, H⟩ := H
  have A7 := Aside0.mk A70
  clear A70
  obtain rfl := Option.some.inj H
  go_enter Try.func69, Try.ntmps69
  go_wp2_with (first | ((with_reducible refine gate_callee (f := 96) rfl ?_); refine gL_ 10 Try.func96 rfl #[.slice A1 l1.length c1, .slice A2 l2.length c2] ?_; (with_reducible refine (impl_nat_plus.calls k (fun k_ => ((P1_ k_ ∨ P2_ k_) ∨ w.heap.size ≤ k_)) _ _ l1 (fun k_ => ((P1_ k_ ∨ P2_ k_) ∨ w.heap.size ≤ k_)) _ _ l2 t752 _ ?side1 ?side2 A4.out).mono ?_); (case side1 => exact HO1.out); (case side2 => exact HO2.out); rintro e w8 ⟨v753, rfl, ho0, hb⟩; refine ⟨_, rfl, ?_⟩; replace HO1 := Aside0.mk (Kd.V_below (pV_ HO1.out) hb); replace HO2 := Aside0.mk (Kd.V_below (pV_ HO2.out) hb); have HO754 := Aside0.mk (Kd.V_lower (Kd.V_mono (ok' := fun k_ => ((P1_ k_ ∨ P2_ k_) ∨ w.heap.size ≤ k_)) ho0 (fun k_ hk_ => Or.elim hk_ (fun hs_ => Or.elim hs_ (fun hs_ => hs_) (fun hs_ => hs_)) (fun hn_ => (.inr (Nat.le_trans (below_size (pB_ HB.out)) hn_))))) (below_size (pB_ HB.out))); replace HB := Aside0.mk (below_step (pB_ HB.out) hb); clear hb ho0; obtain ⟨Ao9, co9, eo9⟩ := Kd.V_slice HO754.out; subst eo9) | ((with_reducible refine gate_callee (f := 87) rfl ?_); refine gL_ 13 Try.func87 rfl #[.slice Ao9 t752.length co9, .slice A0 l0.length c0] ?_; (with_reducible refine (impl_nat_cmp.calls k _ _ t752 _ _ l0 t755 _ ?side1 ?side2 ?side3 ?side4 A5.out).mono ?_); (case side1 => exact pC_ (Kd.V_reads' HO754.out).2.2); (case side2 => exact (Kd.V_reads' HO754.out).2.1); (case side3 => exact pC_ (Kd.C_below HR0.out HB.out)); (case side4 => exact HC0.out); rintro e w' ⟨rfl, ⟨nd, rfl⟩⟩; refine ⟨_, rfl, ?_⟩) | ((with_reducible refine gate_callee (f := 95) rfl ?_); refine gL_ 17 Try.func95 rfl #[.slice Ao9 t752.length co9, .slice A0 l0.length c0] ?_; (with_reducible refine (impl_nat_less.calls k _ _ t752 _ _ l0 t756 _ ?side1 ?side2 ?side3 ?side4 A7.out).mono ?_); (case side1 => exact pC_ (Kd.V_reads' HO754.out).2.2); (case side2 => exact (Kd.V_reads' HO754.out).2.1); (case side3 => exact pC_ (Kd.C_below HR0.out (pB_ HB.out))); (case side4 => exact HC0.out); rintro e w10 ⟨v757, rfl, ho0, hb⟩; refine ⟨_, rfl, ?_⟩; replace HO1 := Aside0.mk (Kd.V_below (pV_ HO1.out) hb); replace HO2 := Aside0.mk (Kd.V_below (pV_ HO2.out) hb); replace HO754 := Aside0.mk (Kd.V_below (pV_ HO754.out) hb); have HO758 := Aside0.mk (Kd.V_lower (Kd.V_mono (ok' := fun k_ => ((P1_ k_ ∨ P2_ k_) ∨ w.heap.size ≤ k_)) ho0 (fun k_ hk_ => (.inr (Nat.le_trans (below_size (pB_ HB.out)) hk_)))) (below_size (pB_ HB.out))); replace HB := Aside0.mk (below_step (pB_ HB.out) hb); clear hb ho0))
  go_ret
  exact ⟨_, by first | rfl | (simp [errW_none, errW_some] <;> rfl) | (simp [*, errW_none, errW_some] <;> rfl), by (with_reducible repeat (first | apply Kd.V_alloc | apply Kd.V_drewN | apply Kd.V_drew)); exact HO758.out, pB_ HB.out⟩

/-! ### impl_AddRest: function 25 -/
def impl_AddRest.f (k : Nat) (a0 : ByteArray) (a1 : ByteArray) (a2 : ByteArray) : Option (ByteArray) := (impl_modulus.f k a2 (([a0, a1] : List ByteArray))).bind fun bt762 => (if bt762.2 = true then ((impl_natOf.f k a0).bind fun t766 => ((impl_natOf.f k a1).bind fun t769 => ((impl_prime_add.f k bt762.1 t766 t769).bind fun t772 => ((impl_nat_text.f k t772).bind fun t775 => (some t775))))) else (some (⟨#[]⟩ : ByteArray)))
set_option maxHeartbeats 8000000 in
set_option maxRecDepth 100000 in
theorem impl_AddRest.calls (k : Nat) (a0 : ByteArray) (a1 : ByteArray) (a2 : ByteArray) (r : ByteArray) (w : World) (h : impl_AddRest.f k a0 a1 a2 = some r) :
    Calls Try.prog 25 #[.string a0, .string a1, .string a2] w fun e w' => e = .returned (.string r) ∧ Below w.heap.size w w' := by
  have HB := Aside0.mk (Below.refl w.heap.size w)
  have H : ((impl_modulus.f k a2 (([a0, a1] : List ByteArray))).bind fun bt762 => (if bt762.2 = true then ((impl_natOf.f k a0).bind fun t766 => ((impl_natOf.f k a1).bind fun t769 => ((impl_prime_add.f k bt762.1 t766 t769).bind fun t772 => ((impl_nat_text.f k t772).bind fun t775 => (some t775))))) else (some (⟨#[]⟩ : ByteArray)))) = some r := h
  clear h
  obtain ⟨y759, hy759⟩ : ∃ y_ : List ByteArray, y_ = (([a0, a1] : List ByteArray)) := ⟨_, rfl⟩
  replace H : ((impl_modulus.f k a2 y759).bind fun bt762 => (if bt762.2 = true then ((impl_natOf.f k a0).bind fun t766 => ((impl_natOf.f k a1).bind fun t769 => ((impl_prime_add.f k bt762.1 t766 t769).bind fun t772 => ((impl_nat_text.f k t772).bind fun t775 => (some t775))))) else (some (⟨#[]⟩ : ByteArray)))) = some r := by first | (rw [hy759]; with_reducible exact H) | (have H2_ := (Option.bind_some _ _).symm.trans H; rw [hy759]; with_reducible exact H2_) | (have H2_ := (Option.bind_some _ _).symm.trans H; with_reducible exact H2_) | with_reducible exact H | (rw [hy759]; exact H) | exact H
  have Ny759 := Aside0.mk hy759
  clear hy759
  replace H := Option.bind_eq_some_iff.mp H
  obtain ⟨⟨t762, t765⟩, A40, H⟩ := H
  replace H : (if t765 = true then ((impl_natOf.f k a0).bind fun t766 => ((impl_natOf.f k a1).bind fun t769 => ((impl_prime_add.f k t762 t766 t769).bind fun t772 => ((impl_nat_text.f k t772).bind fun t775 => (some t775))))) else (some (⟨#[]⟩ : ByteArray))) = some r := H
  have A4 := Aside0.mk A40
  clear A40
  by_cases c5 : t765 = true
  · subst c5
    have H1 : ((impl_natOf.f k a0).bind fun t766 => ((impl_natOf.f k a1).bind fun t769 => ((impl_prime_add.f k t762 t766 t769).bind fun t772 => ((impl_nat_text.f k t772).bind fun t775 => (some t775))))) = some r := by rw [if_pos rfl] at H; exact H
    clear H
    have H := H1
    clear H1
    replace H := Option.bind_eq_some_iff.mp H
    obtain ⟨t766, A60, H⟩ := H
    have A6 := Aside0.mk A60
    clear A60
    replace H := Option.bind_eq_some_iff.mp H
    obtain ⟨t769, A70, H⟩ := H
    have A7 := Aside0.mk A70
    clear A70
    replace H := Option.bind_eq_some_iff.mp H
    obtain ⟨t772, A80, H⟩ := H
    have A8 := Aside0.mk A80
    clear A80
    replace H := Option.bind_eq_some_iff.mp H
    obtain ⟨t775, A90, H⟩ := H
    have A9 := Aside0.mk A90
    clear A90
    obtain rfl := Option.some.inj H
    go_enter Try.func25, Try.ntmps25
    go_wp2_with (first | ((with_reducible refine gate_dst (N := 13) rfl ?_); refine Kd.R_lit Kd.string _ 9 ?hg (N := 13) ?hd (xs := ([a0, a1] : List ByteArray)) (inner := [.string a0, .string a1]) (ok := fun _ => True) (okp := fun _ => True) ?hr ?hp (fun _ hk => hk) trivial (Below.refl _ _) (Nat.le_refl _) (by simp) ?_; (case hd => rfl); (case hg => rfl); (case hr => first | (go_simp; done) | (go_simp; rfl)); (case hp => exact (Reps.one (show Kd.M Kd.string _ _ _ a0 [.string a0] from rfl) (Reps.one (show Kd.M Kd.string _ _ _ a1 [.string a1] from rfl) (Reps.none _ _)))); intro v760 w10 ho11 hb hg_ hnew_; clear hg_ hnew_; (first | rw [← Ny759.out] at ho11 | (simp only [Int.reduceToNat] at ho11; rw [← Ny759.out] at ho11)); have HO761 := Aside0.mk (Kd.R_lower ho11 (below_size (pB_ HB.out))); replace HB := Aside0.mk (below_step (pB_ HB.out) hb); clear hb ho11; obtain ⟨Ao12, co12, eo12⟩ := Kd.R_slice HO761.out; subst eo12) | ((with_reducible refine gate_callee (f := 50) rfl ?_); refine gL_ 14 Try.func50 rfl #[.string a2, .slice Ao12 y759.length co12] ?_; (with_reducible refine (impl_modulus.calls k a2 _ _ y759 t762 true _ ?side1 ?side2 A4.out).mono ?_); (case side1 => exact pC_ (Kd.R_reads' HO761.out).2.2); (case side2 => exact (Kd.R_reads' HO761.out).2.1); rintro e w13 ⟨v763, rfl, ho0, hb⟩; refine ⟨_, rfl, ?_⟩; have HO764 := Aside0.mk (Kd.V_lower (Kd.V_mono (ok' := fun k_ => some k_ ≠ (.slice Ao12 y759.length co12 : Value).ownBlock) ho0 (fun k_ hk_ => (Kd.fresh' (Kd.R_lt (pR_ HO761.out)) k_ hk_))) (below_size (pB_ HB.out))); replace HO761 := Aside0.mk (Kd.R_below (pR_ HO761.out) hb); replace HB := Aside0.mk (below_step (pB_ HB.out) hb); clear hb ho0) | ((with_reducible refine gate_callee (f := 52) rfl ?_); refine gL_ 21 Try.func52 rfl #[.string a0] ?_; (with_reducible refine (impl_natOf.calls k a0 t766 _ A6.out).mono ?_); rintro e w14 ⟨v767, rfl, ho0, hb⟩; refine ⟨_, rfl, ?_⟩; replace HO764 := Aside0.mk (Kd.V_below (pV_ HO764.out) hb); have HO768 := Aside0.mk (Kd.V_lower (Kd.V_mono (ok' := fun k_ => some k_ ≠ (.slice Ao12 y759.length co12 : Value).ownBlock) ho0 (fun k_ hk_ => (Kd.fresh' (Kd.R_lt (pR_ HO761.out)) k_ hk_))) (below_size (pB_ HB.out))); replace HO761 := Aside0.mk (Kd.R_below (pR_ HO761.out) hb); replace HB := Aside0.mk (below_step (pB_ HB.out) hb); clear hb ho0) | ((with_reducible refine gate_callee (f := 52) rfl ?_); refine gL_ 23 Try.func52 rfl #[.string a1] ?_; (with_reducible refine (impl_natOf.calls k a1 t769 _ A7.out).mono ?_); rintro e w15 ⟨v770, rfl, ho0, hb⟩; refine ⟨_, rfl, ?_⟩; replace HO764 := Aside0.mk (Kd.V_below (pV_ HO764.out) hb); replace HO768 := Aside0.mk (Kd.V_below (pV_ HO768.out) hb); have HO771 := Aside0.mk (Kd.V_lower (Kd.V_mono (ok' := fun k_ => some k_ ≠ (.slice Ao12 y759.length co12 : Value).ownBlock) ho0 (fun k_ hk_ => (Kd.fresh' (Kd.R_lt (pR_ HO761.out)) k_ hk_))) (below_size (pB_ HB.out))); replace HO761 := Aside0.mk (Kd.R_below (pR_ HO761.out) hb); replace HB := Aside0.mk (below_step (pB_ HB.out) hb); clear hb ho0; obtain ⟨Ao16, co16, eo16⟩ := Kd.V_slice HO764.out; subst eo16; obtain ⟨Ao17, co17, eo17⟩ := Kd.V_slice HO768.out; subst eo17; obtain ⟨Ao18, co18, eo18⟩ := Kd.V_slice HO771.out; subst eo18) | ((with_reducible refine gate_callee (f := 69) rfl ?_); refine gL_ 24 Try.func69 rfl #[.slice Ao16 t762.length co16, .slice Ao17 t766.length co17, .slice Ao18 t769.length co18] ?_; (with_reducible refine (impl_prime_add.calls k _ _ t762 (fun k_ => some k_ ≠ (.slice Ao12 y759.length co12 : Value).ownBlock) _ _ t766 (fun k_ => some k_ ≠ (.slice Ao12 y759.length co12 : Value).ownBlock) _ _ t769 t772 _ ?side1 ?side2 ?side3 ?side4 A8.out).mono ?_); (case side1 => exact pC_ (Kd.V_reads' HO764.out).2.2); (case side2 => exact (Kd.V_reads' HO764.out).2.1); (case side3 => exact HO768.out); (case side4 => exact HO771.out); rintro e w19 ⟨v773, rfl, ho0, hb⟩; refine ⟨_, rfl, ?_⟩; replace HO764 := Aside0.mk (Kd.V_below (pV_ HO764.out) hb); replace HO768 := Aside0.mk (Kd.V_below (pV_ HO768.out) hb); replace HO771 := Aside0.mk (Kd.V_below (pV_ HO771.out) hb); have HO774 := Aside0.mk (Kd.V_lower (Kd.V_mono (ok' := fun k_ => some k_ ≠ (.slice Ao12 y759.length co12 : Value).ownBlock) ho0 (fun k_ hk_ => Or.elim hk_ (fun hs_ => Or.elim hs_ (fun hs_ => hs_) (fun hs_ => hs_)) (fun hn_ => (Kd.fresh' (Kd.R_lt (pR_ HO761.out)) k_ hn_)))) (below_size (pB_ HB.out))); replace HO761 := Aside0.mk (Kd.R_below (pR_ HO761.out) hb); replace HB := Aside0.mk (below_step (pB_ HB.out) hb); clear hb ho0; obtain ⟨Ao20, co20, eo20⟩ := Kd.V_slice HO774.out; subst eo20) | ((with_reducible refine gate_callee (f := 64) rfl ?_); refine gL_ 25 Try.func64 rfl #[.slice Ao20 t772.length co20] ?_; (with_reducible refine (impl_nat_text.calls k _ _ t772 t775 _ ?side1 ?side2 A9.out).mono ?_); (case side1 => exact pC_ (Kd.V_reads' HO774.out).2.2); (case side2 => exact (Kd.V_reads' HO774.out).2.1); rintro e w21 ⟨rfl, hb⟩; refine ⟨_, rfl, ?_⟩; replace HO761 := Aside0.mk (Kd.R_below (pR_ HO761.out) hb); replace HO764 := Aside0.mk (Kd.V_below (pV_ HO764.out) hb); replace HO768 := Aside0.mk (Kd.V_below (pV_ HO768.out) hb); replace HO771 := Aside0.mk (Kd.V_below (pV_ HO771.out) hb); replace HO774 := Aside0.mk (Kd.V_below (pV_ HO774.out) hb); replace HB := Aside0.mk (below_step (pB_ HB.out) hb); clear hb))
    go_ret
    exact ⟨by first | rfl | (simp [errW_none, errW_some] <;> rfl) | (simp [*, errW_none, errW_some] <;> rfl), pB_ HB.out⟩
  · replace c5 := Bool.eq_false_iff.mpr c5
    subst c5
    have H1 : (some (⟨#[]⟩ : ByteArray)) = some r := by rw [if_neg (show ¬ (false = true) by decide)] at H; exact H
    clear H
    have H := H1
    clear H1
    obtain rfl := Option.some.inj H
    go_enter Try.func25, Try.ntmps25
    go_wp2_with (first | ((with_reducible refine gate_dst (N := 13) rfl ?_); refine Kd.R_lit Kd.string _ 9 ?hg (N := 13) ?hd (xs := ([a0, a1] : List ByteArray)) (inner := [.string a0, .string a1]) (ok := fun _ => True) (okp := fun _ => True) ?hr ?hp (fun _ hk => hk) trivial (Below.refl _ _) (Nat.le_refl _) (by simp) ?_; (case hd => rfl); (case hg => rfl); (case hr => first | (go_simp; done) | (go_simp; rfl)); (case hp => exact (Reps.one (show Kd.M Kd.string _ _ _ a0 [.string a0] from rfl) (Reps.one (show Kd.M Kd.string _ _ _ a1 [.string a1] from rfl) (Reps.none _ _)))); intro v760 w22 ho23 hb hg_ hnew_; clear hg_ hnew_; (first | rw [← Ny759.out] at ho23 | (simp only [Int.reduceToNat] at ho23; rw [← Ny759.out] at ho23)); have HO761 := Aside0.mk (Kd.R_lower ho23 (below_size (pB_ HB.out))); replace HB := Aside0.mk (below_step (pB_ HB.out) hb); clear hb ho23; obtain ⟨Ao24, co24, eo24⟩ := Kd.R_slice HO761.out; subst eo24) | ((with_reducible refine gate_callee (f := 50) rfl ?_); refine gL_ 14 Try.func50 rfl #[.string a2, .slice Ao24 y759.length co24] ?_; (with_reducible refine (impl_modulus.calls k a2 _ _ y759 t762 false _ ?side1 ?side2 A4.out).mono ?_); (case side1 => exact pC_ (Kd.R_reads' HO761.out).2.2); (case side2 => exact (Kd.R_reads' HO761.out).2.1); rintro e w25 ⟨v763, rfl, ho0, hb⟩; refine ⟨_, rfl, ?_⟩; have HO764 := Aside0.mk (Kd.V_lower (Kd.V_mono (ok' := fun k_ => some k_ ≠ (.slice Ao24 y759.length co24 : Value).ownBlock) ho0 (fun k_ hk_ => (Kd.fresh' (Kd.R_lt (pR_ HO761.out)) k_ hk_))) (below_size (pB_ HB.out))); replace HO761 := Aside0.mk (Kd.R_below (pR_ HO761.out) hb); replace HB := Aside0.mk (below_step (pB_ HB.out) hb); clear hb ho0))
    go_ret
    exact ⟨by first | rfl | (simp [errW_none, errW_some] <;> rfl) | (simp [*, errW_none, errW_some] <;> rfl), pB_ HB.out⟩

/-! ### laws_FnExactAddRest: function 8 -/
def laws_FnExactAddRest.f (k : Nat) (a0 : ByteArray) (a1 : ByteArray) (a2 : ByteArray) : Option (Bool) := if (a0.size : Int) > 1048576 then (some true) else (if (a1.size : Int) > 1048576 then (some true) else (if (a2.size : Int) > 1048576 then (some true) else ((spec_AddRest.f k a0 a1 a2).bind fun t776 => ((impl_AddRest.f k a0 a1 a2).bind fun t777 => (if t777.toList = t776.toList then (some true) else (some false))))))
set_option maxHeartbeats 8000000 in
set_option maxRecDepth 100000 in
theorem laws_FnExactAddRest.calls (k : Nat) (a0 : ByteArray) (a1 : ByteArray) (a2 : ByteArray) (r : Bool) (w : World) (h : laws_FnExactAddRest.f k a0 a1 a2 = some r) :
    Calls Try.prog 8 #[.string a0, .string a1, .string a2] w fun e w' => e = .returned (.bool r) ∧ Below w.heap.size w w' := by
  have HB := Aside0.mk (Below.refl w.heap.size w)
  have H : (if (a0.size : Int) > 1048576 then (some true) else (if (a1.size : Int) > 1048576 then (some true) else (if (a2.size : Int) > 1048576 then (some true) else ((spec_AddRest.f k a0 a1 a2).bind fun t776 => ((impl_AddRest.f k a0 a1 a2).bind fun t777 => (if t777.toList = t776.toList then (some true) else (some false))))))) = some r := h
  clear h
  by_cases c4 : (a0.size : Int) > 1048576
  · rw [if_pos c4] at H
    have c4b0 : decide (1048576 < (a0.size : Int)) = true := decide_eq_true c4
    have c4b1 : decide (1048576 < a0.size) = true := decide_eq_true (by omega)
    clear c4
    obtain rfl := Option.some.inj H
    go_enter Try.func8, Try.ntmps8
    go_wp2
    go_ret
    exact ⟨by first | rfl | (simp [errW_none, errW_some] <;> rfl) | (simp [*, errW_none, errW_some] <;> rfl), pB_ HB.out⟩
  rw [if_neg c4] at H
  have c4b0 : decide (1048576 < (a0.size : Int)) = false := decide_eq_false c4
  have c4b1 : decide (1048576 < a0.size) = false := decide_eq_false (by omega)
  clear c4
  by_cases c5 : (a1.size : Int) > 1048576
  · rw [if_pos c5] at H
    have c5b0 : decide (1048576 < (a1.size : Int)) = true := decide_eq_true c5
    have c5b1 : decide (1048576 < a1.size) = true := decide_eq_true (by omega)
    clear c5
    obtain rfl := Option.some.inj H
    go_enter Try.func8, Try.ntmps8
    go_wp2
    go_ret
    exact ⟨by first | rfl | (simp [errW_none, errW_some] <;> rfl) | (simp [*, errW_none, errW_some] <;> rfl), pB_ HB.out⟩
  rw [if_neg c5] at H
  have c5b0 : decide (1048576 < (a1.size : Int)) = false := decide_eq_false c5
  have c5b1 : decide (1048576 < a1.size) = false := decide_eq_false (by omega)
  clear c5
  by_cases c6 : (a2.size : Int) > 1048576
  · rw [if_pos c6] at H
    have c6b0 : decide (1048576 < (a2.size : Int)) = true := decide_eq_true c6
    have c6b1 : decide (1048576 < a2.size) = true := decide_eq_true (by omega)
    clear c6
    obtain rfl := Option.some.inj H
    go_enter Try.func8, Try.ntmps8
    go_wp2
    go_ret
    exact ⟨by first | rfl | (simp [errW_none, errW_some] <;> rfl) | (simp [*, errW_none, errW_some] <;> rfl), pB_ HB.out⟩
  rw [if_neg c6] at H
  have c6b0 : decide (1048576 < (a2.size : Int)) = false := decide_eq_false c6
  have c6b1 : decide (1048576 < a2.size) = false := decide_eq_false (by omega)
  clear c6
  replace H := Option.bind_eq_some_iff.mp H
  obtain ⟨t776, A70, H⟩ := H
  have A7 := Aside0.mk A70
  clear A70
  replace H := Option.bind_eq_some_iff.mp H
  obtain ⟨t777, A80, H⟩ := H
  have A8 := Aside0.mk A80
  clear A80
  by_cases c9 : t777.toList = t776.toList
  rotate_left
  · rw [if_neg c9] at H
    have c9b0 : (t777.toList == t776.toList) = false := beq_eq_false_iff_ne.mpr c9
    have c9b1 : (t777.toList != t776.toList) = true := bne_iff_ne.mpr c9
    obtain rfl := Option.some.inj H
    go_enter Try.func8, Try.ntmps8
    go_wp2_with (first | ((with_reducible refine gate_callee (f := 24) rfl ?_); refine gL_ 21 Try.func24 rfl #[.string a0, .string a1, .string a2] ?_; (with_reducible refine (spec_AddRest.calls k a0 a1 a2 t776 _ A7.out).mono ?_); rintro e w12 ⟨rfl, hb⟩; refine ⟨_, rfl, ?_⟩; replace HB := Aside0.mk (below_step (pB_ HB.out) hb); clear hb) | ((with_reducible refine gate_callee (f := 25) rfl ?_); refine gL_ 25 Try.func25 rfl #[.string a0, .string a1, .string a2] ?_; (with_reducible refine (impl_AddRest.calls k a0 a1 a2 t777 _ A8.out).mono ?_); rintro e w13 ⟨rfl, hb⟩; refine ⟨_, rfl, ?_⟩; replace HB := Aside0.mk (below_step (pB_ HB.out) hb); clear hb))
    go_ret
    exact ⟨by first | rfl | (simp [errW_none, errW_some] <;> rfl) | (simp [*, errW_none, errW_some] <;> rfl), pB_ HB.out⟩

  rw [if_pos c9] at H
  have c9b0 : (t777.toList == t776.toList) = true := beq_iff_eq.mpr c9
  have c9b1 : (t777.toList != t776.toList) = false := bne_eq_false_iff_eq.mpr c9
  clear c9
  obtain rfl := Option.some.inj H
  go_enter Try.func8, Try.ntmps8
  go_wp2_with (first | ((with_reducible refine gate_callee (f := 24) rfl ?_); refine gL_ 21 Try.func24 rfl #[.string a0, .string a1, .string a2] ?_; (with_reducible refine (spec_AddRest.calls k a0 a1 a2 t776 _ A7.out).mono ?_); rintro e w10 ⟨rfl, hb⟩; refine ⟨_, rfl, ?_⟩; replace HB := Aside0.mk (below_step (pB_ HB.out) hb); clear hb) | ((with_reducible refine gate_callee (f := 25) rfl ?_); refine gL_ 25 Try.func25 rfl #[.string a0, .string a1, .string a2] ?_; (with_reducible refine (impl_AddRest.calls k a0 a1 a2 t777 _ A8.out).mono ?_); rintro e w11 ⟨rfl, hb⟩; refine ⟨_, rfl, ?_⟩; replace HB := Aside0.mk (below_step (pB_ HB.out) hb); clear hb))
  go_ret
  exact ⟨by first | rfl | (simp [errW_none, errW_some] <;> rfl) | (simp [*, errW_none, errW_some] <;> rfl), pB_ HB.out⟩
/-- THE ONE PURE STATEMENT of laws_FnExactAddRest: yours. -/
def laws_FnExactAddRest.Pure : Prop := ∀ (a0 : ByteArray) (a1 : ByteArray) (a2 : ByteArray), a0.size ≤ 140737488351232 → a1.size ≤ 140737488351232 → a2.size ≤ 140737488351232 → ∃ k, laws_FnExactAddRest.f k a0 a1 a2 = some true
theorem laws_FnExactAddRest.walk (P : laws_FnExactAddRest.Pure) (a0 : ByteArray) (a1 : ByteArray) (a2 : ByteArray) (w : World) (w0 : a0.size ≤ 140737488351232) (w1 : a1.size ≤ 140737488351232) (w2 : a2.size ≤ 140737488351232) :
    Calls Try.prog 8 #[.string a0, .string a1, .string a2] w fun e w' => e = .returned (.bool true) ∧ Below w.heap.size w w' := by
  obtain ⟨k, h⟩ := P a0 a1 a2 w0 w1 w2
  refine (laws_FnExactAddRest.calls k a0 a1 a2 true w h).mono ?_
  rintro e w' ⟨rfl, hd⟩
  exact ⟨rfl, hd⟩

/-! ### impl_NegRest: function 27 -/
def impl_NegRest.f (k : Nat) (a0 : ByteArray) (a1 : ByteArray) : Option (ByteArray) := (impl_SubRest.f k (⟨#[]⟩ : ByteArray) a0 a1).bind fun t778 => (some t778)
set_option maxHeartbeats 8000000 in
set_option maxRecDepth 100000 in
theorem impl_NegRest.calls (k : Nat) (a0 : ByteArray) (a1 : ByteArray) (r : ByteArray) (w : World) (h : impl_NegRest.f k a0 a1 = some r) :
    Calls Try.prog 27 #[.string a0, .string a1] w fun e w' => e = .returned (.string r) ∧ Below w.heap.size w w' := by
  have HB := Aside0.mk (Below.refl w.heap.size w)
  have H : ((impl_SubRest.f k (⟨#[]⟩ : ByteArray) a0 a1).bind fun t778 => (some t778)) = some r := h
  clear h
  replace H := Option.bind_eq_some_iff.mp H
  obtain ⟨t778, A30, H⟩ := H
  have A3 := Aside0.mk A30
  clear A30
  obtain rfl := Option.some.inj H
  go_enter Try.func27, Try.ntmps27
  go_wp2_with (first | ((with_reducible refine gate_callee (f := 21) rfl ?_); refine gL_ 7 Try.func21 rfl #[.string (⟨#[]⟩ : ByteArray), .string a0, .string a1] ?_; (with_reducible refine (impl_SubRest.calls k (⟨#[]⟩ : ByteArray) a0 a1 t778 _ A3.out).mono ?_); rintro e w4 ⟨rfl, hb⟩; refine ⟨_, rfl, ?_⟩; replace HB := Aside0.mk (below_step (pB_ HB.out) hb); clear hb))
  go_ret
  exact ⟨by first | rfl | (simp [errW_none, errW_some] <;> rfl) | (simp [*, errW_none, errW_some] <;> rfl), pB_ HB.out⟩

/-! ### laws_FnExactNegRest: function 9 -/
def laws_FnExactNegRest.f (k : Nat) (a0 : ByteArray) (a1 : ByteArray) : Option (Bool) := if (a0.size : Int) > 1048576 then (some true) else (if (a1.size : Int) > 1048576 then (some true) else ((spec_NegRest.f k a0 a1).bind fun t779 => ((impl_NegRest.f k a0 a1).bind fun t780 => (if t780.toList = t779.toList then (some true) else (some false)))))
set_option maxHeartbeats 8000000 in
set_option maxRecDepth 100000 in
theorem laws_FnExactNegRest.calls (k : Nat) (a0 : ByteArray) (a1 : ByteArray) (r : Bool) (w : World) (h : laws_FnExactNegRest.f k a0 a1 = some r) :
    Calls Try.prog 9 #[.string a0, .string a1] w fun e w' => e = .returned (.bool r) ∧ Below w.heap.size w w' := by
  have HB := Aside0.mk (Below.refl w.heap.size w)
  have H : (if (a0.size : Int) > 1048576 then (some true) else (if (a1.size : Int) > 1048576 then (some true) else ((spec_NegRest.f k a0 a1).bind fun t779 => ((impl_NegRest.f k a0 a1).bind fun t780 => (if t780.toList = t779.toList then (some true) else (some false)))))) = some r := h
  clear h
  by_cases c3 : (a0.size : Int) > 1048576
  · rw [if_pos c3] at H
    have c3b0 : decide (1048576 < (a0.size : Int)) = true := decide_eq_true c3
    have c3b1 : decide (1048576 < a0.size) = true := decide_eq_true (by omega)
    clear c3
    obtain rfl := Option.some.inj H
    go_enter Try.func9, Try.ntmps9
    go_wp2
    go_ret
    exact ⟨by first | rfl | (simp [errW_none, errW_some] <;> rfl) | (simp [*, errW_none, errW_some] <;> rfl), pB_ HB.out⟩
  rw [if_neg c3] at H
  have c3b0 : decide (1048576 < (a0.size : Int)) = false := decide_eq_false c3
  have c3b1 : decide (1048576 < a0.size) = false := decide_eq_false (by omega)
  clear c3
  by_cases c4 : (a1.size : Int) > 1048576
  · rw [if_pos c4] at H
    have c4b0 : decide (1048576 < (a1.size : Int)) = true := decide_eq_true c4
    have c4b1 : decide (1048576 < a1.size) = true := decide_eq_true (by omega)
    clear c4
    obtain rfl := Option.some.inj H
    go_enter Try.func9, Try.ntmps9
    go_wp2
    go_ret
    exact ⟨by first | rfl | (simp [errW_none, errW_some] <;> rfl) | (simp [*, errW_none, errW_some] <;> rfl), pB_ HB.out⟩
  rw [if_neg c4] at H
  have c4b0 : decide (1048576 < (a1.size : Int)) = false := decide_eq_false c4
  have c4b1 : decide (1048576 < a1.size) = false := decide_eq_false (by omega)
  clear c4
  replace H := Option.bind_eq_some_iff.mp H
  obtain ⟨t779, A50, H⟩ := H
  have A5 := Aside0.mk A50
  clear A50
  replace H := Option.bind_eq_some_iff.mp H
  obtain ⟨t780, A60, H⟩ := H
  have A6 := Aside0.mk A60
  clear A60
  by_cases c7 : t780.toList = t779.toList
  rotate_left
  · rw [if_neg c7] at H
    have c7b0 : (t780.toList == t779.toList) = false := beq_eq_false_iff_ne.mpr c7
    have c7b1 : (t780.toList != t779.toList) = true := bne_iff_ne.mpr c7
    obtain rfl := Option.some.inj H
    go_enter Try.func9, Try.ntmps9
    go_wp2_with (first | ((with_reducible refine gate_callee (f := 26) rfl ?_); refine gL_ 15 Try.func26 rfl #[.string a0, .string a1] ?_; (with_reducible refine (spec_NegRest.calls k a0 a1 t779 _ A5.out).mono ?_); rintro e w10 ⟨rfl, hb⟩; refine ⟨_, rfl, ?_⟩; replace HB := Aside0.mk (below_step (pB_ HB.out) hb); clear hb) | ((with_reducible refine gate_callee (f := 27) rfl ?_); refine gL_ 18 Try.func27 rfl #[.string a0, .string a1] ?_; (with_reducible refine (impl_NegRest.calls k a0 a1 t780 _ A6.out).mono ?_); rintro e w11 ⟨rfl, hb⟩; refine ⟨_, rfl, ?_⟩; replace HB := Aside0.mk (below_step (pB_ HB.out) hb); clear hb))
    go_ret
    exact ⟨by first | rfl | (simp [errW_none, errW_some] <;> rfl) | (simp [*, errW_none, errW_some] <;> rfl), pB_ HB.out⟩

  rw [if_pos c7] at H
  have c7b0 : (t780.toList == t779.toList) = true := beq_iff_eq.mpr c7
  have c7b1 : (t780.toList != t779.toList) = false := bne_eq_false_iff_eq.mpr c7
  clear c7
  obtain rfl := Option.some.inj H
  go_enter Try.func9, Try.ntmps9
  go_wp2_with (first | ((with_reducible refine gate_callee (f := 26) rfl ?_); refine gL_ 15 Try.func26 rfl #[.string a0, .string a1] ?_; (with_reducible refine (spec_NegRest.calls k a0 a1 t779 _ A5.out).mono ?_); rintro e w8 ⟨rfl, hb⟩; refine ⟨_, rfl, ?_⟩; replace HB := Aside0.mk (below_step (pB_ HB.out) hb); clear hb) | ((with_reducible refine gate_callee (f := 27) rfl ?_); refine gL_ 18 Try.func27 rfl #[.string a0, .string a1] ?_; (with_reducible refine (impl_NegRest.calls k a0 a1 t780 _ A6.out).mono ?_); rintro e w9 ⟨rfl, hb⟩; refine ⟨_, rfl, ?_⟩; replace HB := Aside0.mk (below_step (pB_ HB.out) hb); clear hb))
  go_ret
  exact ⟨by first | rfl | (simp [errW_none, errW_some] <;> rfl) | (simp [*, errW_none, errW_some] <;> rfl), pB_ HB.out⟩
/-- THE ONE PURE STATEMENT of laws_FnExactNegRest: yours. -/
def laws_FnExactNegRest.Pure : Prop := ∀ (a0 : ByteArray) (a1 : ByteArray), a0.size ≤ 140737488351232 → a1.size ≤ 140737488351232 → ∃ k, laws_FnExactNegRest.f k a0 a1 = some true
theorem laws_FnExactNegRest.walk (P : laws_FnExactNegRest.Pure) (a0 : ByteArray) (a1 : ByteArray) (w : World) (w0 : a0.size ≤ 140737488351232) (w1 : a1.size ≤ 140737488351232) :
    Calls Try.prog 9 #[.string a0, .string a1] w fun e w' => e = .returned (.bool true) ∧ Below w.heap.size w w' := by
  obtain ⟨k, h⟩ := P a0 a1 w0 w1
  refine (laws_FnExactNegRest.calls k a0 a1 true w h).mono ?_
  rintro e w' ⟨rfl, hd⟩
  exact ⟨rfl, hd⟩

end Go.Proofs.Ytohfimjpfnnpgaa.F
