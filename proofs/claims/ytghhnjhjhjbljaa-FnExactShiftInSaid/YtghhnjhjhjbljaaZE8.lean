-- Made for this seat by a program of this session (wip/fork, wip/slim.py). Lean checks it.
import Derived.Test.YtghhnjhjhjbljaaVEFx0
import Derived.Test.YtghhnjhjhjbljaaZE0
import Derived.Test.YtghhnjhjhjbljaaZE2
import Derived.Test.YtghhnjhjhjbljaaZE3
import Derived.Test.YtghhnjhjhjbljaaZE6
import Derived.Test.YtghhnjhjhjbljaaZE7
namespace Go.Proofs.Ytghhnjhjhjbljaa.F
open Go.RowKit Go.Proofs.YtghhnjhjhjbljaaW.PrintWords Go.Proofs.YtghhnjhjhjbljaaW.PrintLast Go.Proofs.YtghhnjhjhjbljaaW.PrintMore
attribute [local go_sem] max2_int min2_int max_two min_two max_three min_three max_four min_four   -- for this text's walks alone
set_option linter.unusedVariables false
set_option linter.unusedSimpArgs false

/-! ### spec_ShiftIn: function 24 -/
def spec_ShiftIn.j0 : Nat → ByteArray → ByteArray → Bool → Option (ByteArray)
  | 0, _, _, _ => none
  | k + 1, x0, x1, x13 => if x13 = true then (some (⟨#[]⟩ : ByteArray)) else ((spec_l02In.f k x0).bind fun t766 => ((spec_l05Shift.f k x1).bind fun t769 => ((spec_l02In.f k x1).bind fun t772 => ((spec_l04Mul.f k t766 t769 t772).bind fun t775 => ((spec_l02Out.f k t775).bind fun t778 => (some t778))))))
def spec_ShiftIn.f (k : Nat) (a0 : ByteArray) (a1 : ByteArray) : Option (ByteArray) := (spec_l05Odd.f a1).bind fun t764 => (if t764 = true then ((spec_RestOk.f k a0 a1).bind fun t765 => (spec_ShiftIn.j0 k a0 a1 (!t765))) else (spec_ShiftIn.j0 k a0 a1 true))
set_option maxHeartbeats 8000000 in
set_option maxRecDepth 100000 in
theorem spec_ShiftIn.calls (k : Nat) (a0 : ByteArray) (a1 : ByteArray) (r : ByteArray) (w : World) (h : spec_ShiftIn.f k a0 a1 = some r) :
    Calls Try.prog 24 #[.string a0, .string a1] w fun e w' => e = .returned (.string r) ∧ Below w.heap.size w w' := by
  have HB := Aside0.mk (Below.refl w.heap.size w)
  have H : ((spec_l05Odd.f a1).bind fun t764 => (if t764 = true then ((spec_RestOk.f k a0 a1).bind fun t765 => (spec_ShiftIn.j0 k a0 a1 (!t765))) else (spec_ShiftIn.j0 k a0 a1 true))) = some r := h
  clear h
  have HC3 := Aside0.mk H
  clear H
  go_enter Try.func24, Try.ntmps24
  go_upto_region 1 with (fail)
  go_cut [13] (fun v13 wc => ∃ (kq : Nat) (x13_2 : Bool), v13 = .bool x13_2 ∧ Aside0 (spec_ShiftIn.j0 kq a0 a1 x13_2 = some r) ∧ Aside0 (kq ≤ k) ∧ Aside0 (Below w.heap.size w wc))
  case first =>
    have H := HC3.out
    clear HC3
    replace H := Option.bind_eq_some_iff.mp H
    obtain ⟨t764, A40, H⟩ := H
    have A4 := Aside0.mk A40
    clear A40
    by_cases c5 : t764 = true
    · subst c5
      have H1 : ((spec_RestOk.f k a0 a1).bind fun t765 => (spec_ShiftIn.j0 k a0 a1 (!t765))) = some r := by rw [if_pos rfl] at H; exact H
      clear H
      have H := H1
      clear H1
      replace H := Option.bind_eq_some_iff.mp H
      obtain ⟨t765, A60, H⟩ := H
      have A6 := Aside0.mk A60
      clear A60
      have H' := Aside0.mk H
      clear H
      go_wp2_with (first | ((with_reducible refine gate_callee (f := 52) rfl ?_); refine gL_ 6 Try.func52 rfl #[.string a1] ?_; (with_reducible refine (spec_l05Odd.calls a1 true _ A4.out).mono ?_); rintro e w' ⟨rfl, ⟨nd, rfl⟩⟩; refine ⟨_, rfl, ?_⟩) | (go_at_call 33; (with_reducible refine (spec_RestOk.calls k a0 a1 t765 _ A6.out).mono ?_); rintro e w7 ⟨rfl, hb⟩; replace HB := Aside0.mk (below_step (pB_ HB.out) hb); clear hb))
      go_meet
      case rel => exact ⟨_, (!t765), (by first | rfl | (simp; done) | (simp [*]; done)), H', ⟨by first | omega | exact Nat.le_refl _⟩, ⟨pB_ HB.out⟩⟩
    · replace c5 := Bool.eq_false_iff.mpr c5
      subst c5
      have H1 : (spec_ShiftIn.j0 k a0 a1 true) = some r := by rw [if_neg (show ¬ (false = true) by decide)] at H; exact H
      clear H
      have H := H1
      clear H1
      have H' := Aside0.mk H
      clear H
      go_wp2_with (first | ((with_reducible refine gate_callee (f := 52) rfl ?_); refine gL_ 6 Try.func52 rfl #[.string a1] ?_; (with_reducible refine (spec_l05Odd.calls a1 false _ A4.out).mono ?_); rintro e w' ⟨rfl, ⟨nd, rfl⟩⟩; refine ⟨_, rfl, ?_⟩))
      go_meet
      case rel => exact ⟨_, (true), (by first | rfl | (simp; done) | (simp [*]; done)), H', ⟨by first | omega | exact Nat.le_refl _⟩, ⟨pB_ HB.out⟩⟩
  clear HC3
  try clear c2
  try clear p2
  try clear c5
  obtain ⟨kq, x13_2, rfl, HA, HJ2, HB⟩ := hcut
  rcases kq with _ | kj2
  · exact absurd HA.out (by simp [spec_ShiftIn.j0])
  have H := HA.out
  clear HA
  simp only [spec_ShiftIn.j0] at H
  by_cases c8 : x13_2 = true
  · subst c8
    have H1 : (some (⟨#[]⟩ : ByteArray)) = some r := by rw [if_pos rfl] at H; exact H
    clear H
    have H := H1
    clear H1
    obtain rfl := Option.some.inj H
    go_wp2
    go_ret
    exact ⟨by first | rfl | (simp [errW_none, errW_some] <;> rfl) | (simp [*, errW_none, errW_some] <;> rfl), pB_ HB.out⟩
  · replace c8 := Bool.eq_false_iff.mpr c8
    subst c8
    have H1 : ((spec_l02In.f kj2 a0).bind fun t766 => ((spec_l05Shift.f kj2 a1).bind fun t769 => ((spec_l02In.f kj2 a1).bind fun t772 => ((spec_l04Mul.f kj2 t766 t769 t772).bind fun t775 => ((spec_l02Out.f kj2 t775).bind fun t778 => (some t778)))))) = some r := by rw [if_neg (show ¬ (false = true) by decide)] at H; exact H
    clear H
    have H := H1
    clear H1
    replace H := Option.bind_eq_some_iff.mp H
    obtain ⟨t766, A90, H⟩ := H
    have A9 := Aside0.mk A90
    clear A90
    replace H := Option.bind_eq_some_iff.mp H
    obtain ⟨t769, A100, H⟩ := H
    have A10 := Aside0.mk A100
    clear A100
    replace H := Option.bind_eq_some_iff.mp H
    obtain ⟨t772, A110, H⟩ := H
    have A11 := Aside0.mk A110
    clear A110
    replace H := Option.bind_eq_some_iff.mp H
    obtain ⟨t775, A120, H⟩ := H
    have A12 := Aside0.mk A120
    clear A120
    replace H := Option.bind_eq_some_iff.mp H
    obtain ⟨t778, A130, H⟩ := H
    have A13 := Aside0.mk A130
    clear A130
    obtain rfl := Option.some.inj H
    go_wp2_with (first | ((with_reducible refine gate_callee (f := 37) rfl ?_); refine gL_ 15 Try.func37 rfl #[.string a0] ?_; (with_reducible refine (spec_l02In.calls kj2 a0 t766 _ A9.out).mono ?_); rintro e w14 ⟨v767, rfl, ho0, hb⟩; refine ⟨_, rfl, ?_⟩; have HO768 := Aside0.mk (Kd.V_lower (Kd.V_mono (ok' := fun k_ => True) ho0 (fun k_ hk_ => trivial)) (below_size (pB_ HB.out))); replace HB := Aside0.mk (below_step (pB_ HB.out) hb); clear hb ho0) | ((with_reducible refine gate_callee (f := 53) rfl ?_); refine gL_ 17 Try.func53 rfl #[.string a1] ?_; (with_reducible refine (spec_l05Shift.calls kj2 a1 t769 _ A10.out).mono ?_); rintro e w15 ⟨v770, rfl, ho0, hb⟩; refine ⟨_, rfl, ?_⟩; replace HO768 := Aside0.mk (Kd.V_below (pV_ HO768.out) hb); have HO771 := Aside0.mk (Kd.V_lower (Kd.V_mono (ok' := fun k_ => True) ho0 (fun k_ hk_ => trivial)) (below_size (pB_ HB.out))); replace HB := Aside0.mk (below_step (pB_ HB.out) hb); clear hb ho0) | ((with_reducible refine gate_callee (f := 37) rfl ?_); refine gL_ 19 Try.func37 rfl #[.string a1] ?_; (with_reducible refine (spec_l02In.calls kj2 a1 t772 _ A11.out).mono ?_); rintro e w16 ⟨v773, rfl, ho0, hb⟩; refine ⟨_, rfl, ?_⟩; replace HO768 := Aside0.mk (Kd.V_below (pV_ HO768.out) hb); replace HO771 := Aside0.mk (Kd.V_below (pV_ HO771.out) hb); have HO774 := Aside0.mk (Kd.V_lower (Kd.V_mono (ok' := fun k_ => True) ho0 (fun k_ hk_ => trivial)) (below_size (pB_ HB.out))); replace HB := Aside0.mk (below_step (pB_ HB.out) hb); clear hb ho0; obtain ⟨Ao17, co17, eo17⟩ := Kd.V_slice HO768.out; subst eo17; obtain ⟨Ao18, co18, eo18⟩ := Kd.V_slice HO771.out; subst eo18; obtain ⟨Ao19, co19, eo19⟩ := Kd.V_slice HO774.out; subst eo19) | ((with_reducible refine gate_callee (f := 50) rfl ?_); refine gL_ 20 Try.func50 rfl #[.slice Ao17 t766.length co17, .slice Ao18 t769.length co18, .slice Ao19 t772.length co19] ?_; (with_reducible refine (spec_l04Mul.calls kj2 _ _ t766 _ _ t769 _ _ t772 t775 _ ?side1 ?side2 ?side3 ?side4 ?side5 ?side6 A12.out).mono ?_); (case side1 => exact pC_ (Kd.V_reads' HO768.out).2.2); (case side2 => exact (Kd.V_reads' HO768.out).2.1); (case side3 => exact pC_ (Kd.V_reads' HO771.out).2.2); (case side4 => exact (Kd.V_reads' HO771.out).2.1); (case side5 => exact pC_ (Kd.V_reads' HO774.out).2.2); (case side6 => exact (Kd.V_reads' HO774.out).2.1); rintro e w20 ⟨v776, rfl, ho0, hb⟩; refine ⟨_, rfl, ?_⟩; replace HO768 := Aside0.mk (Kd.V_below (pV_ HO768.out) hb); replace HO771 := Aside0.mk (Kd.V_below (pV_ HO771.out) hb); replace HO774 := Aside0.mk (Kd.V_below (pV_ HO774.out) hb); have HO777 := Aside0.mk (Kd.V_lower (Kd.V_mono (ok' := fun k_ => True) ho0 (fun k_ hk_ => trivial)) (below_size (pB_ HB.out))); replace HB := Aside0.mk (below_step (pB_ HB.out) hb); clear hb ho0; obtain ⟨Ao21, co21, eo21⟩ := Kd.V_slice HO777.out; subst eo21) | ((with_reducible refine gate_callee (f := 35) rfl ?_); refine gL_ 21 Try.func35 rfl #[.slice Ao21 t775.length co21] ?_; (with_reducible refine (spec_l02Out.calls kj2 _ _ t775 t778 _ ?side1 ?side2 A13.out).mono ?_); (case side1 => exact pC_ (Kd.V_reads' HO777.out).2.2); (case side2 => exact (Kd.V_reads' HO777.out).2.1); rintro e w22 ⟨rfl, hb⟩; refine ⟨_, rfl, ?_⟩; replace HO768 := Aside0.mk (Kd.V_below (pV_ HO768.out) hb); replace HO771 := Aside0.mk (Kd.V_below (pV_ HO771.out) hb); replace HO774 := Aside0.mk (Kd.V_below (pV_ HO774.out) hb); replace HO777 := Aside0.mk (Kd.V_below (pV_ HO777.out) hb); replace HB := Aside0.mk (below_step (pB_ HB.out) hb); clear hb))
    go_ret
    exact ⟨by first | rfl | (simp [errW_none, errW_some] <;> rfl) | (simp [*, errW_none, errW_some] <;> rfl), pB_ HB.out⟩

/-! ### impl_ShiftIn: function 25 -/
def impl_ShiftIn.f (k : Nat) (a0 : ByteArray) (a1 : ByteArray) : Option (ByteArray) := (impl_odd.f k a1 (([a0] : List ByteArray))).bind fun bt782 => (if bt782.2 = true then ((impl_natOf.f k a0).bind fun t786 => ((impl_prime_shift.f k bt782.1).bind fun t789 => ((impl_prime_mul.f k bt782.1 t786 t789).bind fun t792 => ((impl_nat_text.f k t792).bind fun t795 => (some t795))))) else (some (⟨#[]⟩ : ByteArray)))
set_option maxHeartbeats 8000000 in
set_option maxRecDepth 100000 in
theorem impl_ShiftIn.calls (k : Nat) (a0 : ByteArray) (a1 : ByteArray) (r : ByteArray) (w : World) (h : impl_ShiftIn.f k a0 a1 = some r) :
    Calls Try.prog 25 #[.string a0, .string a1] w fun e w' => e = .returned (.string r) ∧ Below w.heap.size w w' := by
  have HB := Aside0.mk (Below.refl w.heap.size w)
  have H : ((impl_odd.f k a1 (([a0] : List ByteArray))).bind fun bt782 => (if bt782.2 = true then ((impl_natOf.f k a0).bind fun t786 => ((impl_prime_shift.f k bt782.1).bind fun t789 => ((impl_prime_mul.f k bt782.1 t786 t789).bind fun t792 => ((impl_nat_text.f k t792).bind fun t795 => (some t795))))) else (some (⟨#[]⟩ : ByteArray)))) = some r := h
  clear h
  obtain ⟨y779, hy779⟩ : ∃ y_ : List ByteArray, y_ = (([a0] : List ByteArray)) := ⟨_, rfl⟩
  replace H : ((impl_odd.f k a1 y779).bind fun bt782 => (if bt782.2 = true then ((impl_natOf.f k a0).bind fun t786 => ((impl_prime_shift.f k bt782.1).bind fun t789 => ((impl_prime_mul.f k bt782.1 t786 t789).bind fun t792 => ((impl_nat_text.f k t792).bind fun t795 => (some t795))))) else (some (⟨#[]⟩ : ByteArray)))) = some r := by first | (rw [hy779]; with_reducible exact H) | (have H2_ := (Option.bind_some _ _).symm.trans H; rw [hy779]; with_reducible exact H2_) | (have H2_ := (Option.bind_some _ _).symm.trans H; with_reducible exact H2_) | with_reducible exact H | (rw [hy779]; exact H) | exact H
  have Ny779 := Aside0.mk hy779
  clear hy779
  replace H := Option.bind_eq_some_iff.mp H
  obtain ⟨⟨t782, t785⟩, A30, H⟩ := H
  replace H : (if t785 = true then ((impl_natOf.f k a0).bind fun t786 => ((impl_prime_shift.f k t782).bind fun t789 => ((impl_prime_mul.f k t782 t786 t789).bind fun t792 => ((impl_nat_text.f k t792).bind fun t795 => (some t795))))) else (some (⟨#[]⟩ : ByteArray))) = some r := H
  have A3 := Aside0.mk A30
  clear A30
  by_cases c4 : t785 = true
  · subst c4
    have H1 : ((impl_natOf.f k a0).bind fun t786 => ((impl_prime_shift.f k t782).bind fun t789 => ((impl_prime_mul.f k t782 t786 t789).bind fun t792 => ((impl_nat_text.f k t792).bind fun t795 => (some t795))))) = some r := by rw [if_pos rfl] at H; exact H
    clear H
    have H := H1
    clear H1
    replace H := Option.bind_eq_some_iff.mp H
    obtain ⟨t786, A50, H⟩ := H
    have A5 := Aside0.mk A50
    clear A50
    replace H := Option.bind_eq_some_iff.mp H
    obtain ⟨t789, A60, H⟩ := H
    have A6 := Aside0.mk A60
    clear A60
    replace H := Option.bind_eq_some_iff.mp H
    obtain ⟨t792, A70, H⟩ := H
    have A7 := Aside0.mk A70
    clear A70
    replace H := Option.bind_eq_some_iff.mp H
    obtain ⟨t795, A80, H⟩ := H
    have A8 := Aside0.mk A80
    clear A80
    obtain rfl := Option.some.inj H
    go_enter Try.func25, Try.ntmps25
    go_wp2_with (first | ((with_reducible refine gate_dst (N := 10) rfl ?_); refine Kd.R_lit Kd.string _ 9 ?hg (N := 10) ?hd (xs := ([a0] : List ByteArray)) (inner := [.string a0]) (ok := fun _ => True) (okp := fun _ => True) ?hr ?hp (fun _ hk => hk) trivial (Below.refl _ _) (Nat.le_refl _) (by simp) ?_; (case hd => rfl); (case hg => rfl); (case hr => first | (go_simp; done) | (go_simp; rfl)); (case hp => exact (Reps.one (show Kd.M Kd.string _ _ _ a0 [.string a0] from rfl) (Reps.none _ _))); intro v780 w9 ho10 hb hg_ hnew_; clear hg_ hnew_; (first | rw [← Ny779.out] at ho10 | (simp only [Int.reduceToNat] at ho10; rw [← Ny779.out] at ho10)); have HO781 := Aside0.mk (Kd.R_lower ho10 (below_size (pB_ HB.out))); replace HB := Aside0.mk (below_step (pB_ HB.out) hb); clear hb ho10; obtain ⟨Ao11, co11, eo11⟩ := Kd.R_slice HO781.out; subst eo11) | ((with_reducible refine gate_callee (f := 54) rfl ?_); refine gL_ 11 Try.func54 rfl #[.string a1, .slice Ao11 y779.length co11] ?_; (with_reducible refine (impl_odd.calls k a1 _ _ y779 t782 true _ ?side1 ?side2 A3.out).mono ?_); (case side1 => exact pC_ (Kd.R_reads' HO781.out).2.2); (case side2 => exact (Kd.R_reads' HO781.out).2.1); rintro e w12 ⟨v783, rfl, ho0, hb⟩; refine ⟨_, rfl, ?_⟩; have HO784 := Aside0.mk (Kd.V_lower (Kd.V_mono (ok' := fun k_ => some k_ ≠ (.slice Ao11 y779.length co11 : Value).ownBlock) ho0 (fun k_ hk_ => (Kd.fresh' (Kd.R_lt (pR_ HO781.out)) k_ hk_))) (below_size (pB_ HB.out))); replace HO781 := Aside0.mk (Kd.R_below (pR_ HO781.out) hb); replace HB := Aside0.mk (below_step (pB_ HB.out) hb); clear hb ho0) | ((with_reducible refine gate_callee (f := 41) rfl ?_); refine gL_ 18 Try.func41 rfl #[.string a0] ?_; (with_reducible refine (impl_natOf.calls k a0 t786 _ A5.out).mono ?_); rintro e w13 ⟨v787, rfl, ho0, hb⟩; refine ⟨_, rfl, ?_⟩; replace HO784 := Aside0.mk (Kd.V_below (pV_ HO784.out) hb); have HO788 := Aside0.mk (Kd.V_lower (Kd.V_mono (ok' := fun k_ => some k_ ≠ (.slice Ao11 y779.length co11 : Value).ownBlock) ho0 (fun k_ hk_ => (Kd.fresh' (Kd.R_lt (pR_ HO781.out)) k_ hk_))) (below_size (pB_ HB.out))); replace HO781 := Aside0.mk (Kd.R_below (pR_ HO781.out) hb); replace HB := Aside0.mk (below_step (pB_ HB.out) hb); clear hb ho0; obtain ⟨Ao14, co14, eo14⟩ := Kd.V_slice HO784.out; subst eo14) | ((with_reducible refine gate_callee (f := 55) rfl ?_); refine gL_ 20 Try.func55 rfl #[.slice Ao14 t782.length co14] ?_; (with_reducible refine (impl_prime_shift.calls k _ _ t782 t789 _ ?side1 ?side2 A6.out).mono ?_); (case side1 => exact pC_ (Kd.V_reads' HO784.out).2.2); (case side2 => exact (Kd.V_reads' HO784.out).2.1); rintro e w15 ⟨v790, rfl, ho0, hb⟩; refine ⟨_, rfl, ?_⟩; replace HO784 := Aside0.mk (Kd.V_below (pV_ HO784.out) hb); replace HO788 := Aside0.mk (Kd.V_below (pV_ HO788.out) hb); have HO791 := Aside0.mk (Kd.V_lower (Kd.V_mono (ok' := fun k_ => some k_ ≠ (.slice Ao11 y779.length co11 : Value).ownBlock) ho0 (fun k_ hk_ => (Kd.fresh' (Kd.R_lt (pR_ HO781.out)) k_ hk_))) (below_size (pB_ HB.out))); replace HO781 := Aside0.mk (Kd.R_below (pR_ HO781.out) hb); replace HB := Aside0.mk (below_step (pB_ HB.out) hb); clear hb ho0; obtain ⟨Ao16, co16, eo16⟩ := Kd.V_slice HO788.out; subst eo16; obtain ⟨Ao17, co17, eo17⟩ := Kd.V_slice HO791.out; subst eo17) | ((with_reducible refine gate_callee (f := 51) rfl ?_); refine gL_ 21 Try.func51 rfl #[.slice Ao14 t782.length co14, .slice Ao16 t786.length co16, .slice Ao17 t789.length co17] ?_; (with_reducible refine (impl_prime_mul.calls k _ _ t782 _ _ t786 _ _ t789 t792 _ ?side1 ?side2 ?side3 ?side4 ?side5 ?side6 A7.out).mono ?_); (case side1 => exact pC_ (Kd.V_reads' HO784.out).2.2); (case side2 => exact (Kd.V_reads' HO784.out).2.1); (case side3 => exact pC_ (Kd.V_reads' HO788.out).2.2); (case side4 => exact (Kd.V_reads' HO788.out).2.1); (case side5 => exact pC_ (Kd.V_reads' HO791.out).2.2); (case side6 => exact (Kd.V_reads' HO791.out).2.1); rintro e w18 ⟨v793, rfl, ho0, hb⟩; refine ⟨_, rfl, ?_⟩; replace HO784 := Aside0.mk (Kd.V_below (pV_ HO784.out) hb); replace HO788 := Aside0.mk (Kd.V_below (pV_ HO788.out) hb); replace HO791 := Aside0.mk (Kd.V_below (pV_ HO791.out) hb); have HO794 := Aside0.mk (Kd.V_lower (Kd.V_mono (ok' := fun k_ => some k_ ≠ (.slice Ao11 y779.length co11 : Value).ownBlock) ho0 (fun k_ hk_ => (Kd.fresh' (Kd.R_lt (pR_ HO781.out)) k_ hk_))) (below_size (pB_ HB.out))); replace HO781 := Aside0.mk (Kd.R_below (pR_ HO781.out) hb); replace HB := Aside0.mk (below_step (pB_ HB.out) hb); clear hb ho0; obtain ⟨Ao19, co19, eo19⟩ := Kd.V_slice HO794.out; subst eo19) | ((with_reducible refine gate_callee (f := 42) rfl ?_); refine gL_ 22 Try.func42 rfl #[.slice Ao19 t792.length co19] ?_; (with_reducible refine (impl_nat_text.calls k _ _ t792 t795 _ ?side1 ?side2 A8.out).mono ?_); (case side1 => exact pC_ (Kd.V_reads' HO794.out).2.2); (case side2 => exact (Kd.V_reads' HO794.out).2.1); rintro e w20 ⟨rfl, hb⟩; refine ⟨_, rfl, ?_⟩; replace HO781 := Aside0.mk (Kd.R_below (pR_ HO781.out) hb); replace HO784 := Aside0.mk (Kd.V_below (pV_ HO784.out) hb); replace HO788 := Aside0.mk (Kd.V_below (pV_ HO788.out) hb); replace HO791 := Aside0.mk (Kd.V_below (pV_ HO791.out) hb); replace HO794 := Aside0.mk (Kd.V_below (pV_ HO794.out) hb); replace HB := Aside0.mk (below_step (pB_ HB.out) hb); clear hb))
    go_ret
    exact ⟨by first | rfl | (simp [errW_none, errW_some] <;> rfl) | (simp [*, errW_none, errW_some] <;> rfl), pB_ HB.out⟩
  · replace c4 := Bool.eq_false_iff.mpr c4
    subst c4
    have H1 : (some (⟨#[]⟩ : ByteArray)) = some r := by rw [if_neg (show ¬ (false = true) by decide)] at H; exact H
    clear H
    have H := H1
    clear H1
    obtain rfl := Option.some.inj H
    go_enter Try.func25, Try.ntmps25
    go_wp2_with (first | ((with_reducible refine gate_dst (N := 10) rfl ?_); refine Kd.R_lit Kd.string _ 9 ?hg (N := 10) ?hd (xs := ([a0] : List ByteArray)) (inner := [.string a0]) (ok := fun _ => True) (okp := fun _ => True) ?hr ?hp (fun _ hk => hk) trivial (Below.refl _ _) (Nat.le_refl _) (by simp) ?_; (case hd => rfl); (case hg => rfl); (case hr => first | (go_simp; done) | (go_simp; rfl)); (case hp => exact (Reps.one (show Kd.M Kd.string _ _ _ a0 [.string a0] from rfl) (Reps.none _ _))); intro v780 w21 ho22 hb hg_ hnew_; clear hg_ hnew_; (first | rw [← Ny779.out] at ho22 | (simp only [Int.reduceToNat] at ho22; rw [← Ny779.out] at ho22)); have HO781 := Aside0.mk (Kd.R_lower ho22 (below_size (pB_ HB.out))); replace HB := Aside0.mk (below_step (pB_ HB.out) hb); clear hb ho22; obtain ⟨Ao23, co23, eo23⟩ := Kd.R_slice HO781.out; subst eo23) | ((with_reducible refine gate_callee (f := 54) rfl ?_); refine gL_ 11 Try.func54 rfl #[.string a1, .slice Ao23 y779.length co23] ?_; (with_reducible refine (impl_odd.calls k a1 _ _ y779 t782 false _ ?side1 ?side2 A3.out).mono ?_); (case side1 => exact pC_ (Kd.R_reads' HO781.out).2.2); (case side2 => exact (Kd.R_reads' HO781.out).2.1); rintro e w24 ⟨v783, rfl, ho0, hb⟩; refine ⟨_, rfl, ?_⟩; have HO784 := Aside0.mk (Kd.V_lower (Kd.V_mono (ok' := fun k_ => some k_ ≠ (.slice Ao23 y779.length co23 : Value).ownBlock) ho0 (fun k_ hk_ => (Kd.fresh' (Kd.R_lt (pR_ HO781.out)) k_ hk_))) (below_size (pB_ HB.out))); replace HO781 := Aside0.mk (Kd.R_below (pR_ HO781.out) hb); replace HB := Aside0.mk (below_step (pB_ HB.out) hb); clear hb ho0))
    go_ret
    exact ⟨by first | rfl | (simp [errW_none, errW_some] <;> rfl) | (simp [*, errW_none, errW_some] <;> rfl), pB_ HB.out⟩

/-! ### laws_FnExactShiftIn: function 9 -/
def laws_FnExactShiftIn.f (k : Nat) (a0 : ByteArray) (a1 : ByteArray) : Option (Bool) := if (a0.size : Int) > 1048576 then (some true) else (if (a1.size : Int) > 1048576 then (some true) else ((spec_ShiftIn.f k a0 a1).bind fun t796 => ((impl_ShiftIn.f k a0 a1).bind fun t797 => (if t797.toList = t796.toList then (some true) else (some false)))))
set_option maxHeartbeats 8000000 in
set_option maxRecDepth 100000 in
theorem laws_FnExactShiftIn.calls (k : Nat) (a0 : ByteArray) (a1 : ByteArray) (r : Bool) (w : World) (h : laws_FnExactShiftIn.f k a0 a1 = some r) :
    Calls Try.prog 9 #[.string a0, .string a1] w fun e w' => e = .returned (.bool r) ∧ Below w.heap.size w w' := by
  have HB := Aside0.mk (Below.refl w.heap.size w)
  have H : (if (a0.size : Int) > 1048576 then (some true) else (if (a1.size : Int) > 1048576 then (some true) else ((spec_ShiftIn.f k a0 a1).bind fun t796 => ((impl_ShiftIn.f k a0 a1).bind fun t797 => (if t797.toList = t796.toList then (some true) else (some false)))))) = some r := h
  clear h
  by_cases c3 : (a0.size : Int) > 1048576
  · rw [if_pos c3] at H
    have c3b0 : decide (1048576 < (a0.size : Int)) = true := decide_eq_true c3
    have c3b1 : decide (1048576 < a0.size) = true := decide_eq_true (by omega)
    clear c3
    obtain rfl := Option.some.inj H
    go_enter Try.func9, Try.ntmps9
    go_wp2
    go_ret
    exact ⟨by first | rfl | (simp [errW_none, errW_some] <;> rfl) | (simp [*, errW_none, errW_some] <;> rfl), pB_ HB.out⟩
  rw [if_neg c3] at H
  have c3b0 : decide (1048576 < (a0.size : Int)) = false := decide_eq_false c3
  have c3b1 : decide (1048576 < a0.size) = false := decide_eq_false (by omega)
  clear c3
  by_cases c4 : (a1.size : Int) > 1048576
  · rw [if_pos c4] at H
    have c4b0 : decide (1048576 < (a1.size : Int)) = true := decide_eq_true c4
    have c4b1 : decide (1048576 < a1.size) = true := decide_eq_true (by omega)
    clear c4
    obtain rfl := Option.some.inj H
    go_enter Try.func9, Try.ntmps9
    go_wp2
    go_ret
    exact ⟨by first | rfl | (simp [errW_none, errW_some] <;> rfl) | (simp [*, errW_none, errW_some] <;> rfl), pB_ HB.out⟩
  rw [if_neg c4] at H
  have c4b0 : decide (1048576 < (a1.size : Int)) = false := decide_eq_false c4
  have c4b1 : decide (1048576 < a1.size) = false := decide_eq_false (by omega)
  clear c4
  replace H := Option.bind_eq_some_iff.mp H
  obtain ⟨t796, A50, H⟩ := H
  have A5 := Aside0.mk A50
  clear A50
  replace H := Option.bind_eq_some_iff.mp H
  obtain ⟨t797, A60, H⟩ := H
  have A6 := Aside0.mk A60
  clear A60
  by_cases c7 : t797.toList = t796.toList
  rotate_left
  · rw [if_neg c7] at H
    have c7b0 : (t797.toList == t796.toList) = false := beq_eq_false_iff_ne.mpr c7
    have c7b1 : (t797.toList != t796.toList) = true := bne_iff_ne.mpr c7
    obtain rfl := Option.some.inj H
    go_enter Try.func9, Try.ntmps9
    go_wp2_with (first | ((with_reducible refine gate_callee (f := 24) rfl ?_); refine gL_ 15 Try.func24 rfl #[.string a0, .string a1] ?_; (with_reducible refine (spec_ShiftIn.calls k a0 a1 t796 _ A5.out).mono ?_); rintro e w10 ⟨rfl, hb⟩; refine ⟨_, rfl, ?_⟩; replace HB := Aside0.mk (below_step (pB_ HB.out) hb); clear hb) | ((with_reducible refine gate_callee (f := 25) rfl ?_); refine gL_ 18 Try.func25 rfl #[.string a0, .string a1] ?_; (with_reducible refine (impl_ShiftIn.calls k a0 a1 t797 _ A6.out).mono ?_); rintro e w11 ⟨rfl, hb⟩; refine ⟨_, rfl, ?_⟩; replace HB := Aside0.mk (below_step (pB_ HB.out) hb); clear hb))
    go_ret
    exact ⟨by first | rfl | (simp [errW_none, errW_some] <;> rfl) | (simp [*, errW_none, errW_some] <;> rfl), pB_ HB.out⟩

  rw [if_pos c7] at H
  have c7b0 : (t797.toList == t796.toList) = true := beq_iff_eq.mpr c7
  have c7b1 : (t797.toList != t796.toList) = false := bne_eq_false_iff_eq.mpr c7
  clear c7
  obtain rfl := Option.some.inj H
  go_enter Try.func9, Try.ntmps9
  go_wp2_with (first | ((with_reducible refine gate_callee (f := 24) rfl ?_); refine gL_ 15 Try.func24 rfl #[.string a0, .string a1] ?_; (with_reducible refine (spec_ShiftIn.calls k a0 a1 t796 _ A5.out).mono ?_); rintro e w8 ⟨rfl, hb⟩; refine ⟨_, rfl, ?_⟩; replace HB := Aside0.mk (below_step (pB_ HB.out) hb); clear hb) | ((with_reducible refine gate_callee (f := 25) rfl ?_); refine gL_ 18 Try.func25 rfl #[.string a0, .string a1] ?_; (with_reducible refine (impl_ShiftIn.calls k a0 a1 t797 _ A6.out).mono ?_); rintro e w9 ⟨rfl, hb⟩; refine ⟨_, rfl, ?_⟩; replace HB := Aside0.mk (below_step (pB_ HB.out) hb); clear hb))
  go_ret
  exact ⟨by first | rfl | (simp [errW_none, errW_some] <;> rfl) | (simp [*, errW_none, errW_some] <;> rfl), pB_ HB.out⟩
/-- THE ONE PURE STATEMENT of laws_FnExactShiftIn: yours. -/
def laws_FnExactShiftIn.Pure : Prop := ∀ (a0 : ByteArray) (a1 : ByteArray), a0.size ≤ 140737488351232 → a1.size ≤ 140737488351232 → ∃ k, laws_FnExactShiftIn.f k a0 a1 = some true
theorem laws_FnExactShiftIn.walk (P : laws_FnExactShiftIn.Pure) (a0 : ByteArray) (a1 : ByteArray) (w : World) (w0 : a0.size ≤ 140737488351232) (w1 : a1.size ≤ 140737488351232) :
    Calls Try.prog 9 #[.string a0, .string a1] w fun e w' => e = .returned (.bool true) ∧ Below w.heap.size w w' := by
  obtain ⟨k, h⟩ := P a0 a1 w0 w1
  refine (laws_FnExactShiftIn.calls k a0 a1 true w h).mono ?_
  rintro e w' ⟨rfl, hd⟩
  exact ⟨rfl, hd⟩

end Go.Proofs.Ytghhnjhjhjbljaa.F
