-- Made for this seat by a program of this session (wip/fork, wip/slim.py). Lean checks it.
import Derived.Test.YtghhnjhjhjbljaaFx0
import Derived.Test.YtghhnjhjhjbljaaZB0
import Derived.Test.YtghhnjhjhjbljaaZB1
import Derived.Test.YtghhnjhjhjbljaaZB2
import Derived.Test.YtghhnjhjhjbljaaZB3
import Derived.Test.YtghhnjhjhjbljaaZB5
namespace Go.Proofs.Ytghhnjhjhjbljaa.F
open Go.RowKit Go.Proofs.YtghhnjhjhjbljaaW.PrintWords Go.Proofs.YtghhnjhjhjbljaaW.PrintLast Go.Proofs.YtghhnjhjhjbljaaW.PrintMore
attribute [local go_sem] max2_int min2_int max_two min_two max_three min_three max_four min_four   -- for this text's walks alone
set_option linter.unusedVariables false
set_option linter.unusedSimpArgs false

/-! ### impl_DivGreat: function 15 -/
def impl_DivGreat.j0 : Nat → ByteArray → ByteArray → Bool → Option (ByteArray × ByteArray × Bool)
  | 0, _, _, _ => none
  | k + 1, x0, x1, x17 => if x17 = true then (some ((⟨#[]⟩ : ByteArray), (⟨#[]⟩ : ByteArray), false)) else ((impl_natOf.f k x0).bind fun t515 => ((impl_natOf.f k x1).bind fun t518 => ((impl_nat_over.f k t515 t518).bind fun bt521 => ((impl_nat_text.f k bt521.1).bind fun t527 => ((impl_nat_text.f k bt521.2).bind fun t528 => (some (t527, t528, true)))))))
def impl_DivGreat.f (k : Nat) (a0 : ByteArray) (a1 : ByteArray) : Option (ByteArray × ByteArray × Bool) := (impl_areGreat.f k (([a0, a1] : List ByteArray))).bind fun t514 => (if t514 = true then (impl_DivGreat.j0 k a0 a1 (a1.toList == ([] : List UInt8))) else (impl_DivGreat.j0 k a0 a1 true))
set_option maxHeartbeats 8000000 in
set_option maxRecDepth 100000 in
theorem impl_DivGreat.calls (k : Nat) (a0 : ByteArray) (a1 : ByteArray) (r1 : ByteArray) (r2 : ByteArray) (r3 : Bool) (w : World) (h : impl_DivGreat.f k a0 a1 = some (r1, r2, r3)) :
    Calls Try.prog 15 #[.string a0, .string a1] w fun e w' => e = .returned (.tuple #[.string r1, .string r2, .bool r3]) ∧ Below w.heap.size w w' := by
  have HB := Aside0.mk (Below.refl w.heap.size w)
  have H : ((impl_areGreat.f k (([a0, a1] : List ByteArray))).bind fun t514 => (if t514 = true then (impl_DivGreat.j0 k a0 a1 (a1.toList == ([] : List UInt8))) else (impl_DivGreat.j0 k a0 a1 true))) = some (r1, r2, r3) := h
  clear h
  have HC3 := Aside0.mk H
  clear H
  go_enter Try.func15, Try.ntmps15
  go_upto_region 1 with (fail)
  go_cut [17] (fun v17 wc => ∃ (kq : Nat) (x17_2 : Bool), v17 = .bool x17_2 ∧ Aside0 (impl_DivGreat.j0 kq a0 a1 x17_2 = some (r1, r2, r3)) ∧ Aside0 (kq ≤ k) ∧ Aside0 (Below w.heap.size w wc))
  case first =>
    have H := HC3.out
    clear HC3
    obtain ⟨y511, hy511⟩ : ∃ y_ : List ByteArray, y_ = (([a0, a1] : List ByteArray)) := ⟨_, rfl⟩
    replace H : ((impl_areGreat.f k y511).bind fun t514 => (if t514 = true then (impl_DivGreat.j0 k a0 a1 (a1.toList == ([] : List UInt8))) else (impl_DivGreat.j0 k a0 a1 true))) = some (r1, r2, r3) := by first | (rw [hy511]; with_reducible exact H) | (have H2_ := (Option.bind_some _ _).symm.trans H; rw [hy511]; with_reducible exact H2_) | (have H2_ := (Option.bind_some _ _).symm.trans H; with_reducible exact H2_) | with_reducible exact H | (rw [hy511]; exact H) | exact H
    have Ny511 := Aside0.mk hy511
    clear hy511
    replace H := Option.bind_eq_some_iff.mp H
    obtain ⟨t514, A40, H⟩ := H
    have A4 := Aside0.mk A40
    clear A40
    by_cases c5 : t514 = true
    · subst c5
      have H1 : (impl_DivGreat.j0 k a0 a1 (a1.toList == ([] : List UInt8))) = some (r1, r2, r3) := by rw [if_pos rfl] at H; exact H
      clear H
      have H := H1
      clear H1
      have H' := Aside0.mk H
      clear H
      go_wp2_with (first | ((with_reducible refine gate_dst (N := 11) rfl ?_); refine Kd.R_lit Kd.string _ 9 ?hg (N := 11) ?hd (xs := ([a0, a1] : List ByteArray)) (inner := [.string a0, .string a1]) (ok := fun _ => True) (okp := fun _ => True) ?hr ?hp (fun _ hk => hk) trivial (Below.refl _ _) (Nat.le_refl _) (by simp) ?_; (case hd => rfl); (case hg => rfl); (case hr => first | (go_simp; done) | (go_simp; rfl)); (case hp => exact (Reps.one (show Kd.M Kd.string _ _ _ a0 [.string a0] from rfl) (Reps.one (show Kd.M Kd.string _ _ _ a1 [.string a1] from rfl) (Reps.none _ _)))); intro v512 w6 ho7 hb hg_ hnew_; clear hg_ hnew_; (first | rw [← Ny511.out] at ho7 | (simp only [Int.reduceToNat] at ho7; rw [← Ny511.out] at ho7)); have HO513 := Aside0.mk (Kd.R_lower ho7 (below_size (pB_ HB.out))); replace HB := Aside0.mk (below_step (pB_ HB.out) hb); clear hb ho7; obtain ⟨Ao8, co8, eo8⟩ := Kd.R_slice HO513.out; subst eo8) | ((with_reducible refine gate_callee (f := 45) rfl ?_); refine gL_ 12 Try.func45 rfl #[.slice Ao8 y511.length co8] ?_; (with_reducible refine (impl_areGreat.calls k _ _ y511 true _ ?side1 ?side2 A4.out).mono ?_); (case side1 => exact pC_ (Kd.R_reads' HO513.out).2.2); (case side2 => exact (Kd.R_reads' HO513.out).2.1); rintro e w' ⟨rfl, ⟨nd, rfl⟩⟩; refine ⟨_, rfl, ?_⟩))
      go_meet
      case rel => exact ⟨_, ((a1.toList == ([] : List UInt8))), (by first | rfl | (simp; done) | (simp [*]; done)), H', ⟨by first | omega | exact Nat.le_refl _⟩, ⟨pB_ HB.out⟩⟩
    · replace c5 := Bool.eq_false_iff.mpr c5
      subst c5
      have H1 : (impl_DivGreat.j0 k a0 a1 true) = some (r1, r2, r3) := by rw [if_neg (show ¬ (false = true) by decide)] at H; exact H
      clear H
      have H := H1
      clear H1
      have H' := Aside0.mk H
      clear H
      go_wp2_with (first | ((with_reducible refine gate_dst (N := 11) rfl ?_); refine Kd.R_lit Kd.string _ 9 ?hg (N := 11) ?hd (xs := ([a0, a1] : List ByteArray)) (inner := [.string a0, .string a1]) (ok := fun _ => True) (okp := fun _ => True) ?hr ?hp (fun _ hk => hk) trivial (Below.refl _ _) (Nat.le_refl _) (by simp) ?_; (case hd => rfl); (case hg => rfl); (case hr => first | (go_simp; done) | (go_simp; rfl)); (case hp => exact (Reps.one (show Kd.M Kd.string _ _ _ a0 [.string a0] from rfl) (Reps.one (show Kd.M Kd.string _ _ _ a1 [.string a1] from rfl) (Reps.none _ _)))); intro v512 w9 ho10 hb hg_ hnew_; clear hg_ hnew_; (first | rw [← Ny511.out] at ho10 | (simp only [Int.reduceToNat] at ho10; rw [← Ny511.out] at ho10)); have HO513 := Aside0.mk (Kd.R_lower ho10 (below_size (pB_ HB.out))); replace HB := Aside0.mk (below_step (pB_ HB.out) hb); clear hb ho10; obtain ⟨Ao11, co11, eo11⟩ := Kd.R_slice HO513.out; subst eo11) | ((with_reducible refine gate_callee (f := 45) rfl ?_); refine gL_ 12 Try.func45 rfl #[.slice Ao11 y511.length co11] ?_; (with_reducible refine (impl_areGreat.calls k _ _ y511 false _ ?side1 ?side2 A4.out).mono ?_); (case side1 => exact pC_ (Kd.R_reads' HO513.out).2.2); (case side2 => exact (Kd.R_reads' HO513.out).2.1); rintro e w' ⟨rfl, ⟨nd, rfl⟩⟩; refine ⟨_, rfl, ?_⟩))
      go_meet
      case rel => exact ⟨_, (true), (by first | rfl | (simp; done) | (simp [*]; done)), H', ⟨by first | omega | exact Nat.le_refl _⟩, ⟨pB_ HB.out⟩⟩
  clear HC3
  try clear c1
  try clear p2
  try clear c4
  try clear c5
  obtain ⟨kq, x17_2, rfl, HA, HJ2, HB⟩ := hcut
  rcases kq with _ | kj2
  · exact absurd HA.out (by simp [impl_DivGreat.j0])
  have H := HA.out
  clear HA
  simp only [impl_DivGreat.j0] at H
  by_cases c12 : x17_2 = true
  · subst c12
    have H1 : (some ((⟨#[]⟩ : ByteArray), (⟨#[]⟩ : ByteArray), false)) = some (r1, r2, r3) := by rw [if_pos rfl] at H; exact H
    clear H
    have H := H1
    clear H1
    simp only [Option.some.injEq, Prod.mk.injEq] at H
    obtain ⟨rfl, rfl, rfl⟩ := H
    go_wp2
    go_ret3
    exact ⟨by first | rfl | (simp [errW_none, errW_some] <;> rfl) | (simp [*, errW_none, errW_some] <;> rfl), pB_ HB.out⟩
  · replace c12 := Bool.eq_false_iff.mpr c12
    subst c12
    have H1 : ((impl_natOf.f kj2 a0).bind fun t515 => ((impl_natOf.f kj2 a1).bind fun t518 => ((impl_nat_over.f kj2 t515 t518).bind fun bt521 => ((impl_nat_text.f kj2 bt521.1).bind fun t527 => ((impl_nat_text.f kj2 bt521.2).bind fun t528 => (some (t527, t528, true))))))) = some (r1, r2, r3) := by rw [if_neg (show ¬ (false = true) by decide)] at H; exact H
    clear H
    have H := H1
    clear H1
    replace H := Option.bind_eq_some_iff.mp H
    obtain ⟨t515, A130, H⟩ := H
    have A13 := Aside0.mk A130
    clear A130
    replace H := Option.bind_eq_some_iff.mp H
    obtain ⟨t518, A140, H⟩ := H
    have A14 := Aside0.mk A140
    clear A140
    replace H := Option.bind_eq_some_iff.mp H
    obtain ⟨⟨t521, t524⟩, A150, H⟩ := H
    replace H : ((impl_nat_text.f kj2 t521).bind fun t527 => ((impl_nat_text.f kj2 t524).bind fun t528 => (some (t527, t528, true)))) = some (r1, r2, r3) := H
    have A15 := Aside0.mk A150
    clear A150
    replace H := Option.bind_eq_some_iff.mp H
    obtain ⟨t527, A160, H⟩ := H
    have A16 := Aside0.mk A160
    clear A160
    replace H := Option.bind_eq_some_iff.mp H
    obtain ⟨t528, A170, H⟩ := H
    have A17 := Aside0.mk A170
    clear A170
    simp only [Option.some.injEq, Prod.mk.injEq] at H
    obtain ⟨rfl, rfl, rfl⟩ := H
    go_wp2_with (first | ((with_reducible refine gate_callee (f := 41) rfl ?_); refine gL_ 20 Try.func41 rfl #[.string a0] ?_; (with_reducible refine (impl_natOf.calls kj2 a0 t515 _ A13.out).mono ?_); rintro e w18 ⟨v516, rfl, ho0, hb⟩; refine ⟨_, rfl, ?_⟩; have HO517 := Aside0.mk (Kd.V_lower (Kd.V_mono (ok' := fun k_ => True) ho0 (fun k_ hk_ => trivial)) (below_size (pB_ HB.out))); replace HB := Aside0.mk (below_step (pB_ HB.out) hb); clear hb ho0) | ((with_reducible refine gate_callee (f := 41) rfl ?_); refine gL_ 22 Try.func41 rfl #[.string a1] ?_; (with_reducible refine (impl_natOf.calls kj2 a1 t518 _ A14.out).mono ?_); rintro e w19 ⟨v519, rfl, ho0, hb⟩; refine ⟨_, rfl, ?_⟩; replace HO517 := Aside0.mk (Kd.V_below (pV_ HO517.out) hb); have HO520 := Aside0.mk (Kd.V_lower (Kd.V_mono (ok' := fun k_ => True) ho0 (fun k_ hk_ => trivial)) (below_size (pB_ HB.out))); replace HB := Aside0.mk (below_step (pB_ HB.out) hb); clear hb ho0; obtain ⟨Ao20, co20, eo20⟩ := Kd.V_slice HO517.out; subst eo20; obtain ⟨Ao21, co21, eo21⟩ := Kd.V_slice HO520.out; subst eo21) | ((with_reducible refine gate_callee (f := 46) rfl ?_); refine gL_ 23 Try.func46 rfl #[.slice Ao20 t515.length co20, .slice Ao21 t518.length co21] ?_; (with_reducible refine (impl_nat_over.calls kj2 (fun k_ => True) _ _ t515 _ _ t518 t521 t524 _ ?side1 ?side2 ?side3 A15.out).mono ?_); (case side1 => exact HO517.out); (case side2 => exact pC_ (Kd.V_reads' HO520.out).2.2); (case side3 => exact (Kd.V_reads' HO520.out).2.1); rintro e w22 ⟨v522, v525, rfl, ho0, ho1, hb⟩; refine ⟨_, rfl, ?_⟩; replace HO517 := Aside0.mk (Kd.V_below (pV_ HO517.out) hb); replace HO520 := Aside0.mk (Kd.V_below (pV_ HO520.out) hb); have HO523 := Aside0.mk (Kd.V_lower (Kd.V_mono (ok' := fun k_ => True) ho0 (fun k_ hk_ => trivial)) (below_size (pB_ HB.out))); have HO526 := Aside0.mk (Kd.V_lower (Kd.V_mono (ok' := fun k_ => True) ho1 (fun k_ hk_ => trivial)) (below_size (pB_ HB.out))); replace HB := Aside0.mk (below_step (pB_ HB.out) hb); clear hb ho0 ho1; obtain ⟨Ao23, co23, eo23⟩ := Kd.V_slice HO523.out; subst eo23) | ((with_reducible refine gate_callee (f := 42) rfl ?_); refine gL_ 27 Try.func42 rfl #[.slice Ao23 t521.length co23] ?_; (with_reducible refine (impl_nat_text.calls kj2 _ _ t521 t527 _ ?side1 ?side2 A16.out).mono ?_); (case side1 => exact pC_ (Kd.V_reads' HO523.out).2.2); (case side2 => exact (Kd.V_reads' HO523.out).2.1); rintro e w24 ⟨rfl, hb⟩; refine ⟨_, rfl, ?_⟩; replace HO517 := Aside0.mk (Kd.V_below (pV_ HO517.out) hb); replace HO520 := Aside0.mk (Kd.V_below (pV_ HO520.out) hb); replace HO523 := Aside0.mk (Kd.V_below (pV_ HO523.out) hb); replace HO526 := Aside0.mk (Kd.V_below (pV_ HO526.out) hb); replace HB := Aside0.mk (below_step (pB_ HB.out) hb); clear hb; obtain ⟨Ao25, co25, eo25⟩ := Kd.V_slice HO526.out; subst eo25) | ((with_reducible refine gate_callee (f := 42) rfl ?_); refine gL_ 29 Try.func42 rfl #[.slice Ao25 t524.length co25] ?_; (with_reducible refine (impl_nat_text.calls kj2 _ _ t524 t528 _ ?side1 ?side2 A17.out).mono ?_); (case side1 => exact pC_ (Kd.V_reads' HO526.out).2.2); (case side2 => exact (Kd.V_reads' HO526.out).2.1); rintro e w26 ⟨rfl, hb⟩; refine ⟨_, rfl, ?_⟩; replace HO517 := Aside0.mk (Kd.V_below (pV_ HO517.out) hb); replace HO520 := Aside0.mk (Kd.V_below (pV_ HO520.out) hb); replace HO523 := Aside0.mk (Kd.V_below (pV_ HO523.out) hb); replace HO526 := Aside0.mk (Kd.V_below (pV_ HO526.out) hb); replace HB := Aside0.mk (below_step (pB_ HB.out) hb); clear hb))
    go_ret3
    exact ⟨by first | rfl | (simp [errW_none, errW_some] <;> rfl) | (simp [*, errW_none, errW_some] <;> rfl), pB_ HB.out⟩

/-! ### laws_FnExactDivGreat: function 4 -/
def laws_FnExactDivGreat.f (k : Nat) (a0 : ByteArray) (a1 : ByteArray) : Option (Bool) := if (a0.size : Int) > 1048576 then (some true) else (if (a1.size : Int) > 1048576 then (some true) else ((spec_DivGreat.f k a0 a1).bind fun bt529 => ((impl_DivGreat.f k a0 a1).bind fun bt532 => (if bt532.1.toList = bt529.1.toList then (if bt532.2.1.toList = bt529.2.1.toList then (if (bt532.2.2 != bt529.2.2) = true then (some false) else (some true)) else (some false)) else (some false)))))
set_option maxHeartbeats 8000000 in
set_option maxRecDepth 100000 in
theorem laws_FnExactDivGreat.calls (k : Nat) (a0 : ByteArray) (a1 : ByteArray) (r : Bool) (w : World) (h : laws_FnExactDivGreat.f k a0 a1 = some r) :
    Calls Try.prog 4 #[.string a0, .string a1] w fun e w' => e = .returned (.bool r) ∧ Below w.heap.size w w' := by
  have HB := Aside0.mk (Below.refl w.heap.size w)
  have H : (if (a0.size : Int) > 1048576 then (some true) else (if (a1.size : Int) > 1048576 then (some true) else ((spec_DivGreat.f k a0 a1).bind fun bt529 => ((impl_DivGreat.f k a0 a1).bind fun bt532 => (if bt532.1.toList = bt529.1.toList then (if bt532.2.1.toList = bt529.2.1.toList then (if (bt532.2.2 != bt529.2.2) = true then (some false) else (some true)) else (some false)) else (some false)))))) = some r := h
  clear h
  by_cases c3 : (a0.size : Int) > 1048576
  · rw [if_pos c3] at H
    have c3b0 : decide (1048576 < (a0.size : Int)) = true := decide_eq_true c3
    have c3b1 : decide (1048576 < a0.size) = true := decide_eq_true (by omega)
    clear c3
    obtain rfl := Option.some.inj H
    go_enter Try.func4, Try.ntmps4
    go_wp2
    go_ret
    exact ⟨by first | rfl | (simp [errW_none, errW_some] <;> rfl) | (simp [*, errW_none, errW_some] <;> rfl), pB_ HB.out⟩
  rw [if_neg c3] at H
  have c3b0 : decide (1048576 < (a0.size : Int)) = false := decide_eq_false c3
  have c3b1 : decide (1048576 < a0.size) = false := decide_eq_false (by omega)
  clear c3
  by_cases c4 : (a1.size : Int) > 1048576
  · rw [if_pos c4] at H
    have c4b0 : decide (1048576 < (a1.size : Int)) = true := decide_eq_true c4
    have c4b1 : decide (1048576 < a1.size) = true := decide_eq_true (by omega)
    clear c4
    obtain rfl := Option.some.inj H
    go_enter Try.func4, Try.ntmps4
    go_wp2
    go_ret
    exact ⟨by first | rfl | (simp [errW_none, errW_some] <;> rfl) | (simp [*, errW_none, errW_some] <;> rfl), pB_ HB.out⟩
  rw [if_neg c4] at H
  have c4b0 : decide (1048576 < (a1.size : Int)) = false := decide_eq_false c4
  have c4b1 : decide (1048576 < a1.size) = false := decide_eq_false (by omega)
  clear c4
  replace H := Option.bind_eq_some_iff.mp H
  obtain ⟨⟨t529, t530, t531⟩, A50, H⟩ := H
  replace H : ((impl_DivGreat.f k a0 a1).bind fun bt532 => (if bt532.1.toList = t529.toList then (if bt532.2.1.toList = t530.toList then (if (bt532.2.2 != t531) = true then (some false) else (some true)) else (some false)) else (some false))) = some r := H
  have A5 := Aside0.mk A50
  clear A50
  replace H := Option.bind_eq_some_iff.mp H
  obtain ⟨⟨t532, t533, t534⟩, A60, H⟩ := H
  replace H : (if t532.toList = t529.toList then (if t533.toList = t530.toList then (if (t534 != t531) = true then (some false) else (some true)) else (some false)) else (some false)) = some r := H
  have A6 := Aside0.mk A60
  clear A60
  by_cases c7 : t532.toList = t529.toList
  rotate_left
  · rw [if_neg c7] at H
    have c7b0 : (t532.toList == t529.toList) = false := beq_eq_false_iff_ne.mpr c7
    have c7b1 : (t532.toList != t529.toList) = true := bne_iff_ne.mpr c7
    obtain rfl := Option.some.inj H
    go_enter Try.func4, Try.ntmps4
    go_wp2_with (first | ((with_reducible refine gate_callee (f := 14) rfl ?_); refine gL_ 20 Try.func14 rfl #[.string a0, .string a1] ?_; (with_reducible refine (spec_DivGreat.calls k a0 a1 t529 t530 t531 _ A5.out).mono ?_); rintro e w16 ⟨rfl, hb⟩; refine ⟨_, rfl, ?_⟩; replace HB := Aside0.mk (below_step (pB_ HB.out) hb); clear hb) | ((with_reducible refine gate_callee (f := 15) rfl ?_); refine gL_ 27 Try.func15 rfl #[.string a0, .string a1] ?_; (with_reducible refine (impl_DivGreat.calls k a0 a1 t532 t533 t534 _ A6.out).mono ?_); rintro e w17 ⟨rfl, hb⟩; refine ⟨_, rfl, ?_⟩; replace HB := Aside0.mk (below_step (pB_ HB.out) hb); clear hb))
    go_ret
    exact ⟨by first | rfl | (simp [errW_none, errW_some] <;> rfl) | (simp [*, errW_none, errW_some] <;> rfl), pB_ HB.out⟩

  rw [if_pos c7] at H
  have c7b0 : (t532.toList == t529.toList) = true := beq_iff_eq.mpr c7
  have c7b1 : (t532.toList != t529.toList) = false := bne_eq_false_iff_eq.mpr c7
  clear c7
  by_cases c8 : t533.toList = t530.toList
  rotate_left
  · rw [if_neg c8] at H
    have c8b0 : (t533.toList == t530.toList) = false := beq_eq_false_iff_ne.mpr c8
    have c8b1 : (t533.toList != t530.toList) = true := bne_iff_ne.mpr c8
    obtain rfl := Option.some.inj H
    go_enter Try.func4, Try.ntmps4
    go_wp2_with (first | ((with_reducible refine gate_callee (f := 14) rfl ?_); refine gL_ 20 Try.func14 rfl #[.string a0, .string a1] ?_; (with_reducible refine (spec_DivGreat.calls k a0 a1 t529 t530 t531 _ A5.out).mono ?_); rintro e w14 ⟨rfl, hb⟩; refine ⟨_, rfl, ?_⟩; replace HB := Aside0.mk (below_step (pB_ HB.out) hb); clear hb) | ((with_reducible refine gate_callee (f := 15) rfl ?_); refine gL_ 27 Try.func15 rfl #[.string a0, .string a1] ?_; (with_reducible refine (impl_DivGreat.calls k a0 a1 t532 t533 t534 _ A6.out).mono ?_); rintro e w15 ⟨rfl, hb⟩; refine ⟨_, rfl, ?_⟩; replace HB := Aside0.mk (below_step (pB_ HB.out) hb); clear hb))
    go_ret
    exact ⟨by first | rfl | (simp [errW_none, errW_some] <;> rfl) | (simp [*, errW_none, errW_some] <;> rfl), pB_ HB.out⟩
  rw [if_pos c8] at H
  have c8b0 : (t533.toList == t530.toList) = true := beq_iff_eq.mpr c8
  have c8b1 : (t533.toList != t530.toList) = false := bne_eq_false_iff_eq.mpr c8
  clear c8
  by_cases c9 : (t534 != t531) = true
  rotate_left
  · rw [if_neg c9] at H
    have c9b0 : (t534 != t531) = false := by simpa using c9
    (try (have c9b1 : decide (t534 = t531) = true := by simpa using c9))
    (try (have c9b2 : (t534 == t531) = true := by simpa using c9))
    clear c9
    obtain rfl := Option.some.inj H
    go_enter Try.func4, Try.ntmps4
    go_wp2_with (first | ((with_reducible refine gate_callee (f := 14) rfl ?_); refine gL_ 20 Try.func14 rfl #[.string a0, .string a1] ?_; (with_reducible refine (spec_DivGreat.calls k a0 a1 t529 t530 t531 _ A5.out).mono ?_); rintro e w12 ⟨rfl, hb⟩; refine ⟨_, rfl, ?_⟩; replace HB := Aside0.mk (below_step (pB_ HB.out) hb); clear hb) | ((with_reducible refine gate_callee (f := 15) rfl ?_); refine gL_ 27 Try.func15 rfl #[.string a0, .string a1] ?_; (with_reducible refine (impl_DivGreat.calls k a0 a1 t532 t533 t534 _ A6.out).mono ?_); rintro e w13 ⟨rfl, hb⟩; refine ⟨_, rfl, ?_⟩; replace HB := Aside0.mk (below_step (pB_ HB.out) hb); clear hb))
    go_ret
    exact ⟨by first | rfl | (simp [errW_none, errW_some] <;> rfl) | (simp [*, errW_none, errW_some] <;> rfl), pB_ HB.out⟩
  rw [if_pos c9] at H
  have c9b0 : (t534 != t531) = true := c9
  (try (have c9b1 : decide (t534 = t531) = false := by simpa using c9))
  (try (have c9b2 : (t534 == t531) = false := by simpa using c9))
  (try (have c9b3 : ¬ (t534 = t531) := by simpa using c9))
  clear c9
  obtain rfl := Option.some.inj H
  go_enter Try.func4, Try.ntmps4
  go_wp2_with (first | ((with_reducible refine gate_callee (f := 14) rfl ?_); refine gL_ 20 Try.func14 rfl #[.string a0, .string a1] ?_; (with_reducible refine (spec_DivGreat.calls k a0 a1 t529 t530 t531 _ A5.out).mono ?_); rintro e w10 ⟨rfl, hb⟩; refine ⟨_, rfl, ?_⟩; replace HB := Aside0.mk (below_step (pB_ HB.out) hb); clear hb) | ((with_reducible refine gate_callee (f := 15) rfl ?_); refine gL_ 27 Try.func15 rfl #[.string a0, .string a1] ?_; (with_reducible refine (impl_DivGreat.calls k a0 a1 t532 t533 t534 _ A6.out).mono ?_); rintro e w11 ⟨rfl, hb⟩; refine ⟨_, rfl, ?_⟩; replace HB := Aside0.mk (below_step (pB_ HB.out) hb); clear hb))
  go_ret
  exact ⟨by first | rfl | (simp [errW_none, errW_some] <;> rfl) | (simp [*, errW_none, errW_some] <;> rfl), pB_ HB.out⟩
/-- THE ONE PURE STATEMENT of laws_FnExactDivGreat: yours. -/
def laws_FnExactDivGreat.Pure : Prop := ∀ (a0 : ByteArray) (a1 : ByteArray), a0.size ≤ 140737488351232 → a1.size ≤ 140737488351232 → ∃ k, laws_FnExactDivGreat.f k a0 a1 = some true
theorem laws_FnExactDivGreat.walk (P : laws_FnExactDivGreat.Pure) (a0 : ByteArray) (a1 : ByteArray) (w : World) (w0 : a0.size ≤ 140737488351232) (w1 : a1.size ≤ 140737488351232) :
    Calls Try.prog 4 #[.string a0, .string a1] w fun e w' => e = .returned (.bool true) ∧ Below w.heap.size w w' := by
  obtain ⟨k, h⟩ := P a0 a1 w0 w1
  refine (laws_FnExactDivGreat.calls k a0 a1 true w h).mono ?_
  rintro e w' ⟨rfl, hd⟩
  exact ⟨rfl, hd⟩

/-! ### spec_RestOf: function 16 -/
def spec_RestOf.j0 : Nat → ByteArray → ByteArray → Bool → Option (ByteArray)
  | 0, _, _, _ => none
  | k + 1, x0, x1, x14 => if x14 = true then (some (⟨#[]⟩ : ByteArray)) else ((spec_l02In.f k x0).bind fun t537 => ((spec_l02In.f k x1).bind fun t540 => ((spec_l02Div.f k t537 t540).bind fun bt543 => ((spec_l02Out.f k bt543.2).bind fun t549 => (some t549)))))
def spec_RestOf.f (k : Nat) (a0 : ByteArray) (a1 : ByteArray) : Option (ByteArray) := (spec_l04Mod.f a1).bind fun t535 => (if t535 = true then ((spec_GreatOk.f a0).bind fun t536 => (spec_RestOf.j0 k a0 a1 (!t536))) else (spec_RestOf.j0 k a0 a1 true))
set_option maxHeartbeats 8000000 in
set_option maxRecDepth 100000 in
theorem spec_RestOf.calls (k : Nat) (a0 : ByteArray) (a1 : ByteArray) (r : ByteArray) (w : World) (h : spec_RestOf.f k a0 a1 = some r) :
    Calls Try.prog 16 #[.string a0, .string a1] w fun e w' => e = .returned (.string r) ∧ Below w.heap.size w w' := by
  have HB := Aside0.mk (Below.refl w.heap.size w)
  have H : ((spec_l04Mod.f a1).bind fun t535 => (if t535 = true then ((spec_GreatOk.f a0).bind fun t536 => (spec_RestOf.j0 k a0 a1 (!t536))) else (spec_RestOf.j0 k a0 a1 true))) = some r := h
  clear h
  have HC3 := Aside0.mk H
  clear H
  go_enter Try.func16, Try.ntmps16
  go_upto_region 1 with (fail)
  go_cut [14] (fun v14 wc => ∃ (kq : Nat) (x14_2 : Bool), v14 = .bool x14_2 ∧ Aside0 (spec_RestOf.j0 kq a0 a1 x14_2 = some r) ∧ Aside0 (kq ≤ k) ∧ Aside0 (Below w.heap.size w wc))
  case first =>
    have H := HC3.out
    clear HC3
    replace H := Option.bind_eq_some_iff.mp H
    obtain ⟨t535, A40, H⟩ := H
    have A4 := Aside0.mk A40
    clear A40
    by_cases c5 : t535 = true
    · subst c5
      have H1 : ((spec_GreatOk.f a0).bind fun t536 => (spec_RestOf.j0 k a0 a1 (!t536))) = some r := by rw [if_pos rfl] at H; exact H
      clear H
      have H := H1
      clear H1
      replace H := Option.bind_eq_some_iff.mp H
      obtain ⟨t536, A60, H⟩ := H
      have A6 := Aside0.mk A60
      clear A60
      have H' := Aside0.mk H
      clear H
      go_wp2_with (first | ((with_reducible refine gate_callee (f := 32) rfl ?_); refine gL_ 8 Try.func32 rfl #[.string a1] ?_; (with_reducible refine (spec_l04Mod.calls a1 true _ A4.out).mono ?_); rintro e w' ⟨rfl, ⟨nd, rfl⟩⟩; refine ⟨_, rfl, ?_⟩) | (go_at_call 43; (with_reducible refine (spec_GreatOk.calls a0 t536 _ A6.out).mono ?_); rintro e w' ⟨rfl, ⟨nd, rfl⟩⟩))
      go_meet
      case rel => exact ⟨_, (!t536), (by first | rfl | (simp; done) | (simp [*]; done)), H', ⟨by first | omega | exact Nat.le_refl _⟩, ⟨pB_ HB.out⟩⟩
    · replace c5 := Bool.eq_false_iff.mpr c5
      subst c5
      have H1 : (spec_RestOf.j0 k a0 a1 true) = some r := by rw [if_neg (show ¬ (false = true) by decide)] at H; exact H
      clear H
      have H := H1
      clear H1
      have H' := Aside0.mk H
      clear H
      go_wp2_with (first | ((with_reducible refine gate_callee (f := 32) rfl ?_); refine gL_ 8 Try.func32 rfl #[.string a1] ?_; (with_reducible refine (spec_l04Mod.calls a1 false _ A4.out).mono ?_); rintro e w' ⟨rfl, ⟨nd, rfl⟩⟩; refine ⟨_, rfl, ?_⟩))
      go_meet
      case rel => exact ⟨_, (true), (by first | rfl | (simp; done) | (simp [*]; done)), H', ⟨by first | omega | exact Nat.le_refl _⟩, ⟨pB_ HB.out⟩⟩
  clear HC3
  try clear c1
  try clear p2
  try clear c3
  try clear c5
  obtain ⟨kq, x14_2, rfl, HA, HJ2, HB⟩ := hcut
  rcases kq with _ | kj2
  · exact absurd HA.out (by simp [spec_RestOf.j0])
  have H := HA.out
  clear HA
  simp only [spec_RestOf.j0] at H
  by_cases c7 : x14_2 = true
  · subst c7
    have H1 : (some (⟨#[]⟩ : ByteArray)) = some r := by rw [if_pos rfl] at H; exact H
    clear H
    have H := H1
    clear H1
    obtain rfl := Option.some.inj H
    go_wp2
    go_ret
    exact ⟨by first | rfl | (simp [errW_none, errW_some] <;> rfl) | (simp [*, errW_none, errW_some] <;> rfl), pB_ HB.out⟩
  · replace c7 := Bool.eq_false_iff.mpr c7
    subst c7
    have H1 : ((spec_l02In.f kj2 a0).bind fun t537 => ((spec_l02In.f kj2 a1).bind fun t540 => ((spec_l02Div.f kj2 t537 t540).bind fun bt543 => ((spec_l02Out.f kj2 bt543.2).bind fun t549 => (some t549))))) = some r := by rw [if_neg (show ¬ (false = true) by decide)] at H; exact H
    clear H
    have H := H1
    clear H1
    replace H := Option.bind_eq_some_iff.mp H
    obtain ⟨t537, A80, H⟩ := H
    have A8 := Aside0.mk A80
    clear A80
    replace H := Option.bind_eq_some_iff.mp H
    obtain ⟨t540, A90, H⟩ := H
    have A9 := Aside0.mk A90
    clear A90
    replace H := Option.bind_eq_some_iff.mp H
    obtain ⟨⟨t543, t546⟩, A100, H⟩ := H
    replace H : ((spec_l02Out.f kj2 t546).bind fun t549 => (some t549)) = some r := H
    have A10 := Aside0.mk A100
    clear A100
    replace H := Option.bind_eq_some_iff.mp H
    obtain ⟨t549, A110, H⟩ := H
    have A11 := Aside0.mk A110
    clear A110
    obtain rfl := Option.some.inj H
    go_wp2_with (first | ((with_reducible refine gate_callee (f := 37) rfl ?_); refine gL_ 17 Try.func37 rfl #[.string a0] ?_; (with_reducible refine (spec_l02In.calls kj2 a0 t537 _ A8.out).mono ?_); rintro e w12 ⟨v538, rfl, ho0, hb⟩; refine ⟨_, rfl, ?_⟩; have HO539 := Aside0.mk (Kd.V_lower (Kd.V_mono (ok' := fun k_ => True) ho0 (fun k_ hk_ => trivial)) (below_size (pB_ HB.out))); replace HB := Aside0.mk (below_step (pB_ HB.out) hb); clear hb ho0) | ((with_reducible refine gate_callee (f := 37) rfl ?_); refine gL_ 19 Try.func37 rfl #[.string a1] ?_; (with_reducible refine (spec_l02In.calls kj2 a1 t540 _ A9.out).mono ?_); rintro e w13 ⟨v541, rfl, ho0, hb⟩; refine ⟨_, rfl, ?_⟩; replace HO539 := Aside0.mk (Kd.V_below (pV_ HO539.out) hb); have HO542 := Aside0.mk (Kd.V_lower (Kd.V_mono (ok' := fun k_ => True) ho0 (fun k_ hk_ => trivial)) (below_size (pB_ HB.out))); replace HB := Aside0.mk (below_step (pB_ HB.out) hb); clear hb ho0; obtain ⟨Ao14, co14, eo14⟩ := Kd.V_slice HO539.out; subst eo14; obtain ⟨Ao15, co15, eo15⟩ := Kd.V_slice HO542.out; subst eo15) | ((with_reducible refine gate_callee (f := 44) rfl ?_); refine gL_ 20 Try.func44 rfl #[.slice Ao14 t537.length co14, .slice Ao15 t540.length co15] ?_; (with_reducible refine (spec_l02Div.calls kj2 _ _ t537 _ _ t540 t543 t546 _ ?side1 ?side2 ?side3 ?side4 A10.out).mono ?_); (case side1 => exact pC_ (Kd.V_reads' HO539.out).2.2); (case side2 => exact (Kd.V_reads' HO539.out).2.1); (case side3 => exact pC_ (Kd.V_reads' HO542.out).2.2); (case side4 => exact (Kd.V_reads' HO542.out).2.1); rintro e w16 ⟨v544, v547, rfl, ho0, ho1, hb⟩; refine ⟨_, rfl, ?_⟩; replace HO539 := Aside0.mk (Kd.V_below (pV_ HO539.out) hb); replace HO542 := Aside0.mk (Kd.V_below (pV_ HO542.out) hb); have HO545 := Aside0.mk (Kd.V_lower (Kd.V_mono (ok' := fun k_ => True) ho0 (fun k_ hk_ => trivial)) (below_size (pB_ HB.out))); have HO548 := Aside0.mk (Kd.V_lower (Kd.V_mono (ok' := fun k_ => True) ho1 (fun k_ hk_ => trivial)) (below_size (pB_ HB.out))); replace HB := Aside0.mk (below_step (pB_ HB.out) hb); clear hb ho0 ho1; obtain ⟨Ao17, co17, eo17⟩ := Kd.V_slice HO548.out; subst eo17) | ((with_reducible refine gate_callee (f := 35) rfl ?_); refine gL_ 24 Try.func35 rfl #[.slice Ao17 t546.length co17] ?_; (with_reducible refine (spec_l02Out.calls kj2 _ _ t546 t549 _ ?side1 ?side2 A11.out).mono ?_); (case side1 => exact pC_ (Kd.V_reads' HO548.out).2.2); (case side2 => exact (Kd.V_reads' HO548.out).2.1); rintro e w18 ⟨rfl, hb⟩; refine ⟨_, rfl, ?_⟩; replace HO539 := Aside0.mk (Kd.V_below (pV_ HO539.out) hb); replace HO542 := Aside0.mk (Kd.V_below (pV_ HO542.out) hb); replace HO545 := Aside0.mk (Kd.V_below (pV_ HO545.out) hb); replace HO548 := Aside0.mk (Kd.V_below (pV_ HO548.out) hb); replace HB := Aside0.mk (below_step (pB_ HB.out) hb); clear hb))
    go_ret
    exact ⟨by first | rfl | (simp [errW_none, errW_some] <;> rfl) | (simp [*, errW_none, errW_some] <;> rfl), pB_ HB.out⟩

/-! ### impl_nat_rest: function 48 -/
def impl_nat_rest.f (k : Nat) (l0 : List Int) (l1 : List Int) : Option (List Int) := (impl_nat_over.f k l0 l1).bind fun bt550 => (some bt550.2)
set_option maxHeartbeats 8000000 in
set_option maxRecDepth 100000 in
theorem impl_nat_rest.calls (k : Nat) (P0_ : Nat → Prop) (A0 : Option Addr) (c0 : Nat) (l0 : List Int) (A1 : Option Addr) (c1 : Nat) (l1 : List Int) (r : List Int) (w : World) (hs0 : Kd.V (Kd.int .u64) 83 w w.heap.size (fun k_ => P0_ k_) (.slice A0 l0.length c0) l0) (hr1 : Kd.C (Kd.int .u64) w A1 l1.length l1) (hc1 : l1.length ≤ c1) (h : impl_nat_rest.f k l0 l1 = some r) :
    Calls Try.prog 48 #[.slice A0 l0.length c0, .slice A1 l1.length c1] w fun e w' => ∃ v0_ : Value, e = .returned (v0_) ∧ Kd.V (Kd.int .u64) 83 w' w.heap.size (fun k_ => (P0_ k_ ∨ w.heap.size ≤ k_)) v0_ r ∧ Below w.heap.size w w' := by
  have HO0 := Aside0.mk (show Kd.V (Kd.int .u64) 83 w w.heap.size (fun k_ => (P0_ k_ ∨ w.heap.size ≤ k_)) (.slice A0 l0.length c0) l0 from Kd.V_mono hs0 (fun k_ hk => .inl hk))
  have HR1 := Aside0.mk hr1
  have HC1 := Aside0.mk hc1
  clear hr1 hc1
  have HB := Aside0.mk (Below.refl w.heap.size w)
  have H : ((impl_nat_over.f k l0 l1).bind fun bt550 => (some bt550.2)) = some r := h
  clear h
  replace H := Option.bind_eq_some_iff.mp H
  obtain ⟨⟨t550, t553⟩, A30, H⟩ := H
  replace H : (some t553) = some r := H
  have A3 := Aside0.mk A30
  clear A30
  obtain rfl := Option.some.inj H
  go_enter Try.func48, Try.ntmps48
  go_wp2_with (first | ((with_reducible refine gate_callee (f := 46) rfl ?_); refine gL_ 10 Try.func46 rfl #[.slice A0 l0.length c0, .slice A1 l1.length c1] ?_; (with_reducible refine (impl_nat_over.calls k (fun k_ => (P0_ k_ ∨ w.heap.size ≤ k_)) _ _ l0 _ _ l1 t550 t553 _ ?side1 ?side2 ?side3 A3.out).mono ?_); (case side1 => exact HO0.out); (case side2 => exact pC_ HR1.out); (case side3 => exact HC1.out); rintro e w4 ⟨v551, v554, rfl, ho0, ho1, hb⟩; refine ⟨_, rfl, ?_⟩; replace HO0 := Aside0.mk (Kd.V_below (pV_ HO0.out) hb); have HO552 := Aside0.mk (Kd.V_lower (Kd.V_mono (ok' := fun k_ => (P0_ k_ ∨ w.heap.size ≤ k_)) ho0 (fun k_ hk_ => Or.elim hk_ (fun hs_ => hs_) (fun hn_ => (.inr (Nat.le_trans (below_size (pB_ HB.out)) hn_))))) (below_size (pB_ HB.out))); have HO555 := Aside0.mk (Kd.V_lower (Kd.V_mono (ok' := fun k_ => (P0_ k_ ∨ w.heap.size ≤ k_)) ho1 (fun k_ hk_ => Or.elim hk_ (fun hs_ => hs_) (fun hn_ => (.inr (Nat.le_trans (below_size (pB_ HB.out)) hn_))))) (below_size (pB_ HB.out))); replace HB := Aside0.mk (below_step (pB_ HB.out) hb); clear hb ho0 ho1))
  go_ret
  exact ⟨_, by first | rfl | (simp [errW_none, errW_some] <;> rfl) | (simp [*, errW_none, errW_some] <;> rfl), by (with_reducible repeat (first | apply Kd.V_alloc | apply Kd.V_drewN | apply Kd.V_drew)); exact HO555.out, pB_ HB.out⟩

/-! ### impl_RestOf: function 17 -/
def impl_RestOf.j0 : Nat → ByteArray → List Int → Bool → Option (ByteArray)
  | 0, _, _, _ => none
  | k + 1, x0, x5, x18 => if x18 = true then (some (⟨#[]⟩ : ByteArray)) else ((impl_natOf.f k x0).bind fun t561 => ((impl_nat_rest.f k t561 x5).bind fun t564 => ((impl_nat_text.f k t564).bind fun t567 => (some t567))))
def impl_RestOf.f (k : Nat) (a0 : ByteArray) (a1 : ByteArray) : Option (ByteArray) := (impl_modulus.f k a1 ([] : List ByteArray)).bind fun bt556 => (if bt556.2 = true then ((impl_GreatOk.f a0).bind fun t560 => (impl_RestOf.j0 k a0 bt556.1 (!t560))) else (impl_RestOf.j0 k a0 bt556.1 true))
set_option maxHeartbeats 8000000 in
set_option maxRecDepth 100000 in
theorem impl_RestOf.calls (k : Nat) (a0 : ByteArray) (a1 : ByteArray) (r : ByteArray) (w : World) (h : impl_RestOf.f k a0 a1 = some r) :
    Calls Try.prog 17 #[.string a0, .string a1] w fun e w' => e = .returned (.string r) ∧ Below w.heap.size w w' := by
  have HB := Aside0.mk (Below.refl w.heap.size w)
  have H : ((impl_modulus.f k a1 ([] : List ByteArray)).bind fun bt556 => (if bt556.2 = true then ((impl_GreatOk.f a0).bind fun t560 => (impl_RestOf.j0 k a0 bt556.1 (!t560))) else (impl_RestOf.j0 k a0 bt556.1 true))) = some r := h
  clear h
  replace H := Option.bind_eq_some_iff.mp H
  obtain ⟨⟨t556, t559⟩, A30, H⟩ := H
  replace H : (if t559 = true then ((impl_GreatOk.f a0).bind fun t560 => (impl_RestOf.j0 k a0 t556 (!t560))) else (impl_RestOf.j0 k a0 t556 true)) = some r := H
  have A3 := Aside0.mk A30
  clear A30
  have HC4 := Aside0.mk H
  clear H
  go_enter Try.func17, Try.ntmps17
  go_upto_region 2 with (first | ((with_reducible refine gate_callee (f := 38) rfl ?_); refine gL_ 9 Try.func38 rfl #[.string a1, .slice none 0 0] ?_; (refine (impl_modulus.calls k a1 _ _ ([] : List ByteArray) t556 t559 _ ?side1 ?side2 A3.out).mono ?_); (case side1 => exact Kd.C_nil _ _); (case side2 => exact Nat.le_refl _); rintro e w5 ⟨v557, rfl, ho0, hb⟩; refine ⟨_, rfl, ?_⟩; have HO558 := Aside0.mk (Kd.V_lower (Kd.V_mono (ok' := fun k_ => True) ho0 (fun k_ hk_ => trivial)) (below_size (pB_ HB.out))); replace HB := Aside0.mk (below_step (pB_ HB.out) hb); clear hb ho0))
  (try simp only [Act.put, List.setIfInBounds_toArray, List.set_cons_zero, List.set_cons_succ])
  go_cut [18] (fun v18 wc => ∃ (kq : Nat) (x18_3 : Bool), v18 = .bool x18_3 ∧ Aside0 (impl_RestOf.j0 kq a0 t556 x18_3 = some r) ∧ Aside0 (kq ≤ k) ∧ Aside0 (Kd.V (Kd.int .u64) 83 wc w.heap.size (fun _ => True) v557 t556) ∧ Aside0 (Below w.heap.size w wc))
  case first =>
    have H := HC4.out
    clear HC4
    by_cases c6 : t559 = true
    · subst c6
      have H1 : ((impl_GreatOk.f a0).bind fun t560 => (impl_RestOf.j0 k a0 t556 (!t560))) = some r := by rw [if_pos rfl] at H; exact H
      clear H
      have H := H1
      clear H1
      replace H := Option.bind_eq_some_iff.mp H
      obtain ⟨t560, A70, H⟩ := H
      have A7 := Aside0.mk A70
      clear A70
      have H' := Aside0.mk H
      clear H
      go_wp2_with (first | (go_at_call 47; (with_reducible refine (impl_GreatOk.calls a0 t560 _ A7.out).mono ?_); rintro e w' ⟨rfl, ⟨nd, rfl⟩⟩))
      go_meet
      case rel => exact ⟨_, (!t560), (by first | rfl | (simp; done) | (simp [*]; done)), H', ⟨by first | omega | exact Nat.le_refl _⟩, ⟨by (with_reducible repeat (first | apply Kd.V_alloc | apply Kd.V_drewN | apply Kd.V_drew)); exact HO558.out⟩, ⟨pB_ HB.out⟩⟩
    · replace c6 := Bool.eq_false_iff.mpr c6
      subst c6
      have H1 : (impl_RestOf.j0 k a0 t556 true) = some r := by rw [if_neg (show ¬ (false = true) by decide)] at H; exact H
      clear H
      have H := H1
      clear H1
      have H' := Aside0.mk H
      clear H
      go_wp2
      go_meet
      case rel => exact ⟨_, (true), (by first | rfl | (simp; done) | (simp [*]; done)), H', ⟨by first | omega | exact Nat.le_refl _⟩, ⟨by (with_reducible repeat (first | apply Kd.V_alloc | apply Kd.V_drewN | apply Kd.V_drew)); exact HO558.out⟩, ⟨pB_ HB.out⟩⟩
  clear HC4
  try clear c1
  try clear p2
  try clear c3
  try clear c6
  obtain ⟨kq, x18_3, rfl, HA, HJ3, HO_5, HB⟩ := hcut
  rcases kq with _ | kj3
  · exact absurd HA.out (by simp [impl_RestOf.j0])
  have H := HA.out
  clear HA
  simp only [impl_RestOf.j0] at H
  by_cases c8 : x18_3 = true
  · subst c8
    have H1 : (some (⟨#[]⟩ : ByteArray)) = some r := by rw [if_pos rfl] at H; exact H
    clear H
    have H := H1
    clear H1
    obtain rfl := Option.some.inj H
    go_wp2
    go_ret
    exact ⟨by first | rfl | (simp [errW_none, errW_some] <;> rfl) | (simp [*, errW_none, errW_some] <;> rfl), pB_ HB.out⟩
  · replace c8 := Bool.eq_false_iff.mpr c8
    subst c8
    have H1 : ((impl_natOf.f kj3 a0).bind fun t561 => ((impl_nat_rest.f kj3 t561 t556).bind fun t564 => ((impl_nat_text.f kj3 t564).bind fun t567 => (some t567)))) = some r := by rw [if_neg (show ¬ (false = true) by decide)] at H; exact H
    clear H
    have H := H1
    clear H1
    replace H := Option.bind_eq_some_iff.mp H
    obtain ⟨t561, A90, H⟩ := H
    have A9 := Aside0.mk A90
    clear A90
    replace H := Option.bind_eq_some_iff.mp H
    obtain ⟨t564, A100, H⟩ := H
    have A10 := Aside0.mk A100
    clear A100
    replace H := Option.bind_eq_some_iff.mp H
    obtain ⟨t567, A110, H⟩ := H
    have A11 := Aside0.mk A110
    clear A110
    obtain rfl := Option.some.inj H
    go_wp2_with (first | ((with_reducible refine gate_callee (f := 41) rfl ?_); refine gL_ 20 Try.func41 rfl #[.string a0] ?_; (with_reducible refine (impl_natOf.calls kj3 a0 t561 _ A9.out).mono ?_); rintro e w12 ⟨v562, rfl, ho0, hb⟩; refine ⟨_, rfl, ?_⟩; replace HO_5 := Aside0.mk (Kd.V_below (pV_ HO_5.out) hb); have HO563 := Aside0.mk (Kd.V_lower (Kd.V_mono (ok' := fun k_ => True) ho0 (fun k_ hk_ => trivial)) (below_size (pB_ HB.out))); replace HB := Aside0.mk (below_step (pB_ HB.out) hb); clear hb ho0; obtain ⟨Ao13, co13, eo13⟩ := Kd.V_slice HO563.out; subst eo13; obtain ⟨Ao14, co14, eo14⟩ := Kd.V_slice HO_5.out; subst eo14) | ((with_reducible refine gate_callee (f := 48) rfl ?_); refine gL_ 22 Try.func48 rfl #[.slice Ao13 t561.length co13, .slice Ao14 t556.length co14] ?_; (with_reducible refine (impl_nat_rest.calls kj3 (fun k_ => True) _ _ t561 _ _ t556 t564 _ ?side1 ?side2 ?side3 A10.out).mono ?_); (case side1 => exact HO563.out); (case side2 => exact pC_ (Kd.V_reads' HO_5.out).2.2); (case side3 => exact (Kd.V_reads' HO_5.out).2.1); rintro e w15 ⟨v565, rfl, ho0, hb⟩; refine ⟨_, rfl, ?_⟩; replace HO_5 := Aside0.mk (Kd.V_below (pV_ HO_5.out) hb); replace HO563 := Aside0.mk (Kd.V_below (pV_ HO563.out) hb); have HO566 := Aside0.mk (Kd.V_lower (Kd.V_mono (ok' := fun k_ => True) ho0 (fun k_ hk_ => trivial)) (below_size (pB_ HB.out))); replace HB := Aside0.mk (below_step (pB_ HB.out) hb); clear hb ho0; obtain ⟨Ao16, co16, eo16⟩ := Kd.V_slice HO566.out; subst eo16) | ((with_reducible refine gate_callee (f := 42) rfl ?_); refine gL_ 23 Try.func42 rfl #[.slice Ao16 t564.length co16] ?_; (with_reducible refine (impl_nat_text.calls kj3 _ _ t564 t567 _ ?side1 ?side2 A11.out).mono ?_); (case side1 => exact pC_ (Kd.V_reads' HO566.out).2.2); (case side2 => exact (Kd.V_reads' HO566.out).2.1); rintro e w17 ⟨rfl, hb⟩; refine ⟨_, rfl, ?_⟩; replace HO_5 := Aside0.mk (Kd.V_below (pV_ HO_5.out) hb); replace HO563 := Aside0.mk (Kd.V_below (pV_ HO563.out) hb); replace HO566 := Aside0.mk (Kd.V_below (pV_ HO566.out) hb); replace HB := Aside0.mk (below_step (pB_ HB.out) hb); clear hb))
    go_ret
    exact ⟨by first | rfl | (simp [errW_none, errW_some] <;> rfl) | (simp [*, errW_none, errW_some] <;> rfl), pB_ HB.out⟩

/-! ### laws_FnExactRestOf: function 5 -/
def laws_FnExactRestOf.f (k : Nat) (a0 : ByteArray) (a1 : ByteArray) : Option (Bool) := if (a0.size : Int) > 1048576 then (some true) else (if (a1.size : Int) > 1048576 then (some true) else ((spec_RestOf.f k a0 a1).bind fun t568 => ((impl_RestOf.f k a0 a1).bind fun t569 => (if t569.toList = t568.toList then (some true) else (some false)))))
set_option maxHeartbeats 8000000 in
set_option maxRecDepth 100000 in
theorem laws_FnExactRestOf.calls (k : Nat) (a0 : ByteArray) (a1 : ByteArray) (r : Bool) (w : World) (h : laws_FnExactRestOf.f k a0 a1 = some r) :
    Calls Try.prog 5 #[.string a0, .string a1] w fun e w' => e = .returned (.bool r) ∧ Below w.heap.size w w' := by
  have HB := Aside0.mk (Below.refl w.heap.size w)
  have H : (if (a0.size : Int) > 1048576 then (some true) else (if (a1.size : Int) > 1048576 then (some true) else ((spec_RestOf.f k a0 a1).bind fun t568 => ((impl_RestOf.f k a0 a1).bind fun t569 => (if t569.toList = t568.toList then (some true) else (some false)))))) = some r := h
  clear h
  by_cases c3 : (a0.size : Int) > 1048576
  · rw [if_pos c3] at H
    have c3b0 : decide (1048576 < (a0.size : Int)) = true := decide_eq_true c3
    have c3b1 : decide (1048576 < a0.size) = true := decide_eq_true (by omega)
    clear c3
    obtain rfl := Option.some.inj H
    go_enter Try.func5, Try.ntmps5
    go_wp2
    go_ret
    exact ⟨by first | rfl | (simp [errW_none, errW_some] <;> rfl) | (simp [*, errW_none, errW_some] <;> rfl), pB_ HB.out⟩
  rw [if_neg c3] at H
  have c3b0 : decide (1048576 < (a0.size : Int)) = false := decide_eq_false c3
  have c3b1 : decide (1048576 < a0.size) = false := decide_eq_false (by omega)
  clear c3
  by_cases c4 : (a1.size : Int) > 1048576
  · rw [if_pos c4] at H
    have c4b0 : decide (1048576 < (a1.size : Int)) = true := decide_eq_true c4
    have c4b1 : decide (1048576 < a1.size) = true := decide_eq_true (by omega)
    clear c4
    obtain rfl := Option.some.inj H
    go_enter Try.func5, Try.ntmps5
    go_wp2
    go_ret
    exact ⟨by first | rfl | (simp [errW_none, errW_some] <;> rfl) | (simp [*, errW_none, errW_some] <;> rfl), pB_ HB.out⟩
  rw [if_neg c4] at H
  have c4b0 : decide (1048576 < (a1.size : Int)) = false := decide_eq_false c4
  have c4b1 : decide (1048576 < a1.size) = false := decide_eq_false (by omega)
  clear c4
  replace H := Option.bind_eq_some_iff.mp H
  obtain ⟨t568, A50, H⟩ := H
  have A5 := Aside0.mk A50
  clear A50
  replace H := Option.bind_eq_some_iff.mp H
  obtain ⟨t569, A60, H⟩ := H
  have A6 := Aside0.mk A60
  clear A60
  by_cases c7 : t569.toList = t568.toList
  rotate_left
  · rw [if_neg c7] at H
    have c7b0 : (t569.toList == t568.toList) = false := beq_eq_false_iff_ne.mpr c7
    have c7b1 : (t569.toList != t568.toList) = true := bne_iff_ne.mpr c7
    obtain rfl := Option.some.inj H
    go_enter Try.func5, Try.ntmps5
    go_wp2_with (first | ((with_reducible refine gate_callee (f := 16) rfl ?_); refine gL_ 15 Try.func16 rfl #[.string a0, .string a1] ?_; (with_reducible refine (spec_RestOf.calls k a0 a1 t568 _ A5.out).mono ?_); rintro e w10 ⟨rfl, hb⟩; refine ⟨_, rfl, ?_⟩; replace HB := Aside0.mk (below_step (pB_ HB.out) hb); clear hb) | ((with_reducible refine gate_callee (f := 17) rfl ?_); refine gL_ 18 Try.func17 rfl #[.string a0, .string a1] ?_; (with_reducible refine (impl_RestOf.calls k a0 a1 t569 _ A6.out).mono ?_); rintro e w11 ⟨rfl, hb⟩; refine ⟨_, rfl, ?_⟩; replace HB := Aside0.mk (below_step (pB_ HB.out) hb); clear hb))
    go_ret
    exact ⟨by first | rfl | (simp [errW_none, errW_some] <;> rfl) | (simp [*, errW_none, errW_some] <;> rfl), pB_ HB.out⟩

  rw [if_pos c7] at H
  have c7b0 : (t569.toList == t568.toList) = true := beq_iff_eq.mpr c7
  have c7b1 : (t569.toList != t568.toList) = false := bne_eq_false_iff_eq.mpr c7
  clear c7
  obtain rfl := Option.some.inj H
  go_enter Try.func5, Try.ntmps5
  go_wp2_with (first | ((with_reducible refine gate_callee (f := 16) rfl ?_); refine gL_ 15 Try.func16 rfl #[.string a0, .string a1] ?_; (with_reducible refine (spec_RestOf.calls k a0 a1 t568 _ A5.out).mono ?_); rintro e w8 ⟨rfl, hb⟩; refine ⟨_, rfl, ?_⟩; replace HB := Aside0.mk (below_step (pB_ HB.out) hb); clear hb) | ((with_reducible refine gate_callee (f := 17) rfl ?_); refine gL_ 18 Try.func17 rfl #[.string a0, .string a1] ?_; (with_reducible refine (impl_RestOf.calls k a0 a1 t569 _ A6.out).mono ?_); rintro e w9 ⟨rfl, hb⟩; refine ⟨_, rfl, ?_⟩; replace HB := Aside0.mk (below_step (pB_ HB.out) hb); clear hb))
  go_ret
  exact ⟨by first | rfl | (simp [errW_none, errW_some] <;> rfl) | (simp [*, errW_none, errW_some] <;> rfl), pB_ HB.out⟩
/-- THE ONE PURE STATEMENT of laws_FnExactRestOf: yours. -/
def laws_FnExactRestOf.Pure : Prop := ∀ (a0 : ByteArray) (a1 : ByteArray), a0.size ≤ 140737488351232 → a1.size ≤ 140737488351232 → ∃ k, laws_FnExactRestOf.f k a0 a1 = some true
theorem laws_FnExactRestOf.walk (P : laws_FnExactRestOf.Pure) (a0 : ByteArray) (a1 : ByteArray) (w : World) (w0 : a0.size ≤ 140737488351232) (w1 : a1.size ≤ 140737488351232) :
    Calls Try.prog 5 #[.string a0, .string a1] w fun e w' => e = .returned (.bool true) ∧ Below w.heap.size w w' := by
  obtain ⟨k, h⟩ := P a0 a1 w0 w1
  refine (laws_FnExactRestOf.calls k a0 a1 true w h).mono ?_
  rintro e w' ⟨rfl, hd⟩
  exact ⟨rfl, hd⟩

/-! ### spec_l04Two: function 49 -/
def spec_l04Two.f (k : Nat) (a0 : ByteArray) (a1 : ByteArray) (a2 : ByteArray) : Option (Bool) := (spec_l04Mod.f a2).bind fun t570 => (if t570 = true then ((spec_RestOk.f k a0 a2).bind fun t571 => (if t571 = true then ((spec_RestOk.f k a1 a2).bind fun t572 => (some t572)) else (some false))) else (some false))
set_option maxHeartbeats 8000000 in
set_option maxRecDepth 100000 in
theorem spec_l04Two.calls (k : Nat) (a0 : ByteArray) (a1 : ByteArray) (a2 : ByteArray) (r : Bool) (w : World) (h : spec_l04Two.f k a0 a1 a2 = some r) :
    Calls Try.prog 49 #[.string a0, .string a1, .string a2] w fun e w' => e = .returned (.bool r) ∧ Below w.heap.size w w' := by
  have HB := Aside0.mk (Below.refl w.heap.size w)
  have H : ((spec_l04Mod.f a2).bind fun t570 => (if t570 = true then ((spec_RestOk.f k a0 a2).bind fun t571 => (if t571 = true then ((spec_RestOk.f k a1 a2).bind fun t572 => (some t572)) else (some false))) else (some false))) = some r := h
  clear h
  replace H := Option.bind_eq_some_iff.mp H
  obtain ⟨t570, A40, H⟩ := H
  have A4 := Aside0.mk A40
  clear A40
  by_cases c5 : t570 = true
  · subst c5
    have H1 : ((spec_RestOk.f k a0 a2).bind fun t571 => (if t571 = true then ((spec_RestOk.f k a1 a2).bind fun t572 => (some t572)) else (some false))) = some r := by rw [if_pos rfl] at H; exact H
    clear H
    have H := H1
    clear H1
    replace H := Option.bind_eq_some_iff.mp H
    obtain ⟨t571, A60, H⟩ := H
    have A6 := Aside0.mk A60
    clear A60
    by_cases c7 : t571 = true
    · subst c7
      have H1 : ((spec_RestOk.f k a1 a2).bind fun t572 => (some t572)) = some r := by rw [if_pos rfl] at H; exact H
      clear H
      have H := H1
      clear H1
      replace H := Option.bind_eq_some_iff.mp H
      obtain ⟨t572, A80, H⟩ := H
      have A8 := Aside0.mk A80
      clear A80
      obtain rfl := Option.some.inj H
      go_enter Try.func49, Try.ntmps49
      go_wp2_with (first | ((with_reducible refine gate_callee (f := 32) rfl ?_); refine gL_ 8 Try.func32 rfl #[.string a2] ?_; (with_reducible refine (spec_l04Mod.calls a2 true _ A4.out).mono ?_); rintro e w' ⟨rfl, ⟨nd, rfl⟩⟩; refine ⟨_, rfl, ?_⟩) | (go_at_call 33; (with_reducible refine (spec_RestOk.calls k a0 a2 true _ A6.out).mono ?_); rintro e w9 ⟨rfl, hb⟩; replace HB := Aside0.mk (below_step (pB_ HB.out) hb); clear hb) | (go_at_call 33; (with_reducible refine (spec_RestOk.calls k a1 a2 t572 _ A8.out).mono ?_); rintro e w10 ⟨rfl, hb⟩; replace HB := Aside0.mk (below_step (pB_ HB.out) hb); clear hb))
      go_ret
      exact ⟨by first | rfl | (simp [errW_none, errW_some] <;> rfl) | (simp [*, errW_none, errW_some] <;> rfl), pB_ HB.out⟩
    · replace c7 := Bool.eq_false_iff.mpr c7
      subst c7
      have H1 : (some false) = some r := by rw [if_neg (show ¬ (false = true) by decide)] at H; exact H
      clear H
      have H := H1
      clear H1
      obtain rfl := Option.some.inj H
      go_enter Try.func49, Try.ntmps49
      go_wp2_with (first | ((with_reducible refine gate_callee (f := 32) rfl ?_); refine gL_ 8 Try.func32 rfl #[.string a2] ?_; (with_reducible refine (spec_l04Mod.calls a2 true _ A4.out).mono ?_); rintro e w' ⟨rfl, ⟨nd, rfl⟩⟩; refine ⟨_, rfl, ?_⟩) | (go_at_call 33; (with_reducible refine (spec_RestOk.calls k a0 a2 false _ A6.out).mono ?_); rintro e w11 ⟨rfl, hb⟩; replace HB := Aside0.mk (below_step (pB_ HB.out) hb); clear hb))
      go_ret
      exact ⟨by first | rfl | (simp [errW_none, errW_some] <;> rfl) | (simp [*, errW_none, errW_some] <;> rfl), pB_ HB.out⟩
  · replace c5 := Bool.eq_false_iff.mpr c5
    subst c5
    have H1 : (some false) = some r := by rw [if_neg (show ¬ (false = true) by decide)] at H; exact H
    clear H
    have H := H1
    clear H1
    obtain rfl := Option.some.inj H
    go_enter Try.func49, Try.ntmps49
    go_wp2_with (first | ((with_reducible refine gate_callee (f := 32) rfl ?_); refine gL_ 8 Try.func32 rfl #[.string a2] ?_; (with_reducible refine (spec_l04Mod.calls a2 false _ A4.out).mono ?_); rintro e w' ⟨rfl, ⟨nd, rfl⟩⟩; refine ⟨_, rfl, ?_⟩))
    go_ret
    exact ⟨by first | rfl | (simp [errW_none, errW_some] <;> rfl) | (simp [*, errW_none, errW_some] <;> rfl), pB_ HB.out⟩

/-! ### spec_l02Mul: function 86 -/
mutual
def spec_l02Mul.l0 : Nat → List Int → List Int → List Int → Int → Option (List Int)
  | 0, _, _, _, _ => none
  | k + 1, x0, x1, x5, x6 => if x6 < (x0.length : Int) then (spec_l02Mul.l1 k x0 x1 x5 x6 0 0) else ((spec_l02Trim.f k x5).bind fun t576 => (some t576))
def spec_l02Mul.l1 : Nat → List Int → List Int → List Int → Int → Int → Int → Option (List Int)
  | 0, _, _, _, _, _, _ => none
  | k + 1, x0, x1, x5, x6, x7, x8 => if x8 < (x1.length : Int) then (if 0 ≤ (wrap64 (x6 + x8)) then (if (wrap64 (x6 + x8)) < (x5.length : Int) then (if 0 ≤ x6 then (if x6 < (x0.length : Int) then (if 0 ≤ x8 then (spec_l02Mul.l1 k x0 x1 (x5.set ((wrap64 (x6 + x8)) : Int).toNat (Go.bits .and .i64 (wrap64 ((wrap64 ((rd x5 (wrap64 (x6 + x8))) + (wrap64 ((rd x0 x6) * (rd x1 x8))))) + x7)) 16777215)) x6 ((wrap64 ((wrap64 ((rd x5 (wrap64 (x6 + x8))) + (wrap64 ((rd x0 x6) * (rd x1 x8))))) + x7)) / 16777216) (wrap64 (x8 + 1))) else (none)) else (none)) else (none)) else (none)) else (none)) else (if 0 ≤ (wrap64 (x6 + (x1.length : Int))) then (if (wrap64 (x6 + (x1.length : Int))) < (x5.length : Int) then (spec_l02Mul.l0 k x0 x1 (x5.set ((wrap64 (x6 + (x1.length : Int))) : Int).toNat x7) (wrap64 (x6 + 1))) else (none)) else (none))
end
def spec_l02Mul.f (k : Nat) (l0 : List Int) (l1 : List Int) : Option (List Int) := if 0 ≤ (wrap64 ((l0.length : Int) + (l1.length : Int))) then (if (wrap64 ((l0.length : Int) + (l1.length : Int)) : Int).toNat ≤ 35184372088832 then (spec_l02Mul.l0 k l0 l1 (List.replicate (wrap64 ((l0.length : Int) + (l1.length : Int)) : Int).toNat 0) 0) else (none)) else (none)
set_option maxHeartbeats 8000000 in
set_option maxRecDepth 100000 in
theorem spec_l02Mul.calls (k : Nat) (A0 : Option Addr) (c0 : Nat) (l0 : List Int) (A1 : Option Addr) (c1 : Nat) (l1 : List Int) (r : List Int) (w : World) (hr0 : Kd.C (Kd.int .i64) w A0 l0.length l0) (hc0 : l0.length ≤ c0) (hr1 : Kd.C (Kd.int .i64) w A1 l1.length l1) (hc1 : l1.length ≤ c1) (h : spec_l02Mul.f k l0 l1 = some r) :
    Calls Try.prog 86 #[.slice A0 l0.length c0, .slice A1 l1.length c1] w fun e w' => ∃ v0_ : Value, e = .returned (v0_) ∧ Kd.V (Kd.int .i64) 3 w' w.heap.size (fun k_ => (w.heap.size ≤ k_)) v0_ r ∧ Below w.heap.size w w' := by
  have HR0 := Aside0.mk hr0
  have HC0 := Aside0.mk hc0
  clear hr0 hc0
  have HR1 := Aside0.mk hr1
  have HC1 := Aside0.mk hc1
  clear hr1 hc1
  have HB := Aside0.mk (Below.refl w.heap.size w)
  have H : (if 0 ≤ (wrap64 ((l0.length : Int) + (l1.length : Int))) then (if (wrap64 ((l0.length : Int) + (l1.length : Int)) : Int).toNat ≤ 35184372088832 then (spec_l02Mul.l0 k l0 l1 (List.replicate (wrap64 ((l0.length : Int) + (l1.length : Int)) : Int).toNat 0) 0) else (none)) else (none)) = some r := h
  clear h
  obtain ⟨ji3, hji3⟩ : ∃ j_ : Int, (wrap64 ((l0.length : Int) + (l1.length : Int))) = j_ := ⟨_, rfl⟩
  first | rw [hji3] at H | simp only [hji3] at H | skip
  have hji3w : (IntKind.i64.wrap ((l0.length : Int) + (l1.length : Int))) = ji3 := (i64_w _).trans hji3
  by_cases c4 : 0 ≤ (ji3)
  rotate_left
  · rw [if_neg c4] at H
    exact absurd H (by simp)

  rw [if_pos c4] at H
  have c4b0 := eq_true c4
  have c4b1 : decide (0 ≤ (ji3)) = true := decide_eq_true c4
  clear c4
  by_cases c5 : (ji3 : Int).toNat ≤ 35184372088832
  rotate_left
  · rw [if_neg c5] at H; exact absurd H (by simp)
  rw [if_pos c5] at H
  have c5b0 := eq_true c5
  have c5b1 : decide ((ji3 : Int).toNat ≤ 35184372088832) = true := decide_eq_true c5
  clear c5
  obtain ⟨y573, hy573⟩ : ∃ y_ : List Int, y_ = (List.replicate (ji3 : Int).toNat 0) := ⟨_, rfl⟩
  first | rw [← hy573] at H | skip
  have Ny573 := Aside0.mk hy573
  clear hy573
  have H' := Aside0.mk H
  clear H
  go_enter Try.func86, Try.ntmps86
  go_wp2_with (first | ((with_reducible refine gate_dst (N := 15) rfl ?_); refine Kd.R_make (Kd.int .i64) _ 3 rfl (N := 15) rfl 41 _ _ rfl ji3 rfl rfl Try.underlying41 (.int .i64 0) 8 info3 rfl (by decide) (by omega) 0 (ok := fun _ => True) (okp := fun _ => True) rfl (fun _ hk => hk) trivial (od_) (Nat.le_trans (Nat.mul_le_mul_right _ (od_ : ji3.toNat ≤ 35184372088832)) (by omega)) (Below.refl _ _) (Nat.le_refl _) ?_; intro v574 w6 ho7 hb hg_ hnew_; clear hg_ hnew_; (first | rw [← Ny573.out] at ho7 | (simp only [Int.reduceToNat] at ho7; rw [← Ny573.out] at ho7)); have HO575 := Aside0.mk (Kd.R_lower (Kd.R_newM (M := fun k_ => (w.heap.size ≤ k_)) ho7 (below_size (pB_ HB.out)) (fun k_ h_ => h_)) (below_size (pB_ HB.out))); replace HB := Aside0.mk (below_step (pB_ HB.out) hb); clear hb ho7))
  repeat (go_quiet (first | ((with_reducible refine gate_dst (N := 15) rfl ?_); refine Kd.R_make (Kd.int .i64) _ 3 rfl (N := 15) rfl 41 _ _ rfl ji3 rfl rfl Try.underlying41 (.int .i64 0) 8 info3 rfl (by decide) (by omega) 0 (ok := fun _ => True) (okp := fun _ => True) rfl (fun _ hk => hk) trivial (od_) (Nat.le_trans (Nat.mul_le_mul_right _ (od_ : ji3.toNat ≤ 35184372088832)) (by omega)) (Below.refl _ _) (Nat.le_refl _) ?_; intro v574 w6 ho7 hb hg_ hnew_; clear hg_ hnew_; (first | rw [← Ny573.out] at ho7 | (simp only [Int.reduceToNat] at ho7; rw [← Ny573.out] at ho7)); have HO575 := Aside0.mk (Kd.R_lower (Kd.R_newM (M := fun k_ => (w.heap.size ≤ k_)) ho7 (below_size (pB_ HB.out)) (fun k_ h_ => h_)) (below_size (pB_ HB.out))); replace HB := Aside0.mk (below_step (pB_ HB.out) hb); clear hb ho7)); try go_wp2_with (first | ((with_reducible refine gate_dst (N := 15) rfl ?_); refine Kd.R_make (Kd.int .i64) _ 3 rfl (N := 15) rfl 41 _ _ rfl ji3 rfl rfl Try.underlying41 (.int .i64 0) 8 info3 rfl (by decide) (by omega) 0 (ok := fun _ => True) (okp := fun _ => True) rfl (fun _ hk => hk) trivial (od_) (Nat.le_trans (Nat.mul_le_mul_right _ (od_ : ji3.toNat ≤ 35184372088832)) (by omega)) (Below.refl _ _) (Nat.le_refl _) ?_; intro v574 w6 ho7 hb hg_ hnew_; clear hg_ hnew_; (first | rw [← Ny573.out] at ho7 | (simp only [Int.reduceToNat] at ho7; rw [← Ny573.out] at ho7)); have HO575 := Aside0.mk (Kd.R_lower (Kd.R_newM (M := fun k_ => (w.heap.size ≤ k_)) ho7 (below_size (pB_ HB.out)) (fun k_ h_ => h_)) (below_size (pB_ HB.out))); replace HB := Aside0.mk (below_step (pB_ HB.out) hb); clear hb ho7)))
  go_loopg [6] k (fun kq v6 w' => ∃ (x5_1 : List Int) (x6_1 : Int), v6 = .int .i64 x6_1 ∧ Aside0 (spec_l02Mul.l0 kq l0 l1 x5_1 x6_1 = some r) ∧ Aside0 (kq ≤ k) ∧ Aside0 (Kd.R (Kd.int .i64) 3 w' w.heap.size (fun k_ => (w.heap.size ≤ k_)) v574 x5_1) ∧ Aside0 (Below w.heap.size w w'))
  case atStart => exact ⟨(y573), (0), (by first | rfl | (simp; done) | (simp [*]; done)), H', ⟨Nat.le_refl _⟩, ⟨by (with_reducible repeat (first | apply Kd.R_alloc | apply Kd.R_drewN | apply Kd.R_drew)); exact Kd.R_mono HO575.out (fun _ hk => hk.1)⟩, ⟨pB_ HB.out⟩⟩
  clear H'
  try clear c1
  try clear p2
  try clear c4
  try clear c4b0
  try clear c4b1
  try clear c5
  try clear c5b0
  try clear c5b1
  try clear p6
  obtain ⟨x5_1, x6_1, rfl, HA, HK1, HO_5, HB⟩ := hrel
  rcases gk with _ | k1
  · exact absurd HA.out (by simp [spec_l02Mul.l0])
  have H := HA.out
  clear HA
  simp only [spec_l02Mul.l0] at H
  by_cases c8 : x6_1 < (l0.length : Int)
  rotate_left
  · rw [if_neg c8] at H
    have c8b0 : decide (x6_1 < (l0.length : Int)) = false := decide_eq_false c8
    clear c8
    replace H := Option.bind_eq_some_iff.mp H
    obtain ⟨t576, A260, H⟩ := H
    have A26 := Aside0.mk A260
    clear A260
    obtain rfl := Option.some.inj H
    obtain ⟨Ao27, co27, eo27⟩ := Kd.R_slice HO_5.out
    subst eo27
    go_wp2_with (first | (go_at_call 68; (with_reducible refine (spec_l02Trim.calls k1 (fun k_ => some k_ = (.slice Ao27 x5_1.length co27 : Value).ownBlock) _ _ x5_1 t576 _ ?side1 A26.out).mono ?_); (case side1 => exact Kd.R_V (Kd.R_tight rfl (HO_5.out))); rintro e w28 ⟨v577, rfl, ho0, hb⟩; have HO578 := Aside0.mk (Kd.V_lower (Kd.V_mono (ok' := fun k_ => (w.heap.size ≤ k_)) ho0 (fun k_ hk_ => Or.elim hk_ (fun hs_ => ((HO_5.out).1 k_ hs_.symm)) (fun hn_ => (Nat.le_trans (below_size (pB_ HB.out)) hn_)))) (below_size (pB_ HB.out))); replace HO_5 := Aside0.mk (Kd.R_below (pR_ HO_5.out) hb); replace HB := Aside0.mk (below_step (pB_ HB.out) hb); clear hb ho0))
    repeat (go_quiet (first | (go_at_call 68; (with_reducible refine (spec_l02Trim.calls k1 (fun k_ => some k_ = (.slice Ao27 x5_1.length co27 : Value).ownBlock) _ _ x5_1 t576 _ ?side1 A26.out).mono ?_); (case side1 => exact Kd.R_V (Kd.R_tight rfl (HO_5.out))); rintro e w28 ⟨v577, rfl, ho0, hb⟩; have HO578 := Aside0.mk (Kd.V_lower (Kd.V_mono (ok' := fun k_ => (w.heap.size ≤ k_)) ho0 (fun k_ hk_ => Or.elim hk_ (fun hs_ => ((HO_5.out).1 k_ hs_.symm)) (fun hn_ => (Nat.le_trans (below_size (pB_ HB.out)) hn_)))) (below_size (pB_ HB.out))); replace HO_5 := Aside0.mk (Kd.R_below (pR_ HO_5.out) hb); replace HB := Aside0.mk (below_step (pB_ HB.out) hb); clear hb ho0)); try go_wp2_with (first | (go_at_call 68; (with_reducible refine (spec_l02Trim.calls k1 (fun k_ => some k_ = (.slice Ao27 x5_1.length co27 : Value).ownBlock) _ _ x5_1 t576 _ ?side1 A26.out).mono ?_); (case side1 => exact Kd.R_V (Kd.R_tight rfl (HO_5.out))); rintro e w28 ⟨v577, rfl, ho0, hb⟩; have HO578 := Aside0.mk (Kd.V_lower (Kd.V_mono (ok' := fun k_ => (w.heap.size ≤ k_)) ho0 (fun k_ hk_ => Or.elim hk_ (fun hs_ => ((HO_5.out).1 k_ hs_.symm)) (fun hn_ => (Nat.le_trans (below_size (pB_ HB.out)) hn_)))) (below_size (pB_ HB.out))); replace HO_5 := Aside0.mk (Kd.R_below (pR_ HO_5.out) hb); replace HB := Aside0.mk (below_step (pB_ HB.out) hb); clear hb ho0)))
    go_ret
    exact ⟨_, by first | rfl | (simp [errW_none, errW_some] <;> rfl) | (simp only [← hji3]; first | rfl | (simp [errW_none, errW_some] <;> rfl)) | (simp [*, errW_none, errW_some] <;> rfl), by (with_reducible repeat (first | apply Kd.V_alloc | apply Kd.V_drewN | apply Kd.V_drew)); exact HO578.out, pB_ HB.out⟩
  rw [if_pos c8] at H
  have c8b0 : decide (x6_1 < (l0.length : Int)) = true := decide_eq_true c8
  clear c8
  have H' := Aside0.mk H
  clear H
  go_wp2
  repeat (go_quiet (fail); try go_wp2)
  go_loopg [7, 8] k1 (fun kq v7 v8 w' => ∃ (x5_2 : List Int) (x7_2 : Int) (x8_2 : Int), v7 = .int .i64 x7_2 ∧ v8 = .int .i64 x8_2 ∧ Aside0 (spec_l02Mul.l1 kq l0 l1 x5_2 x6_1 x7_2 x8_2 = some r) ∧ Aside0 (kq ≤ k1) ∧ Aside0 (Kd.R (Kd.int .i64) 3 w' w.heap.size (fun k_ => (w.heap.size ≤ k_)) v574 x5_2) ∧ Aside0 (Below w.heap.size w w'))
  case atStart => exact ⟨(x5_1), (0), (0), (by first | rfl | (simp; done) | (simp [*]; done)), (by first | rfl | (simp; done) | (simp [*]; done)), H', ⟨Nat.le_refl _⟩, ⟨by (with_reducible repeat (first | apply Kd.R_alloc | apply Kd.R_drewN | apply Kd.R_drew)); exact HO_5.out⟩, ⟨pB_ HB.out⟩⟩
  clear H'
  try clear c1
  try clear p2
  try clear c4
  try clear c4b0
  try clear c4b1
  try clear c5
  try clear c5b0
  try clear c5b1
  try clear p6
  try clear c8
  try clear c8b0
  try clear p2
  try clear p6
  obtain ⟨x5_2, x7_2, x8_2, rfl, rfl, HA, HK2, HO_5, HB⟩ := hrel
  rcases gk with _ | k2
  · exact absurd HA.out (by simp [spec_l02Mul.l1])
  have H := HA.out
  clear HA
  simp only [spec_l02Mul.l1] at H
  by_cases c9 : x8_2 < (l1.length : Int)
  rotate_left
  · rw [if_neg c9] at H
    have c9b0 : decide (x8_2 < (l1.length : Int)) = false := decide_eq_false c9
    clear c9
    obtain ⟨ji20, hji20⟩ : ∃ j_ : Int, (wrap64 (x6_1 + (l1.length : Int))) = j_ := ⟨_, rfl⟩
    first | rw [hji20] at H | simp only [hji20] at H | skip
    have hji20w : (IntKind.i64.wrap (x6_1 + (l1.length : Int))) = ji20 := (i64_w _).trans hji20
    by_cases c21 : 0 ≤ (ji20)
    rotate_left
    · rw [if_neg c21] at H; exact absurd H (by simp)
    rw [if_pos c21] at H
    have c21b0 : decide (0 ≤ (ji20)) = true := decide_eq_true c21
    clear c21
    by_cases c22 : (ji20) < (x5_2.length : Int)
    rotate_left
    · rw [if_neg c22] at H; exact absurd H (by simp)
    rw [if_pos c22] at H
    have c22b0 : decide ((ji20) < (x5_2.length : Int)) = true := decide_eq_true c22
    clear c22
    obtain ⟨y583, hy583⟩ : ∃ y_ : List Int, y_ = (x5_2.set ((ji20) : Int).toNat x7_2) := ⟨_, rfl⟩
    first | rw [← hy583] at H | skip
    have Ny583 := Aside0.mk hy583
    clear hy583
    have H' := Aside0.mk H
    clear H
    have p23 : 0 ≤ ((ji20) : Int) := od_
    have q23 : ((ji20) : Int) < ((x5_2.length : Int) : Int) := od_
    obtain ⟨go23, co23, eo23, gb23, gl23, cl23, HG23⟩ := Kd.R_form HO_5.out (by omega)
    (first | cases eo23 | (injection eo23 with ea_ en_ ec_; (first | subst ea_ | (injection ea_ with ea_; subst ea_)); subst ec_; clear en_))
    have GB23 := Aside0.mk gb23
    have GG23 := Aside0.mk HG23
    clear gb23 gl23 HG23
    obtain ⟨hx23_0, hf23_0⟩ := Kd.R_celln 0 HO_5.out ((ji20) : Int) p23 q23
    replace p23 := eq_true p23
    replace q23 := eq_true q23
    obtain ⟨hy24_, hz24_⟩ := Kd.R_celln 0 HO_5.out ((ji20) : Int) (od_) (od_)
    have HP24 := Kd.R_putg HO_5.out ((ji20) : Int) x7_2
    go_wp2_with (first | ((with_reducible refine gate_store (t := 3) (p := 61) rfl ?_); (try (rw [drewN_self wr]; generalize hq_ : World.drewN wr _ = wr; have n0_ := Aside0.mk (Kd.R_at hq_ HO_5.out); have n1_ := Aside0.mk (below_at hq_ HB.out); clear hq_ HO_5 HB; have HO_5 := n0_; have HB := n1_; clear n0_ n1_; (try (obtain ⟨hy24_, hz24_⟩ := Kd.R_celln 0 HO_5.out ((ji20) : Int) (od_) (od_))); (try (have HP24 := Kd.R_putg HO_5.out ((ji20) : Int) x7_2)))); refine store_event (t := 3) (p := 61) (v := ?vo_w25) (w1 := (wr.setCell ⟨go23, ((ji20) : Int).toNat, none⟩ (.int .i64 x7_2))) ?hg ?ho ?hn ?hr ?_; (case ho => rfl); (case hg => rfl); (case hn => rfl); (case hr => first | (go_simp; done) | (go_simp; rfl)); intro w25 hw; have hg : wr.grownBy w25 (some go23) := (by rw [hw]; exact HP24.2); have hp_ : Kd.R (Kd.int .i64) 3 w25 w.heap.size (fun k_ => (w.heap.size ≤ k_)) (.slice (some ⟨go23, 0, none⟩) x5_2.length co23) y583 := (by rw [hw, Ny583.out]; exact HP24.1); clear HP24; replace HO_5 := Aside0.mk (hp_); replace HB := Aside0.mk ((by rw [hw]; exact below_set (HB.out) GB23.out : Below w.heap.size w w25)); clear hg hw hp_))
    repeat (go_quiet (first | ((with_reducible refine gate_store (t := 3) (p := 61) rfl ?_); (try (rw [drewN_self wr]; generalize hq_ : World.drewN wr _ = wr; have n0_ := Aside0.mk (Kd.R_at hq_ HO_5.out); have n1_ := Aside0.mk (below_at hq_ HB.out); clear hq_ HO_5 HB; have HO_5 := n0_; have HB := n1_; clear n0_ n1_; (try (obtain ⟨hy24_, hz24_⟩ := Kd.R_celln 0 HO_5.out ((ji20) : Int) (od_) (od_))); (try (have HP24 := Kd.R_putg HO_5.out ((ji20) : Int) x7_2)))); refine store_event (t := 3) (p := 61) (v := ?vo_w25) (w1 := (wr.setCell ⟨go23, ((ji20) : Int).toNat, none⟩ (.int .i64 x7_2))) ?hg ?ho ?hn ?hr ?_; (case ho => rfl); (case hg => rfl); (case hn => rfl); (case hr => first | (go_simp; done) | (go_simp; rfl)); intro w25 hw; have hg : wr.grownBy w25 (some go23) := (by rw [hw]; exact HP24.2); have hp_ : Kd.R (Kd.int .i64) 3 w25 w.heap.size (fun k_ => (w.heap.size ≤ k_)) (.slice (some ⟨go23, 0, none⟩) x5_2.length co23) y583 := (by rw [hw, Ny583.out]; exact HP24.1); clear HP24; replace HO_5 := Aside0.mk (hp_); replace HB := Aside0.mk ((by rw [hw]; exact below_set (HB.out) GB23.out : Below w.heap.size w w25)); clear hg hw hp_)); try go_wp2_with (first | ((with_reducible refine gate_store (t := 3) (p := 61) rfl ?_); (try (rw [drewN_self wr]; generalize hq_ : World.drewN wr _ = wr; have n0_ := Aside0.mk (Kd.R_at hq_ HO_5.out); have n1_ := Aside0.mk (below_at hq_ HB.out); clear hq_ HO_5 HB; have HO_5 := n0_; have HB := n1_; clear n0_ n1_; (try (obtain ⟨hy24_, hz24_⟩ := Kd.R_celln 0 HO_5.out ((ji20) : Int) (od_) (od_))); (try (have HP24 := Kd.R_putg HO_5.out ((ji20) : Int) x7_2)))); refine store_event (t := 3) (p := 61) (v := ?vo_w25) (w1 := (wr.setCell ⟨go23, ((ji20) : Int).toNat, none⟩ (.int .i64 x7_2))) ?hg ?ho ?hn ?hr ?_; (case ho => rfl); (case hg => rfl); (case hn => rfl); (case hr => first | (go_simp; done) | (go_simp; rfl)); intro w25 hw; have hg : wr.grownBy w25 (some go23) := (by rw [hw]; exact HP24.2); have hp_ : Kd.R (Kd.int .i64) 3 w25 w.heap.size (fun k_ => (w.heap.size ≤ k_)) (.slice (some ⟨go23, 0, none⟩) x5_2.length co23) y583 := (by rw [hw, Ny583.out]; exact HP24.1); clear HP24; replace HO_5 := Aside0.mk (hp_); replace HB := Aside0.mk ((by rw [hw]; exact below_set (HB.out) GB23.out : Below w.heap.size w w25)); clear hg hw hp_)))
    go_roundg k2
    case measure => have := HK1.out; have := HK2.out; omega
    case rel => exact ⟨(y583), (wrap64 (x6_1 + 1)), (by first | rfl | (simp; done) | (simp [*]; done)), H', ⟨by have := HK1.out; have := HK2.out; omega⟩, ⟨by (with_reducible repeat (first | apply Kd.R_alloc | apply Kd.R_drewN | apply Kd.R_drew)); exact HO_5.out⟩, ⟨pB_ HB.out⟩⟩
  rw [if_pos c9] at H
  have c9b0 : decide (x8_2 < (l1.length : Int)) = true := decide_eq_true c9
  clear c9
  obtain ⟨ji10, hji10⟩ : ∃ j_ : Int, (wrap64 (x6_1 + x8_2)) = j_ := ⟨_, rfl⟩
  first | rw [hji10] at H | simp only [hji10] at H | skip
  have hji10w : (IntKind.i64.wrap (x6_1 + x8_2)) = ji10 := (i64_w _).trans hji10
  by_cases c11 : 0 ≤ (ji10)
  rotate_left
  · rw [if_neg c11] at H; exact absurd H (by simp)
  rw [if_pos c11] at H
  have c11b0 : decide (0 ≤ (ji10)) = true := decide_eq_true c11
  clear c11
  by_cases c12 : (ji10) < (x5_2.length : Int)
  rotate_left
  · rw [if_neg c12] at H; exact absurd H (by simp)
  rw [if_pos c12] at H
  have c12b0 : decide ((ji10) < (x5_2.length : Int)) = true := decide_eq_true c12
  clear c12
  by_cases c13 : 0 ≤ x6_1
  rotate_left
  · rw [if_neg c13] at H; exact absurd H (by simp)
  rw [if_pos c13] at H
  have c13b0 : decide (0 ≤ x6_1) = true := decide_eq_true c13
  clear c13
  by_cases c14 : x6_1 < (l0.length : Int)
  rotate_left
  · rw [if_neg c14] at H; exact absurd H (by simp)
  rw [if_pos c14] at H
  have c14b0 : decide (x6_1 < (l0.length : Int)) = true := decide_eq_true c14
  clear c14
  by_cases c15 : 0 ≤ x8_2
  rotate_left
  · rw [if_neg c15] at H; exact absurd H (by simp)
  rw [if_pos c15] at H
  have c15b0 : decide (0 ≤ x8_2) = true := decide_eq_true c15
  clear c15
  obtain ⟨y582, hy582⟩ : ∃ y_ : List Int, y_ = (x5_2.set ((ji10) : Int).toNat (Go.bits .and .i64 (wrap64 ((wrap64 ((rd x5_2 (ji10)) + (wrap64 ((rd l0 x6_1) * (rd l1 x8_2))))) + x7_2)) 16777215)) := ⟨_, rfl⟩
  first | rw [← hy582] at H | skip
  have Ny582 := Aside0.mk hy582
  clear hy582
  have H' := Aside0.mk H
  clear H
  obtain ⟨Ao17, co17, eo17⟩ := Kd.R_slice HO_5.out
  subst eo17
  have p579 : 0 ≤ ((ji10) : Int) := od_
  have q579 : (ji10) < (x5_2.length : Int) := od_
  obtain ⟨ad579, e579, hx579_0⟩ := Kd.at_int (Kd.R_reads' HO_5.out).2.2 (ji10) p579 q579
  cases e579
  replace p579 := eq_true p579
  replace q579 := eq_true q579
  have p580 : 0 ≤ (x6_1 : Int) := od_
  have q580 : x6_1 < (l0.length : Int) := od_
  obtain ⟨ad580, e580, hx580_0⟩ := Kd.at_int HR0.out x6_1 p580 q580
  cases e580
  replace hx580_0 := (HB.out.cell (World.block_lt_of_cell? w _ hx580_0)).trans hx580_0
  replace p580 := eq_true p580
  replace q580 := eq_true q580
  have p581 : 0 ≤ (x8_2 : Int) := od_
  have q581 : x8_2 < (l1.length : Int) := od_
  obtain ⟨ad581, e581, hx581_0⟩ := Kd.at_int HR1.out x8_2 p581 q581
  cases e581
  replace hx581_0 := (HB.out.cell (World.block_lt_of_cell? w _ hx581_0)).trans hx581_0
  replace p581 := eq_true p581
  replace q581 := eq_true q581
  have p16 : 0 ≤ ((ji10) : Int) := od_
  have q16 : ((ji10) : Int) < ((x5_2.length : Int) : Int) := od_
  obtain ⟨go16, co16, eo16, gb16, gl16, cl16, HG16⟩ := Kd.R_form HO_5.out (by omega)
  (first | cases eo16 | (injection eo16 with ea_ en_ ec_; (first | subst ea_ | (injection ea_ with ea_; subst ea_)); subst ec_; clear en_))
  have GB16 := Aside0.mk gb16
  have GG16 := Aside0.mk HG16
  clear gb16 gl16 HG16
  (first | simp only [add_plain] at hx579_0 | skip)
  obtain ⟨hx16_0, hf16_0⟩ := Kd.R_celln 0 HO_5.out ((ji10) : Int) p16 q16
  replace p16 := eq_true p16
  replace q16 := eq_true q16
  obtain ⟨hy18_, hz18_⟩ := Kd.R_celln 0 HO_5.out ((ji10) : Int) (od_) (od_)
  have HP18 := Kd.R_putg HO_5.out ((ji10) : Int) (Go.bits .and .i64 (wrap64 ((wrap64 ((rd x5_2 (ji10)) + (wrap64 ((rd l0 x6_1) * (rd l1 x8_2))))) + x7_2)) 16777215)
  go_wp2_with (first | ((with_reducible refine gate_store (t := 3) (p := 52) rfl ?_); (try (rw [drewN_self wr]; generalize hq_ : World.drewN wr _ = wr; have n0_ := Aside0.mk (Kd.R_at hq_ HO_5.out); have n1_ := Aside0.mk (below_at hq_ HB.out); clear hq_ HO_5 HB; have HO_5 := n0_; have HB := n1_; clear n0_ n1_; (try (obtain ⟨hy18_, hz18_⟩ := Kd.R_celln 0 HO_5.out ((ji10) : Int) (od_) (od_))); (try (have HP18 := Kd.R_putg HO_5.out ((ji10) : Int) (Go.bits .and .i64 (wrap64 ((wrap64 ((rd x5_2 (ji10)) + (wrap64 ((rd l0 x6_1) * (rd l1 x8_2))))) + x7_2)) 16777215))))); refine store_event (t := 3) (p := 52) (v := ?vo_w19) (w1 := (wr.setCell ⟨go16, ((ji10) : Int).toNat, none⟩ (.int .i64 (Go.bits .and .i64 (wrap64 ((wrap64 ((rd x5_2 (ji10)) + (wrap64 ((rd l0 x6_1) * (rd l1 x8_2))))) + x7_2)) 16777215)))) ?hg ?ho ?hn ?hr ?_; (case ho => rfl); (case hg => rfl); (case hn => rfl); (case hr => first | (go_simp; done) | (go_simp; rfl)); intro w19 hw; have hg : wr.grownBy w19 (some go16) := (by rw [hw]; exact HP18.2); have hp_ : Kd.R (Kd.int .i64) 3 w19 w.heap.size (fun k_ => (w.heap.size ≤ k_)) (.slice (some ⟨go16, 0, none⟩) x5_2.length co17) y582 := (by rw [hw, Ny582.out]; exact HP18.1); clear HP18; replace HO_5 := Aside0.mk (hp_); replace HB := Aside0.mk ((by rw [hw]; exact below_set (HB.out) GB16.out : Below w.heap.size w w19)); clear hg hw hp_))
  repeat (go_quiet (first | ((with_reducible refine gate_store (t := 3) (p := 52) rfl ?_); (try (rw [drewN_self wr]; generalize hq_ : World.drewN wr _ = wr; have n0_ := Aside0.mk (Kd.R_at hq_ HO_5.out); have n1_ := Aside0.mk (below_at hq_ HB.out); clear hq_ HO_5 HB; have HO_5 := n0_; have HB := n1_; clear n0_ n1_; (try (obtain ⟨hy18_, hz18_⟩ := Kd.R_celln 0 HO_5.out ((ji10) : Int) (od_) (od_))); (try (have HP18 := Kd.R_putg HO_5.out ((ji10) : Int) (Go.bits .and .i64 (wrap64 ((wrap64 ((rd x5_2 (ji10)) + (wrap64 ((rd l0 x6_1) * (rd l1 x8_2))))) + x7_2)) 16777215))))); refine store_event (t := 3) (p := 52) (v := ?vo_w19) (w1 := (wr.setCell ⟨go16, ((ji10) : Int).toNat, none⟩ (.int .i64 (Go.bits .and .i64 (wrap64 ((wrap64 ((rd x5_2 (ji10)) + (wrap64 ((rd l0 x6_1) * (rd l1 x8_2))))) + x7_2)) 16777215)))) ?hg ?ho ?hn ?hr ?_; (case ho => rfl); (case hg => rfl); (case hn => rfl); (case hr => first | (go_simp; done) | (go_simp; rfl)); intro w19 hw; have hg : wr.grownBy w19 (some go16) := (by rw [hw]; exact HP18.2); have hp_ : Kd.R (Kd.int .i64) 3 w19 w.heap.size (fun k_ => (w.heap.size ≤ k_)) (.slice (some ⟨go16, 0, none⟩) x5_2.length co17) y582 := (by rw [hw, Ny582.out]; exact HP18.1); clear HP18; replace HO_5 := Aside0.mk (hp_); replace HB := Aside0.mk ((by rw [hw]; exact below_set (HB.out) GB16.out : Below w.heap.size w w19)); clear hg hw hp_)); try go_wp2_with (first | ((with_reducible refine gate_store (t := 3) (p := 52) rfl ?_); (try (rw [drewN_self wr]; generalize hq_ : World.drewN wr _ = wr; have n0_ := Aside0.mk (Kd.R_at hq_ HO_5.out); have n1_ := Aside0.mk (below_at hq_ HB.out); clear hq_ HO_5 HB; have HO_5 := n0_; have HB := n1_; clear n0_ n1_; (try (obtain ⟨hy18_, hz18_⟩ := Kd.R_celln 0 HO_5.out ((ji10) : Int) (od_) (od_))); (try (have HP18 := Kd.R_putg HO_5.out ((ji10) : Int) (Go.bits .and .i64 (wrap64 ((wrap64 ((rd x5_2 (ji10)) + (wrap64 ((rd l0 x6_1) * (rd l1 x8_2))))) + x7_2)) 16777215))))); refine store_event (t := 3) (p := 52) (v := ?vo_w19) (w1 := (wr.setCell ⟨go16, ((ji10) : Int).toNat, none⟩ (.int .i64 (Go.bits .and .i64 (wrap64 ((wrap64 ((rd x5_2 (ji10)) + (wrap64 ((rd l0 x6_1) * (rd l1 x8_2))))) + x7_2)) 16777215)))) ?hg ?ho ?hn ?hr ?_; (case ho => rfl); (case hg => rfl); (case hn => rfl); (case hr => first | (go_simp; done) | (go_simp; rfl)); intro w19 hw; have hg : wr.grownBy w19 (some go16) := (by rw [hw]; exact HP18.2); have hp_ : Kd.R (Kd.int .i64) 3 w19 w.heap.size (fun k_ => (w.heap.size ≤ k_)) (.slice (some ⟨go16, 0, none⟩) x5_2.length co17) y582 := (by rw [hw, Ny582.out]; exact HP18.1); clear HP18; replace HO_5 := Aside0.mk (hp_); replace HB := Aside0.mk ((by rw [hw]; exact below_set (HB.out) GB16.out : Below w.heap.size w w19)); clear hg hw hp_)))
  go_roundg k2
  case measure => have := HK1.out; have := HK2.out; omega
  case rel => exact ⟨(y582), ((wrap64 ((wrap64 ((rd x5_2 (ji10)) + (wrap64 ((rd l0 x6_1) * (rd l1 x8_2))))) + x7_2)) / 16777216), (wrap64 (x8_2 + 1)), (by first | rfl | (simp; done) | (simp only [← hji10] <;> (first | rfl | simp)) | (simp [*]; done)), (by first | rfl | (simp; done) | (simp [*]; done)), H', ⟨by have := HK1.out; have := HK2.out; omega⟩, ⟨by (with_reducible repeat (first | apply Kd.R_alloc | apply Kd.R_drewN | apply Kd.R_drew)); exact HO_5.out⟩, ⟨pB_ HB.out⟩⟩

/-! ### spec_l04Mul: function 50 -/
def spec_l04Mul.f (k : Nat) (l0 : List Int) (l1 : List Int) (l2 : List Int) : Option (List Int) := (spec_l02Mul.f k l0 l1).bind fun t584 => ((spec_l02Div.f k t584 l2).bind fun bt587 => (some bt587.2))
set_option maxHeartbeats 8000000 in
set_option maxRecDepth 100000 in
theorem spec_l04Mul.calls (k : Nat) (A0 : Option Addr) (c0 : Nat) (l0 : List Int) (A1 : Option Addr) (c1 : Nat) (l1 : List Int) (A2 : Option Addr) (c2 : Nat) (l2 : List Int) (r : List Int) (w : World) (hr0 : Kd.C (Kd.int .i64) w A0 l0.length l0) (hc0 : l0.length ≤ c0) (hr1 : Kd.C (Kd.int .i64) w A1 l1.length l1) (hc1 : l1.length ≤ c1) (hr2 : Kd.C (Kd.int .i64) w A2 l2.length l2) (hc2 : l2.length ≤ c2) (h : spec_l04Mul.f k l0 l1 l2 = some r) :
    Calls Try.prog 50 #[.slice A0 l0.length c0, .slice A1 l1.length c1, .slice A2 l2.length c2] w fun e w' => ∃ v0_ : Value, e = .returned (v0_) ∧ Kd.V (Kd.int .i64) 3 w' w.heap.size (fun k_ => (w.heap.size ≤ k_)) v0_ r ∧ Below w.heap.size w w' := by
  have HR0 := Aside0.mk hr0
  have HC0 := Aside0.mk hc0
  clear hr0 hc0
  have HR1 := Aside0.mk hr1
  have HC1 := Aside0.mk hc1
  clear hr1 hc1
  have HR2 := Aside0.mk hr2
  have HC2 := Aside0.mk hc2
  clear hr2 hc2
  have HB := Aside0.mk (Below.refl w.heap.size w)
  have H : ((spec_l02Mul.f k l0 l1).bind fun t584 => ((spec_l02Div.f k t584 l2).bind fun bt587 => (some bt587.2))) = some r := h
  clear h
  replace H := Option.bind_eq_some_iff.mp H
  obtain ⟨t584, A40, H⟩ := H
  have A4 := Aside0.mk A40
  clear A40
  replace H := Option.bind_eq_some_iff.mp H
  obtain ⟨⟨t587, t590⟩, A50, H⟩ := H
  replace H : (some t590) = some r := H
  have A5 := Aside0.mk A50
  clear A50
  obtain rfl := Option.some.inj H
  go_enter Try.func50, Try.ntmps50
  go_wp2_with (first | ((with_reducible refine gate_callee (f := 86) rfl ?_); refine gL_ 12 Try.func86 rfl #[.slice A0 l0.length c0, .slice A1 l1.length c1] ?_; (with_reducible refine (spec_l02Mul.calls k _ _ l0 _ _ l1 t584 _ ?side1 ?side2 ?side3 ?side4 A4.out).mono ?_); (case side1 => exact pC_ HR0.out); (case side2 => exact HC0.out); (case side3 => exact pC_ HR1.out); (case side4 => exact HC1.out); rintro e w6 ⟨v585, rfl, ho0, hb⟩; refine ⟨_, rfl, ?_⟩; have HO586 := Aside0.mk (Kd.V_lower (Kd.V_mono (ok' := fun k_ => (w.heap.size ≤ k_)) ho0 (fun k_ hk_ => (Nat.le_trans (below_size (pB_ HB.out)) hk_))) (below_size (pB_ HB.out))); replace HB := Aside0.mk (below_step (pB_ HB.out) hb); clear hb ho0; obtain ⟨Ao7, co7, eo7⟩ := Kd.V_slice HO586.out; subst eo7) | ((with_reducible refine gate_callee (f := 44) rfl ?_); refine gL_ 14 Try.func44 rfl #[.slice Ao7 t584.length co7, .slice A2 l2.length c2] ?_; (with_reducible refine (spec_l02Div.calls k _ _ t584 _ _ l2 t587 t590 _ ?side1 ?side2 ?side3 ?side4 A5.out).mono ?_); (case side1 => exact pC_ (Kd.V_reads' HO586.out).2.2); (case side2 => exact (Kd.V_reads' HO586.out).2.1); (case side3 => exact pC_ (Kd.C_below HR2.out HB.out)); (case side4 => exact HC2.out); rintro e w8 ⟨v588, v591, rfl, ho0, ho1, hb⟩; refine ⟨_, rfl, ?_⟩; replace HO586 := Aside0.mk (Kd.V_below (pV_ HO586.out) hb); have HO589 := Aside0.mk (Kd.V_lower (Kd.V_mono (ok' := fun k_ => (w.heap.size ≤ k_)) ho0 (fun k_ hk_ => (Nat.le_trans (below_size (pB_ HB.out)) hk_))) (below_size (pB_ HB.out))); have HO592 := Aside0.mk (Kd.V_lower (Kd.V_mono (ok' := fun k_ => (w.heap.size ≤ k_)) ho1 (fun k_ hk_ => (Nat.le_trans (below_size (pB_ HB.out)) hk_))) (below_size (pB_ HB.out))); replace HB := Aside0.mk (below_step (pB_ HB.out) hb); clear hb ho0 ho1))
  go_ret
  exact ⟨_, by first | rfl | (simp [errW_none, errW_some] <;> rfl) | (simp [*, errW_none, errW_some] <;> rfl), by (with_reducible repeat (first | apply Kd.V_alloc | apply Kd.V_drewN | apply Kd.V_drew)); exact HO592.out, pB_ HB.out⟩

end Go.Proofs.Ytghhnjhjhjbljaa.F
