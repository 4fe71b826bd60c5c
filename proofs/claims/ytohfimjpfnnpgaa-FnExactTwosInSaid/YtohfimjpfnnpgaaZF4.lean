-- Made for this seat by a program of this session (wip/fork, wip/slim.py). Lean checks it.
import Derived.Test.YtohfimjpfnnpgaaFx0
import Derived.Test.YtohfimjpfnnpgaaZF0
import Derived.Test.YtohfimjpfnnpgaaZF1
import Derived.Test.YtohfimjpfnnpgaaZF2
import Derived.Test.YtohfimjpfnnpgaaZF3
namespace Go.Proofs.Ytohfimjpfnnpgaa.F
open Go.RowKit Go.Proofs.YtohfimjpfnnpgaaW.PrintWords Go.Proofs.YtohfimjpfnnpgaaW.PrintLast Go.Proofs.YtohfimjpfnnpgaaW.PrintMore
attribute [local go_sem] max2_int min2_int max_two min_two max_three min_three max_four min_four   -- for this text's walks alone
set_option linter.unusedVariables false
set_option linter.unusedSimpArgs false

/-! ### spec_TwosIn: function 35 -/
def spec_TwosIn.l0 : Nat → List Int → Int → Option (Int × ByteArray)
  | 0, _, _ => none
  | k + 1, x4, x5 => if 0 < (x4.length : Int) then (if (Int.tmod (rd x4 0) 2) = 0 then ((spec_l02Div.f k x4 (([2] : List Int))).bind fun bt965 => (spec_TwosIn.l0 k bt965.1 (wrap64 (x5 + 1)))) else ((spec_l02Out.f k x4).bind fun t971 => (some (x5, t971)))) else (none)
def spec_TwosIn.f (k : Nat) (a0 : ByteArray) : Option (Int × ByteArray) := (spec_l04Mod.f a0).bind fun t951 => (if t951 = true then ((spec_l02In.f k a0).bind fun t952 => ((spec_l02Sub.f k t952 (([1] : List Int))).bind fun t958 => (spec_TwosIn.l0 k t958 0))) else (some (0, (⟨#[]⟩ : ByteArray))))
set_option maxHeartbeats 8000000 in
set_option maxRecDepth 100000 in
theorem spec_TwosIn.calls (k : Nat) (a0 : ByteArray) (r1 : Int) (r2 : ByteArray) (w : World) (h : spec_TwosIn.f k a0 = some (r1, r2)) :
    Calls Try.prog 35 #[.string a0] w fun e w' => e = .returned (.tuple #[.int .i64 r1, .string r2]) ∧ Below w.heap.size w w' := by
  have HB := Aside0.mk (Below.refl w.heap.size w)
  have H : ((spec_l04Mod.f a0).bind fun t951 => (if t951 = true then ((spec_l02In.f k a0).bind fun t952 => ((spec_l02Sub.f k t952 (([1] : List Int))).bind fun t958 => (spec_TwosIn.l0 k t958 0))) else (some (0, (⟨#[]⟩ : ByteArray))))) = some (r1, r2) := h
  clear h
  replace H := Option.bind_eq_some_iff.mp H
  obtain ⟨t951, A20, H⟩ := H
  have A2 := Aside0.mk A20
  clear A20
  by_cases c3 : t951 = true
  · subst c3
    have H1 : ((spec_l02In.f k a0).bind fun t952 => ((spec_l02Sub.f k t952 (([1] : List Int))).bind fun t958 => (spec_TwosIn.l0 k t958 0))) = some (r1, r2) := by rw [if_pos rfl] at H; exact H
    clear H
    have H := H1
    clear H1
    replace H := Option.bind_eq_some_iff.mp H
    obtain ⟨t952, A40, H⟩ := H
    have A4 := Aside0.mk A40
    clear A40
    obtain ⟨y955, hy955⟩ : ∃ y_ : List Int, y_ = (([1] : List Int)) := ⟨_, rfl⟩
    replace H : ((spec_l02Sub.f k t952 y955).bind fun t958 => (spec_TwosIn.l0 k t958 0)) = some (r1, r2) := by first | (rw [hy955]; with_reducible exact H) | (have H2_ := (Option.bind_some _ _).symm.trans H; rw [hy955]; with_reducible exact H2_) | (have H2_ := (Option.bind_some _ _).symm.trans H; with_reducible exact H2_) | with_reducible exact H | (rw [hy955]; exact H) | exact H
    have Ny955 := Aside0.mk hy955
    clear hy955
    replace H := Option.bind_eq_some_iff.mp H
    obtain ⟨t958, A50, H⟩ := H
    have A5 := Aside0.mk A50
    clear A50
    have H' := Aside0.mk H
    clear H
    go_enter Try.func35, Try.ntmps35
    go_wp2_with (first | ((with_reducible refine gate_callee (f := 48) rfl ?_); refine gL_ 7 Try.func48 rfl #[.string a0] ?_; (with_reducible refine (spec_l04Mod.calls a0 true _ A2.out).mono ?_); rintro e w' ⟨rfl, ⟨nd, rfl⟩⟩; refine ⟨_, rfl, ?_⟩) | ((with_reducible refine gate_callee (f := 62) rfl ?_); refine gL_ 10 Try.func62 rfl #[.string a0] ?_; (with_reducible refine (spec_l02In.calls k a0 t952 _ A4.out).mono ?_); rintro e w6 ⟨v953, rfl, ho0, hb⟩; refine ⟨_, rfl, ?_⟩; have HO954 := Aside0.mk (Kd.V_lower (Kd.V_mono (ok' := fun k_ => True) ho0 (fun k_ hk_ => trivial)) (below_size (pB_ HB.out))); replace HB := Aside0.mk (below_step (pB_ HB.out) hb); clear hb ho0) | ((with_reducible refine gate_dst (N := 11) rfl ?_); refine Kd.R_lit (Kd.int .i64) _ 3 ?hg (N := 11) ?hd (xs := ([1] : List Int)) (inner := [.int .i64 1]) (ok := fun _ => True) (okp := fun _ => True) ?hr ?hp (fun _ hk => hk) trivial (Below.refl _ _) (Nat.le_refl _) (by simp) ?_; (case hd => rfl); (case hg => rfl); (case hr => first | (go_simp; done) | (go_simp; rfl)); (case hp => exact (Reps.one (show Kd.M (Kd.int .i64) _ _ _ 1 [.int .i64 1] from rfl) (Reps.none _ _))); intro v956 w7 ho8 hb hg_ hnew_; clear hg_ hnew_; (first | rw [← Ny955.out] at ho8 | (simp only [Int.reduceToNat] at ho8; rw [← Ny955.out] at ho8)); replace HO954 := Aside0.mk (Kd.V_elder' (pV_ HO954.out) (Kd.R_base ho8) hb); have HO957 := Aside0.mk (Kd.R_lower ho8 (below_size (pB_ HB.out))); replace HB := Aside0.mk (below_step (pB_ HB.out) hb); clear hb ho8; obtain ⟨Ao9, co9, eo9⟩ := Kd.V_slice HO954.out; subst eo9; obtain ⟨Ao10, co10, eo10⟩ := Kd.R_slice HO957.out; subst eo10) | ((with_reducible refine gate_callee (f := 75) rfl ?_); refine gL_ 12 Try.func75 rfl #[.slice Ao9 t952.length co9, .slice Ao10 y955.length co10] ?_; (with_reducible refine (spec_l02Sub.calls k _ _ t952 _ _ y955 t958 _ ?side1 ?side2 ?side3 ?side4 A5.out).mono ?_); (case side1 => exact pC_ (Kd.V_reads' HO954.out).2.2); (case side2 => exact (Kd.V_reads' HO954.out).2.1); (case side3 => exact pC_ (Kd.R_reads' HO957.out).2.2); (case side4 => exact (Kd.R_reads' HO957.out).2.1); rintro e w11 ⟨v959, rfl, ho0, hb⟩; refine ⟨_, rfl, ?_⟩; replace HO954 := Aside0.mk (Kd.V_below (pV_ HO954.out) hb); have HO960 := Aside0.mk (Kd.V_lower (Kd.V_mono (ok' := fun k_ => some k_ ≠ (.slice Ao10 y955.length co10 : Value).ownBlock) ho0 (fun k_ hk_ => (Kd.fresh' (Kd.R_lt (pR_ HO957.out)) k_ hk_))) (below_size (pB_ HB.out))); replace HO957 := Aside0.mk (Kd.R_below (pR_ HO957.out) hb); replace HB := Aside0.mk (below_step (pB_ HB.out) hb); clear hb ho0))
    go_loopg [4, 5] k (fun kq v4 v5 w' => ∃ (x4_1 : List Int) (x5_1 : Int), v5 = .int .i64 x5_1 ∧ Aside0 (spec_TwosIn.l0 kq x4_1 x5_1 = some (r1, r2)) ∧ Aside0 (kq ≤ k) ∧ Aside0 (Kd.V (Kd.int .i64) 3 w' w.heap.size (fun _ => True) v4 x4_1) ∧ Aside0 (Below w.heap.size w w'))
    case atStart => exact ⟨(t958), (0), (by first | rfl | (simp; done) | (simp [*]; done)), H', ⟨Nat.le_refl _⟩, ⟨by (with_reducible repeat (first | apply Kd.V_alloc | apply Kd.V_drewN | apply Kd.V_drew)); exact Kd.V_mono HO960.out (fun _ hk => trivial)⟩, ⟨pB_ HB.out⟩⟩
    clear H'
    try clear p2
    try clear c3
    try clear c4
    try clear c6
    try clear c7
    obtain ⟨x4_1, x5_1, rfl, HA, HK1, HO_4, HB⟩ := hrel
    rcases gk with _ | k1
    · exact absurd HA.out (by simp [spec_TwosIn.l0])
    have H := HA.out
    clear HA
    simp only [spec_TwosIn.l0] at H
    by_cases c12 : 0 < (x4_1.length : Int)
    rotate_left
    · rw [if_neg c12] at H; exact absurd H (by simp)
    rw [if_pos c12] at H
    have c12b0 : decide (0 < (x4_1.length : Int)) = true := decide_eq_true c12
    have c12b1 : decide (0 < x4_1.length) = true := decide_eq_true (by omega)
    clear c12
    by_cases c13 : (Int.tmod (rd x4_1 0) 2) = 0
    rotate_left
    · rw [if_neg c13] at H
      have c13b0 : ((Int.tmod (rd x4_1 0) 2) == 0) = false := beq_eq_false_iff_ne.mpr c13
      have c13b1 : ((Int.tmod (rd x4_1 0) 2) != 0) = true := bne_iff_ne.mpr c13
      replace H := Option.bind_eq_some_iff.mp H
      obtain ⟨t971, A200, H⟩ := H
      have A20 := Aside0.mk A200
      clear A200
      simp only [Option.some.injEq, Prod.mk.injEq] at H
      obtain ⟨rfl, rfl⟩ := H
      obtain ⟨Ao21, co21, eo21⟩ := Kd.V_slice HO_4.out
      subst eo21
      have p961 : 0 ≤ (0 : Int) := (by omega)
      have q961 : 0 < (x4_1.length : Int) := od_
      obtain ⟨ad961, e961, hx961_0⟩ := Kd.at_int (Kd.V_reads' HO_4.out).2.2 0 p961 q961
      cases e961
      have qi961 : (0 < x4_1.length) = True := eq_true (by omega)
      (try rw [show ((0 : Int)).toNat = 0 from rfl] at hx961_0)
      (try rw [Addr.add_zero'] at hx961_0)
      replace p961 := eq_true p961
      replace q961 := eq_true q961
      go_wp2_with (first | ((with_reducible refine gate_callee (f := 60) rfl ?_); refine gL_ 28 Try.func60 rfl #[.slice (some ad961) x4_1.length co21] ?_; (with_reducible refine (spec_l02Out.calls k1 _ _ x4_1 t971 _ ?side1 ?side2 A20.out).mono ?_); (case side1 => exact pC_ (Kd.V_reads' HO_4.out).2.2); (case side2 => exact (Kd.V_reads' HO_4.out).2.1); rintro e w22 ⟨rfl, hb⟩; refine ⟨_, rfl, ?_⟩; replace HO_4 := Aside0.mk (Kd.V_below (pV_ HO_4.out) hb); replace HB := Aside0.mk (below_step (pB_ HB.out) hb); clear hb))
      go_ret2
      exact ⟨by first | rfl | (simp [errW_none, errW_some] <;> rfl) | (simp [*, errW_none, errW_some] <;> rfl), pB_ HB.out⟩
    rw [if_pos c13] at H
    have c13b0 : ((Int.tmod (rd x4_1 0) 2) == 0) = true := beq_iff_eq.mpr c13
    have c13b1 : ((Int.tmod (rd x4_1 0) 2) != 0) = false := bne_eq_false_iff_eq.mpr c13
    clear c13
    obtain ⟨y962, hy962⟩ : ∃ y_ : List Int, y_ = (([2] : List Int)) := ⟨_, rfl⟩
    replace H : ((spec_l02Div.f k1 x4_1 y962).bind fun bt965 => (spec_TwosIn.l0 k1 bt965.1 (wrap64 (x5_1 + 1)))) = some (r1, r2) := by first | (rw [hy962]; with_reducible exact H) | (have H2_ := (Option.bind_some _ _).symm.trans H; rw [hy962]; with_reducible exact H2_) | (have H2_ := (Option.bind_some _ _).symm.trans H; with_reducible exact H2_) | with_reducible exact H | (rw [hy962]; exact H) | exact H
    have Ny962 := Aside0.mk hy962
    clear hy962
    replace H := Option.bind_eq_some_iff.mp H
    obtain ⟨⟨t965, t968⟩, A140, H⟩ := H
    replace H : (spec_TwosIn.l0 k1 t965 (wrap64 (x5_1 + 1))) = some (r1, r2) := H
    have A14 := Aside0.mk A140
    clear A140
    have H' := Aside0.mk H
    clear H
    obtain ⟨Ao15, co15, eo15⟩ := Kd.V_slice HO_4.out
    subst eo15
    have p961 : 0 ≤ (0 : Int) := (by omega)
    have q961 : 0 < (x4_1.length : Int) := od_
    obtain ⟨ad961, e961, hx961_0⟩ := Kd.at_int (Kd.V_reads' HO_4.out).2.2 0 p961 q961
    cases e961
    have qi961 : (0 < x4_1.length) = True := eq_true (by omega)
    (try rw [show ((0 : Int)).toNat = 0 from rfl] at hx961_0)
    (try rw [Addr.add_zero'] at hx961_0)
    replace p961 := eq_true p961
    replace q961 := eq_true q961
    go_wp2_with (first | ((with_reducible refine gate_dst (N := 20) rfl ?_); refine Kd.R_lit (Kd.int .i64) _ 3 ?hg (N := 20) ?hd (xs := ([2] : List Int)) (inner := [.int .i64 2]) (ok := fun _ => True) (okp := fun _ => True) ?hr ?hp (fun _ hk => hk) trivial (Below.refl _ _) (Nat.le_refl _) (by simp) ?_; (case hd => rfl); (case hg => rfl); (case hr => first | (go_simp; done) | (go_simp; rfl)); (case hp => exact (Reps.one (show Kd.M (Kd.int .i64) _ _ _ 2 [.int .i64 2] from rfl) (Reps.none _ _))); intro v963 w16 ho17 hb hg_ hnew_; clear hg_ hnew_; (first | rw [← Ny962.out] at ho17 | (simp only [Int.reduceToNat] at ho17; rw [← Ny962.out] at ho17)); replace HO_4 := Aside0.mk (Kd.V_elder' (pV_ HO_4.out) (Kd.R_base ho17) hb); have HO964 := Aside0.mk (Kd.R_lower ho17 (below_size (pB_ HB.out))); replace HB := Aside0.mk (below_step (pB_ HB.out) hb); clear hb ho17; obtain ⟨Ao18, co18, eo18⟩ := Kd.R_slice HO964.out; subst eo18) | ((with_reducible refine gate_callee (f := 76) rfl ?_); refine gL_ 21 Try.func76 rfl #[.slice (some ad961) x4_1.length co15, .slice Ao18 y962.length co18] ?_; (with_reducible refine (spec_l02Div.calls k1 _ _ x4_1 _ _ y962 t965 t968 _ ?side1 ?side2 ?side3 ?side4 A14.out).mono ?_); (case side1 => exact pC_ (Kd.V_reads' HO_4.out).2.2); (case side2 => exact (Kd.V_reads' HO_4.out).2.1); (case side3 => exact pC_ (Kd.R_reads' HO964.out).2.2); (case side4 => exact (Kd.R_reads' HO964.out).2.1); rintro e w19 ⟨v966, v969, rfl, ho0, ho1, hb⟩; refine ⟨_, rfl, ?_⟩; replace HO_4 := Aside0.mk (Kd.V_below (pV_ HO_4.out) hb); have HO967 := Aside0.mk (Kd.V_lower (Kd.V_mono (ok' := fun k_ => some k_ ≠ (.slice Ao18 y962.length co18 : Value).ownBlock) ho0 (fun k_ hk_ => (Kd.fresh' (Kd.R_lt (pR_ HO964.out)) k_ hk_))) (below_size (pB_ HB.out))); have HO970 := Aside0.mk (Kd.V_lower (Kd.V_mono (ok' := fun k_ => some k_ ≠ (.slice Ao18 y962.length co18 : Value).ownBlock) ho1 (fun k_ hk_ => (Kd.fresh' (Kd.R_lt (pR_ HO964.out)) k_ hk_))) (below_size (pB_ HB.out))); replace HO964 := Aside0.mk (Kd.R_below (pR_ HO964.out) hb); replace HB := Aside0.mk (below_step (pB_ HB.out) hb); clear hb ho0 ho1))
    go_roundg k1
    case measure => have := HK1.out; omega
    case rel => exact ⟨(t965), (wrap64 (x5_1 + 1)), (by first | rfl | (simp; done) | (simp [*]; done)), H', ⟨by have := HK1.out; omega⟩, ⟨by (with_reducible repeat (first | apply Kd.V_alloc | apply Kd.V_drewN | apply Kd.V_drew)); exact Kd.V_mono HO967.out (fun _ hk => trivial)⟩, ⟨pB_ HB.out⟩⟩
  · replace c3 := Bool.eq_false_iff.mpr c3
    subst c3
    have H1 : (some (0, (⟨#[]⟩ : ByteArray))) = some (r1, r2) := by rw [if_neg (show ¬ (false = true) by decide)] at H; exact H
    clear H
    have H := H1
    clear H1
    simp only [Option.some.injEq, Prod.mk.injEq] at H
    obtain ⟨rfl, rfl⟩ := H
    go_enter Try.func35, Try.ntmps35
    go_wp2_with (first | ((with_reducible refine gate_callee (f := 48) rfl ?_); refine gL_ 7 Try.func48 rfl #[.string a0] ?_; (with_reducible refine (spec_l04Mod.calls a0 false _ A2.out).mono ?_); rintro e w' ⟨rfl, ⟨nd, rfl⟩⟩; refine ⟨_, rfl, ?_⟩))
    go_ret2
    exact ⟨by first | rfl | (simp [errW_none, errW_some] <;> rfl) | (simp [*, errW_none, errW_some] <;> rfl), pB_ HB.out⟩

/-! ### impl_nat_bit: function 83 -/
def impl_nat_bit.f (l0 : List Int) (a1 : Int) : Option (Int) := if a1 < 0 then (some 0) else (if a1 ≥ (wrap64 (64 * (l0.length : Int))) then (some 0) else (if 0 ≤ (wrap64 (Int.tdiv a1 64)) then (if (wrap64 (Int.tdiv a1 64)) < (l0.length : Int) then (if 0 ≤ (Int.tmod a1 64) then (some (Go.bits .and .u64 (shr .u64 (rd l0 (wrap64 (Int.tdiv a1 64))) (Int.tmod a1 64)) 1)) else (none)) else (none)) else (none)))
set_option maxHeartbeats 8000000 in
set_option maxRecDepth 100000 in
theorem impl_nat_bit.calls (A0 : Option Addr) (c0 : Nat) (l0 : List Int) (a1 : Int) (r : Int) (w : World) (hr0 : Kd.C (Kd.int .u64) w A0 l0.length l0) (hc0 : l0.length ≤ c0) (h : impl_nat_bit.f l0 a1 = some r) :
    Calls Try.prog 83 #[.slice A0 l0.length c0, .int .i64 a1] w fun e w' => e = .returned (.int .u64 r) ∧ Drawn0 w w' := by
  have HR0 := Aside0.mk hr0
  have HC0 := Aside0.mk hc0
  clear hr0 hc0
  have H : (if a1 < 0 then (some 0) else (if a1 ≥ (wrap64 (64 * (l0.length : Int))) then (some 0) else (if 0 ≤ (wrap64 (Int.tdiv a1 64)) then (if (wrap64 (Int.tdiv a1 64)) < (l0.length : Int) then (if 0 ≤ (Int.tmod a1 64) then (some (Go.bits .and .u64 (shr .u64 (rd l0 (wrap64 (Int.tdiv a1 64))) (Int.tmod a1 64)) 1)) else (none)) else (none)) else (none)))) = some r := h
  clear h
  by_cases c3 : a1 < 0
  · rw [if_pos c3] at H
    have c3b0 : decide (a1 < 0) = true := decide_eq_true c3
    clear c3
    obtain rfl := Option.some.inj H
    go_enter Try.func83, Try.ntmps83
    go_wp2
    go_ret
    exact ⟨by first | rfl | (simp; done) | (simp [*]; done), by repeat (first | exact Drawn0.refl _ | apply Drawn0.step)⟩
  rw [if_neg c3] at H
  have c3b0 : decide (a1 < 0) = false := decide_eq_false c3
  clear c3
  by_cases c4 : a1 ≥ (wrap64 (64 * (l0.length : Int)))
  · rw [if_pos c4] at H
    have c4b0 : decide ((wrap64 (64 * (l0.length : Int))) ≤ a1) = true := decide_eq_true c4
    clear c4
    obtain rfl := Option.some.inj H
    go_enter Try.func83, Try.ntmps83
    go_wp2
    go_ret
    exact ⟨by first | rfl | (simp; done) | (simp [*]; done), by repeat (first | exact Drawn0.refl _ | apply Drawn0.step)⟩
  rw [if_neg c4] at H
  have c4b0 : decide ((wrap64 (64 * (l0.length : Int))) ≤ a1) = false := decide_eq_false c4
  clear c4
  obtain ⟨ji5, hji5⟩ : ∃ j_ : Int, (wrap64 (Int.tdiv a1 64)) = j_ := ⟨_, rfl⟩
  first | rw [hji5] at H | simp only [hji5] at H | skip
  have hji5w : (IntKind.i64.wrap (Int.tdiv a1 64)) = ji5 := (i64_w _).trans hji5
  by_cases c6 : 0 ≤ (ji5)
  rotate_left
  · rw [if_neg c6] at H
    exact absurd H (by simp)

  rw [if_pos c6] at H
  have c6b0 : decide (0 ≤ (ji5)) = true := decide_eq_true c6
  clear c6
  by_cases c7 : (ji5) < (l0.length : Int)
  rotate_left
  · rw [if_neg c7] at H; exact absurd H (by simp)
  rw [if_pos c7] at H
  have c7b0 : decide ((ji5) < (l0.length : Int)) = true := decide_eq_true c7
  clear c7
  obtain ⟨ji8, hji8⟩ : ∃ j_ : Int, (Int.tmod a1 64) = j_ := ⟨_, rfl⟩
  first | rw [hji8] at H | simp only [hji8] at H | skip
  by_cases c9 : 0 ≤ (ji8)
  rotate_left
  · rw [if_neg c9] at H; exact absurd H (by simp)
  rw [if_pos c9] at H
  have c9b0 := eq_true c9
  have c9b1 : decide (0 ≤ (ji8)) = true := decide_eq_true c9
  clear c9
  obtain ⟨ji10, hji10⟩ : ∃ j_ : Int, (shr .u64 (rd l0 (ji5)) (ji8)) = j_ := ⟨_, rfl⟩
  first | rw [hji10] at H | simp only [hji10] at H | skip
  have hji10_ : ((rd l0 (ji5)) / 2 ^ min (ji8).toNat 64) = ji10 := hji10
  have hji10z : (ji8) ≤ 64 → ((rd l0 (ji5)) / 2 ^ (ji8).toNat) = ji10 := shr_small hji10
  obtain rfl := Option.some.inj H
  have p972 : 0 ≤ ((ji5) : Int) := od_
  have q972 : (ji5) < (l0.length : Int) := od_
  obtain ⟨ad972, e972, hx972_0⟩ := Kd.at_int HR0.out (ji5) p972 q972
  cases e972
  replace p972 := eq_true p972
  replace q972 := eq_true q972
  go_enter Try.func83, Try.ntmps83
  go_wp2
  go_ret
  exact ⟨by first | rfl | (simp; done) | (simp only [← hji5, ← hji8, ← hji10] <;> (first | rfl | simp)) | (simp [*]; done), by repeat (first | exact Drawn0.refl _ | apply Drawn0.step)⟩

/-! ### impl_nat_even: function 100 -/
def impl_nat_even.f (l0 : List Int) : Option (Bool) := (impl_nat_bit.f l0 0).bind fun t973 => (some (t973 == 0))
set_option maxHeartbeats 8000000 in
set_option maxRecDepth 100000 in
theorem impl_nat_even.calls (A0 : Option Addr) (c0 : Nat) (l0 : List Int) (r : Bool) (w : World) (hr0 : Kd.C (Kd.int .u64) w A0 l0.length l0) (hc0 : l0.length ≤ c0) (h : impl_nat_even.f l0 = some r) :
    Calls Try.prog 100 #[.slice A0 l0.length c0] w fun e w' => e = .returned (.bool r) ∧ Drawn0 w w' := by
  have HR0 := Aside0.mk hr0
  have HC0 := Aside0.mk hc0
  clear hr0 hc0
  have H : ((impl_nat_bit.f l0 0).bind fun t973 => (some (t973 == 0))) = some r := h
  clear h
  replace H := Option.bind_eq_some_iff.mp H
  obtain ⟨t973, A20, H⟩ := H
  have A2 := Aside0.mk A20
  clear A20
  obtain rfl := Option.some.inj H
  go_enter Try.func100, Try.ntmps100
  go_wp2_with (first | ((with_reducible refine gate_callee (f := 83) rfl ?_); refine gL_ 4 Try.func83 rfl #[.slice A0 l0.length c0, .int .i64 0] ?_; (with_reducible refine (impl_nat_bit.calls _ _ l0 0 t973 _ ?side1 ?side2 A2.out).mono ?_); (case side1 => exact pC_ HR0.out); (case side2 => exact HC0.out); rintro e w' ⟨rfl, ⟨nd, rfl⟩⟩; refine ⟨_, rfl, ?_⟩))
  go_ret
  exact ⟨by first | rfl | (simp; done) | (simp [*]; done), by repeat (first | exact Drawn0.refl _ | apply Drawn0.step)⟩

/-! ### impl_nat_uint64: function 121 (told by hand) -/
def impl_nat_uint64.f (l0 : List Int) : Option (List Int) := if l0.length < 17592186044416 then (some l0) else (none)
set_option maxHeartbeats 8000000 in
set_option maxRecDepth 100000 in
theorem impl_nat_uint64.calls (A0 : Option Addr) (c0 : Nat) (l0 : List Int) (r : List Int) (w : World) (hr0 : Kd.C (Kd.int .u64) w A0 l0.length l0) (hc0 : l0.length ≤ c0) (h : impl_nat_uint64.f l0 = some r) :
    Calls Try.prog 121 #[.slice A0 l0.length c0] w fun e w' => ∃ v0_ : Value, e = .returned (v0_) ∧ Kd.R (Kd.int .u64) 89 w' w.heap.size (fun _ => True) v0_ r ∧ Below w.heap.size w w' := by
  unfold impl_nat_uint64.f at h
  by_cases c5 : l0.length < 17592186044416
  · rw [if_pos c5] at h
    obtain rfl := Option.some.inj h
    clear h
    have LMc5 := Aside0.mk c5
    clear c5
    have q : ∀ (w : World) (a : Option Addr) (n c n' c' : Nat), (binOp .eql 56 (.slice a n c) (.slice none n' c')).run Try.prog w = .ok (.bool a.isNone) w := fun w a n c n' c' => Lib.run_eql_slice_nil w _ _ a n c n' c' Try.underlying56
    cases A0 with
    | none =>
      have h0 : l0 = [] := by
        rcases Nat.eq_zero_or_pos l0.length with h | h
        · exact List.eq_nil_of_length_eq_zero h
        · obtain ⟨ad, e, _⟩ := hr0.2.2 h
          cases e
      subst h0
      clear hr0 LMc5
      go_enter Try.func121, Try.ntmps121
      go_wp2
      go_ret
      exact ⟨_, rfl, Kd.R_nil _ _ _ _ _, Below.refl _ _⟩
    | some ad0 =>
      have HR0 := Aside0.mk hr0
      clear hr0
      have HB := Aside0.mk (Below.refl w.heap.size w)
      obtain ⟨y153, hy153⟩ : ∃ y_ : List Int, y_ = (([] : List Int)) := ⟨_, rfl⟩
      have Ny153 := Aside0.mk hy153
      clear hy153
      obtain ⟨y156, hy156⟩ : ∃ y_ : List Int, y_ = (y153 ++ l0) := ⟨_, rfl⟩
      have Ny156 := Aside0.mk hy156
      clear hy156
      have HE := Aside0.mk (show y156 = l0 by rw [Ny156.out, Ny153.out]; rfl)
      go_enter Try.func121, Try.ntmps121
      go_wp2_with (first | ((with_reducible refine gate_dst (N := 5) rfl ?_); refine Kd.R_lit (Kd.int .u64) _ 89 ?hg (N := 5) ?hd (xs := ([] : List Int)) (inner := []) (ok := fun _ => True) (okp := fun _ => True) ?hr ?hp (fun _ hk => hk) trivial (Below.refl _ _) (Nat.le_refl _) (by simp) ?_; (case hd => rfl); (case hg => rfl); (case hr => first | (go_simp; done) | (go_simp; rfl)); (case hp => exact (Reps.none _ _)); intro v154 w8 ho9 hb hg_ hnew_; clear hg_ hnew_; (first | rw [← Ny153.out] at ho9 | (simp only [Int.reduceToNat] at ho9; rw [← Ny153.out] at ho9)); have n1_ := Aside0.mk (Kd.R_lower ho9 (below_size (by repeat (first | (with_reducible first | exact HB.out | apply below_alloc | apply pw_below_drewN | apply below_drew1) | exact HB.out)))); have n2_ := Aside0.mk (below_step (by repeat (first | (with_reducible first | exact HB.out | apply below_alloc | apply pw_below_drewN | apply below_drew1) | exact HB.out)) hb); clear HB; have HO155 := n1_; have HB := n2_; clear n1_ n2_; clear hb ho9) | ((with_reducible refine gate_builtin (b := .append) (xs := #[.tmp 5, .tmp 6]) rfl ?_); at_builtin; refine Kd.R_append_rows (Kd.int .u64) (w0 := w) w.heap.size rfl (.tmp 5) (.tmp 6) 56 89 (.int .u64 0) 8 rfl Try.underlying56 info89 rfl (by decide) (by omega) v154 y153 l0 _ _ _ (fun _ => True) (fun _ => False) rfl rfl ?aO ?aR (fun _ _ h => h) (fun _ h => h.elim) ?aF ?aB ?aS ?aL ?_; (case aR => repeat (first | exact (Kd.C_below HR0.out HB.out) | (with_reducible refine Kd.C_alloc ?_ _) | (with_reducible refine Kd.C_drewN ?_ _) | (with_reducible refine Kd.C_drew ?_))); (case aB => exact (by repeat (first | (with_reducible first | exact HB.out | apply below_alloc | apply pw_below_drewN | apply below_drew1) | exact HB.out))); (case aF => exact (fun _ _ => trivial)); (case aO => exact (by (with_reducible repeat (first | apply Kd.R_alloc | apply Kd.R_drewN | apply Kd.R_drew)); exact HO155.out)); (case aS => exact (below_size (by repeat (first | (with_reducible first | exact HB.out | apply below_alloc | apply pw_below_drewN | apply below_drew1) | exact HB.out)))); (case aL => have := LMc5.out; rw [Ny153.out]; simp; omega); intro v157 w10 ho hb hg hat; rw [← Ny156.out] at ho; have n1_ := Aside0.mk (hb); have n2_ := Aside0.mk (ho); clear HB; clear HO155; have HB := n1_; have HO158 := n2_; clear n1_ n2_; clear ho hb hg hat))
      go_ret
      refine ⟨_, rfl, ?_, ?_⟩
      · rw [← HE.out]
        (with_reducible repeat (first | apply Kd.R_alloc | apply Kd.R_drewN | apply Kd.R_drew))
        exact HO158.out
      · repeat (first | (with_reducible first | exact HB.out | apply below_alloc | apply pw_below_drewN | apply below_drew1) | exact HB.out)
  · rw [if_neg c5] at h
    exact absurd h (by simp)

/-! ### impl_nat_down: function 112 -/
def impl_nat_down.l0 : Nat → List Int → Int → List Int → Int → Int → Option (List Int)
  | 0, _, _, _, _, _ => none
  | k + 1, x0, x1, x5, x10, x11 => if x11 < x10 then (if 0 ≤ x11 then (if x11 < (x5.length : Int) then (if 0 ≤ x1 then ((some (x5.set (x11 : Int).toNat (shr .u64 (rd x5 x11) x1) : List Int)).bind fun y978 => (if (wrap64 (x11 + 1)) < (x0.length : Int) then (if 0 ≤ (wrap64 (x11 + 1)) then (if 0 ≤ (wrap64 (64 - x1)) then (impl_nat_down.l0 k x0 x1 (y978.set (x11 : Int).toNat (Go.bits .or .u64 (rd y978 x11) (shl .u64 (rd x0 (wrap64 (x11 + 1))) (wrap64 (64 - x1))))) x10 (wrap64 (x11 + 1))) else (none)) else (none)) else (impl_nat_down.l0 k x0 x1 y978 x10 (wrap64 (x11 + 1))))) else (none)) else (none)) else (none)) else ((impl_nat_trim.f k x5).bind fun t982 => (some t982))
def impl_nat_down.f (k : Nat) (l0 : List Int) (a1 : Int) : Option (List Int) := (impl_nat_uint64.f l0).bind fun t974 => (impl_nat_down.l0 k l0 a1 t974 (t974.length : Int) 0)
def impl_nat_down.T7 : Bool × List (List Nat × List Nat) := (true, [([], []), ([], []), ([0, 1], [0, 1]), ([2], [2]), ([], []), ([], []), ([5], [5]), ([4, 6], [4, 6]), ([7], [7]), ([], []), ([9], [9]), ([8, 10], [8, 10]), ([3, 11], [3, 11]), ([0, 1, 0, 1, 2, 3, 4, 5, 6, 7, 8, 9, 10, 11, 12], [0, 1]), ([13, 12, 0, 1, 2, 3, 4, 5, 6, 7, 8, 9, 10, 11, 12], [12, 13])])
def impl_nat_down.B7 : List Nat := [0, 0, 3, 7, 0, 0, 32, 112, 240, 0, 512, 2032, 4095, 8191, 16383]
theorem impl_nat_down.tab7 : rtab .any (opsOf Try.f112 7) = impl_nat_down.T7 := by kernel_rfl
theorem impl_nat_down.bits7 : waitsOk impl_nat_down.T7.2 impl_nat_down.B7 = true := by kernel_rfl
set_option maxHeartbeats 8000000 in
set_option maxRecDepth 100000 in
theorem impl_nat_down.calls (k : Nat) (A0 : Option Addr) (c0 : Nat) (l0 : List Int) (a1 : Int) (r : List Int) (w : World) (hr0 : Kd.C (Kd.int .u64) w A0 l0.length l0) (hc0 : l0.length ≤ c0) (h : impl_nat_down.f k l0 a1 = some r) :
    Calls Try.prog 112 #[.slice A0 l0.length c0, .int .i64 a1] w fun e w' => ∃ v0_ : Value, e = .returned (v0_) ∧ Kd.V (Kd.int .u64) 89 w' w.heap.size (fun k_ => (w.heap.size ≤ k_)) v0_ r ∧ Below w.heap.size w w' := by
  have HR0 := Aside0.mk hr0
  have HC0 := Aside0.mk hc0
  clear hr0 hc0
  have HB := Aside0.mk (Below.refl w.heap.size w)
  have H : ((impl_nat_uint64.f l0).bind fun t974 => (impl_nat_down.l0 k l0 a1 t974 (t974.length : Int) 0)) = some r := h
  clear h
  replace H := Option.bind_eq_some_iff.mp H
  obtain ⟨t974, A30, H⟩ := H
  have A3 := Aside0.mk A30
  clear A30
  have H' := Aside0.mk H
  clear H
  go_enter Try.func112, Try.ntmps112
  go_wp2_with (first | ((with_reducible refine gate_callee (f := 121) rfl ?_); refine gL_ 8 Try.func121 rfl #[.slice A0 l0.length c0] ?_; (with_reducible refine (impl_nat_uint64.calls _ _ l0 t974 _ ?side1 ?side2 A3.out).mono ?_); (case side1 => exact pC_ HR0.out); (case side2 => exact HC0.out); rintro e w4 ⟨v975, rfl, ho0, hb⟩; refine ⟨_, rfl, ?_⟩; have HO976 := Aside0.mk (Kd.R_lower (Kd.R_newM (M := fun k_ => (w.heap.size ≤ k_)) ho0 (below_size (pB_ HB.out)) (fun k_ h_ => h_)) (below_size (pB_ HB.out))); replace HB := Aside0.mk (below_step (pB_ HB.out) hb); clear hb ho0; obtain ⟨Ao5, co5, eo5⟩ := Kd.R_slice HO976.out; subst eo5))
  repeat (rw [addr_self]; generalize Addr.add _ _ = az_)
  go_loopg [11] k (fun kq v11 w' => ∃ (x5_1 : List Int) (x11_1 : Int), v11 = .int .i64 x11_1 ∧ Aside0 (impl_nat_down.l0 kq l0 a1 x5_1 (t974.length : Int) x11_1 = some r) ∧ Aside0 (kq ≤ k) ∧ Aside0 (Kd.R (Kd.int .u64) 89 w' w.heap.size (fun k_ => (w.heap.size ≤ k_)) (.slice Ao5 t974.length co5) x5_1) ∧ Aside0 (Below w.heap.size w w'))
  case atStart => exact ⟨(t974), (0), (by first | rfl | (simp; done) | (simp [*]; done)), H', ⟨Nat.le_refl _⟩, ⟨by (with_reducible repeat (first | apply Kd.R_alloc | apply Kd.R_drewN | apply Kd.R_drew)); exact Kd.R_mono HO976.out (fun _ hk => hk.1)⟩, ⟨pB_ HB.out⟩⟩
  clear H'
  try clear c1
  try clear p2
  obtain ⟨x5_1, x11_1, rfl, HA, HK1, HO_5, HB⟩ := hrel
  have hl5_1 := (Kd.R_reads' HO_5.out).1
  rw [hl5_1] at HO_5
  (try simp only [hl5_1])
  rcases gk with _ | k1
  · exact absurd HA.out (by simp [impl_nat_down.l0])
  have H := HA.out
  clear HA
  simp only [impl_nat_down.l0] at H
  by_cases c6 : x11_1 < (t974.length : Int)
  rotate_left
  · rw [if_neg c6] at H
    have c6b0 : decide (x11_1 < (t974.length : Int)) = false := decide_eq_false c6
    (try (have c6x0 := c6b0; simp only [hl5_1] at c6x0))
    clear c6
    replace H := Option.bind_eq_some_iff.mp H
    obtain ⟨t982, A250, H⟩ := H
    have A25 := Aside0.mk A250
    clear A250
    obtain rfl := Option.some.inj H
    go_wp2_with (first | ((with_reducible refine gate_callee (f := 89) rfl ?_); refine gL_ 42 Try.func89 rfl #[.slice Ao5 x5_1.length co5] ?_; (with_reducible refine (impl_nat_trim.calls k1 (fun k_ => some k_ = (.slice Ao5 x5_1.length co5 : Value).ownBlock) _ _ x5_1 t982 _ ?side1 A25.out).mono ?_); (case side1 => exact Kd.R_V (Kd.R_tight rfl (HO_5.out))); rintro e w26 ⟨v983, rfl, ho0, hb⟩; refine ⟨_, rfl, ?_⟩; have HO984 := Aside0.mk (Kd.V_lower (Kd.V_mono (ok' := fun k_ => (w.heap.size ≤ k_)) ho0 (fun k_ hk_ => Or.elim hk_ (fun hs_ => ((HO_5.out).1 k_ hs_.symm)) (fun hn_ => (Nat.le_trans (below_size (pB_ HB.out)) hn_)))) (below_size (pB_ HB.out))); replace HO_5 := Aside0.mk (Kd.R_below (pR_ HO_5.out) hb); replace HB := Aside0.mk (below_step (pB_ HB.out) hb); clear hb ho0))
    go_ret
    exact ⟨_, by first | rfl | (simp [errW_none, errW_some] <;> rfl) | (simp [*, errW_none, errW_some] <;> rfl), by (with_reducible repeat (first | apply Kd.V_alloc | apply Kd.V_drewN | apply Kd.V_drew)); exact HO984.out, pB_ HB.out⟩

  rw [if_pos c6] at H
  have c6b0 : decide (x11_1 < (t974.length : Int)) = true := decide_eq_true c6
  (try (have c6x0 := c6b0; simp only [hl5_1] at c6x0))
  clear c6
  by_cases c7 : 0 ≤ x11_1
  rotate_left
  · rw [if_neg c7] at H; exact absurd H (by simp)
  rw [if_pos c7] at H
  have c7b0 : decide (0 ≤ x11_1) = true := decide_eq_true c7
  clear c7
  by_cases c8 : x11_1 < (x5_1.length : Int)
  rotate_left
  · rw [if_neg c8] at H; exact absurd H (by simp)
  rw [if_pos c8] at H
  have c8b0 : decide (x11_1 < (x5_1.length : Int)) = true := decide_eq_true c8
  (try (have c8x0 := c8b0; simp only [hl5_1] at c8x0))
  clear c8
  by_cases c9 : 0 ≤ a1
  rotate_left
  · rw [if_neg c9] at H; exact absurd H (by simp)
  rw [if_pos c9] at H
  have c9b0 := eq_true c9
  have c9b1 : decide (0 ≤ a1) = true := decide_eq_true c9
  clear c9
  obtain ⟨ji10, hji10⟩ : ∃ j_ : Int, (shr .u64 (rd x5_1 x11_1) a1) = j_ := ⟨_, rfl⟩
  first | rw [hji10] at H | simp only [hji10] at H | skip
  have hji10_ : ((rd x5_1 x11_1) / 2 ^ min a1.toNat 64) = ji10 := hji10
  have hji10z : a1 ≤ 64 → ((rd x5_1 x11_1) / 2 ^ a1.toNat) = ji10 := shr_small hji10
  obtain ⟨y978, hy978⟩ : ∃ y_ : List Int, y_ = (x5_1.set (x11_1 : Int).toNat (ji10)) := ⟨_, rfl⟩
  replace H := bS_ hy978 H
  have Ny978 := Aside0.mk hy978
  clear hy978
  by_cases c12 : (wrap64 (x11_1 + 1)) < (l0.length : Int)
  rotate_left
  · rw [if_neg c12] at H
    have c12b0 : decide ((wrap64 (x11_1 + 1)) < (l0.length : Int)) = false := decide_eq_false c12
    (try (have c12x0 := c12b0; simp only [hl5_1] at c12x0))
    clear c12
    have H' := Aside0.mk H
    clear H
    have p977 : 0 ≤ (x11_1 : Int) := od_
    have q977 : x11_1 < (x5_1.length : Int) := od_
    obtain ⟨ad977, e977, hx977_0⟩ := Kd.at_int (Kd.R_reads' HO_5.out).2.2 x11_1 p977 q977
    cases e977
    replace p977 := eq_true p977
    replace q977 := eq_true q977
    have p11 : 0 ≤ (x11_1 : Int) := od_
    have q11 : (x11_1 : Int) < ((x5_1.length : Int) : Int) := od_
    obtain ⟨go11, co11, eo11, gb11, gl11, cl11, HG11⟩ := Kd.R_form HO_5.out (by omega)
    (first | cases eo11 | (injection eo11 with ea_ en_ ec_; (first | subst ea_ | (injection ea_ with ea_; subst ea_)); subst ec_; clear en_))
    have GB11 := Aside0.mk gb11
    have GG11 := Aside0.mk HG11
    clear gb11 gl11 HG11
    (first | simp only [add_plain] at hx977_0 | skip)
    obtain ⟨hx11_0, hf11_0⟩ := Kd.R_celln 0 HO_5.out (x11_1 : Int) p11 q11
    replace p11 := eq_true p11
    replace q11 := eq_true q11
    have HP23 := Kd.R_putg HO_5.out (x11_1 : Int) ji10
    go_wp2_with (first | ((with_reducible refine gate_store (t := 89) (p := 20) rfl ?_); refine store_event (t := 89) (p := 20) (v := ?vo_w24) (w1 := (wr.setCell ⟨go11, (x11_1 : Int).toNat, none⟩ (.int .u64 ji10))) ?hg ?ho ?hn ?hr ?_; (case ho => rfl); (case hg => rfl); (case hn => rfl); (case hr => first | (go_simp; done) | (go_simp; rfl)); intro w24 hw; have hg : wr.grownBy w24 (some go11) := (by rw [hw]; exact HP23.2); have hp_ : Kd.R (Kd.int .u64) 89 w24 w.heap.size (fun k_ => (w.heap.size ≤ k_)) (.slice (some ⟨go11, 0, none⟩) x5_1.length co5) y978 := (by rw [hw, Ny978.out]; exact HP23.1); clear HP23; replace HO_5 := Aside0.mk (hp_); replace HB := Aside0.mk ((by rw [hw]; exact below_set (HB.out) GB11.out : Below w.heap.size w w24)); clear hg hw hp_))
    (try simp only [← hl5_1])
    go_roundg k1
    case measure => have := HK1.out; omega
    case rel => exact ⟨(y978), (wrap64 (x11_1 + 1)), (by first | rfl | (simp; done) | (simp [*]; done)), H', ⟨by have := HK1.out; omega⟩, ⟨by (try simp only [hl5_1]); (with_reducible repeat (first | apply Kd.R_alloc | apply Kd.R_drewN | apply Kd.R_drew)); exact HO_5.out⟩, ⟨pB_ HB.out⟩⟩
  rw [if_pos c12] at H
  have c12b0 : decide ((wrap64 (x11_1 + 1)) < (l0.length : Int)) = true := decide_eq_true c12
  (try (have c12x0 := c12b0; simp only [hl5_1] at c12x0))
  clear c12
  obtain ⟨ji13, hji13⟩ : ∃ j_ : Int, (wrap64 (x11_1 + 1)) = j_ := ⟨_, rfl⟩
  first | rw [hji13] at H | simp only [hji13] at H | skip
  (try rw [hji13] at c12b0)
  have hji13w : (IntKind.i64.wrap (x11_1 + 1)) = ji13 := (i64_w _).trans hji13
  by_cases c14 : 0 ≤ (ji13)
  rotate_left
  · rw [if_neg c14] at H; exact absurd H (by simp)
  rw [if_pos c14] at H
  have c14b0 : decide (0 ≤ (ji13)) = true := decide_eq_true c14
  clear c14
  obtain ⟨ji15, hji15⟩ : ∃ j_ : Int, (wrap64 (64 - a1)) = j_ := ⟨_, rfl⟩
  first | rw [hji15] at H | simp only [hji15] at H | skip
  have hji15w : (IntKind.i64.wrap (64 - a1)) = ji15 := (i64_w _).trans hji15
  by_cases c16 : 0 ≤ (ji15)
  rotate_left
  · rw [if_neg c16] at H; exact absurd H (by simp)
  rw [if_pos c16] at H
  have c16b0 := eq_true c16
  have c16b1 : decide (0 ≤ (ji15)) = true := decide_eq_true c16
  clear c16
  obtain ⟨ji17, hji17⟩ : ∃ j_ : Int, (shl .u64 (rd l0 (ji13)) (ji15)) = j_ := ⟨_, rfl⟩
  first | rw [hji17] at H | simp only [hji17] at H | skip
  have hji17_ : (IntKind.u64.wrap ((rd l0 (ji13)) * 2 ^ min (ji15).toNat 64)) = ji17 := hji17
  have hji17z : (ji15) ≤ 64 → (IntKind.u64.wrap ((rd l0 (ji13)) * 2 ^ (ji15).toNat)) = ji17 := shl_small hji17
  obtain ⟨y981, hy981⟩ : ∃ y_ : List Int, y_ = (y978.set (x11_1 : Int).toNat (Go.bits .or .u64 (rd y978 x11_1) (ji17))) := ⟨_, rfl⟩
  first | rw [← hy981] at H | skip
  have Ny981 := Aside0.mk hy981
  clear hy981
  have H' := Aside0.mk H
  clear H
  have p977 : 0 ≤ (x11_1 : Int) := od_
  have q977 : x11_1 < (x5_1.length : Int) := od_
  obtain ⟨ad977, e977, hx977_0⟩ := Kd.at_int (Kd.R_reads' HO_5.out).2.2 x11_1 p977 q977
  cases e977
  replace p977 := eq_true p977
  replace q977 := eq_true q977
  have p11 : 0 ≤ (x11_1 : Int) := od_
  have q11 : (x11_1 : Int) < ((x5_1.length : Int) : Int) := od_
  obtain ⟨go11, co11, eo11, gb11, gl11, cl11, HG11⟩ := Kd.R_form HO_5.out (by omega)
  (first | cases eo11 | (injection eo11 with ea_ en_ ec_; (first | subst ea_ | (injection ea_ with ea_; subst ea_)); subst ec_; clear en_))
  have GB11 := Aside0.mk gb11
  have GG11 := Aside0.mk HG11
  clear gb11 gl11 HG11
  (first | simp only [add_plain] at hx977_0 | skip)
  obtain ⟨hx11_0, hf11_0⟩ := Kd.R_celln 0 HO_5.out (x11_1 : Int) p11 q11
  replace p11 := eq_true p11
  replace q11 := eq_true q11
  have HP19 := Kd.R_putg HO_5.out (x11_1 : Int) ji10
  try go_wp2_with (first | ((with_reducible refine gate_store (t := 89) (p := 20) rfl ?_); refine store_event (t := 89) (p := 20) (v := ?vo_w20) (w1 := (wr.setCell ⟨go11, (x11_1 : Int).toNat, none⟩ (.int .u64 ji10))) ?hg ?ho ?hn ?hr ?_; (case ho => rfl); (case hg => rfl); (case hn => rfl); (case hr => first | (go_simp; done) | (go_simp; rfl)); intro w20 hw; have hg : wr.grownBy w20 (some go11) := (by rw [hw]; exact HP19.2); have hp_ : Kd.R (Kd.int .u64) 89 w20 w.heap.size (fun k_ => (w.heap.size ≤ k_)) (.slice (some ⟨go11, 0, none⟩) x5_1.length co5) y978 := (by rw [hw, Ny978.out]; exact HP19.1); clear HP19; replace HO_5 := Aside0.mk (hp_); replace HB := Aside0.mk ((by rw [hw]; exact below_set (HB.out) GB11.out : Below w.heap.size w w20)); clear hg hw hp_))
  have n0_ := Aside0.mk (Kd.R_drew HO_5.out)
  have n1_ := Aside0.mk (below_drew1 HB.out)
  clear HO_5
  clear HB
  have HO_5 := n0_
  have HB := n1_
  clear n0_ n1_
  have p979 : 0 ≤ (x11_1 : Int) := od_
  have q979 : x11_1 < (y978.length : Int) := (by have h_ : (x11_1 : Int) < ((x5_1.length : Int) : Int) := od_; first | (have e_ := (Kd.R_reads' HO_5.out).1; omega) | simpa only [Ny978.out, List.length_set] using h_)
  have ql979 : ((x11_1 : Int) < ((x5_1.length : Int) : Int)) = True := eq_true (od_)
  obtain ⟨ad979, e979, hx979_0⟩ := Kd.at_int (Kd.R_reads' HO_5.out).2.2 x11_1 p979 q979
  obtain rfl : (⟨go11, 0, none⟩ : Addr) = ad979 := (by injection e979)
  (first | simp only [add_plain] at hx979_0 | simp only [add_at] at hx979_0 | simp only [Addr.add, Nat.zero_add] at hx979_0 | skip)
  replace p979 := eq_true p979
  replace q979 := eq_true q979
  have p980 : 0 ≤ ((ji13) : Int) := od_
  have q980 : (ji13) < (l0.length : Int) := od_
  obtain ⟨ad980, e980, hx980_0⟩ := Kd.at_int HR0.out (ji13) p980 q980
  have hw980_0 := hx980_0
  cases e980
  replace hx980_0 := (HB.out.cell (World.block_lt_of_cell? w _ hx980_0)).trans hx980_0
  replace p980 := eq_true p980
  replace q980 := eq_true q980
  have p18 : 0 ≤ (x11_1 : Int) := od_
  have q18 : (x11_1 : Int) < ((x5_1.length : Int) : Int) := od_
  obtain ⟨hx18_0, hf18_0⟩ := Kd.R_celln 0 HO_5.out (x11_1 : Int) p18 q18
  replace p18 := eq_true p18
  replace q18 := eq_true q18
  have HP22 := Kd.R_putn HO_5.out (x11_1 : Int) (Go.bits .or .u64 (rd y978 x11_1) (ji17))
  rw [← Ny981.out] at HP22
  have HQ22 := Aside0.mk HP22
  clear HP22
  refine start_ (n := 15) (S := fun w' => w'.cell? ⟨go11, (x11_1).toNat, none⟩ = some (.int .u64 (rd y978 x11_1)) ∧ w'.cell? (ad980.add ((ji13)).toNat) = some (.int .u64 (rd l0 (ji13)))) (ds := [14]) #[false, false, false, false, false, false, false, false, false, false, false, false, false, false, false] (by kernel_rfl) rfl rfl ⟨hx979_0, ((HB.out.cell (World.block_lt_of_cell? w _ hw980_0)).trans hw980_0)⟩ (fun hHeld => ?_); refine with_tabW impl_nat_down.tab7 impl_nat_down.bits7 (fun HT_ HW_ => ?_)
  generalize w20.drew = w21 at HO_5 HB HQ22 hf18_0 hx18_0 hx979_0 hx980_0 hHeld ⊢
  refine pu_ 0 26 HT_.out ?_
  refine pu_ 1 27 HT_.out ?_
  refine pu_ 2 28 HT_.out ?_
  refine pu_ 4 30 HT_.out ?_
  refine pu_ 5 31 HT_.out ?_
  refine pu_ 6 32 HT_.out ?_
  refine pu_ 7 33 HT_.out ?_
  refine pu_ 9 35 HT_.out ?_
  refine pu_ 10 36 HT_.out ?_
  refine take_ (i := 3) (N := some 29) (v := ?_) (a' := ?_) #[true, true, true, true, true, true, true, true, false, true, true, false, false, false, false] rfl rfl (take_ofW HT_.out HW_.out (by kernel_rfl)) (fun _ _ _ h => h) (Or.inl ⟨by rfl, ?_⟩) hHeld ?_ ?_
  rotate_left
  · rintro w' ⟨s0, s1⟩
    go_simp
    with_reducible rfl
  rotate_left
  · simp only [Act.put, List.setIfInBounds_toArray, List.set_cons_zero, List.set_cons_succ, i64_w, i32_w]
    rfl
  refine take_ (i := 8) (N := some 34) (v := ?_) (a' := ?_) #[true, true, true, true, true, true, true, true, true, true, true, false, false, false, false] rfl rfl (take_ofW HT_.out HW_.out (by kernel_rfl)) (fun _ _ _ h => h) (Or.inl ⟨by rfl, ?_⟩) hHeld ?_ ?_
  rotate_left
  · rintro w' ⟨s0, s1⟩
    go_simp
    with_reducible rfl
  rotate_left
  · simp only [Act.put, List.setIfInBounds_toArray, List.set_cons_zero, List.set_cons_succ, i64_w, i32_w]
    rfl
  refine pu_ 11 37 HT_.out ?_
  refine pu_ 12 38 HT_.out ?_
  refine pu_ 13 39 HT_.out ?_
  refine last_ (i := 14) (N := none) #[true, true, true, true, true, true, true, true, true, true, true, true, true, true, true] rfl rfl (one_of HT_.out (by kernel_rfl)) (by decide) (fun K hK => ?_)
  refine skip_ (w1 := ?_) (by rfl) rfl ?_ ?_
  rotate_left
  · go_simp
    rfl
  refine hK.out _ _ ?_
  clear hK K
  refine done_ (done_of HT_.out (by kernel_rfl)) ?_
  try go_wp2
  (try simp only [← hl5_1])
  go_roundg k1
  case measure => have := HK1.out; omega
  case rel => exact ⟨(y981), (ji13), (by first | rfl | (simp; done) | (simp only [← hji13] <;> (first | rfl | simp)) | (simp [*]; done)), H', ⟨by have := HK1.out; omega⟩, ⟨by (try simp only [hl5_1]); (with_reducible repeat (first | apply Kd.R_alloc | apply Kd.R_drewN | apply Kd.R_drew)); exact HQ22.out⟩, ⟨by repeat (first | (with_reducible first | exact HB.out | apply below_alloc | apply pw_below_drewN | apply below_drew1 | refine below_set ?_ GB11.out) | exact HB.out)⟩⟩

/-! ### impl_nat_half: function 101 -/
def impl_nat_half.f (k : Nat) (l0 : List Int) : Option (List Int) := (impl_nat_down.f k l0 1).bind fun t985 => (some t985)
set_option maxHeartbeats 8000000 in
set_option maxRecDepth 100000 in
theorem impl_nat_half.calls (k : Nat) (A0 : Option Addr) (c0 : Nat) (l0 : List Int) (r : List Int) (w : World) (hr0 : Kd.C (Kd.int .u64) w A0 l0.length l0) (hc0 : l0.length ≤ c0) (h : impl_nat_half.f k l0 = some r) :
    Calls Try.prog 101 #[.slice A0 l0.length c0] w fun e w' => ∃ v0_ : Value, e = .returned (v0_) ∧ Kd.V (Kd.int .u64) 89 w' w.heap.size (fun k_ => (w.heap.size ≤ k_)) v0_ r ∧ Below w.heap.size w w' := by
  have HR0 := Aside0.mk hr0
  have HC0 := Aside0.mk hc0
  clear hr0 hc0
  have HB := Aside0.mk (Below.refl w.heap.size w)
  have H : ((impl_nat_down.f k l0 1).bind fun t985 => (some t985)) = some r := h
  clear h
  replace H := Option.bind_eq_some_iff.mp H
  obtain ⟨t985, A20, H⟩ := H
  have A2 := Aside0.mk A20
  clear A20
  obtain rfl := Option.some.inj H
  go_enter Try.func101, Try.ntmps101
  go_wp2_with (first | ((with_reducible refine gate_callee (f := 112) rfl ?_); refine gL_ 4 Try.func112 rfl #[.slice A0 l0.length c0, .int .i64 1] ?_; (with_reducible refine (impl_nat_down.calls k _ _ l0 1 t985 _ ?side1 ?side2 A2.out).mono ?_); (case side1 => exact pC_ HR0.out); (case side2 => exact HC0.out); rintro e w3 ⟨v986, rfl, ho0, hb⟩; refine ⟨_, rfl, ?_⟩; have HO987 := Aside0.mk (Kd.V_lower (Kd.V_mono (ok' := fun k_ => (w.heap.size ≤ k_)) ho0 (fun k_ hk_ => (Nat.le_trans (below_size (pB_ HB.out)) hk_))) (below_size (pB_ HB.out))); replace HB := Aside0.mk (below_step (pB_ HB.out) hb); clear hb ho0))
  go_ret
  exact ⟨_, by first | rfl | (simp [errW_none, errW_some] <;> rfl) | (simp [*, errW_none, errW_some] <;> rfl), by (with_reducible repeat (first | apply Kd.V_alloc | apply Kd.V_drewN | apply Kd.V_drew)); exact HO987.out, pB_ HB.out⟩

/-! ### impl_prime_twos: function 77 -/
def impl_prime_twos.l0 : Nat → Int → List Int → Option (Int × List Int)
  | 0, _, _ => none
  | k + 1, x4, x5 => (impl_nat_even.f x5).bind fun t994 => (if t994 = true then ((impl_nat_half.f k x5).bind fun t995 => (impl_prime_twos.l0 k (wrap64 (x4 + 1)) t995)) else (some (x4, x5)))
def impl_prime_twos.f (k : Nat) (l0 : List Int) : Option (Int × List Int) := (impl_small.f k 1).bind fun t988 => ((impl_nat_less.f k l0 t988).bind fun t991 => (impl_prime_twos.l0 k 0 t991))
set_option maxHeartbeats 8000000 in
set_option maxRecDepth 100000 in
theorem impl_prime_twos.calls (k : Nat) (A0 : Option Addr) (c0 : Nat) (l0 : List Int) (r1 : Int) (r2 : List Int) (w : World) (hr0 : Kd.C (Kd.int .u64) w A0 l0.length l0) (hc0 : l0.length ≤ c0) (h : impl_prime_twos.f k l0 = some (r1, r2)) :
    Calls Try.prog 77 #[.slice A0 l0.length c0] w fun e w' => ∃ v1_ : Value, e = .returned (.tuple #[.int .i64 r1, v1_]) ∧ Kd.V (Kd.int .u64) 89 w' w.heap.size (fun k_ => (w.heap.size ≤ k_)) v1_ r2 ∧ Below w.heap.size w w' := by
  have HR0 := Aside0.mk hr0
  have HC0 := Aside0.mk hc0
  clear hr0 hc0
  have HB := Aside0.mk (Below.refl w.heap.size w)
  have H : ((impl_small.f k 1).bind fun t988 => ((impl_nat_less.f k l0 t988).bind fun t991 => (impl_prime_twos.l0 k 0 t991))) = some (r1, r2) := h
  clear h
  replace H := Option.bind_eq_some_iff.mp H
  obtain ⟨t988, A20, H⟩ := H
  have A2 := Aside0.mk A20
  clear A20
  replace H := Option.bind_eq_some_iff.mp H
  obtain ⟨t991, A30, H⟩ := H
  have A3 := Aside0.mk A30
  clear A30
  have H' := Aside0.mk H
  clear H
  go_enter Try.func77, Try.ntmps77
  go_wp2_with (first | ((with_reducible refine gate_callee (f := 80) rfl ?_); refine gL_ 7 Try.func80 rfl #[.int .i64 1] ?_; (with_reducible refine (impl_small.calls k 1 t988 _ A2.out).mono ?_); rintro e w4 ⟨v989, rfl, ho0, hb⟩; refine ⟨_, rfl, ?_⟩; have HO990 := Aside0.mk (Kd.V_lower (Kd.V_mono (ok' := fun k_ => (w.heap.size ≤ k_)) ho0 (fun k_ hk_ => (Nat.le_trans (below_size (pB_ HB.out)) hk_))) (below_size (pB_ HB.out))); replace HB := Aside0.mk (below_step (pB_ HB.out) hb); clear hb ho0; obtain ⟨Ao5, co5, eo5⟩ := Kd.V_slice HO990.out; subst eo5) | ((with_reducible refine gate_callee (f := 95) rfl ?_); refine gL_ 8 Try.func95 rfl #[.slice A0 l0.length c0, .slice Ao5 t988.length co5] ?_; (with_reducible refine (impl_nat_less.calls k _ _ l0 _ _ t988 t991 _ ?side1 ?side2 ?side3 ?side4 A3.out).mono ?_); (case side1 => exact pC_ (Kd.C_below HR0.out HB.out)); (case side2 => exact HC0.out); (case side3 => exact pC_ (Kd.V_reads' HO990.out).2.2); (case side4 => exact (Kd.V_reads' HO990.out).2.1); rintro e w6 ⟨v992, rfl, ho0, hb⟩; refine ⟨_, rfl, ?_⟩; replace HO990 := Aside0.mk (Kd.V_below (pV_ HO990.out) hb); have HO993 := Aside0.mk (Kd.V_lower (Kd.V_mono (ok' := fun k_ => (w.heap.size ≤ k_)) ho0 (fun k_ hk_ => (Nat.le_trans (below_size (pB_ HB.out)) hk_))) (below_size (pB_ HB.out))); replace HB := Aside0.mk (below_step (pB_ HB.out) hb); clear hb ho0))
  go_loopg [4, 5] k (fun kq v4 v5 w' => ∃ (x4_1 : Int) (x5_1 : List Int), v4 = .int .i64 x4_1 ∧ Aside0 (impl_prime_twos.l0 kq x4_1 x5_1 = some (r1, r2)) ∧ Aside0 (kq ≤ k) ∧ Aside0 (Kd.V (Kd.int .u64) 89 w' w.heap.size (fun k_ => (w.heap.size ≤ k_)) v5 x5_1) ∧ Aside0 (Below w.heap.size w w'))
  case atStart => exact ⟨(0), (t991), (by first | rfl | (simp; done) | (simp [*]; done)), H', ⟨Nat.le_refl _⟩, ⟨by (with_reducible repeat (first | apply Kd.V_alloc | apply Kd.V_drewN | apply Kd.V_drew)); exact HO993.out⟩, ⟨pB_ HB.out⟩⟩
  clear H'
  try clear p2
  obtain ⟨x4_1, x5_1, rfl, HA, HK1, HO_5, HB⟩ := hrel
  rcases gk with _ | k1
  · exact absurd HA.out (by simp [impl_prime_twos.l0])
  have H := HA.out
  clear HA
  simp only [impl_prime_twos.l0] at H
  replace H := Option.bind_eq_some_iff.mp H
  obtain ⟨t994, A70, H⟩ := H
  have A7 := Aside0.mk A70
  clear A70
  by_cases c8 : t994 = true
  · subst c8
    have H1 : ((impl_nat_half.f k1 x5_1).bind fun t995 => (impl_prime_twos.l0 k1 (wrap64 (x4_1 + 1)) t995)) = some (r1, r2) := by rw [if_pos rfl] at H; exact H
    clear H
    have H := H1
    clear H1
    replace H := Option.bind_eq_some_iff.mp H
    obtain ⟨t995, A90, H⟩ := H
    have A9 := Aside0.mk A90
    clear A90
    have H' := Aside0.mk H
    clear H
    obtain ⟨Ao10, co10, eo10⟩ := Kd.V_slice HO_5.out
    subst eo10
    go_wp2_with (first | ((with_reducible refine gate_callee (f := 100) rfl ?_); refine gL_ 10 Try.func100 rfl #[.slice Ao10 x5_1.length co10] ?_; (with_reducible refine (impl_nat_even.calls _ _ x5_1 true _ ?side1 ?side2 A7.out).mono ?_); (case side1 => exact pC_ (Kd.V_reads' HO_5.out).2.2); (case side2 => exact (Kd.V_reads' HO_5.out).2.1); rintro e w' ⟨rfl, ⟨nd, rfl⟩⟩; refine ⟨_, rfl, ?_⟩) | ((with_reducible refine gate_callee (f := 101) rfl ?_); refine gL_ 14 Try.func101 rfl #[.slice Ao10 x5_1.length co10] ?_; (with_reducible refine (impl_nat_half.calls k1 _ _ x5_1 t995 _ ?side1 ?side2 A9.out).mono ?_); (case side1 => exact pC_ (Kd.V_reads' HO_5.out).2.2); (case side2 => exact (Kd.V_reads' HO_5.out).2.1); rintro e w11 ⟨v996, rfl, ho0, hb⟩; refine ⟨_, rfl, ?_⟩; replace HO_5 := Aside0.mk (Kd.V_below (pV_ HO_5.out) hb); have HO997 := Aside0.mk (Kd.V_lower (Kd.V_mono (ok' := fun k_ => (w.heap.size ≤ k_)) ho0 (fun k_ hk_ => (Nat.le_trans (below_size (pB_ HB.out)) hk_))) (below_size (pB_ HB.out))); replace HB := Aside0.mk (below_step (pB_ HB.out) hb); clear hb ho0))
    go_roundg k1
    case measure => have := HK1.out; omega
    case rel => exact ⟨(wrap64 (x4_1 + 1)), (t995), (by first | rfl | (simp; done) | (simp [*]; done)), H', ⟨by have := HK1.out; omega⟩, ⟨by (with_reducible repeat (first | apply Kd.V_alloc | apply Kd.V_drewN | apply Kd.V_drew)); exact HO997.out⟩, ⟨pB_ HB.out⟩⟩
  · replace c8 := Bool.eq_false_iff.mpr c8
    subst c8
    have H1 : (some (x4_1, x5_1)) = some (r1, r2) := by rw [if_neg (show ¬ (false = true) by decide)] at H; exact H
    clear H
    have H := H1
    clear H1
    simp only [Option.some.injEq, Prod.mk.injEq] at H
    obtain ⟨rfl, rfl⟩ := H
    obtain ⟨Ao12, co12, eo12⟩ := Kd.V_slice HO_5.out
    subst eo12
    go_wp2_with (first | ((with_reducible refine gate_callee (f := 100) rfl ?_); refine gL_ 10 Try.func100 rfl #[.slice Ao12 x5_1.length co12] ?_; (with_reducible refine (impl_nat_even.calls _ _ x5_1 false _ ?side1 ?side2 A7.out).mono ?_); (case side1 => exact pC_ (Kd.V_reads' HO_5.out).2.2); (case side2 => exact (Kd.V_reads' HO_5.out).2.1); rintro e w' ⟨rfl, ⟨nd, rfl⟩⟩; refine ⟨_, rfl, ?_⟩))
    go_ret2
    exact ⟨_, by first | rfl | (simp [errW_none, errW_some] <;> rfl) | (simp [*, errW_none, errW_some] <;> rfl), by (with_reducible repeat (first | apply Kd.V_alloc | apply Kd.V_drewN | apply Kd.V_drew)); exact HO_5.out, pB_ HB.out⟩

/-! ### impl_TwosIn: function 36 -/
def impl_TwosIn.f (k : Nat) (a0 : ByteArray) : Option (Int × ByteArray) := (impl_modulus.f k a0 ([] : List ByteArray)).bind fun bt998 => (if bt998.2 = true then ((impl_prime_twos.f k bt998.1).bind fun bt1002 => ((impl_nat_text.f k bt1002.2).bind fun t1006 => (some (bt1002.1, t1006)))) else (some (0, (⟨#[]⟩ : ByteArray))))
set_option maxHeartbeats 8000000 in
set_option maxRecDepth 100000 in
theorem impl_TwosIn.calls (k : Nat) (a0 : ByteArray) (r1 : Int) (r2 : ByteArray) (w : World) (h : impl_TwosIn.f k a0 = some (r1, r2)) :
    Calls Try.prog 36 #[.string a0] w fun e w' => e = .returned (.tuple #[.int .i64 r1, .string r2]) ∧ Below w.heap.size w w' := by
  have HB := Aside0.mk (Below.refl w.heap.size w)
  have H : ((impl_modulus.f k a0 ([] : List ByteArray)).bind fun bt998 => (if bt998.2 = true then ((impl_prime_twos.f k bt998.1).bind fun bt1002 => ((impl_nat_text.f k bt1002.2).bind fun t1006 => (some (bt1002.1, t1006)))) else (some (0, (⟨#[]⟩ : ByteArray))))) = some (r1, r2) := h
  clear h
  replace H := Option.bind_eq_some_iff.mp H
  obtain ⟨⟨t998, t1001⟩, A20, H⟩ := H
  replace H : (if t1001 = true then ((impl_prime_twos.f k t998).bind fun bt1002 => ((impl_nat_text.f k bt1002.2).bind fun t1006 => (some (bt1002.1, t1006)))) else (some (0, (⟨#[]⟩ : ByteArray)))) = some (r1, r2) := H
  have A2 := Aside0.mk A20
  clear A20
  by_cases c3 : t1001 = true
  · subst c3
    have H1 : ((impl_prime_twos.f k t998).bind fun bt1002 => ((impl_nat_text.f k bt1002.2).bind fun t1006 => (some (bt1002.1, t1006)))) = some (r1, r2) := by rw [if_pos rfl] at H; exact H
    clear H
    have H := H1
    clear H1
    replace H := Option.bind_eq_some_iff.mp H
    obtain ⟨⟨t1002, t1003⟩, A40, H⟩ := H
    replace H : ((impl_nat_text.f k t1003).bind fun t1006 => (some (t1002, t1006))) = some (r1, r2) := H
    have A4 := Aside0.mk A40
    clear A40
    replace H := Option.bind_eq_some_iff.mp H
    obtain ⟨t1006, A50, H⟩ := H
    have A5 := Aside0.mk A50
    clear A50
    simp only [Option.some.injEq, Prod.mk.injEq] at H
    obtain ⟨rfl, rfl⟩ := H
    go_enter Try.func36, Try.ntmps36
    go_wp2_with (first | ((with_reducible refine gate_callee (f := 50) rfl ?_); refine gL_ 10 Try.func50 rfl #[.string a0, .slice none 0 0] ?_; (refine (impl_modulus.calls k a0 _ _ ([] : List ByteArray) t998 true _ ?side1 ?side2 A2.out).mono ?_); (case side1 => exact Kd.C_nil _ _); (case side2 => exact Nat.le_refl _); rintro e w6 ⟨v999, rfl, ho0, hb⟩; refine ⟨_, rfl, ?_⟩; have HO1000 := Aside0.mk (Kd.V_lower (Kd.V_mono (ok' := fun k_ => True) ho0 (fun k_ hk_ => trivial)) (below_size (pB_ HB.out))); replace HB := Aside0.mk (below_step (pB_ HB.out) hb); clear hb ho0; obtain ⟨Ao7, co7, eo7⟩ := Kd.V_slice HO1000.out; subst eo7) | ((with_reducible refine gate_callee (f := 77) rfl ?_); refine gL_ 17 Try.func77 rfl #[.slice Ao7 t998.length co7] ?_; (with_reducible refine (impl_prime_twos.calls k _ _ t998 t1002 t1003 _ ?side1 ?side2 A4.out).mono ?_); (case side1 => exact pC_ (Kd.V_reads' HO1000.out).2.2); (case side2 => exact (Kd.V_reads' HO1000.out).2.1); rintro e w8 ⟨v1004, rfl, ho0, hb⟩; refine ⟨_, rfl, ?_⟩; replace HO1000 := Aside0.mk (Kd.V_below (pV_ HO1000.out) hb); have HO1005 := Aside0.mk (Kd.V_lower (Kd.V_mono (ok' := fun k_ => True) ho0 (fun k_ hk_ => trivial)) (below_size (pB_ HB.out))); replace HB := Aside0.mk (below_step (pB_ HB.out) hb); clear hb ho0; obtain ⟨Ao9, co9, eo9⟩ := Kd.V_slice HO1005.out; subst eo9) | ((with_reducible refine gate_callee (f := 64) rfl ?_); refine gL_ 22 Try.func64 rfl #[.slice Ao9 t1003.length co9] ?_; (with_reducible refine (impl_nat_text.calls k _ _ t1003 t1006 _ ?side1 ?side2 A5.out).mono ?_); (case side1 => exact pC_ (Kd.V_reads' HO1005.out).2.2); (case side2 => exact (Kd.V_reads' HO1005.out).2.1); rintro e w10 ⟨rfl, hb⟩; refine ⟨_, rfl, ?_⟩; replace HO1000 := Aside0.mk (Kd.V_below (pV_ HO1000.out) hb); replace HO1005 := Aside0.mk (Kd.V_below (pV_ HO1005.out) hb); replace HB := Aside0.mk (below_step (pB_ HB.out) hb); clear hb))
    go_ret2
    exact ⟨by first | rfl | (simp [errW_none, errW_some] <;> rfl) | (simp [*, errW_none, errW_some] <;> rfl), pB_ HB.out⟩
  · replace c3 := Bool.eq_false_iff.mpr c3
    subst c3
    have H1 : (some (0, (⟨#[]⟩ : ByteArray))) = some (r1, r2) := by rw [if_neg (show ¬ (false = true) by decide)] at H; exact H
    clear H
    have H := H1
    clear H1
    simp only [Option.some.injEq, Prod.mk.injEq] at H
    obtain ⟨rfl, rfl⟩ := H
    go_enter Try.func36, Try.ntmps36
    go_wp2_with (first | ((with_reducible refine gate_callee (f := 50) rfl ?_); refine gL_ 10 Try.func50 rfl #[.string a0, .slice none 0 0] ?_; (refine (impl_modulus.calls k a0 _ _ ([] : List ByteArray) t998 false _ ?side1 ?side2 A2.out).mono ?_); (case side1 => exact Kd.C_nil _ _); (case side2 => exact Nat.le_refl _); rintro e w11 ⟨v999, rfl, ho0, hb⟩; refine ⟨_, rfl, ?_⟩; have HO1000 := Aside0.mk (Kd.V_lower (Kd.V_mono (ok' := fun k_ => True) ho0 (fun k_ hk_ => trivial)) (below_size (pB_ HB.out))); replace HB := Aside0.mk (below_step (pB_ HB.out) hb); clear hb ho0))
    go_ret2
    exact ⟨by first | rfl | (simp [errW_none, errW_some] <;> rfl) | (simp [*, errW_none, errW_some] <;> rfl), pB_ HB.out⟩

/-! ### laws_FnExactTwosIn: function 12 -/
def laws_FnExactTwosIn.f (k : Nat) (a0 : ByteArray) : Option (Bool) := if (a0.size : Int) > 1048576 then (some true) else ((spec_TwosIn.f k a0).bind fun bt1007 => ((impl_TwosIn.f k a0).bind fun bt1009 => (if bt1009.1 = bt1007.1 then (if bt1009.2.toList = bt1007.2.toList then (some true) else (some false)) else (some false))))
set_option maxHeartbeats 8000000 in
set_option maxRecDepth 100000 in
theorem laws_FnExactTwosIn.calls (k : Nat) (a0 : ByteArray) (r : Bool) (w : World) (h : laws_FnExactTwosIn.f k a0 = some r) :
    Calls Try.prog 12 #[.string a0] w fun e w' => e = .returned (.bool r) ∧ Below w.heap.size w w' := by
  have HB := Aside0.mk (Below.refl w.heap.size w)
  have H : (if (a0.size : Int) > 1048576 then (some true) else ((spec_TwosIn.f k a0).bind fun bt1007 => ((impl_TwosIn.f k a0).bind fun bt1009 => (if bt1009.1 = bt1007.1 then (if bt1009.2.toList = bt1007.2.toList then (some true) else (some false)) else (some false))))) = some r := h
  clear h
  by_cases c2 : (a0.size : Int) > 1048576
  · rw [if_pos c2] at H
    have c2b0 : decide (1048576 < (a0.size : Int)) = true := decide_eq_true c2
    have c2b1 : decide (1048576 < a0.size) = true := decide_eq_true (by omega)
    clear c2
    obtain rfl := Option.some.inj H
    go_enter Try.func12, Try.ntmps12
    go_wp2
    go_ret
    exact ⟨by first | rfl | (simp [errW_none, errW_some] <;> rfl) | (simp [*, errW_none, errW_some] <;> rfl), pB_ HB.out⟩
  rw [if_neg c2] at H
  have c2b0 : decide (1048576 < (a0.size : Int)) = false := decide_eq_false c2
  have c2b1 : decide (1048576 < a0.size) = false := decide_eq_false (by omega)
  clear c2
  replace H := Option.bind_eq_some_iff.mp H
  obtain ⟨⟨t1007, t1008⟩, A30, H⟩ := H
  replace H : ((impl_TwosIn.f k a0).bind fun bt1009 => (if bt1009.1 = t1007 then (if bt1009.2.toList = t1008.toList then (some true) else (some false)) else (some false))) = some r := H
  have A3 := Aside0.mk A30
  clear A30
  replace H := Option.bind_eq_some_iff.mp H
  obtain ⟨⟨t1009, t1010⟩, A40, H⟩ := H
  replace H : (if t1009 = t1007 then (if t1010.toList = t1008.toList then (some true) else (some false)) else (some false)) = some r := H
  have A4 := Aside0.mk A40
  clear A40
  by_cases c5 : t1009 = t1007
  rotate_left
  · rw [if_neg c5] at H
    have c5b0 : (t1009 == t1007) = false := beq_eq_false_iff_ne.mpr c5
    have c5b1 : (t1009 != t1007) = true := bne_iff_ne.mpr c5
    obtain rfl := Option.some.inj H
    go_enter Try.func12, Try.ntmps12
    go_wp2_with (first | ((with_reducible refine gate_callee (f := 35) rfl ?_); refine gL_ 12 Try.func35 rfl #[.string a0] ?_; (with_reducible refine (spec_TwosIn.calls k a0 t1007 t1008 _ A3.out).mono ?_); rintro e w11 ⟨rfl, hb⟩; refine ⟨_, rfl, ?_⟩; replace HB := Aside0.mk (below_step (pB_ HB.out) hb); clear hb) | ((with_reducible refine gate_callee (f := 36) rfl ?_); refine gL_ 17 Try.func36 rfl #[.string a0] ?_; (with_reducible refine (impl_TwosIn.calls k a0 t1009 t1010 _ A4.out).mono ?_); rintro e w12 ⟨rfl, hb⟩; refine ⟨_, rfl, ?_⟩; replace HB := Aside0.mk (below_step (pB_ HB.out) hb); clear hb))
    go_ret
    exact ⟨by first | rfl | (simp [errW_none, errW_some] <;> rfl) | (simp [*, errW_none, errW_some] <;> rfl), pB_ HB.out⟩

  rw [if_pos c5] at H
  have c5b0 : (t1009 == t1007) = true := beq_iff_eq.mpr c5
  have c5b1 : (t1009 != t1007) = false := bne_eq_false_iff_eq.mpr c5
  clear c5
  by_cases c6 : t1010.toList = t1008.toList
  rotate_left
  · rw [if_neg c6] at H
    have c6b0 : (t1010.toList == t1008.toList) = false := beq_eq_false_iff_ne.mpr c6
    have c6b1 : (t1010.toList != t1008.toList) = true := bne_iff_ne.mpr c6
    obtain rfl := Option.some.inj H
    go_enter Try.func12, Try.ntmps12
    go_wp2_with (first | ((with_reducible refine gate_callee (f := 35) rfl ?_); refine gL_ 12 Try.func35 rfl #[.string a0] ?_; (with_reducible refine (spec_TwosIn.calls k a0 t1007 t1008 _ A3.out).mono ?_); rintro e w9 ⟨rfl, hb⟩; refine ⟨_, rfl, ?_⟩; replace HB := Aside0.mk (below_step (pB_ HB.out) hb); clear hb) | ((with_reducible refine gate_callee (f := 36) rfl ?_); refine gL_ 17 Try.func36 rfl #[.string a0] ?_; (with_reducible refine (impl_TwosIn.calls k a0 t1009 t1010 _ A4.out).mono ?_); rintro e w10 ⟨rfl, hb⟩; refine ⟨_, rfl, ?_⟩; replace HB := Aside0.mk (below_step (pB_ HB.out) hb); clear hb))
    go_ret
    exact ⟨by first | rfl | (simp [errW_none, errW_some] <;> rfl) | (simp [*, errW_none, errW_some] <;> rfl), pB_ HB.out⟩
  rw [if_pos c6] at H
  have c6b0 : (t1010.toList == t1008.toList) = true := beq_iff_eq.mpr c6
  have c6b1 : (t1010.toList != t1008.toList) = false := bne_eq_false_iff_eq.mpr c6
  clear c6
  obtain rfl := Option.some.inj H
  go_enter Try.func12, Try.ntmps12
  go_wp2_with (first | ((with_reducible refine gate_callee (f := 35) rfl ?_); refine gL_ 12 Try.func35 rfl #[.string a0] ?_; (with_reducible refine (spec_TwosIn.calls k a0 t1007 t1008 _ A3.out).mono ?_); rintro e w7 ⟨rfl, hb⟩; refine ⟨_, rfl, ?_⟩; replace HB := Aside0.mk (below_step (pB_ HB.out) hb); clear hb) | ((with_reducible refine gate_callee (f := 36) rfl ?_); refine gL_ 17 Try.func36 rfl #[.string a0] ?_; (with_reducible refine (impl_TwosIn.calls k a0 t1009 t1010 _ A4.out).mono ?_); rintro e w8 ⟨rfl, hb⟩; refine ⟨_, rfl, ?_⟩; replace HB := Aside0.mk (below_step (pB_ HB.out) hb); clear hb))
  go_ret
  exact ⟨by first | rfl | (simp [errW_none, errW_some] <;> rfl) | (simp [*, errW_none, errW_some] <;> rfl), pB_ HB.out⟩
/-- THE ONE PURE STATEMENT of laws_FnExactTwosIn: yours. -/
def laws_FnExactTwosIn.Pure : Prop := ∀ (a0 : ByteArray), a0.size ≤ 140737488351232 → ∃ k, laws_FnExactTwosIn.f k a0 = some true
theorem laws_FnExactTwosIn.walk (P : laws_FnExactTwosIn.Pure) (a0 : ByteArray) (w : World) (w0 : a0.size ≤ 140737488351232) :
    Calls Try.prog 12 #[.string a0] w fun e w' => e = .returned (.bool true) ∧ Below w.heap.size w w' := by
  obtain ⟨k, h⟩ := P a0 w0
  refine (laws_FnExactTwosIn.calls k a0 true w h).mono ?_
  rintro e w' ⟨rfl, hd⟩
  exact ⟨rfl, hd⟩

end Go.Proofs.Ytohfimjpfnnpgaa.F
