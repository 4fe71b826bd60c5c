-- Made for this seat by a program of this session (wip/fork, wip/slim.py). Lean checks it.
import Derived.Test.YtghhnjhjhjbljaaVIFx0
import Derived.Test.YtghhnjhjhjbljaaZI2
import Derived.Test.YtghhnjhjhjbljaaZI3
import Derived.Test.YtghhnjhjhjbljaaZI5
import Derived.Test.YtghhnjhjhjbljaaZI6
import Derived.Test.YtghhnjhjhjbljaaZI7
namespace Go.Proofs.Ytghhnjhjhjbljaa.F
open Go.RowKit Go.Proofs.YtghhnjhjhjbljaaW.PrintWords Go.Proofs.YtghhnjhjhjbljaaW.PrintLast Go.Proofs.YtghhnjhjhjbljaaW.PrintMore
attribute [local go_sem] max2_int min2_int max_two min_two max_three min_three max_four min_four   -- for this text's walks alone
set_option linter.unusedVariables false
set_option linter.unusedSimpArgs false

/-! ### impl_prime_inv: function 65 -/
def impl_prime_inv.l0 : Nat → List Int → List Int → List Int → List Int → List Int → Option (List Int × Bool)
  | 0, _, _, _, _, _ => none
  | k + 1, x0, x6, x7, x8, x9 => (impl_nat_zero.f x7).bind fun t1001 => (if t1001 = true then ((impl_small.f k 1).bind fun t1002 => ((impl_nat_cmp.f k x6 t1002).bind fun t1005 => (some (x8, (t1005 == 0))))) else ((impl_nat_over.f k x6 x7).bind fun bt1006 => ((impl_nat_rest.f k bt1006.1 x0).bind fun t1012 => ((impl_prime_mul.f k x0 t1012 x9).bind fun t1015 => ((impl_prime_sub.f k x0 x8 t1015).bind fun t1018 => (impl_prime_inv.l0 k x0 x7 bt1006.2 x9 t1018))))))
def impl_prime_inv.f (k : Nat) (l0 : List Int) (l1 : List Int) : Option (List Int × Bool) := (impl_small.f k 1).bind fun t998 => (impl_prime_inv.l0 k l0 l0 l1 ([] : List Int) t998)
set_option maxHeartbeats 8000000 in
set_option maxRecDepth 100000 in
theorem impl_prime_inv.calls (k : Nat) (P0_ : Nat → Prop) (A0 : Option Addr) (c0 : Nat) (l0 : List Int) (P1_ : Nat → Prop) (A1 : Option Addr) (c1 : Nat) (l1 : List Int) (r1 : List Int) (r2 : Bool) (w : World) (hs0 : Kd.V (Kd.int .u64) 83 w w.heap.size (fun k_ => P0_ k_) (.slice A0 l0.length c0) l0) (hs1 : Kd.V (Kd.int .u64) 83 w w.heap.size (fun k_ => P1_ k_) (.slice A1 l1.length c1) l1) (h : impl_prime_inv.f k l0 l1 = some (r1, r2)) :
    Calls Try.prog 65 #[.slice A0 l0.length c0, .slice A1 l1.length c1] w fun e w' => ∃ v0_ : Value, e = .returned (.tuple #[v0_, .bool r2]) ∧ Kd.V (Kd.int .u64) 83 w' w.heap.size (fun k_ => ((P0_ k_ ∨ P1_ k_) ∨ w.heap.size ≤ k_)) v0_ r1 ∧ Below w.heap.size w w' := by
  have HO0 := Aside0.mk (show Kd.V (Kd.int .u64) 83 w w.heap.size (fun k_ => ((P0_ k_ ∨ P1_ k_) ∨ w.heap.size ≤ k_)) (.slice A0 l0.length c0) l0 from Kd.V_mono hs0 (fun k_ hk => .inl (.inl hk)))
  have HO1 := Aside0.mk (show Kd.V (Kd.int .u64) 83 w w.heap.size (fun k_ => ((P0_ k_ ∨ P1_ k_) ∨ w.heap.size ≤ k_)) (.slice A1 l1.length c1) l1 from Kd.V_mono hs1 (fun k_ hk => .inl (.inr hk)))
  have HB := Aside0.mk (Below.refl w.heap.size w)
  have H : ((impl_small.f k 1).bind fun t998 => (impl_prime_inv.l0 k l0 l0 l1 ([] : List Int) t998)) = some (r1, r2) := h
  clear h
  replace H := Option.bind_eq_some_iff.mp H
  obtain ⟨t998, A30, H⟩ := H
  have A3 := Aside0.mk A30
  clear A30
  have H' := Aside0.mk H
  clear H
  go_enter Try.func65, Try.ntmps65
  go_wp2_with (first | ((with_reducible refine gate_callee (f := 70) rfl ?_); refine gL_ 14 Try.func70 rfl #[.int .i64 1] ?_; (with_reducible refine (impl_small.calls k 1 t998 _ A3.out).mono ?_); rintro e w4 ⟨v999, rfl, ho0, hb⟩; refine ⟨_, rfl, ?_⟩; replace HO0 := Aside0.mk (Kd.V_below (pV_ HO0.out) hb); replace HO1 := Aside0.mk (Kd.V_below (pV_ HO1.out) hb); have HO1000 := Aside0.mk (Kd.V_lower (Kd.V_mono (ok' := fun k_ => ((P0_ k_ ∨ P1_ k_) ∨ w.heap.size ≤ k_)) ho0 (fun k_ hk_ => (.inr (Nat.le_trans (below_size (pB_ HB.out)) hk_)))) (below_size (pB_ HB.out))); replace HB := Aside0.mk (below_step (pB_ HB.out) hb); clear hb ho0))
  go_loopg [6, 7, 8, 9] k (fun kq v6 v7 v8 v9 w' => ∃ (x6_1 : List Int) (x7_1 : List Int) (x8_1 : List Int) (x9_1 : List Int), Aside0 (impl_prime_inv.l0 kq l0 x6_1 x7_1 x8_1 x9_1 = some (r1, r2)) ∧ Aside0 (kq ≤ k) ∧ Aside0 (Kd.V (Kd.int .u64) 83 w' w.heap.size (fun k_ => ((P0_ k_ ∨ P1_ k_) ∨ w.heap.size ≤ k_)) (.slice A0 l0.length c0) l0) ∧ Aside0 (Kd.V (Kd.int .u64) 83 w' w.heap.size (fun k_ => ((P0_ k_ ∨ P1_ k_) ∨ w.heap.size ≤ k_)) v6 x6_1) ∧ Aside0 (Kd.V (Kd.int .u64) 83 w' w.heap.size (fun k_ => ((P0_ k_ ∨ P1_ k_) ∨ w.heap.size ≤ k_)) v7 x7_1) ∧ Aside0 (Kd.V (Kd.int .u64) 83 w' w.heap.size (fun k_ => ((P0_ k_ ∨ P1_ k_) ∨ w.heap.size ≤ k_)) v8 x8_1) ∧ Aside0 (Kd.V (Kd.int .u64) 83 w' w.heap.size (fun k_ => ((P0_ k_ ∨ P1_ k_) ∨ w.heap.size ≤ k_)) v9 x9_1) ∧ Aside0 (Below w.heap.size w w'))
  case atStart => exact ⟨(l0), (l1), (([] : List Int)), (t998), H', ⟨Nat.le_refl _⟩, ⟨by (with_reducible repeat (first | apply Kd.V_alloc | apply Kd.V_drewN | apply Kd.V_drew)); exact HO0.out⟩, ⟨by (with_reducible repeat (first | apply Kd.V_alloc | apply Kd.V_drewN | apply Kd.V_drew)); exact HO0.out⟩, ⟨by (with_reducible repeat (first | apply Kd.V_alloc | apply Kd.V_drewN | apply Kd.V_drew)); exact HO1.out⟩, ⟨Kd.V_nil _ _ _ _ _⟩, ⟨by (with_reducible repeat (first | apply Kd.V_alloc | apply Kd.V_drewN | apply Kd.V_drew)); exact HO1000.out⟩, ⟨pB_ HB.out⟩⟩
  clear H'
  try clear c1
  try clear p2
  obtain ⟨x6_1, x7_1, x8_1, x9_1, HA, HK1, HO_0, HO_6, HO_7, HO_8, HO_9, HB⟩ := hrel
  rcases gk with _ | k1
  · exact absurd HA.out (by simp [impl_prime_inv.l0])
  have H := HA.out
  clear HA
  simp only [impl_prime_inv.l0] at H
  replace H := Option.bind_eq_some_iff.mp H
  obtain ⟨t1001, A50, H⟩ := H
  have A5 := Aside0.mk A50
  clear A50
  by_cases c6 : t1001 = true
  · subst c6
    have H1 : ((impl_small.f k1 1).bind fun t1002 => ((impl_nat_cmp.f k1 x6_1 t1002).bind fun t1005 => (some (x8_1, (t1005 == 0))))) = some (r1, r2) := by rw [if_pos rfl] at H; exact H
    clear H
    have H := H1
    clear H1
    replace H := Option.bind_eq_some_iff.mp H
    obtain ⟨t1002, A70, H⟩ := H
    have A7 := Aside0.mk A70
    clear A70
    replace H := Option.bind_eq_some_iff.mp H
    obtain ⟨t1005, A80, H⟩ := H
    have A8 := Aside0.mk A80
    clear A80
    simp only [Option.some.injEq, Prod.mk.injEq] at H
    obtain ⟨rfl, rfl⟩ := H
    obtain ⟨Ao9, co9, eo9⟩ := Kd.V_slice HO_7.out
    subst eo9
    go_wp2_with (first | ((with_reducible refine gate_callee (f := 94) rfl ?_); refine gL_ 16 Try.func94 rfl #[.slice Ao9 x7_1.length co9] ?_; (with_reducible refine (impl_nat_zero.calls _ _ x7_1 true _ ?side1 ?side2 A5.out).mono ?_); (case side1 => exact pC_ (Kd.V_reads' HO_7.out).2.2); (case side2 => exact (Kd.V_reads' HO_7.out).2.1); rintro e w' ⟨rfl, ⟨nd, rfl⟩⟩; refine ⟨_, rfl, ?_⟩) | ((with_reducible refine gate_callee (f := 70) rfl ?_); refine gL_ 38 Try.func70 rfl #[.int .i64 1] ?_; (with_reducible refine (impl_small.calls k1 1 t1002 _ A7.out).mono ?_); rintro e w10 ⟨v1003, rfl, ho0, hb⟩; refine ⟨_, rfl, ?_⟩; replace HO_0 := Aside0.mk (Kd.V_below (pV_ HO_0.out) hb); replace HO_6 := Aside0.mk (Kd.V_below (pV_ HO_6.out) hb); replace HO_7 := Aside0.mk (Kd.V_below (pV_ HO_7.out) hb); replace HO_8 := Aside0.mk (Kd.V_below (pV_ HO_8.out) hb); replace HO_9 := Aside0.mk (Kd.V_below (pV_ HO_9.out) hb); have HO1004 := Aside0.mk (Kd.V_lower (Kd.V_mono (ok' := fun k_ => ((P0_ k_ ∨ P1_ k_) ∨ w.heap.size ≤ k_)) ho0 (fun k_ hk_ => (.inr (Nat.le_trans (below_size (pB_ HB.out)) hk_)))) (below_size (pB_ HB.out))); replace HB := Aside0.mk (below_step (pB_ HB.out) hb); clear hb ho0; obtain ⟨Ao11, co11, eo11⟩ := Kd.V_slice HO_6.out; subst eo11; obtain ⟨Ao12, co12, eo12⟩ := Kd.V_slice HO1004.out; subst eo12) | ((with_reducible refine gate_callee (f := 69) rfl ?_); refine gL_ 39 Try.func69 rfl #[.slice Ao11 x6_1.length co11, .slice Ao12 t1002.length co12] ?_; (with_reducible refine (impl_nat_cmp.calls k1 _ _ x6_1 _ _ t1002 t1005 _ ?side1 ?side2 ?side3 ?side4 A8.out).mono ?_); (case side1 => exact pC_ (Kd.V_reads' HO_6.out).2.2); (case side2 => exact (Kd.V_reads' HO_6.out).2.1); (case side3 => exact pC_ (Kd.V_reads' HO1004.out).2.2); (case side4 => exact (Kd.V_reads' HO1004.out).2.1); rintro e w' ⟨rfl, ⟨nd, rfl⟩⟩; refine ⟨_, rfl, ?_⟩))
    go_ret2
    exact ⟨_, by first | rfl | (simp [errW_none, errW_some] <;> rfl) | (simp [*, errW_none, errW_some] <;> rfl), by (with_reducible repeat (first | apply Kd.V_alloc | apply Kd.V_drewN | apply Kd.V_drew)); exact HO_8.out, pB_ HB.out⟩
  · replace c6 := Bool.eq_false_iff.mpr c6
    subst c6
    have H1 : ((impl_nat_over.f k1 x6_1 x7_1).bind fun bt1006 => ((impl_nat_rest.f k1 bt1006.1 l0).bind fun t1012 => ((impl_prime_mul.f k1 l0 t1012 x9_1).bind fun t1015 => ((impl_prime_sub.f k1 l0 x8_1 t1015).bind fun t1018 => (impl_prime_inv.l0 k1 l0 x7_1 bt1006.2 x9_1 t1018))))) = some (r1, r2) := by rw [if_neg (show ¬ (false = true) by decide)] at H; exact H
    clear H
    have H := H1
    clear H1
    replace H := Option.bind_eq_some_iff.mp H
    obtain ⟨⟨t1006, t1009⟩, A130, H⟩ := H
    replace H : ((impl_nat_rest.f k1 t1006 l0).bind fun t1012 => ((impl_prime_mul.f k1 l0 t1012 x9_1).bind fun t1015 => ((impl_prime_sub.f k1 l0 x8_1 t1015).bind fun t1018 => (impl_prime_inv.l0 k1 l0 x7_1 t1009 x9_1 t1018)))) = some (r1, r2) := H
    have A13 := Aside0.mk A130
    clear A130
    replace H := Option.bind_eq_some_iff.mp H
    obtain ⟨t1012, A140, H⟩ := H
    have A14 := Aside0.mk A140
    clear A140
    replace H := Option.bind_eq_some_iff.mp H
    obtain ⟨t1015, A150, H⟩ := H
    have A15 := Aside0.mk A150
    clear A150
    replace H := Option.bind_eq_some_iff.mp H
    obtain ⟨t1018, A160, H⟩ := H
    have A16 := Aside0.mk A160
    clear A160
    have H' := Aside0.mk H
    clear H
    obtain ⟨Ao17, co17, eo17⟩ := Kd.V_slice HO_7.out
    subst eo17
    go_wp2_with (first | ((with_reducible refine gate_callee (f := 94) rfl ?_); refine gL_ 16 Try.func94 rfl #[.slice Ao17 x7_1.length co17] ?_; (with_reducible refine (impl_nat_zero.calls _ _ x7_1 false _ ?side1 ?side2 A5.out).mono ?_); (case side1 => exact pC_ (Kd.V_reads' HO_7.out).2.2); (case side2 => exact (Kd.V_reads' HO_7.out).2.1); rintro e w' ⟨rfl, ⟨nd, rfl⟩⟩; refine ⟨_, rfl, ?_⟩; obtain ⟨Ao18, co18, eo18⟩ := Kd.V_slice HO_6.out; subst eo18) | ((with_reducible refine gate_callee (f := 46) rfl ?_); refine gL_ 21 Try.func46 rfl #[.slice Ao18 x6_1.length co18, .slice Ao17 x7_1.length co17] ?_; (with_reducible refine (impl_nat_over.calls k1 (fun k_ => ((P0_ k_ ∨ P1_ k_) ∨ w.heap.size ≤ k_)) _ _ x6_1 _ _ x7_1 t1006 t1009 _ ?side1 ?side2 ?side3 A13.out).mono ?_); (case side1 => exact HO_6.out); (case side2 => exact pC_ (Kd.V_reads' HO_7.out).2.2); (case side3 => exact (Kd.V_reads' HO_7.out).2.1); rintro e w19 ⟨v1007, v1010, rfl, ho0, ho1, hb⟩; refine ⟨_, rfl, ?_⟩; replace HO_0 := Aside0.mk (Kd.V_below (pV_ HO_0.out) hb); replace HO_6 := Aside0.mk (Kd.V_below (pV_ HO_6.out) hb); replace HO_7 := Aside0.mk (Kd.V_below (pV_ HO_7.out) hb); replace HO_8 := Aside0.mk (Kd.V_below (pV_ HO_8.out) hb); replace HO_9 := Aside0.mk (Kd.V_below (pV_ HO_9.out) hb); have HO1008 := Aside0.mk (Kd.V_lower (Kd.V_mono (ok' := fun k_ => ((P0_ k_ ∨ P1_ k_) ∨ w.heap.size ≤ k_)) ho0 (fun k_ hk_ => Or.elim hk_ (fun hs_ => hs_) (fun hn_ => (.inr (Nat.le_trans (below_size (pB_ HB.out)) hn_))))) (below_size (pB_ HB.out))); have HO1011 := Aside0.mk (Kd.V_lower (Kd.V_mono (ok' := fun k_ => ((P0_ k_ ∨ P1_ k_) ∨ w.heap.size ≤ k_)) ho1 (fun k_ hk_ => Or.elim hk_ (fun hs_ => hs_) (fun hn_ => (.inr (Nat.le_trans (below_size (pB_ HB.out)) hn_))))) (below_size (pB_ HB.out))); replace HB := Aside0.mk (below_step (pB_ HB.out) hb); clear hb ho0 ho1; obtain ⟨Ao20, co20, eo20⟩ := Kd.V_slice HO1008.out; subst eo20) | ((with_reducible refine gate_callee (f := 48) rfl ?_); refine gL_ 32 Try.func48 rfl #[.slice Ao20 t1006.length co20, .slice A0 l0.length c0] ?_; (with_reducible refine (impl_nat_rest.calls k1 (fun k_ => ((P0_ k_ ∨ P1_ k_) ∨ w.heap.size ≤ k_)) _ _ t1006 _ _ l0 t1012 _ ?side1 ?side2 ?side3 A14.out).mono ?_); (case side1 => exact HO1008.out); (case side2 => exact pC_ (Kd.V_reads' HO_0.out).2.2); (case side3 => exact (Kd.V_reads' HO_0.out).2.1); rintro e w21 ⟨v1013, rfl, ho0, hb⟩; refine ⟨_, rfl, ?_⟩; replace HO_0 := Aside0.mk (Kd.V_below (pV_ HO_0.out) hb); replace HO_6 := Aside0.mk (Kd.V_below (pV_ HO_6.out) hb); replace HO_7 := Aside0.mk (Kd.V_below (pV_ HO_7.out) hb); replace HO_8 := Aside0.mk (Kd.V_below (pV_ HO_8.out) hb); replace HO_9 := Aside0.mk (Kd.V_below (pV_ HO_9.out) hb); replace HO1008 := Aside0.mk (Kd.V_below (pV_ HO1008.out) hb); replace HO1011 := Aside0.mk (Kd.V_below (pV_ HO1011.out) hb); have HO1014 := Aside0.mk (Kd.V_lower (Kd.V_mono (ok' := fun k_ => ((P0_ k_ ∨ P1_ k_) ∨ w.heap.size ≤ k_)) ho0 (fun k_ hk_ => Or.elim hk_ (fun hs_ => hs_) (fun hn_ => (.inr (Nat.le_trans (below_size (pB_ HB.out)) hn_))))) (below_size (pB_ HB.out))); replace HB := Aside0.mk (below_step (pB_ HB.out) hb); clear hb ho0; obtain ⟨Ao22, co22, eo22⟩ := Kd.V_slice HO1014.out; subst eo22; obtain ⟨Ao23, co23, eo23⟩ := Kd.V_slice HO_9.out; subst eo23) | ((with_reducible refine gate_callee (f := 51) rfl ?_); refine gL_ 34 Try.func51 rfl #[.slice A0 l0.length c0, .slice Ao22 t1012.length co22, .slice Ao23 x9_1.length co23] ?_; (with_reducible refine (impl_prime_mul.calls k1 _ _ l0 _ _ t1012 _ _ x9_1 t1015 _ ?side1 ?side2 ?side3 ?side4 ?side5 ?side6 A15.out).mono ?_); (case side1 => exact pC_ (Kd.V_reads' HO_0.out).2.2); (case side2 => exact (Kd.V_reads' HO_0.out).2.1); (case side3 => exact pC_ (Kd.V_reads' HO1014.out).2.2); (case side4 => exact (Kd.V_reads' HO1014.out).2.1); (case side5 => exact pC_ (Kd.V_reads' HO_9.out).2.2); (case side6 => exact (Kd.V_reads' HO_9.out).2.1); rintro e w24 ⟨v1016, rfl, ho0, hb⟩; refine ⟨_, rfl, ?_⟩; replace HO_0 := Aside0.mk (Kd.V_below (pV_ HO_0.out) hb); replace HO_6 := Aside0.mk (Kd.V_below (pV_ HO_6.out) hb); replace HO_7 := Aside0.mk (Kd.V_below (pV_ HO_7.out) hb); replace HO_8 := Aside0.mk (Kd.V_below (pV_ HO_8.out) hb); replace HO_9 := Aside0.mk (Kd.V_below (pV_ HO_9.out) hb); replace HO1008 := Aside0.mk (Kd.V_below (pV_ HO1008.out) hb); replace HO1011 := Aside0.mk (Kd.V_below (pV_ HO1011.out) hb); replace HO1014 := Aside0.mk (Kd.V_below (pV_ HO1014.out) hb); have HO1017 := Aside0.mk (Kd.V_lower (Kd.V_mono (ok' := fun k_ => ((P0_ k_ ∨ P1_ k_) ∨ w.heap.size ≤ k_)) ho0 (fun k_ hk_ => (.inr (Nat.le_trans (below_size (pB_ HB.out)) hk_)))) (below_size (pB_ HB.out))); replace HB := Aside0.mk (below_step (pB_ HB.out) hb); clear hb ho0; obtain ⟨Ao25, co25, eo25⟩ := Kd.V_slice HO_8.out; subst eo25; obtain ⟨Ao26, co26, eo26⟩ := Kd.V_slice HO1017.out; subst eo26) | ((with_reducible refine gate_callee (f := 95) rfl ?_); refine gL_ 35 Try.func95 rfl #[.slice A0 l0.length c0, .slice Ao25 x8_1.length co25, .slice Ao26 t1015.length co26] ?_; (with_reducible refine (impl_prime_sub.calls k1 (fun k_ => ((P0_ k_ ∨ P1_ k_) ∨ w.heap.size ≤ k_)) _ _ l0 (fun k_ => ((P0_ k_ ∨ P1_ k_) ∨ w.heap.size ≤ k_)) _ _ x8_1 _ _ t1015 t1018 _ ?side1 ?side2 ?side3 ?side4 A16.out).mono ?_); (case side1 => exact HO_0.out); (case side2 => exact HO_8.out); (case side3 => exact pC_ (Kd.V_reads' HO1017.out).2.2); (case side4 => exact (Kd.V_reads' HO1017.out).2.1); rintro e w27 ⟨v1019, rfl, ho0, hb⟩; refine ⟨_, rfl, ?_⟩; replace HO_0 := Aside0.mk (Kd.V_below (pV_ HO_0.out) hb); replace HO_6 := Aside0.mk (Kd.V_below (pV_ HO_6.out) hb); replace HO_7 := Aside0.mk (Kd.V_below (pV_ HO_7.out) hb); replace HO_8 := Aside0.mk (Kd.V_below (pV_ HO_8.out) hb); replace HO_9 := Aside0.mk (Kd.V_below (pV_ HO_9.out) hb); replace HO1008 := Aside0.mk (Kd.V_below (pV_ HO1008.out) hb); replace HO1011 := Aside0.mk (Kd.V_below (pV_ HO1011.out) hb); replace HO1014 := Aside0.mk (Kd.V_below (pV_ HO1014.out) hb); replace HO1017 := Aside0.mk (Kd.V_below (pV_ HO1017.out) hb); have HO1020 := Aside0.mk (Kd.V_lower (Kd.V_mono (ok' := fun k_ => ((P0_ k_ ∨ P1_ k_) ∨ w.heap.size ≤ k_)) ho0 (fun k_ hk_ => Or.elim hk_ (fun hs_ => Or.elim hs_ (fun hs_ => hs_) (fun hs_ => hs_)) (fun hn_ => (.inr (Nat.le_trans (below_size (pB_ HB.out)) hn_))))) (below_size (pB_ HB.out))); replace HB := Aside0.mk (below_step (pB_ HB.out) hb); clear hb ho0))
    go_roundg k1
    case measure => have := HK1.out; omega
    case rel => exact ⟨(x7_1), (t1009), (x9_1), (t1018), H', ⟨by have := HK1.out; omega⟩, ⟨by (with_reducible repeat (first | apply Kd.V_alloc | apply Kd.V_drewN | apply Kd.V_drew)); exact HO_0.out⟩, ⟨by (with_reducible repeat (first | apply Kd.V_alloc | apply Kd.V_drewN | apply Kd.V_drew)); exact HO_7.out⟩, ⟨by (with_reducible repeat (first | apply Kd.V_alloc | apply Kd.V_drewN | apply Kd.V_drew)); exact HO1011.out⟩, ⟨by (with_reducible repeat (first | apply Kd.V_alloc | apply Kd.V_drewN | apply Kd.V_drew)); exact HO_9.out⟩, ⟨by (with_reducible repeat (first | apply Kd.V_alloc | apply Kd.V_drewN | apply Kd.V_drew)); exact HO1020.out⟩, ⟨pB_ HB.out⟩⟩

/-! ### impl_InverseRest: function 31 -/
def impl_InverseRest.f (k : Nat) (a0 : ByteArray) (a1 : ByteArray) : Option (ByteArray × Bool) := (impl_modulus.f k a1 (([a0] : List ByteArray))).bind fun bt1024 => (if bt1024.2 = true then ((impl_natOf.f k a0).bind fun t1028 => ((impl_prime_inv.f k bt1024.1 t1028).bind fun bt1031 => (if bt1031.2 = true then ((impl_nat_text.f k bt1031.1).bind fun t1035 => (some (t1035, true))) else (some ((⟨#[]⟩ : ByteArray), false))))) else (some ((⟨#[]⟩ : ByteArray), false)))
set_option maxHeartbeats 8000000 in
set_option maxRecDepth 100000 in
theorem impl_InverseRest.calls (k : Nat) (a0 : ByteArray) (a1 : ByteArray) (r1 : ByteArray) (r2 : Bool) (w : World) (h : impl_InverseRest.f k a0 a1 = some (r1, r2)) :
    Calls Try.prog 31 #[.string a0, .string a1] w fun e w' => e = .returned (.tuple #[.string r1, .bool r2]) ∧ Below w.heap.size w w' := by
  have HB := Aside0.mk (Below.refl w.heap.size w)
  have H : ((impl_modulus.f k a1 (([a0] : List ByteArray))).bind fun bt1024 => (if bt1024.2 = true then ((impl_natOf.f k a0).bind fun t1028 => ((impl_prime_inv.f k bt1024.1 t1028).bind fun bt1031 => (if bt1031.2 = true then ((impl_nat_text.f k bt1031.1).bind fun t1035 => (some (t1035, true))) else (some ((⟨#[]⟩ : ByteArray), false))))) else (some ((⟨#[]⟩ : ByteArray), false)))) = some (r1, r2) := h
  clear h
  obtain ⟨y1021, hy1021⟩ : ∃ y_ : List ByteArray, y_ = (([a0] : List ByteArray)) := ⟨_, rfl⟩
  replace H : ((impl_modulus.f k a1 y1021).bind fun bt1024 => (if bt1024.2 = true then ((impl_natOf.f k a0).bind fun t1028 => ((impl_prime_inv.f k bt1024.1 t1028).bind fun bt1031 => (if bt1031.2 = true then ((impl_nat_text.f k bt1031.1).bind fun t1035 => (some (t1035, true))) else (some ((⟨#[]⟩ : ByteArray), false))))) else (some ((⟨#[]⟩ : ByteArray), false)))) = some (r1, r2) := by first | (rw [hy1021]; with_reducible exact H) | (have H2_ := (Option.bind_some _ _).symm.trans H; rw [hy1021]; with_reducible exact H2_) | (have H2_ := (Option.bind_some _ _).symm.trans H; with_reducible exact H2_) | with_reducible exact H | (rw [hy1021]; exact H) | exact H
  have Ny1021 := Aside0.mk hy1021
  clear hy1021
  replace H := Option.bind_eq_some_iff.mp H
  obtain ⟨⟨t1024, t1027⟩, A30, H⟩ := H
  replace H : (if t1027 = true then ((impl_natOf.f k a0).bind fun t1028 => ((impl_prime_inv.f k t1024 t1028).bind fun bt1031 => (if bt1031.2 = true then ((impl_nat_text.f k bt1031.1).bind fun t1035 => (some (t1035, true))) else (some ((⟨#[]⟩ : ByteArray), false))))) else (some ((⟨#[]⟩ : ByteArray), false))) = some (r1, r2) := H
  have A3 := Aside0.mk A30
  clear A30
  by_cases c4 : t1027 = true
  · subst c4
    have H1 : ((impl_natOf.f k a0).bind fun t1028 => ((impl_prime_inv.f k t1024 t1028).bind fun bt1031 => (if bt1031.2 = true then ((impl_nat_text.f k bt1031.1).bind fun t1035 => (some (t1035, true))) else (some ((⟨#[]⟩ : ByteArray), false))))) = some (r1, r2) := by rw [if_pos rfl] at H; exact H
    clear H
    have H := H1
    clear H1
    replace H := Option.bind_eq_some_iff.mp H
    obtain ⟨t1028, A50, H⟩ := H
    have A5 := Aside0.mk A50
    clear A50
    replace H := Option.bind_eq_some_iff.mp H
    obtain ⟨⟨t1031, t1034⟩, A60, H⟩ := H
    replace H : (if t1034 = true then ((impl_nat_text.f k t1031).bind fun t1035 => (some (t1035, true))) else (some ((⟨#[]⟩ : ByteArray), false))) = some (r1, r2) := H
    have A6 := Aside0.mk A60
    clear A60
    by_cases c7 : t1034 = true
    · subst c7
      have H1 : ((impl_nat_text.f k t1031).bind fun t1035 => (some (t1035, true))) = some (r1, r2) := by rw [if_pos rfl] at H; exact H
      clear H
      have H := H1
      clear H1
      replace H := Option.bind_eq_some_iff.mp H
      obtain ⟨t1035, A80, H⟩ := H
      have A8 := Aside0.mk A80
      clear A80
      simp only [Option.some.injEq, Prod.mk.injEq] at H
      obtain ⟨rfl, rfl⟩ := H
      go_enter Try.func31, Try.ntmps31
      go_wp2_with (first | ((with_reducible refine gate_dst (N := 12) rfl ?_); refine Kd.R_lit Kd.string _ 9 ?hg (N := 12) ?hd (xs := ([a0] : List ByteArray)) (inner := [.string a0]) (ok := fun _ => True) (okp := fun _ => True) ?hr ?hp (fun _ hk => hk) trivial (Below.refl _ _) (Nat.le_refl _) (by simp) ?_; (case hd => rfl); (case hg => rfl); (case hr => first | (go_simp; done) | (go_simp; rfl)); (case hp => exact (Reps.one (show Kd.M Kd.string _ _ _ a0 [.string a0] from rfl) (Reps.none _ _))); intro v1022 w9 ho10 hb hg_ hnew_; clear hg_ hnew_; (first | rw [← Ny1021.out] at ho10 | (simp only [Int.reduceToNat] at ho10; rw [← Ny1021.out] at ho10)); have HO1023 := Aside0.mk (Kd.R_lower ho10 (below_size (pB_ HB.out))); replace HB := Aside0.mk (below_step (pB_ HB.out) hb); clear hb ho10; obtain ⟨Ao11, co11, eo11⟩ := Kd.R_slice HO1023.out; subst eo11) | ((with_reducible refine gate_callee (f := 38) rfl ?_); refine gL_ 13 Try.func38 rfl #[.string a1, .slice Ao11 y1021.length co11] ?_; (with_reducible refine (impl_modulus.calls k a1 _ _ y1021 t1024 true _ ?side1 ?side2 A3.out).mono ?_); (case side1 => exact pC_ (Kd.R_reads' HO1023.out).2.2); (case side2 => exact (Kd.R_reads' HO1023.out).2.1); rintro e w12 ⟨v1025, rfl, ho0, hb⟩; refine ⟨_, rfl, ?_⟩; have HO1026 := Aside0.mk (Kd.V_lower (Kd.V_mono (ok' := fun k_ => some k_ ≠ (.slice Ao11 y1021.length co11 : Value).ownBlock) ho0 (fun k_ hk_ => (Kd.fresh' (Kd.R_lt (pR_ HO1023.out)) k_ hk_))) (below_size (pB_ HB.out))); replace HO1023 := Aside0.mk (Kd.R_below (pR_ HO1023.out) hb); replace HB := Aside0.mk (below_step (pB_ HB.out) hb); clear hb ho0) | ((with_reducible refine gate_callee (f := 41) rfl ?_); refine gL_ 21 Try.func41 rfl #[.string a0] ?_; (with_reducible refine (impl_natOf.calls k a0 t1028 _ A5.out).mono ?_); rintro e w13 ⟨v1029, rfl, ho0, hb⟩; refine ⟨_, rfl, ?_⟩; replace HO1026 := Aside0.mk (Kd.V_below (pV_ HO1026.out) hb); have HO1030 := Aside0.mk (Kd.V_lower (Kd.V_mono (ok' := fun k_ => some k_ ≠ (.slice Ao11 y1021.length co11 : Value).ownBlock) ho0 (fun k_ hk_ => (Kd.fresh' (Kd.R_lt (pR_ HO1023.out)) k_ hk_))) (below_size (pB_ HB.out))); replace HO1023 := Aside0.mk (Kd.R_below (pR_ HO1023.out) hb); replace HB := Aside0.mk (below_step (pB_ HB.out) hb); clear hb ho0; obtain ⟨Ao14, co14, eo14⟩ := Kd.V_slice HO1026.out; subst eo14; obtain ⟨Ao15, co15, eo15⟩ := Kd.V_slice HO1030.out; subst eo15) | ((with_reducible refine gate_callee (f := 65) rfl ?_); refine gL_ 22 Try.func65 rfl #[.slice Ao14 t1024.length co14, .slice Ao15 t1028.length co15] ?_; (with_reducible refine (impl_prime_inv.calls k (fun k_ => some k_ ≠ (.slice Ao11 y1021.length co11 : Value).ownBlock) _ _ t1024 (fun k_ => some k_ ≠ (.slice Ao11 y1021.length co11 : Value).ownBlock) _ _ t1028 t1031 true _ ?side1 ?side2 A6.out).mono ?_); (case side1 => exact HO1026.out); (case side2 => exact HO1030.out); rintro e w16 ⟨v1032, rfl, ho0, hb⟩; refine ⟨_, rfl, ?_⟩; replace HO1026 := Aside0.mk (Kd.V_below (pV_ HO1026.out) hb); replace HO1030 := Aside0.mk (Kd.V_below (pV_ HO1030.out) hb); have HO1033 := Aside0.mk (Kd.V_lower (Kd.V_mono (ok' := fun k_ => some k_ ≠ (.slice Ao11 y1021.length co11 : Value).ownBlock) ho0 (fun k_ hk_ => Or.elim hk_ (fun hs_ => Or.elim hs_ (fun hs_ => hs_) (fun hs_ => hs_)) (fun hn_ => (Kd.fresh' (Kd.R_lt (pR_ HO1023.out)) k_ hn_)))) (below_size (pB_ HB.out))); replace HO1023 := Aside0.mk (Kd.R_below (pR_ HO1023.out) hb); replace HB := Aside0.mk (below_step (pB_ HB.out) hb); clear hb ho0; obtain ⟨Ao17, co17, eo17⟩ := Kd.V_slice HO1033.out; subst eo17) | ((with_reducible refine gate_callee (f := 42) rfl ?_); refine gL_ 28 Try.func42 rfl #[.slice Ao17 t1031.length co17] ?_; (with_reducible refine (impl_nat_text.calls k _ _ t1031 t1035 _ ?side1 ?side2 A8.out).mono ?_); (case side1 => exact pC_ (Kd.V_reads' HO1033.out).2.2); (case side2 => exact (Kd.V_reads' HO1033.out).2.1); rintro e w18 ⟨rfl, hb⟩; refine ⟨_, rfl, ?_⟩; replace HO1023 := Aside0.mk (Kd.R_below (pR_ HO1023.out) hb); replace HO1026 := Aside0.mk (Kd.V_below (pV_ HO1026.out) hb); replace HO1030 := Aside0.mk (Kd.V_below (pV_ HO1030.out) hb); replace HO1033 := Aside0.mk (Kd.V_below (pV_ HO1033.out) hb); replace HB := Aside0.mk (below_step (pB_ HB.out) hb); clear hb))
      go_ret2
      exact ⟨by first | rfl | (simp [errW_none, errW_some] <;> rfl) | (simp [*, errW_none, errW_some] <;> rfl), pB_ HB.out⟩
    · replace c7 := Bool.eq_false_iff.mpr c7
      subst c7
      have H1 : (some ((⟨#[]⟩ : ByteArray), false)) = some (r1, r2) := by rw [if_neg (show ¬ (false = true) by decide)] at H; exact H
      clear H
      have H := H1
      clear H1
      simp only [Option.some.injEq, Prod.mk.injEq] at H
      obtain ⟨rfl, rfl⟩ := H
      go_enter Try.func31, Try.ntmps31
      go_wp2_with (first | ((with_reducible refine gate_dst (N := 12) rfl ?_); refine Kd.R_lit Kd.string _ 9 ?hg (N := 12) ?hd (xs := ([a0] : List ByteArray)) (inner := [.string a0]) (ok := fun _ => True) (okp := fun _ => True) ?hr ?hp (fun _ hk => hk) trivial (Below.refl _ _) (Nat.le_refl _) (by simp) ?_; (case hd => rfl); (case hg => rfl); (case hr => first | (go_simp; done) | (go_simp; rfl)); (case hp => exact (Reps.one (show Kd.M Kd.string _ _ _ a0 [.string a0] from rfl) (Reps.none _ _))); intro v1022 w19 ho20 hb hg_ hnew_; clear hg_ hnew_; (first | rw [← Ny1021.out] at ho20 | (simp only [Int.reduceToNat] at ho20; rw [← Ny1021.out] at ho20)); have HO1023 := Aside0.mk (Kd.R_lower ho20 (below_size (pB_ HB.out))); replace HB := Aside0.mk (below_step (pB_ HB.out) hb); clear hb ho20; obtain ⟨Ao21, co21, eo21⟩ := Kd.R_slice HO1023.out; subst eo21) | ((with_reducible refine gate_callee (f := 38) rfl ?_); refine gL_ 13 Try.func38 rfl #[.string a1, .slice Ao21 y1021.length co21] ?_; (with_reducible refine (impl_modulus.calls k a1 _ _ y1021 t1024 true _ ?side1 ?side2 A3.out).mono ?_); (case side1 => exact pC_ (Kd.R_reads' HO1023.out).2.2); (case side2 => exact (Kd.R_reads' HO1023.out).2.1); rintro e w22 ⟨v1025, rfl, ho0, hb⟩; refine ⟨_, rfl, ?_⟩; have HO1026 := Aside0.mk (Kd.V_lower (Kd.V_mono (ok' := fun k_ => some k_ ≠ (.slice Ao21 y1021.length co21 : Value).ownBlock) ho0 (fun k_ hk_ => (Kd.fresh' (Kd.R_lt (pR_ HO1023.out)) k_ hk_))) (below_size (pB_ HB.out))); replace HO1023 := Aside0.mk (Kd.R_below (pR_ HO1023.out) hb); replace HB := Aside0.mk (below_step (pB_ HB.out) hb); clear hb ho0) | ((with_reducible refine gate_callee (f := 41) rfl ?_); refine gL_ 21 Try.func41 rfl #[.string a0] ?_; (with_reducible refine (impl_natOf.calls k a0 t1028 _ A5.out).mono ?_); rintro e w23 ⟨v1029, rfl, ho0, hb⟩; refine ⟨_, rfl, ?_⟩; replace HO1026 := Aside0.mk (Kd.V_below (pV_ HO1026.out) hb); have HO1030 := Aside0.mk (Kd.V_lower (Kd.V_mono (ok' := fun k_ => some k_ ≠ (.slice Ao21 y1021.length co21 : Value).ownBlock) ho0 (fun k_ hk_ => (Kd.fresh' (Kd.R_lt (pR_ HO1023.out)) k_ hk_))) (below_size (pB_ HB.out))); replace HO1023 := Aside0.mk (Kd.R_below (pR_ HO1023.out) hb); replace HB := Aside0.mk (below_step (pB_ HB.out) hb); clear hb ho0; obtain ⟨Ao24, co24, eo24⟩ := Kd.V_slice HO1026.out; subst eo24; obtain ⟨Ao25, co25, eo25⟩ := Kd.V_slice HO1030.out; subst eo25) | ((with_reducible refine gate_callee (f := 65) rfl ?_); refine gL_ 22 Try.func65 rfl #[.slice Ao24 t1024.length co24, .slice Ao25 t1028.length co25] ?_; (with_reducible refine (impl_prime_inv.calls k (fun k_ => some k_ ≠ (.slice Ao21 y1021.length co21 : Value).ownBlock) _ _ t1024 (fun k_ => some k_ ≠ (.slice Ao21 y1021.length co21 : Value).ownBlock) _ _ t1028 t1031 false _ ?side1 ?side2 A6.out).mono ?_); (case side1 => exact HO1026.out); (case side2 => exact HO1030.out); rintro e w26 ⟨v1032, rfl, ho0, hb⟩; refine ⟨_, rfl, ?_⟩; replace HO1026 := Aside0.mk (Kd.V_below (pV_ HO1026.out) hb); replace HO1030 := Aside0.mk (Kd.V_below (pV_ HO1030.out) hb); have HO1033 := Aside0.mk (Kd.V_lower (Kd.V_mono (ok' := fun k_ => some k_ ≠ (.slice Ao21 y1021.length co21 : Value).ownBlock) ho0 (fun k_ hk_ => Or.elim hk_ (fun hs_ => Or.elim hs_ (fun hs_ => hs_) (fun hs_ => hs_)) (fun hn_ => (Kd.fresh' (Kd.R_lt (pR_ HO1023.out)) k_ hn_)))) (below_size (pB_ HB.out))); replace HO1023 := Aside0.mk (Kd.R_below (pR_ HO1023.out) hb); replace HB := Aside0.mk (below_step (pB_ HB.out) hb); clear hb ho0))
      go_ret2
      exact ⟨by first | rfl | (simp [errW_none, errW_some] <;> rfl) | (simp [*, errW_none, errW_some] <;> rfl), pB_ HB.out⟩
  · replace c4 := Bool.eq_false_iff.mpr c4
    subst c4
    have H1 : (some ((⟨#[]⟩ : ByteArray), false)) = some (r1, r2) := by rw [if_neg (show ¬ (false = true) by decide)] at H; exact H
    clear H
    have H := H1
    clear H1
    simp only [Option.some.injEq, Prod.mk.injEq] at H
    obtain ⟨rfl, rfl⟩ := H
    go_enter Try.func31, Try.ntmps31
    go_wp2_with (first | ((with_reducible refine gate_dst (N := 12) rfl ?_); refine Kd.R_lit Kd.string _ 9 ?hg (N := 12) ?hd (xs := ([a0] : List ByteArray)) (inner := [.string a0]) (ok := fun _ => True) (okp := fun _ => True) ?hr ?hp (fun _ hk => hk) trivial (Below.refl _ _) (Nat.le_refl _) (by simp) ?_; (case hd => rfl); (case hg => rfl); (case hr => first | (go_simp; done) | (go_simp; rfl)); (case hp => exact (Reps.one (show Kd.M Kd.string _ _ _ a0 [.string a0] from rfl) (Reps.none _ _))); intro v1022 w27 ho28 hb hg_ hnew_; clear hg_ hnew_; (first | rw [← Ny1021.out] at ho28 | (simp only [Int.reduceToNat] at ho28; rw [← Ny1021.out] at ho28)); have HO1023 := Aside0.mk (Kd.R_lower ho28 (below_size (pB_ HB.out))); replace HB := Aside0.mk (below_step (pB_ HB.out) hb); clear hb ho28; obtain ⟨Ao29, co29, eo29⟩ := Kd.R_slice HO1023.out; subst eo29) | ((with_reducible refine gate_callee (f := 38) rfl ?_); refine gL_ 13 Try.func38 rfl #[.string a1, .slice Ao29 y1021.length co29] ?_; (with_reducible refine (impl_modulus.calls k a1 _ _ y1021 t1024 false _ ?side1 ?side2 A3.out).mono ?_); (case side1 => exact pC_ (Kd.R_reads' HO1023.out).2.2); (case side2 => exact (Kd.R_reads' HO1023.out).2.1); rintro e w30 ⟨v1025, rfl, ho0, hb⟩; refine ⟨_, rfl, ?_⟩; have HO1026 := Aside0.mk (Kd.V_lower (Kd.V_mono (ok' := fun k_ => some k_ ≠ (.slice Ao29 y1021.length co29 : Value).ownBlock) ho0 (fun k_ hk_ => (Kd.fresh' (Kd.R_lt (pR_ HO1023.out)) k_ hk_))) (below_size (pB_ HB.out))); replace HO1023 := Aside0.mk (Kd.R_below (pR_ HO1023.out) hb); replace HB := Aside0.mk (below_step (pB_ HB.out) hb); clear hb ho0))
    go_ret2
    exact ⟨by first | rfl | (simp [errW_none, errW_some] <;> rfl) | (simp [*, errW_none, errW_some] <;> rfl), pB_ HB.out⟩

/-! ### laws_FnExactInverseRest: function 11 -/
def laws_FnExactInverseRest.f (k : Nat) (a0 : ByteArray) (a1 : ByteArray) : Option (Bool) := if (a0.size : Int) > 1048576 then (some true) else (if (a1.size : Int) > 1048576 then (some true) else ((spec_InverseRest.f k a0 a1).bind fun bt1036 => ((impl_InverseRest.f k a0 a1).bind fun bt1038 => (if bt1038.1.toList = bt1036.1.toList then (if (bt1038.2 != bt1036.2) = true then (some false) else (some true)) else (some false)))))
set_option maxHeartbeats 8000000 in
set_option maxRecDepth 100000 in
theorem laws_FnExactInverseRest.calls (k : Nat) (a0 : ByteArray) (a1 : ByteArray) (r : Bool) (w : World) (h : laws_FnExactInverseRest.f k a0 a1 = some r) :
    Calls Try.prog 11 #[.string a0, .string a1] w fun e w' => e = .returned (.bool r) ∧ Below w.heap.size w w' := by
  have HB := Aside0.mk (Below.refl w.heap.size w)
  have H : (if (a0.size : Int) > 1048576 then (some true) else (if (a1.size : Int) > 1048576 then (some true) else ((spec_InverseRest.f k a0 a1).bind fun bt1036 => ((impl_InverseRest.f k a0 a1).bind fun bt1038 => (if bt1038.1.toList = bt1036.1.toList then (if (bt1038.2 != bt1036.2) = true then (some false) else (some true)) else (some false)))))) = some r := h
  clear h
  by_cases c3 : (a0.size : Int) > 1048576
  · rw [if_pos c3] at H
    have c3b0 : decide (1048576 < (a0.size : Int)) = true := decide_eq_true c3
    have c3b1 : decide (1048576 < a0.size) = true := decide_eq_true (by omega)
    clear c3
    obtain rfl := Option.some.inj H
    go_enter Try.func11, Try.ntmps11
    go_wp2
    go_ret
    exact ⟨by first | rfl | (simp [errW_none, errW_some] <;> rfl) | (simp [*, errW_none, errW_some] <;> rfl), pB_ HB.out⟩
  rw [if_neg c3] at H
  have c3b0 : decide (1048576 < (a0.size : Int)) = false := decide_eq_false c3
  have c3b1 : decide (1048576 < a0.size) = false := decide_eq_false (by omega)
  clear c3
  by_cases c4 : (a1.size : Int) > 1048576
  · rw [if_pos c4] at H
    have c4b0 : decide (1048576 < (a1.size : Int)) = true := decide_eq_true c4
    have c4b1 : decide (1048576 < a1.size) = true := decide_eq_true (by omega)
    clear c4
    obtain rfl := Option.some.inj H
    go_enter Try.func11, Try.ntmps11
    go_wp2
    go_ret
    exact ⟨by first | rfl | (simp [errW_none, errW_some] <;> rfl) | (simp [*, errW_none, errW_some] <;> rfl), pB_ HB.out⟩
  rw [if_neg c4] at H
  have c4b0 : decide (1048576 < (a1.size : Int)) = false := decide_eq_false c4
  have c4b1 : decide (1048576 < a1.size) = false := decide_eq_false (by omega)
  clear c4
  replace H := Option.bind_eq_some_iff.mp H
  obtain ⟨⟨t1036, t1037⟩, A50, H⟩ := H
  replace H : ((impl_InverseRest.f k a0 a1).bind fun bt1038 => (if bt1038.1.toList = t1036.toList then (if (bt1038.2 != t1037) = true then (some false) else (some true)) else (some false))) = some r := H
  have A5 := Aside0.mk A50
  clear A50
  replace H := Option.bind_eq_some_iff.mp H
  obtain ⟨⟨t1038, t1039⟩, A60, H⟩ := H
  replace H : (if t1038.toList = t1036.toList then (if (t1039 != t1037) = true then (some false) else (some true)) else (some false)) = some r := H
  have A6 := Aside0.mk A60
  clear A60
  by_cases c7 : t1038.toList = t1036.toList
  rotate_left
  · rw [if_neg c7] at H
    have c7b0 : (t1038.toList == t1036.toList) = false := beq_eq_false_iff_ne.mpr c7
    have c7b1 : (t1038.toList != t1036.toList) = true := bne_iff_ne.mpr c7
    obtain rfl := Option.some.inj H
    go_enter Try.func11, Try.ntmps11
    go_wp2_with (first | ((with_reducible refine gate_callee (f := 30) rfl ?_); refine gL_ 18 Try.func30 rfl #[.string a0, .string a1] ?_; (with_reducible refine (spec_InverseRest.calls k a0 a1 t1036 t1037 _ A5.out).mono ?_); rintro e w13 ⟨rfl, hb⟩; refine ⟨_, rfl, ?_⟩; replace HB := Aside0.mk (below_step (pB_ HB.out) hb); clear hb) | ((with_reducible refine gate_callee (f := 31) rfl ?_); refine gL_ 24 Try.func31 rfl #[.string a0, .string a1] ?_; (with_reducible refine (impl_InverseRest.calls k a0 a1 t1038 t1039 _ A6.out).mono ?_); rintro e w14 ⟨rfl, hb⟩; refine ⟨_, rfl, ?_⟩; replace HB := Aside0.mk (below_step (pB_ HB.out) hb); clear hb))
    go_ret
    exact ⟨by first | rfl | (simp [errW_none, errW_some] <;> rfl) | (simp [*, errW_none, errW_some] <;> rfl), pB_ HB.out⟩

  rw [if_pos c7] at H
  have c7b0 : (t1038.toList == t1036.toList) = true := beq_iff_eq.mpr c7
  have c7b1 : (t1038.toList != t1036.toList) = false := bne_eq_false_iff_eq.mpr c7
  clear c7
  by_cases c8 : (t1039 != t1037) = true
  rotate_left
  · rw [if_neg c8] at H
    have c8b0 : (t1039 != t1037) = false := by simpa using c8
    (try (have c8b1 : decide (t1039 = t1037) = true := by simpa using c8))
    (try (have c8b2 : (t1039 == t1037) = true := by simpa using c8))
    clear c8
    obtain rfl := Option.some.inj H
    go_enter Try.func11, Try.ntmps11
    go_wp2_with (first | ((with_reducible refine gate_callee (f := 30) rfl ?_); refine gL_ 18 Try.func30 rfl #[.string a0, .string a1] ?_; (with_reducible refine (spec_InverseRest.calls k a0 a1 t1036 t1037 _ A5.out).mono ?_); rintro e w11 ⟨rfl, hb⟩; refine ⟨_, rfl, ?_⟩; replace HB := Aside0.mk (below_step (pB_ HB.out) hb); clear hb) | ((with_reducible refine gate_callee (f := 31) rfl ?_); refine gL_ 24 Try.func31 rfl #[.string a0, .string a1] ?_; (with_reducible refine (impl_InverseRest.calls k a0 a1 t1038 t1039 _ A6.out).mono ?_); rintro e w12 ⟨rfl, hb⟩; refine ⟨_, rfl, ?_⟩; replace HB := Aside0.mk (below_step (pB_ HB.out) hb); clear hb))
    go_ret
    exact ⟨by first | rfl | (simp [errW_none, errW_some] <;> rfl) | (simp [*, errW_none, errW_some] <;> rfl), pB_ HB.out⟩
  rw [if_pos c8] at H
  have c8b0 : (t1039 != t1037) = true := c8
  (try (have c8b1 : decide (t1039 = t1037) = false := by simpa using c8))
  (try (have c8b2 : (t1039 == t1037) = false := by simpa using c8))
  (try (have c8b3 : ¬ (t1039 = t1037) := by simpa using c8))
  clear c8
  obtain rfl := Option.some.inj H
  go_enter Try.func11, Try.ntmps11
  go_wp2_with (first | ((with_reducible refine gate_callee (f := 30) rfl ?_); refine gL_ 18 Try.func30 rfl #[.string a0, .string a1] ?_; (with_reducible refine (spec_InverseRest.calls k a0 a1 t1036 t1037 _ A5.out).mono ?_); rintro e w9 ⟨rfl, hb⟩; refine ⟨_, rfl, ?_⟩; replace HB := Aside0.mk (below_step (pB_ HB.out) hb); clear hb) | ((with_reducible refine gate_callee (f := 31) rfl ?_); refine gL_ 24 Try.func31 rfl #[.string a0, .string a1] ?_; (with_reducible refine (impl_InverseRest.calls k a0 a1 t1038 t1039 _ A6.out).mono ?_); rintro e w10 ⟨rfl, hb⟩; refine ⟨_, rfl, ?_⟩; replace HB := Aside0.mk (below_step (pB_ HB.out) hb); clear hb))
  go_ret
  exact ⟨by first | rfl | (simp [errW_none, errW_some] <;> rfl) | (simp [*, errW_none, errW_some] <;> rfl), pB_ HB.out⟩
/-- THE ONE PURE STATEMENT of laws_FnExactInverseRest: yours. -/
def laws_FnExactInverseRest.Pure : Prop := ∀ (a0 : ByteArray) (a1 : ByteArray), a0.size ≤ 140737488351232 → a1.size ≤ 140737488351232 → ∃ k, laws_FnExactInverseRest.f k a0 a1 = some true
theorem laws_FnExactInverseRest.walk (P : laws_FnExactInverseRest.Pure) (a0 : ByteArray) (a1 : ByteArray) (w : World) (w0 : a0.size ≤ 140737488351232) (w1 : a1.size ≤ 140737488351232) :
    Calls Try.prog 11 #[.string a0, .string a1] w fun e w' => e = .returned (.bool true) ∧ Below w.heap.size w w' := by
  obtain ⟨k, h⟩ := P a0 a1 w0 w1
  refine (laws_FnExactInverseRest.calls k a0 a1 true w h).mono ?_
  rintro e w' ⟨rfl, hd⟩
  exact ⟨rfl, hd⟩

end Go.Proofs.Ytghhnjhjhjbljaa.F
