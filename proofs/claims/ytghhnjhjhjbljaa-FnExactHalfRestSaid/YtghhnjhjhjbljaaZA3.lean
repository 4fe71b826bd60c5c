-- Made for this seat by a program of this session (wip/fork, wip/slim.py). Lean checks it.
import Derived.Test.YtghhnjhjhjbljaaFx0
import Derived.Test.YtghhnjhjhjbljaaZA2
namespace Go.Proofs.Ytghhnjhjhjbljaa.F
open Go.RowKit Go.Proofs.YtghhnjhjhjbljaaW.PrintWords Go.Proofs.YtghhnjhjhjbljaaW.PrintLast Go.Proofs.YtghhnjhjhjbljaaW.PrintMore
attribute [local go_sem] max2_int min2_int max_two min_two max_three min_three max_four min_four   -- for this text's walks alone
set_option linter.unusedVariables false
set_option linter.unusedSimpArgs false

/-! ### impl_RestOk: function 71 -/
def impl_RestOk.f (k : Nat) (a0 : ByteArray) (a1 : ByteArray) : Option (Bool) := (impl_areGreat.f k (([a0, a1] : List ByteArray))).bind fun t315 => (if t315 = true then ((impl_natOf.f k a0).bind fun t316 => ((impl_natOf.f k a1).bind fun t319 => ((impl_nat_cmp.f k t316 t319).bind fun t322 => (some (decide (t322 < 0)))))) else (some false))
set_option maxHeartbeats 8000000 in
set_option maxRecDepth 100000 in
theorem impl_RestOk.calls (k : Nat) (a0 : ByteArray) (a1 : ByteArray) (r : Bool) (w : World) (h : impl_RestOk.f k a0 a1 = some r) :
    Calls Try.prog 71 #[.string a0, .string a1] w fun e w' => e = .returned (.bool r) ∧ Below w.heap.size w w' := by
  have HB := Aside0.mk (Below.refl w.heap.size w)
  have H : ((impl_areGreat.f k (([a0, a1] : List ByteArray))).bind fun t315 => (if t315 = true then ((impl_natOf.f k a0).bind fun t316 => ((impl_natOf.f k a1).bind fun t319 => ((impl_nat_cmp.f k t316 t319).bind fun t322 => (some (decide (t322 < 0)))))) else (some false))) = some r := h
  clear h
  obtain ⟨y312, hy312⟩ : ∃ y_ : List ByteArray, y_ = (([a0, a1] : List ByteArray)) := ⟨_, rfl⟩
  replace H : ((impl_areGreat.f k y312).bind fun t315 => (if t315 = true then ((impl_natOf.f k a0).bind fun t316 => ((impl_natOf.f k a1).bind fun t319 => ((impl_nat_cmp.f k t316 t319).bind fun t322 => (some (decide (t322 < 0)))))) else (some false))) = some r := by first | (rw [hy312]; with_reducible exact H) | (have H2_ := (Option.bind_some _ _).symm.trans H; rw [hy312]; with_reducible exact H2_) | (have H2_ := (Option.bind_some _ _).symm.trans H; with_reducible exact H2_) | with_reducible exact H | (rw [hy312]; exact H) | exact H
  have Ny312 := Aside0.mk hy312
  clear hy312
  replace H := Option.bind_eq_some_iff.mp H
  obtain ⟨t315, A30, H⟩ := H
  have A3 := Aside0.mk A30
  clear A30
  by_cases c4 : t315 = true
  · subst c4
    have H1 : ((impl_natOf.f k a0).bind fun t316 => ((impl_natOf.f k a1).bind fun t319 => ((impl_nat_cmp.f k t316 t319).bind fun t322 => (some (decide (t322 < 0)))))) = some r := by rw [if_pos rfl] at H; exact H
    clear H
    have H := H1
    clear H1
    replace H := Option.bind_eq_some_iff.mp H
    obtain ⟨t316, A50, H⟩ := H
    have A5 := Aside0.mk A50
    clear A50
    replace H := Option.bind_eq_some_iff.mp H
    obtain ⟨t319, A60, H⟩ := H
    have A6 := Aside0.mk A60
    clear A60
    replace H := Option.bind_eq_some_iff.mp H
    obtain ⟨t322, A70, H⟩ := H
    have A7 := Aside0.mk A70
    clear A70
    obtain rfl := Option.some.inj H
    go_enter Try.func71, Try.ntmps71
    go_wp2_with (first | ((with_reducible refine gate_dst (N := 7) rfl ?_); refine Kd.R_lit Kd.string _ 9 ?hg (N := 7) ?hd (xs := ([a0, a1] : List ByteArray)) (inner := [.string a0, .string a1]) (ok := fun _ => True) (okp := fun _ => True) ?hr ?hp (fun _ hk => hk) trivial (Below.refl _ _) (Nat.le_refl _) (by simp) ?_; (case hd => rfl); (case hg => rfl); (case hr => first | (go_simp; done) | (go_simp; rfl)); (case hp => exact (Reps.one (show Kd.M Kd.string _ _ _ a0 [.string a0] from rfl) (Reps.one (show Kd.M Kd.string _ _ _ a1 [.string a1] from rfl) (Reps.none _ _)))); intro v313 w8 ho9 hb hg_ hnew_; clear hg_ hnew_; (first | rw [← Ny312.out] at ho9 | (simp only [Int.reduceToNat] at ho9; rw [← Ny312.out] at ho9)); have HO314 := Aside0.mk (Kd.R_lower ho9 (below_size (pB_ HB.out))); replace HB := Aside0.mk (below_step (pB_ HB.out) hb); clear hb ho9; obtain ⟨Ao10, co10, eo10⟩ := Kd.R_slice HO314.out; subst eo10) | ((with_reducible refine gate_callee (f := 45) rfl ?_); refine gL_ 8 Try.func45 rfl #[.slice Ao10 y312.length co10] ?_; (with_reducible refine (impl_areGreat.calls k _ _ y312 true _ ?side1 ?side2 A3.out).mono ?_); (case side1 => exact pC_ (Kd.R_reads' HO314.out).2.2); (case side2 => exact (Kd.R_reads' HO314.out).2.1); rintro e w' ⟨rfl, ⟨nd, rfl⟩⟩; refine ⟨_, rfl, ?_⟩) | (go_at_call 41; (with_reducible refine (impl_natOf.calls k a0 t316 _ A5.out).mono ?_); rintro e w11 ⟨v317, rfl, ho0, hb⟩; have HO318 := Aside0.mk (Kd.V_lower (Kd.V_mono (ok' := fun k_ => some k_ ≠ (.slice Ao10 y312.length co10 : Value).ownBlock) ho0 (fun k_ hk_ => (Kd.fresh' (Kd.R_lt (pR_ HO314.out)) k_ hk_))) (below_size (pB_ HB.out))); replace HO314 := Aside0.mk (Kd.R_below (pR_ HO314.out) hb); replace HB := Aside0.mk (below_step (pB_ HB.out) hb); clear hb ho0) | (go_at_call 41; (with_reducible refine (impl_natOf.calls k a1 t319 _ A6.out).mono ?_); rintro e w12 ⟨v320, rfl, ho0, hb⟩; replace HO318 := Aside0.mk (Kd.V_below (pV_ HO318.out) hb); have HO321 := Aside0.mk (Kd.V_lower (Kd.V_mono (ok' := fun k_ => some k_ ≠ (.slice Ao10 y312.length co10 : Value).ownBlock) ho0 (fun k_ hk_ => (Kd.fresh' (Kd.R_lt (pR_ HO314.out)) k_ hk_))) (below_size (pB_ HB.out))); replace HO314 := Aside0.mk (Kd.R_below (pR_ HO314.out) hb); replace HB := Aside0.mk (below_step (pB_ HB.out) hb); clear hb ho0; obtain ⟨Ao13, co13, eo13⟩ := Kd.V_slice HO318.out; subst eo13; obtain ⟨Ao14, co14, eo14⟩ := Kd.V_slice HO321.out; subst eo14) | (go_at_call 69; (with_reducible refine (impl_nat_cmp.calls k _ _ t316 _ _ t319 t322 _ ?side1 ?side2 ?side3 ?side4 A7.out).mono ?_); (case side1 => exact pC_ (Kd.V_reads' HO318.out).2.2); (case side2 => exact (Kd.V_reads' HO318.out).2.1); (case side3 => exact pC_ (Kd.V_reads' HO321.out).2.2); (case side4 => exact (Kd.V_reads' HO321.out).2.1); rintro e w' ⟨rfl, ⟨nd, rfl⟩⟩))
    go_ret
    exact ⟨by first | rfl | (simp [errW_none, errW_some] <;> rfl) | (simp [*, errW_none, errW_some] <;> rfl), pB_ HB.out⟩
  · replace c4 := Bool.eq_false_iff.mpr c4
    subst c4
    have H1 : (some false) = some r := by rw [if_neg (show ¬ (false = true) by decide)] at H; exact H
    clear H
    have H := H1
    clear H1
    obtain rfl := Option.some.inj H
    go_enter Try.func71, Try.ntmps71
    go_wp2_with (first | ((with_reducible refine gate_dst (N := 7) rfl ?_); refine Kd.R_lit Kd.string _ 9 ?hg (N := 7) ?hd (xs := ([a0, a1] : List ByteArray)) (inner := [.string a0, .string a1]) (ok := fun _ => True) (okp := fun _ => True) ?hr ?hp (fun _ hk => hk) trivial (Below.refl _ _) (Nat.le_refl _) (by simp) ?_; (case hd => rfl); (case hg => rfl); (case hr => first | (go_simp; done) | (go_simp; rfl)); (case hp => exact (Reps.one (show Kd.M Kd.string _ _ _ a0 [.string a0] from rfl) (Reps.one (show Kd.M Kd.string _ _ _ a1 [.string a1] from rfl) (Reps.none _ _)))); intro v313 w15 ho16 hb hg_ hnew_; clear hg_ hnew_; (first | rw [← Ny312.out] at ho16 | (simp only [Int.reduceToNat] at ho16; rw [← Ny312.out] at ho16)); have HO314 := Aside0.mk (Kd.R_lower ho16 (below_size (pB_ HB.out))); replace HB := Aside0.mk (below_step (pB_ HB.out) hb); clear hb ho16; obtain ⟨Ao17, co17, eo17⟩ := Kd.R_slice HO314.out; subst eo17) | ((with_reducible refine gate_callee (f := 45) rfl ?_); refine gL_ 8 Try.func45 rfl #[.slice Ao17 y312.length co17] ?_; (with_reducible refine (impl_areGreat.calls k _ _ y312 false _ ?side1 ?side2 A3.out).mono ?_); (case side1 => exact pC_ (Kd.R_reads' HO314.out).2.2); (case side2 => exact (Kd.R_reads' HO314.out).2.1); rintro e w' ⟨rfl, ⟨nd, rfl⟩⟩; refine ⟨_, rfl, ?_⟩))
    go_ret
    exact ⟨by first | rfl | (simp [errW_none, errW_some] <;> rfl) | (simp [*, errW_none, errW_some] <;> rfl), pB_ HB.out⟩

/-! ### impl_modulus: function 38 -/
mutual
def impl_modulus.j0 : Nat → ByteArray → List ByteArray → List Int → Bool → Option (List Int × Bool)
  | 0, _, _, _, _ => none
  | k + 1, x0, x1, x6, x19 => if x19 = true then (some (([] : List Int), false)) else (impl_modulus.l0 k x0 x6 x1 (x1.length : Int) 0)
def impl_modulus.l0 : Nat → ByteArray → List Int → List ByteArray → Int → Int → Option (List Int × Bool)
  | 0, _, _, _, _, _ => none
  | k + 1, x0, x6, x20, x21, x22 => if x22 < x21 then (if 0 ≤ x22 then (if x22 < (x20.length : Int) then ((impl_RestOk.f k (rdOf ByteArray.empty x20 x22) x0).bind fun t332 => (if t332 = true then (impl_modulus.l0 k x0 x6 x20 x21 (wrap64 (x22 + 1))) else (some (([] : List Int), false)))) else (none)) else (none)) else (some (x6, true))
end
def impl_modulus.f (k : Nat) (a0 : ByteArray) (l1 : List ByteArray) : Option (List Int × Bool) := (impl_natOf.f k a0).bind fun t323 => ((impl_GreatOk.f a0).bind fun t326 => (if t326 = true then ((impl_small.f k 1).bind fun t327 => ((impl_nat_cmp.f k t323 t327).bind fun t330 => (impl_modulus.j0 k a0 l1 t323 (decide (t330 ≤ 0))))) else (impl_modulus.j0 k a0 l1 t323 true)))
set_option maxHeartbeats 8000000 in
set_option maxRecDepth 100000 in
theorem impl_modulus.calls (k : Nat) (a0 : ByteArray) (A1 : Option Addr) (c1 : Nat) (l1 : List ByteArray) (r1 : List Int) (r2 : Bool) (w : World) (hr1 : Kd.C Kd.string w A1 l1.length l1) (hc1 : l1.length ≤ c1) (h : impl_modulus.f k a0 l1 = some (r1, r2)) :
    Calls Try.prog 38 #[.string a0, .slice A1 l1.length c1] w fun e w' => ∃ v0_ : Value, e = .returned (.tuple #[v0_, .bool r2]) ∧ Kd.V (Kd.int .u64) 83 w' w.heap.size (fun k_ => (w.heap.size ≤ k_)) v0_ r1 ∧ Below w.heap.size w w' := by
  have HR1 := Aside0.mk hr1
  have HC1 := Aside0.mk hc1
  clear hr1 hc1
  have HB := Aside0.mk (Below.refl w.heap.size w)
  have H : ((impl_natOf.f k a0).bind fun t323 => ((impl_GreatOk.f a0).bind fun t326 => (if t326 = true then ((impl_small.f k 1).bind fun t327 => ((impl_nat_cmp.f k t323 t327).bind fun t330 => (impl_modulus.j0 k a0 l1 t323 (decide (t330 ≤ 0))))) else (impl_modulus.j0 k a0 l1 t323 true)))) = some (r1, r2) := h
  clear h
  replace H := Option.bind_eq_some_iff.mp H
  obtain ⟨t323, A30, H⟩ := H
  have A3 := Aside0.mk A30
  clear A30
  have HC4 := Aside0.mk H
  clear H
  go_enter Try.func38, Try.ntmps38
  go_upto_region 2 with (first | ((with_reducible refine gate_callee (f := 41) rfl ?_); refine gL_ 10 Try.func41 rfl #[.string a0] ?_; (with_reducible refine (impl_natOf.calls k a0 t323 _ A3.out).mono ?_); rintro e w5 ⟨v324, rfl, ho0, hb⟩; refine ⟨_, rfl, ?_⟩; have HO325 := Aside0.mk (Kd.V_lower (Kd.V_mono (ok' := fun k_ => (w.heap.size ≤ k_)) ho0 (fun k_ hk_ => (Nat.le_trans (below_size (pB_ HB.out)) hk_))) (below_size (pB_ HB.out))); replace HB := Aside0.mk (below_step (pB_ HB.out) hb); clear hb ho0))
  (try simp only [Act.put, List.setIfInBounds_toArray, List.set_cons_zero, List.set_cons_succ])
  go_cut [19] (fun v19 wc => ∃ (kq : Nat) (x19_3 : Bool), v19 = .bool x19_3 ∧ Aside0 (impl_modulus.j0 kq a0 l1 t323 x19_3 = some (r1, r2)) ∧ Aside0 (kq ≤ k) ∧ Aside0 (Kd.V (Kd.int .u64) 83 wc w.heap.size (fun k_ => (w.heap.size ≤ k_)) v324 t323) ∧ Aside0 (Below w.heap.size w wc))
  case first =>
    have H := HC4.out
    clear HC4
    replace H := Option.bind_eq_some_iff.mp H
    obtain ⟨t326, A60, H⟩ := H
    have A6 := Aside0.mk A60
    clear A60
    by_cases c7 : t326 = true
    · subst c7
      have H1 : ((impl_small.f k 1).bind fun t327 => ((impl_nat_cmp.f k t323 t327).bind fun t330 => (impl_modulus.j0 k a0 l1 t323 (decide (t330 ≤ 0))))) = some (r1, r2) := by rw [if_pos rfl] at H; exact H
      clear H
      have H := H1
      clear H1
      replace H := Option.bind_eq_some_iff.mp H
      obtain ⟨t327, A80, H⟩ := H
      have A8 := Aside0.mk A80
      clear A80
      replace H := Option.bind_eq_some_iff.mp H
      obtain ⟨t330, A90, H⟩ := H
      have A9 := Aside0.mk A90
      clear A90
      have H' := Aside0.mk H
      clear H
      go_wp2_with (first | ((with_reducible refine gate_callee (f := 47) rfl ?_); refine gL_ 12 Try.func47 rfl #[.string a0] ?_; (with_reducible refine (impl_GreatOk.calls a0 true _ A6.out).mono ?_); rintro e w' ⟨rfl, ⟨nd, rfl⟩⟩; refine ⟨_, rfl, ?_⟩) | (go_at_call 70; (with_reducible refine (impl_small.calls k 1 t327 _ A8.out).mono ?_); rintro e w10 ⟨v328, rfl, ho0, hb⟩; replace HO325 := Aside0.mk (Kd.V_below (pV_ HO325.out) hb); have HO329 := Aside0.mk (Kd.V_lower (Kd.V_mono (ok' := fun k_ => (w.heap.size ≤ k_)) ho0 (fun k_ hk_ => (Nat.le_trans (below_size (pB_ HB.out)) hk_))) (below_size (pB_ HB.out))); replace HB := Aside0.mk (below_step (pB_ HB.out) hb); clear hb ho0; obtain ⟨Ao11, co11, eo11⟩ := Kd.V_slice HO325.out; subst eo11; obtain ⟨Ao12, co12, eo12⟩ := Kd.V_slice HO329.out; subst eo12) | (go_at_call 69; (with_reducible refine (impl_nat_cmp.calls k _ _ t323 _ _ t327 t330 _ ?side1 ?side2 ?side3 ?side4 A9.out).mono ?_); (case side1 => exact pC_ (Kd.V_reads' HO325.out).2.2); (case side2 => exact (Kd.V_reads' HO325.out).2.1); (case side3 => exact pC_ (Kd.V_reads' HO329.out).2.2); (case side4 => exact (Kd.V_reads' HO329.out).2.1); rintro e w' ⟨rfl, ⟨nd, rfl⟩⟩))
      go_meet
      case rel => exact ⟨_, (decide (t330 ≤ 0)), (by first | rfl | (simp; done) | (simp [*]; done)), H', ⟨by first | omega | exact Nat.le_refl _⟩, ⟨by (with_reducible repeat (first | apply Kd.V_alloc | apply Kd.V_drewN | apply Kd.V_drew)); exact HO325.out⟩, ⟨pB_ HB.out⟩⟩
    · replace c7 := Bool.eq_false_iff.mpr c7
      subst c7
      have H1 : (impl_modulus.j0 k a0 l1 t323 true) = some (r1, r2) := by rw [if_neg (show ¬ (false = true) by decide)] at H; exact H
      clear H
      have H := H1
      clear H1
      have H' := Aside0.mk H
      clear H
      go_wp2_with (first | ((with_reducible refine gate_callee (f := 47) rfl ?_); refine gL_ 12 Try.func47 rfl #[.string a0] ?_; (with_reducible refine (impl_GreatOk.calls a0 false _ A6.out).mono ?_); rintro e w' ⟨rfl, ⟨nd, rfl⟩⟩; refine ⟨_, rfl, ?_⟩))
      go_meet
      case rel => exact ⟨_, (true), (by first | rfl | (simp; done) | (simp [*]; done)), H', ⟨by first | omega | exact Nat.le_refl _⟩, ⟨by (with_reducible repeat (first | apply Kd.V_alloc | apply Kd.V_drewN | apply Kd.V_drew)); exact HO325.out⟩, ⟨pB_ HB.out⟩⟩
  clear HC4
  try clear c1
  try clear p2
  try clear c3
  try clear c4
  try clear c7
  obtain ⟨kq, x19_3, rfl, HA, HJ3, HO_6, HB⟩ := hcut
  rcases kq with _ | kj3
  · exact absurd HA.out (by simp [impl_modulus.j0])
  have H := HA.out
  clear HA
  simp only [impl_modulus.j0] at H
  by_cases c13 : x19_3 = true
  · subst c13
    have H1 : (some (([] : List Int), false)) = some (r1, r2) := by rw [if_pos rfl] at H; exact H
    clear H
    have H := H1
    clear H1
    simp only [Option.some.injEq, Prod.mk.injEq] at H
    obtain ⟨rfl, rfl⟩ := H
    go_wp2
    go_ret2
    exact ⟨.slice none 0 0, by first | rfl | (simp [errW_none, errW_some] <;> rfl) | (simp [*, errW_none, errW_some] <;> rfl), Kd.V_nil _ _ _ _ _, pB_ HB.out⟩
  · replace c13 := Bool.eq_false_iff.mpr c13
    subst c13
    have H1 : (impl_modulus.l0 kj3 a0 t323 l1 (l1.length : Int) 0) = some (r1, r2) := by rw [if_neg (show ¬ (false = true) by decide)] at H; exact H
    clear H
    have H := H1
    clear H1
    have H' := Aside0.mk H
    clear H
    go_wp2
    go_loopg [22] kj3 (fun kq v22 w' => ∃ (x22_2 : Int), v22 = .int .i64 x22_2 ∧ Aside0 (impl_modulus.l0 kq a0 t323 l1 (l1.length : Int) x22_2 = some (r1, r2)) ∧ Aside0 (kq ≤ kj3) ∧ Aside0 (Kd.V (Kd.int .u64) 83 w' w.heap.size (fun k_ => (w.heap.size ≤ k_)) v324 t323) ∧ Aside0 (Below w.heap.size w w'))
    case atStart => exact ⟨(0), (by first | rfl | (simp; done) | (simp [*]; done)), H', ⟨Nat.le_refl _⟩, ⟨by (with_reducible repeat (first | apply Kd.V_alloc | apply Kd.V_drewN | apply Kd.V_drew)); exact HO_6.out⟩, ⟨pB_ HB.out⟩⟩
    clear H'
    try clear c1
    try clear p2
    try clear c3
    try clear c4
    try clear c7
    try clear c13
    try clear p2
    obtain ⟨x22_2, rfl, HA, HK2, HO_6, HB⟩ := hrel
    rcases gk with _ | k2
    · exact absurd HA.out (by simp [impl_modulus.l0])
    have H := HA.out
    clear HA
    simp only [impl_modulus.l0] at H
    by_cases c14 : x22_2 < (l1.length : Int)
    rotate_left
    · rw [if_neg c14] at H
      have c14b0 : decide (x22_2 < (l1.length : Int)) = false := decide_eq_false c14
      clear c14
      simp only [Option.some.injEq, Prod.mk.injEq] at H
      obtain ⟨rfl, rfl⟩ := H
      go_wp2
      go_ret2
      exact ⟨_, by first | rfl | (simp [errW_none, errW_some] <;> rfl) | (simp [*, errW_none, errW_some] <;> rfl), by (with_reducible repeat (first | apply Kd.V_alloc | apply Kd.V_drewN | apply Kd.V_drew)); exact HO_6.out, pB_ HB.out⟩

    rw [if_pos c14] at H
    have c14b0 : decide (x22_2 < (l1.length : Int)) = true := decide_eq_true c14
    clear c14
    by_cases c15 : 0 ≤ x22_2
    rotate_left
    · rw [if_neg c15] at H; exact absurd H (by simp)
    rw [if_pos c15] at H
    have c15b0 : decide (0 ≤ x22_2) = true := decide_eq_true c15
    clear c15
    by_cases c16 : x22_2 < (l1.length : Int)
    rotate_left
    · rw [if_neg c16] at H; exact absurd H (by simp)
    rw [if_pos c16] at H
    have c16b0 : decide (x22_2 < (l1.length : Int)) = true := decide_eq_true c16
    clear c16
    replace H := Option.bind_eq_some_iff.mp H
    obtain ⟨t332, A170, H⟩ := H
    have A17 := Aside0.mk A170
    clear A170
    by_cases c18 : t332 = true
    · subst c18
      have H1 : (impl_modulus.l0 k2 a0 t323 l1 (l1.length : Int) (wrap64 (x22_2 + 1))) = some (r1, r2) := by rw [if_pos rfl] at H; exact H
      clear H
      have H := H1
      clear H1
      have H' := Aside0.mk H
      clear H
      have p331 : 0 ≤ (x22_2 : Int) := od_
      have q331 : x22_2 < (l1.length : Int) := od_
      obtain ⟨ad331, e331, hx331_0⟩ := Kd.at_string HR1.out x22_2 p331 q331
      cases e331
      replace hx331_0 := (HB.out.cell (World.block_lt_of_cell? w _ hx331_0)).trans hx331_0
      replace p331 := eq_true p331
      replace q331 := eq_true q331
      go_wp2_with (first | ((with_reducible refine gate_callee (f := 71) rfl ?_); refine gL_ 28 Try.func71 rfl #[.string (rdOf ByteArray.empty l1 x22_2), .string a0] ?_; (with_reducible refine (impl_RestOk.calls k2 (rdOf ByteArray.empty l1 x22_2) a0 true _ A17.out).mono ?_); rintro e w19 ⟨rfl, hb⟩; refine ⟨_, rfl, ?_⟩; replace HO_6 := Aside0.mk (Kd.V_below (pV_ HO_6.out) hb); replace HB := Aside0.mk (below_step (pB_ HB.out) hb); clear hb))
      go_roundg k2
      case measure => have := HJ3.out; have := HK2.out; omega
      case rel => exact ⟨(wrap64 (x22_2 + 1)), (by first | rfl | (simp; done) | (simp [*]; done)), H', ⟨by have := HJ3.out; have := HK2.out; omega⟩, ⟨by (with_reducible repeat (first | apply Kd.V_alloc | apply Kd.V_drewN | apply Kd.V_drew)); exact HO_6.out⟩, ⟨pB_ HB.out⟩⟩
    · replace c18 := Bool.eq_false_iff.mpr c18
      subst c18
      have H1 : (some (([] : List Int), false)) = some (r1, r2) := by rw [if_neg (show ¬ (false = true) by decide)] at H; exact H
      clear H
      have H := H1
      clear H1
      simp only [Option.some.injEq, Prod.mk.injEq] at H
      obtain ⟨rfl, rfl⟩ := H
      have p331 : 0 ≤ (x22_2 : Int) := od_
      have q331 : x22_2 < (l1.length : Int) := od_
      obtain ⟨ad331, e331, hx331_0⟩ := Kd.at_string HR1.out x22_2 p331 q331
      cases e331
      replace hx331_0 := (HB.out.cell (World.block_lt_of_cell? w _ hx331_0)).trans hx331_0
      replace p331 := eq_true p331
      replace q331 := eq_true q331
      go_wp2_with (first | ((with_reducible refine gate_callee (f := 71) rfl ?_); refine gL_ 28 Try.func71 rfl #[.string (rdOf ByteArray.empty l1 x22_2), .string a0] ?_; (with_reducible refine (impl_RestOk.calls k2 (rdOf ByteArray.empty l1 x22_2) a0 false _ A17.out).mono ?_); rintro e w20 ⟨rfl, hb⟩; refine ⟨_, rfl, ?_⟩; replace HO_6 := Aside0.mk (Kd.V_below (pV_ HO_6.out) hb); replace HB := Aside0.mk (below_step (pB_ HB.out) hb); clear hb))
      go_ret2
      exact ⟨.slice none 0 0, by first | rfl | (simp [errW_none, errW_some] <;> rfl) | (simp [*, errW_none, errW_some] <;> rfl), Kd.V_nil _ _ _ _ _, pB_ HB.out⟩

/-! ### impl_nat_bit: function 72 -/
def impl_nat_bit.f (l0 : List Int) (a1 : Int) : Option (Int) := if a1 < 0 then (some 0) else (if a1 ≥ (wrap64 (64 * (l0.length : Int))) then (some 0) else (if 0 ≤ (wrap64 (Int.tdiv a1 64)) then (if (wrap64 (Int.tdiv a1 64)) < (l0.length : Int) then (if 0 ≤ (Int.tmod a1 64) then (some (Go.bits .and .u64 (shr .u64 (rd l0 (wrap64 (Int.tdiv a1 64))) (Int.tmod a1 64)) 1)) else (none)) else (none)) else (none)))
set_option maxHeartbeats 8000000 in
set_option maxRecDepth 100000 in
theorem impl_nat_bit.calls (A0 : Option Addr) (c0 : Nat) (l0 : List Int) (a1 : Int) (r : Int) (w : World) (hr0 : Kd.C (Kd.int .u64) w A0 l0.length l0) (hc0 : l0.length ≤ c0) (h : impl_nat_bit.f l0 a1 = some r) :
    Calls Try.prog 72 #[.slice A0 l0.length c0, .int .i64 a1] w fun e w' => e = .returned (.int .u64 r) ∧ Drawn0 w w' := by
  have HR0 := Aside0.mk hr0
  have HC0 := Aside0.mk hc0
  clear hr0 hc0
  have H : (if a1 < 0 then (some 0) else (if a1 ≥ (wrap64 (64 * (l0.length : Int))) then (some 0) else (if 0 ≤ (wrap64 (Int.tdiv a1 64)) then (if (wrap64 (Int.tdiv a1 64)) < (l0.length : Int) then (if 0 ≤ (Int.tmod a1 64) then (some (Go.bits .and .u64 (shr .u64 (rd l0 (wrap64 (Int.tdiv a1 64))) (Int.tmod a1 64)) 1)) else (none)) else (none)) else (none)))) = some r := h
  clear h
  by_cases c3 : a1 < 0
  · rw [if_pos c3] at H
    have c3b0 : decide (a1 < 0) = true := decide_eq_true c3
    clear c3
    obtain rfl := Option.some.inj H
    go_enter Try.func72, Try.ntmps72
    go_wp2
    go_ret
    exact ⟨by first | rfl | (simp; done) | (simp [*]; done), by repeat (first | exact Drawn0.refl _ | apply Drawn0.step)⟩
  rw [if_neg c3] at H
  have c3b0 : decide (a1 < 0) = false := decide_eq_false c3
  clear c3
  by_cases c4 : a1 ≥ (wrap64 (64 * (l0.length : Int)))
  · rw [if_pos c4] at H
    have c4b0 : decide ((wrap64 (64 * (l0.length : Int))) ≤ a1) = true := decide_eq_true c4
    clear c4
    obtain rfl := Option.some.inj H
    go_enter Try.func72, Try.ntmps72
    go_wp2
    go_ret
    exact ⟨by first | rfl | (simp; done) | (simp [*]; done), by repeat (first | exact Drawn0.refl _ | apply Drawn0.step)⟩
  rw [if_neg c4] at H
  have c4b0 : decide ((wrap64 (64 * (l0.length : Int))) ≤ a1) = false := decide_eq_false c4
  clear c4
  obtain ⟨ji5, hji5⟩ : ∃ j_ : Int, (wrap64 (Int.tdiv a1 64)) = j_ := ⟨_, rfl⟩
  first | rw [hji5] at H | simp only [hji5] at H | skip
  have hji5w : (IntKind.i64.wrap (Int.tdiv a1 64)) = ji5 := (i64_w _).trans hji5
  by_cases c6 : 0 ≤ (ji5)
  rotate_left
  · rw [if_neg c6] at H
    exact absurd H (by simp)

  rw [if_pos c6] at H
  have c6b0 : decide (0 ≤ (ji5)) = true := decide_eq_true c6
  clear c6
  by_cases c7 : (ji5) < (l0.length : Int)
  rotate_left
  · rw [if_neg c7] at H; exact absurd H (by simp)
  rw [if_pos c7] at H
  have c7b0 : decide ((ji5) < (l0.length : Int)) = true := decide_eq_true c7
  clear c7
  obtain ⟨ji8, hji8⟩ : ∃ j_ : Int, (Int.tmod a1 64) = j_ := ⟨_, rfl⟩
  first | rw [hji8] at H | simp only [hji8] at H | skip
  by_cases c9 : 0 ≤ (ji8)
  rotate_left
  · rw [if_neg c9] at H; exact absurd H (by simp)
  rw [if_pos c9] at H
  have c9b0 := eq_true c9
  have c9b1 : decide (0 ≤ (ji8)) = true := decide_eq_true c9
  clear c9
  obtain ⟨ji10, hji10⟩ : ∃ j_ : Int, (shr .u64 (rd l0 (ji5)) (ji8)) = j_ := ⟨_, rfl⟩
  first | rw [hji10] at H | simp only [hji10] at H | skip
  have hji10_ : ((rd l0 (ji5)) / 2 ^ min (ji8).toNat 64) = ji10 := hji10
  have hji10z : (ji8) ≤ 64 → ((rd l0 (ji5)) / 2 ^ (ji8).toNat) = ji10 := shr_small hji10
  obtain rfl := Option.some.inj H
  have p333 : 0 ≤ ((ji5) : Int) := od_
  have q333 : (ji5) < (l0.length : Int) := od_
  obtain ⟨ad333, e333, hx333_0⟩ := Kd.at_int HR0.out (ji5) p333 q333
  cases e333
  replace p333 := eq_true p333
  replace q333 := eq_true q333
  go_enter Try.func72, Try.ntmps72
  go_wp2
  go_ret
  exact ⟨by first | rfl | (simp; done) | (simp only [← hji5, ← hji8, ← hji10] <;> (first | rfl | simp)) | (simp [*]; done), by repeat (first | exact Drawn0.refl _ | apply Drawn0.step)⟩

/-! ### impl_nat_even: function 39 -/
def impl_nat_even.f (l0 : List Int) : Option (Bool) := (impl_nat_bit.f l0 0).bind fun t334 => (some (t334 == 0))
set_option maxHeartbeats 8000000 in
set_option maxRecDepth 100000 in
theorem impl_nat_even.calls (A0 : Option Addr) (c0 : Nat) (l0 : List Int) (r : Bool) (w : World) (hr0 : Kd.C (Kd.int .u64) w A0 l0.length l0) (hc0 : l0.length ≤ c0) (h : impl_nat_even.f l0 = some r) :
    Calls Try.prog 39 #[.slice A0 l0.length c0] w fun e w' => e = .returned (.bool r) ∧ Drawn0 w w' := by
  have HR0 := Aside0.mk hr0
  have HC0 := Aside0.mk hc0
  clear hr0 hc0
  have H : ((impl_nat_bit.f l0 0).bind fun t334 => (some (t334 == 0))) = some r := h
  clear h
  replace H := Option.bind_eq_some_iff.mp H
  obtain ⟨t334, A20, H⟩ := H
  have A2 := Aside0.mk A20
  clear A20
  obtain rfl := Option.some.inj H
  go_enter Try.func39, Try.ntmps39
  go_wp2_with (first | ((with_reducible refine gate_callee (f := 72) rfl ?_); refine gL_ 4 Try.func72 rfl #[.slice A0 l0.length c0, .int .i64 0] ?_; (with_reducible refine (impl_nat_bit.calls _ _ l0 0 t334 _ ?side1 ?side2 A2.out).mono ?_); (case side1 => exact pC_ HR0.out); (case side2 => exact HC0.out); rintro e w' ⟨rfl, ⟨nd, rfl⟩⟩; refine ⟨_, rfl, ?_⟩))
  go_ret
  exact ⟨by first | rfl | (simp; done) | (simp [*]; done), by repeat (first | exact Drawn0.refl _ | apply Drawn0.step)⟩

/-! ### impl_nat_uint64: function 97 (told by hand) -/
def impl_nat_uint64.f (l0 : List Int) : Option (List Int) := if l0.length < 17592186044416 then (some l0) else (none)
set_option maxHeartbeats 8000000 in
set_option maxRecDepth 100000 in
theorem impl_nat_uint64.calls (A0 : Option Addr) (c0 : Nat) (l0 : List Int) (r : List Int) (w : World) (hr0 : Kd.C (Kd.int .u64) w A0 l0.length l0) (hc0 : l0.length ≤ c0) (h : impl_nat_uint64.f l0 = some r) :
    Calls Try.prog 97 #[.slice A0 l0.length c0] w fun e w' => ∃ v0_ : Value, e = .returned (v0_) ∧ Kd.R (Kd.int .u64) 83 w' w.heap.size (fun _ => True) v0_ r ∧ Below w.heap.size w w' := by
  unfold impl_nat_uint64.f at h
  by_cases c5 : l0.length < 17592186044416
  · rw [if_pos c5] at h
    obtain rfl := Option.some.inj h
    clear h
    have LMc5 := Aside0.mk c5
    clear c5
    have q : ∀ (w : World) (a : Option Addr) (n c n' c' : Nat), (binOp .eql 48 (.slice a n c) (.slice none n' c')).run Try.prog w = .ok (.bool a.isNone) w := fun w a n c n' c' => Lib.run_eql_slice_nil w _ _ a n c n' c' Try.underlying48
    cases A0 with
    | none =>
      have h0 : l0 = [] := by
        rcases Nat.eq_zero_or_pos l0.length with h | h
        · exact List.eq_nil_of_length_eq_zero h
        · obtain ⟨ad, e, _⟩ := hr0.2.2 h
          cases e
      subst h0
      clear hr0 LMc5
      go_enter Try.func97, Try.ntmps97
      go_wp2
      go_ret
      exact ⟨_, rfl, Kd.R_nil _ _ _ _ _, Below.refl _ _⟩
    | some ad0 =>
      have HR0 := Aside0.mk hr0
      clear hr0
      have HB := Aside0.mk (Below.refl w.heap.size w)
      obtain ⟨y153, hy153⟩ : ∃ y_ : List Int, y_ = (([] : List Int)) := ⟨_, rfl⟩
      have Ny153 := Aside0.mk hy153
      clear hy153
      obtain ⟨y156, hy156⟩ : ∃ y_ : List Int, y_ = (y153 ++ l0) := ⟨_, rfl⟩
      have Ny156 := Aside0.mk hy156
      clear hy156
      have HE := Aside0.mk (show y156 = l0 by rw [Ny156.out, Ny153.out]; rfl)
      go_enter Try.func97, Try.ntmps97
      go_wp2_with (first | ((with_reducible refine gate_dst (N := 5) rfl ?_); refine Kd.R_lit (Kd.int .u64) _ 83 ?hg (N := 5) ?hd (xs := ([] : List Int)) (inner := []) (ok := fun _ => True) (okp := fun _ => True) ?hr ?hp (fun _ hk => hk) trivial (Below.refl _ _) (Nat.le_refl _) (by simp) ?_; (case hd => rfl); (case hg => rfl); (case hr => first | (go_simp; done) | (go_simp; rfl)); (case hp => exact (Reps.none _ _)); intro v154 w8 ho9 hb hg_ hnew_; clear hg_ hnew_; (first | rw [← Ny153.out] at ho9 | (simp only [Int.reduceToNat] at ho9; rw [← Ny153.out] at ho9)); have n1_ := Aside0.mk (Kd.R_lower ho9 (below_size (by repeat (first | (with_reducible first | exact HB.out | apply below_alloc | apply pw_below_drewN | apply below_drew1) | exact HB.out)))); have n2_ := Aside0.mk (below_step (by repeat (first | (with_reducible first | exact HB.out | apply below_alloc | apply pw_below_drewN | apply below_drew1) | exact HB.out)) hb); clear HB; have HO155 := n1_; have HB := n2_; clear n1_ n2_; clear hb ho9) | ((with_reducible refine gate_builtin (b := .append) (xs := #[.tmp 5, .tmp 6]) rfl ?_); at_builtin; refine Kd.R_append_rows (Kd.int .u64) (w0 := w) w.heap.size rfl (.tmp 5) (.tmp 6) 48 83 (.int .u64 0) 8 rfl Try.underlying48 info83 rfl (by decide) (by omega) v154 y153 l0 _ _ _ (fun _ => True) (fun _ => False) rfl rfl ?aO ?aR (fun _ _ h => h) (fun _ h => h.elim) ?aF ?aB ?aS ?aL ?_; (case aR => repeat (first | exact (Kd.C_below HR0.out HB.out) | (with_reducible refine Kd.C_alloc ?_ _) | (with_reducible refine Kd.C_drewN ?_ _) | (with_reducible refine Kd.C_drew ?_))); (case aB => exact (by repeat (first | (with_reducible first | exact HB.out | apply below_alloc | apply pw_below_drewN | apply below_drew1) | exact HB.out))); (case aF => exact (fun _ _ => trivial)); (case aO => exact (by (with_reducible repeat (first | apply Kd.R_alloc | apply Kd.R_drewN | apply Kd.R_drew)); exact HO155.out)); (case aS => exact (below_size (by repeat (first | (with_reducible first | exact HB.out | apply below_alloc | apply pw_below_drewN | apply below_drew1) | exact HB.out)))); (case aL => have := LMc5.out; rw [Ny153.out]; simp; omega); intro v157 w10 ho hb hg hat; rw [← Ny156.out] at ho; have n1_ := Aside0.mk (hb); have n2_ := Aside0.mk (ho); clear HB; clear HO155; have HB := n1_; have HO158 := n2_; clear n1_ n2_; clear ho hb hg hat))
      go_ret
      refine ⟨_, rfl, ?_, ?_⟩
      · rw [← HE.out]
        (with_reducible repeat (first | apply Kd.R_alloc | apply Kd.R_drewN | apply Kd.R_drew))
        exact HO158.out
      · repeat (first | (with_reducible first | exact HB.out | apply below_alloc | apply pw_below_drewN | apply below_drew1) | exact HB.out)
  · rw [if_neg c5] at h
    exact absurd h (by simp)

/-! ### impl_nat_down: function 85 -/
def impl_nat_down.l0 : Nat → List Int → Int → List Int → Int → Int → Option (List Int)
  | 0, _, _, _, _, _ => none
  | k + 1, x0, x1, x5, x10, x11 => if x11 < x10 then (if 0 ≤ x11 then (if x11 < (x5.length : Int) then (if 0 ≤ x1 then ((some (x5.set (x11 : Int).toNat (shr .u64 (rd x5 x11) x1) : List Int)).bind fun y339 => (if (wrap64 (x11 + 1)) < (x0.length : Int) then (if 0 ≤ (wrap64 (x11 + 1)) then (if 0 ≤ (wrap64 (64 - x1)) then (impl_nat_down.l0 k x0 x1 (y339.set (x11 : Int).toNat (Go.bits .or .u64 (rd y339 x11) (shl .u64 (rd x0 (wrap64 (x11 + 1))) (wrap64 (64 - x1))))) x10 (wrap64 (x11 + 1))) else (none)) else (none)) else (impl_nat_down.l0 k x0 x1 y339 x10 (wrap64 (x11 + 1))))) else (none)) else (none)) else (none)) else ((impl_nat_trim.f k x5).bind fun t343 => (some t343))
def impl_nat_down.f (k : Nat) (l0 : List Int) (a1 : Int) : Option (List Int) := (impl_nat_uint64.f l0).bind fun t335 => (impl_nat_down.l0 k l0 a1 t335 (t335.length : Int) 0)
def impl_nat_down.T7 : Bool × List (List Nat × List Nat) := (true, [([], []), ([], []), ([0, 1], [0, 1]), ([2], [2]), ([], []), ([], []), ([5], [5]), ([4, 6], [4, 6]), ([7], [7]), ([], []), ([9], [9]), ([8, 10], [8, 10]), ([3, 11], [3, 11]), ([0, 1, 0, 1, 2, 3, 4, 5, 6, 7, 8, 9, 10, 11, 12], [0, 1]), ([13, 12, 0, 1, 2, 3, 4, 5, 6, 7, 8, 9, 10, 11, 12], [12, 13])])
def impl_nat_down.B7 : List Nat := [0, 0, 3, 7, 0, 0, 32, 112, 240, 0, 512, 2032, 4095, 8191, 16383]
theorem impl_nat_down.tab7 : rtab .any (opsOf Try.f85 7) = impl_nat_down.T7 := by kernel_rfl
theorem impl_nat_down.bits7 : waitsOk impl_nat_down.T7.2 impl_nat_down.B7 = true := by kernel_rfl
set_option maxHeartbeats 8000000 in
set_option maxRecDepth 100000 in
theorem impl_nat_down.calls (k : Nat) (A0 : Option Addr) (c0 : Nat) (l0 : List Int) (a1 : Int) (r : List Int) (w : World) (hr0 : Kd.C (Kd.int .u64) w A0 l0.length l0) (hc0 : l0.length ≤ c0) (h : impl_nat_down.f k l0 a1 = some r) :
    Calls Try.prog 85 #[.slice A0 l0.length c0, .int .i64 a1] w fun e w' => ∃ v0_ : Value, e = .returned (v0_) ∧ Kd.V (Kd.int .u64) 83 w' w.heap.size (fun k_ => (w.heap.size ≤ k_)) v0_ r ∧ Below w.heap.size w w' := by
  have HR0 := Aside0.mk hr0
  have HC0 := Aside0.mk hc0
  clear hr0 hc0
  have HB := Aside0.mk (Below.refl w.heap.size w)
  have H : ((impl_nat_uint64.f l0).bind fun t335 => (impl_nat_down.l0 k l0 a1 t335 (t335.length : Int) 0)) = some r := h
  clear h
  replace H := Option.bind_eq_some_iff.mp H
  obtain ⟨t335, A30, H⟩ := H
  have A3 := Aside0.mk A30
  clear A30
  have H' := Aside0.mk H
  clear H
  go_enter Try.func85, Try.ntmps85
  go_wp2_with (first | ((with_reducible refine gate_callee (f := 97) rfl ?_); refine gL_ 8 Try.func97 rfl #[.slice A0 l0.length c0] ?_; (with_reducible refine (impl_nat_uint64.calls _ _ l0 t335 _ ?side1 ?side2 A3.out).mono ?_); (case side1 => exact pC_ HR0.out); (case side2 => exact HC0.out); rintro e w4 ⟨v336, rfl, ho0, hb⟩; refine ⟨_, rfl, ?_⟩; have HO337 := Aside0.mk (Kd.R_lower (Kd.R_newM (M := fun k_ => (w.heap.size ≤ k_)) ho0 (below_size (pB_ HB.out)) (fun k_ h_ => h_)) (below_size (pB_ HB.out))); replace HB := Aside0.mk (below_step (pB_ HB.out) hb); clear hb ho0; obtain ⟨Ao5, co5, eo5⟩ := Kd.R_slice HO337.out; subst eo5))
  repeat (rw [addr_self]; generalize Addr.add _ _ = az_)
  go_loopg [11] k (fun kq v11 w' => ∃ (x5_1 : List Int) (x11_1 : Int), v11 = .int .i64 x11_1 ∧ Aside0 (impl_nat_down.l0 kq l0 a1 x5_1 (t335.length : Int) x11_1 = some r) ∧ Aside0 (kq ≤ k) ∧ Aside0 (Kd.R (Kd.int .u64) 83 w' w.heap.size (fun k_ => (w.heap.size ≤ k_)) (.slice Ao5 t335.length co5) x5_1) ∧ Aside0 (Below w.heap.size w w'))
  case atStart => exact ⟨(t335), (0), (by first | rfl | (simp; done) | (simp [*]; done)), H', ⟨Nat.le_refl _⟩, ⟨by (with_reducible repeat (first | apply Kd.R_alloc | apply Kd.R_drewN | apply Kd.R_drew)); exact Kd.R_mono HO337.out (fun _ hk => hk.1)⟩, ⟨pB_ HB.out⟩⟩
  clear H'
  try clear p2
  obtain ⟨x5_1, x11_1, rfl, HA, HK1, HO_5, HB⟩ := hrel
  have hl5_1 := (Kd.R_reads' HO_5.out).1
  rw [hl5_1] at HO_5
  (try simp only [hl5_1])
  rcases gk with _ | k1
  · exact absurd HA.out (by simp [impl_nat_down.l0])
  have H := HA.out
  clear HA
  simp only [impl_nat_down.l0] at H
  by_cases c6 : x11_1 < (t335.length : Int)
  rotate_left
  · rw [if_neg c6] at H
    have c6b0 : decide (x11_1 < (t335.length : Int)) = false := decide_eq_false c6
    (try (have c6x0 := c6b0; simp only [hl5_1] at c6x0))
    clear c6
    replace H := Option.bind_eq_some_iff.mp H
    obtain ⟨t343, A250, H⟩ := H
    have A25 := Aside0.mk A250
    clear A250
    obtain rfl := Option.some.inj H
    go_wp2_with (first | ((with_reducible refine gate_callee (f := 75) rfl ?_); refine gL_ 42 Try.func75 rfl #[.slice Ao5 x5_1.length co5] ?_; (with_reducible refine (impl_nat_trim.calls k1 (fun k_ => some k_ = (.slice Ao5 x5_1.length co5 : Value).ownBlock) _ _ x5_1 t343 _ ?side1 A25.out).mono ?_); (case side1 => exact Kd.R_V (Kd.R_tight rfl (HO_5.out))); rintro e w26 ⟨v344, rfl, ho0, hb⟩; refine ⟨_, rfl, ?_⟩; have HO345 := Aside0.mk (Kd.V_lower (Kd.V_mono (ok' := fun k_ => (w.heap.size ≤ k_)) ho0 (fun k_ hk_ => Or.elim hk_ (fun hs_ => ((HO_5.out).1 k_ hs_.symm)) (fun hn_ => (Nat.le_trans (below_size (pB_ HB.out)) hn_)))) (below_size (pB_ HB.out))); replace HO_5 := Aside0.mk (Kd.R_below (pR_ HO_5.out) hb); replace HB := Aside0.mk (below_step (pB_ HB.out) hb); clear hb ho0))
    go_ret
    exact ⟨_, by first | rfl | (simp [errW_none, errW_some] <;> rfl) | (simp [*, errW_none, errW_some] <;> rfl), by (with_reducible repeat (first | apply Kd.V_alloc | apply Kd.V_drewN | apply Kd.V_drew)); exact HO345.out, pB_ HB.out⟩

  rw [if_pos c6] at H
  have c6b0 : decide (x11_1 < (t335.length : Int)) = true := decide_eq_true c6
  (try (have c6x0 := c6b0; simp only [hl5_1] at c6x0))
  clear c6
  by_cases c7 : 0 ≤ x11_1
  rotate_left
  · rw [if_neg c7] at H; exact absurd H (by simp)
  rw [if_pos c7] at H
  have c7b0 : decide (0 ≤ x11_1) = true := decide_eq_true c7
  clear c7
  by_cases c8 : x11_1 < (x5_1.length : Int)
  rotate_left
  · rw [if_neg c8] at H; exact absurd H (by simp)
  rw [if_pos c8] at H
  have c8b0 : decide (x11_1 < (x5_1.length : Int)) = true := decide_eq_true c8
  (try (have c8x0 := c8b0; simp only [hl5_1] at c8x0))
  clear c8
  by_cases c9 : 0 ≤ a1
  rotate_left
  · rw [if_neg c9] at H; exact absurd H (by simp)
  rw [if_pos c9] at H
  have c9b0 := eq_true c9
  have c9b1 : decide (0 ≤ a1) = true := decide_eq_true c9
  clear c9
  obtain ⟨ji10, hji10⟩ : ∃ j_ : Int, (shr .u64 (rd x5_1 x11_1) a1) = j_ := ⟨_, rfl⟩
  first | rw [hji10] at H | simp only [hji10] at H | skip
  have hji10_ : ((rd x5_1 x11_1) / 2 ^ min a1.toNat 64) = ji10 := hji10
  have hji10z : a1 ≤ 64 → ((rd x5_1 x11_1) / 2 ^ a1.toNat) = ji10 := shr_small hji10
  obtain ⟨y339, hy339⟩ : ∃ y_ : List Int, y_ = (x5_1.set (x11_1 : Int).toNat (ji10)) := ⟨_, rfl⟩
  replace H := bS_ hy339 H
  have Ny339 := Aside0.mk hy339
  clear hy339
  by_cases c12 : (wrap64 (x11_1 + 1)) < (l0.length : Int)
  rotate_left
  · rw [if_neg c12] at H
    have c12b0 : decide ((wrap64 (x11_1 + 1)) < (l0.length : Int)) = false := decide_eq_false c12
    (try (have c12x0 := c12b0; simp only [hl5_1] at c12x0))
    clear c12
    have H' := Aside0.mk H
    clear H
    have p338 : 0 ≤ (x11_1 : Int) := od_
    have q338 : x11_1 < (x5_1.length : Int) := od_
    obtain ⟨ad338, e338, hx338_0⟩ := Kd.at_int (Kd.R_reads' HO_5.out).2.2 x11_1 p338 q338
    cases e338
    replace p338 := eq_true p338
    replace q338 := eq_true q338
    have p11 : 0 ≤ (x11_1 : Int) := od_
    have q11 : (x11_1 : Int) < ((x5_1.length : Int) : Int) := od_
    obtain ⟨go11, co11, eo11, gb11, gl11, cl11, HG11⟩ := Kd.R_form HO_5.out (by omega)
    (first | cases eo11 | (injection eo11 with ea_ en_ ec_; (first | subst ea_ | (injection ea_ with ea_; subst ea_)); subst ec_; clear en_))
    have GB11 := Aside0.mk gb11
    have GG11 := Aside0.mk HG11
    clear gb11 gl11 HG11
    (first | simp only [add_plain] at hx338_0 | skip)
    obtain ⟨hx11_0, hf11_0⟩ := Kd.R_celln 0 HO_5.out (x11_1 : Int) p11 q11
    replace p11 := eq_true p11
    replace q11 := eq_true q11
    have HP23 := Kd.R_putg HO_5.out (x11_1 : Int) ji10
    go_wp2_with (first | ((with_reducible refine gate_store (t := 83) (p := 20) rfl ?_); refine store_event (t := 83) (p := 20) (v := ?vo_w24) (w1 := (wr.setCell ⟨go11, (x11_1 : Int).toNat, none⟩ (.int .u64 ji10))) ?hg ?ho ?hn ?hr ?_; (case ho => rfl); (case hg => rfl); (case hn => rfl); (case hr => first | (go_simp; done) | (go_simp; rfl)); intro w24 hw; have hg : wr.grownBy w24 (some go11) := (by rw [hw]; exact HP23.2); have hp_ : Kd.R (Kd.int .u64) 83 w24 w.heap.size (fun k_ => (w.heap.size ≤ k_)) (.slice (some ⟨go11, 0, none⟩) x5_1.length co5) y339 := (by rw [hw, Ny339.out]; exact HP23.1); clear HP23; replace HO_5 := Aside0.mk (hp_); replace HB := Aside0.mk ((by rw [hw]; exact below_set (HB.out) GB11.out : Below w.heap.size w w24)); clear hg hw hp_))
    (try simp only [← hl5_1])
    go_roundg k1
    case measure => have := HK1.out; omega
    case rel => exact ⟨(y339), (wrap64 (x11_1 + 1)), (by first | rfl | (simp; done) | (simp [*]; done)), H', ⟨by have := HK1.out; omega⟩, ⟨by (try simp only [hl5_1]); (with_reducible repeat (first | apply Kd.R_alloc | apply Kd.R_drewN | apply Kd.R_drew)); exact HO_5.out⟩, ⟨pB_ HB.out⟩⟩
  rw [if_pos c12] at H
  have c12b0 : decide ((wrap64 (x11_1 + 1)) < (l0.length : Int)) = true := decide_eq_true c12
  (try (have c12x0 := c12b0; simp only [hl5_1] at c12x0))
  clear c12
  obtain ⟨ji13, hji13⟩ : ∃ j_ : Int, (wrap64 (x11_1 + 1)) = j_ := ⟨_, rfl⟩
  first | rw [hji13] at H | simp only [hji13] at H | skip
  (try rw [hji13] at c12b0)
  have hji13w : (IntKind.i64.wrap (x11_1 + 1)) = ji13 := (i64_w _).trans hji13
  by_cases c14 : 0 ≤ (ji13)
  rotate_left
  · rw [if_neg c14] at H; exact absurd H (by simp)
  rw [if_pos c14] at H
  have c14b0 : decide (0 ≤ (ji13)) = true := decide_eq_true c14
  clear c14
  obtain ⟨ji15, hji15⟩ : ∃ j_ : Int, (wrap64 (64 - a1)) = j_ := ⟨_, rfl⟩
  first | rw [hji15] at H | simp only [hji15] at H | skip
  have hji15w : (IntKind.i64.wrap (64 - a1)) = ji15 := (i64_w _).trans hji15
  by_cases c16 : 0 ≤ (ji15)
  rotate_left
  · rw [if_neg c16] at H; exact absurd H (by simp)
  rw [if_pos c16] at H
  have c16b0 := eq_true c16
  have c16b1 : decide (0 ≤ (ji15)) = true := decide_eq_true c16
  clear c16
  obtain ⟨ji17, hji17⟩ : ∃ j_ : Int, (shl .u64 (rd l0 (ji13)) (ji15)) = j_ := ⟨_, rfl⟩
  first | rw [hji17] at H | simp only [hji17] at H | skip
  have hji17_ : (IntKind.u64.wrap ((rd l0 (ji13)) * 2 ^ min (ji15).toNat 64)) = ji17 := hji17
  have hji17z : (ji15) ≤ 64 → (IntKind.u64.wrap ((rd l0 (ji13)) * 2 ^ (ji15).toNat)) = ji17 := shl_small hji17
  obtain ⟨y342, hy342⟩ : ∃ y_ : List Int, y_ = (y339.set (x11_1 : Int).toNat (Go.bits .or .u64 (rd y339 x11_1) (ji17))) := ⟨_, rfl⟩
  first | rw [← hy342] at H | skip
  have Ny342 := Aside0.mk hy342
  clear hy342
  have H' := Aside0.mk H
  clear H
  have p338 : 0 ≤ (x11_1 : Int) := od_
  have q338 : x11_1 < (x5_1.length : Int) := od_
  obtain ⟨ad338, e338, hx338_0⟩ := Kd.at_int (Kd.R_reads' HO_5.out).2.2 x11_1 p338 q338
  cases e338
  replace p338 := eq_true p338
  replace q338 := eq_true q338
  have p11 : 0 ≤ (x11_1 : Int) := od_
  have q11 : (x11_1 : Int) < ((x5_1.length : Int) : Int) := od_
  obtain ⟨go11, co11, eo11, gb11, gl11, cl11, HG11⟩ := Kd.R_form HO_5.out (by omega)
  (first | cases eo11 | (injection eo11 with ea_ en_ ec_; (first | subst ea_ | (injection ea_ with ea_; subst ea_)); subst ec_; clear en_))
  have GB11 := Aside0.mk gb11
  have GG11 := Aside0.mk HG11
  clear gb11 gl11 HG11
  (first | simp only [add_plain] at hx338_0 | skip)
  obtain ⟨hx11_0, hf11_0⟩ := Kd.R_celln 0 HO_5.out (x11_1 : Int) p11 q11
  replace p11 := eq_true p11
  replace q11 := eq_true q11
  have HP19 := Kd.R_putg HO_5.out (x11_1 : Int) ji10
  try go_wp2_with (first | ((with_reducible refine gate_store (t := 83) (p := 20) rfl ?_); refine store_event (t := 83) (p := 20) (v := ?vo_w20) (w1 := (wr.setCell ⟨go11, (x11_1 : Int).toNat, none⟩ (.int .u64 ji10))) ?hg ?ho ?hn ?hr ?_; (case ho => rfl); (case hg => rfl); (case hn => rfl); (case hr => first | (go_simp; done) | (go_simp; rfl)); intro w20 hw; have hg : wr.grownBy w20 (some go11) := (by rw [hw]; exact HP19.2); have hp_ : Kd.R (Kd.int .u64) 83 w20 w.heap.size (fun k_ => (w.heap.size ≤ k_)) (.slice (some ⟨go11, 0, none⟩) x5_1.length co5) y339 := (by rw [hw, Ny339.out]; exact HP19.1); clear HP19; replace HO_5 := Aside0.mk (hp_); replace HB := Aside0.mk ((by rw [hw]; exact below_set (HB.out) GB11.out : Below w.heap.size w w20)); clear hg hw hp_))
  have n0_ := Aside0.mk (Kd.R_drew HO_5.out)
  have n1_ := Aside0.mk (below_drew1 HB.out)
  clear HO_5
  clear HB
  have HO_5 := n0_
  have HB := n1_
  clear n0_ n1_
  have p340 : 0 ≤ (x11_1 : Int) := od_
  have q340 : x11_1 < (y339.length : Int) := (by have h_ : (x11_1 : Int) < ((x5_1.length : Int) : Int) := od_; first | (have e_ := (Kd.R_reads' HO_5.out).1; omega) | simpa only [Ny339.out, List.length_set] using h_)
  have ql340 : ((x11_1 : Int) < ((x5_1.length : Int) : Int)) = True := eq_true (od_)
  obtain ⟨ad340, e340, hx340_0⟩ := Kd.at_int (Kd.R_reads' HO_5.out).2.2 x11_1 p340 q340
  obtain rfl : (⟨go11, 0, none⟩ : Addr) = ad340 := (by injection e340)
  (first | simp only [add_plain] at hx340_0 | simp only [add_at] at hx340_0 | simp only [Addr.add, Nat.zero_add] at hx340_0 | skip)
  replace p340 := eq_true p340
  replace q340 := eq_true q340
  have p341 : 0 ≤ ((ji13) : Int) := od_
  have q341 : (ji13) < (l0.length : Int) := od_
  obtain ⟨ad341, e341, hx341_0⟩ := Kd.at_int HR0.out (ji13) p341 q341
  have hw341_0 := hx341_0
  cases e341
  replace hx341_0 := (HB.out.cell (World.block_lt_of_cell? w _ hx341_0)).trans hx341_0
  replace p341 := eq_true p341
  replace q341 := eq_true q341
  have p18 : 0 ≤ (x11_1 : Int) := od_
  have q18 : (x11_1 : Int) < ((x5_1.length : Int) : Int) := od_
  obtain ⟨hx18_0, hf18_0⟩ := Kd.R_celln 0 HO_5.out (x11_1 : Int) p18 q18
  replace p18 := eq_true p18
  replace q18 := eq_true q18
  have HP22 := Kd.R_putn HO_5.out (x11_1 : Int) (Go.bits .or .u64 (rd y339 x11_1) (ji17))
  rw [← Ny342.out] at HP22
  have HQ22 := Aside0.mk HP22
  clear HP22
  refine start_ (n := 15) (S := fun w' => w'.cell? ⟨go11, (x11_1).toNat, none⟩ = some (.int .u64 (rd y339 x11_1)) ∧ w'.cell? (ad341.add ((ji13)).toNat) = some (.int .u64 (rd l0 (ji13)))) (ds := [14]) #[false, false, false, false, false, false, false, false, false, false, false, false, false, false, false] (by kernel_rfl) rfl rfl ⟨hx340_0, ((HB.out.cell (World.block_lt_of_cell? w _ hw341_0)).trans hw341_0)⟩ (fun hHeld => ?_); refine with_tabW impl_nat_down.tab7 impl_nat_down.bits7 (fun HT_ HW_ => ?_)
  generalize w20.drew = w21 at HO_5 HB HQ22 hf18_0 hx18_0 hx340_0 hx341_0 hHeld ⊢
  refine pu_ 0 26 HT_.out ?_
  refine pu_ 1 27 HT_.out ?_
  refine pu_ 2 28 HT_.out ?_
  refine pu_ 4 30 HT_.out ?_
  refine pu_ 5 31 HT_.out ?_
  refine pu_ 6 32 HT_.out ?_
  refine pu_ 7 33 HT_.out ?_
  refine pu_ 9 35 HT_.out ?_
  refine pu_ 10 36 HT_.out ?_
  refine take_ (i := 3) (N := some 29) (v := ?_) (a' := ?_) #[true, true, true, true, true, true, true, true, false, true, true, false, false, false, false] rfl rfl (take_ofW HT_.out HW_.out (by kernel_rfl)) (fun _ _ _ h => h) (Or.inl ⟨by rfl, ?_⟩) hHeld ?_ ?_
  rotate_left
  · rintro w' ⟨s0, s1⟩
    go_simp
    with_reducible rfl
  rotate_left
  · simp only [Act.put, List.setIfInBounds_toArray, List.set_cons_zero, List.set_cons_succ, i64_w, i32_w]
    rfl
  refine take_ (i := 8) (N := some 34) (v := ?_) (a' := ?_) #[true, true, true, true, true, true, true, true, true, true, true, false, false, false, false] rfl rfl (take_ofW HT_.out HW_.out (by kernel_rfl)) (fun _ _ _ h => h) (Or.inl ⟨by rfl, ?_⟩) hHeld ?_ ?_
  rotate_left
  · rintro w' ⟨s0, s1⟩
    go_simp
    with_reducible rfl
  rotate_left
  · simp only [Act.put, List.setIfInBounds_toArray, List.set_cons_zero, List.set_cons_succ, i64_w, i32_w]
    rfl
  refine pu_ 11 37 HT_.out ?_
  refine pu_ 12 38 HT_.out ?_
  refine pu_ 13 39 HT_.out ?_
  refine last_ (i := 14) (N := none) #[true, true, true, true, true, true, true, true, true, true, true, true, true, true, true] rfl rfl (one_of HT_.out (by kernel_rfl)) (by decide) (fun K hK => ?_)
  refine skip_ (w1 := ?_) (by rfl) rfl ?_ ?_
  rotate_left
  · go_simp
    rfl
  refine hK.out _ _ ?_
  clear hK K
  refine done_ (done_of HT_.out (by kernel_rfl)) ?_
  try go_wp2
  (try simp only [← hl5_1])
  go_roundg k1
  case measure => have := HK1.out; omega
  case rel => exact ⟨(y342), (ji13), (by first | rfl | (simp; done) | (simp only [← hji13] <;> (first | rfl | simp)) | (simp [*]; done)), H', ⟨by have := HK1.out; omega⟩, ⟨by (try simp only [hl5_1]); (with_reducible repeat (first | apply Kd.R_alloc | apply Kd.R_drewN | apply Kd.R_drew)); exact HQ22.out⟩, ⟨by repeat (first | (with_reducible first | exact HB.out | apply below_alloc | apply pw_below_drewN | apply below_drew1 | refine below_set ?_ GB11.out) | exact HB.out)⟩⟩

/-! ### impl_nat_half: function 73 -/
def impl_nat_half.f (k : Nat) (l0 : List Int) : Option (List Int) := (impl_nat_down.f k l0 1).bind fun t346 => (some t346)
set_option maxHeartbeats 8000000 in
set_option maxRecDepth 100000 in
theorem impl_nat_half.calls (k : Nat) (A0 : Option Addr) (c0 : Nat) (l0 : List Int) (r : List Int) (w : World) (hr0 : Kd.C (Kd.int .u64) w A0 l0.length l0) (hc0 : l0.length ≤ c0) (h : impl_nat_half.f k l0 = some r) :
    Calls Try.prog 73 #[.slice A0 l0.length c0] w fun e w' => ∃ v0_ : Value, e = .returned (v0_) ∧ Kd.V (Kd.int .u64) 83 w' w.heap.size (fun k_ => (w.heap.size ≤ k_)) v0_ r ∧ Below w.heap.size w w' := by
  have HR0 := Aside0.mk hr0
  have HC0 := Aside0.mk hc0
  clear hr0 hc0
  have HB := Aside0.mk (Below.refl w.heap.size w)
  have H : ((impl_nat_down.f k l0 1).bind fun t346 => (some t346)) = some r := h
  clear h
  replace H := Option.bind_eq_some_iff.mp H
  obtain ⟨t346, A20, H⟩ := H
  have A2 := Aside0.mk A20
  clear A20
  obtain rfl := Option.some.inj H
  go_enter Try.func73, Try.ntmps73
  go_wp2_with (first | ((with_reducible refine gate_callee (f := 85) rfl ?_); refine gL_ 4 Try.func85 rfl #[.slice A0 l0.length c0, .int .i64 1] ?_; (with_reducible refine (impl_nat_down.calls k _ _ l0 1 t346 _ ?side1 ?side2 A2.out).mono ?_); (case side1 => exact pC_ HR0.out); (case side2 => exact HC0.out); rintro e w3 ⟨v347, rfl, ho0, hb⟩; refine ⟨_, rfl, ?_⟩; have HO348 := Aside0.mk (Kd.V_lower (Kd.V_mono (ok' := fun k_ => (w.heap.size ≤ k_)) ho0 (fun k_ hk_ => (Nat.le_trans (below_size (pB_ HB.out)) hk_))) (below_size (pB_ HB.out))); replace HB := Aside0.mk (below_step (pB_ HB.out) hb); clear hb ho0))
  go_ret
  exact ⟨_, by first | rfl | (simp [errW_none, errW_some] <;> rfl) | (simp [*, errW_none, errW_some] <;> rfl), by (with_reducible repeat (first | apply Kd.V_alloc | apply Kd.V_drewN | apply Kd.V_drew)); exact HO348.out, pB_ HB.out⟩

/-! ### bits_Add64: function 83 (told by hand) -/
def bits_Add64.f (a0 : Int) (a1 : Int) (a2 : Int) : Option (Int × Int) := if 0 ≤ a0 ∧ 0 ≤ a1 ∧ 0 ≤ a2 ∧ a2 ≤ 1 then (some ((a0 + a1 + a2) % 18446744073709551616, (a0 + a1 + a2) / 18446744073709551616)) else (none)
theorem bits_Add64.run (a0 : Int) (a1 : Int) (a2 : Int) (r1 : Int) (r2 : Int) (h : bits_Add64.f a0 a1 a2 = some (r1, r2)) (w : World) :
    (callFunc 83 #[.int .u64 a0, .int .u64 a1, .int .u64 a2]).run Try.prog w = .ok (.value (.tuple #[.int .u64 r1, .int .u64 r2])) w := by
  unfold bits_Add64.f at h
  by_cases c : 0 ≤ a0 ∧ 0 ≤ a1 ∧ 0 ≤ a2 ∧ a2 ≤ 1
  · rw [if_pos c] at h
    obtain ⟨c0, c1, c2, c3⟩ := c
    obtain ⟨x, rfl⟩ := Int.eq_ofNat_of_zero_le c0
    obtain ⟨y, rfl⟩ := Int.eq_ofNat_of_zero_le c1
    obtain ⟨z, rfl⟩ := Int.eq_ofNat_of_zero_le c2
    simp only [Option.some.injEq, Prod.mk.injEq] at h
    obtain ⟨rfl, rfl⟩ := h
    rw [run_callFunc_extern Try.func83 (by kernel_rfl) (by kernel_rfl) (by kernel_rfl) (e := add64Entry) (by kernel_rfl), run_add64w x y z (by omega)]
    rfl
  · rw [if_neg c] at h
    exact absurd h (by simp)

/-! ### impl_nat_plus: function 74 -/
mutual
def impl_nat_plus.j0 : Nat → List Int → List Int → Option (List Int)
  | 0, _, _ => none
  | k + 1, x0, x1 => if 0 ≤ (wrap64 ((x0.length : Int) + 1)) then (if (wrap64 ((x0.length : Int) + 1) : Int).toNat ≤ 35184372088832 then (impl_nat_plus.l0 k x0 x1 (List.replicate (wrap64 ((x0.length : Int) + 1) : Int).toNat 0) 0 (x0.length : Int) 0) else (none)) else (none)
def impl_nat_plus.l0 : Nat → List Int → List Int → List Int → Int → Int → Int → Option (List Int)
  | 0, _, _, _, _, _, _ => none
  | k + 1, x0, x1, x5, x6, x21, x22 => if x22 < x21 then (if x22 < (x1.length : Int) then (if 0 ≤ x22 then (if x22 < (x0.length : Int) then ((bits_Add64.f (rd x0 x22) (rd x1 x22) x6).bind fun bt354 => (if x22 < (x5.length : Int) then (impl_nat_plus.l0 k x0 x1 (x5.set (x22 : Int).toNat bt354.1) bt354.2 x21 (wrap64 (x22 + 1))) else (none))) else (none)) else (none)) else (if 0 ≤ x22 then (if x22 < (x0.length : Int) then ((bits_Add64.f (rd x0 x22) 0 x6).bind fun bt358 => (if x22 < (x5.length : Int) then (impl_nat_plus.l0 k x0 x1 (x5.set (x22 : Int).toNat bt358.1) bt358.2 x21 (wrap64 (x22 + 1))) else (none))) else (none)) else (none))) else (if 0 ≤ (x0.length : Int) then (if (x0.length : Int) < (x5.length : Int) then ((impl_nat_trim.f k (x5.set ((x0.length : Int) : Int).toNat x6)).bind fun t362 => (some t362)) else (none)) else (none))
end
def impl_nat_plus.f (k : Nat) (l0 : List Int) (l1 : List Int) : Option (List Int) := if (l0.length : Int) < (l1.length : Int) then (impl_nat_plus.j0 k l1 l0) else (impl_nat_plus.j0 k l0 l1)
set_option maxHeartbeats 8000000 in
set_option maxRecDepth 100000 in
theorem impl_nat_plus.calls (k : Nat) (P0_ : Nat → Prop) (A0 : Option Addr) (c0 : Nat) (l0 : List Int) (P1_ : Nat → Prop) (A1 : Option Addr) (c1 : Nat) (l1 : List Int) (r : List Int) (w : World) (hs0 : Kd.V (Kd.int .u64) 83 w w.heap.size (fun k_ => P0_ k_) (.slice A0 l0.length c0) l0) (hs1 : Kd.V (Kd.int .u64) 83 w w.heap.size (fun k_ => P1_ k_) (.slice A1 l1.length c1) l1) (h : impl_nat_plus.f k l0 l1 = some r) :
    Calls Try.prog 74 #[.slice A0 l0.length c0, .slice A1 l1.length c1] w fun e w' => ∃ v0_ : Value, e = .returned (v0_) ∧ Kd.V (Kd.int .u64) 83 w' w.heap.size (fun k_ => ((P0_ k_ ∨ P1_ k_) ∨ w.heap.size ≤ k_)) v0_ r ∧ Below w.heap.size w w' := by
  have HO0 := Aside0.mk (show Kd.V (Kd.int .u64) 83 w w.heap.size (fun k_ => ((P0_ k_ ∨ P1_ k_) ∨ w.heap.size ≤ k_)) (.slice A0 l0.length c0) l0 from Kd.V_mono hs0 (fun k_ hk => .inl (.inl hk)))
  have HO1 := Aside0.mk (show Kd.V (Kd.int .u64) 83 w w.heap.size (fun k_ => ((P0_ k_ ∨ P1_ k_) ∨ w.heap.size ≤ k_)) (.slice A1 l1.length c1) l1 from Kd.V_mono hs1 (fun k_ hk => .inl (.inr hk)))
  have HB := Aside0.mk (Below.refl w.heap.size w)
  have H : (if (l0.length : Int) < (l1.length : Int) then (impl_nat_plus.j0 k l1 l0) else (impl_nat_plus.j0 k l0 l1)) = some r := h
  clear h
  have HC3 := Aside0.mk H
  clear H
  go_enter Try.func74, Try.ntmps74
  go_upto_if 13 with (fail)
  go_cut [0, 1] (fun v0 v1 wc => ∃ (kq : Nat) (x0_2 : List Int) (x1_2 : List Int), Aside0 (impl_nat_plus.j0 kq x0_2 x1_2 = some r) ∧ Aside0 (kq ≤ k) ∧ Aside0 (Kd.V (Kd.int .u64) 83 wc w.heap.size (fun k_ => ((P0_ k_ ∨ P1_ k_) ∨ w.heap.size ≤ k_)) v0 x0_2) ∧ Aside0 (Kd.V (Kd.int .u64) 83 wc w.heap.size (fun k_ => ((P0_ k_ ∨ P1_ k_) ∨ w.heap.size ≤ k_)) v1 x1_2) ∧ Aside0 (Below w.heap.size w wc))
  case first =>
    have H := HC3.out
    clear HC3
    by_cases c4 : (l0.length : Int) < (l1.length : Int)
    · rw [if_pos c4] at H
      have c4b0 : decide ((l0.length : Int) < (l1.length : Int)) = true := decide_eq_true c4
      have c4b1 : decide (l0.length < l1.length) = true := decide_eq_true (Int.ofNat_lt.mp c4)
      clear c4
      (first | rw [c4b0] | (simp only [i64_w, i32_w]; rw [c4b0]) | rw [c4b1] | skip)
      have H' := Aside0.mk H
      clear H
      go_wp2
      go_meet
      case rel => exact ⟨_, (l1), (l0), H', ⟨by first | omega | exact Nat.le_refl _⟩, ⟨by (with_reducible repeat (first | apply Kd.V_alloc | apply Kd.V_drewN | apply Kd.V_drew)); exact HO1.out⟩, ⟨by (with_reducible repeat (first | apply Kd.V_alloc | apply Kd.V_drewN | apply Kd.V_drew)); exact HO0.out⟩, ⟨pB_ HB.out⟩⟩
    rw [if_neg c4] at H
    have c4b0 : decide ((l0.length : Int) < (l1.length : Int)) = false := decide_eq_false c4
    have c4b1 : decide (l0.length < l1.length) = false := decide_eq_false (fun h => c4 (Int.ofNat_lt.mpr h))
    clear c4
    (first | rw [c4b0] | (simp only [i64_w, i32_w]; rw [c4b0]) | rw [c4b1] | skip)
    have H' := Aside0.mk H
    clear H
    go_wp2
    go_meet
    case rel => exact ⟨_, (l0), (l1), H', ⟨by first | omega | exact Nat.le_refl _⟩, ⟨by (with_reducible repeat (first | apply Kd.V_alloc | apply Kd.V_drewN | apply Kd.V_drew)); exact HO0.out⟩, ⟨by (with_reducible repeat (first | apply Kd.V_alloc | apply Kd.V_drewN | apply Kd.V_drew)); exact HO1.out⟩, ⟨pB_ HB.out⟩⟩
  clear HC3
  try clear c1
  try clear p2
  try clear c4
  try clear c4b0
  try clear c4b1
  obtain ⟨kq, x0_2, x1_2, HA, HJ2, HO_0, HO_1, HB⟩ := hcut
  rcases kq with _ | kj2
  · exact absurd HA.out (by simp [impl_nat_plus.j0])
  have H := HA.out
  clear HA
  simp only [impl_nat_plus.j0] at H
  obtain ⟨ji5, hji5⟩ : ∃ j_ : Int, (wrap64 ((x0_2.length : Int) + 1)) = j_ := ⟨_, rfl⟩
  first | rw [hji5] at H | simp only [hji5] at H | skip
  have hji5w : (IntKind.i64.wrap ((x0_2.length : Int) + 1)) = ji5 := (i64_w _).trans hji5
  by_cases c6 : 0 ≤ (ji5)
  rotate_left
  · rw [if_neg c6] at H
    exact absurd H (by simp)

  rw [if_pos c6] at H
  have c6b0 := eq_true c6
  have c6b1 : decide (0 ≤ (ji5)) = true := decide_eq_true c6
  clear c6
  by_cases c7 : (ji5 : Int).toNat ≤ 35184372088832
  rotate_left
  · rw [if_neg c7] at H; exact absurd H (by simp)
  rw [if_pos c7] at H
  have c7b0 := eq_true c7
  have c7b1 : decide ((ji5 : Int).toNat ≤ 35184372088832) = true := decide_eq_true c7
  clear c7
  obtain ⟨y349, hy349⟩ : ∃ y_ : List Int, y_ = (List.replicate (ji5 : Int).toNat 0) := ⟨_, rfl⟩
  first | rw [← hy349] at H | skip
  have Ny349 := Aside0.mk hy349
  clear hy349
  have H' := Aside0.mk H
  clear H
  obtain ⟨Ao8, co8, eo8⟩ := Kd.V_slice HO_0.out
  subst eo8
  go_wp2_with (first | ((with_reducible refine gate_dst (N := 19) rfl ?_); refine Kd.R_make (Kd.int .u64) _ 83 rfl (N := 19) rfl 48 _ _ rfl ji5 rfl rfl Try.underlying48 (.int .u64 0) 8 info83 rfl (by decide) (by omega) 0 (ok := fun _ => True) (okp := fun _ => True) rfl (fun _ hk => hk) trivial (od_) (Nat.le_trans (Nat.mul_le_mul_right _ (od_ : ji5.toNat ≤ 35184372088832)) (by omega)) (Below.refl _ _) (Nat.le_refl _) ?_; intro v350 w9 ho10 hb hg_ hnew_; clear hg_ hnew_; (first | rw [← Ny349.out] at ho10 | (simp only [Int.reduceToNat] at ho10; rw [← Ny349.out] at ho10)); replace HO_0 := Aside0.mk (Kd.V_elder' (pV_ HO_0.out) (Kd.R_base ho10) hb); replace HO_1 := Aside0.mk (Kd.V_elder' (pV_ HO_1.out) (Kd.R_base ho10) hb); have HO351 := Aside0.mk (Kd.R_lower (Kd.R_newM (M := fun k_ => (w.heap.size ≤ k_)) ho10 (below_size (pB_ HB.out)) (fun k_ h_ => h_)) (below_size (pB_ HB.out))); replace HB := Aside0.mk (below_step (pB_ HB.out) hb); clear hb ho10))
  go_loopg [6, 22] kj2 (fun kq v6 v22 w' => ∃ (x5_2 : List Int) (x6_2 : Int) (x22_2 : Int), v6 = .int .u64 x6_2 ∧ v22 = .int .i64 x22_2 ∧ Aside0 (impl_nat_plus.l0 kq x0_2 x1_2 x5_2 x6_2 (x0_2.length : Int) x22_2 = some r) ∧ Aside0 (kq ≤ kj2) ∧ Aside0 (Kd.V (Kd.int .u64) 83 w' w.heap.size (fun k_ => ((P0_ k_ ∨ P1_ k_) ∨ w.heap.size ≤ k_) ∧ some k_ ≠ (v350 : Value).ownBlock) (.slice Ao8 x0_2.length co8) x0_2) ∧ Aside0 (Kd.V (Kd.int .u64) 83 w' w.heap.size (fun k_ => ((P0_ k_ ∨ P1_ k_) ∨ w.heap.size ≤ k_) ∧ some k_ ≠ (v350 : Value).ownBlock) u1 x1_2) ∧ Aside0 (Kd.R (Kd.int .u64) 83 w' w.heap.size (fun k_ => (w.heap.size ≤ k_)) v350 x5_2) ∧ Aside0 (Below w.heap.size w w'))
  case atStart => exact ⟨(y349), (0), (0), (by first | rfl | (simp; done) | (simp [*]; done)), (by first | rfl | (simp; done) | (simp [*]; done)), H', ⟨Nat.le_refl _⟩, ⟨by (with_reducible repeat (first | apply Kd.V_alloc | apply Kd.V_drewN | apply Kd.V_drew)); exact HO_0.out⟩, ⟨by (with_reducible repeat (first | apply Kd.V_alloc | apply Kd.V_drewN | apply Kd.V_drew)); exact HO_1.out⟩, ⟨by (with_reducible repeat (first | apply Kd.R_alloc | apply Kd.R_drewN | apply Kd.R_drew)); exact Kd.R_mono HO351.out (fun _ hk => hk.1)⟩, ⟨pB_ HB.out⟩⟩
  clear H'
  try clear c1
  try clear p2
  try clear c4
  try clear c4b0
  try clear c4b1
  try clear c6
  try clear c6b0
  try clear c6b1
  try clear p6
  try clear c7
  try clear c7b0
  try clear c7b1
  try clear p2
  obtain ⟨x5_2, x6_2, x22_2, rfl, rfl, HA, HK2, HO_0, HO_1, HO_5, HB⟩ := hrel
  rcases gk with _ | k2
  · exact absurd HA.out (by simp [impl_nat_plus.l0])
  have H := HA.out
  clear HA
  simp only [impl_nat_plus.l0] at H
  by_cases c11 : x22_2 < (x0_2.length : Int)
  rotate_left
  · rw [if_neg c11] at H
    have c11b0 : decide (x22_2 < (x0_2.length : Int)) = false := decide_eq_false c11
    clear c11
    by_cases c29 : 0 ≤ (x0_2.length : Int)
    rotate_left
    · rw [if_neg c29] at H; exact absurd H (by simp)
    rw [if_pos c29] at H
    have c29b0 : decide (0 ≤ (x0_2.length : Int)) = true := decide_eq_true c29
    have c29b1 : decide (0 ≤ x0_2.length) = true := decide_eq_true (by omega)
    clear c29
    by_cases c30 : (x0_2.length : Int) < (x5_2.length : Int)
    rotate_left
    · rw [if_neg c30] at H; exact absurd H (by simp)
    rw [if_pos c30] at H
    have c30b0 : decide ((x0_2.length : Int) < (x5_2.length : Int)) = true := decide_eq_true c30
    have c30b1 : decide (x0_2.length < x5_2.length) = true := decide_eq_true (Int.ofNat_lt.mp c30)
    clear c30
    obtain ⟨y361, hy361⟩ : ∃ y_ : List Int, y_ = (x5_2.set ((x0_2.length : Int) : Int).toNat x6_2) := ⟨_, rfl⟩
    first | rw [← hy361] at H | skip
    have Ny361 := Aside0.mk hy361
    clear hy361
    replace H := Option.bind_eq_some_iff.mp H
    obtain ⟨t362, A320, H⟩ := H
    have A32 := Aside0.mk A320
    clear A320
    obtain rfl := Option.some.inj H
    have p31 : 0 ≤ ((x0_2.length : Int) : Int) := od_
    have q31 : ((x0_2.length : Int) : Int) < ((x5_2.length : Int) : Int) := od_
    obtain ⟨go31, co31, eo31, gb31, gl31, cl31, HG31⟩ := Kd.R_form HO_5.out (by omega)
    (first | cases eo31 | (injection eo31 with ea_ en_ ec_; (first | subst ea_ | (injection ea_ with ea_; subst ea_)); subst ec_; clear en_))
    have GB31 := Aside0.mk gb31
    have GG31 := Aside0.mk HG31
    clear gb31 gl31 HG31
    obtain ⟨hx31_0, hf31_0⟩ := Kd.R_celln 0 HO_5.out ((x0_2.length : Int) : Int) p31 q31
    (try simp only [Int.toNat_natCast] at hx31_0)
    (try simp only [Int.toNat_natCast] at hf31_0)
    replace p31 := eq_true p31
    replace q31 := eq_true q31
    have HP33 := Kd.R_putg HO_5.out ((x0_2.length : Int) : Int) x6_2
    go_wp2_with (first | ((with_reducible refine gate_store (t := 83) (p := 51) rfl ?_); refine store_event (t := 83) (p := 51) (v := ?vo_w34) (w1 := (wr.setCell ⟨go31, ((x0_2.length : Int) : Int).toNat, none⟩ (.int .u64 x6_2))) ?hg ?ho ?hn ?hr ?_; (case ho => rfl); (case hg => rfl); (case hn => rfl); (case hr => first | (go_simp; done) | (go_simp; rfl)); intro w34 hw; have hg : wr.grownBy w34 (some go31) := (by rw [hw]; exact HP33.2); have hp_ : Kd.R (Kd.int .u64) 83 w34 w.heap.size (fun k_ => (w.heap.size ≤ k_)) (.slice (some ⟨go31, 0, none⟩) x5_2.length co31) y361 := (by rw [hw, Ny361.out]; exact HP33.1); clear HP33; replace HO_0 := Aside0.mk (Kd.V_afterv (v := (.slice (some ⟨go31, 0, none⟩) x5_2.length co31)) (v1 := (.slice (some ⟨go31, 0, none⟩) x5_2.length co31)) (ok := (fun k_ => ((P0_ k_ ∨ P1_ k_) ∨ w.heap.size ≤ k_))) (pV_ HO_0.out) hg (.inl rfl)); replace HO_1 := Aside0.mk (Kd.V_afterv (v := (.slice (some ⟨go31, 0, none⟩) x5_2.length co31)) (v1 := (.slice (some ⟨go31, 0, none⟩) x5_2.length co31)) (ok := (fun k_ => ((P0_ k_ ∨ P1_ k_) ∨ w.heap.size ≤ k_))) (pV_ HO_1.out) hg (.inl rfl)); replace HO_5 := Aside0.mk (hp_); replace HB := Aside0.mk ((by rw [hw]; exact below_set (HB.out) GB31.out : Below w.heap.size w w34)); clear hg hw hp_) | ((with_reducible refine gate_callee (f := 75) rfl ?_); refine goesL_ (some 53) rfl rfl Try.func75 (by kernel_rfl) rfl #[.slice (some ⟨go31, 0, none⟩) y361.length co31] rfl (by (try simp only [List.map_toArray, List.map_cons, List.map_nil]); first | done | (rw [show y361.length = x5_2.length from (Kd.R_reads' HO_5.out).1.symm] <;> rfl) | rfl | (simp only [List.length_drop, List.length_take]; rfl)) ?_; (with_reducible refine (impl_nat_trim.calls k2 (fun k_ => some k_ = (.slice (some ⟨go31, 0, none⟩) x5_2.length co31 : Value).ownBlock) _ _ y361 t362 _ ?side1 A32.out).mono ?_); (case side1 => rw [show y361.length = x5_2.length from (Kd.R_reads' HO_5.out).1.symm]; exact Kd.R_V (Kd.R_tight rfl (HO_5.out))); rintro e w35 ⟨v363, rfl, ho0, hb⟩; refine ⟨_, rfl, ?_⟩; replace HO_0 := Aside0.mk (Kd.V_below (pV_ HO_0.out) hb); replace HO_1 := Aside0.mk (Kd.V_below (pV_ HO_1.out) hb); have HO364 := Aside0.mk (Kd.V_lower (Kd.V_mono (ok' := fun k_ => ((P0_ k_ ∨ P1_ k_) ∨ w.heap.size ≤ k_)) ho0 (fun k_ hk_ => Or.elim hk_ (fun hs_ => (.inr (((HO_5.out).1 k_ hs_.symm)))) (fun hn_ => (.inr (Nat.le_trans (below_size (pB_ HB.out)) hn_))))) (below_size (pB_ HB.out))); replace HO_5 := Aside0.mk (Kd.R_below (pR_ HO_5.out) hb); replace HB := Aside0.mk (below_step (pB_ HB.out) hb); clear hb ho0))
    go_ret
    exact ⟨_, by first | rfl | (simp [errW_none, errW_some] <;> rfl) | (simp only [← hji5]; first | rfl | (simp [errW_none, errW_some] <;> rfl)) | (simp [*, errW_none, errW_some] <;> rfl), by (with_reducible repeat (first | apply Kd.V_alloc | apply Kd.V_drewN | apply Kd.V_drew)); exact HO364.out, pB_ HB.out⟩
  rw [if_pos c11] at H
  have c11b0 : decide (x22_2 < (x0_2.length : Int)) = true := decide_eq_true c11
  clear c11
  by_cases c12 : x22_2 < (x1_2.length : Int)
  rotate_left
  · rw [if_neg c12] at H
    have c12b0 : decide (x22_2 < (x1_2.length : Int)) = false := decide_eq_false c12
    clear c12
    by_cases c21 : 0 ≤ x22_2
    rotate_left
    · rw [if_neg c21] at H; exact absurd H (by simp)
    rw [if_pos c21] at H
    have c21b0 : decide (0 ≤ x22_2) = true := decide_eq_true c21
    clear c21
    by_cases c22 : x22_2 < (x0_2.length : Int)
    rotate_left
    · rw [if_neg c22] at H; exact absurd H (by simp)
    rw [if_pos c22] at H
    have c22b0 : decide (x22_2 < (x0_2.length : Int)) = true := decide_eq_true c22
    clear c22
    replace H := Option.bind_eq_some_iff.mp H
    obtain ⟨⟨t358, t359⟩, A230, H⟩ := H
    replace H : (if x22_2 < (x5_2.length : Int) then (impl_nat_plus.l0 k2 x0_2 x1_2 (x5_2.set (x22_2 : Int).toNat t358) t359 (x0_2.length : Int) (wrap64 (x22_2 + 1))) else (none)) = some r := H
    have A23 := Aside0.mk A230
    clear A230
    by_cases c24 : x22_2 < (x5_2.length : Int)
    rotate_left
    · rw [if_neg c24] at H; exact absurd H (by simp)
    rw [if_pos c24] at H
    have c24b0 : decide (x22_2 < (x5_2.length : Int)) = true := decide_eq_true c24
    clear c24
    obtain ⟨y360, hy360⟩ : ∃ y_ : List Int, y_ = (x5_2.set (x22_2 : Int).toNat t358) := ⟨_, rfl⟩
    first | rw [← hy360] at H | skip
    have Ny360 := Aside0.mk hy360
    clear hy360
    have H' := Aside0.mk H
    clear H
    obtain ⟨Ao26, co26, eo26⟩ := Kd.V_slice HO_1.out
    subst eo26
    have p357 : 0 ≤ (x22_2 : Int) := od_
    have q357 : x22_2 < (x0_2.length : Int) := od_
    obtain ⟨ad357, e357, hx357_0⟩ := Kd.at_int (Kd.V_reads' HO_0.out).2.2 x22_2 p357 q357
    cases e357
    replace p357 := eq_true p357
    replace q357 := eq_true q357
    go_wp2_with (first | ((with_reducible refine gate_callee (f := 83) rfl ?_); refine gX_ 42 rfl #[.int .u64 (rd x0_2 x22_2), .int .u64 0, .int .u64 x6_2] (bits_Add64.run (rd x0_2 x22_2) 0 x6_2 t358 t359 A23.out _) ?_; intro nd _; (try (rw [drewN_self wr]; generalize hq_ : World.drewN wr _ = wr; have n0_ : Aside0 (Kd.V (Kd.int .u64) 83 wr w.heap.size (fun k_ => ((P0_ k_ ∨ P1_ k_) ∨ w.heap.size ≤ k_) ∧ some k_ ≠ (v350 : Value).ownBlock) (.slice (some ad357) x0_2.length co8) x0_2) := ⟨by rw [← hq_]; exact (pV_ HO_0.out)⟩; have n1_ : Aside0 (Kd.V (Kd.int .u64) 83 wr w.heap.size (fun k_ => ((P0_ k_ ∨ P1_ k_) ∨ w.heap.size ≤ k_) ∧ some k_ ≠ (v350 : Value).ownBlock) (.slice Ao26 x1_2.length co26) x1_2) := ⟨by rw [← hq_]; exact (pV_ HO_1.out)⟩; have n2_ : Aside0 (Kd.R (Kd.int .u64) 83 wr w.heap.size (fun k_ => (w.heap.size ≤ k_)) v350 x5_2) := ⟨by rw [← hq_]; exact (pR_ HO_5.out)⟩; have n3_ : Aside0 (Below w.heap.size w wr) := ⟨by rw [← hq_]; exact (pB_ HB.out)⟩; clear HO_0 HO_1 HO_5 HB hq_; have HO_0 := n0_; have HO_1 := n1_; have HO_5 := n2_; have HB := n3_; clear n0_ n1_ n2_ n3_)); have p25 : 0 ≤ (x22_2 : Int) := od_; have q25 : (x22_2 : Int) < ((x5_2.length : Int) : Int) := od_; obtain ⟨go25, co25, eo25, gb25, gl25, cl25, HG25⟩ := Kd.R_form HO_5.out (by omega); (first | cases eo25 | (injection eo25 with ea_ en_ ec_; (first | subst ea_ | (injection ea_ with ea_; subst ea_)); subst ec_; clear en_)); have GB25 := Aside0.mk gb25; have GG25 := Aside0.mk HG25; clear gb25 gl25 HG25; obtain ⟨hx25_0, hf25_0⟩ := Kd.R_celln 0 HO_5.out (x22_2 : Int) p25 q25; replace p25 := eq_true p25; replace q25 := eq_true q25; obtain ⟨hy27_, hz27_⟩ := Kd.R_celln 0 HO_5.out (x22_2 : Int) (od_) (od_); have HP27 := Kd.R_putg HO_5.out (x22_2 : Int) t358) | ((with_reducible refine gate_store (t := 83) (p := 45) rfl ?_); refine store_event (t := 83) (p := 45) (v := ?vo_w28) (w1 := (wr.setCell ⟨go25, (x22_2 : Int).toNat, none⟩ (.int .u64 t358))) ?hg ?ho ?hn ?hr ?_; (case ho => rfl); (case hg => rfl); (case hn => rfl); (case hr => first | (go_simp; done) | (go_simp; rfl)); intro w28 hw; have hg : wr.grownBy w28 (some go25) := (by rw [hw]; exact HP27.2); have hp_ : Kd.R (Kd.int .u64) 83 w28 w.heap.size (fun k_ => (w.heap.size ≤ k_)) (.slice (some ⟨go25, 0, none⟩) x5_2.length co25) y360 := (by rw [hw, Ny360.out]; exact HP27.1); clear HP27; replace HO_0 := Aside0.mk (Kd.V_afterv (v := (.slice (some ⟨go25, 0, none⟩) x5_2.length co25)) (v1 := (.slice (some ⟨go25, 0, none⟩) x5_2.length co25)) (ok := (fun k_ => ((P0_ k_ ∨ P1_ k_) ∨ w.heap.size ≤ k_))) (pV_ HO_0.out) hg (.inl rfl)); replace HO_1 := Aside0.mk (Kd.V_afterv (v := (.slice (some ⟨go25, 0, none⟩) x5_2.length co25)) (v1 := (.slice (some ⟨go25, 0, none⟩) x5_2.length co25)) (ok := (fun k_ => ((P0_ k_ ∨ P1_ k_) ∨ w.heap.size ≤ k_))) (pV_ HO_1.out) hg (.inl rfl)); replace HO_5 := Aside0.mk (hp_); replace HB := Aside0.mk ((by rw [hw]; exact below_set (HB.out) GB25.out : Below w.heap.size w w28)); clear hg hw hp_))
    go_roundg k2
    case measure => have := HJ2.out; have := HK2.out; omega
    case rel => exact ⟨(y360), (t359), (wrap64 (x22_2 + 1)), (by first | rfl | (simp; done) | (simp [*]; done)), (by first | rfl | (simp; done) | (simp [*]; done)), H', ⟨by have := HJ2.out; have := HK2.out; omega⟩, ⟨by (with_reducible repeat (first | apply Kd.V_alloc | apply Kd.V_drewN | apply Kd.V_drew)); exact HO_0.out⟩, ⟨by (with_reducible repeat (first | apply Kd.V_alloc | apply Kd.V_drewN | apply Kd.V_drew)); exact HO_1.out⟩, ⟨by (with_reducible repeat (first | apply Kd.R_alloc | apply Kd.R_drewN | apply Kd.R_drew)); exact HO_5.out⟩, ⟨pB_ HB.out⟩⟩
  rw [if_pos c12] at H
  have c12b0 : decide (x22_2 < (x1_2.length : Int)) = true := decide_eq_true c12
  clear c12
  by_cases c13 : 0 ≤ x22_2
  rotate_left
  · rw [if_neg c13] at H; exact absurd H (by simp)
  rw [if_pos c13] at H
  have c13b0 : decide (0 ≤ x22_2) = true := decide_eq_true c13
  clear c13
  by_cases c14 : x22_2 < (x0_2.length : Int)
  rotate_left
  · rw [if_neg c14] at H; exact absurd H (by simp)
  rw [if_pos c14] at H
  have c14b0 : decide (x22_2 < (x0_2.length : Int)) = true := decide_eq_true c14
  clear c14
  replace H := Option.bind_eq_some_iff.mp H
  obtain ⟨⟨t354, t355⟩, A150, H⟩ := H
  replace H : (if x22_2 < (x5_2.length : Int) then (impl_nat_plus.l0 k2 x0_2 x1_2 (x5_2.set (x22_2 : Int).toNat t354) t355 (x0_2.length : Int) (wrap64 (x22_2 + 1))) else (none)) = some r := H
  have A15 := Aside0.mk A150
  clear A150
  by_cases c16 : x22_2 < (x5_2.length : Int)
  rotate_left
  · rw [if_neg c16] at H; exact absurd H (by simp)
  rw [if_pos c16] at H
  have c16b0 : decide (x22_2 < (x5_2.length : Int)) = true := decide_eq_true c16
  clear c16
  obtain ⟨y356, hy356⟩ : ∃ y_ : List Int, y_ = (x5_2.set (x22_2 : Int).toNat t354) := ⟨_, rfl⟩
  first | rw [← hy356] at H | skip
  have Ny356 := Aside0.mk hy356
  clear hy356
  have H' := Aside0.mk H
  clear H
  obtain ⟨Ao18, co18, eo18⟩ := Kd.V_slice HO_1.out
  subst eo18
  have p352 : 0 ≤ (x22_2 : Int) := od_
  have q352 : x22_2 < (x1_2.length : Int) := od_
  obtain ⟨ad352, e352, hx352_0⟩ := Kd.at_int (Kd.V_reads' HO_1.out).2.2 x22_2 p352 q352
  cases e352
  replace p352 := eq_true p352
  replace q352 := eq_true q352
  have p353 : 0 ≤ (x22_2 : Int) := od_
  have q353 : x22_2 < (x0_2.length : Int) := od_
  obtain ⟨ad353, e353, hx353_0⟩ := Kd.at_int (Kd.V_reads' HO_0.out).2.2 x22_2 p353 q353
  cases e353
  replace p353 := eq_true p353
  replace q353 := eq_true q353
  go_wp2_with (first | ((with_reducible refine gate_callee (f := 83) rfl ?_); refine gX_ 42 rfl #[.int .u64 (rd x0_2 x22_2), .int .u64 (rd x1_2 x22_2), .int .u64 x6_2] (bits_Add64.run (rd x0_2 x22_2) (rd x1_2 x22_2) x6_2 t354 t355 A15.out _) ?_; intro nd _; (try (rw [drewN_self wr]; generalize hq_ : World.drewN wr _ = wr; have n0_ : Aside0 (Kd.V (Kd.int .u64) 83 wr w.heap.size (fun k_ => ((P0_ k_ ∨ P1_ k_) ∨ w.heap.size ≤ k_) ∧ some k_ ≠ (v350 : Value).ownBlock) (.slice (some ad353) x0_2.length co8) x0_2) := ⟨by rw [← hq_]; exact (pV_ HO_0.out)⟩; have n1_ : Aside0 (Kd.V (Kd.int .u64) 83 wr w.heap.size (fun k_ => ((P0_ k_ ∨ P1_ k_) ∨ w.heap.size ≤ k_) ∧ some k_ ≠ (v350 : Value).ownBlock) (.slice (some ad352) x1_2.length co18) x1_2) := ⟨by rw [← hq_]; exact (pV_ HO_1.out)⟩; have n2_ : Aside0 (Kd.R (Kd.int .u64) 83 wr w.heap.size (fun k_ => (w.heap.size ≤ k_)) v350 x5_2) := ⟨by rw [← hq_]; exact (pR_ HO_5.out)⟩; have n3_ : Aside0 (Below w.heap.size w wr) := ⟨by rw [← hq_]; exact (pB_ HB.out)⟩; clear HO_0 HO_1 HO_5 HB hq_; have HO_0 := n0_; have HO_1 := n1_; have HO_5 := n2_; have HB := n3_; clear n0_ n1_ n2_ n3_)); have p17 : 0 ≤ (x22_2 : Int) := od_; have q17 : (x22_2 : Int) < ((x5_2.length : Int) : Int) := od_; obtain ⟨go17, co17, eo17, gb17, gl17, cl17, HG17⟩ := Kd.R_form HO_5.out (by omega); (first | cases eo17 | (injection eo17 with ea_ en_ ec_; (first | subst ea_ | (injection ea_ with ea_; subst ea_)); subst ec_; clear en_)); have GB17 := Aside0.mk gb17; have GG17 := Aside0.mk HG17; clear gb17 gl17 HG17; obtain ⟨hx17_0, hf17_0⟩ := Kd.R_celln 0 HO_5.out (x22_2 : Int) p17 q17; replace p17 := eq_true p17; replace q17 := eq_true q17; obtain ⟨hy19_, hz19_⟩ := Kd.R_celln 0 HO_5.out (x22_2 : Int) (od_) (od_); have HP19 := Kd.R_putg HO_5.out (x22_2 : Int) t354) | ((with_reducible refine gate_store (t := 83) (p := 45) rfl ?_); refine store_event (t := 83) (p := 45) (v := ?vo_w20) (w1 := (wr.setCell ⟨go17, (x22_2 : Int).toNat, none⟩ (.int .u64 t354))) ?hg ?ho ?hn ?hr ?_; (case ho => rfl); (case hg => rfl); (case hn => rfl); (case hr => first | (go_simp; done) | (go_simp; rfl)); intro w20 hw; have hg : wr.grownBy w20 (some go17) := (by rw [hw]; exact HP19.2); have hp_ : Kd.R (Kd.int .u64) 83 w20 w.heap.size (fun k_ => (w.heap.size ≤ k_)) (.slice (some ⟨go17, 0, none⟩) x5_2.length co17) y356 := (by rw [hw, Ny356.out]; exact HP19.1); clear HP19; replace HO_0 := Aside0.mk (Kd.V_afterv (v := (.slice (some ⟨go17, 0, none⟩) x5_2.length co17)) (v1 := (.slice (some ⟨go17, 0, none⟩) x5_2.length co17)) (ok := (fun k_ => ((P0_ k_ ∨ P1_ k_) ∨ w.heap.size ≤ k_))) (pV_ HO_0.out) hg (.inl rfl)); replace HO_1 := Aside0.mk (Kd.V_afterv (v := (.slice (some ⟨go17, 0, none⟩) x5_2.length co17)) (v1 := (.slice (some ⟨go17, 0, none⟩) x5_2.length co17)) (ok := (fun k_ => ((P0_ k_ ∨ P1_ k_) ∨ w.heap.size ≤ k_))) (pV_ HO_1.out) hg (.inl rfl)); replace HO_5 := Aside0.mk (hp_); replace HB := Aside0.mk ((by rw [hw]; exact below_set (HB.out) GB17.out : Below w.heap.size w w20)); clear hg hw hp_))
  go_roundg k2
  case measure => have := HJ2.out; have := HK2.out; omega
  case rel => exact ⟨(y356), (t355), (wrap64 (x22_2 + 1)), (by first | rfl | (simp; done) | (simp [*]; done)), (by first | rfl | (simp; done) | (simp [*]; done)), H', ⟨by have := HJ2.out; have := HK2.out; omega⟩, ⟨by (with_reducible repeat (first | apply Kd.V_alloc | apply Kd.V_drewN | apply Kd.V_drew)); exact HO_0.out⟩, ⟨by (with_reducible repeat (first | apply Kd.V_alloc | apply Kd.V_drewN | apply Kd.V_drew)); exact HO_1.out⟩, ⟨by (with_reducible repeat (first | apply Kd.R_alloc | apply Kd.R_drewN | apply Kd.R_drew)); exact HO_5.out⟩, ⟨pB_ HB.out⟩⟩

end Go.Proofs.Ytghhnjhjhjbljaa.F
