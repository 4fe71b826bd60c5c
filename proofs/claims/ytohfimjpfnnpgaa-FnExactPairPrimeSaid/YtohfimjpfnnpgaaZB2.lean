-- Made for this seat by a program of this session (wip/fork, wip/slim.py). Lean checks it.
import Derived.Test.YtohfimjpfnnpgaaFx0
import Derived.Test.YtohfimjpfnnpgaaZB0
namespace Go.Proofs.Ytohfimjpfnnpgaa.F
open Go.RowKit Go.Proofs.YtohfimjpfnnpgaaW.PrintWords Go.Proofs.YtohfimjpfnnpgaaW.PrintLast Go.Proofs.YtohfimjpfnnpgaaW.PrintMore
attribute [local go_sem] max2_int min2_int max_two min_two max_three min_three max_four min_four   -- for this text's walks alone
set_option linter.unusedVariables false
set_option linter.unusedSimpArgs false

/-! ### bits_Mul64: function 123 -/
def bits_Mul64.f (a0 : Int) (a1 : Int) : Option (Int × Int) := some (IntKind.u64.wrap ((IntKind.u64.wrap ((IntKind.u64.wrap ((a0 / 4294967296) * (a1 / 4294967296))) + ((IntKind.u64.wrap ((IntKind.u64.wrap ((a0 / 4294967296) * (Go.bits .and .u64 a1 4294967295))) + ((IntKind.u64.wrap ((Go.bits .and .u64 a0 4294967295) * (Go.bits .and .u64 a1 4294967295))) / 4294967296))) / 4294967296))) + ((IntKind.u64.wrap ((Go.bits .and .u64 (IntKind.u64.wrap ((IntKind.u64.wrap ((a0 / 4294967296) * (Go.bits .and .u64 a1 4294967295))) + ((IntKind.u64.wrap ((Go.bits .and .u64 a0 4294967295) * (Go.bits .and .u64 a1 4294967295))) / 4294967296))) 4294967295) + (IntKind.u64.wrap ((Go.bits .and .u64 a0 4294967295) * (a1 / 4294967296))))) / 4294967296)), IntKind.u64.wrap (a0 * a1))
set_option maxHeartbeats 8000000 in
set_option maxRecDepth 100000 in
theorem bits_Mul64.calls (a0 : Int) (a1 : Int) (r1 : Int) (r2 : Int) (w : World) (h : bits_Mul64.f a0 a1 = some (r1, r2)) :
    Calls Try.prog 123 #[.int .u64 a0, .int .u64 a1] w fun e w' => e = .returned (.tuple #[.int .u64 r1, .int .u64 r2]) ∧ Drawn0 w w' := by
  have H : (some (IntKind.u64.wrap ((IntKind.u64.wrap ((IntKind.u64.wrap ((a0 / 4294967296) * (a1 / 4294967296))) + ((IntKind.u64.wrap ((IntKind.u64.wrap ((a0 / 4294967296) * (Go.bits .and .u64 a1 4294967295))) + ((IntKind.u64.wrap ((Go.bits .and .u64 a0 4294967295) * (Go.bits .and .u64 a1 4294967295))) / 4294967296))) / 4294967296))) + ((IntKind.u64.wrap ((Go.bits .and .u64 (IntKind.u64.wrap ((IntKind.u64.wrap ((a0 / 4294967296) * (Go.bits .and .u64 a1 4294967295))) + ((IntKind.u64.wrap ((Go.bits .and .u64 a0 4294967295) * (Go.bits .and .u64 a1 4294967295))) / 4294967296))) 4294967295) + (IntKind.u64.wrap ((Go.bits .and .u64 a0 4294967295) * (a1 / 4294967296))))) / 4294967296)), IntKind.u64.wrap (a0 * a1))) = some (r1, r2) := h
  clear h
  simp only [Option.some.injEq, Prod.mk.injEq] at H
  obtain ⟨rfl, rfl⟩ := H
  go_enter Try.func123, Try.ntmps123
  go_wp2
  go_ret2
  exact ⟨by first | rfl | (simp; done) | (simp [*]; done), by repeat (first | exact Drawn0.refl _ | apply Drawn0.step)⟩

/-! ### impl_nat_times: function 122 -/
mutual
def impl_nat_times.l0 : Nat → List Int → List Int → List Int → Int → Int → Option (List Int)
  | 0, _, _, _, _, _ => none
  | k + 1, x1, x5, x20, x21, x22 => if x22 < x21 then (if 0 ≤ x22 then (if x22 < (x20.length : Int) then (impl_nat_times.l1 k x1 x5 x22 (rd x20 x22) 0 x20 x21 x22 x1 (x1.length : Int) 0) else (none)) else (none)) else ((impl_nat_trim.f k x5).bind fun t369 => (some t369))
def impl_nat_times.l1 : Nat → List Int → List Int → Int → Int → Int → List Int → Int → Int → List Int → Int → Int → Option (List Int)
  | 0, _, _, _, _, _, _, _, _, _, _, _ => none
  | k + 1, x1, x5, x6, x7, x8, x20, x21, x22, x27, x28, x29 => if x29 < x28 then (if 0 ≤ x29 then (if x29 < (x27.length : Int) then ((bits_Mul64.f x7 (rd x27 x29)).bind fun bt374 => (if 0 ≤ (wrap64 (x6 + x29)) then (if (wrap64 (x6 + x29)) < (x5.length : Int) then ((bits_Add64.f bt374.2 (rd x5 (wrap64 (x6 + x29))) 0).bind fun bt377 => ((bits_Add64.f bt377.1 x8 0).bind fun bt379 => (impl_nat_times.l1 k x1 (x5.set ((wrap64 (x6 + x29)) : Int).toNat bt379.1) x6 x7 (IntKind.u64.wrap ((IntKind.u64.wrap (bt374.1 + bt377.2)) + bt379.2)) x20 x21 x22 x27 x28 (wrap64 (x29 + 1))))) else (none)) else (none))) else (none)) else (none)) else (if 0 ≤ (wrap64 (x6 + (x1.length : Int))) then (if (wrap64 (x6 + (x1.length : Int))) < (x5.length : Int) then (impl_nat_times.l0 k x1 (x5.set ((wrap64 (x6 + (x1.length : Int))) : Int).toNat x8) x20 x21 (wrap64 (x22 + 1))) else (none)) else (none))
end
def impl_nat_times.f (k : Nat) (l0 : List Int) (l1 : List Int) : Option (List Int) := if 0 ≤ (wrap64 ((l0.length : Int) + (l1.length : Int))) then (if (wrap64 ((l0.length : Int) + (l1.length : Int)) : Int).toNat ≤ 35184372088832 then (impl_nat_times.l0 k l1 (List.replicate (wrap64 ((l0.length : Int) + (l1.length : Int)) : Int).toNat 0) l0 (l0.length : Int) 0) else (none)) else (none)
set_option maxHeartbeats 8000000 in
set_option maxRecDepth 100000 in
theorem impl_nat_times.calls (k : Nat) (A0 : Option Addr) (c0 : Nat) (l0 : List Int) (A1 : Option Addr) (c1 : Nat) (l1 : List Int) (r : List Int) (w : World) (hr0 : Kd.C (Kd.int .u64) w A0 l0.length l0) (hc0 : l0.length ≤ c0) (hr1 : Kd.C (Kd.int .u64) w A1 l1.length l1) (hc1 : l1.length ≤ c1) (h : impl_nat_times.f k l0 l1 = some r) :
    Calls Try.prog 122 #[.slice A0 l0.length c0, .slice A1 l1.length c1] w fun e w' => ∃ v0_ : Value, e = .returned (v0_) ∧ Kd.V (Kd.int .u64) 89 w' w.heap.size (fun k_ => (w.heap.size ≤ k_)) v0_ r ∧ Below w.heap.size w w' := by
  have HR0 := Aside0.mk hr0
  have HC0 := Aside0.mk hc0
  clear hr0 hc0
  have HR1 := Aside0.mk hr1
  have HC1 := Aside0.mk hc1
  clear hr1 hc1
  have HB := Aside0.mk (Below.refl w.heap.size w)
  have H : (if 0 ≤ (wrap64 ((l0.length : Int) + (l1.length : Int))) then (if (wrap64 ((l0.length : Int) + (l1.length : Int)) : Int).toNat ≤ 35184372088832 then (impl_nat_times.l0 k l1 (List.replicate (wrap64 ((l0.length : Int) + (l1.length : Int)) : Int).toNat 0) l0 (l0.length : Int) 0) else (none)) else (none)) = some r := h
  clear h
  obtain ⟨ji3, hji3⟩ : ∃ j_ : Int, (wrap64 ((l0.length : Int) + (l1.length : Int))) = j_ := ⟨_, rfl⟩
  first | rw [hji3] at H | simp only [hji3] at H | skip
  have hji3w : (IntKind.i64.wrap ((l0.length : Int) + (l1.length : Int))) = ji3 := (i64_w _).trans hji3
  by_cases c4 : 0 ≤ (ji3)
  rotate_left
  · rw [if_neg c4] at H
    exact absurd H (by simp)

  rw [if_pos c4] at H
  have c4b0 := eq_true c4
  have c4b1 : decide (0 ≤ (ji3)) = true := decide_eq_true c4
  clear c4
  by_cases c5 : (ji3 : Int).toNat ≤ 35184372088832
  rotate_left
  · rw [if_neg c5] at H; exact absurd H (by simp)
  rw [if_pos c5] at H
  have c5b0 := eq_true c5
  have c5b1 : decide ((ji3 : Int).toNat ≤ 35184372088832) = true := decide_eq_true c5
  clear c5
  obtain ⟨y366, hy366⟩ : ∃ y_ : List Int, y_ = (List.replicate (ji3 : Int).toNat 0) := ⟨_, rfl⟩
  first | rw [← hy366] at H | skip
  have Ny366 := Aside0.mk hy366
  clear hy366
  have H' := Aside0.mk H
  clear H
  go_enter Try.func122, Try.ntmps122
  go_wp2_with (first | ((with_reducible refine gate_dst (N := 19) rfl ?_); refine Kd.R_make (Kd.int .u64) _ 89 rfl (N := 19) rfl 56 _ _ rfl ji3 rfl rfl Try.underlying56 (.int .u64 0) 8 info89 rfl (by decide) (by omega) 0 (ok := fun _ => True) (okp := fun _ => True) rfl (fun _ hk => hk) trivial (od_) (Nat.le_trans (Nat.mul_le_mul_right _ (od_ : ji3.toNat ≤ 35184372088832)) (by omega)) (Below.refl _ _) (Nat.le_refl _) ?_; intro v367 w6 ho7 hb hg_ hnew_; clear hg_ hnew_; (first | rw [← Ny366.out] at ho7 | (simp only [Int.reduceToNat] at ho7; rw [← Ny366.out] at ho7)); have HO368 := Aside0.mk (Kd.R_lower (Kd.R_newM (M := fun k_ => (w.heap.size ≤ k_)) ho7 (below_size (pB_ HB.out)) (fun k_ h_ => h_)) (below_size (pB_ HB.out))); replace HB := Aside0.mk (below_step (pB_ HB.out) hb); clear hb ho7))
  go_loopg [22] k (fun kq v22 w' => ∃ (x5_1 : List Int) (x22_1 : Int), v22 = .int .i64 x22_1 ∧ Aside0 (impl_nat_times.l0 kq l1 x5_1 l0 (l0.length : Int) x22_1 = some r) ∧ Aside0 (kq ≤ k) ∧ Aside0 (Kd.R (Kd.int .u64) 89 w' w.heap.size (fun k_ => (w.heap.size ≤ k_)) v367 x5_1) ∧ Aside0 (Below w.heap.size w w'))
  case atStart => exact ⟨(y366), (0), (by first | rfl | (simp; done) | (simp [*]; done)), H', ⟨Nat.le_refl _⟩, ⟨by (with_reducible repeat (first | apply Kd.R_alloc | apply Kd.R_drewN | apply Kd.R_drew)); exact Kd.R_mono HO368.out (fun _ hk => hk.1)⟩, ⟨pB_ HB.out⟩⟩
  clear H'
  try clear c1
  try clear p2
  try clear c4
  try clear c4b0
  try clear c4b1
  try clear c5
  try clear c5b0
  try clear c5b1
  try clear p6
  obtain ⟨x5_1, x22_1, rfl, HA, HK1, HO_5, HB⟩ := hrel
  rcases gk with _ | k1
  · exact absurd HA.out (by simp [impl_nat_times.l0])
  have H := HA.out
  clear HA
  simp only [impl_nat_times.l0] at H
  by_cases c8 : x22_1 < (l0.length : Int)
  rotate_left
  · rw [if_neg c8] at H
    have c8b0 : decide (x22_1 < (l0.length : Int)) = false := decide_eq_false c8
    clear c8
    replace H := Option.bind_eq_some_iff.mp H
    obtain ⟨t369, A300, H⟩ := H
    have A30 := Aside0.mk A300
    clear A300
    obtain rfl := Option.some.inj H
    obtain ⟨Ao31, co31, eo31⟩ := Kd.R_slice HO_5.out
    subst eo31
    go_wp2_with (first | ((with_reducible refine gate_callee (f := 89) rfl ?_); refine gL_ 79 Try.func89 rfl #[.slice Ao31 x5_1.length co31] ?_; (with_reducible refine (impl_nat_trim.calls k1 (fun k_ => some k_ = (.slice Ao31 x5_1.length co31 : Value).ownBlock) _ _ x5_1 t369 _ ?side1 A30.out).mono ?_); (case side1 => exact Kd.R_V (Kd.R_tight rfl (HO_5.out))); rintro e w32 ⟨v370, rfl, ho0, hb⟩; refine ⟨_, rfl, ?_⟩; have HO371 := Aside0.mk (Kd.V_lower (Kd.V_mono (ok' := fun k_ => (w.heap.size ≤ k_)) ho0 (fun k_ hk_ => Or.elim hk_ (fun hs_ => ((HO_5.out).1 k_ hs_.symm)) (fun hn_ => (Nat.le_trans (below_size (pB_ HB.out)) hn_)))) (below_size (pB_ HB.out))); replace HO_5 := Aside0.mk (Kd.R_below (pR_ HO_5.out) hb); replace HB := Aside0.mk (below_step (pB_ HB.out) hb); clear hb ho0))
    go_ret
    exact ⟨_, by first | rfl | (simp [errW_none, errW_some] <;> rfl) | (simp only [← hji3]; first | rfl | (simp [errW_none, errW_some] <;> rfl)) | (simp [*, errW_none, errW_some] <;> rfl), by (with_reducible repeat (first | apply Kd.V_alloc | apply Kd.V_drewN | apply Kd.V_drew)); exact HO371.out, pB_ HB.out⟩
  rw [if_pos c8] at H
  have c8b0 : decide (x22_1 < (l0.length : Int)) = true := decide_eq_true c8
  clear c8
  by_cases c9 : 0 ≤ x22_1
  rotate_left
  · rw [if_neg c9] at H; exact absurd H (by simp)
  rw [if_pos c9] at H
  have c9b0 : decide (0 ≤ x22_1) = true := decide_eq_true c9
  clear c9
  by_cases c10 : x22_1 < (l0.length : Int)
  rotate_left
  · rw [if_neg c10] at H; exact absurd H (by simp)
  rw [if_pos c10] at H
  have c10b0 : decide (x22_1 < (l0.length : Int)) = true := decide_eq_true c10
  clear c10
  have H' := Aside0.mk H
  clear H
  have p372 : 0 ≤ (x22_1 : Int) := od_
  have q372 : x22_1 < (l0.length : Int) := od_
  obtain ⟨ad372, e372, hx372_0⟩ := Kd.at_int HR0.out x22_1 p372 q372
  cases e372
  replace hx372_0 := (HB.out.cell (World.block_lt_of_cell? w _ hx372_0)).trans hx372_0
  replace p372 := eq_true p372
  replace q372 := eq_true q372
  go_wp2
  go_loopg [8, 29] k1 (fun kq v8 v29 w' => ∃ (x5_2 : List Int) (x8_2 : Int) (x29_2 : Int), v8 = .int .u64 x8_2 ∧ v29 = .int .i64 x29_2 ∧ Aside0 (impl_nat_times.l1 kq l1 x5_2 x22_1 (rd l0 x22_1) x8_2 l0 (l0.length : Int) x22_1 l1 (l1.length : Int) x29_2 = some r) ∧ Aside0 (kq ≤ k1) ∧ Aside0 (Kd.R (Kd.int .u64) 89 w' w.heap.size (fun k_ => (w.heap.size ≤ k_)) v367 x5_2) ∧ Aside0 (Below w.heap.size w w'))
  case atStart => exact ⟨(x5_1), (0), (0), (by first | rfl | (simp; done) | (simp [*]; done)), (by first | rfl | (simp; done) | (simp [*]; done)), H', ⟨Nat.le_refl _⟩, ⟨by (with_reducible repeat (first | apply Kd.R_alloc | apply Kd.R_drewN | apply Kd.R_drew)); exact HO_5.out⟩, ⟨pB_ HB.out⟩⟩
  clear H'
  try clear c1
  try clear p2
  try clear p3
  try clear q3
  try clear hx3
  try clear c4
  try clear c4b0
  try clear c4b1
  try clear c5
  try clear c5b0
  try clear c5b1
  try clear p6
  try clear c8
  try clear c8b0
  try clear c9
  try clear c9b0
  try clear c10
  try clear c10b0
  try clear hx372_0
  try clear p2
  try clear p372
  try clear p6
  try clear q372
  obtain ⟨x5_2, x8_2, x29_2, rfl, rfl, HA, HK2, HO_5, HB⟩ := hrel
  rcases gk with _ | k2
  · exact absurd HA.out (by simp [impl_nat_times.l1])
  have H := HA.out
  clear HA
  simp only [impl_nat_times.l1] at H
  by_cases c11 : x29_2 < (l1.length : Int)
  rotate_left
  · rw [if_neg c11] at H
    have c11b0 : decide (x29_2 < (l1.length : Int)) = false := decide_eq_false c11
    clear c11
    obtain ⟨ji24, hji24⟩ : ∃ j_ : Int, (wrap64 (x22_1 + (l1.length : Int))) = j_ := ⟨_, rfl⟩
    first | rw [hji24] at H | simp only [hji24] at H | skip
    have hji24w : (IntKind.i64.wrap (x22_1 + (l1.length : Int))) = ji24 := (i64_w _).trans hji24
    by_cases c25 : 0 ≤ (ji24)
    rotate_left
    · rw [if_neg c25] at H; exact absurd H (by simp)
    rw [if_pos c25] at H
    have c25b0 : decide (0 ≤ (ji24)) = true := decide_eq_true c25
    clear c25
    by_cases c26 : (ji24) < (x5_2.length : Int)
    rotate_left
    · rw [if_neg c26] at H; exact absurd H (by simp)
    rw [if_pos c26] at H
    have c26b0 : decide ((ji24) < (x5_2.length : Int)) = true := decide_eq_true c26
    clear c26
    obtain ⟨y382, hy382⟩ : ∃ y_ : List Int, y_ = (x5_2.set ((ji24) : Int).toNat x8_2) := ⟨_, rfl⟩
    first | rw [← hy382] at H | skip
    have Ny382 := Aside0.mk hy382
    clear hy382
    have H' := Aside0.mk H
    clear H
    have p27 : 0 ≤ ((ji24) : Int) := od_
    have q27 : ((ji24) : Int) < ((x5_2.length : Int) : Int) := od_
    obtain ⟨go27, co27, eo27, gb27, gl27, cl27, HG27⟩ := Kd.R_form HO_5.out (by omega)
    (first | cases eo27 | (injection eo27 with ea_ en_ ec_; (first | subst ea_ | (injection ea_ with ea_; subst ea_)); subst ec_; clear en_))
    have GB27 := Aside0.mk gb27
    have GG27 := Aside0.mk HG27
    clear gb27 gl27 HG27
    obtain ⟨hx27_0, hf27_0⟩ := Kd.R_celln 0 HO_5.out ((ji24) : Int) p27 q27
    replace p27 := eq_true p27
    replace q27 := eq_true q27
    have HP28 := Kd.R_putg HO_5.out ((ji24) : Int) x8_2
    go_wp2_with (first | ((with_reducible refine gate_store (t := 89) (p := 76) rfl ?_); refine store_event (t := 89) (p := 76) (v := ?vo_w29) (w1 := (wr.setCell ⟨go27, ((ji24) : Int).toNat, none⟩ (.int .u64 x8_2))) ?hg ?ho ?hn ?hr ?_; (case ho => rfl); (case hg => rfl); (case hn => rfl); (case hr => first | (go_simp; done) | (go_simp; rfl)); intro w29 hw; have hg : wr.grownBy w29 (some go27) := (by rw [hw]; exact HP28.2); have hp_ : Kd.R (Kd.int .u64) 89 w29 w.heap.size (fun k_ => (w.heap.size ≤ k_)) (.slice (some ⟨go27, 0, none⟩) x5_2.length co27) y382 := (by rw [hw, Ny382.out]; exact HP28.1); clear HP28; replace HO_5 := Aside0.mk (hp_); replace HB := Aside0.mk ((by rw [hw]; exact below_set (HB.out) GB27.out : Below w.heap.size w w29)); clear hg hw hp_))
    go_roundg k2
    case measure => have := HK1.out; have := HK2.out; omega
    case rel => exact ⟨(y382), (wrap64 (x22_1 + 1)), (by first | rfl | (simp; done) | (simp [*]; done)), H', ⟨by have := HK1.out; have := HK2.out; omega⟩, ⟨by (with_reducible repeat (first | apply Kd.R_alloc | apply Kd.R_drewN | apply Kd.R_drew)); exact HO_5.out⟩, ⟨pB_ HB.out⟩⟩
  rw [if_pos c11] at H
  have c11b0 : decide (x29_2 < (l1.length : Int)) = true := decide_eq_true c11
  clear c11
  by_cases c12 : 0 ≤ x29_2
  rotate_left
  · rw [if_neg c12] at H; exact absurd H (by simp)
  rw [if_pos c12] at H
  have c12b0 : decide (0 ≤ x29_2) = true := decide_eq_true c12
  clear c12
  by_cases c13 : x29_2 < (l1.length : Int)
  rotate_left
  · rw [if_neg c13] at H; exact absurd H (by simp)
  rw [if_pos c13] at H
  have c13b0 : decide (x29_2 < (l1.length : Int)) = true := decide_eq_true c13
  clear c13
  replace H := Option.bind_eq_some_iff.mp H
  obtain ⟨⟨t374, t375⟩, A140, H⟩ := H
  replace H : (if 0 ≤ (wrap64 (x22_1 + x29_2)) then (if (wrap64 (x22_1 + x29_2)) < (x5_2.length : Int) then ((bits_Add64.f t375 (rd x5_2 (wrap64 (x22_1 + x29_2))) 0).bind fun bt377 => ((bits_Add64.f bt377.1 x8_2 0).bind fun bt379 => (impl_nat_times.l1 k2 l1 (x5_2.set ((wrap64 (x22_1 + x29_2)) : Int).toNat bt379.1) x22_1 (rd l0 x22_1) (IntKind.u64.wrap ((IntKind.u64.wrap (t374 + bt377.2)) + bt379.2)) l0 (l0.length : Int) x22_1 l1 (l1.length : Int) (wrap64 (x29_2 + 1))))) else (none)) else (none)) = some r := H
  have A14 := Aside0.mk A140
  clear A140
  obtain ⟨ji15, hji15⟩ : ∃ j_ : Int, (wrap64 (x22_1 + x29_2)) = j_ := ⟨_, rfl⟩
  first | rw [hji15] at H | simp only [hji15] at H | skip
  (try rw [hji15] at A14)
  have hji15w : (IntKind.i64.wrap (x22_1 + x29_2)) = ji15 := (i64_w _).trans hji15
  by_cases c16 : 0 ≤ (ji15)
  rotate_left
  · rw [if_neg c16] at H; exact absurd H (by simp)
  rw [if_pos c16] at H
  have c16b0 : decide (0 ≤ (ji15)) = true := decide_eq_true c16
  clear c16
  by_cases c17 : (ji15) < (x5_2.length : Int)
  rotate_left
  · rw [if_neg c17] at H; exact absurd H (by simp)
  rw [if_pos c17] at H
  have c17b0 : decide ((ji15) < (x5_2.length : Int)) = true := decide_eq_true c17
  clear c17
  replace H := Option.bind_eq_some_iff.mp H
  obtain ⟨⟨t377, t378⟩, A180, H⟩ := H
  replace H : ((bits_Add64.f t377 x8_2 0).bind fun bt379 => (impl_nat_times.l1 k2 l1 (x5_2.set ((ji15) : Int).toNat bt379.1) x22_1 (rd l0 x22_1) (IntKind.u64.wrap ((IntKind.u64.wrap (t374 + t378)) + bt379.2)) l0 (l0.length : Int) x22_1 l1 (l1.length : Int) (wrap64 (x29_2 + 1)))) = some r := H
  have A18 := Aside0.mk A180
  clear A180
  replace H := Option.bind_eq_some_iff.mp H
  obtain ⟨⟨t379, t380⟩, A190, H⟩ := H
  replace H : (impl_nat_times.l1 k2 l1 (x5_2.set ((ji15) : Int).toNat t379) x22_1 (rd l0 x22_1) (IntKind.u64.wrap ((IntKind.u64.wrap (t374 + t378)) + t380)) l0 (l0.length : Int) x22_1 l1 (l1.length : Int) (wrap64 (x29_2 + 1))) = some r := H
  have A19 := Aside0.mk A190
  clear A190
  obtain ⟨y381, hy381⟩ : ∃ y_ : List Int, y_ = (x5_2.set ((ji15) : Int).toNat t379) := ⟨_, rfl⟩
  first | rw [← hy381] at H | skip
  have Ny381 := Aside0.mk hy381
  clear hy381
  have H' := Aside0.mk H
  clear H
  have p373 : 0 ≤ (x29_2 : Int) := od_
  have q373 : x29_2 < (l1.length : Int) := od_
  obtain ⟨ad373, e373, hx373_0⟩ := Kd.at_int HR1.out x29_2 p373 q373
  cases e373
  replace hx373_0 := (HB.out.cell (World.block_lt_of_cell? w _ hx373_0)).trans hx373_0
  replace p373 := eq_true p373
  replace q373 := eq_true q373
  go_wp2_with (first | ((with_reducible refine gate_callee (f := 123) rfl ?_); refine gL_ 37 Try.func123 rfl #[.int .u64 (rd l0 x22_1), .int .u64 (rd l1 x29_2)] ?_; (with_reducible refine (bits_Mul64.calls (rd l0 x22_1) (rd l1 x29_2) t374 t375 _ A14.out).mono ?_); rintro e w' ⟨rfl, ⟨nd, rfl⟩⟩; refine ⟨_, rfl, ?_⟩; (try (rw [drewN_self wr]; generalize hq_ : World.drewN wr _ = wr; have n0_ : Aside0 (Kd.R (Kd.int .u64) 89 wr w.heap.size (fun k_ => (w.heap.size ≤ k_)) v367 x5_2) := ⟨by rw [← hq_]; exact (pR_ HO_5.out)⟩; have n1_ : Aside0 (Below w.heap.size w wr) := ⟨by rw [← hq_]; exact (pB_ HB.out)⟩; clear HO_5 HB hq_; have HO_5 := n0_; have HB := n1_; clear n0_ n1_)); obtain ⟨Ao21, co21, eo21⟩ := Kd.R_slice HO_5.out; subst eo21; have p376 : 0 ≤ ((ji15) : Int) := od_; have q376 : (ji15) < (x5_2.length : Int) := od_; obtain ⟨ad376, e376, hx376_0⟩ := Kd.at_int (Kd.R_reads' HO_5.out).2.2 (ji15) p376 q376; cases e376; replace p376 := eq_true p376; replace q376 := eq_true q376) | ((with_reducible refine gate_callee (f := 110) rfl ?_); refine goesX_ (some 48) rfl rfl #[.int .u64 t375, .int .u64 (rd x5_2 (ji15)), .int .u64 0] rfl (by (try simp only [List.map_toArray, List.map_cons, List.map_nil]); first | done | (simp only [hji15]; rfl) | rfl) (bits_Add64.run t375 (rd x5_2 (ji15)) 0 t377 t378 A18.out _) ?_; intro nd _; (try (rw [drewN_self wr]; generalize hq_ : World.drewN wr _ = wr; have n0_ : Aside0 (Kd.R (Kd.int .u64) 89 wr w.heap.size (fun k_ => (w.heap.size ≤ k_)) (.slice (some ad376) x5_2.length co21) x5_2) := ⟨by rw [← hq_]; exact (pR_ HO_5.out)⟩; have n1_ : Aside0 (Below w.heap.size w wr) := ⟨by rw [← hq_]; exact (pB_ HB.out)⟩; clear HO_5 HB hq_; have HO_5 := n0_; have HB := n1_; clear n0_ n1_))) | ((with_reducible refine gate_callee (f := 110) rfl ?_); refine gX_ 57 rfl #[.int .u64 t377, .int .u64 x8_2, .int .u64 0] (bits_Add64.run t377 x8_2 0 t379 t380 A19.out _) ?_; intro nd _; (try (rw [drewN_self wr]; generalize hq_ : World.drewN wr _ = wr; have n0_ : Aside0 (Kd.R (Kd.int .u64) 89 wr w.heap.size (fun k_ => (w.heap.size ≤ k_)) (.slice (some ad376) x5_2.length co21) x5_2) := ⟨by rw [← hq_]; exact (pR_ HO_5.out)⟩; have n1_ : Aside0 (Below w.heap.size w wr) := ⟨by rw [← hq_]; exact (pB_ HB.out)⟩; clear HO_5 HB hq_; have HO_5 := n0_; have HB := n1_; clear n0_ n1_)); have p20 : 0 ≤ ((ji15) : Int) := od_; have q20 : ((ji15) : Int) < ((x5_2.length : Int) : Int) := od_; obtain ⟨go20, co20, eo20, gb20, gl20, cl20, HG20⟩ := Kd.R_form HO_5.out (by omega); (first | cases eo20 | (injection eo20 with ea_ en_ ec_; (first | subst ea_ | (injection ea_ with ea_; subst ea_)); subst ec_; clear en_)); have GB20 := Aside0.mk gb20; have GG20 := Aside0.mk HG20; clear gb20 gl20 HG20; (first | simp only [add_plain] at hx376_0 | skip); obtain ⟨hx20_0, hf20_0⟩ := Kd.R_celln 0 HO_5.out ((ji15) : Int) p20 q20; replace p20 := eq_true p20; replace q20 := eq_true q20; obtain ⟨hy22_, hz22_⟩ := Kd.R_celln 0 HO_5.out ((ji15) : Int) (od_) (od_); have HP22 := Kd.R_putg HO_5.out ((ji15) : Int) t379) | ((with_reducible refine gate_store (t := 89) (p := 68) rfl ?_); refine store_event (t := 89) (p := 68) (v := ?vo_w23) (w1 := (wr.setCell ⟨go20, ((ji15) : Int).toNat, none⟩ (.int .u64 t379))) ?hg ?ho ?hn ?hr ?_; (case ho => rfl); (case hg => rfl); (case hn => rfl); (case hr => first | (go_simp; done) | (go_simp; rfl)); intro w23 hw; have hg : wr.grownBy w23 (some go20) := (by rw [hw]; exact HP22.2); have hp_ : Kd.R (Kd.int .u64) 89 w23 w.heap.size (fun k_ => (w.heap.size ≤ k_)) (.slice (some ⟨go20, 0, none⟩) x5_2.length co21) y381 := (by rw [hw, Ny381.out]; exact HP22.1); clear HP22; replace HO_5 := Aside0.mk (hp_); replace HB := Aside0.mk ((by rw [hw]; exact below_set (HB.out) GB20.out : Below w.heap.size w w23)); clear hg hw hp_))
  go_roundg k2
  case measure => have := HK1.out; have := HK2.out; omega
  case rel => exact ⟨(y381), (IntKind.u64.wrap ((IntKind.u64.wrap (t374 + t378)) + t380)), (wrap64 (x29_2 + 1)), (by first | rfl | (simp; done) | (simp [*]; done)), (by first | rfl | (simp; done) | (simp [*]; done)), H', ⟨by have := HK1.out; have := HK2.out; omega⟩, ⟨by (with_reducible repeat (first | apply Kd.R_alloc | apply Kd.R_drewN | apply Kd.R_drew)); exact HO_5.out⟩, ⟨pB_ HB.out⟩⟩

/-! ### impl_fromFigures: function 120 -/
mutual
def impl_fromFigures.l0 : Nat → ByteArray → List Int → Int → Int → Int → Int → Option (List Int × Bool)
  | 0, _, _, _, _, _, _ => none
  | k + 1, x0, x4, x5, x6, x10, x11 => if x11 < x10 then (if 0 ≤ x11 then (if x11 < (x0.size : Int) then (if (bt x0 x11) < 48 then (impl_fromFigures.j1 k x0 x4 x5 x6 x11 (bt x0 x11) x10 x11 true) else (impl_fromFigures.j1 k x0 x4 x5 x6 x11 (bt x0 x11) x10 x11 (decide ((bt x0 x11) > 57)))) else (none)) else (none)) else (if x0.toList = ([] : List UInt8) then (some (x4, false)) else (if (x0.size : Int) = 1 then (some (x4, true)) else (if 0 < (x0.size : Int) then (some (x4, ((bt x0 0) != 48))) else (none))))
def impl_fromFigures.j1 : Nat → ByteArray → List Int → Int → Int → Int → Int → Int → Int → Bool → Option (List Int × Bool)
  | 0, _, _, _, _, _, _, _, _, _ => none
  | k + 1, x0, x4, x5, x6, x7, x8, x10, x11, x22 => if x22 = true then (some (([] : List Int), false)) else (if (Int.tmod x7 18) = 17 then (impl_fromFigures.j2 k x0 x4 (wrap64 ((wrap64 (10 * x5)) + ((x8 - 48) % 256))) (wrap64 (10 * x6)) x10 x11 true) else (impl_fromFigures.j2 k x0 x4 (wrap64 ((wrap64 (10 * x5)) + ((x8 - 48) % 256))) (wrap64 (10 * x6)) x10 x11 (x7 == (wrap64 ((x0.size : Int) - 1)))))
def impl_fromFigures.j2 : Nat → ByteArray → List Int → Int → Int → Int → Int → Bool → Option (List Int × Bool)
  | 0, _, _, _, _, _, _, _ => none
  | k + 1, x0, x4, x5, x6, x10, x11, x40 => if x40 = true then ((impl_small.f k x6).bind fun t383 => ((impl_nat_times.f k x4 t383).bind fun t386 => ((impl_small.f k x5).bind fun t389 => ((impl_nat_plus.f k t386 t389).bind fun t392 => (impl_fromFigures.l0 k x0 t392 0 1 x10 (wrap64 (x11 + 1))))))) else (impl_fromFigures.l0 k x0 x4 x5 x6 x10 (wrap64 (x11 + 1)))
end
def impl_fromFigures.f (k : Nat) (a0 : ByteArray) : Option (List Int × Bool) := impl_fromFigures.l0 k a0 ([] : List Int) 0 1 (a0.size : Int) 0
set_option maxHeartbeats 8000000 in
set_option maxRecDepth 100000 in
theorem impl_fromFigures.calls (k : Nat) (a0 : ByteArray) (r1 : List Int) (r2 : Bool) (w : World) (h : impl_fromFigures.f k a0 = some (r1, r2)) :
    Calls Try.prog 120 #[.string a0] w fun e w' => ∃ v0_ : Value, e = .returned (.tuple #[v0_, .bool r2]) ∧ Kd.V (Kd.int .u64) 89 w' w.heap.size (fun k_ => (w.heap.size ≤ k_)) v0_ r1 ∧ Below w.heap.size w w' := by
  have HB := Aside0.mk (Below.refl w.heap.size w)
  have H : (impl_fromFigures.l0 k a0 ([] : List Int) 0 1 (a0.size : Int) 0) = some (r1, r2) := h
  clear h
  have H' := Aside0.mk H
  clear H
  go_enter Try.func120, Try.ntmps120
  go_wp2
  repeat (go_quiet (fail); try go_wp2)
  go_loopg [4, 5, 6, 11] k (fun kq v4 v5 v6 v11 w' => ∃ (x4_1 : List Int) (x5_1 : Int) (x6_1 : Int) (x11_1 : Int), v5 = .int .i64 x5_1 ∧ v6 = .int .i64 x6_1 ∧ v11 = .int .i64 x11_1 ∧ Aside0 (impl_fromFigures.l0 kq a0 x4_1 x5_1 x6_1 (a0.size : Int) x11_1 = some (r1, r2)) ∧ Aside0 (kq ≤ k) ∧ Aside0 (Kd.V (Kd.int .u64) 89 w' w.heap.size (fun k_ => (w.heap.size ≤ k_)) v4 x4_1) ∧ Aside0 (Below w.heap.size w w'))
  case atStart => exact ⟨(([] : List Int)), (0), (1), (0), (by first | rfl | (simp; done) | (simp [*]; done)), (by first | rfl | (simp; done) | (simp [*]; done)), (by first | rfl | (simp; done) | (simp [*]; done)), H', ⟨Nat.le_refl _⟩, ⟨Kd.V_nil _ _ _ _ _⟩, ⟨pB_ HB.out⟩⟩
  clear H'
  try clear c1
  obtain ⟨x4_1, x5_1, x6_1, x11_1, rfl, rfl, rfl, HA, HK1, HO_4, HB⟩ := hrel
  rcases gk with _ | k1
  · exact absurd HA.out (by simp [impl_fromFigures.l0])
  have H := HA.out
  clear HA
  simp only [impl_fromFigures.l0] at H
  by_cases c2 : x11_1 < (a0.size : Int)
  rotate_left
  · rw [if_neg c2] at H
    have c2b0 : decide (x11_1 < (a0.size : Int)) = false := decide_eq_false c2
    clear c2
    by_cases c24 : a0.toList = ([] : List UInt8)
    · rw [if_pos c24] at H
      have c24b0 : (a0.toList == ([] : List UInt8)) = true := beq_iff_eq.mpr c24
      have c24b1 : (a0.toList != ([] : List UInt8)) = false := bne_eq_false_iff_eq.mpr c24
      clear c24
      simp only [Option.some.injEq, Prod.mk.injEq] at H
      obtain ⟨rfl, rfl⟩ := H
      go_wp2
      repeat (go_quiet (fail); try go_wp2)
      go_ret2
      exact ⟨_, by first | rfl | (simp [errW_none, errW_some] <;> rfl) | (simp [*, errW_none, errW_some] <;> rfl), by (with_reducible repeat (first | apply Kd.V_alloc | apply Kd.V_drewN | apply Kd.V_drew)); exact HO_4.out, pB_ HB.out⟩
    rw [if_neg c24] at H
    have c24b0 : (a0.toList == ([] : List UInt8)) = false := beq_eq_false_iff_ne.mpr c24
    have c24b1 : (a0.toList != ([] : List UInt8)) = true := bne_iff_ne.mpr c24
    by_cases c25 : (a0.size : Int) = 1
    · rw [if_pos c25] at H
      have c25b0 : ((a0.size : Int) == 1) = true := beq_iff_eq.mpr c25
      have c25b1 : ((a0.size : Int) != 1) = false := bne_eq_false_iff_eq.mpr c25
      clear c25
      simp only [Option.some.injEq, Prod.mk.injEq] at H
      obtain ⟨rfl, rfl⟩ := H
      go_wp2
      repeat (go_quiet (fail); try go_wp2)
      go_ret2
      exact ⟨_, by first | rfl | (simp [errW_none, errW_some] <;> rfl) | (simp [*, errW_none, errW_some] <;> rfl), by (with_reducible repeat (first | apply Kd.V_alloc | apply Kd.V_drewN | apply Kd.V_drew)); exact HO_4.out, pB_ HB.out⟩
    rw [if_neg c25] at H
    have c25b0 : ((a0.size : Int) == 1) = false := beq_eq_false_iff_ne.mpr c25
    have c25b1 : ((a0.size : Int) != 1) = true := bne_iff_ne.mpr c25
    by_cases c26 : 0 < (a0.size : Int)
    rotate_left
    · rw [if_neg c26] at H
      exact absurd H (by simp)

    rw [if_pos c26] at H
    have c26b0 : decide (0 < (a0.size : Int)) = true := decide_eq_true c26
    have c26b1 : decide (0 < a0.size) = true := decide_eq_true (by omega)
    clear c26
    simp only [Option.some.injEq, Prod.mk.injEq] at H
    obtain ⟨rfl, rfl⟩ := H
    have p27 : 0 ≤ (0 : Int) := (by omega)
    have q27 : 0 < a0.size := (by have : (0 : Int) < (a0.size : Int) := od_; omega)
    have hx27 : ∀ h : 0 < a0.size, ((a0[0]'h).toNat : Int) = bt a0 0 := bt_at a0 0
    clear p27
    have qi27 : (0 < (a0.size : Int)) = True := eq_true (od_)
    replace q27 := eq_true q27
    go_wp2
    repeat (go_quiet (fail); try go_wp2)
    go_ret2
    exact ⟨_, by first | rfl | (simp [errW_none, errW_some] <;> rfl) | (simp [*, errW_none, errW_some] <;> rfl), by (with_reducible repeat (first | apply Kd.V_alloc | apply Kd.V_drewN | apply Kd.V_drew)); exact HO_4.out, pB_ HB.out⟩
  rw [if_pos c2] at H
  have c2b0 : decide (x11_1 < (a0.size : Int)) = true := decide_eq_true c2
  clear c2
  by_cases c3 : 0 ≤ x11_1
  rotate_left
  · rw [if_neg c3] at H; exact absurd H (by simp)
  rw [if_pos c3] at H
  have c3b0 : decide (0 ≤ x11_1) = true := decide_eq_true c3
  clear c3
  by_cases c4 : x11_1 < (a0.size : Int)
  rotate_left
  · rw [if_neg c4] at H; exact absurd H (by simp)
  rw [if_pos c4] at H
  have c4b0 : decide (x11_1 < (a0.size : Int)) = true := decide_eq_true c4
  clear c4
  have HC6 := Aside0.mk H
  clear H
  have p5 : 0 ≤ (x11_1 : Int) := od_
  have q5 : x11_1 < (a0.size : Int) := od_
  have hx5 := bt_at a0 x11_1
  replace p5 := eq_true p5
  replace q5 := eq_true q5
  go_upto_region 6 with (fail)
  repeat (go_quiet (fail); go_upto_region 6 with (fail))
  go_cut [22] (fun v22 wc => ∃ (kq : Nat) (x22_5 : Bool), v22 = .bool x22_5 ∧ Aside0 (impl_fromFigures.j1 kq a0 x4_1 x5_1 x6_1 x11_1 (bt a0 x11_1) (a0.size : Int) x11_1 x22_5 = some (r1, r2)) ∧ Aside0 (kq ≤ k1) ∧ Aside0 (Kd.V (Kd.int .u64) 89 wc w.heap.size (fun k_ => (w.heap.size ≤ k_)) u4 x4_1) ∧ Aside0 (Below w.heap.size w wc))
  case first =>
    have H := HC6.out
    clear HC6
    by_cases c7 : (bt a0 x11_1) < 48
    · rw [if_pos c7] at H
      have c7b0 : decide ((bt a0 x11_1) < 48) = true := decide_eq_true c7
      clear c7
      (first | rw [c7b0] | (simp only [i64_w, i32_w]; rw [c7b0]) | rw [c7b1] | skip)
      have H' := Aside0.mk H
      clear H
      go_wp2
      repeat (go_quiet (fail); try go_wp2)
      go_meet
      case rel => exact ⟨_, (true), (by first | rfl | (simp; done) | (simp [*]; done)), H', ⟨by have := HK1.out; first | omega | exact Nat.le_refl _⟩, ⟨by (with_reducible repeat (first | apply Kd.V_alloc | apply Kd.V_drewN | apply Kd.V_drew)); exact HO_4.out⟩, ⟨pB_ HB.out⟩⟩
    rw [if_neg c7] at H
    have c7b0 : decide ((bt a0 x11_1) < 48) = false := decide_eq_false c7
    clear c7
    (first | rw [c7b0] | (simp only [i64_w, i32_w]; rw [c7b0]) | rw [c7b1] | skip)
    have H' := Aside0.mk H
    clear H
    go_wp2
    repeat (go_quiet (fail); try go_wp2)
    go_meet
    case rel => exact ⟨_, (decide ((bt a0 x11_1) > 57)), (by first | rfl | (simp; done) | (simp [*]; done)), H', ⟨by have := HK1.out; first | omega | exact Nat.le_refl _⟩, ⟨by (with_reducible repeat (first | apply Kd.V_alloc | apply Kd.V_drewN | apply Kd.V_drew)); exact HO_4.out⟩, ⟨pB_ HB.out⟩⟩
  clear HC6
  try clear c1
  try clear c2
  try clear c2b0
  try clear p2
  try clear c3
  try clear c3b0
  try clear c4
  try clear c4b0
  try clear p5
  try clear q5
  try clear hx5
  try clear c7
  try clear c7b0
  try clear c7b1
  try clear p5
  try clear q5
  obtain ⟨kq, x22_5, rfl, HA, HJ5, HO_4, HB⟩ := hcut
  rcases kq with _ | kj5
  · exact absurd HA.out (by simp [impl_fromFigures.j1])
  have H := HA.out
  clear HA
  simp only [impl_fromFigures.j1] at H
  by_cases c8 : x22_5 = true
  · subst c8
    have H1 : (some (([] : List Int), false)) = some (r1, r2) := by rw [if_pos rfl] at H; exact H
    clear H
    have H := H1
    clear H1
    simp only [Option.some.injEq, Prod.mk.injEq] at H
    obtain ⟨rfl, rfl⟩ := H
    go_wp2
    repeat (go_quiet (fail); try go_wp2)
    go_ret2
    exact ⟨.slice none 0 0, by first | rfl | (simp [errW_none, errW_some] <;> rfl) | (simp [*, errW_none, errW_some] <;> rfl), Kd.V_nil _ _ _ _ _, pB_ HB.out⟩
  · replace c8 := Bool.eq_false_iff.mpr c8
    subst c8
    have H1 : (if (Int.tmod x11_1 18) = 17 then (impl_fromFigures.j2 kj5 a0 x4_1 (wrap64 ((wrap64 (10 * x5_1)) + (((bt a0 x11_1) - 48) % 256))) (wrap64 (10 * x6_1)) (a0.size : Int) x11_1 true) else (impl_fromFigures.j2 kj5 a0 x4_1 (wrap64 ((wrap64 (10 * x5_1)) + (((bt a0 x11_1) - 48) % 256))) (wrap64 (10 * x6_1)) (a0.size : Int) x11_1 (x11_1 == (wrap64 ((a0.size : Int) - 1))))) = some (r1, r2) := by rw [if_neg (show ¬ (false = true) by decide)] at H; exact H
    clear H
    have H := H1
    clear H1
    have HC9 := Aside0.mk H
    clear H
    go_upto_region 9 with (fail)
    repeat (go_quiet (fail); go_upto_region 9 with (fail))
    go_cut [40] (fun v40 wc => ∃ (kq : Nat) (x40_8 : Bool), v40 = .bool x40_8 ∧ Aside0 (impl_fromFigures.j2 kq a0 x4_1 (wrap64 ((wrap64 (10 * x5_1)) + (((bt a0 x11_1) - 48) % 256))) (wrap64 (10 * x6_1)) (a0.size : Int) x11_1 x40_8 = some (r1, r2)) ∧ Aside0 (kq ≤ kj5) ∧ Aside0 (Kd.V (Kd.int .u64) 89 wc w.heap.size (fun k_ => (w.heap.size ≤ k_)) u4 x4_1) ∧ Aside0 (Below w.heap.size w wc))
    case first =>
      have H := HC9.out
      clear HC9
      by_cases c10 : (Int.tmod x11_1 18) = 17
      · rw [if_pos c10] at H
        have c10b0 : ((Int.tmod x11_1 18) == 17) = true := beq_iff_eq.mpr c10
        have c10b1 : ((Int.tmod x11_1 18) != 17) = false := bne_eq_false_iff_eq.mpr c10
        clear c10
        (first | rw [c10b0] | (simp only [i64_w, i32_w]; rw [c10b0]) | rw [c10b1] | skip)
        have H' := Aside0.mk H
        clear H
        go_wp2
        repeat (go_quiet (fail); try go_wp2)
        go_meet
        case rel => exact ⟨_, (true), (by first | rfl | (simp; done) | (simp [*]; done)), H', ⟨by have := HK1.out; have := HJ5.out; first | omega | exact Nat.le_refl _⟩, ⟨by (with_reducible repeat (first | apply Kd.V_alloc | apply Kd.V_drewN | apply Kd.V_drew)); exact HO_4.out⟩, ⟨pB_ HB.out⟩⟩
      rw [if_neg c10] at H
      have c10b0 : ((Int.tmod x11_1 18) == 17) = false := beq_eq_false_iff_ne.mpr c10
      have c10b1 : ((Int.tmod x11_1 18) != 17) = true := bne_iff_ne.mpr c10
      (first | rw [c10b0] | (simp only [i64_w, i32_w]; rw [c10b0]) | rw [c10b1] | skip)
      have H' := Aside0.mk H
      clear H
      go_wp2
      repeat (go_quiet (fail); try go_wp2)
      go_meet
      case rel => exact ⟨_, ((x11_1 == (wrap64 ((a0.size : Int) - 1)))), (by first | rfl | (simp; done) | (simp [*]; done)), H', ⟨by have := HK1.out; have := HJ5.out; first | omega | exact Nat.le_refl _⟩, ⟨by (with_reducible repeat (first | apply Kd.V_alloc | apply Kd.V_drewN | apply Kd.V_drew)); exact HO_4.out⟩, ⟨pB_ HB.out⟩⟩
    clear HC9
    try clear c1
    try clear c2
    try clear c2b0
    try clear p2
    try clear c3
    try clear c3b0
    try clear c4
    try clear c4b0
    try clear p5
    try clear q5
    try clear hx5
    try clear p6
    try clear c7
    try clear c7b0
    try clear c7b1
    try clear c8
    try clear c10
    try clear c10b0
    try clear c10b1
    try clear p2
    try clear p5
    try clear q5
    obtain ⟨kq, x40_8, rfl, HA, HJ8, HO_4, HB⟩ := hcut
    rcases kq with _ | kj8
    · exact absurd HA.out (by simp [impl_fromFigures.j2])
    have H := HA.out
    clear HA
    simp only [impl_fromFigures.j2] at H
    by_cases c11 : x40_8 = true
    · subst c11
      have H1 : ((impl_small.f kj8 (wrap64 (10 * x6_1))).bind fun t383 => ((impl_nat_times.f kj8 x4_1 t383).bind fun t386 => ((impl_small.f kj8 (wrap64 ((wrap64 (10 * x5_1)) + (((bt a0 x11_1) - 48) % 256)))).bind fun t389 => ((impl_nat_plus.f kj8 t386 t389).bind fun t392 => (impl_fromFigures.l0 kj8 a0 t392 0 1 (a0.size : Int) (wrap64 (x11_1 + 1))))))) = some (r1, r2) := by rw [if_pos rfl] at H; exact H
      clear H
      have H := H1
      clear H1
      replace H := Option.bind_eq_some_iff.mp H
      obtain ⟨t383, A120, H⟩ := H
      have A12 := Aside0.mk A120
      clear A120
      replace H := Option.bind_eq_some_iff.mp H
      obtain ⟨t386, A130, H⟩ := H
      have A13 := Aside0.mk A130
      clear A130
      replace H := Option.bind_eq_some_iff.mp H
      obtain ⟨t389, A140, H⟩ := H
      have A14 := Aside0.mk A140
      clear A140
      replace H := Option.bind_eq_some_iff.mp H
      obtain ⟨t392, A150, H⟩ := H
      have A15 := Aside0.mk A150
      clear A150
      have H' := Aside0.mk H
      clear H
      go_wp2_with (first | (go_at_call 80; (with_reducible refine (impl_small.calls kj8 (wrap64 (10 * x6_1)) t383 _ A12.out).mono ?_); rintro e w16 ⟨v384, rfl, ho0, hb⟩; replace HO_4 := Aside0.mk (Kd.V_below (pV_ HO_4.out) hb); have HO385 := Aside0.mk (Kd.V_lower (Kd.V_mono (ok' := fun k_ => (w.heap.size ≤ k_)) ho0 (fun k_ hk_ => (Nat.le_trans (below_size (pB_ HB.out)) hk_))) (below_size (pB_ HB.out))); replace HB := Aside0.mk (below_step (pB_ HB.out) hb); clear hb ho0; obtain ⟨Ao17, co17, eo17⟩ := Kd.V_slice HO_4.out; subst eo17; obtain ⟨Ao18, co18, eo18⟩ := Kd.V_slice HO385.out; subst eo18) | (go_at_call 122; (with_reducible refine (impl_nat_times.calls kj8 _ _ x4_1 _ _ t383 t386 _ ?side1 ?side2 ?side3 ?side4 A13.out).mono ?_); (case side1 => exact pC_ (Kd.V_reads' HO_4.out).2.2); (case side2 => exact (Kd.V_reads' HO_4.out).2.1); (case side3 => exact pC_ (Kd.V_reads' HO385.out).2.2); (case side4 => exact (Kd.V_reads' HO385.out).2.1); rintro e w19 ⟨v387, rfl, ho0, hb⟩; replace HO_4 := Aside0.mk (Kd.V_below (pV_ HO_4.out) hb); replace HO385 := Aside0.mk (Kd.V_below (pV_ HO385.out) hb); have HO388 := Aside0.mk (Kd.V_lower (Kd.V_mono (ok' := fun k_ => (w.heap.size ≤ k_)) ho0 (fun k_ hk_ => (Nat.le_trans (below_size (pB_ HB.out)) hk_))) (below_size (pB_ HB.out))); replace HB := Aside0.mk (below_step (pB_ HB.out) hb); clear hb ho0) | (go_at_call 80; (with_reducible refine (impl_small.calls kj8 (wrap64 ((wrap64 (10 * x5_1)) + (((bt a0 x11_1) - 48) % 256))) t389 _ A14.out).mono ?_); rintro e w20 ⟨v390, rfl, ho0, hb⟩; replace HO_4 := Aside0.mk (Kd.V_below (pV_ HO_4.out) hb); replace HO385 := Aside0.mk (Kd.V_below (pV_ HO385.out) hb); replace HO388 := Aside0.mk (Kd.V_below (pV_ HO388.out) hb); have HO391 := Aside0.mk (Kd.V_lower (Kd.V_mono (ok' := fun k_ => (w.heap.size ≤ k_)) ho0 (fun k_ hk_ => (Nat.le_trans (below_size (pB_ HB.out)) hk_))) (below_size (pB_ HB.out))); replace HB := Aside0.mk (below_step (pB_ HB.out) hb); clear hb ho0; obtain ⟨Ao21, co21, eo21⟩ := Kd.V_slice HO388.out; subst eo21; obtain ⟨Ao22, co22, eo22⟩ := Kd.V_slice HO391.out; subst eo22) | (go_at_call 96; (with_reducible refine (impl_nat_plus.calls kj8 (fun k_ => (w.heap.size ≤ k_)) _ _ t386 (fun k_ => (w.heap.size ≤ k_)) _ _ t389 t392 _ ?side1 ?side2 A15.out).mono ?_); (case side1 => exact HO388.out); (case side2 => exact HO391.out); rintro e w23 ⟨v393, rfl, ho0, hb⟩; replace HO_4 := Aside0.mk (Kd.V_below (pV_ HO_4.out) hb); replace HO385 := Aside0.mk (Kd.V_below (pV_ HO385.out) hb); replace HO388 := Aside0.mk (Kd.V_below (pV_ HO388.out) hb); replace HO391 := Aside0.mk (Kd.V_below (pV_ HO391.out) hb); have HO394 := Aside0.mk (Kd.V_lower (Kd.V_mono (ok' := fun k_ => (w.heap.size ≤ k_)) ho0 (fun k_ hk_ => Or.elim hk_ (fun hs_ => Or.elim hs_ (fun hs_ => hs_) (fun hs_ => hs_)) (fun hn_ => (Nat.le_trans (below_size (pB_ HB.out)) hn_)))) (below_size (pB_ HB.out))); replace HB := Aside0.mk (below_step (pB_ HB.out) hb); clear hb ho0))
      repeat (go_quiet (first | (go_at_call 80; (with_reducible refine (impl_small.calls kj8 (wrap64 (10 * x6_1)) t383 _ A12.out).mono ?_); rintro e w16 ⟨v384, rfl, ho0, hb⟩; replace HO_4 := Aside0.mk (Kd.V_below (pV_ HO_4.out) hb); have HO385 := Aside0.mk (Kd.V_lower (Kd.V_mono (ok' := fun k_ => (w.heap.size ≤ k_)) ho0 (fun k_ hk_ => (Nat.le_trans (below_size (pB_ HB.out)) hk_))) (below_size (pB_ HB.out))); replace HB := Aside0.mk (below_step (pB_ HB.out) hb); clear hb ho0; obtain ⟨Ao17, co17, eo17⟩ := Kd.V_slice HO_4.out; subst eo17; obtain ⟨Ao18, co18, eo18⟩ := Kd.V_slice HO385.out; subst eo18) | (go_at_call 122; (with_reducible refine (impl_nat_times.calls kj8 _ _ x4_1 _ _ t383 t386 _ ?side1 ?side2 ?side3 ?side4 A13.out).mono ?_); (case side1 => exact pC_ (Kd.V_reads' HO_4.out).2.2); (case side2 => exact (Kd.V_reads' HO_4.out).2.1); (case side3 => exact pC_ (Kd.V_reads' HO385.out).2.2); (case side4 => exact (Kd.V_reads' HO385.out).2.1); rintro e w19 ⟨v387, rfl, ho0, hb⟩; replace HO_4 := Aside0.mk (Kd.V_below (pV_ HO_4.out) hb); replace HO385 := Aside0.mk (Kd.V_below (pV_ HO385.out) hb); have HO388 := Aside0.mk (Kd.V_lower (Kd.V_mono (ok' := fun k_ => (w.heap.size ≤ k_)) ho0 (fun k_ hk_ => (Nat.le_trans (below_size (pB_ HB.out)) hk_))) (below_size (pB_ HB.out))); replace HB := Aside0.mk (below_step (pB_ HB.out) hb); clear hb ho0) | (go_at_call 80; (with_reducible refine (impl_small.calls kj8 (wrap64 ((wrap64 (10 * x5_1)) + (((bt a0 x11_1) - 48) % 256))) t389 _ A14.out).mono ?_); rintro e w20 ⟨v390, rfl, ho0, hb⟩; replace HO_4 := Aside0.mk (Kd.V_below (pV_ HO_4.out) hb); replace HO385 := Aside0.mk (Kd.V_below (pV_ HO385.out) hb); replace HO388 := Aside0.mk (Kd.V_below (pV_ HO388.out) hb); have HO391 := Aside0.mk (Kd.V_lower (Kd.V_mono (ok' := fun k_ => (w.heap.size ≤ k_)) ho0 (fun k_ hk_ => (Nat.le_trans (below_size (pB_ HB.out)) hk_))) (below_size (pB_ HB.out))); replace HB := Aside0.mk (below_step (pB_ HB.out) hb); clear hb ho0; obtain ⟨Ao21, co21, eo21⟩ := Kd.V_slice HO388.out; subst eo21; obtain ⟨Ao22, co22, eo22⟩ := Kd.V_slice HO391.out; subst eo22) | (go_at_call 96; (with_reducible refine (impl_nat_plus.calls kj8 (fun k_ => (w.heap.size ≤ k_)) _ _ t386 (fun k_ => (w.heap.size ≤ k_)) _ _ t389 t392 _ ?side1 ?side2 A15.out).mono ?_); (case side1 => exact HO388.out); (case side2 => exact HO391.out); rintro e w23 ⟨v393, rfl, ho0, hb⟩; replace HO_4 := Aside0.mk (Kd.V_below (pV_ HO_4.out) hb); replace HO385 := Aside0.mk (Kd.V_below (pV_ HO385.out) hb); replace HO388 := Aside0.mk (Kd.V_below (pV_ HO388.out) hb); replace HO391 := Aside0.mk (Kd.V_below (pV_ HO391.out) hb); have HO394 := Aside0.mk (Kd.V_lower (Kd.V_mono (ok' := fun k_ => (w.heap.size ≤ k_)) ho0 (fun k_ hk_ => Or.elim hk_ (fun hs_ => Or.elim hs_ (fun hs_ => hs_) (fun hs_ => hs_)) (fun hn_ => (Nat.le_trans (below_size (pB_ HB.out)) hn_)))) (below_size (pB_ HB.out))); replace HB := Aside0.mk (below_step (pB_ HB.out) hb); clear hb ho0)); try go_wp2_with (first | (go_at_call 80; (with_reducible refine (impl_small.calls kj8 (wrap64 (10 * x6_1)) t383 _ A12.out).mono ?_); rintro e w16 ⟨v384, rfl, ho0, hb⟩; replace HO_4 := Aside0.mk (Kd.V_below (pV_ HO_4.out) hb); have HO385 := Aside0.mk (Kd.V_lower (Kd.V_mono (ok' := fun k_ => (w.heap.size ≤ k_)) ho0 (fun k_ hk_ => (Nat.le_trans (below_size (pB_ HB.out)) hk_))) (below_size (pB_ HB.out))); replace HB := Aside0.mk (below_step (pB_ HB.out) hb); clear hb ho0; obtain ⟨Ao17, co17, eo17⟩ := Kd.V_slice HO_4.out; subst eo17; obtain ⟨Ao18, co18, eo18⟩ := Kd.V_slice HO385.out; subst eo18) | (go_at_call 122; (with_reducible refine (impl_nat_times.calls kj8 _ _ x4_1 _ _ t383 t386 _ ?side1 ?side2 ?side3 ?side4 A13.out).mono ?_); (case side1 => exact pC_ (Kd.V_reads' HO_4.out).2.2); (case side2 => exact (Kd.V_reads' HO_4.out).2.1); (case side3 => exact pC_ (Kd.V_reads' HO385.out).2.2); (case side4 => exact (Kd.V_reads' HO385.out).2.1); rintro e w19 ⟨v387, rfl, ho0, hb⟩; replace HO_4 := Aside0.mk (Kd.V_below (pV_ HO_4.out) hb); replace HO385 := Aside0.mk (Kd.V_below (pV_ HO385.out) hb); have HO388 := Aside0.mk (Kd.V_lower (Kd.V_mono (ok' := fun k_ => (w.heap.size ≤ k_)) ho0 (fun k_ hk_ => (Nat.le_trans (below_size (pB_ HB.out)) hk_))) (below_size (pB_ HB.out))); replace HB := Aside0.mk (below_step (pB_ HB.out) hb); clear hb ho0) | (go_at_call 80; (with_reducible refine (impl_small.calls kj8 (wrap64 ((wrap64 (10 * x5_1)) + (((bt a0 x11_1) - 48) % 256))) t389 _ A14.out).mono ?_); rintro e w20 ⟨v390, rfl, ho0, hb⟩; replace HO_4 := Aside0.mk (Kd.V_below (pV_ HO_4.out) hb); replace HO385 := Aside0.mk (Kd.V_below (pV_ HO385.out) hb); replace HO388 := Aside0.mk (Kd.V_below (pV_ HO388.out) hb); have HO391 := Aside0.mk (Kd.V_lower (Kd.V_mono (ok' := fun k_ => (w.heap.size ≤ k_)) ho0 (fun k_ hk_ => (Nat.le_trans (below_size (pB_ HB.out)) hk_))) (below_size (pB_ HB.out))); replace HB := Aside0.mk (below_step (pB_ HB.out) hb); clear hb ho0; obtain ⟨Ao21, co21, eo21⟩ := Kd.V_slice HO388.out; subst eo21; obtain ⟨Ao22, co22, eo22⟩ := Kd.V_slice HO391.out; subst eo22) | (go_at_call 96; (with_reducible refine (impl_nat_plus.calls kj8 (fun k_ => (w.heap.size ≤ k_)) _ _ t386 (fun k_ => (w.heap.size ≤ k_)) _ _ t389 t392 _ ?side1 ?side2 A15.out).mono ?_); (case side1 => exact HO388.out); (case side2 => exact HO391.out); rintro e w23 ⟨v393, rfl, ho0, hb⟩; replace HO_4 := Aside0.mk (Kd.V_below (pV_ HO_4.out) hb); replace HO385 := Aside0.mk (Kd.V_below (pV_ HO385.out) hb); replace HO388 := Aside0.mk (Kd.V_below (pV_ HO388.out) hb); replace HO391 := Aside0.mk (Kd.V_below (pV_ HO391.out) hb); have HO394 := Aside0.mk (Kd.V_lower (Kd.V_mono (ok' := fun k_ => (w.heap.size ≤ k_)) ho0 (fun k_ hk_ => Or.elim hk_ (fun hs_ => Or.elim hs_ (fun hs_ => hs_) (fun hs_ => hs_)) (fun hn_ => (Nat.le_trans (below_size (pB_ HB.out)) hn_)))) (below_size (pB_ HB.out))); replace HB := Aside0.mk (below_step (pB_ HB.out) hb); clear hb ho0)))
      go_roundg kj8
      case measure => have := HK1.out; have := HJ5.out; have := HJ8.out; omega
      case rel => exact ⟨(t392), (0), (1), (wrap64 (x11_1 + 1)), (by first | rfl | (simp; done) | (simp [*]; done)), (by first | rfl | (simp; done) | (simp [*]; done)), (by first | rfl | (simp; done) | (simp [*]; done)), H', ⟨by have := HK1.out; have := HJ5.out; have := HJ8.out; omega⟩, ⟨by (with_reducible repeat (first | apply Kd.V_alloc | apply Kd.V_drewN | apply Kd.V_drew)); exact HO394.out⟩, ⟨pB_ HB.out⟩⟩
    · replace c11 := Bool.eq_false_iff.mpr c11
      subst c11
      have H1 : (impl_fromFigures.l0 kj8 a0 x4_1 (wrap64 ((wrap64 (10 * x5_1)) + (((bt a0 x11_1) - 48) % 256))) (wrap64 (10 * x6_1)) (a0.size : Int) (wrap64 (x11_1 + 1))) = some (r1, r2) := by rw [if_neg (show ¬ (false = true) by decide)] at H; exact H
      clear H
      have H := H1
      clear H1
      have H' := Aside0.mk H
      clear H
      go_wp2
      repeat (go_quiet (fail); try go_wp2)
      go_roundg kj8
      case measure => have := HK1.out; have := HJ5.out; have := HJ8.out; omega
      case rel => exact ⟨(x4_1), ((wrap64 ((wrap64 (10 * x5_1)) + (((bt a0 x11_1) - 48) % 256)))), ((wrap64 (10 * x6_1))), (wrap64 (x11_1 + 1)), (by first | rfl | (simp; done) | (simp [*]; done)), (by first | rfl | (simp; done) | (simp [*]; done)), (by first | rfl | (simp; done) | (simp [*]; done)), H', ⟨by have := HK1.out; have := HJ5.out; have := HJ8.out; omega⟩, ⟨by (with_reducible repeat (first | apply Kd.V_alloc | apply Kd.V_drewN | apply Kd.V_drew)); exact HO_4.out⟩, ⟨pB_ HB.out⟩⟩

/-! ### impl_figured: function 111 -/
def impl_figured.l0 : Nat → List (List Int) → List ByteArray → Int → Int → Option ((List (List Int)))
  | 0, _, _, _, _ => none
  | k + 1, x3, x9, x10, x11 => if x11 < x10 then (if 0 ≤ x11 then (if x11 < (x9.length : Int) then ((impl_fromFigures.f k (rdOf ByteArray.empty x9 x11)).bind fun bt399 => (if x3.length < 5864062014805 then (impl_figured.l0 k (x3 ++ [bt399.1]) x9 x10 (wrap64 (x11 + 1))) else (none))) else (none)) else (none)) else (some x3)
def impl_figured.f (k : Nat) (l0 : List ByteArray) : Option ((List (List Int))) := impl_figured.l0 k (([] : List (List Int))) l0 (l0.length : Int) 0
set_option maxHeartbeats 8000000 in
set_option maxRecDepth 100000 in
theorem impl_figured.calls (k : Nat) (A0 : Option Addr) (c0 : Nat) (l0 : List ByteArray) (r : List (List Int)) (w : World) (hr0 : Kd.C Kd.string w A0 l0.length l0) (hc0 : l0.length ≤ c0) (h : impl_figured.f k l0 = some r) :
    Calls Try.prog 111 #[.slice A0 l0.length c0] w fun e w' => ∃ v0_ : Value, e = .returned (v0_) ∧ Kd.N (Kd.slice 89 (Kd.int .u64)) 56 w' w.heap.size (fun k_ => (w.heap.size ≤ k_)) v0_ r ∧ Below w.heap.size w w' := by
  have HR0 := Aside0.mk hr0
  have HC0 := Aside0.mk hc0
  clear hr0 hc0
  have HB := Aside0.mk (Below.refl w.heap.size w)
  have H : (impl_figured.l0 k (([] : List (List Int))) l0 (l0.length : Int) 0) = some r := h
  clear h
  obtain ⟨y395, hy395⟩ : ∃ y_ : List (List Int), y_ = (([] : List (List Int))) := ⟨_, rfl⟩
  replace H : (impl_figured.l0 k y395 l0 (l0.length : Int) 0) = some r := by first | (rw [hy395]; with_reducible exact H) | (have H2_ := (Option.bind_some _ _).symm.trans H; rw [hy395]; with_reducible exact H2_) | (have H2_ := (Option.bind_some _ _).symm.trans H; with_reducible exact H2_) | with_reducible exact H | (rw [hy395]; exact H) | exact H
  have Ny395 := Aside0.mk hy395
  clear hy395
  have H' := Aside0.mk H
  clear H
  go_enter Try.func111, Try.ntmps111
  go_wp2_with (first | ((with_reducible refine gate_dst (N := 8) rfl ?_); refine Kd.N_lit (Kd.slice 89 (Kd.int .u64)) _ 56 ?hg (N' := 8) ?hd (xs := ([] : List (List Int))) (inner := []) (ok := (fun k_ => (w.heap.size ≤ k_))) (okp := (fun k_ => (w.heap.size ≤ k_))) ?hr ?hp (fun _ hk => hk) ((show ∀ k_, w.heap.size ≤ k_ → (fun k_ => (w.heap.size ≤ k_)) k_ from fun k_ hk => (Nat.le_trans (below_size (pB_ HB.out)) hk)) _ (Nat.le_refl _)) (Below.refl _ _) (Nat.le_refl _) (by simp) ?_; (case hd => rfl); (case hg => rfl); (case hr => first | (go_simp; done) | (go_simp; rfl)); (case hp => exact (Reps.none _ _)); intro v396 w2 ho3 hb hg_ hnew_; clear hg_ hnew_; (first | rw [← Ny395.out] at ho3 | (simp only [Int.reduceToNat] at ho3; rw [← Ny395.out] at ho3)); have HO397 := Aside0.mk (Kd.N_lower ho3 (below_size (pB_ HB.out))); replace HB := Aside0.mk (below_step (pB_ HB.out) hb); clear hb ho3))
  go_loopg [3, 11] k (fun kq v3 v11 w' => ∃ (x3_1 : List (List Int)) (x11_1 : Int), v11 = .int .i64 x11_1 ∧ Aside0 (impl_figured.l0 kq x3_1 l0 (l0.length : Int) x11_1 = some r) ∧ Aside0 (kq ≤ k) ∧ Aside0 (Kd.N (Kd.slice 89 (Kd.int .u64)) 56 w' w.heap.size (fun k_ => (w.heap.size ≤ k_)) v3 x3_1) ∧ Aside0 (Below w.heap.size w w'))
  case atStart => exact ⟨(y395), (0), (by first | rfl | (simp; done) | (simp [*]; done)), H', ⟨Nat.le_refl _⟩, ⟨by (with_reducible repeat (first | apply Kd.N_alloc | apply Kd.N_drewN | apply Kd.N_drew)); exact HO397.out⟩, ⟨pB_ HB.out⟩⟩
  clear H'
  try clear c1
  try clear p2
  obtain ⟨x3_1, x11_1, rfl, HA, HK1, HO_3, HB⟩ := hrel
  rcases gk with _ | k1
  · exact absurd HA.out (by simp [impl_figured.l0])
  have H := HA.out
  clear HA
  simp only [impl_figured.l0] at H
  by_cases c4 : x11_1 < (l0.length : Int)
  rotate_left
  · rw [if_neg c4] at H
    have c4b0 : decide (x11_1 < (l0.length : Int)) = false := decide_eq_false c4
    clear c4
    obtain rfl := Option.some.inj H
    go_wp2
    go_ret
    exact ⟨_, by first | rfl | (simp [errW_none, errW_some] <;> rfl) | (simp [*, errW_none, errW_some] <;> rfl), by (with_reducible repeat (first | apply Kd.N_alloc | apply Kd.N_drewN | apply Kd.N_drew)); exact HO_3.out, pB_ HB.out⟩

  rw [if_pos c4] at H
  have c4b0 : decide (x11_1 < (l0.length : Int)) = true := decide_eq_true c4
  clear c4
  by_cases c5 : 0 ≤ x11_1
  rotate_left
  · rw [if_neg c5] at H; exact absurd H (by simp)
  rw [if_pos c5] at H
  have c5b0 : decide (0 ≤ x11_1) = true := decide_eq_true c5
  clear c5
  by_cases c6 : x11_1 < (l0.length : Int)
  rotate_left
  · rw [if_neg c6] at H; exact absurd H (by simp)
  rw [if_pos c6] at H
  have c6b0 : decide (x11_1 < (l0.length : Int)) = true := decide_eq_true c6
  clear c6
  replace H := Option.bind_eq_some_iff.mp H
  obtain ⟨⟨t399, t402⟩, A70, H⟩ := H
  replace H : (if x3_1.length < 5864062014805 then (impl_figured.l0 k1 (x3_1 ++ [t399]) l0 (l0.length : Int) (wrap64 (x11_1 + 1))) else (none)) = some r := H
  have A7 := Aside0.mk A70
  clear A70
  by_cases c8 : x3_1.length < 5864062014805
  rotate_left
  · rw [if_neg c8] at H; exact absurd H (by simp)
  rw [if_pos c8] at H
  have LMc8 := Aside0.mk c8
  clear c8
  obtain ⟨y403, hy403⟩ : ∃ y_ : List (List Int), y_ = (x3_1 ++ [t399]) := ⟨_, rfl⟩
  first | rw [← hy403] at H | skip
  have Ny403 := Aside0.mk hy403
  clear hy403
  have H' := Aside0.mk H
  clear H
  have p398 : 0 ≤ (x11_1 : Int) := od_
  have q398 : x11_1 < (l0.length : Int) := od_
  obtain ⟨ad398, e398, hx398_0⟩ := Kd.at_string HR0.out x11_1 p398 q398
  cases e398
  replace hx398_0 := (HB.out.cell (World.block_lt_of_cell? w _ hx398_0)).trans hx398_0
  replace p398 := eq_true p398
  replace q398 := eq_true q398
  go_wp2_with (first | ((with_reducible refine gate_callee (f := 120) rfl ?_); refine gL_ 17 Try.func120 rfl #[.string (rdOf ByteArray.empty l0 x11_1)] ?_; (with_reducible refine (impl_fromFigures.calls k1 (rdOf ByteArray.empty l0 x11_1) t399 t402 _ A7.out).mono ?_); rintro e w9 ⟨v400, rfl, ho0, hb⟩; refine ⟨_, rfl, ?_⟩; have HO401 := Aside0.mk (Kd.V_lower (Kd.V_mono (ok' := fun k_ => (w.heap.size ≤ k_) ∧ some k_ ≠ (u3 : Value).ownBlock) ho0 (fun k_ hk_ => ⟨(Nat.le_trans (below_size (pB_ HB.out)) hk_), (Kd.fresh' (Kd.N_lt (by (with_reducible repeat (first | apply Kd.N_alloc | apply Kd.N_drewN | apply Kd.N_drew)); exact HO_3.out)) k_ hk_)⟩)) (below_size (pB_ HB.out))); replace HO_3 := Aside0.mk (Kd.N_below (by (with_reducible repeat (first | apply Kd.N_alloc | apply Kd.N_drewN | apply Kd.N_drew)); exact HO_3.out) hb); replace HB := Aside0.mk (below_step (pB_ HB.out) hb); clear hb ho0; obtain ⟨Ao11, co11, eo11⟩ := Kd.V_slice HO401.out; subst eo11) | ((with_reducible refine gate_builtin (b := .append) (xs := #[.tmp 20, .tmp 22]) rfl ?_); at_builtin; refine Kd.N_append (Kd.slice 89 (Kd.int .u64)) (w0 := w) w.heap.size rfl (.tmp 20) (.tmp 22) 113 56 (.slice none 0 0) 24 rfl Try.underlying113 info56 rfl (by decide) (by omega) u3 x3_1 t399 [.slice Ao11 t399.length co11] (fun k_ => (w.heap.size ≤ k_)) (fun k_ => ((fun k_ => (w.heap.size ≤ k_))) k_ ∧ some k_ ≠ (u3 : Value).ownBlock) rfl rfl ?aP (fun _ hk => hk) ?aF ?aO ?aB ?aS ?aL ?_; (case aP => exact (Kd.FK_slice_mk (Kd.V_reads' (Kd.V_mono (ok' := (fun k_ => ((fun k_ => (w.heap.size ≤ k_))) k_ ∧ some k_ ≠ (u3 : Value).ownBlock)) (HO401.out) (fun k_ hk => ⟨hk.1, hk.2⟩))).2.1 (Kd.V_F (Kd.V_mono (ok' := (fun k_ => ((fun k_ => (w.heap.size ≤ k_))) k_ ∧ some k_ ≠ (u3 : Value).ownBlock)) (HO401.out) (fun k_ hk => ⟨hk.1, hk.2⟩))))); (case aB => exact (pB_ HB.out)); (case aF => exact (fun k_ hk => (Nat.le_trans (below_size (pB_ HB.out)) hk))); (case aO => exact (by (with_reducible repeat (first | apply Kd.N_alloc | apply Kd.N_drewN | apply Kd.N_drew)); exact HO_3.out)); (case aS => exact (below_size (pB_ HB.out))); (case aL => have := LMc8.out; omega); intro v404 w10 ho hb hg hat; rw [← Ny403.out] at ho; have n0_ := Aside0.mk (Kd.V_afterv (ok := (fun k_ => (w.heap.size ≤ k_))) (pV_ HO401.out) hg hat); have n1_ := Aside0.mk (hb); have n2_ := Aside0.mk (ho); clear HO401; clear HB; clear HO_3; have HO401 := n0_; have HB := n1_; have HO405 := n2_; clear n0_ n1_ n2_; clear ho hb hg hat))
  go_roundg k1
  case measure => have := HK1.out; omega
  case rel => exact ⟨(y403), (wrap64 (x11_1 + 1)), (by first | rfl | (simp; done) | (simp [*]; done)), H', ⟨by have := HK1.out; omega⟩, ⟨by (with_reducible repeat (first | apply Kd.N_alloc | apply Kd.N_drewN | apply Kd.N_drew)); exact HO405.out⟩, ⟨pB_ HB.out⟩⟩

end Go.Proofs.Ytohfimjpfnnpgaa.F
