-- Made for this seat by a program of this session (wip/fork, wip/slim.py). Lean checks it.
import Derived.Test.YtghhnjhjhjbljaaVEFx0
import Derived.Test.YtghhnjhjhjbljaaZE3
namespace Go.Proofs.Ytghhnjhjhjbljaa.F
open Go.RowKit Go.Proofs.YtghhnjhjhjbljaaW.PrintWords Go.Proofs.YtghhnjhjhjbljaaW.PrintLast Go.Proofs.YtghhnjhjhjbljaaW.PrintMore
attribute [local go_sem] max2_int min2_int max_two min_two max_three min_three max_four min_four   -- for this text's walks alone
set_option linter.unusedVariables false
set_option linter.unusedSimpArgs false

/-! ### impl_nat_up: function 80 -/
def impl_nat_up.l0 : Nat → Int → List Int → List Int → Int → Int → Option (List Int)
  | 0, _, _, _, _, _ => none
  | k + 1, x1, x5, x12, x13, x14 => if x14 < x13 then (if 0 ≤ x14 then (if x14 < (x12.length : Int) then (if x14 < (x5.length : Int) then (if 0 ≤ x1 then (if 0 ≤ (wrap64 (64 - x1)) then (if 0 ≤ (wrap64 (x14 + 1)) then (if (wrap64 (x14 + 1)) < (x5.length : Int) then (impl_nat_up.l0 k x1 ((x5.set (x14 : Int).toNat (Go.bits .or .u64 (rd x5 x14) (shl .u64 (rd x12 x14) x1))).set ((wrap64 (x14 + 1)) : Int).toNat (shr .u64 (rd x12 x14) (wrap64 (64 - x1)))) x12 x13 (wrap64 (x14 + 1))) else (none)) else (none)) else (none)) else (none)) else (none)) else (none)) else (none)) else (some x5)
def impl_nat_up.f (k : Nat) (l0 : List Int) (a1 : Int) : Option (List Int) := if 0 ≤ (wrap64 ((l0.length : Int) + 1)) then (if (wrap64 ((l0.length : Int) + 1) : Int).toNat ≤ 35184372088832 then (impl_nat_up.l0 k a1 (List.replicate (wrap64 ((l0.length : Int) + 1) : Int).toNat 0) l0 (l0.length : Int) 0) else (none)) else (none)
def impl_nat_up.T5 : Bool × List (List Nat × List Nat) := (true, [([], []), ([], []), ([0, 1], [0, 1]), ([2], [2]), ([], []), ([], []), ([4, 5], [4, 5]), ([3, 6], [3, 6]), ([0, 1, 0, 1, 2, 3, 4, 5, 6, 7], [0, 1]), ([8, 7, 0, 1, 2, 3, 4, 5, 6, 7], [7, 8])])
def impl_nat_up.B5 : List Nat := [0, 0, 3, 7, 0, 0, 48, 127, 255, 511]
theorem impl_nat_up.tab5 : rtab .any (opsOf Try.f80 5) = impl_nat_up.T5 := by kernel_rfl
theorem impl_nat_up.bits5 : waitsOk impl_nat_up.T5.2 impl_nat_up.B5 = true := by kernel_rfl
set_option maxHeartbeats 8000000 in
set_option maxRecDepth 100000 in
theorem impl_nat_up.calls (k : Nat) (A0 : Option Addr) (c0 : Nat) (l0 : List Int) (a1 : Int) (r : List Int) (w : World) (hr0 : Kd.C (Kd.int .u64) w A0 l0.length l0) (hc0 : l0.length ≤ c0) (h : impl_nat_up.f k l0 a1 = some r) :
    Calls Try.prog 80 #[.slice A0 l0.length c0, .int .i64 a1] w fun e w' => ∃ v0_ : Value, e = .returned (v0_) ∧ Kd.R (Kd.int .u64) 83 w' w.heap.size (fun _ => True) v0_ r ∧ Below w.heap.size w w' := by
  have HR0 := Aside0.mk hr0
  have HC0 := Aside0.mk hc0
  clear hr0 hc0
  have HB := Aside0.mk (Below.refl w.heap.size w)
  have H : (if 0 ≤ (wrap64 ((l0.length : Int) + 1)) then (if (wrap64 ((l0.length : Int) + 1) : Int).toNat ≤ 35184372088832 then (impl_nat_up.l0 k a1 (List.replicate (wrap64 ((l0.length : Int) + 1) : Int).toNat 0) l0 (l0.length : Int) 0) else (none)) else (none)) = some r := h
  clear h
  obtain ⟨ji3, hji3⟩ : ∃ j_ : Int, (wrap64 ((l0.length : Int) + 1)) = j_ := ⟨_, rfl⟩
  first | rw [hji3] at H | simp only [hji3] at H | skip
  have hji3w : (IntKind.i64.wrap ((l0.length : Int) + 1)) = ji3 := (i64_w _).trans hji3
  by_cases c4 : 0 ≤ (ji3)
  rotate_left
  · rw [if_neg c4] at H
    exact absurd H (by simp)

  rw [if_pos c4] at H
  have c4b0 := eq_true c4
  have c4b1 : decide (0 ≤ (ji3)) = true := decide_eq_true c4
  clear c4
  by_cases c5 : (ji3 : Int).toNat ≤ 35184372088832
  rotate_left
  · rw [if_neg c5] at H; exact absurd H (by simp)
  rw [if_pos c5] at H
  have c5b0 := eq_true c5
  have c5b1 : decide ((ji3 : Int).toNat ≤ 35184372088832) = true := decide_eq_true c5
  clear c5
  obtain ⟨y420, hy420⟩ : ∃ y_ : List Int, y_ = (List.replicate (ji3 : Int).toNat 0) := ⟨_, rfl⟩
  first | rw [← hy420] at H | skip
  have Ny420 := Aside0.mk hy420
  clear hy420
  have H' := Aside0.mk H
  clear H
  go_enter Try.func80, Try.ntmps80
  go_wp2_with (first | ((with_reducible refine gate_dst (N := 11) rfl ?_); refine Kd.R_make (Kd.int .u64) _ 83 rfl (N := 11) rfl 48 _ _ rfl ji3 rfl rfl Try.underlying48 (.int .u64 0) 8 info83 rfl (by decide) (by omega) 0 (ok := fun _ => True) (okp := fun _ => True) rfl (fun _ hk => hk) trivial (od_) (Nat.le_trans (Nat.mul_le_mul_right _ (od_ : ji3.toNat ≤ 35184372088832)) (by omega)) (Below.refl _ _) (Nat.le_refl _) ?_; intro v421 w6 ho7 hb hg_ hnew_; clear hg_ hnew_; (first | rw [← Ny420.out] at ho7 | (simp only [Int.reduceToNat] at ho7; rw [← Ny420.out] at ho7)); have HO422 := Aside0.mk (Kd.R_lower ho7 (below_size (pB_ HB.out))); replace HB := Aside0.mk (below_step (pB_ HB.out) hb); clear hb ho7))
  repeat (rw [addr_self]; generalize Addr.add _ _ = az_)
  go_loopg [14] k (fun kq v14 w' => ∃ (x5_1 : List Int) (x14_1 : Int), v14 = .int .i64 x14_1 ∧ Aside0 (impl_nat_up.l0 kq a1 x5_1 l0 (l0.length : Int) x14_1 = some r) ∧ Aside0 (kq ≤ k) ∧ Aside0 (Kd.R (Kd.int .u64) 83 w' w.heap.size (fun _ => True) v421 x5_1) ∧ Aside0 (Below w.heap.size w w'))
  case atStart => exact ⟨(y420), (0), (by first | rfl | (simp; done) | (simp [*]; done)), H', ⟨Nat.le_refl _⟩, ⟨by (with_reducible repeat (first | apply Kd.R_alloc | apply Kd.R_drewN | apply Kd.R_drew)); exact HO422.out⟩, ⟨pB_ HB.out⟩⟩
  clear H'
  try clear p2
  try clear c4
  try clear c4b0
  try clear c4b1
  try clear c5
  try clear c5b0
  try clear c5b1
  try clear p6
  obtain ⟨x5_1, x14_1, rfl, HA, HK1, HO_5, HB⟩ := hrel
  rcases gk with _ | k1
  · exact absurd HA.out (by simp [impl_nat_up.l0])
  have H := HA.out
  clear HA
  simp only [impl_nat_up.l0] at H
  by_cases c8 : x14_1 < (l0.length : Int)
  rotate_left
  · rw [if_neg c8] at H
    have c8b0 : decide (x14_1 < (l0.length : Int)) = false := decide_eq_false c8
    clear c8
    obtain rfl := Option.some.inj H
    go_wp2
    go_ret
    exact ⟨_, by first | rfl | (simp [errW_none, errW_some] <;> rfl) | (simp only [← hji3]; first | rfl | (simp [errW_none, errW_some] <;> rfl)) | (simp [*, errW_none, errW_some] <;> rfl), by (with_reducible repeat (first | apply Kd.R_alloc | apply Kd.R_drewN | apply Kd.R_drew)); exact HO_5.out, pB_ HB.out⟩
  rw [if_pos c8] at H
  have c8b0 : decide (x14_1 < (l0.length : Int)) = true := decide_eq_true c8
  clear c8
  by_cases c9 : 0 ≤ x14_1
  rotate_left
  · rw [if_neg c9] at H; exact absurd H (by simp)
  rw [if_pos c9] at H
  have c9b0 : decide (0 ≤ x14_1) = true := decide_eq_true c9
  clear c9
  by_cases c10 : x14_1 < (l0.length : Int)
  rotate_left
  · rw [if_neg c10] at H; exact absurd H (by simp)
  rw [if_pos c10] at H
  have c10b0 : decide (x14_1 < (l0.length : Int)) = true := decide_eq_true c10
  clear c10
  by_cases c11 : x14_1 < (x5_1.length : Int)
  rotate_left
  · rw [if_neg c11] at H; exact absurd H (by simp)
  rw [if_pos c11] at H
  have c11b0 : decide (x14_1 < (x5_1.length : Int)) = true := decide_eq_true c11
  clear c11
  by_cases c12 : 0 ≤ a1
  rotate_left
  · rw [if_neg c12] at H; exact absurd H (by simp)
  rw [if_pos c12] at H
  have c12b0 := eq_true c12
  have c12b1 : decide (0 ≤ a1) = true := decide_eq_true c12
  clear c12
  obtain ⟨ji13, hji13⟩ : ∃ j_ : Int, (shl .u64 (rd l0 x14_1) a1) = j_ := ⟨_, rfl⟩
  first | rw [hji13] at H | simp only [hji13] at H | skip
  have hji13_ : (IntKind.u64.wrap ((rd l0 x14_1) * 2 ^ min a1.toNat 64)) = ji13 := hji13
  have hji13z : a1 ≤ 64 → (IntKind.u64.wrap ((rd l0 x14_1) * 2 ^ a1.toNat)) = ji13 := shl_small hji13
  obtain ⟨y425, hy425⟩ : ∃ y_ : List Int, y_ = (x5_1.set (x14_1 : Int).toNat (Go.bits .or .u64 (rd x5_1 x14_1) (ji13))) := ⟨_, rfl⟩
  first | rw [← hy425] at H | skip
  have Ny425 := Aside0.mk hy425
  clear hy425
  obtain ⟨ji15, hji15⟩ : ∃ j_ : Int, (wrap64 (64 - a1)) = j_ := ⟨_, rfl⟩
  first | rw [hji15] at H | simp only [hji15] at H | skip
  have hji15w : (IntKind.i64.wrap (64 - a1)) = ji15 := (i64_w _).trans hji15
  by_cases c16 : 0 ≤ (ji15)
  rotate_left
  · rw [if_neg c16] at H; exact absurd H (by simp)
  rw [if_pos c16] at H
  have c16b0 := eq_true c16
  have c16b1 : decide (0 ≤ (ji15)) = true := decide_eq_true c16
  clear c16
  obtain ⟨ji17, hji17⟩ : ∃ j_ : Int, (shr .u64 (rd l0 x14_1) (ji15)) = j_ := ⟨_, rfl⟩
  first | rw [hji17] at H | simp only [hji17] at H | skip
  have hji17_ : ((rd l0 x14_1) / 2 ^ min (ji15).toNat 64) = ji17 := hji17
  have hji17z : (ji15) ≤ 64 → ((rd l0 x14_1) / 2 ^ (ji15).toNat) = ji17 := shr_small hji17
  obtain ⟨ji18, hji18⟩ : ∃ j_ : Int, (wrap64 (x14_1 + 1)) = j_ := ⟨_, rfl⟩
  first | rw [hji18] at H | simp only [hji18] at H | skip
  have hji18w : (IntKind.i64.wrap (x14_1 + 1)) = ji18 := (i64_w _).trans hji18
  by_cases c19 : 0 ≤ (ji18)
  rotate_left
  · rw [if_neg c19] at H; exact absurd H (by simp)
  rw [if_pos c19] at H
  have c19b0 : decide (0 ≤ (ji18)) = true := decide_eq_true c19
  clear c19
  by_cases c20 : (ji18) < (x5_1.length : Int)
  rotate_left
  · rw [if_neg c20] at H; exact absurd H (by simp)
  rw [if_pos c20] at H
  have c20b0 : decide ((ji18) < (x5_1.length : Int)) = true := decide_eq_true c20
  clear c20
  obtain ⟨y426, hy426⟩ : ∃ y_ : List Int, y_ = (y425.set ((ji18) : Int).toNat (ji17)) := ⟨_, rfl⟩
  first | rw [← hy426] at H | skip
  have Ny426 := Aside0.mk hy426
  clear hy426
  have H' := Aside0.mk H
  clear H
  have p423 : 0 ≤ (x14_1 : Int) := od_
  have q423 : x14_1 < (l0.length : Int) := od_
  obtain ⟨ad423, e423, hx423_0⟩ := Kd.at_int HR0.out x14_1 p423 q423
  cases e423
  replace hx423_0 := (HB.out.cell (World.block_lt_of_cell? w _ hx423_0)).trans hx423_0
  replace p423 := eq_true p423
  replace q423 := eq_true q423
  try go_wp2
  have n0_ := Aside0.mk (Kd.R_drew HO_5.out)
  have n1_ := Aside0.mk (below_drew1 HB.out)
  clear HO_5
  clear HB
  have HO_5 := n0_
  have HB := n1_
  clear n0_ n1_
  obtain ⟨Ao23, co23, eo23⟩ := Kd.R_slice HO_5.out
  (first | subst eo23 | (injection eo23 with f1_ f2_ f3_; have f4_ := f1_.symm; have f5_ := f3_.symm; clear f1_ f2_ f3_; subst f4_; subst f5_))
  have p424 : 0 ≤ (x14_1 : Int) := od_
  have q424 : x14_1 < (x5_1.length : Int) := od_
  obtain ⟨ad424, e424, hx424_0⟩ := Kd.at_int (Kd.R_reads' HO_5.out).2.2 x14_1 p424 q424
  cases e424
  replace p424 := eq_true p424
  replace q424 := eq_true q424
  have p14 : 0 ≤ (x14_1 : Int) := od_
  have q14 : (x14_1 : Int) < ((x5_1.length : Int) : Int) := od_
  obtain ⟨go14, co14, eo14, gb14, gl14, cl14, HG14⟩ := Kd.R_form HO_5.out (by omega)
  (first | cases eo14 | (injection eo14 with ea_ en_ ec_; (first | subst ea_ | (injection ea_ with ea_; subst ea_)); subst ec_; clear en_))
  have GB14 := Aside0.mk gb14
  have GG14 := Aside0.mk HG14
  clear gb14 gl14 HG14
  (first | simp only [add_plain] at hx424_0 | skip)
  obtain ⟨hx14_0, hf14_0⟩ := Kd.R_celln 0 HO_5.out (x14_1 : Int) p14 q14
  replace p14 := eq_true p14
  replace q14 := eq_true q14
  have HP24 := Kd.R_putn HO_5.out (x14_1 : Int) (Go.bits .or .u64 (rd x5_1 x14_1) (ji13))
  rw [← Ny425.out] at HP24
  have HQ24 := Aside0.mk HP24
  clear HP24
  refine start_ (n := 10) (S := fun w' => w'.cell? ⟨go14, (x14_1).toNat, none⟩ = some (.int .u64 (rd x5_1 x14_1))) (ds := [9]) #[false, false, false, false, false, false, false, false, false, false] (by kernel_rfl) rfl rfl (hx424_0) (fun hHeld => ?_); refine with_tabW impl_nat_up.tab5 impl_nat_up.bits5 (fun HT_ HW_ => ?_)
  generalize wr.drew = w22 at HO_5 HB GG14 HQ24 hf14_0 hx14_0 hx424_0 hHeld ⊢
  refine pu_ 0 19 HT_.out ?_
  refine pu_ 1 20 HT_.out ?_
  refine pu_ 2 21 HT_.out ?_
  refine pu_ 4 23 HT_.out ?_
  refine pu_ 5 24 HT_.out ?_
  refine pu_ 6 25 HT_.out ?_
  refine take_ (i := 3) (N := some 22) (v := ?_) (a' := ?_) #[true, true, true, true, true, true, true, false, false, false] rfl rfl (take_ofW HT_.out HW_.out (by kernel_rfl)) (fun _ _ _ h => h) (Or.inl ⟨by rfl, ?_⟩) hHeld ?_ ?_
  rotate_left
  · intro w' s0
    go_simp
    with_reducible rfl
  rotate_left
  · simp only [Act.put, List.setIfInBounds_toArray, List.set_cons_zero, List.set_cons_succ, i64_w, i32_w]
    rfl
  refine pu_ 7 26 HT_.out ?_
  refine pu_ 8 27 HT_.out ?_
  refine last_ (i := 9) (N := none) #[true, true, true, true, true, true, true, true, true, true] rfl rfl (one_of HT_.out (by kernel_rfl)) (by decide) (fun K hK => ?_)
  refine skip_ (w1 := ?_) (by rfl) rfl ?_ ?_
  rotate_left
  · go_simp
    rfl
  refine hK.out _ _ ?_
  clear hK K
  refine done_ (done_of HT_.out (by kernel_rfl)) ?_
  have n0_ : Aside0 (Kd.R (Kd.int .u64) 83 (w22.setCell ⟨go14, (x14_1 : Int).toNat, none⟩ (.int .u64 (Go.bits .or .u64 (rd x5_1 x14_1) (ji13)))) w.heap.size (fun _ => True) (.slice (some ⟨go14, 0, none⟩) x5_1.length co23) y425) := ⟨by (with_reducible repeat (first | apply Kd.R_alloc | apply Kd.R_drewN | apply Kd.R_drew)); exact HQ24.out⟩
  have n1_ : Aside0 (Below w.heap.size w (w22.setCell ⟨go14, (x14_1 : Int).toNat, none⟩ (.int .u64 (Go.bits .or .u64 (rd x5_1 x14_1) (ji13))))) := ⟨by repeat (first | (with_reducible first | exact HB.out | apply below_alloc | apply pw_below_drewN | apply below_drew1 | refine below_set ?_ GB14.out) | exact HB.out)⟩
  (try clear HO_5)
  (try clear HB)
  generalize (w22.setCell ⟨go14, (x14_1 : Int).toNat, none⟩ (.int .u64 (Go.bits .or .u64 (rd x5_1 x14_1) (ji13)))) = w25 at n0_ n1_ ⊢
  have HO_5 := n0_
  have HB := n1_
  clear n0_ n1_
  have p21 : 0 ≤ ((ji18) : Int) := od_
  have q21 : ((ji18) : Int) < ((x5_1.length : Int) : Int) := od_
  obtain ⟨hx21_0, hf21_0⟩ := Kd.R_celln 0 HO_5.out ((ji18) : Int) p21 q21
  replace p21 := eq_true p21
  replace q21 := eq_true q21
  obtain ⟨hy26_, hz26_⟩ := Kd.R_celln 0 HO_5.out ((ji18) : Int) (od_) (od_)
  have HP26 := Kd.R_putg HO_5.out ((ji18) : Int) ji17
  try go_wp2_with (first | ((with_reducible refine gate_store (t := 83) (p := 35) rfl ?_); refine store_event (t := 83) (p := 35) (v := ?vo_w27) (w1 := (w25.setCell ⟨go14, ((ji18) : Int).toNat, none⟩ (.int .u64 ji17))) ?hg ?ho ?hn ?hr ?_; (case ho => rfl); (case hg => rfl); (case hn => rfl); (case hr => first | (go_simp; done) | (go_simp; rfl)); intro w27 hw; have hg : w25.grownBy w27 (some go14) := (by rw [hw]; exact HP26.2); have hp_ : Kd.R (Kd.int .u64) 83 w27 w.heap.size (fun _ => True) (.slice (some ⟨go14, 0, none⟩) x5_1.length co23) y426 := (by rw [hw, Ny426.out]; exact HP26.1); clear HP26; replace HO_5 := Aside0.mk (hp_); replace HB := Aside0.mk ((by rw [hw]; exact below_set (HB.out) GB14.out : Below w.heap.size w w27)); clear hg hw hp_))
  go_roundg k1
  case measure => have := HK1.out; omega
  case rel => exact ⟨(y426), (ji18), (by first | rfl | (simp; done) | (simp only [← hji18] <;> (first | rfl | simp)) | (simp [*]; done)), H', ⟨by have := HK1.out; omega⟩, ⟨by (with_reducible repeat (first | apply Kd.R_alloc | apply Kd.R_drewN | apply Kd.R_drew)); exact HO_5.out⟩, ⟨pB_ HB.out⟩⟩

/-! ### bits_Mul64: function 82 -/
def bits_Mul64.f (a0 : Int) (a1 : Int) : Option (Int × Int) := some (IntKind.u64.wrap ((IntKind.u64.wrap ((IntKind.u64.wrap ((a0 / 4294967296) * (a1 / 4294967296))) + ((IntKind.u64.wrap ((IntKind.u64.wrap ((a0 / 4294967296) * (Go.bits .and .u64 a1 4294967295))) + ((IntKind.u64.wrap ((Go.bits .and .u64 a0 4294967295) * (Go.bits .and .u64 a1 4294967295))) / 4294967296))) / 4294967296))) + ((IntKind.u64.wrap ((Go.bits .and .u64 (IntKind.u64.wrap ((IntKind.u64.wrap ((a0 / 4294967296) * (Go.bits .and .u64 a1 4294967295))) + ((IntKind.u64.wrap ((Go.bits .and .u64 a0 4294967295) * (Go.bits .and .u64 a1 4294967295))) / 4294967296))) 4294967295) + (IntKind.u64.wrap ((Go.bits .and .u64 a0 4294967295) * (a1 / 4294967296))))) / 4294967296)), IntKind.u64.wrap (a0 * a1))
set_option maxHeartbeats 8000000 in
set_option maxRecDepth 100000 in
theorem bits_Mul64.calls (a0 : Int) (a1 : Int) (r1 : Int) (r2 : Int) (w : World) (h : bits_Mul64.f a0 a1 = some (r1, r2)) :
    Calls Try.prog 82 #[.int .u64 a0, .int .u64 a1] w fun e w' => e = .returned (.tuple #[.int .u64 r1, .int .u64 r2]) ∧ Drawn0 w w' := by
  have H : (some (IntKind.u64.wrap ((IntKind.u64.wrap ((IntKind.u64.wrap ((a0 / 4294967296) * (a1 / 4294967296))) + ((IntKind.u64.wrap ((IntKind.u64.wrap ((a0 / 4294967296) * (Go.bits .and .u64 a1 4294967295))) + ((IntKind.u64.wrap ((Go.bits .and .u64 a0 4294967295) * (Go.bits .and .u64 a1 4294967295))) / 4294967296))) / 4294967296))) + ((IntKind.u64.wrap ((Go.bits .and .u64 (IntKind.u64.wrap ((IntKind.u64.wrap ((a0 / 4294967296) * (Go.bits .and .u64 a1 4294967295))) + ((IntKind.u64.wrap ((Go.bits .and .u64 a0 4294967295) * (Go.bits .and .u64 a1 4294967295))) / 4294967296))) 4294967295) + (IntKind.u64.wrap ((Go.bits .and .u64 a0 4294967295) * (a1 / 4294967296))))) / 4294967296)), IntKind.u64.wrap (a0 * a1))) = some (r1, r2) := h
  clear h
  simp only [Option.some.injEq, Prod.mk.injEq] at H
  obtain ⟨rfl, rfl⟩ := H
  go_enter Try.func82, Try.ntmps82
  go_wp2
  go_ret2
  exact ⟨by first | rfl | (simp; done) | (simp [*]; done), by repeat (first | exact Drawn0.refl _ | apply Drawn0.step)⟩

/-! ### impl_digit: function 81 -/
mutual
def impl_digit.j0 : Nat → Int → Int → Int → Int → Int → Option (Int)
  | 0, _, _, _, _, _ => none
  | k + 1, x2, x3, x4, x11, x12 => impl_digit.l0 k x2 x3 x4 x11 x12
def impl_digit.l0 : Nat → Int → Int → Int → Int → Int → Option (Int)
  | 0, _, _, _, _, _ => none
  | k + 1, x2, x3, x4, x11, x12 => (bits_Mul64.f x11 x4).bind fun bt431 => (if bt431.1 < x12 then (impl_digit.j2 k x2 x3 x4 x11 x12 true) else (if bt431.1 = x12 then (impl_digit.j2 k x2 x3 x4 x11 x12 (decide (bt431.2 ≤ x2))) else (impl_digit.j2 k x2 x3 x4 x11 x12 false)))
def impl_digit.j2 : Nat → Int → Int → Int → Int → Int → Bool → Option (Int)
  | 0, _, _, _, _, _, _ => none
  | k + 1, x2, x3, x4, x11, x12, x57 => if x57 = true then (some x11) else ((bits_Add64.f x12 x3 0).bind fun bt433 => (if bt433.2 = 1 then (some (IntKind.u64.wrap (x11 - 1))) else (impl_digit.l0 k x2 x3 x4 (IntKind.u64.wrap (x11 - 1)) bt433.1)))
end
def impl_digit.f (k : Nat) (a0 : Int) (a1 : Int) (a2 : Int) (a3 : Int) (a4 : Int) : Option (Int) := if a0 < a3 then ((bits_Div64.f k a0 a1 a3).bind fun bt427 => (impl_digit.j0 k a2 a3 a4 bt427.1 bt427.2)) else ((bits_Add64.f a1 a3 0).bind fun bt429 => (if bt429.2 = 1 then (some 18446744073709551615) else (impl_digit.j0 k a2 a3 a4 18446744073709551615 bt429.1)))
set_option maxHeartbeats 8000000 in
set_option maxRecDepth 100000 in
theorem impl_digit.calls (k : Nat) (a0 : Int) (a1 : Int) (a2 : Int) (a3 : Int) (a4 : Int) (r : Int) (w : World) (h : impl_digit.f k a0 a1 a2 a3 a4 = some r) :
    Calls Try.prog 81 #[.int .u64 a0, .int .u64 a1, .int .u64 a2, .int .u64 a3, .int .u64 a4] w fun e w' => e = .returned (.int .u64 r) ∧ Drawn0 w w' := by
  have H : (if a0 < a3 then ((bits_Div64.f k a0 a1 a3).bind fun bt427 => (impl_digit.j0 k a2 a3 a4 bt427.1 bt427.2)) else ((bits_Add64.f a1 a3 0).bind fun bt429 => (if bt429.2 = 1 then (some 18446744073709551615) else (impl_digit.j0 k a2 a3 a4 18446744073709551615 bt429.1)))) = some r := h
  clear h
  have HC6 := Aside0.mk H
  clear H
  go_enter Try.func81, Try.ntmps81
  go_upto_if 21 with (fail)
  go_cut [11, 12] (fun v11 v12 wc => ∃ (kq : Nat) (x11_5 : Int) (x12_5 : Int), v11 = .int .u64 x11_5 ∧ v12 = .int .u64 x12_5 ∧ Aside0 (impl_digit.j0 kq a2 a3 a4 x11_5 x12_5 = some r) ∧ Aside0 (kq ≤ k) ∧ Drawn0 w wc)
  case first =>
    have H := HC6.out
    clear HC6
    by_cases c7 : a0 < a3
    · rw [if_pos c7] at H
      have c7b0 : decide (a0 < a3) = true := decide_eq_true c7
      clear c7
      (first | rw [c7b0] | (simp only [i64_w, i32_w]; rw [c7b0]) | rw [c7b1] | skip)
      replace H := Option.bind_eq_some_iff.mp H
      obtain ⟨⟨t427, t428⟩, A80, H⟩ := H
      replace H : (impl_digit.j0 k a2 a3 a4 t427 t428) = some r := H
      have A8 := Aside0.mk A80
      clear A80
      have H' := Aside0.mk H
      clear H
      go_wp2_with (first | ((with_reducible refine gate_callee (f := 78) rfl ?_); refine gL_ 26 Try.func78 rfl #[.int .u64 a0, .int .u64 a1, .int .u64 a3] ?_; (with_reducible refine (bits_Div64.calls k a0 a1 a3 t427 t428 _ A8.out).mono ?_); rintro e w' ⟨rfl, ⟨nd, rfl⟩⟩; refine ⟨_, rfl, ?_⟩))
      go_meet
      case rel => exact ⟨_, (t427), (t428), (by first | rfl | (simp; done) | (simp [*]; done)), (by first | rfl | (simp; done) | (simp [*]; done)), H', ⟨by first | omega | exact Nat.le_refl _⟩, by repeat (first | exact Drawn0.refl _ | apply Drawn0.step)⟩
    rw [if_neg c7] at H
    have c7b0 : decide (a0 < a3) = false := decide_eq_false c7
    clear c7
    (first | rw [c7b0] | (simp only [i64_w, i32_w]; rw [c7b0]) | rw [c7b1] | skip)
    replace H := Option.bind_eq_some_iff.mp H
    obtain ⟨⟨t429, t430⟩, A90, H⟩ := H
    replace H : (if t430 = 1 then (some 18446744073709551615) else (impl_digit.j0 k a2 a3 a4 18446744073709551615 t429)) = some r := H
    have A9 := Aside0.mk A90
    clear A90
    by_cases c10 : t430 = 1
    · rw [if_pos c10] at H
      have c10b0 : (t430 == 1) = true := beq_iff_eq.mpr c10
      have c10b1 : (t430 != 1) = false := bne_eq_false_iff_eq.mpr c10
      clear c10
      obtain rfl := Option.some.inj H
      go_wp2_with (first | ((with_reducible refine gate_callee (f := 83) rfl ?_); refine gX_ 32 rfl #[.int .u64 a1, .int .u64 a3, .int .u64 0] (bits_Add64.run a1 a3 0 t429 t430 A9.out _) ?_; intro nd _))
      go_ret
      exact ⟨by first | rfl | (simp; done) | (simp [*]; done), by repeat (first | exact Drawn0.refl _ | apply Drawn0.step)⟩
    rw [if_neg c10] at H
    have c10b0 : (t430 == 1) = false := beq_eq_false_iff_ne.mpr c10
    have c10b1 : (t430 != 1) = true := bne_iff_ne.mpr c10
    have H' := Aside0.mk H
    clear H
    go_wp2_with (first | ((with_reducible refine gate_callee (f := 83) rfl ?_); refine gX_ 32 rfl #[.int .u64 a1, .int .u64 a3, .int .u64 0] (bits_Add64.run a1 a3 0 t429 t430 A9.out _) ?_; intro nd _))
    go_meet
    case rel => exact ⟨_, (18446744073709551615), (t429), (by first | rfl | (simp; done) | (simp [*]; done)), (by first | rfl | (simp; done) | (simp [*]; done)), H', ⟨by first | omega | exact Nat.le_refl _⟩, by repeat (first | exact Drawn0.refl _ | apply Drawn0.step)⟩
  clear HC6
  try clear c1
  try clear p2
  try clear c7
  try clear c7b0
  try clear c7b1
  try clear c8
  try clear c10
  try clear c10b0
  try clear c10b1
  obtain ⟨kq, x11_5, x12_5, rfl, rfl, HA, HJ5, ⟨mc5, rfl⟩⟩ := hcut
  rcases kq with _ | kj5
  · exact absurd HA.out (by simp [impl_digit.j0])
  have H := HA.out
  clear HA
  simp only [impl_digit.j0] at H
  have H' := Aside0.mk H
  clear H
  go_wp2
  go_loopg [11, 12] kj5 (fun kq v11 v12 w' => ∃ (x11_2 : Int) (x12_2 : Int), v11 = .int .u64 x11_2 ∧ v12 = .int .u64 x12_2 ∧ Aside0 (impl_digit.l0 kq a2 a3 a4 x11_2 x12_2 = some r) ∧ Aside0 (kq ≤ kj5) ∧ Drawn0 w w')
  case atStart => exact ⟨(x11_5), (x12_5), (by first | rfl | (simp; done) | (simp [*]; done)), (by first | rfl | (simp; done) | (simp [*]; done)), H', ⟨Nat.le_refl _⟩, by repeat (first | exact Drawn0.refl _ | apply Drawn0.step)⟩
  clear H'
  try clear c1
  try clear p2
  try clear c5
  try clear c7
  try clear c7b0
  try clear c7b1
  try clear c8
  try clear c10
  try clear c10b0
  try clear c10b1
  try clear p2
  obtain ⟨x11_2, x12_2, rfl, rfl, HA, HK2, ⟨m2, rfl⟩⟩ := hrel
  rcases gk with _ | k2
  · exact absurd HA.out (by simp [impl_digit.l0])
  have H := HA.out
  clear HA
  simp only [impl_digit.l0] at H
  replace H := Option.bind_eq_some_iff.mp H
  obtain ⟨⟨t431, t432⟩, A110, H⟩ := H
  replace H : (if t431 < x12_2 then (impl_digit.j2 k2 a2 a3 a4 x11_2 x12_2 true) else (if t431 = x12_2 then (impl_digit.j2 k2 a2 a3 a4 x11_2 x12_2 (decide (t432 ≤ a2))) else (impl_digit.j2 k2 a2 a3 a4 x11_2 x12_2 false))) = some r := H
  have A11 := Aside0.mk A110
  clear A110
  have HC12 := Aside0.mk H
  clear H
  go_upto_region 9 with (first | ((with_reducible refine gate_callee (f := 82) rfl ?_); refine gL_ 42 Try.func82 rfl #[.int .u64 x11_2, .int .u64 a4] ?_; (with_reducible refine (bits_Mul64.calls x11_2 a4 t431 t432 _ A11.out).mono ?_); rintro e w' ⟨rfl, ⟨nd, rfl⟩⟩; refine ⟨_, rfl, ?_⟩))
  (try simp only [Act.put, List.setIfInBounds_toArray, List.set_cons_zero, List.set_cons_succ])
  go_cut [57] (fun v57 wc => ∃ (kq : Nat) (x57_11 : Bool), v57 = .bool x57_11 ∧ Aside0 (impl_digit.j2 kq a2 a3 a4 x11_2 x12_2 x57_11 = some r) ∧ Aside0 (kq ≤ k2) ∧ Drawn0 w wc)
  case first =>
    have H := HC12.out
    clear HC12
    by_cases c13 : t431 < x12_2
    · rw [if_pos c13] at H
      have c13b0 : decide (t431 < x12_2) = true := decide_eq_true c13
      clear c13
      (first | rw [c13b0] | (simp only [i64_w, i32_w]; rw [c13b0]) | rw [c13b1] | skip)
      have H' := Aside0.mk H
      clear H
      go_wp2
      go_meet
      case rel => exact ⟨_, (true), (by first | rfl | (simp; done) | (simp [*]; done)), H', ⟨by have := HJ5.out; have := HK2.out; first | omega | exact Nat.le_refl _⟩, by repeat (first | exact Drawn0.refl _ | apply Drawn0.step)⟩
    rw [if_neg c13] at H
    have c13b0 : decide (t431 < x12_2) = false := decide_eq_false c13
    clear c13
    (first | rw [c13b0] | (simp only [i64_w, i32_w]; rw [c13b0]) | rw [c13b1] | skip)
    by_cases c14 : t431 = x12_2
    rotate_left
    · rw [if_neg c14] at H
      have c14b0 : (t431 == x12_2) = false := beq_eq_false_iff_ne.mpr c14
      have c14b1 : (t431 != x12_2) = true := bne_iff_ne.mpr c14
      have H' := Aside0.mk H
      clear H
      go_wp2
      go_meet
      case rel => exact ⟨_, (false), (by first | rfl | (simp; done) | (simp [*]; done)), H', ⟨by have := HJ5.out; have := HK2.out; first | omega | exact Nat.le_refl _⟩, by repeat (first | exact Drawn0.refl _ | apply Drawn0.step)⟩
    rw [if_pos c14] at H
    have c14b0 : (t431 == x12_2) = true := beq_iff_eq.mpr c14
    have c14b1 : (t431 != x12_2) = false := bne_eq_false_iff_eq.mpr c14
    clear c14
    have H' := Aside0.mk H
    clear H
    go_wp2
    go_meet
    case rel => exact ⟨_, (decide (t432 ≤ a2)), (by first | rfl | (simp; done) | (simp [*]; done)), H', ⟨by have := HJ5.out; have := HK2.out; first | omega | exact Nat.le_refl _⟩, by repeat (first | exact Drawn0.refl _ | apply Drawn0.step)⟩
  clear HC12
  try clear c1
  try clear p2
  try clear c5
  try clear c7
  try clear c7b0
  try clear c7b1
  try clear c8
  try clear c10
  try clear c10b0
  try clear c10b1
  try clear c13
  try clear c13b0
  try clear c13b1
  try clear c14
  try clear c14b0
  try clear c14b1
  try clear p2
  obtain ⟨kq, x57_11, rfl, HA, HJ11, ⟨mc11, rfl⟩⟩ := hcut
  rcases kq with _ | kj11
  · exact absurd HA.out (by simp [impl_digit.j2])
  have H := HA.out
  clear HA
  simp only [impl_digit.j2] at H
  by_cases c15 : x57_11 = true
  · subst c15
    have H1 : (some x11_2) = some r := by rw [if_pos rfl] at H; exact H
    clear H
    have H := H1
    clear H1
    obtain rfl := Option.some.inj H
    go_wp2
    go_ret
    exact ⟨by first | rfl | (simp; done) | (simp [*]; done), by repeat (first | exact Drawn0.refl _ | apply Drawn0.step)⟩
  · replace c15 := Bool.eq_false_iff.mpr c15
    subst c15
    have H1 : ((bits_Add64.f x12_2 a3 0).bind fun bt433 => (if bt433.2 = 1 then (some (IntKind.u64.wrap (x11_2 - 1))) else (impl_digit.l0 kj11 a2 a3 a4 (IntKind.u64.wrap (x11_2 - 1)) bt433.1))) = some r := by rw [if_neg (show ¬ (false = true) by decide)] at H; exact H
    clear H
    have H := H1
    clear H1
    replace H := Option.bind_eq_some_iff.mp H
    obtain ⟨⟨t433, t434⟩, A160, H⟩ := H
    replace H : (if t434 = 1 then (some (IntKind.u64.wrap (x11_2 - 1))) else (impl_digit.l0 kj11 a2 a3 a4 (IntKind.u64.wrap (x11_2 - 1)) t433)) = some r := H
    have A16 := Aside0.mk A160
    clear A160
    by_cases c17 : t434 = 1
    · rw [if_pos c17] at H
      have c17b0 : (t434 == 1) = true := beq_iff_eq.mpr c17
      have c17b1 : (t434 != 1) = false := bne_eq_false_iff_eq.mpr c17
      clear c17
      obtain rfl := Option.some.inj H
      go_wp2_with (first | ((with_reducible refine gate_callee (f := 83) rfl ?_); refine gX_ 64 rfl #[.int .u64 x12_2, .int .u64 a3, .int .u64 0] (bits_Add64.run x12_2 a3 0 t433 t434 A16.out _) ?_; intro nd _))
      go_ret
      exact ⟨by first | rfl | (simp; done) | (simp [*]; done), by repeat (first | exact Drawn0.refl _ | apply Drawn0.step)⟩
    rw [if_neg c17] at H
    have c17b0 : (t434 == 1) = false := beq_eq_false_iff_ne.mpr c17
    have c17b1 : (t434 != 1) = true := bne_iff_ne.mpr c17
    have H' := Aside0.mk H
    clear H
    go_wp2_with (first | ((with_reducible refine gate_callee (f := 83) rfl ?_); refine gX_ 64 rfl #[.int .u64 x12_2, .int .u64 a3, .int .u64 0] (bits_Add64.run x12_2 a3 0 t433 t434 A16.out _) ?_; intro nd _))
    go_roundg kj11
    case measure => have := HJ5.out; have := HK2.out; have := HJ11.out; omega
    case rel => exact ⟨(IntKind.u64.wrap (x11_2 - 1)), (t433), (by first | rfl | (simp; done) | (simp [*]; done)), (by first | rfl | (simp; done) | (simp [*]; done)), H', ⟨by have := HJ5.out; have := HK2.out; have := HJ11.out; omega⟩, by repeat (first | exact Drawn0.refl _ | apply Drawn0.step)⟩

/-! ### bits_Sub64: function 84 (told by hand) -/
def bits_Sub64.f (a0 : Int) (a1 : Int) (a2 : Int) : Option (Int × Int) := if 0 ≤ a0 ∧ 0 ≤ a1 ∧ 0 ≤ a2 ∧ a2 ≤ 1 ∧ a1 + a2 ≤ a0 + 18446744073709551616 then (some ((a0 - a1 - a2) % 18446744073709551616, if a0 < a1 + a2 then 1 else 0)) else (none)
theorem bits_Sub64.run (a0 : Int) (a1 : Int) (a2 : Int) (r1 : Int) (r2 : Int) (h : bits_Sub64.f a0 a1 a2 = some (r1, r2)) (w : World) :
    (callFunc 84 #[.int .u64 a0, .int .u64 a1, .int .u64 a2]).run Try.prog w = .ok (.value (.tuple #[.int .u64 r1, .int .u64 r2])) w := by
  unfold bits_Sub64.f at h
  by_cases c : 0 ≤ a0 ∧ 0 ≤ a1 ∧ 0 ≤ a2 ∧ a2 ≤ 1 ∧ a1 + a2 ≤ a0 + 18446744073709551616
  · rw [if_pos c] at h
    obtain ⟨c0, c1, c2, c3, c4⟩ := c
    obtain ⟨x, rfl⟩ := Int.eq_ofNat_of_zero_le c0
    obtain ⟨y, rfl⟩ := Int.eq_ofNat_of_zero_le c1
    obtain ⟨z, rfl⟩ := Int.eq_ofNat_of_zero_le c2
    simp only [Option.some.injEq, Prod.mk.injEq] at h
    obtain ⟨rfl, rfl⟩ := h
    rw [run_callFunc_extern Try.func84 (by kernel_rfl) (by kernel_rfl) (by kernel_rfl) (e := sub64E) (by kernel_rfl), run_sub64w x y z (by omega)]
    simp only [Result.andThen]
    have e1 : (((x + 18446744073709551616 - y - z) % 18446744073709551616 : Nat) : Int) = ((x : Int) - y - z) % 18446744073709551616 := by omega
    have e2 : ((if x < y + z then 1 else 0 : Nat) : Int) = if (x : Int) < y + z then 1 else 0 := by split <;> split <;> omega
    rw [e1, e2]
  · rw [if_neg c] at h
    exact absurd h (by simp)

end Go.Proofs.Ytghhnjhjhjbljaa.F
