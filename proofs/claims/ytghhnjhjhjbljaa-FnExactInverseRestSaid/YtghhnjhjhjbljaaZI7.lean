-- Made for this seat by a program of this session (wip/fork, wip/slim.py). Lean checks it.
import Derived.Test.YtghhnjhjhjbljaaVIFx0
import Derived.Test.YtghhnjhjhjbljaaZI0
import Derived.Test.YtghhnjhjhjbljaaZI1
import Derived.Test.YtghhnjhjhjbljaaZI2
import Derived.Test.YtghhnjhjhjbljaaZI3
import Derived.Test.YtghhnjhjhjbljaaZI4
import Derived.Test.YtghhnjhjhjbljaaZI6
namespace Go.Proofs.Ytghhnjhjhjbljaa.F
open Go.RowKit Go.Proofs.YtghhnjhjhjbljaaW.PrintWords Go.Proofs.YtghhnjhjhjbljaaW.PrintLast Go.Proofs.YtghhnjhjhjbljaaW.PrintMore
attribute [local go_sem] max2_int min2_int max_two min_two max_three min_three max_four min_four   -- for this text's walks alone
set_option linter.unusedVariables false
set_option linter.unusedSimpArgs false

/-! ### impl_nat_less: function 99 -/
def impl_nat_less.l0 : Nat → List Int → List Int → List Int → Int → Int → Int → Option (List Int)
  | 0, _, _, _, _, _, _ => none
  | k + 1, x0, x1, x5, x6, x13, x14 => if x14 < x13 then (if x14 < (x1.length : Int) then (if 0 ≤ x14 then (if x14 < (x0.length : Int) then ((bits_Sub64.f (rd x0 x14) (rd x1 x14) x6).bind fun bt879 => (if x14 < (x5.length : Int) then (impl_nat_less.l0 k x0 x1 (x5.set (x14 : Int).toNat bt879.1) bt879.2 x13 (wrap64 (x14 + 1))) else (none))) else (none)) else (none)) else (if 0 ≤ x14 then (if x14 < (x0.length : Int) then ((bits_Sub64.f (rd x0 x14) 0 x6).bind fun bt883 => (if x14 < (x5.length : Int) then (impl_nat_less.l0 k x0 x1 (x5.set (x14 : Int).toNat bt883.1) bt883.2 x13 (wrap64 (x14 + 1))) else (none))) else (none)) else (none))) else ((impl_nat_trim.f k x5).bind fun t886 => (some t886))
def impl_nat_less.f (k : Nat) (l0 : List Int) (l1 : List Int) : Option (List Int) := if 0 ≤ (l0.length : Int) then (if ((l0.length : Int) : Int).toNat ≤ 35184372088832 then (impl_nat_less.l0 k l0 l1 (List.replicate ((l0.length : Int) : Int).toNat 0) 0 (l0.length : Int) 0) else (none)) else (none)
set_option maxHeartbeats 8000000 in
set_option maxRecDepth 100000 in
theorem impl_nat_less.calls (k : Nat) (A0 : Option Addr) (c0 : Nat) (l0 : List Int) (A1 : Option Addr) (c1 : Nat) (l1 : List Int) (r : List Int) (w : World) (hr0 : Kd.C (Kd.int .u64) w A0 l0.length l0) (hc0 : l0.length ≤ c0) (hr1 : Kd.C (Kd.int .u64) w A1 l1.length l1) (hc1 : l1.length ≤ c1) (h : impl_nat_less.f k l0 l1 = some r) :
    Calls Try.prog 99 #[.slice A0 l0.length c0, .slice A1 l1.length c1] w fun e w' => ∃ v0_ : Value, e = .returned (v0_) ∧ Kd.V (Kd.int .u64) 83 w' w.heap.size (fun k_ => (w.heap.size ≤ k_)) v0_ r ∧ Below w.heap.size w w' := by
  have HR0 := Aside0.mk hr0
  have HC0 := Aside0.mk hc0
  clear hr0 hc0
  have HR1 := Aside0.mk hr1
  have HC1 := Aside0.mk hc1
  clear hr1 hc1
  have HB := Aside0.mk (Below.refl w.heap.size w)
  have H : (if 0 ≤ (l0.length : Int) then (if ((l0.length : Int) : Int).toNat ≤ 35184372088832 then (impl_nat_less.l0 k l0 l1 (List.replicate ((l0.length : Int) : Int).toNat 0) 0 (l0.length : Int) 0) else (none)) else (none)) = some r := h
  clear h
  by_cases c3 : 0 ≤ (l0.length : Int)
  rotate_left
  · rw [if_neg c3] at H
    exact absurd H (by simp)

  rw [if_pos c3] at H
  have c3b0 := eq_true c3
  have c3b1 : decide (0 ≤ (l0.length : Int)) = true := decide_eq_true c3
  clear c3
  by_cases c4 : ((l0.length : Int) : Int).toNat ≤ 35184372088832
  rotate_left
  · rw [if_neg c4] at H; exact absurd H (by simp)
  rw [if_pos c4] at H
  have c4b0 := eq_true c4
  have c4b1 : decide (((l0.length : Int) : Int).toNat ≤ 35184372088832) = true := decide_eq_true c4
  clear c4
  obtain ⟨y874, hy874⟩ : ∃ y_ : List Int, y_ = (List.replicate ((l0.length : Int) : Int).toNat 0) := ⟨_, rfl⟩
  first | rw [← hy874] at H | skip
  have Ny874 := Aside0.mk hy874
  clear hy874
  have H' := Aside0.mk H
  clear H
  go_enter Try.func99, Try.ntmps99
  go_wp2_with (first | ((with_reducible refine gate_dst (N := 11) rfl ?_); refine Kd.R_make (Kd.int .u64) _ 83 rfl (N := 11) rfl 48 _ _ rfl (l0.length : Int) rfl rfl Try.underlying48 (.int .u64 0) 8 info83 rfl (by decide) (by omega) 0 (ok := fun _ => True) (okp := fun _ => True) rfl (fun _ hk => hk) trivial (od_) (Nat.le_trans (Nat.mul_le_mul_right _ (od_ : (l0.length : Int).toNat ≤ 35184372088832)) (by omega)) (Below.refl _ _) (Nat.le_refl _) ?_; intro v875 w5 ho6 hb hg_ hnew_; clear hg_ hnew_; (first | rw [← Ny874.out] at ho6 | (simp only [Int.reduceToNat] at ho6; rw [← Ny874.out] at ho6)); have HO876 := Aside0.mk (Kd.R_lower (Kd.R_newM (M := fun k_ => (w.heap.size ≤ k_)) ho6 (below_size (pB_ HB.out)) (fun k_ h_ => h_)) (below_size (pB_ HB.out))); replace HB := Aside0.mk (below_step (pB_ HB.out) hb); clear hb ho6))
  go_loopg [6, 14] k (fun kq v6 v14 w' => ∃ (x5_1 : List Int) (x6_1 : Int) (x14_1 : Int), v6 = .int .u64 x6_1 ∧ v14 = .int .i64 x14_1 ∧ Aside0 (impl_nat_less.l0 kq l0 l1 x5_1 x6_1 (l0.length : Int) x14_1 = some r) ∧ Aside0 (kq ≤ k) ∧ Aside0 (Kd.R (Kd.int .u64) 83 w' w.heap.size (fun k_ => (w.heap.size ≤ k_)) v875 x5_1) ∧ Aside0 (Below w.heap.size w w'))
  case atStart => exact ⟨(y874), (0), (0), (by first | rfl | (simp; done) | (simp [*]; done)), (by first | rfl | (simp; done) | (simp [*]; done)), H', ⟨Nat.le_refl _⟩, ⟨by (with_reducible repeat (first | apply Kd.R_alloc | apply Kd.R_drewN | apply Kd.R_drew)); exact Kd.R_mono HO876.out (fun _ hk => hk.1)⟩, ⟨pB_ HB.out⟩⟩
  clear H'
  try clear c1
  try clear p2
  try clear c3
  try clear c3b0
  try clear c3b1
  try clear c4
  try clear c4b0
  try clear c4b1
  obtain ⟨x5_1, x6_1, x14_1, rfl, rfl, HA, HK1, HO_5, HB⟩ := hrel
  rcases gk with _ | k1
  · exact absurd HA.out (by simp [impl_nat_less.l0])
  have H := HA.out
  clear HA
  simp only [impl_nat_less.l0] at H
  by_cases c7 : x14_1 < (l0.length : Int)
  rotate_left
  · rw [if_neg c7] at H
    have c7b0 : decide (x14_1 < (l0.length : Int)) = false := decide_eq_false c7
    clear c7
    replace H := Option.bind_eq_some_iff.mp H
    obtain ⟨t886, A230, H⟩ := H
    have A23 := Aside0.mk A230
    clear A230
    obtain rfl := Option.some.inj H
    obtain ⟨Ao24, co24, eo24⟩ := Kd.R_slice HO_5.out
    subst eo24
    go_wp2_with (first | ((with_reducible refine gate_callee (f := 75) rfl ?_); refine gL_ 40 Try.func75 rfl #[.slice Ao24 x5_1.length co24] ?_; (with_reducible refine (impl_nat_trim.calls k1 (fun k_ => some k_ = (.slice Ao24 x5_1.length co24 : Value).ownBlock) _ _ x5_1 t886 _ ?side1 A23.out).mono ?_); (case side1 => exact Kd.R_V (Kd.R_tight rfl (HO_5.out))); rintro e w25 ⟨v887, rfl, ho0, hb⟩; refine ⟨_, rfl, ?_⟩; have HO888 := Aside0.mk (Kd.V_lower (Kd.V_mono (ok' := fun k_ => (w.heap.size ≤ k_)) ho0 (fun k_ hk_ => Or.elim hk_ (fun hs_ => ((HO_5.out).1 k_ hs_.symm)) (fun hn_ => (Nat.le_trans (below_size (pB_ HB.out)) hn_)))) (below_size (pB_ HB.out))); replace HO_5 := Aside0.mk (Kd.R_below (pR_ HO_5.out) hb); replace HB := Aside0.mk (below_step (pB_ HB.out) hb); clear hb ho0))
    go_ret
    exact ⟨_, by first | rfl | (simp [errW_none, errW_some] <;> rfl) | (simp [*, errW_none, errW_some] <;> rfl), by (with_reducible repeat (first | apply Kd.V_alloc | apply Kd.V_drewN | apply Kd.V_drew)); exact HO888.out, pB_ HB.out⟩
  rw [if_pos c7] at H
  have c7b0 : decide (x14_1 < (l0.length : Int)) = true := decide_eq_true c7
  clear c7
  by_cases c8 : x14_1 < (l1.length : Int)
  rotate_left
  · rw [if_neg c8] at H
    have c8b0 : decide (x14_1 < (l1.length : Int)) = false := decide_eq_false c8
    clear c8
    by_cases c16 : 0 ≤ x14_1
    rotate_left
    · rw [if_neg c16] at H; exact absurd H (by simp)
    rw [if_pos c16] at H
    have c16b0 : decide (0 ≤ x14_1) = true := decide_eq_true c16
    clear c16
    by_cases c17 : x14_1 < (l0.length : Int)
    rotate_left
    · rw [if_neg c17] at H; exact absurd H (by simp)
    rw [if_pos c17] at H
    have c17b0 : decide (x14_1 < (l0.length : Int)) = true := decide_eq_true c17
    clear c17
    replace H := Option.bind_eq_some_iff.mp H
    obtain ⟨⟨t883, t884⟩, A180, H⟩ := H
    replace H : (if x14_1 < (x5_1.length : Int) then (impl_nat_less.l0 k1 l0 l1 (x5_1.set (x14_1 : Int).toNat t883) t884 (l0.length : Int) (wrap64 (x14_1 + 1))) else (none)) = some r := H
    have A18 := Aside0.mk A180
    clear A180
    by_cases c19 : x14_1 < (x5_1.length : Int)
    rotate_left
    · rw [if_neg c19] at H; exact absurd H (by simp)
    rw [if_pos c19] at H
    have c19b0 : decide (x14_1 < (x5_1.length : Int)) = true := decide_eq_true c19
    clear c19
    obtain ⟨y885, hy885⟩ : ∃ y_ : List Int, y_ = (x5_1.set (x14_1 : Int).toNat t883) := ⟨_, rfl⟩
    first | rw [← hy885] at H | skip
    have Ny885 := Aside0.mk hy885
    clear hy885
    have H' := Aside0.mk H
    clear H
    have p882 : 0 ≤ (x14_1 : Int) := od_
    have q882 : x14_1 < (l0.length : Int) := od_
    obtain ⟨ad882, e882, hx882_0⟩ := Kd.at_int HR0.out x14_1 p882 q882
    cases e882
    replace hx882_0 := (HB.out.cell (World.block_lt_of_cell? w _ hx882_0)).trans hx882_0
    replace p882 := eq_true p882
    replace q882 := eq_true q882
    go_wp2_with (first | ((with_reducible refine gate_callee (f := 84) rfl ?_); refine gX_ 34 rfl #[.int .u64 (rd l0 x14_1), .int .u64 0, .int .u64 x6_1] (bits_Sub64.run (rd l0 x14_1) 0 x6_1 t883 t884 A18.out _) ?_; intro nd _; (try (rw [drewN_self wr]; generalize hq_ : World.drewN wr _ = wr; have n0_ : Aside0 (Kd.R (Kd.int .u64) 83 wr w.heap.size (fun k_ => (w.heap.size ≤ k_)) v875 x5_1) := ⟨by rw [← hq_]; exact (pR_ HO_5.out)⟩; have n1_ : Aside0 (Below w.heap.size w wr) := ⟨by rw [← hq_]; exact (pB_ HB.out)⟩; clear HO_5 HB hq_; have HO_5 := n0_; have HB := n1_; clear n0_ n1_)); have p20 : 0 ≤ (x14_1 : Int) := od_; have q20 : (x14_1 : Int) < ((x5_1.length : Int) : Int) := od_; obtain ⟨go20, co20, eo20, gb20, gl20, cl20, HG20⟩ := Kd.R_form HO_5.out (by omega); (first | cases eo20 | (injection eo20 with ea_ en_ ec_; (first | subst ea_ | (injection ea_ with ea_; subst ea_)); subst ec_; clear en_)); have GB20 := Aside0.mk gb20; have GG20 := Aside0.mk HG20; clear gb20 gl20 HG20; obtain ⟨hx20_0, hf20_0⟩ := Kd.R_celln 0 HO_5.out (x14_1 : Int) p20 q20; replace p20 := eq_true p20; replace q20 := eq_true q20; obtain ⟨hy21_, hz21_⟩ := Kd.R_celln 0 HO_5.out (x14_1 : Int) (od_) (od_); have HP21 := Kd.R_putg HO_5.out (x14_1 : Int) t883) | ((with_reducible refine gate_store (t := 83) (p := 37) rfl ?_); refine store_event (t := 83) (p := 37) (v := ?vo_w22) (w1 := (wr.setCell ⟨go20, (x14_1 : Int).toNat, none⟩ (.int .u64 t883))) ?hg ?ho ?hn ?hr ?_; (case ho => rfl); (case hg => rfl); (case hn => rfl); (case hr => first | (go_simp; done) | (go_simp; rfl)); intro w22 hw; have hg : wr.grownBy w22 (some go20) := (by rw [hw]; exact HP21.2); have hp_ : Kd.R (Kd.int .u64) 83 w22 w.heap.size (fun k_ => (w.heap.size ≤ k_)) (.slice (some ⟨go20, 0, none⟩) x5_1.length co20) y885 := (by rw [hw, Ny885.out]; exact HP21.1); clear HP21; replace HO_5 := Aside0.mk (hp_); replace HB := Aside0.mk ((by rw [hw]; exact below_set (HB.out) GB20.out : Below w.heap.size w w22)); clear hg hw hp_))
    go_roundg k1
    case measure => have := HK1.out; omega
    case rel => exact ⟨(y885), (t884), (wrap64 (x14_1 + 1)), (by first | rfl | (simp; done) | (simp [*]; done)), (by first | rfl | (simp; done) | (simp [*]; done)), H', ⟨by have := HK1.out; omega⟩, ⟨by (with_reducible repeat (first | apply Kd.R_alloc | apply Kd.R_drewN | apply Kd.R_drew)); exact HO_5.out⟩, ⟨pB_ HB.out⟩⟩
  rw [if_pos c8] at H
  have c8b0 : decide (x14_1 < (l1.length : Int)) = true := decide_eq_true c8
  clear c8
  by_cases c9 : 0 ≤ x14_1
  rotate_left
  · rw [if_neg c9] at H; exact absurd H (by simp)
  rw [if_pos c9] at H
  have c9b0 : decide (0 ≤ x14_1) = true := decide_eq_true c9
  clear c9
  by_cases c10 : x14_1 < (l0.length : Int)
  rotate_left
  · rw [if_neg c10] at H; exact absurd H (by simp)
  rw [if_pos c10] at H
  have c10b0 : decide (x14_1 < (l0.length : Int)) = true := decide_eq_true c10
  clear c10
  replace H := Option.bind_eq_some_iff.mp H
  obtain ⟨⟨t879, t880⟩, A110, H⟩ := H
  replace H : (if x14_1 < (x5_1.length : Int) then (impl_nat_less.l0 k1 l0 l1 (x5_1.set (x14_1 : Int).toNat t879) t880 (l0.length : Int) (wrap64 (x14_1 + 1))) else (none)) = some r := H
  have A11 := Aside0.mk A110
  clear A110
  by_cases c12 : x14_1 < (x5_1.length : Int)
  rotate_left
  · rw [if_neg c12] at H; exact absurd H (by simp)
  rw [if_pos c12] at H
  have c12b0 : decide (x14_1 < (x5_1.length : Int)) = true := decide_eq_true c12
  clear c12
  obtain ⟨y881, hy881⟩ : ∃ y_ : List Int, y_ = (x5_1.set (x14_1 : Int).toNat t879) := ⟨_, rfl⟩
  first | rw [← hy881] at H | skip
  have Ny881 := Aside0.mk hy881
  clear hy881
  have H' := Aside0.mk H
  clear H
  have p877 : 0 ≤ (x14_1 : Int) := od_
  have q877 : x14_1 < (l1.length : Int) := od_
  obtain ⟨ad877, e877, hx877_0⟩ := Kd.at_int HR1.out x14_1 p877 q877
  cases e877
  replace hx877_0 := (HB.out.cell (World.block_lt_of_cell? w _ hx877_0)).trans hx877_0
  replace p877 := eq_true p877
  replace q877 := eq_true q877
  have p878 : 0 ≤ (x14_1 : Int) := od_
  have q878 : x14_1 < (l0.length : Int) := od_
  obtain ⟨ad878, e878, hx878_0⟩ := Kd.at_int HR0.out x14_1 p878 q878
  cases e878
  replace hx878_0 := (HB.out.cell (World.block_lt_of_cell? w _ hx878_0)).trans hx878_0
  replace p878 := eq_true p878
  replace q878 := eq_true q878
  go_wp2_with (first | ((with_reducible refine gate_callee (f := 84) rfl ?_); refine gX_ 34 rfl #[.int .u64 (rd l0 x14_1), .int .u64 (rd l1 x14_1), .int .u64 x6_1] (bits_Sub64.run (rd l0 x14_1) (rd l1 x14_1) x6_1 t879 t880 A11.out _) ?_; intro nd _; (try (rw [drewN_self wr]; generalize hq_ : World.drewN wr _ = wr; have n0_ : Aside0 (Kd.R (Kd.int .u64) 83 wr w.heap.size (fun k_ => (w.heap.size ≤ k_)) v875 x5_1) := ⟨by rw [← hq_]; exact (pR_ HO_5.out)⟩; have n1_ : Aside0 (Below w.heap.size w wr) := ⟨by rw [← hq_]; exact (pB_ HB.out)⟩; clear HO_5 HB hq_; have HO_5 := n0_; have HB := n1_; clear n0_ n1_)); have p13 : 0 ≤ (x14_1 : Int) := od_; have q13 : (x14_1 : Int) < ((x5_1.length : Int) : Int) := od_; obtain ⟨go13, co13, eo13, gb13, gl13, cl13, HG13⟩ := Kd.R_form HO_5.out (by omega); (first | cases eo13 | (injection eo13 with ea_ en_ ec_; (first | subst ea_ | (injection ea_ with ea_; subst ea_)); subst ec_; clear en_)); have GB13 := Aside0.mk gb13; have GG13 := Aside0.mk HG13; clear gb13 gl13 HG13; obtain ⟨hx13_0, hf13_0⟩ := Kd.R_celln 0 HO_5.out (x14_1 : Int) p13 q13; replace p13 := eq_true p13; replace q13 := eq_true q13; obtain ⟨hy14_, hz14_⟩ := Kd.R_celln 0 HO_5.out (x14_1 : Int) (od_) (od_); have HP14 := Kd.R_putg HO_5.out (x14_1 : Int) t879) | ((with_reducible refine gate_store (t := 83) (p := 37) rfl ?_); refine store_event (t := 83) (p := 37) (v := ?vo_w15) (w1 := (wr.setCell ⟨go13, (x14_1 : Int).toNat, none⟩ (.int .u64 t879))) ?hg ?ho ?hn ?hr ?_; (case ho => rfl); (case hg => rfl); (case hn => rfl); (case hr => first | (go_simp; done) | (go_simp; rfl)); intro w15 hw; have hg : wr.grownBy w15 (some go13) := (by rw [hw]; exact HP14.2); have hp_ : Kd.R (Kd.int .u64) 83 w15 w.heap.size (fun k_ => (w.heap.size ≤ k_)) (.slice (some ⟨go13, 0, none⟩) x5_1.length co13) y881 := (by rw [hw, Ny881.out]; exact HP14.1); clear HP14; replace HO_5 := Aside0.mk (hp_); replace HB := Aside0.mk ((by rw [hw]; exact below_set (HB.out) GB13.out : Below w.heap.size w w15)); clear hg hw hp_))
  go_roundg k1
  case measure => have := HK1.out; omega
  case rel => exact ⟨(y881), (t880), (wrap64 (x14_1 + 1)), (by first | rfl | (simp; done) | (simp [*]; done)), (by first | rfl | (simp; done) | (simp [*]; done)), H', ⟨by have := HK1.out; omega⟩, ⟨by (with_reducible repeat (first | apply Kd.R_alloc | apply Kd.R_drewN | apply Kd.R_drew)); exact HO_5.out⟩, ⟨pB_ HB.out⟩⟩

/-! ### spec_l04Sub: function 93 -/
def spec_l04Sub.f (k : Nat) (l0 : List Int) (l1 : List Int) (l2 : List Int) : Option (List Int) := (spec_l02Cmp.f k l0 l1).bind fun t940 => (if t940 < 0 then ((spec_l02Add.f k l0 l2).bind fun t941 => ((spec_l02Sub.f k t941 l1).bind fun t944 => (some t944))) else ((spec_l02Sub.f k l0 l1).bind fun t947 => (some t947)))
set_option maxHeartbeats 8000000 in
set_option maxRecDepth 100000 in
theorem spec_l04Sub.calls (k : Nat) (A0 : Option Addr) (c0 : Nat) (l0 : List Int) (A1 : Option Addr) (c1 : Nat) (l1 : List Int) (A2 : Option Addr) (c2 : Nat) (l2 : List Int) (r : List Int) (w : World) (hr0 : Kd.C (Kd.int .i64) w A0 l0.length l0) (hc0 : l0.length ≤ c0) (hr1 : Kd.C (Kd.int .i64) w A1 l1.length l1) (hc1 : l1.length ≤ c1) (hr2 : Kd.C (Kd.int .i64) w A2 l2.length l2) (hc2 : l2.length ≤ c2) (h : spec_l04Sub.f k l0 l1 l2 = some r) :
    Calls Try.prog 93 #[.slice A0 l0.length c0, .slice A1 l1.length c1, .slice A2 l2.length c2] w fun e w' => ∃ v0_ : Value, e = .returned (v0_) ∧ Kd.V (Kd.int .i64) 3 w' w.heap.size (fun k_ => (w.heap.size ≤ k_)) v0_ r ∧ Below w.heap.size w w' := by
  have HR0 := Aside0.mk hr0
  have HC0 := Aside0.mk hc0
  clear hr0 hc0
  have HR1 := Aside0.mk hr1
  have HC1 := Aside0.mk hc1
  clear hr1 hc1
  have HR2 := Aside0.mk hr2
  have HC2 := Aside0.mk hc2
  clear hr2 hc2
  have HB := Aside0.mk (Below.refl w.heap.size w)
  have H : ((spec_l02Cmp.f k l0 l1).bind fun t940 => (if t940 < 0 then ((spec_l02Add.f k l0 l2).bind fun t941 => ((spec_l02Sub.f k t941 l1).bind fun t944 => (some t944))) else ((spec_l02Sub.f k l0 l1).bind fun t947 => (some t947)))) = some r := h
  clear h
  replace H := Option.bind_eq_some_iff.mp H
  obtain ⟨t940, A40, H⟩ := H
  have A4 := Aside0.mk A40
  clear A40
  by_cases c5 : t940 < 0
  rotate_left
  · rw [if_neg c5] at H
    have c5b0 : decide (t940 < 0) = false := decide_eq_false c5
    clear c5
    replace H := Option.bind_eq_some_iff.mp H
    obtain ⟨t947, A110, H⟩ := H
    have A11 := Aside0.mk A110
    clear A110
    obtain rfl := Option.some.inj H
    go_enter Try.func93, Try.ntmps93
    go_wp2_with (first | ((with_reducible refine gate_callee (f := 66) rfl ?_); refine gL_ 9 Try.func66 rfl #[.slice A0 l0.length c0, .slice A1 l1.length c1] ?_; (with_reducible refine (spec_l02Cmp.calls k _ _ l0 _ _ l1 t940 _ ?side1 ?side2 ?side3 ?side4 A4.out).mono ?_); (case side1 => exact pC_ HR0.out); (case side2 => exact HC0.out); (case side3 => exact pC_ HR1.out); (case side4 => exact HC1.out); rintro e w' ⟨rfl, ⟨nd, rfl⟩⟩; refine ⟨_, rfl, ?_⟩) | ((with_reducible refine gate_callee (f := 98) rfl ?_); refine gL_ 18 Try.func98 rfl #[.slice A0 l0.length c0, .slice A1 l1.length c1] ?_; (with_reducible refine (spec_l02Sub.calls k _ _ l0 _ _ l1 t947 _ ?side1 ?side2 ?side3 ?side4 A11.out).mono ?_); (case side1 => exact pC_ HR0.out); (case side2 => exact HC0.out); (case side3 => exact pC_ HR1.out); (case side4 => exact HC1.out); rintro e w12 ⟨v948, rfl, ho0, hb⟩; refine ⟨_, rfl, ?_⟩; have HO949 := Aside0.mk (Kd.V_lower (Kd.V_mono (ok' := fun k_ => (w.heap.size ≤ k_)) ho0 (fun k_ hk_ => (Nat.le_trans (below_size (pB_ HB.out)) hk_))) (below_size (pB_ HB.out))); replace HB := Aside0.mk (below_step (pB_ HB.out) hb); clear hb ho0))
    go_ret
    exact ⟨_, by first | rfl | (simp [errW_none, errW_some] <;> rfl) | (simp [*, errW_none, errW_some] <;> rfl), by (with_reducible repeat (first | apply Kd.V_alloc | apply Kd.V_drewN | apply Kd.V_drew)); exact HO949.out, pB_ HB.out⟩

  rw [if_pos c5] at H
  have c5b0 : decide (t940 < 0) = true := decide_eq_true c5
  clear c5
  replace H := Option.bind_eq_some_iff.mp H
  obtain ⟨t941, A60, H⟩ := H
  have A6 := Aside0.mk A60
  clear A60
  replace H := Option.bind_eq_some_iff.mp H
  obtain ⟨t944, A70, H⟩ := H
  have A7 := Aside0.mk A70
  clear A70
  obtain rfl := Option.some.inj H
  go_enter Try.func93, Try.ntmps93
  go_wp2_with (first | ((with_reducible refine gate_callee (f := 66) rfl ?_); refine gL_ 9 Try.func66 rfl #[.slice A0 l0.length c0, .slice A1 l1.length c1] ?_; (with_reducible refine (spec_l02Cmp.calls k _ _ l0 _ _ l1 t940 _ ?side1 ?side2 ?side3 ?side4 A4.out).mono ?_); (case side1 => exact pC_ HR0.out); (case side2 => exact HC0.out); (case side3 => exact pC_ HR1.out); (case side4 => exact HC1.out); rintro e w' ⟨rfl, ⟨nd, rfl⟩⟩; refine ⟨_, rfl, ?_⟩) | ((with_reducible refine gate_callee (f := 67) rfl ?_); refine gL_ 13 Try.func67 rfl #[.slice A0 l0.length c0, .slice A2 l2.length c2] ?_; (with_reducible refine (spec_l02Add.calls k _ _ l0 _ _ l2 t941 _ ?side1 ?side2 ?side3 ?side4 A6.out).mono ?_); (case side1 => exact pC_ HR0.out); (case side2 => exact HC0.out); (case side3 => exact pC_ HR2.out); (case side4 => exact HC2.out); rintro e w8 ⟨v942, rfl, ho0, hb⟩; refine ⟨_, rfl, ?_⟩; have HO943 := Aside0.mk (Kd.R_lower (Kd.R_newM (M := fun k_ => (w.heap.size ≤ k_)) ho0 (below_size (pB_ HB.out)) (fun k_ h_ => h_)) (below_size (pB_ HB.out))); replace HB := Aside0.mk (below_step (pB_ HB.out) hb); clear hb ho0; obtain ⟨Ao9, co9, eo9⟩ := Kd.R_slice HO943.out; subst eo9) | ((with_reducible refine gate_callee (f := 98) rfl ?_); refine gL_ 15 Try.func98 rfl #[.slice Ao9 t941.length co9, .slice A1 l1.length c1] ?_; (with_reducible refine (spec_l02Sub.calls k _ _ t941 _ _ l1 t944 _ ?side1 ?side2 ?side3 ?side4 A7.out).mono ?_); (case side1 => exact pC_ (Kd.R_reads' HO943.out).2.2); (case side2 => exact (Kd.R_reads' HO943.out).2.1); (case side3 => exact pC_ (Kd.C_below HR1.out HB.out)); (case side4 => exact HC1.out); rintro e w10 ⟨v945, rfl, ho0, hb⟩; refine ⟨_, rfl, ?_⟩; have HO946 := Aside0.mk (Kd.V_lower (Kd.V_mono (ok' := fun k_ => (w.heap.size ≤ k_) ∧ some k_ ≠ (.slice Ao9 t941.length co9 : Value).ownBlock) ho0 (fun k_ hk_ => ⟨(Nat.le_trans (below_size (pB_ HB.out)) hk_), (Kd.fresh' (Kd.R_lt (pR_ HO943.out)) k_ hk_)⟩)) (below_size (pB_ HB.out))); replace HO943 := Aside0.mk (Kd.R_below (pR_ HO943.out) hb); replace HB := Aside0.mk (below_step (pB_ HB.out) hb); clear hb ho0))
  go_ret
  exact ⟨_, by first | rfl | (simp [errW_none, errW_some] <;> rfl) | (simp [*, errW_none, errW_some] <;> rfl), by (with_reducible repeat (first | apply Kd.V_alloc | apply Kd.V_drewN | apply Kd.V_drew)); exact Kd.V_mono HO946.out (fun _ hk => hk.1), pB_ HB.out⟩

/-! ### spec_l04Inverse: function 64 -/
def spec_l04Inverse.l0 : Nat → List Int → List Int → List Int → List Int → List Int → Option (List Int × Bool)
  | 0, _, _, _, _, _ => none
  | k + 1, x1, x6, x7, x8, x9 => if (x7.length : Int) > 0 then ((spec_l02Div.f k x6 x7).bind fun bt957 => ((spec_l02Div.f k bt957.1 x1).bind fun bt963 => ((spec_l04Mul.f k bt963.2 x9 x1).bind fun t969 => ((spec_l04Sub.f k x8 t969 x1).bind fun t972 => (spec_l04Inverse.l0 k x1 x7 bt957.2 x9 t972))))) else (if (x6.length : Int) = 1 then (if 0 < (x6.length : Int) then (some (x8, ((rd x6 0) == 1))) else (none)) else (some (x8, false)))
def spec_l04Inverse.f (k : Nat) (l0 : List Int) (l1 : List Int) : Option (List Int × Bool) := spec_l04Inverse.l0 k l1 l1 l0 (([] : List Int)) (([1] : List Int))
set_option maxHeartbeats 8000000 in
set_option maxRecDepth 100000 in
theorem spec_l04Inverse.calls (k : Nat) (P0_ : Nat → Prop) (A0 : Option Addr) (c0 : Nat) (l0 : List Int) (P1_ : Nat → Prop) (A1 : Option Addr) (c1 : Nat) (l1 : List Int) (r1 : List Int) (r2 : Bool) (w : World) (hs0 : Kd.V (Kd.int .i64) 3 w w.heap.size (fun k_ => P0_ k_) (.slice A0 l0.length c0) l0) (hs1 : Kd.V (Kd.int .i64) 3 w w.heap.size (fun k_ => P1_ k_) (.slice A1 l1.length c1) l1) (h : spec_l04Inverse.f k l0 l1 = some (r1, r2)) :
    Calls Try.prog 64 #[.slice A0 l0.length c0, .slice A1 l1.length c1] w fun e w' => ∃ v0_ : Value, e = .returned (.tuple #[v0_, .bool r2]) ∧ Kd.V (Kd.int .i64) 3 w' w.heap.size (fun k_ => ((P0_ k_ ∨ P1_ k_) ∨ w.heap.size ≤ k_)) v0_ r1 ∧ Below w.heap.size w w' := by
  have HO0 := Aside0.mk (show Kd.V (Kd.int .i64) 3 w w.heap.size (fun k_ => ((P0_ k_ ∨ P1_ k_) ∨ w.heap.size ≤ k_)) (.slice A0 l0.length c0) l0 from Kd.V_mono hs0 (fun k_ hk => .inl (.inl hk)))
  have HO1 := Aside0.mk (show Kd.V (Kd.int .i64) 3 w w.heap.size (fun k_ => ((P0_ k_ ∨ P1_ k_) ∨ w.heap.size ≤ k_)) (.slice A1 l1.length c1) l1 from Kd.V_mono hs1 (fun k_ hk => .inl (.inr hk)))
  have HB := Aside0.mk (Below.refl w.heap.size w)
  have H : (spec_l04Inverse.l0 k l1 l1 l0 (([] : List Int)) (([1] : List Int))) = some (r1, r2) := h
  clear h
  obtain ⟨y950, hy950⟩ : ∃ y_ : List Int, y_ = (([] : List Int)) := ⟨_, rfl⟩
  replace H : (spec_l04Inverse.l0 k l1 l1 l0 y950 (([1] : List Int))) = some (r1, r2) := by first | (rw [hy950]; with_reducible exact H) | (have H2_ := (Option.bind_some _ _).symm.trans H; rw [hy950]; with_reducible exact H2_) | (have H2_ := (Option.bind_some _ _).symm.trans H; with_reducible exact H2_) | with_reducible exact H | (rw [hy950]; exact H) | exact H
  have Ny950 := Aside0.mk hy950
  clear hy950
  obtain ⟨y953, hy953⟩ : ∃ y_ : List Int, y_ = (([1] : List Int)) := ⟨_, rfl⟩
  replace H : (spec_l04Inverse.l0 k l1 l1 l0 y950 y953) = some (r1, r2) := by first | (rw [hy953]; with_reducible exact H) | (have H2_ := (Option.bind_some _ _).symm.trans H; rw [hy953]; with_reducible exact H2_) | (have H2_ := (Option.bind_some _ _).symm.trans H; with_reducible exact H2_) | with_reducible exact H | (rw [hy953]; exact H) | exact H
  have Ny953 := Aside0.mk hy953
  clear hy953
  have H' := Aside0.mk H
  clear H
  go_enter Try.func64, Try.ntmps64
  go_wp2_with (first | ((with_reducible refine gate_dst (N := 15) rfl ?_); refine Kd.R_lit (Kd.int .i64) _ 3 ?hg (N := 15) ?hd (xs := ([] : List Int)) (inner := []) (ok := fun _ => True) (okp := fun _ => True) ?hr ?hp (fun _ hk => hk) trivial (Below.refl _ _) (Nat.le_refl _) (by simp) ?_; (case hd => rfl); (case hg => rfl); (case hr => first | (go_simp; done) | (go_simp; rfl)); (case hp => exact (Reps.none _ _)); intro v951 w3 ho4 hb hg_ hnew_; clear hg_ hnew_; (first | rw [← Ny950.out] at ho4 | (simp only [Int.reduceToNat] at ho4; rw [← Ny950.out] at ho4)); replace HO0 := Aside0.mk (Kd.V_elder' (pV_ HO0.out) (Kd.R_base ho4) hb); replace HO1 := Aside0.mk (Kd.V_elder' (pV_ HO1.out) (Kd.R_base ho4) hb); have HO952 := Aside0.mk (Kd.R_lower (Kd.R_newM (M := fun k_ => (w.heap.size ≤ k_)) ho4 (below_size (pB_ HB.out)) (fun k_ h_ => h_)) (below_size (pB_ HB.out))); replace HB := Aside0.mk (below_step (pB_ HB.out) hb); clear hb ho4) | ((with_reducible refine gate_dst (N := 16) rfl ?_); refine Kd.R_lit (Kd.int .i64) _ 3 ?hg (N := 16) ?hd (xs := ([1] : List Int)) (inner := [.int .i64 1]) (ok := fun _ => True) (okp := fun _ => True) ?hr ?hp (fun _ hk => hk) trivial (Below.refl _ _) (Nat.le_refl _) (by simp) ?_; (case hd => rfl); (case hg => rfl); (case hr => first | (go_simp; done) | (go_simp; rfl)); (case hp => exact (Reps.one (show Kd.M (Kd.int .i64) _ _ _ 1 [.int .i64 1] from rfl) (Reps.none _ _))); intro v954 w5 ho6 hb hg_ hnew_; clear hg_ hnew_; (first | rw [← Ny953.out] at ho6 | (simp only [Int.reduceToNat] at ho6; rw [← Ny953.out] at ho6)); replace HO0 := Aside0.mk (Kd.V_elder' (pV_ HO0.out) (Kd.R_base ho6) hb); replace HO1 := Aside0.mk (Kd.V_elder' (pV_ HO1.out) (Kd.R_base ho6) hb); have HO955 := Aside0.mk (Kd.R_lower (Kd.R_new' (Kd.R_newM (M := fun k_ => (w.heap.size ≤ k_)) ho6 (below_size (pB_ HB.out)) (fun k_ h_ => h_)) (Kd.R_lt (pR_ HO952.out))) (below_size (pB_ HB.out))); replace HO952 := Aside0.mk (Kd.R_elder' (pR_ HO952.out) (Kd.R_base ho6) hb); replace HB := Aside0.mk (below_step (pB_ HB.out) hb); clear hb ho6))
  repeat (go_quiet (first | ((with_reducible refine gate_dst (N := 15) rfl ?_); refine Kd.R_lit (Kd.int .i64) _ 3 ?hg (N := 15) ?hd (xs := ([] : List Int)) (inner := []) (ok := fun _ => True) (okp := fun _ => True) ?hr ?hp (fun _ hk => hk) trivial (Below.refl _ _) (Nat.le_refl _) (by simp) ?_; (case hd => rfl); (case hg => rfl); (case hr => first | (go_simp; done) | (go_simp; rfl)); (case hp => exact (Reps.none _ _)); intro v951 w3 ho4 hb hg_ hnew_; clear hg_ hnew_; (first | rw [← Ny950.out] at ho4 | (simp only [Int.reduceToNat] at ho4; rw [← Ny950.out] at ho4)); replace HO0 := Aside0.mk (Kd.V_elder' (pV_ HO0.out) (Kd.R_base ho4) hb); replace HO1 := Aside0.mk (Kd.V_elder' (pV_ HO1.out) (Kd.R_base ho4) hb); have HO952 := Aside0.mk (Kd.R_lower (Kd.R_newM (M := fun k_ => (w.heap.size ≤ k_)) ho4 (below_size (pB_ HB.out)) (fun k_ h_ => h_)) (below_size (pB_ HB.out))); replace HB := Aside0.mk (below_step (pB_ HB.out) hb); clear hb ho4) | ((with_reducible refine gate_dst (N := 16) rfl ?_); refine Kd.R_lit (Kd.int .i64) _ 3 ?hg (N := 16) ?hd (xs := ([1] : List Int)) (inner := [.int .i64 1]) (ok := fun _ => True) (okp := fun _ => True) ?hr ?hp (fun _ hk => hk) trivial (Below.refl _ _) (Nat.le_refl _) (by simp) ?_; (case hd => rfl); (case hg => rfl); (case hr => first | (go_simp; done) | (go_simp; rfl)); (case hp => exact (Reps.one (show Kd.M (Kd.int .i64) _ _ _ 1 [.int .i64 1] from rfl) (Reps.none _ _))); intro v954 w5 ho6 hb hg_ hnew_; clear hg_ hnew_; (first | rw [← Ny953.out] at ho6 | (simp only [Int.reduceToNat] at ho6; rw [← Ny953.out] at ho6)); replace HO0 := Aside0.mk (Kd.V_elder' (pV_ HO0.out) (Kd.R_base ho6) hb); replace HO1 := Aside0.mk (Kd.V_elder' (pV_ HO1.out) (Kd.R_base ho6) hb); have HO955 := Aside0.mk (Kd.R_lower (Kd.R_new' (Kd.R_newM (M := fun k_ => (w.heap.size ≤ k_)) ho6 (below_size (pB_ HB.out)) (fun k_ h_ => h_)) (Kd.R_lt (pR_ HO952.out))) (below_size (pB_ HB.out))); replace HO952 := Aside0.mk (Kd.R_elder' (pR_ HO952.out) (Kd.R_base ho6) hb); replace HB := Aside0.mk (below_step (pB_ HB.out) hb); clear hb ho6)); try go_wp2_with (first | ((with_reducible refine gate_dst (N := 15) rfl ?_); refine Kd.R_lit (Kd.int .i64) _ 3 ?hg (N := 15) ?hd (xs := ([] : List Int)) (inner := []) (ok := fun _ => True) (okp := fun _ => True) ?hr ?hp (fun _ hk => hk) trivial (Below.refl _ _) (Nat.le_refl _) (by simp) ?_; (case hd => rfl); (case hg => rfl); (case hr => first | (go_simp; done) | (go_simp; rfl)); (case hp => exact (Reps.none _ _)); intro v951 w3 ho4 hb hg_ hnew_; clear hg_ hnew_; (first | rw [← Ny950.out] at ho4 | (simp only [Int.reduceToNat] at ho4; rw [← Ny950.out] at ho4)); replace HO0 := Aside0.mk (Kd.V_elder' (pV_ HO0.out) (Kd.R_base ho4) hb); replace HO1 := Aside0.mk (Kd.V_elder' (pV_ HO1.out) (Kd.R_base ho4) hb); have HO952 := Aside0.mk (Kd.R_lower (Kd.R_newM (M := fun k_ => (w.heap.size ≤ k_)) ho4 (below_size (pB_ HB.out)) (fun k_ h_ => h_)) (below_size (pB_ HB.out))); replace HB := Aside0.mk (below_step (pB_ HB.out) hb); clear hb ho4) | ((with_reducible refine gate_dst (N := 16) rfl ?_); refine Kd.R_lit (Kd.int .i64) _ 3 ?hg (N := 16) ?hd (xs := ([1] : List Int)) (inner := [.int .i64 1]) (ok := fun _ => True) (okp := fun _ => True) ?hr ?hp (fun _ hk => hk) trivial (Below.refl _ _) (Nat.le_refl _) (by simp) ?_; (case hd => rfl); (case hg => rfl); (case hr => first | (go_simp; done) | (go_simp; rfl)); (case hp => exact (Reps.one (show Kd.M (Kd.int .i64) _ _ _ 1 [.int .i64 1] from rfl) (Reps.none _ _))); intro v954 w5 ho6 hb hg_ hnew_; clear hg_ hnew_; (first | rw [← Ny953.out] at ho6 | (simp only [Int.reduceToNat] at ho6; rw [← Ny953.out] at ho6)); replace HO0 := Aside0.mk (Kd.V_elder' (pV_ HO0.out) (Kd.R_base ho6) hb); replace HO1 := Aside0.mk (Kd.V_elder' (pV_ HO1.out) (Kd.R_base ho6) hb); have HO955 := Aside0.mk (Kd.R_lower (Kd.R_new' (Kd.R_newM (M := fun k_ => (w.heap.size ≤ k_)) ho6 (below_size (pB_ HB.out)) (fun k_ h_ => h_)) (Kd.R_lt (pR_ HO952.out))) (below_size (pB_ HB.out))); replace HO952 := Aside0.mk (Kd.R_elder' (pR_ HO952.out) (Kd.R_base ho6) hb); replace HB := Aside0.mk (below_step (pB_ HB.out) hb); clear hb ho6)))
  go_loopg [6, 7, 8, 9] k (fun kq v6 v7 v8 v9 w' => ∃ (x6_1 : List Int) (x7_1 : List Int) (x8_1 : List Int) (x9_1 : List Int), Aside0 (spec_l04Inverse.l0 kq l1 x6_1 x7_1 x8_1 x9_1 = some (r1, r2)) ∧ Aside0 (kq ≤ k) ∧ Aside0 (Kd.V (Kd.int .i64) 3 w' w.heap.size (fun k_ => ((P0_ k_ ∨ P1_ k_) ∨ w.heap.size ≤ k_)) (.slice A1 l1.length c1) l1) ∧ Aside0 (Kd.V (Kd.int .i64) 3 w' w.heap.size (fun k_ => ((P0_ k_ ∨ P1_ k_) ∨ w.heap.size ≤ k_)) v6 x6_1) ∧ Aside0 (Kd.V (Kd.int .i64) 3 w' w.heap.size (fun k_ => ((P0_ k_ ∨ P1_ k_) ∨ w.heap.size ≤ k_)) v7 x7_1) ∧ Aside0 (Kd.V (Kd.int .i64) 3 w' w.heap.size (fun k_ => ((P0_ k_ ∨ P1_ k_) ∨ w.heap.size ≤ k_)) v8 x8_1) ∧ Aside0 (Kd.V (Kd.int .i64) 3 w' w.heap.size (fun k_ => ((P0_ k_ ∨ P1_ k_) ∨ w.heap.size ≤ k_)) v9 x9_1) ∧ Aside0 (Below w.heap.size w w'))
  case atStart => exact ⟨(l1), (l0), (y950), (y953), H', ⟨Nat.le_refl _⟩, ⟨by (with_reducible repeat (first | apply Kd.V_alloc | apply Kd.V_drewN | apply Kd.V_drew)); exact Kd.V_mono HO1.out (fun _ hk => hk.1.1)⟩, ⟨by (with_reducible repeat (first | apply Kd.V_alloc | apply Kd.V_drewN | apply Kd.V_drew)); exact Kd.V_mono HO1.out (fun _ hk => hk.1.1)⟩, ⟨by (with_reducible repeat (first | apply Kd.V_alloc | apply Kd.V_drewN | apply Kd.V_drew)); exact Kd.V_mono HO0.out (fun _ hk => hk.1.1)⟩, ⟨Kd.V_mono (Kd.R_V (pR_ (Kd.R_mono HO952.out (fun _ hk => hk.1.1)))) (fun k_ hk => by first | exact ⟨(.inr (hk.1)), hk.2⟩ | exact (.inr (hk)))⟩, ⟨Kd.V_mono (Kd.R_V (pR_ (Kd.R_mono HO955.out (fun _ hk => hk.1.1)))) (fun k_ hk => by first | exact ⟨(.inr (hk.1)), hk.2⟩ | exact (.inr (hk)))⟩, ⟨pB_ HB.out⟩⟩
  clear H'
  try clear c1
  try clear p2
  try clear c6
  obtain ⟨x6_1, x7_1, x8_1, x9_1, HA, HK1, HO_1, HO_6, HO_7, HO_8, HO_9, HB⟩ := hrel
  rcases gk with _ | k1
  · exact absurd HA.out (by simp [spec_l04Inverse.l0])
  have H := HA.out
  clear HA
  simp only [spec_l04Inverse.l0] at H
  by_cases c7 : (x7_1.length : Int) > 0
  rotate_left
  · rw [if_neg c7] at H
    have c7b0 : decide (0 < (x7_1.length : Int)) = false := decide_eq_false c7
    have c7b1 : decide (0 < x7_1.length) = false := decide_eq_false (by omega)
    clear c7
    by_cases c23 : (x6_1.length : Int) = 1
    rotate_left
    · rw [if_neg c23] at H
      have c23b0 : ((x6_1.length : Int) == 1) = false := beq_eq_false_iff_ne.mpr c23
      have c23b1 : ((x6_1.length : Int) != 1) = true := bne_iff_ne.mpr c23
      simp only [Option.some.injEq, Prod.mk.injEq] at H
      obtain ⟨rfl, rfl⟩ := H
      obtain ⟨Ao27, co27, eo27⟩ := Kd.V_slice HO_7.out
      subst eo27
      obtain ⟨Ao28, co28, eo28⟩ := Kd.V_slice HO_6.out
      subst eo28
      go_wp2
      repeat (go_quiet (fail); try go_wp2)
      go_ret2
      exact ⟨_, by first | rfl | (simp [errW_none, errW_some] <;> rfl) | (simp [*, errW_none, errW_some] <;> rfl), by (with_reducible repeat (first | apply Kd.V_alloc | apply Kd.V_drewN | apply Kd.V_drew)); exact HO_8.out, pB_ HB.out⟩

    rw [if_pos c23] at H
    have c23b0 : ((x6_1.length : Int) == 1) = true := beq_iff_eq.mpr c23
    have c23b1 : ((x6_1.length : Int) != 1) = false := bne_eq_false_iff_eq.mpr c23
    clear c23
    by_cases c24 : 0 < (x6_1.length : Int)
    rotate_left
    · rw [if_neg c24] at H; exact absurd H (by simp)
    rw [if_pos c24] at H
    have c24b0 : decide (0 < (x6_1.length : Int)) = true := decide_eq_true c24
    have c24b1 : decide (0 < x6_1.length) = true := decide_eq_true (by omega)
    clear c24
    simp only [Option.some.injEq, Prod.mk.injEq] at H
    obtain ⟨rfl, rfl⟩ := H
    obtain ⟨Ao25, co25, eo25⟩ := Kd.V_slice HO_7.out
    subst eo25
    obtain ⟨Ao26, co26, eo26⟩ := Kd.V_slice HO_6.out
    subst eo26
    have p956 : 0 ≤ (0 : Int) := (by omega)
    have q956 : 0 < (x6_1.length : Int) := od_
    obtain ⟨ad956, e956, hx956_0⟩ := Kd.at_int (Kd.V_reads' HO_6.out).2.2 0 p956 q956
    cases e956
    have qi956 : (0 < x6_1.length) = True := eq_true (by omega)
    (try rw [show ((0 : Int)).toNat = 0 from rfl] at hx956_0)
    (try rw [Addr.add_zero'] at hx956_0)
    replace p956 := eq_true p956
    replace q956 := eq_true q956
    go_wp2
    repeat (go_quiet (fail); try go_wp2)
    go_ret2
    exact ⟨_, by first | rfl | (simp [errW_none, errW_some] <;> rfl) | (simp [*, errW_none, errW_some] <;> rfl), by (with_reducible repeat (first | apply Kd.V_alloc | apply Kd.V_drewN | apply Kd.V_drew)); exact HO_8.out, pB_ HB.out⟩
  rw [if_pos c7] at H
  have c7b0 : decide (0 < (x7_1.length : Int)) = true := decide_eq_true c7
  have c7b1 : decide (0 < x7_1.length) = true := decide_eq_true (by omega)
  clear c7
  replace H := Option.bind_eq_some_iff.mp H
  obtain ⟨⟨t957, t960⟩, A80, H⟩ := H
  replace H : ((spec_l02Div.f k1 t957 l1).bind fun bt963 => ((spec_l04Mul.f k1 bt963.2 x9_1 l1).bind fun t969 => ((spec_l04Sub.f k1 x8_1 t969 l1).bind fun t972 => (spec_l04Inverse.l0 k1 l1 x7_1 t960 x9_1 t972)))) = some (r1, r2) := H
  have A8 := Aside0.mk A80
  clear A80
  replace H := Option.bind_eq_some_iff.mp H
  obtain ⟨⟨t963, t966⟩, A90, H⟩ := H
  replace H : ((spec_l04Mul.f k1 t966 x9_1 l1).bind fun t969 => ((spec_l04Sub.f k1 x8_1 t969 l1).bind fun t972 => (spec_l04Inverse.l0 k1 l1 x7_1 t960 x9_1 t972))) = some (r1, r2) := H
  have A9 := Aside0.mk A90
  clear A90
  replace H := Option.bind_eq_some_iff.mp H
  obtain ⟨t969, A100, H⟩ := H
  have A10 := Aside0.mk A100
  clear A100
  replace H := Option.bind_eq_some_iff.mp H
  obtain ⟨t972, A110, H⟩ := H
  have A11 := Aside0.mk A110
  clear A110
  have H' := Aside0.mk H
  clear H
  obtain ⟨Ao12, co12, eo12⟩ := Kd.V_slice HO_7.out
  subst eo12
  obtain ⟨Ao13, co13, eo13⟩ := Kd.V_slice HO_6.out
  subst eo13
  go_wp2_with (first | (go_at_call 44; (with_reducible refine (spec_l02Div.calls k1 _ _ x6_1 _ _ x7_1 t957 t960 _ ?side1 ?side2 ?side3 ?side4 A8.out).mono ?_); (case side1 => exact pC_ (Kd.V_reads' HO_6.out).2.2); (case side2 => exact (Kd.V_reads' HO_6.out).2.1); (case side3 => exact pC_ (Kd.V_reads' HO_7.out).2.2); (case side4 => exact (Kd.V_reads' HO_7.out).2.1); rintro e w14 ⟨v958, v961, rfl, ho0, ho1, hb⟩; replace HO_1 := Aside0.mk (Kd.V_below (pV_ HO_1.out) hb); replace HO_6 := Aside0.mk (Kd.V_below (pV_ HO_6.out) hb); replace HO_7 := Aside0.mk (Kd.V_below (pV_ HO_7.out) hb); replace HO_8 := Aside0.mk (Kd.V_below (pV_ HO_8.out) hb); replace HO_9 := Aside0.mk (Kd.V_below (pV_ HO_9.out) hb); have HO959 := Aside0.mk (Kd.V_lower (Kd.V_mono (ok' := fun k_ => ((P0_ k_ ∨ P1_ k_) ∨ w.heap.size ≤ k_)) ho0 (fun k_ hk_ => (.inr (Nat.le_trans (below_size (pB_ HB.out)) hk_)))) (below_size (pB_ HB.out))); have HO962 := Aside0.mk (Kd.V_lower (Kd.V_mono (ok' := fun k_ => ((P0_ k_ ∨ P1_ k_) ∨ w.heap.size ≤ k_)) ho1 (fun k_ hk_ => (.inr (Nat.le_trans (below_size (pB_ HB.out)) hk_)))) (below_size (pB_ HB.out))); replace HB := Aside0.mk (below_step (pB_ HB.out) hb); clear hb ho0 ho1; obtain ⟨Ao15, co15, eo15⟩ := Kd.V_slice HO959.out; subst eo15) | (go_at_call 44; (with_reducible refine (spec_l02Div.calls k1 _ _ t957 _ _ l1 t963 t966 _ ?side1 ?side2 ?side3 ?side4 A9.out).mono ?_); (case side1 => exact pC_ (Kd.V_reads' HO959.out).2.2); (case side2 => exact (Kd.V_reads' HO959.out).2.1); (case side3 => exact pC_ (Kd.V_reads' HO_1.out).2.2); (case side4 => exact (Kd.V_reads' HO_1.out).2.1); rintro e w16 ⟨v964, v967, rfl, ho0, ho1, hb⟩; replace HO_1 := Aside0.mk (Kd.V_below (pV_ HO_1.out) hb); replace HO_6 := Aside0.mk (Kd.V_below (pV_ HO_6.out) hb); replace HO_7 := Aside0.mk (Kd.V_below (pV_ HO_7.out) hb); replace HO_8 := Aside0.mk (Kd.V_below (pV_ HO_8.out) hb); replace HO_9 := Aside0.mk (Kd.V_below (pV_ HO_9.out) hb); replace HO959 := Aside0.mk (Kd.V_below (pV_ HO959.out) hb); replace HO962 := Aside0.mk (Kd.V_below (pV_ HO962.out) hb); have HO965 := Aside0.mk (Kd.V_lower (Kd.V_mono (ok' := fun k_ => ((P0_ k_ ∨ P1_ k_) ∨ w.heap.size ≤ k_)) ho0 (fun k_ hk_ => (.inr (Nat.le_trans (below_size (pB_ HB.out)) hk_)))) (below_size (pB_ HB.out))); have HO968 := Aside0.mk (Kd.V_lower (Kd.V_mono (ok' := fun k_ => ((P0_ k_ ∨ P1_ k_) ∨ w.heap.size ≤ k_)) ho1 (fun k_ hk_ => (.inr (Nat.le_trans (below_size (pB_ HB.out)) hk_)))) (below_size (pB_ HB.out))); replace HB := Aside0.mk (below_step (pB_ HB.out) hb); clear hb ho0 ho1; obtain ⟨Ao17, co17, eo17⟩ := Kd.V_slice HO968.out; subst eo17; obtain ⟨Ao18, co18, eo18⟩ := Kd.V_slice HO_9.out; subst eo18) | (go_at_call 50; (with_reducible refine (spec_l04Mul.calls k1 _ _ t966 _ _ x9_1 _ _ l1 t969 _ ?side1 ?side2 ?side3 ?side4 ?side5 ?side6 A10.out).mono ?_); (case side1 => exact pC_ (Kd.V_reads' HO968.out).2.2); (case side2 => exact (Kd.V_reads' HO968.out).2.1); (case side3 => exact pC_ (Kd.V_reads' HO_9.out).2.2); (case side4 => exact (Kd.V_reads' HO_9.out).2.1); (case side5 => exact pC_ (Kd.V_reads' HO_1.out).2.2); (case side6 => exact (Kd.V_reads' HO_1.out).2.1); rintro e w19 ⟨v970, rfl, ho0, hb⟩; replace HO_1 := Aside0.mk (Kd.V_below (pV_ HO_1.out) hb); replace HO_6 := Aside0.mk (Kd.V_below (pV_ HO_6.out) hb); replace HO_7 := Aside0.mk (Kd.V_below (pV_ HO_7.out) hb); replace HO_8 := Aside0.mk (Kd.V_below (pV_ HO_8.out) hb); replace HO_9 := Aside0.mk (Kd.V_below (pV_ HO_9.out) hb); replace HO959 := Aside0.mk (Kd.V_below (pV_ HO959.out) hb); replace HO962 := Aside0.mk (Kd.V_below (pV_ HO962.out) hb); replace HO965 := Aside0.mk (Kd.V_below (pV_ HO965.out) hb); replace HO968 := Aside0.mk (Kd.V_below (pV_ HO968.out) hb); have HO971 := Aside0.mk (Kd.V_lower (Kd.V_mono (ok' := fun k_ => ((P0_ k_ ∨ P1_ k_) ∨ w.heap.size ≤ k_)) ho0 (fun k_ hk_ => (.inr (Nat.le_trans (below_size (pB_ HB.out)) hk_)))) (below_size (pB_ HB.out))); replace HB := Aside0.mk (below_step (pB_ HB.out) hb); clear hb ho0; obtain ⟨Ao20, co20, eo20⟩ := Kd.V_slice HO_8.out; subst eo20; obtain ⟨Ao21, co21, eo21⟩ := Kd.V_slice HO971.out; subst eo21) | (go_at_call 93; (with_reducible refine (spec_l04Sub.calls k1 _ _ x8_1 _ _ t969 _ _ l1 t972 _ ?side1 ?side2 ?side3 ?side4 ?side5 ?side6 A11.out).mono ?_); (case side1 => exact pC_ (Kd.V_reads' HO_8.out).2.2); (case side2 => exact (Kd.V_reads' HO_8.out).2.1); (case side3 => exact pC_ (Kd.V_reads' HO971.out).2.2); (case side4 => exact (Kd.V_reads' HO971.out).2.1); (case side5 => exact pC_ (Kd.V_reads' HO_1.out).2.2); (case side6 => exact (Kd.V_reads' HO_1.out).2.1); rintro e w22 ⟨v973, rfl, ho0, hb⟩; replace HO_1 := Aside0.mk (Kd.V_below (pV_ HO_1.out) hb); replace HO_6 := Aside0.mk (Kd.V_below (pV_ HO_6.out) hb); replace HO_7 := Aside0.mk (Kd.V_below (pV_ HO_7.out) hb); replace HO_8 := Aside0.mk (Kd.V_below (pV_ HO_8.out) hb); replace HO_9 := Aside0.mk (Kd.V_below (pV_ HO_9.out) hb); replace HO959 := Aside0.mk (Kd.V_below (pV_ HO959.out) hb); replace HO962 := Aside0.mk (Kd.V_below (pV_ HO962.out) hb); replace HO965 := Aside0.mk (Kd.V_below (pV_ HO965.out) hb); replace HO968 := Aside0.mk (Kd.V_below (pV_ HO968.out) hb); replace HO971 := Aside0.mk (Kd.V_below (pV_ HO971.out) hb); have HO974 := Aside0.mk (Kd.V_lower (Kd.V_mono (ok' := fun k_ => ((P0_ k_ ∨ P1_ k_) ∨ w.heap.size ≤ k_)) ho0 (fun k_ hk_ => (.inr (Nat.le_trans (below_size (pB_ HB.out)) hk_)))) (below_size (pB_ HB.out))); replace HB := Aside0.mk (below_step (pB_ HB.out) hb); clear hb ho0))
  repeat (go_quiet (first | (go_at_call 44; (with_reducible refine (spec_l02Div.calls k1 _ _ x6_1 _ _ x7_1 t957 t960 _ ?side1 ?side2 ?side3 ?side4 A8.out).mono ?_); (case side1 => exact pC_ (Kd.V_reads' HO_6.out).2.2); (case side2 => exact (Kd.V_reads' HO_6.out).2.1); (case side3 => exact pC_ (Kd.V_reads' HO_7.out).2.2); (case side4 => exact (Kd.V_reads' HO_7.out).2.1); rintro e w14 ⟨v958, v961, rfl, ho0, ho1, hb⟩; replace HO_1 := Aside0.mk (Kd.V_below (pV_ HO_1.out) hb); replace HO_6 := Aside0.mk (Kd.V_below (pV_ HO_6.out) hb); replace HO_7 := Aside0.mk (Kd.V_below (pV_ HO_7.out) hb); replace HO_8 := Aside0.mk (Kd.V_below (pV_ HO_8.out) hb); replace HO_9 := Aside0.mk (Kd.V_below (pV_ HO_9.out) hb); have HO959 := Aside0.mk (Kd.V_lower (Kd.V_mono (ok' := fun k_ => ((P0_ k_ ∨ P1_ k_) ∨ w.heap.size ≤ k_)) ho0 (fun k_ hk_ => (.inr (Nat.le_trans (below_size (pB_ HB.out)) hk_)))) (below_size (pB_ HB.out))); have HO962 := Aside0.mk (Kd.V_lower (Kd.V_mono (ok' := fun k_ => ((P0_ k_ ∨ P1_ k_) ∨ w.heap.size ≤ k_)) ho1 (fun k_ hk_ => (.inr (Nat.le_trans (below_size (pB_ HB.out)) hk_)))) (below_size (pB_ HB.out))); replace HB := Aside0.mk (below_step (pB_ HB.out) hb); clear hb ho0 ho1; obtain ⟨Ao15, co15, eo15⟩ := Kd.V_slice HO959.out; subst eo15) | (go_at_call 44; (with_reducible refine (spec_l02Div.calls k1 _ _ t957 _ _ l1 t963 t966 _ ?side1 ?side2 ?side3 ?side4 A9.out).mono ?_); (case side1 => exact pC_ (Kd.V_reads' HO959.out).2.2); (case side2 => exact (Kd.V_reads' HO959.out).2.1); (case side3 => exact pC_ (Kd.V_reads' HO_1.out).2.2); (case side4 => exact (Kd.V_reads' HO_1.out).2.1); rintro e w16 ⟨v964, v967, rfl, ho0, ho1, hb⟩; replace HO_1 := Aside0.mk (Kd.V_below (pV_ HO_1.out) hb); replace HO_6 := Aside0.mk (Kd.V_below (pV_ HO_6.out) hb); replace HO_7 := Aside0.mk (Kd.V_below (pV_ HO_7.out) hb); replace HO_8 := Aside0.mk (Kd.V_below (pV_ HO_8.out) hb); replace HO_9 := Aside0.mk (Kd.V_below (pV_ HO_9.out) hb); replace HO959 := Aside0.mk (Kd.V_below (pV_ HO959.out) hb); replace HO962 := Aside0.mk (Kd.V_below (pV_ HO962.out) hb); have HO965 := Aside0.mk (Kd.V_lower (Kd.V_mono (ok' := fun k_ => ((P0_ k_ ∨ P1_ k_) ∨ w.heap.size ≤ k_)) ho0 (fun k_ hk_ => (.inr (Nat.le_trans (below_size (pB_ HB.out)) hk_)))) (below_size (pB_ HB.out))); have HO968 := Aside0.mk (Kd.V_lower (Kd.V_mono (ok' := fun k_ => ((P0_ k_ ∨ P1_ k_) ∨ w.heap.size ≤ k_)) ho1 (fun k_ hk_ => (.inr (Nat.le_trans (below_size (pB_ HB.out)) hk_)))) (below_size (pB_ HB.out))); replace HB := Aside0.mk (below_step (pB_ HB.out) hb); clear hb ho0 ho1; obtain ⟨Ao17, co17, eo17⟩ := Kd.V_slice HO968.out; subst eo17; obtain ⟨Ao18, co18, eo18⟩ := Kd.V_slice HO_9.out; subst eo18) | (go_at_call 50; (with_reducible refine (spec_l04Mul.calls k1 _ _ t966 _ _ x9_1 _ _ l1 t969 _ ?side1 ?side2 ?side3 ?side4 ?side5 ?side6 A10.out).mono ?_); (case side1 => exact pC_ (Kd.V_reads' HO968.out).2.2); (case side2 => exact (Kd.V_reads' HO968.out).2.1); (case side3 => exact pC_ (Kd.V_reads' HO_9.out).2.2); (case side4 => exact (Kd.V_reads' HO_9.out).2.1); (case side5 => exact pC_ (Kd.V_reads' HO_1.out).2.2); (case side6 => exact (Kd.V_reads' HO_1.out).2.1); rintro e w19 ⟨v970, rfl, ho0, hb⟩; replace HO_1 := Aside0.mk (Kd.V_below (pV_ HO_1.out) hb); replace HO_6 := Aside0.mk (Kd.V_below (pV_ HO_6.out) hb); replace HO_7 := Aside0.mk (Kd.V_below (pV_ HO_7.out) hb); replace HO_8 := Aside0.mk (Kd.V_below (pV_ HO_8.out) hb); replace HO_9 := Aside0.mk (Kd.V_below (pV_ HO_9.out) hb); replace HO959 := Aside0.mk (Kd.V_below (pV_ HO959.out) hb); replace HO962 := Aside0.mk (Kd.V_below (pV_ HO962.out) hb); replace HO965 := Aside0.mk (Kd.V_below (pV_ HO965.out) hb); replace HO968 := Aside0.mk (Kd.V_below (pV_ HO968.out) hb); have HO971 := Aside0.mk (Kd.V_lower (Kd.V_mono (ok' := fun k_ => ((P0_ k_ ∨ P1_ k_) ∨ w.heap.size ≤ k_)) ho0 (fun k_ hk_ => (.inr (Nat.le_trans (below_size (pB_ HB.out)) hk_)))) (below_size (pB_ HB.out))); replace HB := Aside0.mk (below_step (pB_ HB.out) hb); clear hb ho0; obtain ⟨Ao20, co20, eo20⟩ := Kd.V_slice HO_8.out; subst eo20; obtain ⟨Ao21, co21, eo21⟩ := Kd.V_slice HO971.out; subst eo21) | (go_at_call 93; (with_reducible refine (spec_l04Sub.calls k1 _ _ x8_1 _ _ t969 _ _ l1 t972 _ ?side1 ?side2 ?side3 ?side4 ?side5 ?side6 A11.out).mono ?_); (case side1 => exact pC_ (Kd.V_reads' HO_8.out).2.2); (case side2 => exact (Kd.V_reads' HO_8.out).2.1); (case side3 => exact pC_ (Kd.V_reads' HO971.out).2.2); (case side4 => exact (Kd.V_reads' HO971.out).2.1); (case side5 => exact pC_ (Kd.V_reads' HO_1.out).2.2); (case side6 => exact (Kd.V_reads' HO_1.out).2.1); rintro e w22 ⟨v973, rfl, ho0, hb⟩; replace HO_1 := Aside0.mk (Kd.V_below (pV_ HO_1.out) hb); replace HO_6 := Aside0.mk (Kd.V_below (pV_ HO_6.out) hb); replace HO_7 := Aside0.mk (Kd.V_below (pV_ HO_7.out) hb); replace HO_8 := Aside0.mk (Kd.V_below (pV_ HO_8.out) hb); replace HO_9 := Aside0.mk (Kd.V_below (pV_ HO_9.out) hb); replace HO959 := Aside0.mk (Kd.V_below (pV_ HO959.out) hb); replace HO962 := Aside0.mk (Kd.V_below (pV_ HO962.out) hb); replace HO965 := Aside0.mk (Kd.V_below (pV_ HO965.out) hb); replace HO968 := Aside0.mk (Kd.V_below (pV_ HO968.out) hb); replace HO971 := Aside0.mk (Kd.V_below (pV_ HO971.out) hb); have HO974 := Aside0.mk (Kd.V_lower (Kd.V_mono (ok' := fun k_ => ((P0_ k_ ∨ P1_ k_) ∨ w.heap.size ≤ k_)) ho0 (fun k_ hk_ => (.inr (Nat.le_trans (below_size (pB_ HB.out)) hk_)))) (below_size (pB_ HB.out))); replace HB := Aside0.mk (below_step (pB_ HB.out) hb); clear hb ho0)); try go_wp2_with (first | (go_at_call 44; (with_reducible refine (spec_l02Div.calls k1 _ _ x6_1 _ _ x7_1 t957 t960 _ ?side1 ?side2 ?side3 ?side4 A8.out).mono ?_); (case side1 => exact pC_ (Kd.V_reads' HO_6.out).2.2); (case side2 => exact (Kd.V_reads' HO_6.out).2.1); (case side3 => exact pC_ (Kd.V_reads' HO_7.out).2.2); (case side4 => exact (Kd.V_reads' HO_7.out).2.1); rintro e w14 ⟨v958, v961, rfl, ho0, ho1, hb⟩; replace HO_1 := Aside0.mk (Kd.V_below (pV_ HO_1.out) hb); replace HO_6 := Aside0.mk (Kd.V_below (pV_ HO_6.out) hb); replace HO_7 := Aside0.mk (Kd.V_below (pV_ HO_7.out) hb); replace HO_8 := Aside0.mk (Kd.V_below (pV_ HO_8.out) hb); replace HO_9 := Aside0.mk (Kd.V_below (pV_ HO_9.out) hb); have HO959 := Aside0.mk (Kd.V_lower (Kd.V_mono (ok' := fun k_ => ((P0_ k_ ∨ P1_ k_) ∨ w.heap.size ≤ k_)) ho0 (fun k_ hk_ => (.inr (Nat.le_trans (below_size (pB_ HB.out)) hk_)))) (below_size (pB_ HB.out))); have HO962 := Aside0.mk (Kd.V_lower (Kd.V_mono (ok' := fun k_ => ((P0_ k_ ∨ P1_ k_) ∨ w.heap.size ≤ k_)) ho1 (fun k_ hk_ => (.inr (Nat.le_trans (below_size (pB_ HB.out)) hk_)))) (below_size (pB_ HB.out))); replace HB := Aside0.mk (below_step (pB_ HB.out) hb); clear hb ho0 ho1; obtain ⟨Ao15, co15, eo15⟩ := Kd.V_slice HO959.out; subst eo15) | (go_at_call 44; (with_reducible refine (spec_l02Div.calls k1 _ _ t957 _ _ l1 t963 t966 _ ?side1 ?side2 ?side3 ?side4 A9.out).mono ?_); (case side1 => exact pC_ (Kd.V_reads' HO959.out).2.2); (case side2 => exact (Kd.V_reads' HO959.out).2.1); (case side3 => exact pC_ (Kd.V_reads' HO_1.out).2.2); (case side4 => exact (Kd.V_reads' HO_1.out).2.1); rintro e w16 ⟨v964, v967, rfl, ho0, ho1, hb⟩; replace HO_1 := Aside0.mk (Kd.V_below (pV_ HO_1.out) hb); replace HO_6 := Aside0.mk (Kd.V_below (pV_ HO_6.out) hb); replace HO_7 := Aside0.mk (Kd.V_below (pV_ HO_7.out) hb); replace HO_8 := Aside0.mk (Kd.V_below (pV_ HO_8.out) hb); replace HO_9 := Aside0.mk (Kd.V_below (pV_ HO_9.out) hb); replace HO959 := Aside0.mk (Kd.V_below (pV_ HO959.out) hb); replace HO962 := Aside0.mk (Kd.V_below (pV_ HO962.out) hb); have HO965 := Aside0.mk (Kd.V_lower (Kd.V_mono (ok' := fun k_ => ((P0_ k_ ∨ P1_ k_) ∨ w.heap.size ≤ k_)) ho0 (fun k_ hk_ => (.inr (Nat.le_trans (below_size (pB_ HB.out)) hk_)))) (below_size (pB_ HB.out))); have HO968 := Aside0.mk (Kd.V_lower (Kd.V_mono (ok' := fun k_ => ((P0_ k_ ∨ P1_ k_) ∨ w.heap.size ≤ k_)) ho1 (fun k_ hk_ => (.inr (Nat.le_trans (below_size (pB_ HB.out)) hk_)))) (below_size (pB_ HB.out))); replace HB := Aside0.mk (below_step (pB_ HB.out) hb); clear hb ho0 ho1; obtain ⟨Ao17, co17, eo17⟩ := Kd.V_slice HO968.out; subst eo17; obtain ⟨Ao18, co18, eo18⟩ := Kd.V_slice HO_9.out; subst eo18) | (go_at_call 50; (with_reducible refine (spec_l04Mul.calls k1 _ _ t966 _ _ x9_1 _ _ l1 t969 _ ?side1 ?side2 ?side3 ?side4 ?side5 ?side6 A10.out).mono ?_); (case side1 => exact pC_ (Kd.V_reads' HO968.out).2.2); (case side2 => exact (Kd.V_reads' HO968.out).2.1); (case side3 => exact pC_ (Kd.V_reads' HO_9.out).2.2); (case side4 => exact (Kd.V_reads' HO_9.out).2.1); (case side5 => exact pC_ (Kd.V_reads' HO_1.out).2.2); (case side6 => exact (Kd.V_reads' HO_1.out).2.1); rintro e w19 ⟨v970, rfl, ho0, hb⟩; replace HO_1 := Aside0.mk (Kd.V_below (pV_ HO_1.out) hb); replace HO_6 := Aside0.mk (Kd.V_below (pV_ HO_6.out) hb); replace HO_7 := Aside0.mk (Kd.V_below (pV_ HO_7.out) hb); replace HO_8 := Aside0.mk (Kd.V_below (pV_ HO_8.out) hb); replace HO_9 := Aside0.mk (Kd.V_below (pV_ HO_9.out) hb); replace HO959 := Aside0.mk (Kd.V_below (pV_ HO959.out) hb); replace HO962 := Aside0.mk (Kd.V_below (pV_ HO962.out) hb); replace HO965 := Aside0.mk (Kd.V_below (pV_ HO965.out) hb); replace HO968 := Aside0.mk (Kd.V_below (pV_ HO968.out) hb); have HO971 := Aside0.mk (Kd.V_lower (Kd.V_mono (ok' := fun k_ => ((P0_ k_ ∨ P1_ k_) ∨ w.heap.size ≤ k_)) ho0 (fun k_ hk_ => (.inr (Nat.le_trans (below_size (pB_ HB.out)) hk_)))) (below_size (pB_ HB.out))); replace HB := Aside0.mk (below_step (pB_ HB.out) hb); clear hb ho0; obtain ⟨Ao20, co20, eo20⟩ := Kd.V_slice HO_8.out; subst eo20; obtain ⟨Ao21, co21, eo21⟩ := Kd.V_slice HO971.out; subst eo21) | (go_at_call 93; (with_reducible refine (spec_l04Sub.calls k1 _ _ x8_1 _ _ t969 _ _ l1 t972 _ ?side1 ?side2 ?side3 ?side4 ?side5 ?side6 A11.out).mono ?_); (case side1 => exact pC_ (Kd.V_reads' HO_8.out).2.2); (case side2 => exact (Kd.V_reads' HO_8.out).2.1); (case side3 => exact pC_ (Kd.V_reads' HO971.out).2.2); (case side4 => exact (Kd.V_reads' HO971.out).2.1); (case side5 => exact pC_ (Kd.V_reads' HO_1.out).2.2); (case side6 => exact (Kd.V_reads' HO_1.out).2.1); rintro e w22 ⟨v973, rfl, ho0, hb⟩; replace HO_1 := Aside0.mk (Kd.V_below (pV_ HO_1.out) hb); replace HO_6 := Aside0.mk (Kd.V_below (pV_ HO_6.out) hb); replace HO_7 := Aside0.mk (Kd.V_below (pV_ HO_7.out) hb); replace HO_8 := Aside0.mk (Kd.V_below (pV_ HO_8.out) hb); replace HO_9 := Aside0.mk (Kd.V_below (pV_ HO_9.out) hb); replace HO959 := Aside0.mk (Kd.V_below (pV_ HO959.out) hb); replace HO962 := Aside0.mk (Kd.V_below (pV_ HO962.out) hb); replace HO965 := Aside0.mk (Kd.V_below (pV_ HO965.out) hb); replace HO968 := Aside0.mk (Kd.V_below (pV_ HO968.out) hb); replace HO971 := Aside0.mk (Kd.V_below (pV_ HO971.out) hb); have HO974 := Aside0.mk (Kd.V_lower (Kd.V_mono (ok' := fun k_ => ((P0_ k_ ∨ P1_ k_) ∨ w.heap.size ≤ k_)) ho0 (fun k_ hk_ => (.inr (Nat.le_trans (below_size (pB_ HB.out)) hk_)))) (below_size (pB_ HB.out))); replace HB := Aside0.mk (below_step (pB_ HB.out) hb); clear hb ho0)))
  go_roundg k1
  case measure => have := HK1.out; omega
  case rel => exact ⟨(x7_1), (t960), (x9_1), (t972), H', ⟨by have := HK1.out; omega⟩, ⟨by (with_reducible repeat (first | apply Kd.V_alloc | apply Kd.V_drewN | apply Kd.V_drew)); exact HO_1.out⟩, ⟨by (with_reducible repeat (first | apply Kd.V_alloc | apply Kd.V_drewN | apply Kd.V_drew)); exact HO_7.out⟩, ⟨by (with_reducible repeat (first | apply Kd.V_alloc | apply Kd.V_drewN | apply Kd.V_drew)); exact HO962.out⟩, ⟨by (with_reducible repeat (first | apply Kd.V_alloc | apply Kd.V_drewN | apply Kd.V_drew)); exact HO_9.out⟩, ⟨by (with_reducible repeat (first | apply Kd.V_alloc | apply Kd.V_drewN | apply Kd.V_drew)); exact HO974.out⟩, ⟨pB_ HB.out⟩⟩

/-! ### spec_InverseRest: function 30 -/
def spec_InverseRest.j0 : Nat → ByteArray → ByteArray → Bool → Option (ByteArray × Bool)
  | 0, _, _, _ => none
  | k + 1, x0, x1, x16 => if x16 = true then (some ((⟨#[]⟩ : ByteArray), false)) else ((spec_l02In.f k x0).bind fun t977 => ((spec_l02In.f k x1).bind fun t980 => ((spec_l04Inverse.f k t977 t980).bind fun bt983 => (if bt983.2 = true then ((spec_l02Out.f k bt983.1).bind fun t987 => (some (t987, true))) else (some ((⟨#[]⟩ : ByteArray), false))))))
def spec_InverseRest.f (k : Nat) (a0 : ByteArray) (a1 : ByteArray) : Option (ByteArray × Bool) := (spec_l04Mod.f a1).bind fun t975 => (if t975 = true then ((spec_RestOk.f k a0 a1).bind fun t976 => (spec_InverseRest.j0 k a0 a1 (!t976))) else (spec_InverseRest.j0 k a0 a1 true))
set_option maxHeartbeats 8000000 in
set_option maxRecDepth 100000 in
theorem spec_InverseRest.calls (k : Nat) (a0 : ByteArray) (a1 : ByteArray) (r1 : ByteArray) (r2 : Bool) (w : World) (h : spec_InverseRest.f k a0 a1 = some (r1, r2)) :
    Calls Try.prog 30 #[.string a0, .string a1] w fun e w' => e = .returned (.tuple #[.string r1, .bool r2]) ∧ Below w.heap.size w w' := by
  have HB := Aside0.mk (Below.refl w.heap.size w)
  have H : ((spec_l04Mod.f a1).bind fun t975 => (if t975 = true then ((spec_RestOk.f k a0 a1).bind fun t976 => (spec_InverseRest.j0 k a0 a1 (!t976))) else (spec_InverseRest.j0 k a0 a1 true))) = some (r1, r2) := h
  clear h
  have HC3 := Aside0.mk H
  clear H
  go_enter Try.func30, Try.ntmps30
  go_upto_region 1 with (fail)
  go_cut [16] (fun v16 wc => ∃ (kq : Nat) (x16_2 : Bool), v16 = .bool x16_2 ∧ Aside0 (spec_InverseRest.j0 kq a0 a1 x16_2 = some (r1, r2)) ∧ Aside0 (kq ≤ k) ∧ Aside0 (Below w.heap.size w wc))
  case first =>
    have H := HC3.out
    clear HC3
    replace H := Option.bind_eq_some_iff.mp H
    obtain ⟨t975, A40, H⟩ := H
    have A4 := Aside0.mk A40
    clear A40
    by_cases c5 : t975 = true
    · subst c5
      have H1 : ((spec_RestOk.f k a0 a1).bind fun t976 => (spec_InverseRest.j0 k a0 a1 (!t976))) = some (r1, r2) := by rw [if_pos rfl] at H; exact H
      clear H
      have H := H1
      clear H1
      replace H := Option.bind_eq_some_iff.mp H
      obtain ⟨t976, A60, H⟩ := H
      have A6 := Aside0.mk A60
      clear A60
      have H' := Aside0.mk H
      clear H
      go_wp2_with (first | ((with_reducible refine gate_callee (f := 32) rfl ?_); refine gL_ 9 Try.func32 rfl #[.string a1] ?_; (with_reducible refine (spec_l04Mod.calls a1 true _ A4.out).mono ?_); rintro e w' ⟨rfl, ⟨nd, rfl⟩⟩; refine ⟨_, rfl, ?_⟩) | (go_at_call 33; (with_reducible refine (spec_RestOk.calls k a0 a1 t976 _ A6.out).mono ?_); rintro e w7 ⟨rfl, hb⟩; replace HB := Aside0.mk (below_step (pB_ HB.out) hb); clear hb))
      go_meet
      case rel => exact ⟨_, (!t976), (by first | rfl | (simp; done) | (simp [*]; done)), H', ⟨by first | omega | exact Nat.le_refl _⟩, ⟨pB_ HB.out⟩⟩
    · replace c5 := Bool.eq_false_iff.mpr c5
      subst c5
      have H1 : (spec_InverseRest.j0 k a0 a1 true) = some (r1, r2) := by rw [if_neg (show ¬ (false = true) by decide)] at H; exact H
      clear H
      have H := H1
      clear H1
      have H' := Aside0.mk H
      clear H
      go_wp2_with (first | ((with_reducible refine gate_callee (f := 32) rfl ?_); refine gL_ 9 Try.func32 rfl #[.string a1] ?_; (with_reducible refine (spec_l04Mod.calls a1 false _ A4.out).mono ?_); rintro e w' ⟨rfl, ⟨nd, rfl⟩⟩; refine ⟨_, rfl, ?_⟩))
      go_meet
      case rel => exact ⟨_, (true), (by first | rfl | (simp; done) | (simp [*]; done)), H', ⟨by first | omega | exact Nat.le_refl _⟩, ⟨pB_ HB.out⟩⟩
  clear HC3
  try clear p2
  try clear c3
  try clear c5
  obtain ⟨kq, x16_2, rfl, HA, HJ2, HB⟩ := hcut
  rcases kq with _ | kj2
  · exact absurd HA.out (by simp [spec_InverseRest.j0])
  have H := HA.out
  clear HA
  simp only [spec_InverseRest.j0] at H
  by_cases c8 : x16_2 = true
  · subst c8
    have H1 : (some ((⟨#[]⟩ : ByteArray), false)) = some (r1, r2) := by rw [if_pos rfl] at H; exact H
    clear H
    have H := H1
    clear H1
    simp only [Option.some.injEq, Prod.mk.injEq] at H
    obtain ⟨rfl, rfl⟩ := H
    go_wp2
    go_ret2
    exact ⟨by first | rfl | (simp [errW_none, errW_some] <;> rfl) | (simp [*, errW_none, errW_some] <;> rfl), pB_ HB.out⟩
  · replace c8 := Bool.eq_false_iff.mpr c8
    subst c8
    have H1 : ((spec_l02In.f kj2 a0).bind fun t977 => ((spec_l02In.f kj2 a1).bind fun t980 => ((spec_l04Inverse.f kj2 t977 t980).bind fun bt983 => (if bt983.2 = true then ((spec_l02Out.f kj2 bt983.1).bind fun t987 => (some (t987, true))) else (some ((⟨#[]⟩ : ByteArray), false)))))) = some (r1, r2) := by rw [if_neg (show ¬ (false = true) by decide)] at H; exact H
    clear H
    have H := H1
    clear H1
    replace H := Option.bind_eq_some_iff.mp H
    obtain ⟨t977, A90, H⟩ := H
    have A9 := Aside0.mk A90
    clear A90
    replace H := Option.bind_eq_some_iff.mp H
    obtain ⟨t980, A100, H⟩ := H
    have A10 := Aside0.mk A100
    clear A100
    replace H := Option.bind_eq_some_iff.mp H
    obtain ⟨⟨t983, t986⟩, A110, H⟩ := H
    replace H : (if t986 = true then ((spec_l02Out.f kj2 t983).bind fun t987 => (some (t987, true))) else (some ((⟨#[]⟩ : ByteArray), false))) = some (r1, r2) := H
    have A11 := Aside0.mk A110
    clear A110
    by_cases c12 : t986 = true
    · subst c12
      have H1 : ((spec_l02Out.f kj2 t983).bind fun t987 => (some (t987, true))) = some (r1, r2) := by rw [if_pos rfl] at H; exact H
      clear H
      have H := H1
      clear H1
      replace H := Option.bind_eq_some_iff.mp H
      obtain ⟨t987, A130, H⟩ := H
      have A13 := Aside0.mk A130
      clear A130
      simp only [Option.some.injEq, Prod.mk.injEq] at H
      obtain ⟨rfl, rfl⟩ := H
      go_wp2_with (first | ((with_reducible refine gate_callee (f := 37) rfl ?_); refine gL_ 19 Try.func37 rfl #[.string a0] ?_; (with_reducible refine (spec_l02In.calls kj2 a0 t977 _ A9.out).mono ?_); rintro e w14 ⟨v978, rfl, ho0, hb⟩; refine ⟨_, rfl, ?_⟩; have HO979 := Aside0.mk (Kd.V_lower (Kd.V_mono (ok' := fun k_ => True) ho0 (fun k_ hk_ => trivial)) (below_size (pB_ HB.out))); replace HB := Aside0.mk (below_step (pB_ HB.out) hb); clear hb ho0) | ((with_reducible refine gate_callee (f := 37) rfl ?_); refine gL_ 21 Try.func37 rfl #[.string a1] ?_; (with_reducible refine (spec_l02In.calls kj2 a1 t980 _ A10.out).mono ?_); rintro e w15 ⟨v981, rfl, ho0, hb⟩; refine ⟨_, rfl, ?_⟩; replace HO979 := Aside0.mk (Kd.V_below (pV_ HO979.out) hb); have HO982 := Aside0.mk (Kd.V_lower (Kd.V_mono (ok' := fun k_ => True) ho0 (fun k_ hk_ => trivial)) (below_size (pB_ HB.out))); replace HB := Aside0.mk (below_step (pB_ HB.out) hb); clear hb ho0; obtain ⟨Ao16, co16, eo16⟩ := Kd.V_slice HO979.out; subst eo16; obtain ⟨Ao17, co17, eo17⟩ := Kd.V_slice HO982.out; subst eo17) | ((with_reducible refine gate_callee (f := 64) rfl ?_); refine gL_ 22 Try.func64 rfl #[.slice Ao16 t977.length co16, .slice Ao17 t980.length co17] ?_; (with_reducible refine (spec_l04Inverse.calls kj2 (fun k_ => True) _ _ t977 (fun k_ => True) _ _ t980 t983 true _ ?side1 ?side2 A11.out).mono ?_); (case side1 => exact HO979.out); (case side2 => exact HO982.out); rintro e w18 ⟨v984, rfl, ho0, hb⟩; refine ⟨_, rfl, ?_⟩; replace HO979 := Aside0.mk (Kd.V_below (pV_ HO979.out) hb); replace HO982 := Aside0.mk (Kd.V_below (pV_ HO982.out) hb); have HO985 := Aside0.mk (Kd.V_lower (Kd.V_mono (ok' := fun k_ => True) ho0 (fun k_ hk_ => trivial)) (below_size (pB_ HB.out))); replace HB := Aside0.mk (below_step (pB_ HB.out) hb); clear hb ho0; obtain ⟨Ao19, co19, eo19⟩ := Kd.V_slice HO985.out; subst eo19) | ((with_reducible refine gate_callee (f := 35) rfl ?_); refine gL_ 28 Try.func35 rfl #[.slice Ao19 t983.length co19] ?_; (with_reducible refine (spec_l02Out.calls kj2 _ _ t983 t987 _ ?side1 ?side2 A13.out).mono ?_); (case side1 => exact pC_ (Kd.V_reads' HO985.out).2.2); (case side2 => exact (Kd.V_reads' HO985.out).2.1); rintro e w20 ⟨rfl, hb⟩; refine ⟨_, rfl, ?_⟩; replace HO979 := Aside0.mk (Kd.V_below (pV_ HO979.out) hb); replace HO982 := Aside0.mk (Kd.V_below (pV_ HO982.out) hb); replace HO985 := Aside0.mk (Kd.V_below (pV_ HO985.out) hb); replace HB := Aside0.mk (below_step (pB_ HB.out) hb); clear hb))
      go_ret2
      exact ⟨by first | rfl | (simp [errW_none, errW_some] <;> rfl) | (simp [*, errW_none, errW_some] <;> rfl), pB_ HB.out⟩
    · replace c12 := Bool.eq_false_iff.mpr c12
      subst c12
      have H1 : (some ((⟨#[]⟩ : ByteArray), false)) = some (r1, r2) := by rw [if_neg (show ¬ (false = true) by decide)] at H; exact H
      clear H
      have H := H1
      clear H1
      simp only [Option.some.injEq, Prod.mk.injEq] at H
      obtain ⟨rfl, rfl⟩ := H
      go_wp2_with (first | ((with_reducible refine gate_callee (f := 37) rfl ?_); refine gL_ 19 Try.func37 rfl #[.string a0] ?_; (with_reducible refine (spec_l02In.calls kj2 a0 t977 _ A9.out).mono ?_); rintro e w21 ⟨v978, rfl, ho0, hb⟩; refine ⟨_, rfl, ?_⟩; have HO979 := Aside0.mk (Kd.V_lower (Kd.V_mono (ok' := fun k_ => True) ho0 (fun k_ hk_ => trivial)) (below_size (pB_ HB.out))); replace HB := Aside0.mk (below_step (pB_ HB.out) hb); clear hb ho0) | ((with_reducible refine gate_callee (f := 37) rfl ?_); refine gL_ 21 Try.func37 rfl #[.string a1] ?_; (with_reducible refine (spec_l02In.calls kj2 a1 t980 _ A10.out).mono ?_); rintro e w22 ⟨v981, rfl, ho0, hb⟩; refine ⟨_, rfl, ?_⟩; replace HO979 := Aside0.mk (Kd.V_below (pV_ HO979.out) hb); have HO982 := Aside0.mk (Kd.V_lower (Kd.V_mono (ok' := fun k_ => True) ho0 (fun k_ hk_ => trivial)) (below_size (pB_ HB.out))); replace HB := Aside0.mk (below_step (pB_ HB.out) hb); clear hb ho0; obtain ⟨Ao23, co23, eo23⟩ := Kd.V_slice HO979.out; subst eo23; obtain ⟨Ao24, co24, eo24⟩ := Kd.V_slice HO982.out; subst eo24) | ((with_reducible refine gate_callee (f := 64) rfl ?_); refine gL_ 22 Try.func64 rfl #[.slice Ao23 t977.length co23, .slice Ao24 t980.length co24] ?_; (with_reducible refine (spec_l04Inverse.calls kj2 (fun k_ => True) _ _ t977 (fun k_ => True) _ _ t980 t983 false _ ?side1 ?side2 A11.out).mono ?_); (case side1 => exact HO979.out); (case side2 => exact HO982.out); rintro e w25 ⟨v984, rfl, ho0, hb⟩; refine ⟨_, rfl, ?_⟩; replace HO979 := Aside0.mk (Kd.V_below (pV_ HO979.out) hb); replace HO982 := Aside0.mk (Kd.V_below (pV_ HO982.out) hb); have HO985 := Aside0.mk (Kd.V_lower (Kd.V_mono (ok' := fun k_ => True) ho0 (fun k_ hk_ => trivial)) (below_size (pB_ HB.out))); replace HB := Aside0.mk (below_step (pB_ HB.out) hb); clear hb ho0))
      go_ret2
      exact ⟨by first | rfl | (simp [errW_none, errW_some] <;> rfl) | (simp [*, errW_none, errW_some] <;> rfl), pB_ HB.out⟩

/-! ### impl_nat_zero: function 94 -/
def impl_nat_zero.f (l0 : List Int) : Option (Bool) := some ((l0.length : Int) == 0)
set_option maxHeartbeats 8000000 in
set_option maxRecDepth 100000 in
theorem impl_nat_zero.calls (A0 : Option Addr) (c0 : Nat) (l0 : List Int) (r : Bool) (w : World) (hr0 : Kd.C (Kd.int .u64) w A0 l0.length l0) (hc0 : l0.length ≤ c0) (h : impl_nat_zero.f l0 = some r) :
    Calls Try.prog 94 #[.slice A0 l0.length c0] w fun e w' => e = .returned (.bool r) ∧ Drawn0 w w' := by
  have HR0 := Aside0.mk hr0
  have HC0 := Aside0.mk hc0
  clear hr0 hc0
  have H : (some ((l0.length : Int) == 0)) = some r := h
  clear h
  obtain rfl := Option.some.inj H
  go_enter Try.func94, Try.ntmps94
  go_wp2
  go_ret
  exact ⟨by first | rfl | (simp; done) | (simp [*]; done), by repeat (first | exact Drawn0.refl _ | apply Drawn0.step)⟩

/-! ### impl_prime_sub: function 95 -/
def impl_prime_sub.f (k : Nat) (l0 : List Int) (l1 : List Int) (l2 : List Int) : Option (List Int) := (impl_nat_cmp.f k l1 l2).bind fun t988 => (if t988 ≥ 0 then ((impl_nat_less.f k l1 l2).bind fun t989 => (some t989)) else ((impl_nat_plus.f k l1 l0).bind fun t992 => ((impl_nat_less.f k t992 l2).bind fun t995 => (some t995))))
set_option maxHeartbeats 8000000 in
set_option maxRecDepth 100000 in
theorem impl_prime_sub.calls (k : Nat) (P0_ : Nat → Prop) (A0 : Option Addr) (c0 : Nat) (l0 : List Int) (P1_ : Nat → Prop) (A1 : Option Addr) (c1 : Nat) (l1 : List Int) (A2 : Option Addr) (c2 : Nat) (l2 : List Int) (r : List Int) (w : World) (hs0 : Kd.V (Kd.int .u64) 83 w w.heap.size (fun k_ => P0_ k_) (.slice A0 l0.length c0) l0) (hs1 : Kd.V (Kd.int .u64) 83 w w.heap.size (fun k_ => P1_ k_) (.slice A1 l1.length c1) l1) (hr2 : Kd.C (Kd.int .u64) w A2 l2.length l2) (hc2 : l2.length ≤ c2) (h : impl_prime_sub.f k l0 l1 l2 = some r) :
    Calls Try.prog 95 #[.slice A0 l0.length c0, .slice A1 l1.length c1, .slice A2 l2.length c2] w fun e w' => ∃ v0_ : Value, e = .returned (v0_) ∧ Kd.V (Kd.int .u64) 83 w' w.heap.size (fun k_ => ((P0_ k_ ∨ P1_ k_) ∨ w.heap.size ≤ k_)) v0_ r ∧ Below w.heap.size w w' := by
  have HO0 := Aside0.mk (show Kd.V (Kd.int .u64) 83 w w.heap.size (fun k_ => ((P0_ k_ ∨ P1_ k_) ∨ w.heap.size ≤ k_)) (.slice A0 l0.length c0) l0 from Kd.V_mono hs0 (fun k_ hk => .inl (.inl hk)))
  have HO1 := Aside0.mk (show Kd.V (Kd.int .u64) 83 w w.heap.size (fun k_ => ((P0_ k_ ∨ P1_ k_) ∨ w.heap.size ≤ k_)) (.slice A1 l1.length c1) l1 from Kd.V_mono hs1 (fun k_ hk => .inl (.inr hk)))
  have HR2 := Aside0.mk hr2
  have HC2 := Aside0.mk hc2
  clear hr2 hc2
  have HB := Aside0.mk (Below.refl w.heap.size w)
  have H : ((impl_nat_cmp.f k l1 l2).bind fun t988 => (if t988 ≥ 0 then ((impl_nat_less.f k l1 l2).bind fun t989 => (some t989)) else ((impl_nat_plus.f k l1 l0).bind fun t992 => ((impl_nat_less.f k t992 l2).bind fun t995 => (some t995))))) = some r := h
  clear h
  replace H := Option.bind_eq_some_iff.mp H
  obtain ⟨t988, A40, H⟩ := H
  have A4 := Aside0.mk A40
  clear A40
  by_cases c5 : t988 ≥ 0
  · rw [if_pos c5] at H
    have c5b0 : decide (0 ≤ t988) = true := decide_eq_true c5
    clear c5
    replace H := Option.bind_eq_some_iff.mp H
    obtain ⟨t989, A60, H⟩ := H
    have A6 := Aside0.mk A60
    clear A60
    obtain rfl := Option.some.inj H
    go_enter Try.func95, Try.ntmps95
    go_wp2_with (first | ((with_reducible refine gate_callee (f := 69) rfl ?_); refine gL_ 9 Try.func69 rfl #[.slice A1 l1.length c1, .slice A2 l2.length c2] ?_; (with_reducible refine (impl_nat_cmp.calls k _ _ l1 _ _ l2 t988 _ ?side1 ?side2 ?side3 ?side4 A4.out).mono ?_); (case side1 => exact pC_ (Kd.V_reads' HO1.out).2.2); (case side2 => exact (Kd.V_reads' HO1.out).2.1); (case side3 => exact pC_ HR2.out); (case side4 => exact HC2.out); rintro e w' ⟨rfl, ⟨nd, rfl⟩⟩; refine ⟨_, rfl, ?_⟩) | ((with_reducible refine gate_callee (f := 99) rfl ?_); refine gL_ 13 Try.func99 rfl #[.slice A1 l1.length c1, .slice A2 l2.length c2] ?_; (with_reducible refine (impl_nat_less.calls k _ _ l1 _ _ l2 t989 _ ?side1 ?side2 ?side3 ?side4 A6.out).mono ?_); (case side1 => exact pC_ (Kd.V_reads' HO1.out).2.2); (case side2 => exact (Kd.V_reads' HO1.out).2.1); (case side3 => exact pC_ HR2.out); (case side4 => exact HC2.out); rintro e w7 ⟨v990, rfl, ho0, hb⟩; refine ⟨_, rfl, ?_⟩; replace HO0 := Aside0.mk (Kd.V_below (pV_ HO0.out) hb); replace HO1 := Aside0.mk (Kd.V_below (pV_ HO1.out) hb); have HO991 := Aside0.mk (Kd.V_lower (Kd.V_mono (ok' := fun k_ => ((P0_ k_ ∨ P1_ k_) ∨ w.heap.size ≤ k_)) ho0 (fun k_ hk_ => (.inr (Nat.le_trans (below_size (pB_ HB.out)) hk_)))) (below_size (pB_ HB.out))); replace HB := Aside0.mk (below_step (pB_ HB.out) hb); clear hb ho0))
    go_ret
    exact ⟨_, by first | rfl | (simp [errW_none, errW_some] <;> rfl) | (simp [*, errW_none, errW_some] <;> rfl), by (with_reducible repeat (first | apply Kd.V_alloc | apply Kd.V_drewN | apply Kd.V_drew)); exact HO991.out, pB_ HB.out⟩
  rw [if_neg c5] at H
  have c5b0 : decide (0 ≤ t988) = false := decide_eq_false c5
  clear c5
  replace H := Option.bind_eq_some_iff.mp H
  obtain ⟨t992, A80, H⟩ := H
  have A8 := Aside0.mk A80
  clear A80
  replace H := Option.bind_eq_some_iff.mp H
  obtain ⟨t995, A90, H⟩ := H
  have A9 := Aside0.mk A90
  clear A90
  obtain rfl := Option.some.inj H
  go_enter Try.func95, Try.ntmps95
  go_wp2_with (first | ((with_reducible refine gate_callee (f := 69) rfl ?_); refine gL_ 9 Try.func69 rfl #[.slice A1 l1.length c1, .slice A2 l2.length c2] ?_; (with_reducible refine (impl_nat_cmp.calls k _ _ l1 _ _ l2 t988 _ ?side1 ?side2 ?side3 ?side4 A4.out).mono ?_); (case side1 => exact pC_ (Kd.V_reads' HO1.out).2.2); (case side2 => exact (Kd.V_reads' HO1.out).2.1); (case side3 => exact pC_ HR2.out); (case side4 => exact HC2.out); rintro e w' ⟨rfl, ⟨nd, rfl⟩⟩; refine ⟨_, rfl, ?_⟩) | ((with_reducible refine gate_callee (f := 74) rfl ?_); refine gL_ 16 Try.func74 rfl #[.slice A1 l1.length c1, .slice A0 l0.length c0] ?_; (with_reducible refine (impl_nat_plus.calls k (fun k_ => ((P0_ k_ ∨ P1_ k_) ∨ w.heap.size ≤ k_)) _ _ l1 (fun k_ => ((P0_ k_ ∨ P1_ k_) ∨ w.heap.size ≤ k_)) _ _ l0 t992 _ ?side1 ?side2 A8.out).mono ?_); (case side1 => exact HO1.out); (case side2 => exact HO0.out); rintro e w10 ⟨v993, rfl, ho0, hb⟩; refine ⟨_, rfl, ?_⟩; replace HO0 := Aside0.mk (Kd.V_below (pV_ HO0.out) hb); replace HO1 := Aside0.mk (Kd.V_below (pV_ HO1.out) hb); have HO994 := Aside0.mk (Kd.V_lower (Kd.V_mono (ok' := fun k_ => ((P0_ k_ ∨ P1_ k_) ∨ w.heap.size ≤ k_)) ho0 (fun k_ hk_ => Or.elim hk_ (fun hs_ => Or.elim hs_ (fun hs_ => hs_) (fun hs_ => hs_)) (fun hn_ => (.inr (Nat.le_trans (below_size (pB_ HB.out)) hn_))))) (below_size (pB_ HB.out))); replace HB := Aside0.mk (below_step (pB_ HB.out) hb); clear hb ho0; obtain ⟨Ao11, co11, eo11⟩ := Kd.V_slice HO994.out; subst eo11) | ((with_reducible refine gate_callee (f := 99) rfl ?_); refine gL_ 18 Try.func99 rfl #[.slice Ao11 t992.length co11, .slice A2 l2.length c2] ?_; (with_reducible refine (impl_nat_less.calls k _ _ t992 _ _ l2 t995 _ ?side1 ?side2 ?side3 ?side4 A9.out).mono ?_); (case side1 => exact pC_ (Kd.V_reads' HO994.out).2.2); (case side2 => exact (Kd.V_reads' HO994.out).2.1); (case side3 => exact pC_ (Kd.C_below HR2.out HB.out)); (case side4 => exact HC2.out); rintro e w12 ⟨v996, rfl, ho0, hb⟩; refine ⟨_, rfl, ?_⟩; replace HO0 := Aside0.mk (Kd.V_below (pV_ HO0.out) hb); replace HO1 := Aside0.mk (Kd.V_below (pV_ HO1.out) hb); replace HO994 := Aside0.mk (Kd.V_below (pV_ HO994.out) hb); have HO997 := Aside0.mk (Kd.V_lower (Kd.V_mono (ok' := fun k_ => ((P0_ k_ ∨ P1_ k_) ∨ w.heap.size ≤ k_)) ho0 (fun k_ hk_ => (.inr (Nat.le_trans (below_size (pB_ HB.out)) hk_)))) (below_size (pB_ HB.out))); replace HB := Aside0.mk (below_step (pB_ HB.out) hb); clear hb ho0))
  go_ret
  exact ⟨_, by first | rfl | (simp [errW_none, errW_some] <;> rfl) | (simp [*, errW_none, errW_some] <;> rfl), by (with_reducible repeat (first | apply Kd.V_alloc | apply Kd.V_drewN | apply Kd.V_drew)); exact HO997.out, pB_ HB.out⟩

end Go.Proofs.Ytghhnjhjhjbljaa.F
