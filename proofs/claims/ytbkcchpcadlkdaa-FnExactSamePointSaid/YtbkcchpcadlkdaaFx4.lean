-- Made for this seat by a program of this session (wip/fork). Lean checks it.
import Derived.Test.YtbkcchpcadlkdaaFx0
import Derived.Test.YtbkcchpcadlkdaaFx2
import Derived.Test.YtbkcchpcadlkdaaFx3
namespace Go.Proofs.Ytbkcchpcadlkdaa.F
open Go.RowKit Go.Proofs.YtbkcchpcadlkdaaW.PrintWords Go.Proofs.YtbkcchpcadlkdaaW.PrintLast Go.Proofs.YtbkcchpcadlkdaaW.PrintMore
attribute [local go_sem] max2_int min2_int max_two min_two max_three min_three max_four min_four   -- for this text's walks alone
set_option linter.unusedVariables false
set_option linter.unusedSimpArgs false

/-! ### spec_Hex: function 25 -/
def spec_Hex.l0 : Nat → ByteArray → List Int → Int → Option (ByteArray × Bool)
  | 0, _, _, _ => none
  | k + 1, x0, x4, x5 => if x5 < (x0.size : Int) then (if 0 ≤ x5 then ((spec_l01Figure.f (wrap64 (Int.tdiv (wrap64 (bt x0 x5)) 16))).bind fun t138 => ((spec_l01Figure.f (Int.tmod (wrap64 (bt x0 x5)) 16)).bind fun t139 => ((some (([t138, t139] : List Int) : List Int)).bind fun y140 => (if x4.length + y140.length < 140737488355328 then (spec_Hex.l0 k x0 (x4 ++ y140) (wrap64 (x5 + 1))) else (none))))) else (none)) else (some (strOfNums x4, true))
def spec_Hex.f (k : Nat) (a0 : ByteArray) : Option (ByteArray × Bool) := if (a0.size : Int) > 20000 then (some ((⟨#[]⟩ : ByteArray), false)) else (spec_Hex.l0 k a0 (([] : List Int)) 0)
def spec_Hex.T7 : Bool × List (List Nat × List Nat) := (true, [([], []), ([], []), ([], []), ([1, 2], [1, 2]), ([3], [3]), ([4], [4]), ([5], [5]), ([], []), ([], []), ([7, 8], [7, 8]), ([9], [9]), ([10], [10]), ([11, 6], [11]), ([6, 12], [6, 12]), ([0, 13, 12], [0, 13]), ([14, 14, 0, 1, 2, 3, 4, 5, 6, 7, 8, 9, 10, 11, 12, 13, 14], [0, 14])])
def spec_Hex.B7 : List Nat := [0, 0, 0, 6, 14, 30, 62, 0, 0, 384, 896, 1920, 4094, 8190, 16383, 32767]
theorem spec_Hex.tab7 : rtab .any (opsOf Try.f25 7) = spec_Hex.T7 := by kernel_rfl
theorem spec_Hex.bits7 : waitsOk spec_Hex.T7.2 spec_Hex.B7 = true := by kernel_rfl
set_option maxHeartbeats 8000000 in
set_option maxRecDepth 100000 in
theorem spec_Hex.calls (k : Nat) (a0 : ByteArray) (r1 : ByteArray) (r2 : Bool) (w : World) (h : spec_Hex.f k a0 = some (r1, r2)) :
    Calls Try.prog 25 #[.string a0] w fun e w' => e = .returned (.tuple #[.string r1, .bool r2]) ∧ Below w.heap.size w w' := by
  have HB := Aside0.mk (Below.refl w.heap.size w)
  have H : (if (a0.size : Int) > 20000 then (some ((⟨#[]⟩ : ByteArray), false)) else (spec_Hex.l0 k a0 (([] : List Int)) 0)) = some (r1, r2) := h
  clear h
  by_cases c2 : (a0.size : Int) > 20000
  · rw [if_pos c2] at H
    have c2b0 : decide (20000 < (a0.size : Int)) = true := decide_eq_true c2
    have c2b1 : decide (20000 < a0.size) = true := decide_eq_true (by omega)
    clear c2
    simp only [Option.some.injEq, Prod.mk.injEq] at H
    obtain ⟨rfl, rfl⟩ := H
    go_enter Try.func25, Try.ntmps25
    go_wp2
    go_ret2
    exact ⟨by first | rfl | (simp [errW_none, errW_some] <;> rfl) | (simp [*, errW_none, errW_some] <;> rfl), pB_ HB.out⟩
  rw [if_neg c2] at H
  have c2b0 : decide (20000 < (a0.size : Int)) = false := decide_eq_false c2
  have c2b1 : decide (20000 < a0.size) = false := decide_eq_false (by omega)
  clear c2
  obtain ⟨y135, hy135⟩ : ∃ y_ : List Int, y_ = (([] : List Int)) := ⟨_, rfl⟩
  replace H : (spec_Hex.l0 k a0 y135 0) = some (r1, r2) := by first | (rw [hy135]; with_reducible exact H) | (have H2_ := (Option.bind_some _ _).symm.trans H; rw [hy135]; with_reducible exact H2_) | (have H2_ := (Option.bind_some _ _).symm.trans H; with_reducible exact H2_) | with_reducible exact H | (rw [hy135]; exact H) | exact H
  have Ny135 := Aside0.mk hy135
  clear hy135
  have H' := Aside0.mk H
  clear H
  go_enter Try.func25, Try.ntmps25
  go_wp2_with (first | ((with_reducible refine gate_dst (N := 9) rfl ?_); refine Kd.R_lit (Kd.int .u8) _ 5 ?hg (N := 9) ?hd (xs := ([] : List Int)) (inner := []) (ok := fun _ => True) (okp := fun _ => True) ?hr ?hp (fun _ hk => hk) trivial (Below.refl _ _) (Nat.le_refl _) (by simp) ?_; (case hd => rfl); (case hg => rfl); (case hr => first | (go_simp; done) | (go_simp; rfl)); (case hp => exact (Reps.none _ _)); intro v136 w3 ho4 hb hg_ hnew_; clear hg_ hnew_; (first | rw [← Ny135.out] at ho4 | (simp only [Int.reduceToNat] at ho4; rw [← Ny135.out] at ho4)); have HO137 := Aside0.mk (Kd.R_lower ho4 (below_size (pB_ HB.out))); replace HB := Aside0.mk (below_step (pB_ HB.out) hb); clear hb ho4))
  repeat (rw [addr_self]; generalize Addr.add _ _ = az_)
  go_loopg [4, 5] k (fun kq v4 v5 w' => ∃ (x4_1 : List Int) (x5_1 : Int), v5 = .int .i64 x5_1 ∧ Aside0 (spec_Hex.l0 kq a0 x4_1 x5_1 = some (r1, r2)) ∧ Aside0 (kq ≤ k) ∧ Aside0 (Kd.R (Kd.int .u8) 5 w' w.heap.size (fun _ => True) v4 x4_1) ∧ Aside0 (Below w.heap.size w w'))
  case atStart => exact ⟨(y135), (0), (by first | rfl | (simp; done) | (simp [*]; done)), H', ⟨Nat.le_refl _⟩, ⟨by (with_reducible repeat (first | apply Kd.R_alloc | apply Kd.R_drewN | apply Kd.R_drew)); exact HO137.out⟩, ⟨pB_ HB.out⟩⟩
  clear H'
  try clear c2
  try clear c2b0
  try clear c2b1
  try clear p2
  obtain ⟨x4_1, x5_1, rfl, HA, HK1, HO_4, HB⟩ := hrel
  rcases gk with _ | k1
  · exact absurd HA.out (by simp [spec_Hex.l0])
  have H := HA.out
  clear HA
  simp only [spec_Hex.l0] at H
  by_cases c5 : x5_1 < (a0.size : Int)
  rotate_left
  · rw [if_neg c5] at H
    have c5b0 : decide (x5_1 < (a0.size : Int)) = false := decide_eq_false c5
    clear c5
    simp only [Option.some.injEq, Prod.mk.injEq] at H
    obtain ⟨rfl, rfl⟩ := H
    have hcv17 := own_string (P := Try.prog) Try.underlying42 Try.underlying5 Try.underlying9 (Kd.own_of_R HO_4.out)
    go_wp2
    go_ret2
    exact ⟨by first | rfl | (simp [errW_none, errW_some] <;> rfl) | (simp [*, errW_none, errW_some] <;> rfl), pB_ HB.out⟩

  rw [if_pos c5] at H
  have c5b0 : decide (x5_1 < (a0.size : Int)) = true := decide_eq_true c5
  clear c5
  by_cases c6 : 0 ≤ x5_1
  rotate_left
  · rw [if_neg c6] at H; exact absurd H (by simp)
  rw [if_pos c6] at H
  have c6b0 : decide (0 ≤ x5_1) = true := decide_eq_true c6
  clear c6
  replace H := Option.bind_eq_some_iff.mp H
  obtain ⟨t138, A80, H⟩ := H
  have A8 := Aside0.mk A80
  clear A80
  replace H := Option.bind_eq_some_iff.mp H
  obtain ⟨t139, A100, H⟩ := H
  have A10 := Aside0.mk A100
  clear A100
  obtain ⟨y140, hy140⟩ : ∃ y_ : List Int, y_ = (([t138, t139] : List Int)) := ⟨_, rfl⟩
  replace H := bS_ hy140 H
  have Ny140 := Aside0.mk hy140
  clear hy140
  by_cases c11 : x4_1.length + y140.length < 140737488355328
  rotate_left
  · rw [if_neg c11] at H; exact absurd H (by simp)
  rw [if_pos c11] at H
  have LMc11 := Aside0.mk c11
  clear c11
  obtain ⟨y143, hy143⟩ : ∃ y_ : List Int, y_ = (x4_1 ++ y140) := ⟨_, rfl⟩
  first | rw [← hy143] at H | skip
  have Ny143 := Aside0.mk hy143
  clear hy143
  have H' := Aside0.mk H
  clear H
  try go_wp2
  have n0_ := Aside0.mk (Kd.R_drew HO_4.out)
  have n1_ := Aside0.mk (below_drew1 HB.out)
  clear HO_4
  clear HB
  have HO_4 := n0_
  have HB := n1_
  clear n0_ n1_
  have p7 : 0 ≤ (x5_1 : Int) := od_
  have q7 : x5_1 < (a0.size : Int) := od_
  have hx7 := bt_at a0 x5_1
  replace p7 := eq_true p7
  replace q7 := eq_true q7
  have p9 : 0 ≤ (x5_1 : Int) := od_
  have q9 : x5_1 < (a0.size : Int) := od_
  have hx9 := bt_at a0 x5_1
  replace p9 := eq_true p9
  replace q9 := eq_true q9
  refine start_ (n := 16) (S := fun w' => True) (ds := []) #[false, false, false, false, false, false, false, false, false, false, false, false, false, false, false, false] (by kernel_rfl) rfl rfl trivial (fun hHeld => ?_); refine with_tabW spec_Hex.tab7 spec_Hex.bits7 (fun HT_ HW_ => ?_)
  generalize wr.drew = w12 at HO_4 HB hHeld ⊢
  refine pu_ 0 16 HT_.out ?_
  refine pu_ 1 17 HT_.out ?_
  refine pu_ 2 18 HT_.out ?_
  refine pu_ 7 23 HT_.out ?_
  refine pu_ 8 24 HT_.out ?_
  refine take_ (i := 3) (N := some 19) (v := ?_) (a' := ?_) #[true, true, true, true, false, false, false, true, true, false, false, false, false, false, false, false] rfl rfl (take_ofW HT_.out HW_.out (by kernel_rfl)) (fun _ _ _ h => h) (Or.inl ⟨by rfl, ?_⟩) hHeld ?_ ?_
  rotate_left
  · intro w' _
    go_simp
    with_reducible rfl
  rotate_left
  · simp only [Act.put, List.setIfInBounds_toArray, List.set_cons_zero, List.set_cons_succ, i64_w, i32_w]
    rfl
  refine pu_ 4 20 HT_.out ?_
  refine pu_ 5 21 HT_.out ?_
  refine take_ (i := 9) (N := some 25) (v := ?_) (a' := ?_) #[true, true, true, true, true, true, false, true, true, true, false, false, false, false, false, false] rfl rfl (take_ofW HT_.out HW_.out (by kernel_rfl)) (fun _ _ _ h => h) (Or.inl ⟨by rfl, ?_⟩) hHeld ?_ ?_
  rotate_left
  · intro w' _
    go_simp
    with_reducible rfl
  rotate_left
  · simp only [Act.put, List.setIfInBounds_toArray, List.set_cons_zero, List.set_cons_succ, i64_w, i32_w]
    rfl
  refine pu_ 10 26 HT_.out ?_
  refine pu_ 11 27 HT_.out ?_
  refine one_ (i := 6) (N := some 22) #[true, true, true, true, true, true, true, true, true, true, true, true, false, false, false, false] rfl rfl (one_of HT_.out (by kernel_rfl)) (by decide) (fun K hK => ?_)
  refine goes_ Try.func39 (by kernel_rfl) rfl #[.int .i64 (wrap64 (Int.tdiv (wrap64 (bt a0 x5_1)) 16))] (by rfl) rfl rfl (by (try simp only [List.map_toArray, List.map_cons, List.map_nil]); first | done | rfl | (simp only [List.length_drop, List.length_take]; rfl)) ?_
  with_reducible refine (spec_l01Figure.calls (wrap64 (Int.tdiv (wrap64 (bt a0 x5_1)) 16)) t138 _ A8.out).mono ?_
  rintro e w' ⟨rfl, ⟨nd, rfl⟩⟩
  refine ⟨_, rfl, ?_⟩
  refine hK.out _ _ trivial (fun hHeld => ?_)
  clear hK K
  refine norm_ (a' := ?_) ?_ ?_
  rotate_left
  · show Act.put _ (some 22) _ = _
    simp only [Act.put, List.setIfInBounds_toArray, List.set_cons_zero, List.set_cons_succ, i64_w, i32_w]
    rfl
  refine one_ (i := 12) (N := some 28) #[true, true, true, true, true, true, true, true, true, true, true, true, true, false, false, false] rfl rfl (one_of HT_.out (by kernel_rfl)) (by decide) (fun K hK => ?_)
  refine goes_ Try.func39 (by kernel_rfl) rfl #[.int .i64 (Int.tmod (wrap64 (bt a0 x5_1)) 16)] (by rfl) rfl rfl (by (try simp only [List.map_toArray, List.map_cons, List.map_nil]); first | done | rfl | (simp only [List.length_drop, List.length_take]; rfl)) ?_
  with_reducible refine (spec_l01Figure.calls (Int.tmod (wrap64 (bt a0 x5_1)) 16) t139 _ A10.out).mono ?_
  rintro e w' ⟨rfl, ⟨nd, rfl⟩⟩
  refine ⟨_, rfl, ?_⟩
  refine hK.out _ _ trivial (fun hHeld => ?_)
  clear hK K
  refine norm_ (a' := ?_) ?_ ?_
  rotate_left
  · show Act.put _ (some 28) _ = _
    simp only [Act.put, List.setIfInBounds_toArray, List.set_cons_zero, List.set_cons_succ, i64_w, i32_w]
    rfl
  refine one_ (i := 13) (N := some 29) #[true, true, true, true, true, true, true, true, true, true, true, true, true, true, false, false] rfl rfl (one_of HT_.out (by kernel_rfl)) (by decide) (fun K hK => ?_)
  refine Kd.R_lit_step (Kd.int .u8) _ 5 ?hg (N := 29) ?hd (xs := ([t138, t139] : List Int)) (inner := [.int .u8 t138, .int .u8 t139]) (ok := fun _ => True) (okp := fun _ => True) ?hr ?hp (fun _ hk => hk) trivial (Below.refl _ _) (Nat.le_refl _) (by simp) ?_; (case hd => rfl); (case hg => rfl); (case hr => first | (go_simp; done) | (go_simp; rfl)); (case hp => exact (Reps.one (show Kd.M (Kd.int .u8) _ _ _ t138 [.int .u8 t138] from rfl) (Reps.one (show Kd.M (Kd.int .u8) _ _ _ t139 [.int .u8 t139] from rfl) (Reps.none _ _))))
  intro v141 w13 ho14 hb hg_ hnew_
  clear hg_ hnew_
  (first | rw [← Ny140.out] at ho14 | (simp only [Int.reduceToNat] at ho14; rw [← Ny140.out] at ho14))
  have n0_ := Aside0.mk (Kd.R_elder' (pR_ HO_4.out) (Kd.R_base ho14) hb)
  have n1_ := Aside0.mk (Kd.R_lower (Kd.R_new' ho14 (Kd.R_lt (pR_ HO_4.out))) (below_size (pB_ HB.out)))
  have n2_ := Aside0.mk (below_step (pB_ HB.out) hb)
  clear HO_4
  clear HB
  have HO_4 := n0_
  have HO142 := n1_
  have HB := n2_
  clear n0_ n1_ n2_
  clear hb ho14
  obtain ⟨Ao16, co16, eo16⟩ := Kd.R_slice HO142.out
  (first | subst eo16 | (injection eo16 with f1_ f2_ f3_; have f4_ := f1_.symm; have f5_ := f3_.symm; clear f1_ f2_ f3_; subst f4_; subst f5_))
  refine hK.out _ _ trivial (fun hHeld => ?_)
  clear hK K
  refine norm_ (a' := ?_) ?_ ?_
  rotate_left
  · show Act.put _ (some 29) _ = _
    simp only [Act.put, List.setIfInBounds_toArray, List.set_cons_zero, List.set_cons_succ, i64_w, i32_w]
    rfl
  refine one_ (i := 14) (N := some 30) #[true, true, true, true, true, true, true, true, true, true, true, true, true, true, true, false] rfl rfl (one_of HT_.out (by kernel_rfl)) (by decide) (fun K hK => ?_)
  refine Kd.R_append_rows_step (Kd.int .u8) (w0 := w) w.heap.size (by rfl) (.tmp 16) (.tmp 29) 42 5 (.int .u8 0) 1 rfl Try.underlying42 info5 rfl (by decide) (by omega) u4 x4_1 y140 _ _ _ (fun k_ => some k_ ≠ (.slice Ao16 y140.length co16 : Value).ownBlock) (fun _ => False) rfl rfl ?aO ?aR (fun _ _ h => h) (fun _ h => h.elim) ?aF ?aB ?aS ?aL ?_
  (case aR => exact pC_ (Kd.R_reads' HO142.out).2.2)
  (case aB => exact (pB_ HB.out))
  (case aF => exact (fun k_ hk => Kd.fresh' (Kd.R_lt (pR_ HO142.out)) k_ hk))
  (case aO => exact (pR_ (Kd.R_mono HO_4.out (fun _ hk => hk.2))))
  (case aS => exact (below_size (pB_ HB.out)))
  (case aL => have := LMc11.out; omega)
  intro v144 w15 ho hb hg hat
  rw [← Ny143.out] at ho
  have n0_ := Aside0.mk (Kd.R_after (ok := (fun _ => True)) (pR_ HO142.out) hg hat)
  have n1_ := Aside0.mk (hb)
  have n2_ := Aside0.mk (ho)
  clear HO142
  clear HB
  clear HO_4
  have HO142 := n0_
  have HB := n1_
  have HO145 := n2_
  clear n0_ n1_ n2_
  clear ho hb hg hat
  refine hK.out _ _ trivial (fun hHeld => ?_)
  clear hK K
  refine norm_ (a' := ?_) ?_ ?_
  rotate_left
  · show Act.put _ (some 30) _ = _
    simp only [Act.put, List.setIfInBounds_toArray, List.set_cons_zero, List.set_cons_succ, i64_w, i32_w]
    rfl
  refine pu_ 15 4 HT_.out ?_
  refine done_ (done_of HT_.out (by kernel_rfl)) ?_
  try go_wp2
  go_roundg k1
  case measure => have := HK1.out; omega
  case rel => exact ⟨(y143), (wrap64 (x5_1 + 1)), (by first | rfl | (simp; done) | (simp [*]; done)), H', ⟨by have := HK1.out; omega⟩, ⟨by (with_reducible repeat (first | apply Kd.R_alloc | apply Kd.R_drewN | apply Kd.R_drew)); exact Kd.R_mono HO145.out (fun _ hk => trivial)⟩, ⟨pB_ HB.out⟩⟩
/-! ### impl_Hex: function 26 -/
def impl_Hex.l0 : Nat → ByteArray → List Int → Int → Int → Option (ByteArray × Bool)
  | 0, _, _, _, _ => none
  | k + 1, x0, x4, x11, x12 => if x12 < x11 then (if 0 ≤ x12 then (if x12 < (x0.size : Int) then (if 0 ≤ ((bt x0 x12) / 16) then (if ((bt x0 x12) / 16) < 16 then (if 0 ≤ (Go.bits .and .u8 (bt x0 x12) 15) then (if (Go.bits .and .u8 (bt x0 x12) 15) < 16 then ((some (([bt (⟨#[48, 49, 50, 51, 52, 53, 54, 55, 56, 57, 97, 98, 99, 100, 101, 102]⟩ : ByteArray) ((bt x0 x12) / 16), bt (⟨#[48, 49, 50, 51, 52, 53, 54, 55, 56, 57, 97, 98, 99, 100, 101, 102]⟩ : ByteArray) (Go.bits .and .u8 (bt x0 x12) 15)] : List Int) : List Int)).bind fun y149 => (if x4.length + y149.length < 140737488355328 then (impl_Hex.l0 k x0 (x4 ++ y149) x11 (wrap64 (x12 + 1))) else (none))) else (none)) else (none)) else (none)) else (none)) else (none)) else (none)) else (some (strOfNums x4, true))
def impl_Hex.f (k : Nat) (a0 : ByteArray) : Option (ByteArray × Bool) := if (a0.size : Int) > 20000 then (some ((⟨#[]⟩ : ByteArray), false)) else (impl_Hex.l0 k a0 (([] : List Int)) (a0.size : Int) 0)
def impl_Hex.T7 : Bool × List (List Nat × List Nat) := (true, [([], []), ([], []), ([], []), ([1, 2], [1, 2]), ([3], [3]), ([4], [4]), ([], []), ([], []), ([6, 7], [6, 7]), ([8], [8]), ([9], [9]), ([5, 10], [5, 10]), ([0, 11], [0, 11]), ([12, 12, 0, 1, 2, 3, 4, 5, 6, 7, 8, 9, 10, 11, 12], [0, 12])])
def impl_Hex.B7 : List Nat := [0, 0, 0, 6, 14, 30, 0, 0, 192, 448, 960, 2046, 4095, 8191]
theorem impl_Hex.tab7 : rtab .any (opsOf Try.f26 7) = impl_Hex.T7 := by kernel_rfl
theorem impl_Hex.bits7 : waitsOk impl_Hex.T7.2 impl_Hex.B7 = true := by kernel_rfl
set_option maxHeartbeats 8000000 in
set_option maxRecDepth 100000 in
theorem impl_Hex.calls (k : Nat) (a0 : ByteArray) (r1 : ByteArray) (r2 : Bool) (w : World) (h : impl_Hex.f k a0 = some (r1, r2)) :
    Calls Try.prog 26 #[.string a0] w fun e w' => e = .returned (.tuple #[.string r1, .bool r2]) ∧ Below w.heap.size w w' := by
  have HB := Aside0.mk (Below.refl w.heap.size w)
  have H : (if (a0.size : Int) > 20000 then (some ((⟨#[]⟩ : ByteArray), false)) else (impl_Hex.l0 k a0 (([] : List Int)) (a0.size : Int) 0)) = some (r1, r2) := h
  clear h
  by_cases c2 : (a0.size : Int) > 20000
  · rw [if_pos c2] at H
    have c2b0 : decide (20000 < (a0.size : Int)) = true := decide_eq_true c2
    have c2b1 : decide (20000 < a0.size) = true := decide_eq_true (by omega)
    clear c2
    simp only [Option.some.injEq, Prod.mk.injEq] at H
    obtain ⟨rfl, rfl⟩ := H
    go_enter Try.func26, Try.ntmps26
    go_wp2
    go_ret2
    exact ⟨by first | rfl | (simp [errW_none, errW_some] <;> rfl) | (simp [*, errW_none, errW_some] <;> rfl), pB_ HB.out⟩
  rw [if_neg c2] at H
  have c2b0 : decide (20000 < (a0.size : Int)) = false := decide_eq_false c2
  have c2b1 : decide (20000 < a0.size) = false := decide_eq_false (by omega)
  clear c2
  obtain ⟨y146, hy146⟩ : ∃ y_ : List Int, y_ = (([] : List Int)) := ⟨_, rfl⟩
  replace H : (impl_Hex.l0 k a0 y146 (a0.size : Int) 0) = some (r1, r2) := by first | (rw [hy146]; with_reducible exact H) | (have H2_ := (Option.bind_some _ _).symm.trans H; rw [hy146]; with_reducible exact H2_) | (have H2_ := (Option.bind_some _ _).symm.trans H; with_reducible exact H2_) | with_reducible exact H | (rw [hy146]; exact H) | exact H
  have Ny146 := Aside0.mk hy146
  clear hy146
  have H' := Aside0.mk H
  clear H
  go_enter Try.func26, Try.ntmps26
  go_wp2_with (first | ((with_reducible refine gate_dst (N := 9) rfl ?_); refine Kd.R_lit (Kd.int .u8) _ 5 ?hg (N := 9) ?hd (xs := ([] : List Int)) (inner := []) (ok := fun _ => True) (okp := fun _ => True) ?hr ?hp (fun _ hk => hk) trivial (Below.refl _ _) (Nat.le_refl _) (by simp) ?_; (case hd => rfl); (case hg => rfl); (case hr => first | (go_simp; done) | (go_simp; rfl)); (case hp => exact (Reps.none _ _)); intro v147 w3 ho4 hb hg_ hnew_; clear hg_ hnew_; (first | rw [← Ny146.out] at ho4 | (simp only [Int.reduceToNat] at ho4; rw [← Ny146.out] at ho4)); have HO148 := Aside0.mk (Kd.R_lower ho4 (below_size (pB_ HB.out))); replace HB := Aside0.mk (below_step (pB_ HB.out) hb); clear hb ho4))
  repeat (rw [addr_self]; generalize Addr.add _ _ = az_)
  go_loopg [4, 12] k (fun kq v4 v12 w' => ∃ (x4_1 : List Int) (x12_1 : Int), v12 = .int .i64 x12_1 ∧ Aside0 (impl_Hex.l0 kq a0 x4_1 (a0.size : Int) x12_1 = some (r1, r2)) ∧ Aside0 (kq ≤ k) ∧ Aside0 (Kd.R (Kd.int .u8) 5 w' w.heap.size (fun _ => True) v4 x4_1) ∧ Aside0 (Below w.heap.size w w'))
  case atStart => exact ⟨(y146), (0), (by first | rfl | (simp; done) | (simp [*]; done)), H', ⟨Nat.le_refl _⟩, ⟨by (with_reducible repeat (first | apply Kd.R_alloc | apply Kd.R_drewN | apply Kd.R_drew)); exact HO148.out⟩, ⟨pB_ HB.out⟩⟩
  clear H'
  try clear c2
  try clear c2b0
  try clear c2b1
  try clear p2
  obtain ⟨x4_1, x12_1, rfl, HA, HK1, HO_4, HB⟩ := hrel
  rcases gk with _ | k1
  · exact absurd HA.out (by simp [impl_Hex.l0])
  have H := HA.out
  clear HA
  simp only [impl_Hex.l0] at H
  by_cases c5 : x12_1 < (a0.size : Int)
  rotate_left
  · rw [if_neg c5] at H
    have c5b0 : decide (x12_1 < (a0.size : Int)) = false := decide_eq_false c5
    clear c5
    simp only [Option.some.injEq, Prod.mk.injEq] at H
    obtain ⟨rfl, rfl⟩ := H
    have hcv23 := own_string (P := Try.prog) Try.underlying42 Try.underlying5 Try.underlying9 (Kd.own_of_R HO_4.out)
    go_wp2
    go_ret2
    exact ⟨by first | rfl | (simp [errW_none, errW_some] <;> rfl) | (simp [*, errW_none, errW_some] <;> rfl), pB_ HB.out⟩

  rw [if_pos c5] at H
  have c5b0 : decide (x12_1 < (a0.size : Int)) = true := decide_eq_true c5
  clear c5
  by_cases c6 : 0 ≤ x12_1
  rotate_left
  · rw [if_neg c6] at H; exact absurd H (by simp)
  rw [if_pos c6] at H
  have c6b0 : decide (0 ≤ x12_1) = true := decide_eq_true c6
  clear c6
  by_cases c7 : x12_1 < (a0.size : Int)
  rotate_left
  · rw [if_neg c7] at H; exact absurd H (by simp)
  rw [if_pos c7] at H
  have c7b0 : decide (x12_1 < (a0.size : Int)) = true := decide_eq_true c7
  clear c7
  obtain ⟨ji9, hji9⟩ : ∃ j_ : Int, ((bt a0 x12_1) / 16) = j_ := ⟨_, rfl⟩
  first | rw [hji9] at H | simp only [hji9] at H | skip
  by_cases c10 : 0 ≤ (ji9)
  rotate_left
  · rw [if_neg c10] at H; exact absurd H (by simp)
  rw [if_pos c10] at H
  have c10b0 : decide (0 ≤ (ji9)) = true := decide_eq_true c10
  clear c10
  by_cases c11 : (ji9) < 16
  rotate_left
  · rw [if_neg c11] at H; exact absurd H (by simp)
  rw [if_pos c11] at H
  have c11b0 : decide ((ji9) < 16) = true := decide_eq_true c11
  clear c11
  by_cases c14 : 0 ≤ (Go.bits .and .u8 (bt a0 x12_1) 15)
  rotate_left
  · rw [if_neg c14] at H; exact absurd H (by simp)
  rw [if_pos c14] at H
  have c14b0 : decide (0 ≤ (Go.bits .and .u8 (bt a0 x12_1) 15)) = true := decide_eq_true c14
  clear c14
  by_cases c15 : (Go.bits .and .u8 (bt a0 x12_1) 15) < 16
  rotate_left
  · rw [if_neg c15] at H; exact absurd H (by simp)
  rw [if_pos c15] at H
  have c15b0 : decide ((Go.bits .and .u8 (bt a0 x12_1) 15) < 16) = true := decide_eq_true c15
  clear c15
  obtain ⟨y149, hy149⟩ : ∃ y_ : List Int, y_ = (([bt (⟨#[48, 49, 50, 51, 52, 53, 54, 55, 56, 57, 97, 98, 99, 100, 101, 102]⟩ : ByteArray) (ji9), bt (⟨#[48, 49, 50, 51, 52, 53, 54, 55, 56, 57, 97, 98, 99, 100, 101, 102]⟩ : ByteArray) (Go.bits .and .u8 (bt a0 x12_1) 15)] : List Int)) := ⟨_, rfl⟩
  replace H := bS_ hy149 H
  have Ny149 := Aside0.mk hy149
  clear hy149
  by_cases c17 : x4_1.length + y149.length < 140737488355328
  rotate_left
  · rw [if_neg c17] at H; exact absurd H (by simp)
  rw [if_pos c17] at H
  have LMc17 := Aside0.mk c17
  clear c17
  obtain ⟨y152, hy152⟩ : ∃ y_ : List Int, y_ = (x4_1 ++ y149) := ⟨_, rfl⟩
  first | rw [← hy152] at H | skip
  have Ny152 := Aside0.mk hy152
  clear hy152
  have H' := Aside0.mk H
  clear H
  try go_wp2
  have n0_ := Aside0.mk (Kd.R_drew HO_4.out)
  have n1_ := Aside0.mk (below_drew1 HB.out)
  clear HO_4
  clear HB
  have HO_4 := n0_
  have HB := n1_
  clear n0_ n1_
  have p8 : 0 ≤ (x12_1 : Int) := od_
  have q8 : x12_1 < (a0.size : Int) := od_
  have hx8 := bt_at a0 x12_1
  replace p8 := eq_true p8
  replace q8 := eq_true q8
  have p12 : 0 ≤ ((ji9) : Int) := od_
  have q12 : (ji9) < (16 : Int) := od_
  have hx12 := bt_at (⟨#[48, 49, 50, 51, 52, 53, 54, 55, 56, 57, 97, 98, 99, 100, 101, 102]⟩ : ByteArray) (ji9)
  replace p12 := eq_true p12
  replace q12 := eq_true q12
  have p13 : 0 ≤ (x12_1 : Int) := od_
  have q13 : x12_1 < (a0.size : Int) := od_
  have hx13 := bt_at a0 x12_1
  replace p13 := eq_true p13
  replace q13 := eq_true q13
  have p16 : 0 ≤ ((Go.bits .and .u8 (bt a0 x12_1) 15) : Int) := od_
  have q16 : (Go.bits .and .u8 (bt a0 x12_1) 15) < (16 : Int) := od_
  have hx16 := bt_at (⟨#[48, 49, 50, 51, 52, 53, 54, 55, 56, 57, 97, 98, 99, 100, 101, 102]⟩ : ByteArray) (Go.bits .and .u8 (bt a0 x12_1) 15)
  replace p16 := eq_true p16
  replace q16 := eq_true q16
  refine start_ (n := 14) (S := fun w' => True) (ds := []) #[false, false, false, false, false, false, false, false, false, false, false, false, false, false] (by kernel_rfl) rfl rfl trivial (fun hHeld => ?_); refine with_tabW impl_Hex.tab7 impl_Hex.bits7 (fun HT_ HW_ => ?_)
  generalize wr.drew = w18 at HO_4 HB hHeld ⊢
  refine pu_ 0 15 HT_.out ?_
  refine pu_ 1 16 HT_.out ?_
  refine pu_ 2 17 HT_.out ?_
  refine pu_ 6 21 HT_.out ?_
  refine pu_ 7 22 HT_.out ?_
  refine take_ (i := 3) (N := some 18) (v := ?_) (a' := ?_) #[true, true, true, true, false, false, true, true, false, false, false, false, false, false] rfl rfl (take_ofW HT_.out HW_.out (by kernel_rfl)) (fun _ _ _ h => h) (Or.inl ⟨by rfl, ?_⟩) hHeld ?_ ?_
  rotate_left
  · intro w' _
    go_simp
    with_reducible rfl
  rotate_left
  · simp only [Act.put, List.setIfInBounds_toArray, List.set_cons_zero, List.set_cons_succ, i64_w, i32_w]
    rfl
  refine pu_ 4 19 HT_.out ?_
  refine take_ (i := 5) (N := some 20) (v := ?_) (a' := ?_) #[true, true, true, true, true, true, true, true, false, false, false, false, false, false] rfl rfl (take_ofW HT_.out HW_.out (by kernel_rfl)) (fun _ _ _ h => h) (Or.inl ⟨by rfl, ?_⟩) hHeld ?_ ?_
  rotate_left
  · intro w' _
    go_simp
    with_reducible rfl
  rotate_left
  · simp only [Act.put, List.setIfInBounds_toArray, List.set_cons_zero, List.set_cons_succ, i64_w, i32_w]
    rfl
  refine take_ (i := 8) (N := some 23) (v := ?_) (a' := ?_) #[true, true, true, true, true, true, true, true, true, false, false, false, false, false] rfl rfl (take_ofW HT_.out HW_.out (by kernel_rfl)) (fun _ _ _ h => h) (Or.inl ⟨by rfl, ?_⟩) hHeld ?_ ?_
  rotate_left
  · intro w' _
    go_simp
    with_reducible rfl
  rotate_left
  · simp only [Act.put, List.setIfInBounds_toArray, List.set_cons_zero, List.set_cons_succ, i64_w, i32_w]
    rfl
  refine pu_ 9 24 HT_.out ?_
  refine take_ (i := 10) (N := some 25) (v := ?_) (a' := ?_) #[true, true, true, true, true, true, true, true, true, true, true, false, false, false] rfl rfl (take_ofW HT_.out HW_.out (by kernel_rfl)) (fun _ _ _ h => h) (Or.inl ⟨by rfl, ?_⟩) hHeld ?_ ?_
  rotate_left
  · intro w' _
    go_simp
    with_reducible rfl
  rotate_left
  · simp only [Act.put, List.setIfInBounds_toArray, List.set_cons_zero, List.set_cons_succ, i64_w, i32_w]
    rfl
  refine one_ (i := 11) (N := some 26) #[true, true, true, true, true, true, true, true, true, true, true, true, false, false] rfl rfl (one_of HT_.out (by kernel_rfl)) (by decide) (fun K hK => ?_)
  refine Kd.R_lit_step (Kd.int .u8) _ 5 ?hg (N := 26) ?hd (xs := ([bt (⟨#[48, 49, 50, 51, 52, 53, 54, 55, 56, 57, 97, 98, 99, 100, 101, 102]⟩ : ByteArray) (ji9), bt (⟨#[48, 49, 50, 51, 52, 53, 54, 55, 56, 57, 97, 98, 99, 100, 101, 102]⟩ : ByteArray) (Go.bits .and .u8 (bt a0 x12_1) 15)] : List Int)) (inner := [.int .u8 (bt (⟨#[48, 49, 50, 51, 52, 53, 54, 55, 56, 57, 97, 98, 99, 100, 101, 102]⟩ : ByteArray) (ji9)), .int .u8 (bt (⟨#[48, 49, 50, 51, 52, 53, 54, 55, 56, 57, 97, 98, 99, 100, 101, 102]⟩ : ByteArray) (Go.bits .and .u8 (bt a0 x12_1) 15))]) (ok := fun _ => True) (okp := fun _ => True) ?hr ?hp (fun _ hk => hk) trivial (Below.refl _ _) (Nat.le_refl _) (by simp) ?_; (case hd => rfl); (case hg => rfl); (case hr => first | (go_simp; done) | (go_simp; rfl)); (case hp => exact (Reps.one (show Kd.M (Kd.int .u8) _ _ _ (bt (⟨#[48, 49, 50, 51, 52, 53, 54, 55, 56, 57, 97, 98, 99, 100, 101, 102]⟩ : ByteArray) (ji9)) [.int .u8 (bt (⟨#[48, 49, 50, 51, 52, 53, 54, 55, 56, 57, 97, 98, 99, 100, 101, 102]⟩ : ByteArray) (ji9))] from rfl) (Reps.one (show Kd.M (Kd.int .u8) _ _ _ (bt (⟨#[48, 49, 50, 51, 52, 53, 54, 55, 56, 57, 97, 98, 99, 100, 101, 102]⟩ : ByteArray) (Go.bits .and .u8 (bt a0 x12_1) 15)) [.int .u8 (bt (⟨#[48, 49, 50, 51, 52, 53, 54, 55, 56, 57, 97, 98, 99, 100, 101, 102]⟩ : ByteArray) (Go.bits .and .u8 (bt a0 x12_1) 15))] from rfl) (Reps.none _ _))))
  intro v150 w19 ho20 hb hg_ hnew_
  clear hg_ hnew_
  (first | rw [← Ny149.out] at ho20 | (simp only [Int.reduceToNat] at ho20; rw [← Ny149.out] at ho20))
  have n0_ := Aside0.mk (Kd.R_elder' (pR_ HO_4.out) (Kd.R_base ho20) hb)
  have n1_ := Aside0.mk (Kd.R_lower (Kd.R_new' ho20 (Kd.R_lt (pR_ HO_4.out))) (below_size (pB_ HB.out)))
  have n2_ := Aside0.mk (below_step (pB_ HB.out) hb)
  clear HO_4
  clear HB
  have HO_4 := n0_
  have HO151 := n1_
  have HB := n2_
  clear n0_ n1_ n2_
  clear hb ho20
  obtain ⟨Ao22, co22, eo22⟩ := Kd.R_slice HO151.out
  (first | subst eo22 | (injection eo22 with f1_ f2_ f3_; have f4_ := f1_.symm; have f5_ := f3_.symm; clear f1_ f2_ f3_; subst f4_; subst f5_))
  refine hK.out _ _ trivial (fun hHeld => ?_)
  clear hK K
  refine norm_ (a' := ?_) ?_ ?_
  rotate_left
  · show Act.put _ (some 26) _ = _
    simp only [Act.put, List.setIfInBounds_toArray, List.set_cons_zero, List.set_cons_succ, i64_w, i32_w]
    rfl
  refine one_ (i := 12) (N := some 27) #[true, true, true, true, true, true, true, true, true, true, true, true, true, false] rfl rfl (one_of HT_.out (by kernel_rfl)) (by decide) (fun K hK => ?_)
  refine Kd.R_append_rows_step (Kd.int .u8) (w0 := w) w.heap.size (by rfl) (.tmp 15) (.tmp 26) 42 5 (.int .u8 0) 1 rfl Try.underlying42 info5 rfl (by decide) (by omega) u4 x4_1 y149 _ _ _ (fun k_ => some k_ ≠ (.slice Ao22 y149.length co22 : Value).ownBlock) (fun _ => False) rfl rfl ?aO ?aR (fun _ _ h => h) (fun _ h => h.elim) ?aF ?aB ?aS ?aL ?_
  (case aR => exact pC_ (Kd.R_reads' HO151.out).2.2)
  (case aB => exact (pB_ HB.out))
  (case aF => exact (fun k_ hk => Kd.fresh' (Kd.R_lt (pR_ HO151.out)) k_ hk))
  (case aO => exact (pR_ (Kd.R_mono HO_4.out (fun _ hk => hk.2))))
  (case aS => exact (below_size (pB_ HB.out)))
  (case aL => have := LMc17.out; omega)
  intro v153 w21 ho hb hg hat
  rw [← Ny152.out] at ho
  have n0_ := Aside0.mk (Kd.R_after (ok := (fun _ => True)) (pR_ HO151.out) hg hat)
  have n1_ := Aside0.mk (hb)
  have n2_ := Aside0.mk (ho)
  clear HO151
  clear HB
  clear HO_4
  have HO151 := n0_
  have HB := n1_
  have HO154 := n2_
  clear n0_ n1_ n2_
  clear ho hb hg hat
  refine hK.out _ _ trivial (fun hHeld => ?_)
  clear hK K
  refine norm_ (a' := ?_) ?_ ?_
  rotate_left
  · show Act.put _ (some 27) _ = _
    simp only [Act.put, List.setIfInBounds_toArray, List.set_cons_zero, List.set_cons_succ, i64_w, i32_w]
    rfl
  refine pu_ 13 4 HT_.out ?_
  refine done_ (done_of HT_.out (by kernel_rfl)) ?_
  try go_wp2
  go_roundg k1
  case measure => have := HK1.out; omega
  case rel => exact ⟨(y152), (wrap64 (x12_1 + 1)), (by first | rfl | (simp; done) | (simp [*]; done)), H', ⟨by have := HK1.out; omega⟩, ⟨by (with_reducible repeat (first | apply Kd.R_alloc | apply Kd.R_drewN | apply Kd.R_drew)); exact Kd.R_mono HO154.out (fun _ hk => trivial)⟩, ⟨pB_ HB.out⟩⟩
/-! ### laws_FnExactHex: function 8 -/
def laws_FnExactHex.f (k : Nat) (a0 : ByteArray) : Option (Bool) := if (a0.size : Int) > 1048576 then (some true) else ((spec_Hex.f k a0).bind fun bt155 => ((impl_Hex.f k a0).bind fun bt157 => (if bt157.1.toList = bt155.1.toList then (if (bt157.2 != bt155.2) = true then (some false) else (some true)) else (some false))))
set_option maxHeartbeats 8000000 in
set_option maxRecDepth 100000 in
theorem laws_FnExactHex.calls (k : Nat) (a0 : ByteArray) (r : Bool) (w : World) (h : laws_FnExactHex.f k a0 = some r) :
    Calls Try.prog 8 #[.string a0] w fun e w' => e = .returned (.bool r) ∧ Below w.heap.size w w' := by
  have HB := Aside0.mk (Below.refl w.heap.size w)
  have H : (if (a0.size : Int) > 1048576 then (some true) else ((spec_Hex.f k a0).bind fun bt155 => ((impl_Hex.f k a0).bind fun bt157 => (if bt157.1.toList = bt155.1.toList then (if (bt157.2 != bt155.2) = true then (some false) else (some true)) else (some false))))) = some r := h
  clear h
  by_cases c2 : (a0.size : Int) > 1048576
  · rw [if_pos c2] at H
    have c2b0 : decide (1048576 < (a0.size : Int)) = true := decide_eq_true c2
    have c2b1 : decide (1048576 < a0.size) = true := decide_eq_true (by omega)
    clear c2
    obtain rfl := Option.some.inj H
    go_enter Try.func8, Try.ntmps8
    go_wp2
    go_ret
    exact ⟨by first | rfl | (simp [errW_none, errW_some] <;> rfl) | (simp [*, errW_none, errW_some] <;> rfl), pB_ HB.out⟩
  rw [if_neg c2] at H
  have c2b0 : decide (1048576 < (a0.size : Int)) = false := decide_eq_false c2
  have c2b1 : decide (1048576 < a0.size) = false := decide_eq_false (by omega)
  clear c2
  replace H := Option.bind_eq_some_iff.mp H
  obtain ⟨⟨t155, t156⟩, A30, H⟩ := H
  replace H : ((impl_Hex.f k a0).bind fun bt157 => (if bt157.1.toList = t155.toList then (if (bt157.2 != t156) = true then (some false) else (some true)) else (some false))) = some r := H
  have A3 := Aside0.mk A30
  clear A30
  replace H := Option.bind_eq_some_iff.mp H
  obtain ⟨⟨t157, t158⟩, A40, H⟩ := H
  replace H : (if t157.toList = t155.toList then (if (t158 != t156) = true then (some false) else (some true)) else (some false)) = some r := H
  have A4 := Aside0.mk A40
  clear A40
  by_cases c5 : t157.toList = t155.toList
  rotate_left
  · rw [if_neg c5] at H
    have c5b0 : (t157.toList == t155.toList) = false := beq_eq_false_iff_ne.mpr c5
    have c5b1 : (t157.toList != t155.toList) = true := bne_iff_ne.mpr c5
    obtain rfl := Option.some.inj H
    go_enter Try.func8, Try.ntmps8
    go_wp2_with (first | ((with_reducible refine gate_callee (f := 25) rfl ?_); refine gL_ 12 Try.func25 rfl #[.string a0] ?_; (with_reducible refine (spec_Hex.calls k a0 t155 t156 _ A3.out).mono ?_); rintro e w11 ⟨rfl, hb⟩; refine ⟨_, rfl, ?_⟩; replace HB := Aside0.mk (below_step (pB_ HB.out) hb); clear hb) | ((with_reducible refine gate_callee (f := 26) rfl ?_); refine gL_ 17 Try.func26 rfl #[.string a0] ?_; (with_reducible refine (impl_Hex.calls k a0 t157 t158 _ A4.out).mono ?_); rintro e w12 ⟨rfl, hb⟩; refine ⟨_, rfl, ?_⟩; replace HB := Aside0.mk (below_step (pB_ HB.out) hb); clear hb))
    go_ret
    exact ⟨by first | rfl | (simp [errW_none, errW_some] <;> rfl) | (simp [*, errW_none, errW_some] <;> rfl), pB_ HB.out⟩

  rw [if_pos c5] at H
  have c5b0 : (t157.toList == t155.toList) = true := beq_iff_eq.mpr c5
  have c5b1 : (t157.toList != t155.toList) = false := bne_eq_false_iff_eq.mpr c5
  clear c5
  by_cases c6 : (t158 != t156) = true
  rotate_left
  · rw [if_neg c6] at H
    have c6b0 : (t158 != t156) = false := by simpa using c6
    (try (have c6b1 : decide (t158 = t156) = true := by simpa using c6))
    (try (have c6b2 : (t158 == t156) = true := by simpa using c6))
    clear c6
    obtain rfl := Option.some.inj H
    go_enter Try.func8, Try.ntmps8
    go_wp2_with (first | ((with_reducible refine gate_callee (f := 25) rfl ?_); refine gL_ 12 Try.func25 rfl #[.string a0] ?_; (with_reducible refine (spec_Hex.calls k a0 t155 t156 _ A3.out).mono ?_); rintro e w9 ⟨rfl, hb⟩; refine ⟨_, rfl, ?_⟩; replace HB := Aside0.mk (below_step (pB_ HB.out) hb); clear hb) | ((with_reducible refine gate_callee (f := 26) rfl ?_); refine gL_ 17 Try.func26 rfl #[.string a0] ?_; (with_reducible refine (impl_Hex.calls k a0 t157 t158 _ A4.out).mono ?_); rintro e w10 ⟨rfl, hb⟩; refine ⟨_, rfl, ?_⟩; replace HB := Aside0.mk (below_step (pB_ HB.out) hb); clear hb))
    go_ret
    exact ⟨by first | rfl | (simp [errW_none, errW_some] <;> rfl) | (simp [*, errW_none, errW_some] <;> rfl), pB_ HB.out⟩
  rw [if_pos c6] at H
  have c6b0 : (t158 != t156) = true := c6
  (try (have c6b1 : decide (t158 = t156) = false := by simpa using c6))
  (try (have c6b2 : (t158 == t156) = false := by simpa using c6))
  (try (have c6b3 : ¬ (t158 = t156) := by simpa using c6))
  clear c6
  obtain rfl := Option.some.inj H
  go_enter Try.func8, Try.ntmps8
  go_wp2_with (first | ((with_reducible refine gate_callee (f := 25) rfl ?_); refine gL_ 12 Try.func25 rfl #[.string a0] ?_; (with_reducible refine (spec_Hex.calls k a0 t155 t156 _ A3.out).mono ?_); rintro e w7 ⟨rfl, hb⟩; refine ⟨_, rfl, ?_⟩; replace HB := Aside0.mk (below_step (pB_ HB.out) hb); clear hb) | ((with_reducible refine gate_callee (f := 26) rfl ?_); refine gL_ 17 Try.func26 rfl #[.string a0] ?_; (with_reducible refine (impl_Hex.calls k a0 t157 t158 _ A4.out).mono ?_); rintro e w8 ⟨rfl, hb⟩; refine ⟨_, rfl, ?_⟩; replace HB := Aside0.mk (below_step (pB_ HB.out) hb); clear hb))
  go_ret
  exact ⟨by first | rfl | (simp [errW_none, errW_some] <;> rfl) | (simp [*, errW_none, errW_some] <;> rfl), pB_ HB.out⟩
/-- THE ONE PURE STATEMENT of laws_FnExactHex: yours. -/
def laws_FnExactHex.Pure : Prop := ∀ (a0 : ByteArray), a0.size ≤ 140737488351232 → ∃ k, laws_FnExactHex.f k a0 = some true
theorem laws_FnExactHex.walk (P : laws_FnExactHex.Pure) (a0 : ByteArray) (w : World) (w0 : a0.size ≤ 140737488351232) :
    Calls Try.prog 8 #[.string a0] w fun e w' => e = .returned (.bool true) ∧ Below w.heap.size w w' := by
  obtain ⟨k, h⟩ := P a0 w0
  refine (laws_FnExactHex.calls k a0 true w h).mono ?_
  rintro e w' ⟨rfl, hd⟩
  exact ⟨rfl, hd⟩

/-! ### spec_BitOf: function 27 -/
def spec_BitOf.f (a0 : ByteArray) (a1 : Int) : Option (Int) := (spec_GreatOk.f a0).bind fun t159 => (if t159 = true then (if a1 < 0 then (some 0) else (if (wrap64 (Int.tdiv a1 8)) ≥ (a0.size : Int) then (some 0) else (if 0 ≤ (wrap64 ((wrap64 ((a0.size : Int) - 1)) - (wrap64 (Int.tdiv a1 8)))) then (if (wrap64 ((wrap64 ((a0.size : Int) - 1)) - (wrap64 (Int.tdiv a1 8)))) < (a0.size : Int) then (if 0 ≤ (IntKind.u64.wrap (Int.tmod a1 8)) then (some (Go.bits .and .i64 (shr .i64 (wrap64 (bt a0 (wrap64 ((wrap64 ((a0.size : Int) - 1)) - (wrap64 (Int.tdiv a1 8)))))) (IntKind.u64.wrap (Int.tmod a1 8))) 1)) else (none)) else (none)) else (none)))) else (some 0))
set_option maxHeartbeats 8000000 in
set_option maxRecDepth 100000 in
theorem spec_BitOf.calls (a0 : ByteArray) (a1 : Int) (r : Int) (w : World) (h : spec_BitOf.f a0 a1 = some r) :
    Calls Try.prog 27 #[.string a0, .int .i64 a1] w fun e w' => e = .returned (.int .i64 r) ∧ Drawn0 w w' := by
  have H : ((spec_GreatOk.f a0).bind fun t159 => (if t159 = true then (if a1 < 0 then (some 0) else (if (wrap64 (Int.tdiv a1 8)) ≥ (a0.size : Int) then (some 0) else (if 0 ≤ (wrap64 ((wrap64 ((a0.size : Int) - 1)) - (wrap64 (Int.tdiv a1 8)))) then (if (wrap64 ((wrap64 ((a0.size : Int) - 1)) - (wrap64 (Int.tdiv a1 8)))) < (a0.size : Int) then (if 0 ≤ (IntKind.u64.wrap (Int.tmod a1 8)) then (some (Go.bits .and .i64 (shr .i64 (wrap64 (bt a0 (wrap64 ((wrap64 ((a0.size : Int) - 1)) - (wrap64 (Int.tdiv a1 8)))))) (IntKind.u64.wrap (Int.tmod a1 8))) 1)) else (none)) else (none)) else (none)))) else (some 0))) = some r := h
  clear h
  replace H := Option.bind_eq_some_iff.mp H
  obtain ⟨t159, A30, H⟩ := H
  have A3 := Aside0.mk A30
  clear A30
  by_cases c4 : t159 = true
  · subst c4
    have H1 : (if a1 < 0 then (some 0) else (if (wrap64 (Int.tdiv a1 8)) ≥ (a0.size : Int) then (some 0) else (if 0 ≤ (wrap64 ((wrap64 ((a0.size : Int) - 1)) - (wrap64 (Int.tdiv a1 8)))) then (if (wrap64 ((wrap64 ((a0.size : Int) - 1)) - (wrap64 (Int.tdiv a1 8)))) < (a0.size : Int) then (if 0 ≤ (IntKind.u64.wrap (Int.tmod a1 8)) then (some (Go.bits .and .i64 (shr .i64 (wrap64 (bt a0 (wrap64 ((wrap64 ((a0.size : Int) - 1)) - (wrap64 (Int.tdiv a1 8)))))) (IntKind.u64.wrap (Int.tmod a1 8))) 1)) else (none)) else (none)) else (none)))) = some r := by rw [if_pos rfl] at H; exact H
    clear H
    have H := H1
    clear H1
    by_cases c5 : a1 < 0
    · rw [if_pos c5] at H
      have c5b0 : decide (a1 < 0) = true := decide_eq_true c5
      clear c5
      obtain rfl := Option.some.inj H
      go_enter Try.func27, Try.ntmps27
      go_wp2_with (first | ((with_reducible refine gate_callee (f := 15) rfl ?_); refine gL_ 6 Try.func15 rfl #[.string a0] ?_; (with_reducible refine (spec_GreatOk.calls a0 true _ A3.out).mono ?_); rintro e w' ⟨rfl, ⟨nd, rfl⟩⟩; refine ⟨_, rfl, ?_⟩))
      go_ret
      exact ⟨by first | rfl | (simp; done) | (simp [*]; done), by repeat (first | exact Drawn0.refl _ | apply Drawn0.step)⟩
    rw [if_neg c5] at H
    have c5b0 : decide (a1 < 0) = false := decide_eq_false c5
    clear c5
    by_cases c6 : (wrap64 (Int.tdiv a1 8)) ≥ (a0.size : Int)
    · rw [if_pos c6] at H
      have c6b0 : decide ((a0.size : Int) ≤ (wrap64 (Int.tdiv a1 8))) = true := decide_eq_true c6
      clear c6
      obtain rfl := Option.some.inj H
      go_enter Try.func27, Try.ntmps27
      go_wp2_with (first | ((with_reducible refine gate_callee (f := 15) rfl ?_); refine gL_ 6 Try.func15 rfl #[.string a0] ?_; (with_reducible refine (spec_GreatOk.calls a0 true _ A3.out).mono ?_); rintro e w' ⟨rfl, ⟨nd, rfl⟩⟩; refine ⟨_, rfl, ?_⟩))
      go_ret
      exact ⟨by first | rfl | (simp; done) | (simp [*]; done), by repeat (first | exact Drawn0.refl _ | apply Drawn0.step)⟩
    rw [if_neg c6] at H
    have c6b0 : decide ((a0.size : Int) ≤ (wrap64 (Int.tdiv a1 8))) = false := decide_eq_false c6
    clear c6
    obtain ⟨ji7, hji7⟩ : ∃ j_ : Int, (wrap64 ((wrap64 ((a0.size : Int) - 1)) - (wrap64 (Int.tdiv a1 8)))) = j_ := ⟨_, rfl⟩
    first | rw [hji7] at H | simp only [hji7] at H | skip
    (try rw [hji7] at A3)
    have hji7w : (IntKind.i64.wrap ((wrap64 ((a0.size : Int) - 1)) - (wrap64 (Int.tdiv a1 8)))) = ji7 := (i64_w _).trans hji7
    by_cases c8 : 0 ≤ (ji7)
    rotate_left
    · rw [if_neg c8] at H; exact absurd H (by simp)
    rw [if_pos c8] at H
    have c8b0 : decide (0 ≤ (ji7)) = true := decide_eq_true c8
    clear c8
    by_cases c9 : (ji7) < (a0.size : Int)
    rotate_left
    · rw [if_neg c9] at H; exact absurd H (by simp)
    rw [if_pos c9] at H
    have c9b0 : decide ((ji7) < (a0.size : Int)) = true := decide_eq_true c9
    clear c9
    obtain ⟨ji11, hji11⟩ : ∃ j_ : Int, (IntKind.u64.wrap (Int.tmod a1 8)) = j_ := ⟨_, rfl⟩
    first | rw [hji11] at H | simp only [hji11] at H | skip
    (try rw [hji11] at A3)
    by_cases c12 : 0 ≤ (ji11)
    rotate_left
    · rw [if_neg c12] at H; exact absurd H (by simp)
    rw [if_pos c12] at H
    have c12b0 := eq_true c12
    have c12b1 : decide (0 ≤ (ji11)) = true := decide_eq_true c12
    clear c12
    obtain ⟨ji13, hji13⟩ : ∃ j_ : Int, (shr .i64 (wrap64 (bt a0 (ji7))) (ji11)) = j_ := ⟨_, rfl⟩
    first | rw [hji13] at H | simp only [hji13] at H | skip
    (try rw [hji13] at A3)
    have hji13_ : ((wrap64 (bt a0 (ji7))) / 2 ^ min (ji11).toNat 64) = ji13 := hji13
    have hji13z : (ji11) ≤ 64 → ((wrap64 (bt a0 (ji7))) / 2 ^ (ji11).toNat) = ji13 := shr_small hji13
    obtain rfl := Option.some.inj H
    go_enter Try.func27, Try.ntmps27
    go_wp2_with (first | ((with_reducible refine gate_callee (f := 15) rfl ?_); refine gL_ 6 Try.func15 rfl #[.string a0] ?_; (with_reducible refine (spec_GreatOk.calls a0 true _ A3.out).mono ?_); rintro e w' ⟨rfl, ⟨nd, rfl⟩⟩; refine ⟨_, rfl, ?_⟩; have p10 : 0 ≤ ((ji7) : Int) := od_; have q10 : (ji7) < (a0.size : Int) := od_; have hx10 := bt_at a0 (ji7); replace p10 := eq_true p10; replace q10 := eq_true q10))
    go_ret
    exact ⟨by first | rfl | (simp; done) | (simp only [← hji7, ← hji11, ← hji13] <;> (first | rfl | simp)) | (simp [*]; done), by repeat (first | exact Drawn0.refl _ | apply Drawn0.step)⟩
  · replace c4 := Bool.eq_false_iff.mpr c4
    subst c4
    have H1 : (some 0) = some r := by rw [if_neg (show ¬ (false = true) by decide)] at H; exact H
    clear H
    have H := H1
    clear H1
    obtain rfl := Option.some.inj H
    go_enter Try.func27, Try.ntmps27
    go_wp2_with (first | ((with_reducible refine gate_callee (f := 15) rfl ?_); refine gL_ 6 Try.func15 rfl #[.string a0] ?_; (with_reducible refine (spec_GreatOk.calls a0 false _ A3.out).mono ?_); rintro e w' ⟨rfl, ⟨nd, rfl⟩⟩; refine ⟨_, rfl, ?_⟩))
    go_ret
    exact ⟨by first | rfl | (simp; done) | (simp [*]; done), by repeat (first | exact Drawn0.refl _ | apply Drawn0.step)⟩

/-! ### impl_nat_trim: function 50 -/
def impl_nat_trim.l0 : Nat → List Int → Option (List Int)
  | 0, _ => none
  | k + 1, x0 => if (x0.length : Int) > 0 then (if 0 ≤ (wrap64 ((x0.length : Int) - 1)) then (if (wrap64 ((x0.length : Int) - 1)) < (x0.length : Int) then (if (rd x0 (wrap64 ((x0.length : Int) - 1))) = 0 then (if (wrap64 ((x0.length : Int) - 1)) ≤ (x0.length : Int) then (impl_nat_trim.l0 k (x0.take ((wrap64 ((x0.length : Int) - 1)) : Int).toNat)) else (none)) else (some x0)) else (none)) else (none)) else (some x0)
def impl_nat_trim.f (k : Nat) (l0 : List Int) : Option (List Int) := impl_nat_trim.l0 k l0
set_option maxHeartbeats 8000000 in
set_option maxRecDepth 100000 in
theorem impl_nat_trim.calls (k : Nat) (P0_ : Nat → Prop) (A0 : Option Addr) (c0 : Nat) (l0 : List Int) (r : List Int) (w : World) (hs0 : Kd.V (Kd.int .u64) 45 w w.heap.size (fun k_ => P0_ k_) (.slice A0 l0.length c0) l0) (h : impl_nat_trim.f k l0 = some r) :
    Calls Try.prog 50 #[.slice A0 l0.length c0] w fun e w' => ∃ v0_ : Value, e = .returned (v0_) ∧ Kd.V (Kd.int .u64) 45 w' w.heap.size (fun k_ => (P0_ k_ ∨ w.heap.size ≤ k_)) v0_ r ∧ Below w.heap.size w w' := by
  have HO0 := Aside0.mk (show Kd.V (Kd.int .u64) 45 w w.heap.size (fun k_ => (P0_ k_ ∨ w.heap.size ≤ k_)) (.slice A0 l0.length c0) l0 from Kd.V_mono hs0 (fun k_ hk => .inl hk))
  have HB := Aside0.mk (Below.refl w.heap.size w)
  have H : (impl_nat_trim.l0 k l0) = some r := h
  clear h
  have H' := Aside0.mk H
  clear H
  go_enter Try.func50, Try.ntmps50
  go_wp2
  go_loopg [0] k (fun kq v0 w' => ∃ (x0_1 : List Int), Aside0 (impl_nat_trim.l0 kq x0_1 = some r) ∧ Aside0 (kq ≤ k) ∧ Aside0 (Kd.V (Kd.int .u64) 45 w' w.heap.size (fun k_ => (P0_ k_ ∨ w.heap.size ≤ k_)) v0 x0_1) ∧ Aside0 (Below w.heap.size w w'))
  case atStart => exact ⟨(l0), H', ⟨Nat.le_refl _⟩, ⟨by (with_reducible repeat (first | apply Kd.V_alloc | apply Kd.V_drewN | apply Kd.V_drew)); exact HO0.out⟩, ⟨pB_ HB.out⟩⟩
  clear H'
  obtain ⟨x0_1, HA, HK1, HO_0, HB⟩ := hrel
  rcases gk with _ | k1
  · exact absurd HA.out (by simp [impl_nat_trim.l0])
  have H := HA.out
  clear HA
  simp only [impl_nat_trim.l0] at H
  by_cases c2 : (x0_1.length : Int) > 0
  rotate_left
  · rw [if_neg c2] at H
    have c2b0 : decide (0 < (x0_1.length : Int)) = false := decide_eq_false c2
    have c2b1 : decide (0 < x0_1.length) = false := decide_eq_false (by omega)
    clear c2
    obtain rfl := Option.some.inj H
    obtain ⟨Ao12, co12, eo12⟩ := Kd.V_slice HO_0.out
    subst eo12
    go_wp2
    go_ret
    exact ⟨_, by first | rfl | (simp [errW_none, errW_some] <;> rfl) | (simp [*, errW_none, errW_some] <;> rfl), by (with_reducible repeat (first | apply Kd.V_alloc | apply Kd.V_drewN | apply Kd.V_drew)); exact HO_0.out, pB_ HB.out⟩

  rw [if_pos c2] at H
  have c2b0 : decide (0 < (x0_1.length : Int)) = true := decide_eq_true c2
  have c2b1 : decide (0 < x0_1.length) = true := decide_eq_true (by omega)
  clear c2
  obtain ⟨ji3, hji3⟩ : ∃ j_ : Int, (wrap64 ((x0_1.length : Int) - 1)) = j_ := ⟨_, rfl⟩
  first | rw [hji3] at H | simp only [hji3] at H | skip
  have hji3w : (IntKind.i64.wrap ((x0_1.length : Int) - 1)) = ji3 := (i64_w _).trans hji3
  by_cases c4 : 0 ≤ (ji3)
  rotate_left
  · rw [if_neg c4] at H; exact absurd H (by simp)
  rw [if_pos c4] at H
  have c4b0 : decide (0 ≤ (ji3)) = true := decide_eq_true c4
  clear c4
  by_cases c5 : (ji3) < (x0_1.length : Int)
  rotate_left
  · rw [if_neg c5] at H; exact absurd H (by simp)
  rw [if_pos c5] at H
  have c5b0 : decide ((ji3) < (x0_1.length : Int)) = true := decide_eq_true c5
  clear c5
  by_cases c6 : (rd x0_1 (ji3)) = 0
  rotate_left
  · rw [if_neg c6] at H
    have c6b0 : ((rd x0_1 (ji3)) == 0) = false := beq_eq_false_iff_ne.mpr c6
    have c6b1 : ((rd x0_1 (ji3)) != 0) = true := bne_iff_ne.mpr c6
    obtain rfl := Option.some.inj H
    obtain ⟨Ao11, co11, eo11⟩ := Kd.V_slice HO_0.out
    subst eo11
    have p160 : 0 ≤ ((ji3) : Int) := od_
    have q160 : (ji3) < (x0_1.length : Int) := od_
    obtain ⟨ad160, e160, hx160_0⟩ := Kd.at_int (Kd.V_reads' HO_0.out).2.2 (ji3) p160 q160
    cases e160
    replace p160 := eq_true p160
    replace q160 := eq_true q160
    go_wp2
    go_ret
    exact ⟨_, by first | rfl | (simp [errW_none, errW_some] <;> rfl) | (simp only [← hji3]; first | rfl | (simp [errW_none, errW_some] <;> rfl)) | (simp [*, errW_none, errW_some] <;> rfl), by (with_reducible repeat (first | apply Kd.V_alloc | apply Kd.V_drewN | apply Kd.V_drew)); exact HO_0.out, pB_ HB.out⟩
  rw [if_pos c6] at H
  have c6b0 : ((rd x0_1 (ji3)) == 0) = true := beq_iff_eq.mpr c6
  have c6b1 : ((rd x0_1 (ji3)) != 0) = false := bne_eq_false_iff_eq.mpr c6
  clear c6
  have c7b0 := eq_true (od_ : 0 ≤ (ji3))
  by_cases c8 : (ji3) ≤ (x0_1.length : Int)
  rotate_left
  · rw [if_neg c8] at H; exact absurd H (by simp)
  rw [if_pos c8] at H
  have c8b0 := eq_true c8
  have c8b1 : decide ((ji3) ≤ (x0_1.length : Int)) = true := decide_eq_true c8
  clear c8
  obtain ⟨y161, hy161⟩ : ∃ y_ : List Int, y_ = (x0_1.take ((ji3) : Int).toNat) := ⟨_, rfl⟩
  first | rw [← hy161] at H | skip
  have Ny161 := Aside0.mk hy161
  clear hy161
  have H' := Aside0.mk H
  clear H
  obtain ⟨Ao9, co9, eo9⟩ := Kd.V_slice HO_0.out
  subst eo9
  have p160 : 0 ≤ ((ji3) : Int) := od_
  have q160 : (ji3) < (x0_1.length : Int) := od_
  obtain ⟨ad160, e160, hx160_0⟩ := Kd.at_int (Kd.V_reads' HO_0.out).2.2 (ji3) p160 q160
  cases e160
  replace p160 := eq_true p160
  replace q160 := eq_true q160
  have q10 : ((ji3) : Int) ≤ ((x0_1.length : Int) : Int) := od_
  obtain ⟨i010, hi010, _, hsz10, _⟩ := info_parts info45
  have hroom10 : x0_1.length ≤ co9 := (Kd.V_reads' HO_0.out).2.1
  have hC10 : Kd.F (Kd.int .u64) _ _ (some ad160) x0_1.length x0_1 := (Kd.V_at (base := w.heap.size) HO_0.out).2.2
  have hcut10 := cut_to (P := Try.prog) 47 45 .i64 Try.underlying47 hi010 (some ad160) x0_1.length co9 (ji3) (od_) q10 hroom10
  have hr10 := Kd.F_take (m := ((ji3) : Int).toNat) hC10 (by omega)
  have hy10 : y161.length = ((ji3) : Int).toNat := (by rw [Ny161.out, List.length_take]; omega)
  rw [← Ny161.out] at hr10
  rw [← hy10] at hcut10
  have HO165 := Aside0.mk (show Kd.V (Kd.int .u64) 45 _ w.heap.size _ (.slice (some ad160) y161.length co9) y161 from Kd.V_mk (by omega) hr10)
  have HC165 := Aside0.mk (show y161.length ≤ co9 from by omega)
  clear hr10 hC10 hroom10 hi010 hsz10
  have KY10 := Aside0.mk hy10
  clear hy10
  replace q10 := eq_true q10
  go_wp2
  go_roundg k1
  case measure => have := HK1.out; omega
  case rel => exact ⟨(y161), H', ⟨by have := HK1.out; omega⟩, ⟨by (with_reducible repeat (first | apply Kd.V_alloc | apply Kd.V_drewN | apply Kd.V_drew)); exact HO165.out⟩, ⟨pB_ HB.out⟩⟩
/-! ### impl_natOf: function 40 -/
def impl_natOf.l0 : Nat → ByteArray → List Int → Int → Int → Option (List Int)
  | 0, _, _, _, _ => none
  | k + 1, x0, x3, x12, x13 => if x13 < x12 then (if 0 ≤ (wrap64 (Int.tdiv (wrap64 ((wrap64 ((x0.size : Int) - 1)) - x13)) 8)) then (if (wrap64 (Int.tdiv (wrap64 ((wrap64 ((x0.size : Int) - 1)) - x13)) 8)) < (x3.length : Int) then (if 0 ≤ x13 then (if x13 < (x0.size : Int) then (if 0 ≤ (wrap64 (8 * (Int.tmod (wrap64 ((wrap64 ((x0.size : Int) - 1)) - x13)) 8))) then (impl_natOf.l0 k x0 (x3.set ((wrap64 (Int.tdiv (wrap64 ((wrap64 ((x0.size : Int) - 1)) - x13)) 8)) : Int).toNat (Go.bits .or .u64 (rd x3 (wrap64 (Int.tdiv (wrap64 ((wrap64 ((x0.size : Int) - 1)) - x13)) 8))) (shl .u64 (IntKind.u64.wrap (bt x0 x13)) (wrap64 (8 * (Int.tmod (wrap64 ((wrap64 ((x0.size : Int) - 1)) - x13)) 8)))))) x12 (wrap64 (x13 + 1))) else (none)) else (none)) else (none)) else (none)) else (none)) else ((impl_nat_trim.f k x3).bind fun t171 => (some t171))
def impl_natOf.f (k : Nat) (a0 : ByteArray) : Option (List Int) := if 0 ≤ (wrap64 (Int.tdiv (wrap64 ((a0.size : Int) + 7)) 8)) then (if (wrap64 (Int.tdiv (wrap64 ((a0.size : Int) + 7)) 8) : Int).toNat ≤ 35184372088832 then (impl_natOf.l0 k a0 (List.replicate (wrap64 (Int.tdiv (wrap64 ((a0.size : Int) + 7)) 8) : Int).toNat 0) (a0.size : Int) 0) else (none)) else (none)
def impl_natOf.T6 : Bool × List (List Nat × List Nat) := (true, [([], []), ([], []), ([1], [1]), ([0, 2], [0, 2]), ([3], [3]), ([], []), ([], []), ([5, 6], [5, 6]), ([7], [7]), ([], []), ([9], [9]), ([10], [10]), ([8, 11], [8, 11]), ([4, 12], [4, 12]), ([0, 2, 0, 1, 2, 3, 4, 5, 6, 7, 8, 9, 10, 11, 12, 13], [0, 2]), ([14, 13, 0, 1, 2, 3, 4, 5, 6, 7, 8, 9, 10, 11, 12, 13], [13, 14])])
def impl_natOf.B6 : List Nat := [0, 0, 2, 7, 15, 0, 0, 96, 224, 0, 512, 1536, 4064, 8191, 16383, 32767]
theorem impl_natOf.tab6 : rtab .any (opsOf Try.f40 6) = impl_natOf.T6 := by kernel_rfl
theorem impl_natOf.bits6 : waitsOk impl_natOf.T6.2 impl_natOf.B6 = true := by kernel_rfl
set_option maxHeartbeats 8000000 in
set_option maxRecDepth 100000 in
theorem impl_natOf.calls (k : Nat) (a0 : ByteArray) (r : List Int) (w : World) (h : impl_natOf.f k a0 = some r) :
    Calls Try.prog 40 #[.string a0] w fun e w' => ∃ v0_ : Value, e = .returned (v0_) ∧ Kd.V (Kd.int .u64) 45 w' w.heap.size (fun k_ => (w.heap.size ≤ k_)) v0_ r ∧ Below w.heap.size w w' := by
  have HB := Aside0.mk (Below.refl w.heap.size w)
  have H : (if 0 ≤ (wrap64 (Int.tdiv (wrap64 ((a0.size : Int) + 7)) 8)) then (if (wrap64 (Int.tdiv (wrap64 ((a0.size : Int) + 7)) 8) : Int).toNat ≤ 35184372088832 then (impl_natOf.l0 k a0 (List.replicate (wrap64 (Int.tdiv (wrap64 ((a0.size : Int) + 7)) 8) : Int).toNat 0) (a0.size : Int) 0) else (none)) else (none)) = some r := h
  clear h
  obtain ⟨ji2, hji2⟩ : ∃ j_ : Int, (wrap64 (Int.tdiv (wrap64 ((a0.size : Int) + 7)) 8)) = j_ := ⟨_, rfl⟩
  first | rw [hji2] at H | simp only [hji2] at H | skip
  have hji2w : (IntKind.i64.wrap (Int.tdiv (wrap64 ((a0.size : Int) + 7)) 8)) = ji2 := (i64_w _).trans hji2
  by_cases c3 : 0 ≤ (ji2)
  rotate_left
  · rw [if_neg c3] at H
    exact absurd H (by simp)

  rw [if_pos c3] at H
  have c3b0 := eq_true c3
  have c3b1 : decide (0 ≤ (ji2)) = true := decide_eq_true c3
  clear c3
  by_cases c4 : (ji2 : Int).toNat ≤ 35184372088832
  rotate_left
  · rw [if_neg c4] at H; exact absurd H (by simp)
  rw [if_pos c4] at H
  have c4b0 := eq_true c4
  have c4b1 : decide ((ji2 : Int).toNat ≤ 35184372088832) = true := decide_eq_true c4
  clear c4
  obtain ⟨y166, hy166⟩ : ∃ y_ : List Int, y_ = (List.replicate (ji2 : Int).toNat 0) := ⟨_, rfl⟩
  first | rw [← hy166] at H | skip
  have Ny166 := Aside0.mk hy166
  clear hy166
  have H' := Aside0.mk H
  clear H
  go_enter Try.func40, Try.ntmps40
  go_wp2_with (first | ((with_reducible refine gate_dst (N := 10) rfl ?_); refine Kd.R_make (Kd.int .u64) _ 45 rfl (N := 10) rfl 47 _ _ rfl ji2 rfl rfl Try.underlying47 (.int .u64 0) 8 info45 rfl (by decide) (by omega) 0 (ok := fun _ => True) (okp := fun _ => True) rfl (fun _ hk => hk) trivial (od_) (Nat.le_trans (Nat.mul_le_mul_right _ (od_ : ji2.toNat ≤ 35184372088832)) (by omega)) (Below.refl _ _) (Nat.le_refl _) ?_; intro v167 w5 ho6 hb hg_ hnew_; clear hg_ hnew_; (first | rw [← Ny166.out] at ho6 | (simp only [Int.reduceToNat] at ho6; rw [← Ny166.out] at ho6)); have HO168 := Aside0.mk (Kd.R_lower (Kd.R_newM (M := fun k_ => (w.heap.size ≤ k_)) ho6 (below_size (pB_ HB.out)) (fun k_ h_ => h_)) (below_size (pB_ HB.out))); replace HB := Aside0.mk (below_step (pB_ HB.out) hb); clear hb ho6))
  repeat (rw [addr_self]; generalize Addr.add _ _ = az_)
  go_loopg [13] k (fun kq v13 w' => ∃ (x3_1 : List Int) (x13_1 : Int), v13 = .int .i64 x13_1 ∧ Aside0 (impl_natOf.l0 kq a0 x3_1 (a0.size : Int) x13_1 = some r) ∧ Aside0 (kq ≤ k) ∧ Aside0 (Kd.R (Kd.int .u64) 45 w' w.heap.size (fun k_ => (w.heap.size ≤ k_)) v167 x3_1) ∧ Aside0 (Below w.heap.size w w'))
  case atStart => exact ⟨(y166), (0), (by first | rfl | (simp; done) | (simp [*]; done)), H', ⟨Nat.le_refl _⟩, ⟨by (with_reducible repeat (first | apply Kd.R_alloc | apply Kd.R_drewN | apply Kd.R_drew)); exact Kd.R_mono HO168.out (fun _ hk => hk.1)⟩, ⟨pB_ HB.out⟩⟩
  clear H'
  try clear p2
  try clear c3
  try clear c3b0
  try clear c3b1
  try clear c4
  try clear c4b0
  try clear c4b1
  try clear p6
  obtain ⟨x3_1, x13_1, rfl, HA, HK1, HO_3, HB⟩ := hrel
  rcases gk with _ | k1
  · exact absurd HA.out (by simp [impl_natOf.l0])
  have H := HA.out
  clear HA
  simp only [impl_natOf.l0] at H
  by_cases c7 : x13_1 < (a0.size : Int)
  rotate_left
  · rw [if_neg c7] at H
    have c7b0 : decide (x13_1 < (a0.size : Int)) = false := decide_eq_false c7
    clear c7
    replace H := Option.bind_eq_some_iff.mp H
    obtain ⟨t171, A210, H⟩ := H
    have A21 := Aside0.mk A210
    clear A210
    obtain rfl := Option.some.inj H
    obtain ⟨Ao22, co22, eo22⟩ := Kd.R_slice HO_3.out
    subst eo22
    go_wp2_with (first | ((with_reducible refine gate_callee (f := 50) rfl ?_); refine gL_ 38 Try.func50 rfl #[.slice Ao22 x3_1.length co22] ?_; (with_reducible refine (impl_nat_trim.calls k1 (fun k_ => some k_ = (.slice Ao22 x3_1.length co22 : Value).ownBlock) _ _ x3_1 t171 _ ?side1 A21.out).mono ?_); (case side1 => exact Kd.R_V (Kd.R_tight rfl (HO_3.out))); rintro e w23 ⟨v172, rfl, ho0, hb⟩; refine ⟨_, rfl, ?_⟩; have HO173 := Aside0.mk (Kd.V_lower (Kd.V_mono (ok' := fun k_ => (w.heap.size ≤ k_)) ho0 (fun k_ hk_ => Or.elim hk_ (fun hs_ => ((HO_3.out).1 k_ hs_.symm)) (fun hn_ => (Nat.le_trans (below_size (pB_ HB.out)) hn_)))) (below_size (pB_ HB.out))); replace HO_3 := Aside0.mk (Kd.R_below (pR_ HO_3.out) hb); replace HB := Aside0.mk (below_step (pB_ HB.out) hb); clear hb ho0))
    go_ret
    exact ⟨_, by first | rfl | (simp [errW_none, errW_some] <;> rfl) | (simp only [← hji2]; first | rfl | (simp [errW_none, errW_some] <;> rfl)) | (simp [*, errW_none, errW_some] <;> rfl), by (with_reducible repeat (first | apply Kd.V_alloc | apply Kd.V_drewN | apply Kd.V_drew)); exact HO173.out, pB_ HB.out⟩
  rw [if_pos c7] at H
  have c7b0 : decide (x13_1 < (a0.size : Int)) = true := decide_eq_true c7
  clear c7
  obtain ⟨ji8, hji8⟩ : ∃ j_ : Int, (wrap64 (Int.tdiv (wrap64 ((wrap64 ((a0.size : Int) - 1)) - x13_1)) 8)) = j_ := ⟨_, rfl⟩
  first | rw [hji8] at H | simp only [hji8] at H | skip
  have hji8w : (IntKind.i64.wrap (Int.tdiv (wrap64 ((wrap64 ((a0.size : Int) - 1)) - x13_1)) 8)) = ji8 := (i64_w _).trans hji8
  by_cases c9 : 0 ≤ (ji8)
  rotate_left
  · rw [if_neg c9] at H; exact absurd H (by simp)
  rw [if_pos c9] at H
  have c9b0 : decide (0 ≤ (ji8)) = true := decide_eq_true c9
  clear c9
  by_cases c10 : (ji8) < (x3_1.length : Int)
  rotate_left
  · rw [if_neg c10] at H; exact absurd H (by simp)
  rw [if_pos c10] at H
  have c10b0 : decide ((ji8) < (x3_1.length : Int)) = true := decide_eq_true c10
  clear c10
  by_cases c11 : 0 ≤ x13_1
  rotate_left
  · rw [if_neg c11] at H; exact absurd H (by simp)
  rw [if_pos c11] at H
  have c11b0 : decide (0 ≤ x13_1) = true := decide_eq_true c11
  clear c11
  by_cases c12 : x13_1 < (a0.size : Int)
  rotate_left
  · rw [if_neg c12] at H; exact absurd H (by simp)
  rw [if_pos c12] at H
  have c12b0 : decide (x13_1 < (a0.size : Int)) = true := decide_eq_true c12
  clear c12
  obtain ⟨ji14, hji14⟩ : ∃ j_ : Int, (wrap64 (8 * (Int.tmod (wrap64 ((wrap64 ((a0.size : Int) - 1)) - x13_1)) 8))) = j_ := ⟨_, rfl⟩
  first | rw [hji14] at H | simp only [hji14] at H | skip
  have hji14w : (IntKind.i64.wrap (8 * (Int.tmod (wrap64 ((wrap64 ((a0.size : Int) - 1)) - x13_1)) 8))) = ji14 := (i64_w _).trans hji14
  by_cases c15 : 0 ≤ (ji14)
  rotate_left
  · rw [if_neg c15] at H; exact absurd H (by simp)
  rw [if_pos c15] at H
  have c15b0 := eq_true c15
  have c15b1 : decide (0 ≤ (ji14)) = true := decide_eq_true c15
  clear c15
  obtain ⟨ji16, hji16⟩ : ∃ j_ : Int, (shl .u64 (IntKind.u64.wrap (bt a0 x13_1)) (ji14)) = j_ := ⟨_, rfl⟩
  first | rw [hji16] at H | simp only [hji16] at H | skip
  have hji16_ : (IntKind.u64.wrap ((IntKind.u64.wrap (bt a0 x13_1)) * 2 ^ min (ji14).toNat 64)) = ji16 := hji16
  have hji16z : (ji14) ≤ 64 → (IntKind.u64.wrap ((IntKind.u64.wrap (bt a0 x13_1)) * 2 ^ (ji14).toNat)) = ji16 := shl_small hji16
  obtain ⟨y170, hy170⟩ : ∃ y_ : List Int, y_ = (x3_1.set ((ji8) : Int).toNat (Go.bits .or .u64 (rd x3_1 (ji8)) (ji16))) := ⟨_, rfl⟩
  first | rw [← hy170] at H | skip
  have Ny170 := Aside0.mk hy170
  clear hy170
  have H' := Aside0.mk H
  clear H
  try go_wp2
  have n0_ := Aside0.mk (Kd.R_drew HO_3.out)
  have n1_ := Aside0.mk (below_drew1 HB.out)
  clear HO_3
  clear HB
  have HO_3 := n0_
  have HB := n1_
  clear n0_ n1_
  obtain ⟨Ao19, co19, eo19⟩ := Kd.R_slice HO_3.out
  (first | subst eo19 | (injection eo19 with f1_ f2_ f3_; have f4_ := f1_.symm; have f5_ := f3_.symm; clear f1_ f2_ f3_; subst f4_; subst f5_))
  have p169 : 0 ≤ ((ji8) : Int) := od_
  have q169 : (ji8) < (x3_1.length : Int) := od_
  obtain ⟨ad169, e169, hx169_0⟩ := Kd.at_int (Kd.R_reads' HO_3.out).2.2 (ji8) p169 q169
  cases e169
  replace p169 := eq_true p169
  replace q169 := eq_true q169
  have p13 : 0 ≤ (x13_1 : Int) := od_
  have q13 : x13_1 < (a0.size : Int) := od_
  have hx13 := bt_at a0 x13_1
  replace p13 := eq_true p13
  replace q13 := eq_true q13
  have p17 : 0 ≤ ((ji8) : Int) := od_
  have q17 : ((ji8) : Int) < ((x3_1.length : Int) : Int) := od_
  obtain ⟨go17, co17, eo17, gb17, gl17, cl17, HG17⟩ := Kd.R_form HO_3.out (by omega)
  (first | cases eo17 | (injection eo17 with ea_ en_ ec_; (first | subst ea_ | (injection ea_ with ea_; subst ea_)); subst ec_; clear en_))
  have GB17 := Aside0.mk gb17
  have GG17 := Aside0.mk HG17
  clear gb17 gl17 HG17
  (first | simp only [add_plain] at hx169_0 | skip)
  obtain ⟨hx17_0, hf17_0⟩ := Kd.R_celln 0 HO_3.out ((ji8) : Int) p17 q17
  replace p17 := eq_true p17
  replace q17 := eq_true q17
  have HP20 := Kd.R_putn HO_3.out ((ji8) : Int) (Go.bits .or .u64 (rd x3_1 (ji8)) (ji16))
  rw [← Ny170.out] at HP20
  have HQ20 := Aside0.mk HP20
  clear HP20
  refine start_ (n := 16) (S := fun w' => w'.cell? ⟨go17, ((ji8)).toNat, none⟩ = some (.int .u64 (rd x3_1 (ji8)))) (ds := [15]) #[false, false, false, false, false, false, false, false, false, false, false, false, false, false, false, false] (by kernel_rfl) rfl rfl (hx169_0) (fun hHeld => ?_); refine with_tabW impl_natOf.tab6 impl_natOf.bits6 (fun HT_ HW_ => ?_)
  generalize wr.drew = w18 at HO_3 HB GG17 HQ20 hf17_0 hx169_0 hx17_0 hHeld ⊢
  refine pu_ 0 21 HT_.out ?_
  refine pu_ 1 22 HT_.out ?_
  refine pu_ 2 23 HT_.out ?_
  refine pu_ 3 24 HT_.out ?_
  refine pu_ 5 26 HT_.out ?_
  refine pu_ 6 27 HT_.out ?_
  refine pu_ 9 30 HT_.out ?_
  refine pu_ 10 31 HT_.out ?_
  refine pu_ 11 32 HT_.out ?_
  refine take_ (i := 4) (N := some 25) (v := ?_) (a' := ?_) #[true, true, true, true, true, true, true, false, false, true, true, true, false, false, false, false] rfl rfl (take_ofW HT_.out HW_.out (by kernel_rfl)) (fun _ _ _ h => h) (Or.inl ⟨by rfl, ?_⟩) hHeld ?_ ?_
  rotate_left
  · intro w' s0
    go_simp
    with_reducible rfl
  rotate_left
  · simp only [Act.put, List.setIfInBounds_toArray, List.set_cons_zero, List.set_cons_succ, i64_w, i32_w]
    rfl
  refine take_ (i := 7) (N := some 28) (v := ?_) (a' := ?_) #[true, true, true, true, true, true, true, true, false, true, true, true, false, false, false, false] rfl rfl (take_ofW HT_.out HW_.out (by kernel_rfl)) (fun _ _ _ h => h) (Or.inl ⟨by rfl, ?_⟩) hHeld ?_ ?_
  rotate_left
  · intro w' s0
    go_simp
    with_reducible rfl
  rotate_left
  · simp only [Act.put, List.setIfInBounds_toArray, List.set_cons_zero, List.set_cons_succ, i64_w, i32_w]
    rfl
  refine pu_ 8 29 HT_.out ?_
  refine pu_ 12 33 HT_.out ?_
  refine pu_ 13 34 HT_.out ?_
  refine pu_ 14 35 HT_.out ?_
  refine last_ (i := 15) (N := none) #[true, true, true, true, true, true, true, true, true, true, true, true, true, true, true, true] rfl rfl (one_of HT_.out (by kernel_rfl)) (by decide) (fun K hK => ?_)
  refine skip_ (w1 := ?_) (by rfl) rfl ?_ ?_
  rotate_left
  · go_simp
    rfl
  refine hK.out _ _ ?_
  clear hK K
  refine done_ (done_of HT_.out (by kernel_rfl)) ?_
  try go_wp2
  go_roundg k1
  case measure => have := HK1.out; omega
  case rel => exact ⟨(y170), (wrap64 (x13_1 + 1)), (by first | rfl | (simp; done) | (simp [*]; done)), H', ⟨by have := HK1.out; omega⟩, ⟨by (with_reducible repeat (first | apply Kd.R_alloc | apply Kd.R_drewN | apply Kd.R_drew)); exact HQ20.out⟩, ⟨by repeat (first | (with_reducible first | exact HB.out | apply below_alloc | apply pw_below_drewN | apply below_drew1 | refine below_set ?_ GB17.out) | exact HB.out)⟩⟩
/-! ### impl_nat_bit: function 41 -/
def impl_nat_bit.f (l0 : List Int) (a1 : Int) : Option (Int) := if a1 < 0 then (some 0) else (if a1 ≥ (wrap64 (64 * (l0.length : Int))) then (some 0) else (if 0 ≤ (wrap64 (Int.tdiv a1 64)) then (if (wrap64 (Int.tdiv a1 64)) < (l0.length : Int) then (if 0 ≤ (Int.tmod a1 64) then (some (Go.bits .and .u64 (shr .u64 (rd l0 (wrap64 (Int.tdiv a1 64))) (Int.tmod a1 64)) 1)) else (none)) else (none)) else (none)))
set_option maxHeartbeats 8000000 in
set_option maxRecDepth 100000 in
theorem impl_nat_bit.calls (A0 : Option Addr) (c0 : Nat) (l0 : List Int) (a1 : Int) (r : Int) (w : World) (hr0 : Kd.C (Kd.int .u64) w A0 l0.length l0) (hc0 : l0.length ≤ c0) (h : impl_nat_bit.f l0 a1 = some r) :
    Calls Try.prog 41 #[.slice A0 l0.length c0, .int .i64 a1] w fun e w' => e = .returned (.int .u64 r) ∧ Drawn0 w w' := by
  have HR0 := Aside0.mk hr0
  have HC0 := Aside0.mk hc0
  clear hr0 hc0
  have H : (if a1 < 0 then (some 0) else (if a1 ≥ (wrap64 (64 * (l0.length : Int))) then (some 0) else (if 0 ≤ (wrap64 (Int.tdiv a1 64)) then (if (wrap64 (Int.tdiv a1 64)) < (l0.length : Int) then (if 0 ≤ (Int.tmod a1 64) then (some (Go.bits .and .u64 (shr .u64 (rd l0 (wrap64 (Int.tdiv a1 64))) (Int.tmod a1 64)) 1)) else (none)) else (none)) else (none)))) = some r := h
  clear h
  by_cases c3 : a1 < 0
  · rw [if_pos c3] at H
    have c3b0 : decide (a1 < 0) = true := decide_eq_true c3
    clear c3
    obtain rfl := Option.some.inj H
    go_enter Try.func41, Try.ntmps41
    go_wp2
    go_ret
    exact ⟨by first | rfl | (simp; done) | (simp [*]; done), by repeat (first | exact Drawn0.refl _ | apply Drawn0.step)⟩
  rw [if_neg c3] at H
  have c3b0 : decide (a1 < 0) = false := decide_eq_false c3
  clear c3
  by_cases c4 : a1 ≥ (wrap64 (64 * (l0.length : Int)))
  · rw [if_pos c4] at H
    have c4b0 : decide ((wrap64 (64 * (l0.length : Int))) ≤ a1) = true := decide_eq_true c4
    clear c4
    obtain rfl := Option.some.inj H
    go_enter Try.func41, Try.ntmps41
    go_wp2
    go_ret
    exact ⟨by first | rfl | (simp; done) | (simp [*]; done), by repeat (first | exact Drawn0.refl _ | apply Drawn0.step)⟩
  rw [if_neg c4] at H
  have c4b0 : decide ((wrap64 (64 * (l0.length : Int))) ≤ a1) = false := decide_eq_false c4
  clear c4
  obtain ⟨ji5, hji5⟩ : ∃ j_ : Int, (wrap64 (Int.tdiv a1 64)) = j_ := ⟨_, rfl⟩
  first | rw [hji5] at H | simp only [hji5] at H | skip
  have hji5w : (IntKind.i64.wrap (Int.tdiv a1 64)) = ji5 := (i64_w _).trans hji5
  by_cases c6 : 0 ≤ (ji5)
  rotate_left
  · rw [if_neg c6] at H
    exact absurd H (by simp)

  rw [if_pos c6] at H
  have c6b0 : decide (0 ≤ (ji5)) = true := decide_eq_true c6
  clear c6
  by_cases c7 : (ji5) < (l0.length : Int)
  rotate_left
  · rw [if_neg c7] at H; exact absurd H (by simp)
  rw [if_pos c7] at H
  have c7b0 : decide ((ji5) < (l0.length : Int)) = true := decide_eq_true c7
  clear c7
  obtain ⟨ji8, hji8⟩ : ∃ j_ : Int, (Int.tmod a1 64) = j_ := ⟨_, rfl⟩
  first | rw [hji8] at H | simp only [hji8] at H | skip
  by_cases c9 : 0 ≤ (ji8)
  rotate_left
  · rw [if_neg c9] at H; exact absurd H (by simp)
  rw [if_pos c9] at H
  have c9b0 := eq_true c9
  have c9b1 : decide (0 ≤ (ji8)) = true := decide_eq_true c9
  clear c9
  obtain ⟨ji10, hji10⟩ : ∃ j_ : Int, (shr .u64 (rd l0 (ji5)) (ji8)) = j_ := ⟨_, rfl⟩
  first | rw [hji10] at H | simp only [hji10] at H | skip
  have hji10_ : ((rd l0 (ji5)) / 2 ^ min (ji8).toNat 64) = ji10 := hji10
  have hji10z : (ji8) ≤ 64 → ((rd l0 (ji5)) / 2 ^ (ji8).toNat) = ji10 := shr_small hji10
  obtain rfl := Option.some.inj H
  have p174 : 0 ≤ ((ji5) : Int) := od_
  have q174 : (ji5) < (l0.length : Int) := od_
  obtain ⟨ad174, e174, hx174_0⟩ := Kd.at_int HR0.out (ji5) p174 q174
  cases e174
  replace p174 := eq_true p174
  replace q174 := eq_true q174
  go_enter Try.func41, Try.ntmps41
  go_wp2
  go_ret
  exact ⟨by first | rfl | (simp; done) | (simp only [← hji5, ← hji8, ← hji10] <;> (first | rfl | simp)) | (simp [*]; done), by repeat (first | exact Drawn0.refl _ | apply Drawn0.step)⟩
end Go.Proofs.Ytbkcchpcadlkdaa.F
