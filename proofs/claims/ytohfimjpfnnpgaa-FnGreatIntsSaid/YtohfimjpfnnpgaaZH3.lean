-- Made for this seat by a program of this session (wip/fork, wip/slim.py). Lean checks it.
import Derived.Test.YtohfimjpfnnpgaaVHFx0
import Derived.Test.YtohfimjpfnnpgaaZH0
import Derived.Test.YtohfimjpfnnpgaaZH1
import Derived.Test.YtohfimjpfnnpgaaZH2
namespace Go.Proofs.Ytohfimjpfnnpgaa.F
open Go.RowKit Go.Proofs.YtohfimjpfnnpgaaW.PrintWords Go.Proofs.YtohfimjpfnnpgaaW.PrintLast Go.Proofs.YtohfimjpfnnpgaaW.PrintMore
attribute [local go_sem] max2_int min2_int max_two min_two max_three min_three max_four min_four   -- for this text's walks alone
set_option linter.unusedVariables false
set_option linter.unusedSimpArgs false

/-! ### spec_GreatOf: function 119 -/
def spec_GreatOf.l0 : Nat → Int → List Int → Int → Option (ByteArray)
  | 0, _, _, _ => none
  | k + 1, x0, x3, x4 => if x4 ≥ 0 then (if 0 ≤ (IntKind.u64.wrap (8 * (IntKind.u64.wrap (x4)))) then (if ((shr .i64 x0 (IntKind.u64.wrap (8 * (IntKind.u64.wrap (x4))))) % 256) = 0 then (if (x3.length : Int) > 0 then (if x3.length < 140737488355328 then (spec_GreatOf.l0 k x0 (x3 ++ [(shr .i64 x0 (IntKind.u64.wrap (8 * (IntKind.u64.wrap (x4))))) % 256]) (wrap64 (x4 - 1))) else (none)) else (spec_GreatOf.l0 k x0 x3 (wrap64 (x4 - 1)))) else (if x3.length < 140737488355328 then (spec_GreatOf.l0 k x0 (x3 ++ [(shr .i64 x0 (IntKind.u64.wrap (8 * (IntKind.u64.wrap (x4))))) % 256]) (wrap64 (x4 - 1))) else (none))) else (none)) else (some (strOfNums x3))
def spec_GreatOf.f (k : Nat) (a0 : Int) : Option (ByteArray) := if a0 < 0 then (some (⟨#[]⟩ : ByteArray)) else (spec_GreatOf.l0 k a0 (([] : List Int)) 7)
set_option maxHeartbeats 8000000 in
set_option maxRecDepth 100000 in
theorem spec_GreatOf.calls (k : Nat) (a0 : Int) (r : ByteArray) (w : World) (h : spec_GreatOf.f k a0 = some r) :
    Calls Try.prog 119 #[.int .i64 a0] w fun e w' => e = .returned (.string r) ∧ Below w.heap.size w w' := by
  have HB := Aside0.mk (Below.refl w.heap.size w)
  have H : (if a0 < 0 then (some (⟨#[]⟩ : ByteArray)) else (spec_GreatOf.l0 k a0 (([] : List Int)) 7)) = some r := h
  clear h
  by_cases c2 : a0 < 0
  · rw [if_pos c2] at H
    have c2b0 : decide (a0 < 0) = true := decide_eq_true c2
    clear c2
    obtain rfl := Option.some.inj H
    go_enter Try.func119, Try.ntmps119
    go_wp2
    go_ret
    exact ⟨by first | rfl | (simp [errW_none, errW_some] <;> rfl) | (simp [*, errW_none, errW_some] <;> rfl), pB_ HB.out⟩
  rw [if_neg c2] at H
  have c2b0 : decide (a0 < 0) = false := decide_eq_false c2
  clear c2
  obtain ⟨y1082, hy1082⟩ : ∃ y_ : List Int, y_ = (([] : List Int)) := ⟨_, rfl⟩
  replace H : (spec_GreatOf.l0 k a0 y1082 7) = some r := by first | (rw [hy1082]; with_reducible exact H) | (have H2_ := (Option.bind_some _ _).symm.trans H; rw [hy1082]; with_reducible exact H2_) | (have H2_ := (Option.bind_some _ _).symm.trans H; with_reducible exact H2_) | with_reducible exact H | (rw [hy1082]; exact H) | exact H
  have Ny1082 := Aside0.mk hy1082
  clear hy1082
  have H' := Aside0.mk H
  clear H
  go_enter Try.func119, Try.ntmps119
  go_wp2_with (first | ((with_reducible refine gate_dst (N := 8) rfl ?_); (try (refine gate_guard (by rfl) ?_; dsimp only)); refine Kd.R_lit (Kd.int .u8) _ 5 ?hg (N := 8) ?hd (xs := ([] : List Int)) (inner := []) (ok := fun _ => True) (okp := fun _ => True) ?hr ?hp (fun _ hk => hk) trivial (Below.refl _ _) (Nat.le_refl _) (by simp) ?_; (case hd => rfl); (case hg => rfl); (case hr => first | (go_simp; done) | (go_simp; rfl)); (case hp => exact (Reps.none _ _)); intro v1083 w3 ho4 hb hg_ hnew_; clear hg_ hnew_; (first | rw [← Ny1082.out] at ho4 | (simp only [Int.reduceToNat] at ho4; rw [← Ny1082.out] at ho4)); have HO1084 := Aside0.mk (Kd.R_lower ho4 (below_size (pB_ HB.out))); replace HB := Aside0.mk (below_step (pB_ HB.out) hb); clear hb ho4))
  go_loopg [3, 4] k (fun kq v3 v4 w' => ∃ (x3_1 : List Int) (x4_1 : Int), v4 = .int .i64 x4_1 ∧ Aside0 (spec_GreatOf.l0 kq a0 x3_1 x4_1 = some r) ∧ Aside0 (kq ≤ k) ∧ Aside0 (Kd.R (Kd.int .u8) 5 w' w.heap.size (fun _ => True) v3 x3_1) ∧ Aside0 (Below w.heap.size w w'))
  case atStart => exact ⟨(y1082), (7), (by first | rfl | (simp; done) | (simp [*]; done)), H', ⟨Nat.le_refl _⟩, ⟨by (with_reducible repeat (first | apply Kd.R_alloc | apply Kd.R_drewN | apply Kd.R_drew)); exact HO1084.out⟩, ⟨pB_ HB.out⟩⟩
  clear H'
  try clear c1
  try clear c2
  try clear c2b0
  try clear p2
  obtain ⟨x3_1, x4_1, rfl, HA, HK1, HO_3, HB⟩ := hrel
  rcases gk with _ | k1
  · exact absurd HA.out (by simp [spec_GreatOf.l0])
  have H := HA.out
  clear HA
  simp only [spec_GreatOf.l0] at H
  by_cases c5 : x4_1 ≥ 0
  rotate_left
  · rw [if_neg c5] at H
    have c5b0 : decide (0 ≤ x4_1) = false := decide_eq_false c5
    clear c5
    obtain rfl := Option.some.inj H
    have hcv17 := own_string (P := Try.prog) Try.underlying39 Try.underlying5 Try.underlying9 (Kd.own_of_R HO_3.out)
    go_wp2
    go_ret
    exact ⟨by first | rfl | (simp [errW_none, errW_some] <;> rfl) | (simp [*, errW_none, errW_some] <;> rfl), pB_ HB.out⟩

  rw [if_pos c5] at H
  have c5b0 : decide (0 ≤ x4_1) = true := decide_eq_true c5
  clear c5
  obtain ⟨ji6, hji6⟩ : ∃ j_ : Int, (IntKind.u64.wrap (8 * (IntKind.u64.wrap (x4_1)))) = j_ := ⟨_, rfl⟩
  first | rw [hji6] at H | simp only [hji6] at H | skip
  by_cases c7 : 0 ≤ (ji6)
  rotate_left
  · rw [if_neg c7] at H; exact absurd H (by simp)
  rw [if_pos c7] at H
  have c7b0 := eq_true c7
  have c7b1 : decide (0 ≤ (ji6)) = true := decide_eq_true c7
  clear c7
  obtain ⟨ji8, hji8⟩ : ∃ j_ : Int, (shr .i64 a0 (ji6)) = j_ := ⟨_, rfl⟩
  first | rw [hji8] at H | simp only [hji8] at H | skip
  have hji8_ : (a0 / 2 ^ min (ji6).toNat 64) = ji8 := hji8
  have hji8z : (ji6) ≤ 64 → (a0 / 2 ^ (ji6).toNat) = ji8 := shr_small hji8
  by_cases c9 : ((ji8) % 256) = 0
  rotate_left
  · rw [if_neg c9] at H
    have c9b0 : (((ji8) % 256) == 0) = false := beq_eq_false_iff_ne.mpr c9
    have c9b1 : (((ji8) % 256) != 0) = true := bne_iff_ne.mpr c9
    by_cases c15 : x3_1.length < 140737488355328
    rotate_left
    · rw [if_neg c15] at H; exact absurd H (by simp)
    rw [if_pos c15] at H
    have LMc15 := Aside0.mk c15
    clear c15
    obtain ⟨y1088, hy1088⟩ : ∃ y_ : List Int, y_ = (x3_1 ++ [(ji8) % 256]) := ⟨_, rfl⟩
    first | rw [← hy1088] at H | skip
    have Ny1088 := Aside0.mk hy1088
    clear hy1088
    have H' := Aside0.mk H
    clear H
    go_wp2_with (first | ((with_reducible refine gate_builtin (b := .append) (xs := #[.tmp 26, .tmp 28]) rfl ?_); (try (refine gate_guard (by rfl) ?_; dsimp only)); at_builtin; refine Kd.R_append (Kd.int .u8) (w0 := w) w.heap.size rfl (.tmp 26) (.tmp 28) 39 5 (.int .u8 0) 1 rfl Try.underlying39 info5 rfl (by decide) (by omega) u3 x3_1 ((ji8) % 256) [.int .u8 ((ji8) % 256)] (fun _ => True) (fun _ => False) rfl rfl ?aP (fun _ hk => hk.elim) ?aF ?aO ?aB ?aS ?aL ?_; (case aP => exact rfl); (case aB => exact (pB_ HB.out)); (case aF => exact (fun _ _ => trivial)); (case aO => exact (pR_ HO_3.out)); (case aS => exact (below_size (pB_ HB.out))); (case aL => have := LMc15.out; omega); intro v1089 w16 ho hb hg hat; rw [← Ny1088.out] at ho; have n0_ := Aside0.mk (hb); have n1_ := Aside0.mk (ho); clear HB; clear HO_3; have HB := n0_; have HO1090 := n1_; clear n0_ n1_; clear ho hb hg hat))
    go_roundg k1
    case measure => have := HK1.out; omega
    case rel => exact ⟨(y1088), (wrap64 (x4_1 - 1)), (by first | rfl | (simp; done) | (simp [*]; done)), H', ⟨by have := HK1.out; omega⟩, ⟨by (with_reducible repeat (first | apply Kd.R_alloc | apply Kd.R_drewN | apply Kd.R_drew)); exact HO1090.out⟩, ⟨pB_ HB.out⟩⟩
  rw [if_pos c9] at H
  have c9b0 : (((ji8) % 256) == 0) = true := beq_iff_eq.mpr c9
  have c9b1 : (((ji8) % 256) != 0) = false := bne_eq_false_iff_eq.mpr c9
  clear c9
  by_cases c10 : (x3_1.length : Int) > 0
  rotate_left
  · rw [if_neg c10] at H
    have c10b0 : decide (0 < (x3_1.length : Int)) = false := decide_eq_false c10
    have c10b1 : decide (0 < x3_1.length) = false := decide_eq_false (by omega)
    clear c10
    have H' := Aside0.mk H
    clear H
    obtain ⟨Ao14, co14, eo14⟩ := Kd.R_slice HO_3.out
    subst eo14
    go_wp2
    go_roundg k1
    case measure => have := HK1.out; omega
    case rel => exact ⟨(x3_1), (wrap64 (x4_1 - 1)), (by first | rfl | (simp; done) | (simp [*]; done)), H', ⟨by have := HK1.out; omega⟩, ⟨by (with_reducible repeat (first | apply Kd.R_alloc | apply Kd.R_drewN | apply Kd.R_drew)); exact HO_3.out⟩, ⟨pB_ HB.out⟩⟩
  rw [if_pos c10] at H
  have c10b0 : decide (0 < (x3_1.length : Int)) = true := decide_eq_true c10
  have c10b1 : decide (0 < x3_1.length) = true := decide_eq_true (by omega)
  clear c10
  by_cases c11 : x3_1.length < 140737488355328
  rotate_left
  · rw [if_neg c11] at H; exact absurd H (by simp)
  rw [if_pos c11] at H
  have LMc11 := Aside0.mk c11
  clear c11
  obtain ⟨y1085, hy1085⟩ : ∃ y_ : List Int, y_ = (x3_1 ++ [(ji8) % 256]) := ⟨_, rfl⟩
  first | rw [← hy1085] at H | skip
  have Ny1085 := Aside0.mk hy1085
  clear hy1085
  have H' := Aside0.mk H
  clear H
  obtain ⟨Ao12, co12, eo12⟩ := Kd.R_slice HO_3.out
  subst eo12
  go_wp2_with (first | ((with_reducible refine gate_builtin (b := .append) (xs := #[.tmp 26, .tmp 28]) rfl ?_); (try (refine gate_guard (by rfl) ?_; dsimp only)); at_builtin; refine Kd.R_append (Kd.int .u8) (w0 := w) w.heap.size rfl (.tmp 26) (.tmp 28) 39 5 (.int .u8 0) 1 rfl Try.underlying39 info5 rfl (by decide) (by omega) (.slice Ao12 x3_1.length co12) x3_1 ((ji8) % 256) [.int .u8 ((ji8) % 256)] (fun _ => True) (fun _ => False) rfl rfl ?aP (fun _ hk => hk.elim) ?aF ?aO ?aB ?aS ?aL ?_; (case aP => exact rfl); (case aB => exact (pB_ HB.out)); (case aF => exact (fun _ _ => trivial)); (case aO => exact (pR_ HO_3.out)); (case aS => exact (below_size (pB_ HB.out))); (case aL => have := LMc11.out; omega); intro v1086 w13 ho hb hg hat; rw [← Ny1085.out] at ho; have n0_ := Aside0.mk (hb); have n1_ := Aside0.mk (ho); clear HB; clear HO_3; have HB := n0_; have HO1087 := n1_; clear n0_ n1_; clear ho hb hg hat))
  go_roundg k1
  case measure => have := HK1.out; omega
  case rel => exact ⟨(y1085), (wrap64 (x4_1 - 1)), (by first | rfl | (simp; done) | (simp [*]; done)), H', ⟨by have := HK1.out; omega⟩, ⟨by (with_reducible repeat (first | apply Kd.R_alloc | apply Kd.R_drewN | apply Kd.R_drew)); exact HO1087.out⟩, ⟨pB_ HB.out⟩⟩

/-! ### spec_l02Great: function 107 -/
def spec_l02Great.f (k : Nat) (s0_0 : List Int) (s0_1 : Int) (s0_2 : Int) : Option (ByteArray × Int × Int) := (spec_l01Below.f s0_0 s0_1 s0_2 8).bind fun bt1091 => (if bt1091.1 = 0 then ((spec_l01Below.f s0_0 bt1091.2.1 bt1091.2.2 50).bind fun bt1094 => ((spec_l01Text.f k s0_0 bt1094.2.1 bt1094.2.2 bt1094.1).bind fun bt1097 => ((spec_l02In.f k bt1097.1).bind fun t1100 => ((spec_l02Out.f k t1100).bind fun t1103 => ((spec_l02Bound.f t1103).bind fun t1104 => (some (t1104, bt1097.2.1, bt1097.2.2))))))) else (if bt1091.1 = 1 then ((spec_l01Long.f k 160 255).bind fun t1105 => ((spec_l01Long.f k 80 255).bind fun t1106 => ((spec_l01Long.f k 48 255).bind fun t1107 => ((spec_l01Pick.f s0_0 bt1091.2.1 bt1091.2.2 (([(⟨#[]⟩ : ByteArray), (⟨#[1]⟩ : ByteArray), (⟨#[255]⟩ : ByteArray), (⟨#[1, 0]⟩ : ByteArray), (⟨#[255, 255, 255]⟩ : ByteArray), (⟨#[1, 0, 0, 0]⟩ : ByteArray), (⟨#[127, 255, 255, 255, 255, 255, 255, 255]⟩ : ByteArray), (⟨#[128, 0, 0, 0, 0, 0, 0, 0]⟩ : ByteArray), (⟨#[255, 255, 255, 255, 255, 255]⟩ : ByteArray), t1105, t1106, t1107] : List ByteArray))).bind fun bt1111 => (some (bt1111.1, bt1111.2.1, bt1111.2.2)))))) else (if bt1091.1 = 2 then ((spec_l01Below.f s0_0 bt1091.2.1 bt1091.2.2 20).bind fun bt1114 => ((spec_l01Long.f k bt1114.1 0).bind fun t1117 => (if 1 + t1117.size ≤ 9223372036854775807 then (some ((⟨#[128]⟩ : ByteArray) ++ t1117, bt1114.2.1, bt1114.2.2)) else (none)))) else (if bt1091.1 = 3 then ((spec_l01Below.f s0_0 bt1091.2.1 bt1091.2.2 9).bind fun bt1118 => ((spec_l01Text.f k s0_0 bt1118.2.1 bt1118.2.2 bt1118.1).bind fun bt1121 => ((spec_l02In.f k bt1121.1).bind fun t1124 => ((spec_l02Out.f k t1124).bind fun t1127 => ((spec_l02Bound.f t1127).bind fun t1128 => (some (t1128, bt1121.2.1, bt1121.2.2))))))) else ((spec_l01Below.f s0_0 bt1091.2.1 bt1091.2.2 100000).bind fun bt1129 => ((spec_GreatOf.f k bt1129.1).bind fun t1132 => (some (t1132, bt1129.2.1, bt1129.2.2))))))))
set_option maxHeartbeats 8000000 in
set_option maxRecDepth 100000 in
theorem spec_l02Great.calls (k : Nat) (g : Nat) (s0_0 : List Int) (s0_1 : Int) (s0_2 : Int) (r1 : ByteArray) (r2 : Int) (r3 : Int) (w0 w : World) (hI : IsS105 w0 w g s0_0 s0_1 s0_2) (hB : Below w0.heap.size w0 w) (h : spec_l02Great.f k s0_0 s0_1 s0_2 = some (r1, r2, r3)) :
    Calls Try.prog 107 #[.pointer (some ⟨g, 0, none⟩)] w fun e w' => e = .returned (.string r1) ∧ IsS105 w0 w' g s0_0 r2 r3 ∧ Below w0.heap.size w0 w' ∧ KeepBut w w' g none := by
  have HI0 := Aside0.mk hI
  have HK := Aside0.mk (KeepBut.refl w g none)
  have HL := Aside0.mk hB.size
  clear hI
  have HW0 := Aside0.mk hB.size
  have HB := Aside0.mk hB
  clear hB
  have H : ((spec_l01Below.f s0_0 s0_1 s0_2 8).bind fun bt1091 => (if bt1091.1 = 0 then ((spec_l01Below.f s0_0 bt1091.2.1 bt1091.2.2 50).bind fun bt1094 => ((spec_l01Text.f k s0_0 bt1094.2.1 bt1094.2.2 bt1094.1).bind fun bt1097 => ((spec_l02In.f k bt1097.1).bind fun t1100 => ((spec_l02Out.f k t1100).bind fun t1103 => ((spec_l02Bound.f t1103).bind fun t1104 => (some (t1104, bt1097.2.1, bt1097.2.2))))))) else (if bt1091.1 = 1 then ((spec_l01Long.f k 160 255).bind fun t1105 => ((spec_l01Long.f k 80 255).bind fun t1106 => ((spec_l01Long.f k 48 255).bind fun t1107 => ((spec_l01Pick.f s0_0 bt1091.2.1 bt1091.2.2 (([(⟨#[]⟩ : ByteArray), (⟨#[1]⟩ : ByteArray), (⟨#[255]⟩ : ByteArray), (⟨#[1, 0]⟩ : ByteArray), (⟨#[255, 255, 255]⟩ : ByteArray), (⟨#[1, 0, 0, 0]⟩ : ByteArray), (⟨#[127, 255, 255, 255, 255, 255, 255, 255]⟩ : ByteArray), (⟨#[128, 0, 0, 0, 0, 0, 0, 0]⟩ : ByteArray), (⟨#[255, 255, 255, 255, 255, 255]⟩ : ByteArray), t1105, t1106, t1107] : List ByteArray))).bind fun bt1111 => (some (bt1111.1, bt1111.2.1, bt1111.2.2)))))) else (if bt1091.1 = 2 then ((spec_l01Below.f s0_0 bt1091.2.1 bt1091.2.2 20).bind fun bt1114 => ((spec_l01Long.f k bt1114.1 0).bind fun t1117 => (if 1 + t1117.size ≤ 9223372036854775807 then (some ((⟨#[128]⟩ : ByteArray) ++ t1117, bt1114.2.1, bt1114.2.2)) else (none)))) else (if bt1091.1 = 3 then ((spec_l01Below.f s0_0 bt1091.2.1 bt1091.2.2 9).bind fun bt1118 => ((spec_l01Text.f k s0_0 bt1118.2.1 bt1118.2.2 bt1118.1).bind fun bt1121 => ((spec_l02In.f k bt1121.1).bind fun t1124 => ((spec_l02Out.f k t1124).bind fun t1127 => ((spec_l02Bound.f t1127).bind fun t1128 => (some (t1128, bt1121.2.1, bt1121.2.2))))))) else ((spec_l01Below.f s0_0 bt1091.2.1 bt1091.2.2 100000).bind fun bt1129 => ((spec_GreatOf.f k bt1129.1).bind fun t1132 => (some (t1132, bt1129.2.1, bt1129.2.2))))))))) = some (r1, r2, r3) := h
  clear h
  replace H := Option.bind_eq_some_iff.mp H
  obtain ⟨⟨t1091, t1092, t1093⟩, A20, H⟩ := H
  replace H : (if t1091 = 0 then ((spec_l01Below.f s0_0 t1092 t1093 50).bind fun bt1094 => ((spec_l01Text.f k s0_0 bt1094.2.1 bt1094.2.2 bt1094.1).bind fun bt1097 => ((spec_l02In.f k bt1097.1).bind fun t1100 => ((spec_l02Out.f k t1100).bind fun t1103 => ((spec_l02Bound.f t1103).bind fun t1104 => (some (t1104, bt1097.2.1, bt1097.2.2))))))) else (if t1091 = 1 then ((spec_l01Long.f k 160 255).bind fun t1105 => ((spec_l01Long.f k 80 255).bind fun t1106 => ((spec_l01Long.f k 48 255).bind fun t1107 => ((spec_l01Pick.f s0_0 t1092 t1093 (([(⟨#[]⟩ : ByteArray), (⟨#[1]⟩ : ByteArray), (⟨#[255]⟩ : ByteArray), (⟨#[1, 0]⟩ : ByteArray), (⟨#[255, 255, 255]⟩ : ByteArray), (⟨#[1, 0, 0, 0]⟩ : ByteArray), (⟨#[127, 255, 255, 255, 255, 255, 255, 255]⟩ : ByteArray), (⟨#[128, 0, 0, 0, 0, 0, 0, 0]⟩ : ByteArray), (⟨#[255, 255, 255, 255, 255, 255]⟩ : ByteArray), t1105, t1106, t1107] : List ByteArray))).bind fun bt1111 => (some (bt1111.1, bt1111.2.1, bt1111.2.2)))))) else (if t1091 = 2 then ((spec_l01Below.f s0_0 t1092 t1093 20).bind fun bt1114 => ((spec_l01Long.f k bt1114.1 0).bind fun t1117 => (if 1 + t1117.size ≤ 9223372036854775807 then (some ((⟨#[128]⟩ : ByteArray) ++ t1117, bt1114.2.1, bt1114.2.2)) else (none)))) else (if t1091 = 3 then ((spec_l01Below.f s0_0 t1092 t1093 9).bind fun bt1118 => ((spec_l01Text.f k s0_0 bt1118.2.1 bt1118.2.2 bt1118.1).bind fun bt1121 => ((spec_l02In.f k bt1121.1).bind fun t1124 => ((spec_l02Out.f k t1124).bind fun t1127 => ((spec_l02Bound.f t1127).bind fun t1128 => (some (t1128, bt1121.2.1, bt1121.2.2))))))) else ((spec_l01Below.f s0_0 t1092 t1093 100000).bind fun bt1129 => ((spec_GreatOf.f k bt1129.1).bind fun t1132 => (some (t1132, bt1129.2.1, bt1129.2.2)))))))) = some (r1, r2, r3) := H
  have A2 := Aside0.mk A20
  clear A20
  by_cases c3 : t1091 = 0
  · rw [if_pos c3] at H
    have c3b0 : (t1091 == 0) = true := beq_iff_eq.mpr c3
    have c3b1 : (t1091 != 0) = false := bne_eq_false_iff_eq.mpr c3
    clear c3
    replace H := Option.bind_eq_some_iff.mp H
    obtain ⟨⟨t1094, t1095, t1096⟩, A40, H⟩ := H
    replace H : ((spec_l01Text.f k s0_0 t1095 t1096 t1094).bind fun bt1097 => ((spec_l02In.f k bt1097.1).bind fun t1100 => ((spec_l02Out.f k t1100).bind fun t1103 => ((spec_l02Bound.f t1103).bind fun t1104 => (some (t1104, bt1097.2.1, bt1097.2.2)))))) = some (r1, r2, r3) := H
    have A4 := Aside0.mk A40
    clear A40
    replace H := Option.bind_eq_some_iff.mp H
    obtain ⟨⟨t1097, t1098, t1099⟩, A50, H⟩ := H
    replace H : ((spec_l02In.f k t1097).bind fun t1100 => ((spec_l02Out.f k t1100).bind fun t1103 => ((spec_l02Bound.f t1103).bind fun t1104 => (some (t1104, t1098, t1099))))) = some (r1, r2, r3) := H
    have A5 := Aside0.mk A50
    clear A50
    replace H := Option.bind_eq_some_iff.mp H
    obtain ⟨t1100, A60, H⟩ := H
    have A6 := Aside0.mk A60
    clear A60
    replace H := Option.bind_eq_some_iff.mp H
    obtain ⟨t1103, A70, H⟩ := H
    have A7 := Aside0.mk A70
    clear A70
    replace H := Option.bind_eq_some_iff.mp H
    obtain ⟨t1104, A80, H⟩ := H
    have A8 := Aside0.mk A80
    clear A80
    simp only [Option.some.injEq, Prod.mk.injEq] at H
    obtain ⟨rfl, rfl, rfl⟩ := H
    go_enter Try.func107, Try.ntmps107
    go_wp2_with (first | ((with_reducible refine gate_callee (f := 79) rfl ?_); refine gL_ 6 Try.func79 rfl #[.pointer (some ⟨g, 0, none⟩), .int .i64 8] ?_; (with_reducible refine (spec_l01Below.calls g s0_0 s0_1 s0_2 8 t1091 t1092 t1093 w0 _ ?side1 ?side2 A2.out).mono ?_); (case side1 => repeat (first | (with_reducible first | exact HI0.out | apply IsS105.alloc | apply IsS105.drewN | apply IsS105.drew | apply IsS105.set_1 | apply IsS105.set_2) | exact HI0.out)); (case side2 => repeat (first | (with_reducible first | exact HB.out | apply below_alloc | apply pw_below_drewN | apply below_drew1 | refine below_set ?_ (IsS105.ge HI0.out)) | exact HB.out)); rintro e w9 ⟨rfl, hi, hb, hk⟩; refine ⟨_, rfl, ?_⟩; replace HK := Aside0.mk (KeepBut.trans (by repeat (first | (with_reducible first | exact HK.out | apply KeepBut.set_ | apply keep_drewN | apply keep_drew | apply keep_alloc) | exact HK.out)) hk (.inl rfl)); replace HB := Aside0.mk (hb); replace HI0 := Aside0.mk (hi); clear hb hk hi) | ((with_reducible refine gate_callee (f := 79) rfl ?_); refine gL_ 11 Try.func79 rfl #[.pointer (some ⟨g, 0, none⟩), .int .i64 50] ?_; (with_reducible refine (spec_l01Below.calls g s0_0 t1092 t1093 50 t1094 t1095 t1096 w0 _ ?side1 ?side2 A4.out).mono ?_); (case side1 => repeat (first | (with_reducible first | exact HI0.out | apply IsS105.alloc | apply IsS105.drewN | apply IsS105.drew | apply IsS105.set_1 | apply IsS105.set_2) | exact HI0.out)); (case side2 => repeat (first | (with_reducible first | exact HB.out | apply below_alloc | apply pw_below_drewN | apply below_drew1 | refine below_set ?_ (IsS105.ge HI0.out)) | exact HB.out)); rintro e w10 ⟨rfl, hi, hb, hk⟩; refine ⟨_, rfl, ?_⟩; replace HK := Aside0.mk (KeepBut.trans (by repeat (first | (with_reducible first | exact HK.out | apply KeepBut.set_ | apply keep_drewN | apply keep_drew | apply keep_alloc) | exact HK.out)) hk (.inl rfl)); replace HB := Aside0.mk (hb); replace HI0 := Aside0.mk (hi); clear hb hk hi) | ((with_reducible refine gate_callee (f := 118) rfl ?_); refine gL_ 12 Try.func118 rfl #[.pointer (some ⟨g, 0, none⟩), .int .i64 t1094] ?_; (with_reducible refine (spec_l01Text.calls k g s0_0 t1095 t1096 t1094 t1097 t1098 t1099 w0 _ ?side1 ?side2 A5.out).mono ?_); (case side1 => repeat (first | (with_reducible first | exact HI0.out | apply IsS105.alloc | apply IsS105.drewN | apply IsS105.drew | apply IsS105.set_1 | apply IsS105.set_2) | exact HI0.out)); (case side2 => repeat (first | (with_reducible first | exact HB.out | apply below_alloc | apply pw_below_drewN | apply below_drew1 | refine below_set ?_ (IsS105.ge HI0.out)) | exact HB.out)); rintro e w11 ⟨rfl, hi, hb, hk⟩; refine ⟨_, rfl, ?_⟩; replace HK := Aside0.mk (KeepBut.trans (by repeat (first | (with_reducible first | exact HK.out | apply KeepBut.set_ | apply keep_drewN | apply keep_drew | apply keep_alloc) | exact HK.out)) hk (.inl rfl)); replace HB := Aside0.mk (hb); replace HI0 := Aside0.mk (hi); clear hb hk hi) | ((with_reducible refine gate_callee (f := 62) rfl ?_); refine gL_ 13 Try.func62 rfl #[.string t1097] ?_; (with_reducible refine (spec_l02In.calls k t1097 t1100 _ A6.out).mono ?_); rintro e w12 ⟨v1101, rfl, ho0, hb⟩; refine ⟨_, rfl, ?_⟩; have HO1102 := Aside0.mk (Kd.V_lower (Kd.V_mono (ok' := fun k_ => k_ ≠ g) ho0 (fun k_ hk_ => (IsS105.fresh (by repeat (first | (with_reducible first | exact HI0.out | apply IsS105.alloc | apply IsS105.drewN | apply IsS105.drew | apply IsS105.set_1 | apply IsS105.set_2) | exact HI0.out)) k_ hk_))) (keep_size (w := w) (g := g) (row := none) (by repeat (first | (with_reducible first | exact HK.out | apply KeepBut.set_ | apply keep_drewN | apply keep_drew | apply keep_alloc) | exact HK.out)))); replace HK := Aside0.mk (KeepBut.trans (by repeat (first | (with_reducible first | exact HK.out | apply KeepBut.set_ | apply keep_drewN | apply keep_drew | apply keep_alloc) | exact HK.out)) (KeepBut.of_below hb g none) (.inl rfl)); replace HB := Aside0.mk (below_step (by repeat (first | (with_reducible first | exact HB.out | apply below_alloc | apply pw_below_drewN | apply below_drew1 | refine below_set ?_ (IsS105.ge HI0.out)) | exact HB.out)) hb); replace HI0 := Aside0.mk (IsS105.below (by repeat (first | (with_reducible first | exact HI0.out | apply IsS105.alloc | apply IsS105.drewN | apply IsS105.drew | apply IsS105.set_1 | apply IsS105.set_2) | exact HI0.out)) hb); clear hb ho0; obtain ⟨Ao13, co13, eo13⟩ := Kd.V_slice HO1102.out; subst eo13) | ((with_reducible refine gate_callee (f := 60) rfl ?_); refine gL_ 14 Try.func60 rfl #[.slice Ao13 t1100.length co13] ?_; (with_reducible refine (spec_l02Out.calls k _ _ t1100 t1103 _ ?side1 ?side2 A7.out).mono ?_); (case side1 => exact pC_ (Kd.V_reads' HO1102.out).2.2); (case side2 => exact (Kd.V_reads' HO1102.out).2.1); rintro e w14 ⟨rfl, hb⟩; refine ⟨_, rfl, ?_⟩; replace HO1102 := Aside0.mk (Kd.V_below (pV_ HO1102.out) hb); replace HK := Aside0.mk (KeepBut.trans (by repeat (first | (with_reducible first | exact HK.out | apply KeepBut.set_ | apply keep_drewN | apply keep_drew | apply keep_alloc) | exact HK.out)) (KeepBut.of_below hb g none) (.inl rfl)); replace HB := Aside0.mk (below_step (by repeat (first | (with_reducible first | exact HB.out | apply below_alloc | apply pw_below_drewN | apply below_drew1 | refine below_set ?_ (IsS105.ge HI0.out)) | exact HB.out)) hb); replace HI0 := Aside0.mk (IsS105.below (by repeat (first | (with_reducible first | exact HI0.out | apply IsS105.alloc | apply IsS105.drewN | apply IsS105.drew | apply IsS105.set_1 | apply IsS105.set_2) | exact HI0.out)) hb); clear hb) | ((with_reducible refine gate_callee (f := 106) rfl ?_); refine gL_ 15 Try.func106 rfl #[.string t1103] ?_; (with_reducible refine (spec_l02Bound.calls t1103 t1104 _ A8.out).mono ?_); rintro e w' ⟨rfl, ⟨nd, rfl⟩⟩; refine ⟨_, rfl, ?_⟩))
    go_ret
    exact ⟨by first | rfl | (simp [errW_none, errW_some] <;> rfl) | (simp [*, errW_none, errW_some] <;> rfl), by repeat (first | (with_reducible first | exact HI0.out | apply IsS105.alloc | apply IsS105.drewN | apply IsS105.drew | apply IsS105.set_1 | apply IsS105.set_2) | exact HI0.out), by repeat (first | (with_reducible first | exact HB.out | apply below_alloc | apply pw_below_drewN | apply below_drew1 | refine below_set ?_ (IsS105.ge HI0.out)) | exact HB.out), by repeat (first | (with_reducible first | exact HK.out | apply KeepBut.set_ | apply keep_drewN | apply keep_drew | apply keep_alloc) | exact HK.out)⟩
  rw [if_neg c3] at H
  have c3b0 : (t1091 == 0) = false := beq_eq_false_iff_ne.mpr c3
  have c3b1 : (t1091 != 0) = true := bne_iff_ne.mpr c3
  by_cases c15 : t1091 = 1
  · rw [if_pos c15] at H
    have c15b0 : (t1091 == 1) = true := beq_iff_eq.mpr c15
    have c15b1 : (t1091 != 1) = false := bne_eq_false_iff_eq.mpr c15
    clear c15
    replace H := Option.bind_eq_some_iff.mp H
    obtain ⟨t1105, A160, H⟩ := H
    have A16 := Aside0.mk A160
    clear A160
    replace H := Option.bind_eq_some_iff.mp H
    obtain ⟨t1106, A170, H⟩ := H
    have A17 := Aside0.mk A170
    clear A170
    replace H := Option.bind_eq_some_iff.mp H
    obtain ⟨t1107, A180, H⟩ := H
    have A18 := Aside0.mk A180
    clear A180
    obtain ⟨y1108, hy1108⟩ : ∃ y_ : List ByteArray, y_ = (([(⟨#[]⟩ : ByteArray), (⟨#[1]⟩ : ByteArray), (⟨#[255]⟩ : ByteArray), (⟨#[1, 0]⟩ : ByteArray), (⟨#[255, 255, 255]⟩ : ByteArray), (⟨#[1, 0, 0, 0]⟩ : ByteArray), (⟨#[127, 255, 255, 255, 255, 255, 255, 255]⟩ : ByteArray), (⟨#[128, 0, 0, 0, 0, 0, 0, 0]⟩ : ByteArray), (⟨#[255, 255, 255, 255, 255, 255]⟩ : ByteArray), t1105, t1106, t1107] : List ByteArray)) := ⟨_, rfl⟩
    replace H : ((spec_l01Pick.f s0_0 t1092 t1093 y1108).bind fun bt1111 => (some (bt1111.1, bt1111.2.1, bt1111.2.2))) = some (r1, r2, r3) := by first | (rw [hy1108]; with_reducible exact H) | (have H2_ := (Option.bind_some _ _).symm.trans H; rw [hy1108]; with_reducible exact H2_) | (have H2_ := (Option.bind_some _ _).symm.trans H; with_reducible exact H2_) | with_reducible exact H | (rw [hy1108]; exact H) | exact H
    have Ny1108 := Aside0.mk hy1108
    clear hy1108
    replace H := Option.bind_eq_some_iff.mp H
    obtain ⟨⟨t1111, t1112, t1113⟩, A190, H⟩ := H
    replace H : (some (t1111, t1112, t1113)) = some (r1, r2, r3) := H
    have A19 := Aside0.mk A190
    clear A190
    simp only [Option.some.injEq, Prod.mk.injEq] at H
    obtain ⟨rfl, rfl, rfl⟩ := H
    go_enter Try.func107, Try.ntmps107
    go_wp2_with (first | ((with_reducible refine gate_callee (f := 79) rfl ?_); refine gL_ 6 Try.func79 rfl #[.pointer (some ⟨g, 0, none⟩), .int .i64 8] ?_; (with_reducible refine (spec_l01Below.calls g s0_0 s0_1 s0_2 8 t1091 t1092 t1093 w0 _ ?side1 ?side2 A2.out).mono ?_); (case side1 => repeat (first | (with_reducible first | exact HI0.out | apply IsS105.alloc | apply IsS105.drewN | apply IsS105.drew | apply IsS105.set_1 | apply IsS105.set_2) | exact HI0.out)); (case side2 => repeat (first | (with_reducible first | exact HB.out | apply below_alloc | apply pw_below_drewN | apply below_drew1 | refine below_set ?_ (IsS105.ge HI0.out)) | exact HB.out)); rintro e w20 ⟨rfl, hi, hb, hk⟩; refine ⟨_, rfl, ?_⟩; replace HK := Aside0.mk (KeepBut.trans (by repeat (first | (with_reducible first | exact HK.out | apply KeepBut.set_ | apply keep_drewN | apply keep_drew | apply keep_alloc) | exact HK.out)) hk (.inl rfl)); replace HB := Aside0.mk (hb); replace HI0 := Aside0.mk (hi); clear hb hk hi) | ((with_reducible refine gate_callee (f := 116) rfl ?_); refine gL_ 19 Try.func116 rfl #[.int .i64 160, .int .u8 255] ?_; (with_reducible refine (spec_l01Long.calls k 160 255 t1105 _ A16.out).mono ?_); rintro e w21 ⟨rfl, hb⟩; refine ⟨_, rfl, ?_⟩; replace HK := Aside0.mk (KeepBut.trans (by repeat (first | (with_reducible first | exact HK.out | apply KeepBut.set_ | apply keep_drewN | apply keep_drew | apply keep_alloc) | exact HK.out)) (KeepBut.of_below hb g none) (.inl rfl)); replace HB := Aside0.mk (below_step (by repeat (first | (with_reducible first | exact HB.out | apply below_alloc | apply pw_below_drewN | apply below_drew1 | refine below_set ?_ (IsS105.ge HI0.out)) | exact HB.out)) hb); replace HI0 := Aside0.mk (IsS105.below (by repeat (first | (with_reducible first | exact HI0.out | apply IsS105.alloc | apply IsS105.drewN | apply IsS105.drew | apply IsS105.set_1 | apply IsS105.set_2) | exact HI0.out)) hb); clear hb) | ((with_reducible refine gate_callee (f := 116) rfl ?_); refine gL_ 20 Try.func116 rfl #[.int .i64 80, .int .u8 255] ?_; (with_reducible refine (spec_l01Long.calls k 80 255 t1106 _ A17.out).mono ?_); rintro e w22 ⟨rfl, hb⟩; refine ⟨_, rfl, ?_⟩; replace HK := Aside0.mk (KeepBut.trans (by repeat (first | (with_reducible first | exact HK.out | apply KeepBut.set_ | apply keep_drewN | apply keep_drew | apply keep_alloc) | exact HK.out)) (KeepBut.of_below hb g none) (.inl rfl)); replace HB := Aside0.mk (below_step (by repeat (first | (with_reducible first | exact HB.out | apply below_alloc | apply pw_below_drewN | apply below_drew1 | refine below_set ?_ (IsS105.ge HI0.out)) | exact HB.out)) hb); replace HI0 := Aside0.mk (IsS105.below (by repeat (first | (with_reducible first | exact HI0.out | apply IsS105.alloc | apply IsS105.drewN | apply IsS105.drew | apply IsS105.set_1 | apply IsS105.set_2) | exact HI0.out)) hb); clear hb) | ((with_reducible refine gate_callee (f := 116) rfl ?_); refine gL_ 21 Try.func116 rfl #[.int .i64 48, .int .u8 255] ?_; (with_reducible refine (spec_l01Long.calls k 48 255 t1107 _ A18.out).mono ?_); rintro e w23 ⟨rfl, hb⟩; refine ⟨_, rfl, ?_⟩; replace HK := Aside0.mk (KeepBut.trans (by repeat (first | (with_reducible first | exact HK.out | apply KeepBut.set_ | apply keep_drewN | apply keep_drew | apply keep_alloc) | exact HK.out)) (KeepBut.of_below hb g none) (.inl rfl)); replace HB := Aside0.mk (below_step (by repeat (first | (with_reducible first | exact HB.out | apply below_alloc | apply pw_below_drewN | apply below_drew1 | refine below_set ?_ (IsS105.ge HI0.out)) | exact HB.out)) hb); replace HI0 := Aside0.mk (IsS105.below (by repeat (first | (with_reducible first | exact HI0.out | apply IsS105.alloc | apply IsS105.drewN | apply IsS105.drew | apply IsS105.set_1 | apply IsS105.set_2) | exact HI0.out)) hb); clear hb) | ((with_reducible refine gate_dst (N := 22) rfl ?_); refine Kd.R_lit Kd.string _ 9 ?hg (N := 22) ?hd (xs := ([(⟨#[]⟩ : ByteArray), (⟨#[1]⟩ : ByteArray), (⟨#[255]⟩ : ByteArray), (⟨#[1, 0]⟩ : ByteArray), (⟨#[255, 255, 255]⟩ : ByteArray), (⟨#[1, 0, 0, 0]⟩ : ByteArray), (⟨#[127, 255, 255, 255, 255, 255, 255, 255]⟩ : ByteArray), (⟨#[128, 0, 0, 0, 0, 0, 0, 0]⟩ : ByteArray), (⟨#[255, 255, 255, 255, 255, 255]⟩ : ByteArray), t1105, t1106, t1107] : List ByteArray)) (inner := [.string (⟨#[]⟩ : ByteArray), .string (⟨#[1]⟩ : ByteArray), .string (⟨#[255]⟩ : ByteArray), .string (⟨#[1, 0]⟩ : ByteArray), .string (⟨#[255, 255, 255]⟩ : ByteArray), .string (⟨#[1, 0, 0, 0]⟩ : ByteArray), .string (⟨#[127, 255, 255, 255, 255, 255, 255, 255]⟩ : ByteArray), .string (⟨#[128, 0, 0, 0, 0, 0, 0, 0]⟩ : ByteArray), .string (⟨#[255, 255, 255, 255, 255, 255]⟩ : ByteArray), .string t1105, .string t1106, .string t1107]) (ok := fun _ => True) (okp := fun _ => True) ?hr ?hp (fun _ hk => hk) trivial (Below.refl _ _) (Nat.le_refl _) (by simp) ?_; (case hd => rfl); (case hg => rfl); (case hr => first | (go_simp; done) | (go_simp; rfl)); (case hp => exact (Reps.one (show Kd.M Kd.string _ _ _ (⟨#[]⟩ : ByteArray) [.string (⟨#[]⟩ : ByteArray)] from rfl) (Reps.one (show Kd.M Kd.string _ _ _ (⟨#[1]⟩ : ByteArray) [.string (⟨#[1]⟩ : ByteArray)] from rfl) (Reps.one (show Kd.M Kd.string _ _ _ (⟨#[255]⟩ : ByteArray) [.string (⟨#[255]⟩ : ByteArray)] from rfl) (Reps.one (show Kd.M Kd.string _ _ _ (⟨#[1, 0]⟩ : ByteArray) [.string (⟨#[1, 0]⟩ : ByteArray)] from rfl) (Reps.one (show Kd.M Kd.string _ _ _ (⟨#[255, 255, 255]⟩ : ByteArray) [.string (⟨#[255, 255, 255]⟩ : ByteArray)] from rfl) (Reps.one (show Kd.M Kd.string _ _ _ (⟨#[1, 0, 0, 0]⟩ : ByteArray) [.string (⟨#[1, 0, 0, 0]⟩ : ByteArray)] from rfl) (Reps.one (show Kd.M Kd.string _ _ _ (⟨#[127, 255, 255, 255, 255, 255, 255, 255]⟩ : ByteArray) [.string (⟨#[127, 255, 255, 255, 255, 255, 255, 255]⟩ : ByteArray)] from rfl) (Reps.one (show Kd.M Kd.string _ _ _ (⟨#[128, 0, 0, 0, 0, 0, 0, 0]⟩ : ByteArray) [.string (⟨#[128, 0, 0, 0, 0, 0, 0, 0]⟩ : ByteArray)] from rfl) (Reps.one (show Kd.M Kd.string _ _ _ (⟨#[255, 255, 255, 255, 255, 255]⟩ : ByteArray) [.string (⟨#[255, 255, 255, 255, 255, 255]⟩ : ByteArray)] from rfl) (Reps.one (show Kd.M Kd.string _ _ _ t1105 [.string t1105] from rfl) (Reps.one (show Kd.M Kd.string _ _ _ t1106 [.string t1106] from rfl) (Reps.one (show Kd.M Kd.string _ _ _ t1107 [.string t1107] from rfl) (Reps.none _ _)))))))))))))); intro v1109 w24 ho25 hb hg_ hnew_; clear hg_ hnew_; (first | rw [← Ny1108.out] at ho25 | (simp only [Int.reduceToNat] at ho25; rw [← Ny1108.out] at ho25)); have HO1110 := Aside0.mk (Kd.R_lower ho25 (keep_size (w := w) (g := g) (row := none) (by repeat (first | (with_reducible first | exact HK.out | apply KeepBut.set_ | apply keep_drewN | apply keep_drew | apply keep_alloc) | exact HK.out)))); replace HK := Aside0.mk (KeepBut.trans (by repeat (first | (with_reducible first | exact HK.out | apply KeepBut.set_ | apply keep_drewN | apply keep_drew | apply keep_alloc) | exact HK.out)) (KeepBut.of_below hb g none) (.inl rfl)); replace HB := Aside0.mk (below_step (by repeat (first | (with_reducible first | exact HB.out | apply below_alloc | apply pw_below_drewN | apply below_drew1 | refine below_set ?_ (IsS105.ge HI0.out)) | exact HB.out)) hb); replace HI0 := Aside0.mk (IsS105.below (by repeat (first | (with_reducible first | exact HI0.out | apply IsS105.alloc | apply IsS105.drewN | apply IsS105.drew | apply IsS105.set_1 | apply IsS105.set_2) | exact HI0.out)) hb); clear hb ho25; obtain ⟨Ao26, co26, eo26⟩ := Kd.R_slice HO1110.out; subst eo26) | ((with_reducible refine gate_callee (f := 115) rfl ?_); refine gL_ 23 Try.func115 rfl #[.pointer (some ⟨g, 0, none⟩), .slice Ao26 y1108.length co26] ?_; (with_reducible refine (spec_l01Pick.calls g s0_0 t1092 t1093 _ _ y1108 t1111 t1112 t1113 w0 _ ?side1 ?side2 ?side3 ?side4 ?side5 A19.out).mono ?_); (case side1 => repeat (first | (with_reducible first | exact HI0.out | apply IsS105.alloc | apply IsS105.drewN | apply IsS105.drew | apply IsS105.set_1 | apply IsS105.set_2) | exact HI0.out)); (case side2 => repeat (first | (with_reducible first | exact HB.out | apply below_alloc | apply pw_below_drewN | apply below_drew1 | refine below_set ?_ (IsS105.ge HI0.out)) | exact HB.out)); (case side3 => exact pC_ (Kd.R_reads' HO1110.out).2.2); (case side4 => exact (Kd.R_reads' HO1110.out).2.1); (case side5 => exact far_slice (IsS105.own_ne HI0.out HO1110.out (by decide))); rintro e w27 ⟨rfl, hi, hb, hk⟩; refine ⟨_, rfl, ?_⟩; replace HO1110 := Aside0.mk (Kd.R_mono (Kd.R_keep (IsS105.apart (show IsS105 w0 _ g s0_0 t1092 t1093 from by repeat (first | (with_reducible first | exact HI0.out | apply IsS105.alloc | apply IsS105.drewN | apply IsS105.drew | apply IsS105.set_1 | apply IsS105.set_2) | exact HI0.out)) (pR_ HO1110.out) (by decide)) hk (fun _ h => h.2)) (fun _ h => h.1)); replace HK := Aside0.mk (KeepBut.trans (by repeat (first | (with_reducible first | exact HK.out | apply KeepBut.set_ | apply keep_drewN | apply keep_drew | apply keep_alloc) | exact HK.out)) hk (.inl rfl)); replace HB := Aside0.mk (hb); replace HI0 := Aside0.mk (hi); clear hb hk hi))
    go_ret
    exact ⟨by first | rfl | (simp [errW_none, errW_some] <;> rfl) | (simp [*, errW_none, errW_some] <;> rfl), by repeat (first | (with_reducible first | exact HI0.out | apply IsS105.alloc | apply IsS105.drewN | apply IsS105.drew | apply IsS105.set_1 | apply IsS105.set_2) | exact HI0.out), by repeat (first | (with_reducible first | exact HB.out | apply below_alloc | apply pw_below_drewN | apply below_drew1 | refine below_set ?_ (IsS105.ge HI0.out)) | exact HB.out), by repeat (first | (with_reducible first | exact HK.out | apply KeepBut.set_ | apply keep_drewN | apply keep_drew | apply keep_alloc) | exact HK.out)⟩
  rw [if_neg c15] at H
  have c15b0 : (t1091 == 1) = false := beq_eq_false_iff_ne.mpr c15
  have c15b1 : (t1091 != 1) = true := bne_iff_ne.mpr c15
  by_cases c28 : t1091 = 2
  · rw [if_pos c28] at H
    have c28b0 : (t1091 == 2) = true := beq_iff_eq.mpr c28
    have c28b1 : (t1091 != 2) = false := bne_eq_false_iff_eq.mpr c28
    clear c28
    replace H := Option.bind_eq_some_iff.mp H
    obtain ⟨⟨t1114, t1115, t1116⟩, A290, H⟩ := H
    replace H : ((spec_l01Long.f k t1114 0).bind fun t1117 => (if 1 + t1117.size ≤ 9223372036854775807 then (some ((⟨#[128]⟩ : ByteArray) ++ t1117, t1115, t1116)) else (none))) = some (r1, r2, r3) := H
    have A29 := Aside0.mk A290
    clear A290
    replace H := Option.bind_eq_some_iff.mp H
    obtain ⟨t1117, A300, H⟩ := H
    have A30 := Aside0.mk A300
    clear A300
    by_cases c31 : 1 + t1117.size ≤ 9223372036854775807
    rotate_left
    · rw [if_neg c31] at H; exact absurd H (by simp)
    rw [if_pos c31] at H
    have c31b0 := eq_true c31
    have c31b1 : decide (1 + t1117.size ≤ 9223372036854775807) = true := decide_eq_true c31
    try have c31b2 : (9223372036854775807 < 1 + t1117.size) = False := eq_false (Nat.not_lt.2 c31)
    simp only [Option.some.injEq, Prod.mk.injEq] at H
    obtain ⟨rfl, rfl, rfl⟩ := H
    go_enter Try.func107, Try.ntmps107
    go_wp2_with (first | ((with_reducible refine gate_callee (f := 79) rfl ?_); refine gL_ 6 Try.func79 rfl #[.pointer (some ⟨g, 0, none⟩), .int .i64 8] ?_; (with_reducible refine (spec_l01Below.calls g s0_0 s0_1 s0_2 8 t1091 t1092 t1093 w0 _ ?side1 ?side2 A2.out).mono ?_); (case side1 => repeat (first | (with_reducible first | exact HI0.out | apply IsS105.alloc | apply IsS105.drewN | apply IsS105.drew | apply IsS105.set_1 | apply IsS105.set_2) | exact HI0.out)); (case side2 => repeat (first | (with_reducible first | exact HB.out | apply below_alloc | apply pw_below_drewN | apply below_drew1 | refine below_set ?_ (IsS105.ge HI0.out)) | exact HB.out)); rintro e w32 ⟨rfl, hi, hb, hk⟩; refine ⟨_, rfl, ?_⟩; replace HK := Aside0.mk (KeepBut.trans (by repeat (first | (with_reducible first | exact HK.out | apply KeepBut.set_ | apply keep_drewN | apply keep_drew | apply keep_alloc) | exact HK.out)) hk (.inl rfl)); replace HB := Aside0.mk (hb); replace HI0 := Aside0.mk (hi); clear hb hk hi) | ((with_reducible refine gate_callee (f := 79) rfl ?_); refine gL_ 27 Try.func79 rfl #[.pointer (some ⟨g, 0, none⟩), .int .i64 20] ?_; (with_reducible refine (spec_l01Below.calls g s0_0 t1092 t1093 20 t1114 t1115 t1116 w0 _ ?side1 ?side2 A29.out).mono ?_); (case side1 => repeat (first | (with_reducible first | exact HI0.out | apply IsS105.alloc | apply IsS105.drewN | apply IsS105.drew | apply IsS105.set_1 | apply IsS105.set_2) | exact HI0.out)); (case side2 => repeat (first | (with_reducible first | exact HB.out | apply below_alloc | apply pw_below_drewN | apply below_drew1 | refine below_set ?_ (IsS105.ge HI0.out)) | exact HB.out)); rintro e w33 ⟨rfl, hi, hb, hk⟩; refine ⟨_, rfl, ?_⟩; replace HK := Aside0.mk (KeepBut.trans (by repeat (first | (with_reducible first | exact HK.out | apply KeepBut.set_ | apply keep_drewN | apply keep_drew | apply keep_alloc) | exact HK.out)) hk (.inl rfl)); replace HB := Aside0.mk (hb); replace HI0 := Aside0.mk (hi); clear hb hk hi) | ((with_reducible refine gate_callee (f := 116) rfl ?_); refine gL_ 29 Try.func116 rfl #[.int .i64 t1114, .int .u8 0] ?_; (with_reducible refine (spec_l01Long.calls k t1114 0 t1117 _ A30.out).mono ?_); rintro e w34 ⟨rfl, hb⟩; refine ⟨_, rfl, ?_⟩; replace HK := Aside0.mk (KeepBut.trans (by repeat (first | (with_reducible first | exact HK.out | apply KeepBut.set_ | apply keep_drewN | apply keep_drew | apply keep_alloc) | exact HK.out)) (KeepBut.of_below hb g none) (.inl rfl)); replace HB := Aside0.mk (below_step (by repeat (first | (with_reducible first | exact HB.out | apply below_alloc | apply pw_below_drewN | apply below_drew1 | refine below_set ?_ (IsS105.ge HI0.out)) | exact HB.out)) hb); replace HI0 := Aside0.mk (IsS105.below (by repeat (first | (with_reducible first | exact HI0.out | apply IsS105.alloc | apply IsS105.drewN | apply IsS105.drew | apply IsS105.set_1 | apply IsS105.set_2) | exact HI0.out)) hb); clear hb))
    go_ret
    exact ⟨by first | rfl | (simp [errW_none, errW_some] <;> rfl) | (simp [*, errW_none, errW_some] <;> rfl), by repeat (first | (with_reducible first | exact HI0.out | apply IsS105.alloc | apply IsS105.drewN | apply IsS105.drew | apply IsS105.set_1 | apply IsS105.set_2) | exact HI0.out), by repeat (first | (with_reducible first | exact HB.out | apply below_alloc | apply pw_below_drewN | apply below_drew1 | refine below_set ?_ (IsS105.ge HI0.out)) | exact HB.out), by repeat (first | (with_reducible first | exact HK.out | apply KeepBut.set_ | apply keep_drewN | apply keep_drew | apply keep_alloc) | exact HK.out)⟩
  rw [if_neg c28] at H
  have c28b0 : (t1091 == 2) = false := beq_eq_false_iff_ne.mpr c28
  have c28b1 : (t1091 != 2) = true := bne_iff_ne.mpr c28
  by_cases c35 : t1091 = 3
  rotate_left
  · rw [if_neg c35] at H
    have c35b0 : (t1091 == 3) = false := beq_eq_false_iff_ne.mpr c35
    have c35b1 : (t1091 != 3) = true := bne_iff_ne.mpr c35
    replace H := Option.bind_eq_some_iff.mp H
    obtain ⟨⟨t1129, t1130, t1131⟩, A470, H⟩ := H
    replace H : ((spec_GreatOf.f k t1129).bind fun t1132 => (some (t1132, t1130, t1131))) = some (r1, r2, r3) := H
    have A47 := Aside0.mk A470
    clear A470
    replace H := Option.bind_eq_some_iff.mp H
    obtain ⟨t1132, A480, H⟩ := H
    have A48 := Aside0.mk A480
    clear A480
    simp only [Option.some.injEq, Prod.mk.injEq] at H
    obtain ⟨rfl, rfl, rfl⟩ := H
    go_enter Try.func107, Try.ntmps107
    go_wp2_with (first | ((with_reducible refine gate_callee (f := 79) rfl ?_); refine gL_ 6 Try.func79 rfl #[.pointer (some ⟨g, 0, none⟩), .int .i64 8] ?_; (with_reducible refine (spec_l01Below.calls g s0_0 s0_1 s0_2 8 t1091 t1092 t1093 w0 _ ?side1 ?side2 A2.out).mono ?_); (case side1 => repeat (first | (with_reducible first | exact HI0.out | apply IsS105.alloc | apply IsS105.drewN | apply IsS105.drew | apply IsS105.set_1 | apply IsS105.set_2) | exact HI0.out)); (case side2 => repeat (first | (with_reducible first | exact HB.out | apply below_alloc | apply pw_below_drewN | apply below_drew1 | refine below_set ?_ (IsS105.ge HI0.out)) | exact HB.out)); rintro e w49 ⟨rfl, hi, hb, hk⟩; refine ⟨_, rfl, ?_⟩; replace HK := Aside0.mk (KeepBut.trans (by repeat (first | (with_reducible first | exact HK.out | apply KeepBut.set_ | apply keep_drewN | apply keep_drew | apply keep_alloc) | exact HK.out)) hk (.inl rfl)); replace HB := Aside0.mk (hb); replace HI0 := Aside0.mk (hi); clear hb hk hi) | ((with_reducible refine gate_callee (f := 79) rfl ?_); refine gL_ 42 Try.func79 rfl #[.pointer (some ⟨g, 0, none⟩), .int .i64 100000] ?_; (with_reducible refine (spec_l01Below.calls g s0_0 t1092 t1093 100000 t1129 t1130 t1131 w0 _ ?side1 ?side2 A47.out).mono ?_); (case side1 => repeat (first | (with_reducible first | exact HI0.out | apply IsS105.alloc | apply IsS105.drewN | apply IsS105.drew | apply IsS105.set_1 | apply IsS105.set_2) | exact HI0.out)); (case side2 => repeat (first | (with_reducible first | exact HB.out | apply below_alloc | apply pw_below_drewN | apply below_drew1 | refine below_set ?_ (IsS105.ge HI0.out)) | exact HB.out)); rintro e w50 ⟨rfl, hi, hb, hk⟩; refine ⟨_, rfl, ?_⟩; replace HK := Aside0.mk (KeepBut.trans (by repeat (first | (with_reducible first | exact HK.out | apply KeepBut.set_ | apply keep_drewN | apply keep_drew | apply keep_alloc) | exact HK.out)) hk (.inl rfl)); replace HB := Aside0.mk (hb); replace HI0 := Aside0.mk (hi); clear hb hk hi) | ((with_reducible refine gate_callee (f := 119) rfl ?_); refine gL_ 43 Try.func119 rfl #[.int .i64 t1129] ?_; (with_reducible refine (spec_GreatOf.calls k t1129 t1132 _ A48.out).mono ?_); rintro e w51 ⟨rfl, hb⟩; refine ⟨_, rfl, ?_⟩; replace HK := Aside0.mk (KeepBut.trans (by repeat (first | (with_reducible first | exact HK.out | apply KeepBut.set_ | apply keep_drewN | apply keep_drew | apply keep_alloc) | exact HK.out)) (KeepBut.of_below hb g none) (.inl rfl)); replace HB := Aside0.mk (below_step (by repeat (first | (with_reducible first | exact HB.out | apply below_alloc | apply pw_below_drewN | apply below_drew1 | refine below_set ?_ (IsS105.ge HI0.out)) | exact HB.out)) hb); replace HI0 := Aside0.mk (IsS105.below (by repeat (first | (with_reducible first | exact HI0.out | apply IsS105.alloc | apply IsS105.drewN | apply IsS105.drew | apply IsS105.set_1 | apply IsS105.set_2) | exact HI0.out)) hb); clear hb))
    go_ret
    exact ⟨by first | rfl | (simp [errW_none, errW_some] <;> rfl) | (simp [*, errW_none, errW_some] <;> rfl), by repeat (first | (with_reducible first | exact HI0.out | apply IsS105.alloc | apply IsS105.drewN | apply IsS105.drew | apply IsS105.set_1 | apply IsS105.set_2) | exact HI0.out), by repeat (first | (with_reducible first | exact HB.out | apply below_alloc | apply pw_below_drewN | apply below_drew1 | refine below_set ?_ (IsS105.ge HI0.out)) | exact HB.out), by repeat (first | (with_reducible first | exact HK.out | apply KeepBut.set_ | apply keep_drewN | apply keep_drew | apply keep_alloc) | exact HK.out)⟩

  rw [if_pos c35] at H
  have c35b0 : (t1091 == 3) = true := beq_iff_eq.mpr c35
  have c35b1 : (t1091 != 3) = false := bne_eq_false_iff_eq.mpr c35
  clear c35
  replace H := Option.bind_eq_some_iff.mp H
  obtain ⟨⟨t1118, t1119, t1120⟩, A360, H⟩ := H
  replace H : ((spec_l01Text.f k s0_0 t1119 t1120 t1118).bind fun bt1121 => ((spec_l02In.f k bt1121.1).bind fun t1124 => ((spec_l02Out.f k t1124).bind fun t1127 => ((spec_l02Bound.f t1127).bind fun t1128 => (some (t1128, bt1121.2.1, bt1121.2.2)))))) = some (r1, r2, r3) := H
  have A36 := Aside0.mk A360
  clear A360
  replace H := Option.bind_eq_some_iff.mp H
  obtain ⟨⟨t1121, t1122, t1123⟩, A370, H⟩ := H
  replace H : ((spec_l02In.f k t1121).bind fun t1124 => ((spec_l02Out.f k t1124).bind fun t1127 => ((spec_l02Bound.f t1127).bind fun t1128 => (some (t1128, t1122, t1123))))) = some (r1, r2, r3) := H
  have A37 := Aside0.mk A370
  clear A370
  replace H := Option.bind_eq_some_iff.mp H
  obtain ⟨t1124, A380, H⟩ := H
  have A38 := Aside0.mk A380
  clear A380
  replace H := Option.bind_eq_some_iff.mp H
  obtain ⟨t1127, A390, H⟩ := H
  have A39 := Aside0.mk A390
  clear A390
  replace H := Option.bind_eq_some_iff.mp H
  obtain ⟨t1128, A400, H⟩ := H
  have A40 := Aside0.mk A400
  clear A400
  simp only [Option.some.injEq, Prod.mk.injEq] at H
  obtain ⟨rfl, rfl, rfl⟩ := H
  go_enter Try.func107, Try.ntmps107
  go_wp2_with (first | ((with_reducible refine gate_callee (f := 79) rfl ?_); refine gL_ 6 Try.func79 rfl #[.pointer (some ⟨g, 0, none⟩), .int .i64 8] ?_; (with_reducible refine (spec_l01Below.calls g s0_0 s0_1 s0_2 8 t1091 t1092 t1093 w0 _ ?side1 ?side2 A2.out).mono ?_); (case side1 => repeat (first | (with_reducible first | exact HI0.out | apply IsS105.alloc | apply IsS105.drewN | apply IsS105.drew | apply IsS105.set_1 | apply IsS105.set_2) | exact HI0.out)); (case side2 => repeat (first | (with_reducible first | exact HB.out | apply below_alloc | apply pw_below_drewN | apply below_drew1 | refine below_set ?_ (IsS105.ge HI0.out)) | exact HB.out)); rintro e w41 ⟨rfl, hi, hb, hk⟩; refine ⟨_, rfl, ?_⟩; replace HK := Aside0.mk (KeepBut.trans (by repeat (first | (with_reducible first | exact HK.out | apply KeepBut.set_ | apply keep_drewN | apply keep_drew | apply keep_alloc) | exact HK.out)) hk (.inl rfl)); replace HB := Aside0.mk (hb); replace HI0 := Aside0.mk (hi); clear hb hk hi) | ((with_reducible refine gate_callee (f := 79) rfl ?_); refine gL_ 36 Try.func79 rfl #[.pointer (some ⟨g, 0, none⟩), .int .i64 9] ?_; (with_reducible refine (spec_l01Below.calls g s0_0 t1092 t1093 9 t1118 t1119 t1120 w0 _ ?side1 ?side2 A36.out).mono ?_); (case side1 => repeat (first | (with_reducible first | exact HI0.out | apply IsS105.alloc | apply IsS105.drewN | apply IsS105.drew | apply IsS105.set_1 | apply IsS105.set_2) | exact HI0.out)); (case side2 => repeat (first | (with_reducible first | exact HB.out | apply below_alloc | apply pw_below_drewN | apply below_drew1 | refine below_set ?_ (IsS105.ge HI0.out)) | exact HB.out)); rintro e w42 ⟨rfl, hi, hb, hk⟩; refine ⟨_, rfl, ?_⟩; replace HK := Aside0.mk (KeepBut.trans (by repeat (first | (with_reducible first | exact HK.out | apply KeepBut.set_ | apply keep_drewN | apply keep_drew | apply keep_alloc) | exact HK.out)) hk (.inl rfl)); replace HB := Aside0.mk (hb); replace HI0 := Aside0.mk (hi); clear hb hk hi) | ((with_reducible refine gate_callee (f := 118) rfl ?_); refine gL_ 37 Try.func118 rfl #[.pointer (some ⟨g, 0, none⟩), .int .i64 t1118] ?_; (with_reducible refine (spec_l01Text.calls k g s0_0 t1119 t1120 t1118 t1121 t1122 t1123 w0 _ ?side1 ?side2 A37.out).mono ?_); (case side1 => repeat (first | (with_reducible first | exact HI0.out | apply IsS105.alloc | apply IsS105.drewN | apply IsS105.drew | apply IsS105.set_1 | apply IsS105.set_2) | exact HI0.out)); (case side2 => repeat (first | (with_reducible first | exact HB.out | apply below_alloc | apply pw_below_drewN | apply below_drew1 | refine below_set ?_ (IsS105.ge HI0.out)) | exact HB.out)); rintro e w43 ⟨rfl, hi, hb, hk⟩; refine ⟨_, rfl, ?_⟩; replace HK := Aside0.mk (KeepBut.trans (by repeat (first | (with_reducible first | exact HK.out | apply KeepBut.set_ | apply keep_drewN | apply keep_drew | apply keep_alloc) | exact HK.out)) hk (.inl rfl)); replace HB := Aside0.mk (hb); replace HI0 := Aside0.mk (hi); clear hb hk hi) | ((with_reducible refine gate_callee (f := 62) rfl ?_); refine gL_ 38 Try.func62 rfl #[.string t1121] ?_; (with_reducible refine (spec_l02In.calls k t1121 t1124 _ A38.out).mono ?_); rintro e w44 ⟨v1125, rfl, ho0, hb⟩; refine ⟨_, rfl, ?_⟩; have HO1126 := Aside0.mk (Kd.V_lower (Kd.V_mono (ok' := fun k_ => k_ ≠ g) ho0 (fun k_ hk_ => (IsS105.fresh (by repeat (first | (with_reducible first | exact HI0.out | apply IsS105.alloc | apply IsS105.drewN | apply IsS105.drew | apply IsS105.set_1 | apply IsS105.set_2) | exact HI0.out)) k_ hk_))) (keep_size (w := w) (g := g) (row := none) (by repeat (first | (with_reducible first | exact HK.out | apply KeepBut.set_ | apply keep_drewN | apply keep_drew | apply keep_alloc) | exact HK.out)))); replace HK := Aside0.mk (KeepBut.trans (by repeat (first | (with_reducible first | exact HK.out | apply KeepBut.set_ | apply keep_drewN | apply keep_drew | apply keep_alloc) | exact HK.out)) (KeepBut.of_below hb g none) (.inl rfl)); replace HB := Aside0.mk (below_step (by repeat (first | (with_reducible first | exact HB.out | apply below_alloc | apply pw_below_drewN | apply below_drew1 | refine below_set ?_ (IsS105.ge HI0.out)) | exact HB.out)) hb); replace HI0 := Aside0.mk (IsS105.below (by repeat (first | (with_reducible first | exact HI0.out | apply IsS105.alloc | apply IsS105.drewN | apply IsS105.drew | apply IsS105.set_1 | apply IsS105.set_2) | exact HI0.out)) hb); clear hb ho0; obtain ⟨Ao45, co45, eo45⟩ := Kd.V_slice HO1126.out; subst eo45) | ((with_reducible refine gate_callee (f := 60) rfl ?_); refine gL_ 39 Try.func60 rfl #[.slice Ao45 t1124.length co45] ?_; (with_reducible refine (spec_l02Out.calls k _ _ t1124 t1127 _ ?side1 ?side2 A39.out).mono ?_); (case side1 => exact pC_ (Kd.V_reads' HO1126.out).2.2); (case side2 => exact (Kd.V_reads' HO1126.out).2.1); rintro e w46 ⟨rfl, hb⟩; refine ⟨_, rfl, ?_⟩; replace HO1126 := Aside0.mk (Kd.V_below (pV_ HO1126.out) hb); replace HK := Aside0.mk (KeepBut.trans (by repeat (first | (with_reducible first | exact HK.out | apply KeepBut.set_ | apply keep_drewN | apply keep_drew | apply keep_alloc) | exact HK.out)) (KeepBut.of_below hb g none) (.inl rfl)); replace HB := Aside0.mk (below_step (by repeat (first | (with_reducible first | exact HB.out | apply below_alloc | apply pw_below_drewN | apply below_drew1 | refine below_set ?_ (IsS105.ge HI0.out)) | exact HB.out)) hb); replace HI0 := Aside0.mk (IsS105.below (by repeat (first | (with_reducible first | exact HI0.out | apply IsS105.alloc | apply IsS105.drewN | apply IsS105.drew | apply IsS105.set_1 | apply IsS105.set_2) | exact HI0.out)) hb); clear hb) | ((with_reducible refine gate_callee (f := 106) rfl ?_); refine gL_ 40 Try.func106 rfl #[.string t1127] ?_; (with_reducible refine (spec_l02Bound.calls t1127 t1128 _ A40.out).mono ?_); rintro e w' ⟨rfl, ⟨nd, rfl⟩⟩; refine ⟨_, rfl, ?_⟩))
  go_ret
  exact ⟨by first | rfl | (simp [errW_none, errW_some] <;> rfl) | (simp [*, errW_none, errW_some] <;> rfl), by repeat (first | (with_reducible first | exact HI0.out | apply IsS105.alloc | apply IsS105.drewN | apply IsS105.drew | apply IsS105.set_1 | apply IsS105.set_2) | exact HI0.out), by repeat (first | (with_reducible first | exact HB.out | apply below_alloc | apply pw_below_drewN | apply below_drew1 | refine below_set ?_ (IsS105.ge HI0.out)) | exact HB.out), by repeat (first | (with_reducible first | exact HK.out | apply KeepBut.set_ | apply keep_drewN | apply keep_drew | apply keep_alloc) | exact HK.out)⟩

/-! ### spec_l01Once: function 114 -/
def spec_l01Once.f (s0_0 : List Int) (s0_1 : Int) (s0_2 : Int) (a1 : Int) : Option (Bool × Int × Int) := (spec_l01Below.f s0_0 s0_1 s0_2 a1).bind fun bt1133 => (some ((bt1133.1 == 0), bt1133.2.1, bt1133.2.2))
set_option maxHeartbeats 8000000 in
set_option maxRecDepth 100000 in
theorem spec_l01Once.calls (g : Nat) (s0_0 : List Int) (s0_1 : Int) (s0_2 : Int) (a1 : Int) (r1 : Bool) (r2 : Int) (r3 : Int) (w0 w : World) (hI : IsS105 w0 w g s0_0 s0_1 s0_2) (hB : Below w0.heap.size w0 w) (h : spec_l01Once.f s0_0 s0_1 s0_2 a1 = some (r1, r2, r3)) :
    Calls Try.prog 114 #[.pointer (some ⟨g, 0, none⟩), .int .i64 a1] w fun e w' => e = .returned (.bool r1) ∧ IsS105 w0 w' g s0_0 r2 r3 ∧ Below w0.heap.size w0 w' ∧ KeepBut w w' g none := by
  have HI0 := Aside0.mk hI
  have HK := Aside0.mk (KeepBut.refl w g none)
  have HL := Aside0.mk hB.size
  clear hI
  have HW0 := Aside0.mk hB.size
  have HB := Aside0.mk hB
  clear hB
  have H : ((spec_l01Below.f s0_0 s0_1 s0_2 a1).bind fun bt1133 => (some ((bt1133.1 == 0), bt1133.2.1, bt1133.2.2))) = some (r1, r2, r3) := h
  clear h
  replace H := Option.bind_eq_some_iff.mp H
  obtain ⟨⟨t1133, t1134, t1135⟩, A30, H⟩ := H
  replace H : (some ((t1133 == 0), t1134, t1135)) = some (r1, r2, r3) := H
  have A3 := Aside0.mk A30
  clear A30
  simp only [Option.some.injEq, Prod.mk.injEq] at H
  obtain ⟨rfl, rfl, rfl⟩ := H
  go_enter Try.func114, Try.ntmps114
  go_wp2_with (first | ((with_reducible refine gate_callee (f := 79) rfl ?_); refine gL_ 7 Try.func79 rfl #[.pointer (some ⟨g, 0, none⟩), .int .i64 a1] ?_; (with_reducible refine (spec_l01Below.calls g s0_0 s0_1 s0_2 a1 t1133 t1134 t1135 w0 _ ?side1 ?side2 A3.out).mono ?_); (case side1 => repeat (first | (with_reducible first | exact HI0.out | apply IsS105.alloc | apply IsS105.drewN | apply IsS105.drew | apply IsS105.set_1 | apply IsS105.set_2) | exact HI0.out)); (case side2 => repeat (first | (with_reducible first | exact HB.out | apply below_alloc | apply pw_below_drewN | apply below_drew1 | refine below_set ?_ (IsS105.ge HI0.out)) | exact HB.out)); rintro e w4 ⟨rfl, hi, hb, hk⟩; refine ⟨_, rfl, ?_⟩; replace HK := Aside0.mk (KeepBut.trans (by repeat (first | (with_reducible first | exact HK.out | apply KeepBut.set_ | apply keep_drewN | apply keep_drew | apply keep_alloc) | exact HK.out)) hk (.inl rfl)); replace HB := Aside0.mk (hb); replace HI0 := Aside0.mk (hi); clear hb hk hi))
  go_ret
  exact ⟨by first | rfl | (simp [errW_none, errW_some] <;> rfl) | (simp [*, errW_none, errW_some] <;> rfl), by repeat (first | (with_reducible first | exact HI0.out | apply IsS105.alloc | apply IsS105.drewN | apply IsS105.drew | apply IsS105.set_1 | apply IsS105.set_2) | exact HI0.out), by repeat (first | (with_reducible first | exact HB.out | apply below_alloc | apply pw_below_drewN | apply below_drew1 | refine below_set ?_ (IsS105.ge HI0.out)) | exact HB.out), by repeat (first | (with_reducible first | exact HK.out | apply KeepBut.set_ | apply keep_drewN | apply keep_drew | apply keep_alloc) | exact HK.out)⟩

/-! ### spec_l02Any: function 104 -/
def spec_l02Any.f (k : Nat) (s0_0 : List Int) (s0_1 : Int) (s0_2 : Int) : Option (ByteArray × Int × Int) := (spec_l01Once.f s0_0 s0_1 s0_2 14).bind fun bt1136 => (if bt1136.1 = true then ((spec_l01Long.f k 161 7).bind fun t1139 => ((spec_l01Long.f k 160 7).bind fun t1140 => ((spec_l01Pick.f s0_0 bt1136.2.1 bt1136.2.2 (([(⟨#[0]⟩ : ByteArray), (⟨#[0, 5]⟩ : ByteArray), t1139, t1140] : List ByteArray))).bind fun bt1144 => (some (bt1144.1, bt1144.2.1, bt1144.2.2))))) else ((spec_l02Great.f k s0_0 bt1136.2.1 bt1136.2.2).bind fun bt1147 => (some (bt1147.1, bt1147.2.1, bt1147.2.2))))
set_option maxHeartbeats 8000000 in
set_option maxRecDepth 100000 in
theorem spec_l02Any.calls (k : Nat) (g : Nat) (s0_0 : List Int) (s0_1 : Int) (s0_2 : Int) (r1 : ByteArray) (r2 : Int) (r3 : Int) (w0 w : World) (hI : IsS105 w0 w g s0_0 s0_1 s0_2) (hB : Below w0.heap.size w0 w) (h : spec_l02Any.f k s0_0 s0_1 s0_2 = some (r1, r2, r3)) :
    Calls Try.prog 104 #[.pointer (some ⟨g, 0, none⟩)] w fun e w' => e = .returned (.string r1) ∧ IsS105 w0 w' g s0_0 r2 r3 ∧ Below w0.heap.size w0 w' ∧ KeepBut w w' g none := by
  have HI0 := Aside0.mk hI
  have HK := Aside0.mk (KeepBut.refl w g none)
  have HL := Aside0.mk hB.size
  clear hI
  have HW0 := Aside0.mk hB.size
  have HB := Aside0.mk hB
  clear hB
  have H : ((spec_l01Once.f s0_0 s0_1 s0_2 14).bind fun bt1136 => (if bt1136.1 = true then ((spec_l01Long.f k 161 7).bind fun t1139 => ((spec_l01Long.f k 160 7).bind fun t1140 => ((spec_l01Pick.f s0_0 bt1136.2.1 bt1136.2.2 (([(⟨#[0]⟩ : ByteArray), (⟨#[0, 5]⟩ : ByteArray), t1139, t1140] : List ByteArray))).bind fun bt1144 => (some (bt1144.1, bt1144.2.1, bt1144.2.2))))) else ((spec_l02Great.f k s0_0 bt1136.2.1 bt1136.2.2).bind fun bt1147 => (some (bt1147.1, bt1147.2.1, bt1147.2.2))))) = some (r1, r2, r3) := h
  clear h
  replace H := Option.bind_eq_some_iff.mp H
  obtain ⟨⟨t1136, t1137, t1138⟩, A20, H⟩ := H
  replace H : (if t1136 = true then ((spec_l01Long.f k 161 7).bind fun t1139 => ((spec_l01Long.f k 160 7).bind fun t1140 => ((spec_l01Pick.f s0_0 t1137 t1138 (([(⟨#[0]⟩ : ByteArray), (⟨#[0, 5]⟩ : ByteArray), t1139, t1140] : List ByteArray))).bind fun bt1144 => (some (bt1144.1, bt1144.2.1, bt1144.2.2))))) else ((spec_l02Great.f k s0_0 t1137 t1138).bind fun bt1147 => (some (bt1147.1, bt1147.2.1, bt1147.2.2)))) = some (r1, r2, r3) := H
  have A2 := Aside0.mk A20
  clear A20
  by_cases c3 : t1136 = true
  · subst c3
    have H1 : ((spec_l01Long.f k 161 7).bind fun t1139 => ((spec_l01Long.f k 160 7).bind fun t1140 => ((spec_l01Pick.f s0_0 t1137 t1138 (([(⟨#[0]⟩ : ByteArray), (⟨#[0, 5]⟩ : ByteArray), t1139, t1140] : List ByteArray))).bind fun bt1144 => (some (bt1144.1, bt1144.2.1, bt1144.2.2))))) = some (r1, r2, r3) := by rw [if_pos rfl] at H; exact H
    clear H
    have H := H1
    clear H1
    replace H := Option.bind_eq_some_iff.mp H
    obtain ⟨t1139, A40, H⟩ := H
    have A4 := Aside0.mk A40
    clear A40
    replace H := Option.bind_eq_some_iff.mp H
    obtain ⟨t1140, A50, H⟩ := H
    have A5 := Aside0.mk A50
    clear A50
    obtain ⟨y1141, hy1141⟩ : ∃ y_ : List ByteArray, y_ = (([(⟨#[0]⟩ : ByteArray), (⟨#[0, 5]⟩ : ByteArray), t1139, t1140] : List ByteArray)) := ⟨_, rfl⟩
    replace H : ((spec_l01Pick.f s0_0 t1137 t1138 y1141).bind fun bt1144 => (some (bt1144.1, bt1144.2.1, bt1144.2.2))) = some (r1, r2, r3) := by first | (rw [hy1141]; with_reducible exact H) | (have H2_ := (Option.bind_some _ _).symm.trans H; rw [hy1141]; with_reducible exact H2_) | (have H2_ := (Option.bind_some _ _).symm.trans H; with_reducible exact H2_) | with_reducible exact H | (rw [hy1141]; exact H) | exact H
    have Ny1141 := Aside0.mk hy1141
    clear hy1141
    replace H := Option.bind_eq_some_iff.mp H
    obtain ⟨⟨t1144, t1145, t1146⟩, A60, H⟩ := H
    replace H : (some (t1144, t1145, t1146)) = some (r1, r2, r3) := H
    have A6 := Aside0.mk A60
    clear A60
    simp only [Option.some.injEq, Prod.mk.injEq] at H
    obtain ⟨rfl, rfl, rfl⟩ := H
    go_enter Try.func104, Try.ntmps104
    go_wp2_with (first | ((with_reducible refine gate_callee (f := 114) rfl ?_); refine gL_ 4 Try.func114 rfl #[.pointer (some ⟨g, 0, none⟩), .int .i64 14] ?_; (with_reducible refine (spec_l01Once.calls g s0_0 s0_1 s0_2 14 true t1137 t1138 w0 _ ?side1 ?side2 A2.out).mono ?_); (case side1 => repeat (first | (with_reducible first | exact HI0.out | apply IsS105.alloc | apply IsS105.drewN | apply IsS105.drew | apply IsS105.set_1 | apply IsS105.set_2) | exact HI0.out)); (case side2 => repeat (first | (with_reducible first | exact HB.out | apply below_alloc | apply pw_below_drewN | apply below_drew1 | refine below_set ?_ (IsS105.ge HI0.out)) | exact HB.out)); rintro e w7 ⟨rfl, hi, hb, hk⟩; refine ⟨_, rfl, ?_⟩; replace HK := Aside0.mk (KeepBut.trans (by repeat (first | (with_reducible first | exact HK.out | apply KeepBut.set_ | apply keep_drewN | apply keep_drew | apply keep_alloc) | exact HK.out)) hk (.inl rfl)); replace HB := Aside0.mk (hb); replace HI0 := Aside0.mk (hi); clear hb hk hi) | ((with_reducible refine gate_callee (f := 116) rfl ?_); refine gL_ 6 Try.func116 rfl #[.int .i64 161, .int .u8 7] ?_; (with_reducible refine (spec_l01Long.calls k 161 7 t1139 _ A4.out).mono ?_); rintro e w8 ⟨rfl, hb⟩; refine ⟨_, rfl, ?_⟩; replace HK := Aside0.mk (KeepBut.trans (by repeat (first | (with_reducible first | exact HK.out | apply KeepBut.set_ | apply keep_drewN | apply keep_drew | apply keep_alloc) | exact HK.out)) (KeepBut.of_below hb g none) (.inl rfl)); replace HB := Aside0.mk (below_step (by repeat (first | (with_reducible first | exact HB.out | apply below_alloc | apply pw_below_drewN | apply below_drew1 | refine below_set ?_ (IsS105.ge HI0.out)) | exact HB.out)) hb); replace HI0 := Aside0.mk (IsS105.below (by repeat (first | (with_reducible first | exact HI0.out | apply IsS105.alloc | apply IsS105.drewN | apply IsS105.drew | apply IsS105.set_1 | apply IsS105.set_2) | exact HI0.out)) hb); clear hb) | ((with_reducible refine gate_callee (f := 116) rfl ?_); refine gL_ 7 Try.func116 rfl #[.int .i64 160, .int .u8 7] ?_; (with_reducible refine (spec_l01Long.calls k 160 7 t1140 _ A5.out).mono ?_); rintro e w9 ⟨rfl, hb⟩; refine ⟨_, rfl, ?_⟩; replace HK := Aside0.mk (KeepBut.trans (by repeat (first | (with_reducible first | exact HK.out | apply KeepBut.set_ | apply keep_drewN | apply keep_drew | apply keep_alloc) | exact HK.out)) (KeepBut.of_below hb g none) (.inl rfl)); replace HB := Aside0.mk (below_step (by repeat (first | (with_reducible first | exact HB.out | apply below_alloc | apply pw_below_drewN | apply below_drew1 | refine below_set ?_ (IsS105.ge HI0.out)) | exact HB.out)) hb); replace HI0 := Aside0.mk (IsS105.below (by repeat (first | (with_reducible first | exact HI0.out | apply IsS105.alloc | apply IsS105.drewN | apply IsS105.drew | apply IsS105.set_1 | apply IsS105.set_2) | exact HI0.out)) hb); clear hb) | ((with_reducible refine gate_dst (N := 8) rfl ?_); refine Kd.R_lit Kd.string _ 9 ?hg (N := 8) ?hd (xs := ([(⟨#[0]⟩ : ByteArray), (⟨#[0, 5]⟩ : ByteArray), t1139, t1140] : List ByteArray)) (inner := [.string (⟨#[0]⟩ : ByteArray), .string (⟨#[0, 5]⟩ : ByteArray), .string t1139, .string t1140]) (ok := fun _ => True) (okp := fun _ => True) ?hr ?hp (fun _ hk => hk) trivial (Below.refl _ _) (Nat.le_refl _) (by simp) ?_; (case hd => rfl); (case hg => rfl); (case hr => first | (go_simp; done) | (go_simp; rfl)); (case hp => exact (Reps.one (show Kd.M Kd.string _ _ _ (⟨#[0]⟩ : ByteArray) [.string (⟨#[0]⟩ : ByteArray)] from rfl) (Reps.one (show Kd.M Kd.string _ _ _ (⟨#[0, 5]⟩ : ByteArray) [.string (⟨#[0, 5]⟩ : ByteArray)] from rfl) (Reps.one (show Kd.M Kd.string _ _ _ t1139 [.string t1139] from rfl) (Reps.one (show Kd.M Kd.string _ _ _ t1140 [.string t1140] from rfl) (Reps.none _ _)))))); intro v1142 w10 ho11 hb hg_ hnew_; clear hg_ hnew_; (first | rw [← Ny1141.out] at ho11 | (simp only [Int.reduceToNat] at ho11; rw [← Ny1141.out] at ho11)); have HO1143 := Aside0.mk (Kd.R_lower ho11 (keep_size (w := w) (g := g) (row := none) (by repeat (first | (with_reducible first | exact HK.out | apply KeepBut.set_ | apply keep_drewN | apply keep_drew | apply keep_alloc) | exact HK.out)))); replace HK := Aside0.mk (KeepBut.trans (by repeat (first | (with_reducible first | exact HK.out | apply KeepBut.set_ | apply keep_drewN | apply keep_drew | apply keep_alloc) | exact HK.out)) (KeepBut.of_below hb g none) (.inl rfl)); replace HB := Aside0.mk (below_step (by repeat (first | (with_reducible first | exact HB.out | apply below_alloc | apply pw_below_drewN | apply below_drew1 | refine below_set ?_ (IsS105.ge HI0.out)) | exact HB.out)) hb); replace HI0 := Aside0.mk (IsS105.below (by repeat (first | (with_reducible first | exact HI0.out | apply IsS105.alloc | apply IsS105.drewN | apply IsS105.drew | apply IsS105.set_1 | apply IsS105.set_2) | exact HI0.out)) hb); clear hb ho11; obtain ⟨Ao12, co12, eo12⟩ := Kd.R_slice HO1143.out; subst eo12) | ((with_reducible refine gate_callee (f := 115) rfl ?_); refine gL_ 9 Try.func115 rfl #[.pointer (some ⟨g, 0, none⟩), .slice Ao12 y1141.length co12] ?_; (with_reducible refine (spec_l01Pick.calls g s0_0 t1137 t1138 _ _ y1141 t1144 t1145 t1146 w0 _ ?side1 ?side2 ?side3 ?side4 ?side5 A6.out).mono ?_); (case side1 => repeat (first | (with_reducible first | exact HI0.out | apply IsS105.alloc | apply IsS105.drewN | apply IsS105.drew | apply IsS105.set_1 | apply IsS105.set_2) | exact HI0.out)); (case side2 => repeat (first | (with_reducible first | exact HB.out | apply below_alloc | apply pw_below_drewN | apply below_drew1 | refine below_set ?_ (IsS105.ge HI0.out)) | exact HB.out)); (case side3 => exact pC_ (Kd.R_reads' HO1143.out).2.2); (case side4 => exact (Kd.R_reads' HO1143.out).2.1); (case side5 => exact far_slice (IsS105.own_ne HI0.out HO1143.out (by decide))); rintro e w13 ⟨rfl, hi, hb, hk⟩; refine ⟨_, rfl, ?_⟩; replace HO1143 := Aside0.mk (Kd.R_mono (Kd.R_keep (IsS105.apart (show IsS105 w0 _ g s0_0 t1137 t1138 from by repeat (first | (with_reducible first | exact HI0.out | apply IsS105.alloc | apply IsS105.drewN | apply IsS105.drew | apply IsS105.set_1 | apply IsS105.set_2) | exact HI0.out)) (pR_ HO1143.out) (by decide)) hk (fun _ h => h.2)) (fun _ h => h.1)); replace HK := Aside0.mk (KeepBut.trans (by repeat (first | (with_reducible first | exact HK.out | apply KeepBut.set_ | apply keep_drewN | apply keep_drew | apply keep_alloc) | exact HK.out)) hk (.inl rfl)); replace HB := Aside0.mk (hb); replace HI0 := Aside0.mk (hi); clear hb hk hi))
    go_ret
    exact ⟨by first | rfl | (simp [errW_none, errW_some] <;> rfl) | (simp [*, errW_none, errW_some] <;> rfl), by repeat (first | (with_reducible first | exact HI0.out | apply IsS105.alloc | apply IsS105.drewN | apply IsS105.drew | apply IsS105.set_1 | apply IsS105.set_2) | exact HI0.out), by repeat (first | (with_reducible first | exact HB.out | apply below_alloc | apply pw_below_drewN | apply below_drew1 | refine below_set ?_ (IsS105.ge HI0.out)) | exact HB.out), by repeat (first | (with_reducible first | exact HK.out | apply KeepBut.set_ | apply keep_drewN | apply keep_drew | apply keep_alloc) | exact HK.out)⟩
  · replace c3 := Bool.eq_false_iff.mpr c3
    subst c3
    have H1 : ((spec_l02Great.f k s0_0 t1137 t1138).bind fun bt1147 => (some (bt1147.1, bt1147.2.1, bt1147.2.2))) = some (r1, r2, r3) := by rw [if_neg (show ¬ (false = true) by decide)] at H; exact H
    clear H
    have H := H1
    clear H1
    replace H := Option.bind_eq_some_iff.mp H
    obtain ⟨⟨t1147, t1148, t1149⟩, A140, H⟩ := H
    replace H : (some (t1147, t1148, t1149)) = some (r1, r2, r3) := H
    have A14 := Aside0.mk A140
    clear A140
    simp only [Option.some.injEq, Prod.mk.injEq] at H
    obtain ⟨rfl, rfl, rfl⟩ := H
    go_enter Try.func104, Try.ntmps104
    go_wp2_with (first | ((with_reducible refine gate_callee (f := 114) rfl ?_); refine gL_ 4 Try.func114 rfl #[.pointer (some ⟨g, 0, none⟩), .int .i64 14] ?_; (with_reducible refine (spec_l01Once.calls g s0_0 s0_1 s0_2 14 false t1137 t1138 w0 _ ?side1 ?side2 A2.out).mono ?_); (case side1 => repeat (first | (with_reducible first | exact HI0.out | apply IsS105.alloc | apply IsS105.drewN | apply IsS105.drew | apply IsS105.set_1 | apply IsS105.set_2) | exact HI0.out)); (case side2 => repeat (first | (with_reducible first | exact HB.out | apply below_alloc | apply pw_below_drewN | apply below_drew1 | refine below_set ?_ (IsS105.ge HI0.out)) | exact HB.out)); rintro e w15 ⟨rfl, hi, hb, hk⟩; refine ⟨_, rfl, ?_⟩; replace HK := Aside0.mk (KeepBut.trans (by repeat (first | (with_reducible first | exact HK.out | apply KeepBut.set_ | apply keep_drewN | apply keep_drew | apply keep_alloc) | exact HK.out)) hk (.inl rfl)); replace HB := Aside0.mk (hb); replace HI0 := Aside0.mk (hi); clear hb hk hi) | ((with_reducible refine gate_callee (f := 107) rfl ?_); refine gL_ 11 Try.func107 rfl #[.pointer (some ⟨g, 0, none⟩)] ?_; (with_reducible refine (spec_l02Great.calls k g s0_0 t1137 t1138 t1147 t1148 t1149 w0 _ ?side1 ?side2 A14.out).mono ?_); (case side1 => repeat (first | (with_reducible first | exact HI0.out | apply IsS105.alloc | apply IsS105.drewN | apply IsS105.drew | apply IsS105.set_1 | apply IsS105.set_2) | exact HI0.out)); (case side2 => repeat (first | (with_reducible first | exact HB.out | apply below_alloc | apply pw_below_drewN | apply below_drew1 | refine below_set ?_ (IsS105.ge HI0.out)) | exact HB.out)); rintro e w16 ⟨rfl, hi, hb, hk⟩; refine ⟨_, rfl, ?_⟩; replace HK := Aside0.mk (KeepBut.trans (by repeat (first | (with_reducible first | exact HK.out | apply KeepBut.set_ | apply keep_drewN | apply keep_drew | apply keep_alloc) | exact HK.out)) hk (.inl rfl)); replace HB := Aside0.mk (hb); replace HI0 := Aside0.mk (hi); clear hb hk hi))
    go_ret
    exact ⟨by first | rfl | (simp [errW_none, errW_some] <;> rfl) | (simp [*, errW_none, errW_some] <;> rfl), by repeat (first | (with_reducible first | exact HI0.out | apply IsS105.alloc | apply IsS105.drewN | apply IsS105.drew | apply IsS105.set_1 | apply IsS105.set_2) | exact HI0.out), by repeat (first | (with_reducible first | exact HB.out | apply below_alloc | apply pw_below_drewN | apply below_drew1 | refine below_set ?_ (IsS105.ge HI0.out)) | exact HB.out), by repeat (first | (with_reducible first | exact HK.out | apply KeepBut.set_ | apply keep_drewN | apply keep_drew | apply keep_alloc) | exact HK.out)⟩

end Go.Proofs.Ytohfimjpfnnpgaa.F
