-- Made for this seat by a program of this session (wip/fork, wip/slim.py). Lean checks it.
import Derived.Test.YtohfimjpfnnpgaaVHFx0
import Derived.Test.YtohfimjpfnnpgaaZH0
import Derived.Test.YtohfimjpfnnpgaaZH1
import Derived.Test.YtohfimjpfnnpgaaZH2
import Derived.Test.YtohfimjpfnnpgaaZH4
namespace Go.Proofs.Ytohfimjpfnnpgaa.F
open Go.RowKit Go.Proofs.YtohfimjpfnnpgaaW.PrintWords Go.Proofs.YtohfimjpfnnpgaaW.PrintLast Go.Proofs.YtohfimjpfnnpgaaW.PrintMore
attribute [local go_sem] max2_int min2_int max_two min_two max_three min_three max_four min_four   -- for this text's walks alone
set_option linter.unusedVariables false
set_option linter.unusedSimpArgs false

/-! ### laws_FnGreatInts: function 13 -/
mutual
def laws_FnGreatInts.j1 : Nat → List Int → Int → ByteArray → Int → Bool → Int → Option (Bool)
  | 0, _, _, _, _, _, _ => none
  | k + 1, x0, x4, x5, x6, x7, x8 => (spec_DrawCompareGreat.f k x0).bind fun bt1219 => ((impl_CompareGreat.f k bt1219.1 bt1219.2).bind fun t1221 => ((spec_CompareGreat.f k bt1219.1 bt1219.2).bind fun t1222 => (if t1221 = t1222 then ((impl_CompareGreat.f k bt1219.2 bt1219.1).bind fun t1223 => (if t1221 = (wrap64 (-t1223)) then (if t1221 = 1 then ((impl_BitsOf.f k bt1219.1).bind fun t1224 => ((impl_BitsOf.f k bt1219.2).bind fun t1225 => (laws_FnGreatInts.j2 k x4 x5 x6 x7 x8 bt1219.1 (decide (t1224 < t1225))))) else (laws_FnGreatInts.j2 k x4 x5 x6 x7 x8 bt1219.1 false)) else (laws_FnGreatInts.j2 k x4 x5 x6 x7 x8 bt1219.1 true))) else (laws_FnGreatInts.j2 k x4 x5 x6 x7 x8 bt1219.1 true))))
def laws_FnGreatInts.j2 : Nat → Int → ByteArray → Int → Bool → Int → ByteArray → Bool → Option (Bool)
  | 0, _, _, _, _, _, _, _ => none
  | k + 1, x4, x5, x6, x7, x8, x10, x85 => if x85 = true then (some false) else (if x7 = true then (if x6 = x4 then (if x8 = x4 then ((impl_GreatOk.f x5).bind fun t1226 => (if t1226 = true then ((impl_BitsOf.f k (⟨#[128]⟩ : ByteArray)).bind fun t1227 => (if t1227 = 8 then ((impl_GreatOk.f x10).bind fun t1228 => ((spec_GreatOk.f x10).bind fun t1229 => (some (t1228 == t1229)))) else (some false))) else (some false))) else (some false)) else (some false)) else (some false))
def laws_FnGreatInts.l0 : Nat → List Int → Int → ByteArray → Int → Bool → Int → Int → Option (Bool)
  | 0, _, _, _, _, _, _, _ => none
  | k + 1, x0, x4, x5, x6, x7, x8, x9 => if x9 ≥ 0 then (if x9 < 64 then ((impl_BitOf.f k x5 x9).bind fun t1218 => (laws_FnGreatInts.l0 k x0 x4 x5 x6 x7 (wrap64 ((wrap64 (2 * x8)) + t1218)) (wrap64 (x9 - 1)))) else (laws_FnGreatInts.j1 k x0 x4 x5 x6 x7 x8)) else (laws_FnGreatInts.j1 k x0 x4 x5 x6 x7 x8)
end
def laws_FnGreatInts.f (k : Nat) (l0 : List Int) : Option (Bool) := (laws_big.f l0).bind fun t1207 => (if t1207 = true then (some true) else ((spec_DrawPlaces.f k l0).bind fun t1208 => (if 0 < (t1208.length : Int) then (if 1 < (t1208.length : Int) then (if 2 < (t1208.length : Int) then ((impl_GreatOf.f k (wrap64 ((wrap64 ((wrap64 ((rd t1208 0) * 100000000)) + (wrap64 ((rd t1208 1) * 10000)))) + (rd t1208 2)))).bind fun t1214 => ((impl_GreatInt.f k t1214).bind fun bt1215 => ((impl_BitsOf.f k t1214).bind fun t1217 => (laws_FnGreatInts.l0 k l0 (wrap64 ((wrap64 ((wrap64 ((rd t1208 0) * 100000000)) + (wrap64 ((rd t1208 1) * 10000)))) + (rd t1208 2))) t1214 bt1215.1 bt1215.2 0 (wrap64 (t1217 - 1)))))) else (none)) else (none)) else (none))))
set_option maxHeartbeats 8000000 in
set_option maxRecDepth 100000 in
theorem laws_FnGreatInts.calls (k : Nat) (A0 : Option Addr) (c0 : Nat) (l0 : List Int) (r : Bool) (w : World) (hr0 : Kd.C (Kd.int .u8) w A0 l0.length l0) (hc0 : l0.length ≤ c0) (h : laws_FnGreatInts.f k l0 = some r) :
    Calls Try.prog 13 #[.slice A0 l0.length c0] w fun e w' => e = .returned (.bool r) ∧ Below w.heap.size w w' := by
  have HR0 := Aside0.mk hr0
  have HC0 := Aside0.mk hc0
  clear hr0 hc0
  have HB := Aside0.mk (Below.refl w.heap.size w)
  have H : ((laws_big.f l0).bind fun t1207 => (if t1207 = true then (some true) else ((spec_DrawPlaces.f k l0).bind fun t1208 => (if 0 < (t1208.length : Int) then (if 1 < (t1208.length : Int) then (if 2 < (t1208.length : Int) then ((impl_GreatOf.f k (wrap64 ((wrap64 ((wrap64 ((rd t1208 0) * 100000000)) + (wrap64 ((rd t1208 1) * 10000)))) + (rd t1208 2)))).bind fun t1214 => ((impl_GreatInt.f k t1214).bind fun bt1215 => ((impl_BitsOf.f k t1214).bind fun t1217 => (laws_FnGreatInts.l0 k l0 (wrap64 ((wrap64 ((wrap64 ((rd t1208 0) * 100000000)) + (wrap64 ((rd t1208 1) * 10000)))) + (rd t1208 2))) t1214 bt1215.1 bt1215.2 0 (wrap64 (t1217 - 1)))))) else (none)) else (none)) else (none))))) = some r := h
  clear h
  replace H := Option.bind_eq_some_iff.mp H
  obtain ⟨t1207, A20, H⟩ := H
  have A2 := Aside0.mk A20
  clear A20
  by_cases c3 : t1207 = true
  · subst c3
    have H1 : (some true) = some r := by rw [if_pos rfl] at H; exact H
    clear H
    have H := H1
    clear H1
    obtain rfl := Option.some.inj H
    go_enter Try.func13, Try.ntmps13
    go_wp2_with (first | (go_at_call 37; (with_reducible refine (laws_big.calls _ _ l0 true _ ?side1 ?side2 A2.out).mono ?_); (case side1 => exact pC_ HR0.out); (case side2 => exact HC0.out); rintro e w' ⟨rfl, ⟨nd, rfl⟩⟩; (try first | exact ⟨rfl, _, World.drewN_drewN _ _ _⟩ | exact ⟨rfl, _, Eq.trans (World.drewN_drewN _ _ _) (congrArg (World.drewN _) (Nat.add_assoc _ _ _))⟩)))
    repeat (go_quiet (first | (go_at_call 37; (with_reducible refine (laws_big.calls _ _ l0 true _ ?side1 ?side2 A2.out).mono ?_); (case side1 => exact pC_ HR0.out); (case side2 => exact HC0.out); rintro e w' ⟨rfl, ⟨nd, rfl⟩⟩; (try first | exact ⟨rfl, _, World.drewN_drewN _ _ _⟩ | exact ⟨rfl, _, Eq.trans (World.drewN_drewN _ _ _) (congrArg (World.drewN _) (Nat.add_assoc _ _ _))⟩))); try go_wp2_with (first | (go_at_call 37; (with_reducible refine (laws_big.calls _ _ l0 true _ ?side1 ?side2 A2.out).mono ?_); (case side1 => exact pC_ HR0.out); (case side2 => exact HC0.out); rintro e w' ⟨rfl, ⟨nd, rfl⟩⟩; (try first | exact ⟨rfl, _, World.drewN_drewN _ _ _⟩ | exact ⟨rfl, _, Eq.trans (World.drewN_drewN _ _ _) (congrArg (World.drewN _) (Nat.add_assoc _ _ _))⟩))))
    go_ret
    exact ⟨by first | rfl | (simp [errW_none, errW_some] <;> rfl) | (simp [*, errW_none, errW_some] <;> rfl), pB_ HB.out⟩
  · replace c3 := Bool.eq_false_iff.mpr c3
    subst c3
    have H1 : ((spec_DrawPlaces.f k l0).bind fun t1208 => (if 0 < (t1208.length : Int) then (if 1 < (t1208.length : Int) then (if 2 < (t1208.length : Int) then ((impl_GreatOf.f k (wrap64 ((wrap64 ((wrap64 ((rd t1208 0) * 100000000)) + (wrap64 ((rd t1208 1) * 10000)))) + (rd t1208 2)))).bind fun t1214 => ((impl_GreatInt.f k t1214).bind fun bt1215 => ((impl_BitsOf.f k t1214).bind fun t1217 => (laws_FnGreatInts.l0 k l0 (wrap64 ((wrap64 ((wrap64 ((rd t1208 0) * 100000000)) + (wrap64 ((rd t1208 1) * 10000)))) + (rd t1208 2))) t1214 bt1215.1 bt1215.2 0 (wrap64 (t1217 - 1)))))) else (none)) else (none)) else (none))) = some r := by rw [if_neg (show ¬ (false = true) by decide)] at H; exact H
    clear H
    have H := H1
    clear H1
    replace H := Option.bind_eq_some_iff.mp H
    obtain ⟨t1208, A40, H⟩ := H
    have A4 := Aside0.mk A40
    clear A40
    by_cases c5 : 0 < (t1208.length : Int)
    rotate_left
    · rw [if_neg c5] at H
      exact absurd H (by simp)

    rw [if_pos c5] at H
    have c5b0 : decide (0 < (t1208.length : Int)) = true := decide_eq_true c5
    have c5b1 : decide (0 < t1208.length) = true := decide_eq_true (by omega)
    clear c5
    by_cases c6 : 1 < (t1208.length : Int)
    rotate_left
    · rw [if_neg c6] at H; exact absurd H (by simp)
    rw [if_pos c6] at H
    have c6b0 : decide (1 < (t1208.length : Int)) = true := decide_eq_true c6
    have c6b1 : decide (1 < t1208.length) = true := decide_eq_true (by omega)
    clear c6
    by_cases c7 : 2 < (t1208.length : Int)
    rotate_left
    · rw [if_neg c7] at H; exact absurd H (by simp)
    rw [if_pos c7] at H
    have c7b0 : decide (2 < (t1208.length : Int)) = true := decide_eq_true c7
    have c7b1 : decide (2 < t1208.length) = true := decide_eq_true (by omega)
    clear c7
    replace H := Option.bind_eq_some_iff.mp H
    obtain ⟨t1214, A80, H⟩ := H
    have A8 := Aside0.mk A80
    clear A80
    replace H := Option.bind_eq_some_iff.mp H
    obtain ⟨⟨t1215, t1216⟩, A90, H⟩ := H
    replace H : ((impl_BitsOf.f k t1214).bind fun t1217 => (laws_FnGreatInts.l0 k l0 (wrap64 ((wrap64 ((wrap64 ((rd t1208 0) * 100000000)) + (wrap64 ((rd t1208 1) * 10000)))) + (rd t1208 2))) t1214 t1215 t1216 0 (wrap64 (t1217 - 1)))) = some r := H
    have A9 := Aside0.mk A90
    clear A90
    replace H := Option.bind_eq_some_iff.mp H
    obtain ⟨t1217, A100, H⟩ := H
    have A10 := Aside0.mk A100
    clear A100
    have HC11 := Aside0.mk H
    clear H
    go_enter Try.func13, Try.ntmps13
    go_upto_block 0 with (first | (go_at_call 37; (with_reducible refine (laws_big.calls _ _ l0 false _ ?side1 ?side2 A2.out).mono ?_); (case side1 => exact pC_ HR0.out); (case side2 => exact HC0.out); rintro e w' ⟨rfl, ⟨nd, rfl⟩⟩; (try first | exact ⟨rfl, _, World.drewN_drewN _ _ _⟩ | exact ⟨rfl, _, Eq.trans (World.drewN_drewN _ _ _) (congrArg (World.drewN _) (Nat.add_assoc _ _ _))⟩)) | (go_at_call 38; (with_reducible refine (spec_DrawPlaces.calls k _ _ l0 t1208 _ ?side1 ?side2 A4.out).mono ?_); (case side1 => exact pC_ HR0.out); (case side2 => exact HC0.out); rintro e w12 ⟨v1209, rfl, ho0, hb⟩; have HO1210 := Aside0.mk (Kd.R_lower ho0 (below_size (pB_ HB.out))); replace HB := Aside0.mk (below_step (pB_ HB.out) hb); clear hb ho0; obtain ⟨Ao13, co13, eo13⟩ := Kd.R_slice HO1210.out; subst eo13; have p1211 : 0 ≤ (0 : Int) := (by omega); have q1211 : 0 < (t1208.length : Int) := od_; obtain ⟨ad1211, e1211, hx1211_0⟩ := Kd.at_int (Kd.R_reads' HO1210.out).2.2 0 p1211 q1211; cases e1211; have qi1211 : (0 < t1208.length) = True := eq_true (by omega); (try rw [show ((0 : Int)).toNat = 0 from rfl] at hx1211_0); (try rw [Addr.add_zero'] at hx1211_0); replace p1211 := eq_true p1211; replace q1211 := eq_true q1211; have p1212 : 0 ≤ (1 : Int) := (by omega); have q1212 : 1 < (t1208.length : Int) := od_; obtain ⟨ad1212, e1212, hx1212_0⟩ := Kd.at_int (Kd.R_reads' HO1210.out).2.2 1 p1212 q1212; obtain rfl : ad1211 = ad1212 := (by injection e1212); (try simp only [show (1 : Int).toNat = 1 from rfl, Nat.reduceMul, Nat.reduceEqDiff, Go.Addr.add, ↓reduceIte] at hx1212_0); have qi1212 : (1 < t1208.length) = True := eq_true (by omega); (try rw [show ((1 : Int)).toNat = 1 from rfl] at hx1212_0); replace p1212 := eq_true p1212; replace q1212 := eq_true q1212; have p1213 : 0 ≤ (2 : Int) := (by omega); have q1213 : 2 < (t1208.length : Int) := od_; obtain ⟨ad1213, e1213, hx1213_0⟩ := Kd.at_int (Kd.R_reads' HO1210.out).2.2 2 p1213 q1213; obtain rfl : ad1211 = ad1213 := (by injection e1213); (try simp only [show (2 : Int).toNat = 2 from rfl, Nat.reduceMul, Nat.reduceEqDiff, Go.Addr.add, ↓reduceIte] at hx1213_0); have qi1213 : (2 < t1208.length) = True := eq_true (by omega); (try rw [show ((2 : Int)).toNat = 2 from rfl] at hx1213_0); replace p1213 := eq_true p1213; replace q1213 := eq_true q1213) | (go_at_call 39; (with_reducible refine (impl_GreatOf.calls k (wrap64 ((wrap64 ((wrap64 ((rd t1208 0) * 100000000)) + (wrap64 ((rd t1208 1) * 10000)))) + (rd t1208 2))) t1214 _ A8.out).mono ?_); rintro e w14 ⟨rfl, hb⟩; replace HO1210 := Aside0.mk (Kd.R_below (pR_ HO1210.out) hb); replace HB := Aside0.mk (below_step (pB_ HB.out) hb); clear hb) | (go_at_call 40; (with_reducible refine (impl_GreatInt.calls k t1214 t1215 t1216 _ A9.out).mono ?_); rintro e w15 ⟨rfl, hb⟩; replace HO1210 := Aside0.mk (Kd.R_below (pR_ HO1210.out) hb); replace HB := Aside0.mk (below_step (pB_ HB.out) hb); clear hb) | (go_at_call 41; (with_reducible refine (impl_BitsOf.calls k t1214 t1217 _ A10.out).mono ?_); rintro e w16 ⟨rfl, hb⟩; replace HO1210 := Aside0.mk (Kd.R_below (pR_ HO1210.out) hb); replace HB := Aside0.mk (below_step (pB_ HB.out) hb); clear hb))
    repeat (go_quiet (first | (go_at_call 37; (with_reducible refine (laws_big.calls _ _ l0 false _ ?side1 ?side2 A2.out).mono ?_); (case side1 => exact pC_ HR0.out); (case side2 => exact HC0.out); rintro e w' ⟨rfl, ⟨nd, rfl⟩⟩; (try first | exact ⟨rfl, _, World.drewN_drewN _ _ _⟩ | exact ⟨rfl, _, Eq.trans (World.drewN_drewN _ _ _) (congrArg (World.drewN _) (Nat.add_assoc _ _ _))⟩)) | (go_at_call 38; (with_reducible refine (spec_DrawPlaces.calls k _ _ l0 t1208 _ ?side1 ?side2 A4.out).mono ?_); (case side1 => exact pC_ HR0.out); (case side2 => exact HC0.out); rintro e w12 ⟨v1209, rfl, ho0, hb⟩; have HO1210 := Aside0.mk (Kd.R_lower ho0 (below_size (pB_ HB.out))); replace HB := Aside0.mk (below_step (pB_ HB.out) hb); clear hb ho0; obtain ⟨Ao13, co13, eo13⟩ := Kd.R_slice HO1210.out; subst eo13; have p1211 : 0 ≤ (0 : Int) := (by omega); have q1211 : 0 < (t1208.length : Int) := od_; obtain ⟨ad1211, e1211, hx1211_0⟩ := Kd.at_int (Kd.R_reads' HO1210.out).2.2 0 p1211 q1211; cases e1211; have qi1211 : (0 < t1208.length) = True := eq_true (by omega); (try rw [show ((0 : Int)).toNat = 0 from rfl] at hx1211_0); (try rw [Addr.add_zero'] at hx1211_0); replace p1211 := eq_true p1211; replace q1211 := eq_true q1211; have p1212 : 0 ≤ (1 : Int) := (by omega); have q1212 : 1 < (t1208.length : Int) := od_; obtain ⟨ad1212, e1212, hx1212_0⟩ := Kd.at_int (Kd.R_reads' HO1210.out).2.2 1 p1212 q1212; obtain rfl : ad1211 = ad1212 := (by injection e1212); (try simp only [show (1 : Int).toNat = 1 from rfl, Nat.reduceMul, Nat.reduceEqDiff, Go.Addr.add, ↓reduceIte] at hx1212_0); have qi1212 : (1 < t1208.length) = True := eq_true (by omega); (try rw [show ((1 : Int)).toNat = 1 from rfl] at hx1212_0); replace p1212 := eq_true p1212; replace q1212 := eq_true q1212; have p1213 : 0 ≤ (2 : Int) := (by omega); have q1213 : 2 < (t1208.length : Int) := od_; obtain ⟨ad1213, e1213, hx1213_0⟩ := Kd.at_int (Kd.R_reads' HO1210.out).2.2 2 p1213 q1213; obtain rfl : ad1211 = ad1213 := (by injection e1213); (try simp only [show (2 : Int).toNat = 2 from rfl, Nat.reduceMul, Nat.reduceEqDiff, Go.Addr.add, ↓reduceIte] at hx1213_0); have qi1213 : (2 < t1208.length) = True := eq_true (by omega); (try rw [show ((2 : Int)).toNat = 2 from rfl] at hx1213_0); replace p1213 := eq_true p1213; replace q1213 := eq_true q1213) | (go_at_call 39; (with_reducible refine (impl_GreatOf.calls k (wrap64 ((wrap64 ((wrap64 ((rd t1208 0) * 100000000)) + (wrap64 ((rd t1208 1) * 10000)))) + (rd t1208 2))) t1214 _ A8.out).mono ?_); rintro e w14 ⟨rfl, hb⟩; replace HO1210 := Aside0.mk (Kd.R_below (pR_ HO1210.out) hb); replace HB := Aside0.mk (below_step (pB_ HB.out) hb); clear hb) | (go_at_call 40; (with_reducible refine (impl_GreatInt.calls k t1214 t1215 t1216 _ A9.out).mono ?_); rintro e w15 ⟨rfl, hb⟩; replace HO1210 := Aside0.mk (Kd.R_below (pR_ HO1210.out) hb); replace HB := Aside0.mk (below_step (pB_ HB.out) hb); clear hb) | (go_at_call 41; (with_reducible refine (impl_BitsOf.calls k t1214 t1217 _ A10.out).mono ?_); rintro e w16 ⟨rfl, hb⟩; replace HO1210 := Aside0.mk (Kd.R_below (pR_ HO1210.out) hb); replace HB := Aside0.mk (below_step (pB_ HB.out) hb); clear hb)); go_upto_block 0 with (first | (go_at_call 37; (with_reducible refine (laws_big.calls _ _ l0 false _ ?side1 ?side2 A2.out).mono ?_); (case side1 => exact pC_ HR0.out); (case side2 => exact HC0.out); rintro e w' ⟨rfl, ⟨nd, rfl⟩⟩; (try first | exact ⟨rfl, _, World.drewN_drewN _ _ _⟩ | exact ⟨rfl, _, Eq.trans (World.drewN_drewN _ _ _) (congrArg (World.drewN _) (Nat.add_assoc _ _ _))⟩)) | (go_at_call 38; (with_reducible refine (spec_DrawPlaces.calls k _ _ l0 t1208 _ ?side1 ?side2 A4.out).mono ?_); (case side1 => exact pC_ HR0.out); (case side2 => exact HC0.out); rintro e w12 ⟨v1209, rfl, ho0, hb⟩; have HO1210 := Aside0.mk (Kd.R_lower ho0 (below_size (pB_ HB.out))); replace HB := Aside0.mk (below_step (pB_ HB.out) hb); clear hb ho0; obtain ⟨Ao13, co13, eo13⟩ := Kd.R_slice HO1210.out; subst eo13; have p1211 : 0 ≤ (0 : Int) := (by omega); have q1211 : 0 < (t1208.length : Int) := od_; obtain ⟨ad1211, e1211, hx1211_0⟩ := Kd.at_int (Kd.R_reads' HO1210.out).2.2 0 p1211 q1211; cases e1211; have qi1211 : (0 < t1208.length) = True := eq_true (by omega); (try rw [show ((0 : Int)).toNat = 0 from rfl] at hx1211_0); (try rw [Addr.add_zero'] at hx1211_0); replace p1211 := eq_true p1211; replace q1211 := eq_true q1211; have p1212 : 0 ≤ (1 : Int) := (by omega); have q1212 : 1 < (t1208.length : Int) := od_; obtain ⟨ad1212, e1212, hx1212_0⟩ := Kd.at_int (Kd.R_reads' HO1210.out).2.2 1 p1212 q1212; obtain rfl : ad1211 = ad1212 := (by injection e1212); (try simp only [show (1 : Int).toNat = 1 from rfl, Nat.reduceMul, Nat.reduceEqDiff, Go.Addr.add, ↓reduceIte] at hx1212_0); have qi1212 : (1 < t1208.length) = True := eq_true (by omega); (try rw [show ((1 : Int)).toNat = 1 from rfl] at hx1212_0); replace p1212 := eq_true p1212; replace q1212 := eq_true q1212; have p1213 : 0 ≤ (2 : Int) := (by omega); have q1213 : 2 < (t1208.length : Int) := od_; obtain ⟨ad1213, e1213, hx1213_0⟩ := Kd.at_int (Kd.R_reads' HO1210.out).2.2 2 p1213 q1213; obtain rfl : ad1211 = ad1213 := (by injection e1213); (try simp only [show (2 : Int).toNat = 2 from rfl, Nat.reduceMul, Nat.reduceEqDiff, Go.Addr.add, ↓reduceIte] at hx1213_0); have qi1213 : (2 < t1208.length) = True := eq_true (by omega); (try rw [show ((2 : Int)).toNat = 2 from rfl] at hx1213_0); replace p1213 := eq_true p1213; replace q1213 := eq_true q1213) | (go_at_call 39; (with_reducible refine (impl_GreatOf.calls k (wrap64 ((wrap64 ((wrap64 ((rd t1208 0) * 100000000)) + (wrap64 ((rd t1208 1) * 10000)))) + (rd t1208 2))) t1214 _ A8.out).mono ?_); rintro e w14 ⟨rfl, hb⟩; replace HO1210 := Aside0.mk (Kd.R_below (pR_ HO1210.out) hb); replace HB := Aside0.mk (below_step (pB_ HB.out) hb); clear hb) | (go_at_call 40; (with_reducible refine (impl_GreatInt.calls k t1214 t1215 t1216 _ A9.out).mono ?_); rintro e w15 ⟨rfl, hb⟩; replace HO1210 := Aside0.mk (Kd.R_below (pR_ HO1210.out) hb); replace HB := Aside0.mk (below_step (pB_ HB.out) hb); clear hb) | (go_at_call 41; (with_reducible refine (impl_BitsOf.calls k t1214 t1217 _ A10.out).mono ?_); rintro e w16 ⟨rfl, hb⟩; replace HO1210 := Aside0.mk (Kd.R_below (pR_ HO1210.out) hb); replace HB := Aside0.mk (below_step (pB_ HB.out) hb); clear hb)))
    (try simp only [Act.put, List.setIfInBounds_toArray, List.set_cons_zero, List.set_cons_succ])
    go_cut [8] (fun v8 wc => ∃ (kq : Nat) (x8_10 : Int), v8 = .int .i64 x8_10 ∧ Aside0 (laws_FnGreatInts.j1 kq l0 (wrap64 ((wrap64 ((wrap64 ((rd t1208 0) * 100000000)) + (wrap64 ((rd t1208 1) * 10000)))) + (rd t1208 2))) t1214 t1215 t1216 x8_10 = some r) ∧ Aside0 (kq ≤ k) ∧ Aside0 (Below w.heap.size w wc))
    case first =>
      have H := HC11.out
      clear HC11
      have H' := Aside0.mk H
      clear H
      go_wp2
      repeat (go_quiet (fail); try go_wp2)
      go_loopg [8, 9] k (fun kq v8 v9 w' => ∃ (x8_1 : Int) (x9_1 : Int), v8 = .int .i64 x8_1 ∧ v9 = .int .i64 x9_1 ∧ Aside0 (laws_FnGreatInts.l0 kq l0 (wrap64 ((wrap64 ((wrap64 ((rd t1208 0) * 100000000)) + (wrap64 ((rd t1208 1) * 10000)))) + (rd t1208 2))) t1214 t1215 t1216 x8_1 x9_1 = some r) ∧ Aside0 (kq ≤ k) ∧ Aside0 (Below w.heap.size w w'))
      case atStart => exact ⟨(0), (wrap64 (t1217 - 1)), (by first | rfl | (simp; done) | (simp [*]; done)), (by first | rfl | (simp; done) | (simp [*]; done)), H', ⟨Nat.le_refl _⟩, ⟨pB_ HB.out⟩⟩
      clear H'
      try clear c1
      try clear p1
      try clear q1
      try clear hx1
      try clear qi1
      try clear p2
      try clear c3
      try clear c5
      try clear c5b0
      try clear c5b1
      try clear c6
      try clear c6b0
      try clear c6b1
      try clear p6
      try clear c7
      try clear c7b0
      try clear c7b1
      try clear p12
      try clear q12
      try clear hx12
      try clear qi12
      try clear c13
      try clear hx1211_0
      try clear hx1212_0
      try clear hx1213_0
      try clear p1211
      try clear p1212
      try clear p1213
      try clear q1211
      try clear q1212
      try clear q1213
      obtain ⟨x8_1, x9_1, rfl, rfl, HA, HK1, HB⟩ := hrel
      rcases gk with _ | k1
      · exact absurd HA.out (by simp [laws_FnGreatInts.l0])
      have H := HA.out
      clear HA
      simp only [laws_FnGreatInts.l0] at H
      by_cases c17 : x9_1 ≥ 0
      rotate_left
      · rw [if_neg c17] at H
        have c17b0 : decide (0 ≤ x9_1) = false := decide_eq_false c17
        clear c17
        (first | rw [c17b0] | (simp only [i64_w, i32_w]; rw [c17b0]) | rw [c17b1] | skip)
        have H' := Aside0.mk H
        clear H
        go_wp2
        repeat (go_quiet (fail); try go_wp2)
        go_meet
        case rel => exact ⟨_, (x8_1), (by first | rfl | (simp; done) | (simp [*]; done)), H', ⟨by have := HK1.out; first | omega | exact Nat.le_refl _⟩, ⟨pB_ HB.out⟩⟩
      rw [if_pos c17] at H
      have c17b0 : decide (0 ≤ x9_1) = true := decide_eq_true c17
      clear c17
      (first | rw [c17b0] | (simp only [i64_w, i32_w]; rw [c17b0]) | rw [c17b1] | skip)
      by_cases c18 : x9_1 < 64
      rotate_left
      · rw [if_neg c18] at H
        have c18b0 : decide (x9_1 < 64) = false := decide_eq_false c18
        clear c18
        have H' := Aside0.mk H
        clear H
        go_wp2
        repeat (go_quiet (fail); try go_wp2)
        go_meet
        case rel => exact ⟨_, (x8_1), (by first | rfl | (simp; done) | (simp [*]; done)), H', ⟨by have := HK1.out; first | omega | exact Nat.le_refl _⟩, ⟨pB_ HB.out⟩⟩
      rw [if_pos c18] at H
      have c18b0 : decide (x9_1 < 64) = true := decide_eq_true c18
      clear c18
      replace H := Option.bind_eq_some_iff.mp H
      obtain ⟨t1218, A190, H⟩ := H
      have A19 := Aside0.mk A190
      clear A190
      have H' := Aside0.mk H
      clear H
      go_wp2_with (first | (go_at_call 42; (with_reducible refine (impl_BitOf.calls k1 t1214 x9_1 t1218 _ A19.out).mono ?_); rintro e w20 ⟨rfl, hb⟩; replace HB := Aside0.mk (below_step (pB_ HB.out) hb); clear hb))
      repeat (go_quiet (first | (go_at_call 42; (with_reducible refine (impl_BitOf.calls k1 t1214 x9_1 t1218 _ A19.out).mono ?_); rintro e w20 ⟨rfl, hb⟩; replace HB := Aside0.mk (below_step (pB_ HB.out) hb); clear hb)); try go_wp2_with (first | (go_at_call 42; (with_reducible refine (impl_BitOf.calls k1 t1214 x9_1 t1218 _ A19.out).mono ?_); rintro e w20 ⟨rfl, hb⟩; replace HB := Aside0.mk (below_step (pB_ HB.out) hb); clear hb)))
      go_roundg k1
      case measure => have := HK1.out; omega
      case rel => exact ⟨(wrap64 ((wrap64 (2 * x8_1)) + t1218)), (wrap64 (x9_1 - 1)), (by first | rfl | (simp; done) | (simp [*]; done)), (by first | rfl | (simp; done) | (simp [*]; done)), H', ⟨by have := HK1.out; omega⟩, ⟨pB_ HB.out⟩⟩
    clear HC11
    try clear c1
    try clear p1
    try clear q1
    try clear hx1
    try clear qi1
    try clear p2
    try clear c3
    try clear c5
    try clear c5b0
    try clear c5b1
    try clear c6
    try clear c6b0
    try clear c6b1
    try clear p6
    try clear c7
    try clear c7b0
    try clear c7b1
    try clear p12
    try clear q12
    try clear hx12
    try clear qi12
    try clear c13
    try clear c17
    try clear c17b0
    try clear c17b1
    try clear c18
    try clear c18b0
    try clear hx1211_0
    try clear hx1212_0
    try clear hx1213_0
    try clear p1
    try clear p12
    try clear p1211
    try clear p1212
    try clear p1213
    try clear p2
    try clear p6
    try clear q1
    try clear q12
    try clear q1211
    try clear q1212
    try clear q1213
    obtain ⟨kq, x8_10, rfl, HA, HJ10, HB⟩ := hcut
    rcases kq with _ | kj10
    · exact absurd HA.out (by simp [laws_FnGreatInts.j1])
    have H := HA.out
    clear HA
    simp only [laws_FnGreatInts.j1] at H
    replace H := Option.bind_eq_some_iff.mp H
    obtain ⟨⟨t1219, t1220⟩, A210, H⟩ := H
    replace H : ((impl_CompareGreat.f kj10 t1219 t1220).bind fun t1221 => ((spec_CompareGreat.f kj10 t1219 t1220).bind fun t1222 => (if t1221 = t1222 then ((impl_CompareGreat.f kj10 t1220 t1219).bind fun t1223 => (if t1221 = (wrap64 (-t1223)) then (if t1221 = 1 then ((impl_BitsOf.f kj10 t1219).bind fun t1224 => ((impl_BitsOf.f kj10 t1220).bind fun t1225 => (laws_FnGreatInts.j2 kj10 (wrap64 ((wrap64 ((wrap64 ((rd t1208 0) * 100000000)) + (wrap64 ((rd t1208 1) * 10000)))) + (rd t1208 2))) t1214 t1215 t1216 x8_10 t1219 (decide (t1224 < t1225))))) else (laws_FnGreatInts.j2 kj10 (wrap64 ((wrap64 ((wrap64 ((rd t1208 0) * 100000000)) + (wrap64 ((rd t1208 1) * 10000)))) + (rd t1208 2))) t1214 t1215 t1216 x8_10 t1219 false)) else (laws_FnGreatInts.j2 kj10 (wrap64 ((wrap64 ((wrap64 ((rd t1208 0) * 100000000)) + (wrap64 ((rd t1208 1) * 10000)))) + (rd t1208 2))) t1214 t1215 t1216 x8_10 t1219 true))) else (laws_FnGreatInts.j2 kj10 (wrap64 ((wrap64 ((wrap64 ((rd t1208 0) * 100000000)) + (wrap64 ((rd t1208 1) * 10000)))) + (rd t1208 2))) t1214 t1215 t1216 x8_10 t1219 true)))) = some r := H
    have A21 := Aside0.mk A210
    clear A210
    replace H := Option.bind_eq_some_iff.mp H
    obtain ⟨t1221, A220, H⟩ := H
    have A22 := Aside0.mk A220
    clear A220
    have HC23 := Aside0.mk H
    clear H
    go_upto_region 14 with (first | (go_at_call 43; (with_reducible refine (spec_DrawCompareGreat.calls kj10 _ _ l0 t1219 t1220 _ ?side1 ?side2 A21.out).mono ?_); (case side1 => exact pC_ (Kd.C_below HR0.out HB.out)); (case side2 => exact HC0.out); rintro e w24 ⟨rfl, hb⟩; replace HB := Aside0.mk (below_step (pB_ HB.out) hb); clear hb) | (go_at_call 44; (with_reducible refine (impl_CompareGreat.calls kj10 t1219 t1220 t1221 _ A22.out).mono ?_); rintro e w25 ⟨rfl, hb⟩; replace HB := Aside0.mk (below_step (pB_ HB.out) hb); clear hb))
    repeat (go_quiet (first | (go_at_call 43; (with_reducible refine (spec_DrawCompareGreat.calls kj10 _ _ l0 t1219 t1220 _ ?side1 ?side2 A21.out).mono ?_); (case side1 => exact pC_ (Kd.C_below HR0.out HB.out)); (case side2 => exact HC0.out); rintro e w24 ⟨rfl, hb⟩; replace HB := Aside0.mk (below_step (pB_ HB.out) hb); clear hb) | (go_at_call 44; (with_reducible refine (impl_CompareGreat.calls kj10 t1219 t1220 t1221 _ A22.out).mono ?_); rintro e w25 ⟨rfl, hb⟩; replace HB := Aside0.mk (below_step (pB_ HB.out) hb); clear hb)); go_upto_region 14 with (first | (go_at_call 43; (with_reducible refine (spec_DrawCompareGreat.calls kj10 _ _ l0 t1219 t1220 _ ?side1 ?side2 A21.out).mono ?_); (case side1 => exact pC_ (Kd.C_below HR0.out HB.out)); (case side2 => exact HC0.out); rintro e w24 ⟨rfl, hb⟩; replace HB := Aside0.mk (below_step (pB_ HB.out) hb); clear hb) | (go_at_call 44; (with_reducible refine (impl_CompareGreat.calls kj10 t1219 t1220 t1221 _ A22.out).mono ?_); rintro e w25 ⟨rfl, hb⟩; replace HB := Aside0.mk (below_step (pB_ HB.out) hb); clear hb)))
    (try simp only [Act.put, List.setIfInBounds_toArray, List.set_cons_zero, List.set_cons_succ])
    go_cut [85] (fun v85 wc => ∃ (kq : Nat) (x85_22 : Bool), v85 = .bool x85_22 ∧ Aside0 (laws_FnGreatInts.j2 kq (wrap64 ((wrap64 ((wrap64 ((rd t1208 0) * 100000000)) + (wrap64 ((rd t1208 1) * 10000)))) + (rd t1208 2))) t1214 t1215 t1216 x8_10 t1219 x85_22 = some r) ∧ Aside0 (kq ≤ kj10) ∧ Aside0 (Below w.heap.size w wc))
    case first =>
      have H := HC23.out
      clear HC23
      replace H := Option.bind_eq_some_iff.mp H
      obtain ⟨t1222, A260, H⟩ := H
      have A26 := Aside0.mk A260
      clear A260
      by_cases c27 : t1221 = t1222
      rotate_left
      · rw [if_neg c27] at H
        have c27b0 : (t1221 == t1222) = false := beq_eq_false_iff_ne.mpr c27
        have c27b1 : (t1221 != t1222) = true := bne_iff_ne.mpr c27
        (first | rw [c27b0] | (simp only [i64_w, i32_w]; rw [c27b0]) | rw [c27b1] | skip)
        have H' := Aside0.mk H
        clear H
        go_wp2_with (first | (go_at_call 45; (with_reducible refine (spec_CompareGreat.calls kj10 t1219 t1220 t1222 _ A26.out).mono ?_); rintro e w41 ⟨rfl, hb⟩; replace HB := Aside0.mk (below_step (pB_ HB.out) hb); clear hb))
        repeat (go_quiet (first | (go_at_call 45; (with_reducible refine (spec_CompareGreat.calls kj10 t1219 t1220 t1222 _ A26.out).mono ?_); rintro e w41 ⟨rfl, hb⟩; replace HB := Aside0.mk (below_step (pB_ HB.out) hb); clear hb)); try go_wp2_with (first | (go_at_call 45; (with_reducible refine (spec_CompareGreat.calls kj10 t1219 t1220 t1222 _ A26.out).mono ?_); rintro e w41 ⟨rfl, hb⟩; replace HB := Aside0.mk (below_step (pB_ HB.out) hb); clear hb)))
        go_meet
        case rel => exact ⟨_, (true), (by first | rfl | (simp; done) | (simp [*]; done)), H', ⟨by have := HJ10.out; first | omega | exact Nat.le_refl _⟩, ⟨pB_ HB.out⟩⟩
      rw [if_pos c27] at H
      have c27b0 : (t1221 == t1222) = true := beq_iff_eq.mpr c27
      have c27b1 : (t1221 != t1222) = false := bne_eq_false_iff_eq.mpr c27
      clear c27
      (first | rw [c27b0] | (simp only [i64_w, i32_w]; rw [c27b0]) | rw [c27b1] | skip)
      replace H := Option.bind_eq_some_iff.mp H
      obtain ⟨t1223, A280, H⟩ := H
      have A28 := Aside0.mk A280
      clear A280
      by_cases c29 : t1221 = (wrap64 (-t1223))
      rotate_left
      · rw [if_neg c29] at H
        have c29b0 : (t1221 == (wrap64 (-t1223))) = false := beq_eq_false_iff_ne.mpr c29
        have c29b1 : (t1221 != (wrap64 (-t1223))) = true := bne_iff_ne.mpr c29
        have H' := Aside0.mk H
        clear H
        go_wp2_with (first | (go_at_call 45; (with_reducible refine (spec_CompareGreat.calls kj10 t1219 t1220 t1222 _ A26.out).mono ?_); rintro e w39 ⟨rfl, hb⟩; replace HB := Aside0.mk (below_step (pB_ HB.out) hb); clear hb) | (go_at_call 44; (with_reducible refine (impl_CompareGreat.calls kj10 t1220 t1219 t1223 _ A28.out).mono ?_); rintro e w40 ⟨rfl, hb⟩; replace HB := Aside0.mk (below_step (pB_ HB.out) hb); clear hb))
        repeat (go_quiet (first | (go_at_call 45; (with_reducible refine (spec_CompareGreat.calls kj10 t1219 t1220 t1222 _ A26.out).mono ?_); rintro e w39 ⟨rfl, hb⟩; replace HB := Aside0.mk (below_step (pB_ HB.out) hb); clear hb) | (go_at_call 44; (with_reducible refine (impl_CompareGreat.calls kj10 t1220 t1219 t1223 _ A28.out).mono ?_); rintro e w40 ⟨rfl, hb⟩; replace HB := Aside0.mk (below_step (pB_ HB.out) hb); clear hb)); try go_wp2_with (first | (go_at_call 45; (with_reducible refine (spec_CompareGreat.calls kj10 t1219 t1220 t1222 _ A26.out).mono ?_); rintro e w39 ⟨rfl, hb⟩; replace HB := Aside0.mk (below_step (pB_ HB.out) hb); clear hb) | (go_at_call 44; (with_reducible refine (impl_CompareGreat.calls kj10 t1220 t1219 t1223 _ A28.out).mono ?_); rintro e w40 ⟨rfl, hb⟩; replace HB := Aside0.mk (below_step (pB_ HB.out) hb); clear hb)))
        go_meet
        case rel => exact ⟨_, (true), (by first | rfl | (simp; done) | (simp [*]; done)), H', ⟨by have := HJ10.out; first | omega | exact Nat.le_refl _⟩, ⟨pB_ HB.out⟩⟩
      rw [if_pos c29] at H
      have c29b0 : (t1221 == (wrap64 (-t1223))) = true := beq_iff_eq.mpr c29
      have c29b1 : (t1221 != (wrap64 (-t1223))) = false := bne_eq_false_iff_eq.mpr c29
      clear c29
      by_cases c30 : t1221 = 1
      rotate_left
      · rw [if_neg c30] at H
        have c30b0 : (t1221 == 1) = false := beq_eq_false_iff_ne.mpr c30
        have c30b1 : (t1221 != 1) = true := bne_iff_ne.mpr c30
        have H' := Aside0.mk H
        clear H
        go_wp2_with (first | (go_at_call 45; (with_reducible refine (spec_CompareGreat.calls kj10 t1219 t1220 t1222 _ A26.out).mono ?_); rintro e w37 ⟨rfl, hb⟩; replace HB := Aside0.mk (below_step (pB_ HB.out) hb); clear hb) | (go_at_call 44; (with_reducible refine (impl_CompareGreat.calls kj10 t1220 t1219 t1223 _ A28.out).mono ?_); rintro e w38 ⟨rfl, hb⟩; replace HB := Aside0.mk (below_step (pB_ HB.out) hb); clear hb))
        repeat (go_quiet (first | (go_at_call 45; (with_reducible refine (spec_CompareGreat.calls kj10 t1219 t1220 t1222 _ A26.out).mono ?_); rintro e w37 ⟨rfl, hb⟩; replace HB := Aside0.mk (below_step (pB_ HB.out) hb); clear hb) | (go_at_call 44; (with_reducible refine (impl_CompareGreat.calls kj10 t1220 t1219 t1223 _ A28.out).mono ?_); rintro e w38 ⟨rfl, hb⟩; replace HB := Aside0.mk (below_step (pB_ HB.out) hb); clear hb)); try go_wp2_with (first | (go_at_call 45; (with_reducible refine (spec_CompareGreat.calls kj10 t1219 t1220 t1222 _ A26.out).mono ?_); rintro e w37 ⟨rfl, hb⟩; replace HB := Aside0.mk (below_step (pB_ HB.out) hb); clear hb) | (go_at_call 44; (with_reducible refine (impl_CompareGreat.calls kj10 t1220 t1219 t1223 _ A28.out).mono ?_); rintro e w38 ⟨rfl, hb⟩; replace HB := Aside0.mk (below_step (pB_ HB.out) hb); clear hb)))
        go_meet
        case rel => exact ⟨_, (false), (by first | rfl | (simp; done) | (simp [*]; done)), H', ⟨by have := HJ10.out; first | omega | exact Nat.le_refl _⟩, ⟨pB_ HB.out⟩⟩
      rw [if_pos c30] at H
      have c30b0 : (t1221 == 1) = true := beq_iff_eq.mpr c30
      have c30b1 : (t1221 != 1) = false := bne_eq_false_iff_eq.mpr c30
      clear c30
      replace H := Option.bind_eq_some_iff.mp H
      obtain ⟨t1224, A310, H⟩ := H
      have A31 := Aside0.mk A310
      clear A310
      replace H := Option.bind_eq_some_iff.mp H
      obtain ⟨t1225, A320, H⟩ := H
      have A32 := Aside0.mk A320
      clear A320
      have H' := Aside0.mk H
      clear H
      go_wp2_with (first | (go_at_call 45; (with_reducible refine (spec_CompareGreat.calls kj10 t1219 t1220 t1222 _ A26.out).mono ?_); rintro e w33 ⟨rfl, hb⟩; replace HB := Aside0.mk (below_step (pB_ HB.out) hb); clear hb) | (go_at_call 44; (with_reducible refine (impl_CompareGreat.calls kj10 t1220 t1219 t1223 _ A28.out).mono ?_); rintro e w34 ⟨rfl, hb⟩; replace HB := Aside0.mk (below_step (pB_ HB.out) hb); clear hb) | (go_at_call 41; (with_reducible refine (impl_BitsOf.calls kj10 t1219 t1224 _ A31.out).mono ?_); rintro e w35 ⟨rfl, hb⟩; replace HB := Aside0.mk (below_step (pB_ HB.out) hb); clear hb) | (go_at_call 41; (with_reducible refine (impl_BitsOf.calls kj10 t1220 t1225 _ A32.out).mono ?_); rintro e w36 ⟨rfl, hb⟩; replace HB := Aside0.mk (below_step (pB_ HB.out) hb); clear hb))
      repeat (go_quiet (first | (go_at_call 45; (with_reducible refine (spec_CompareGreat.calls kj10 t1219 t1220 t1222 _ A26.out).mono ?_); rintro e w33 ⟨rfl, hb⟩; replace HB := Aside0.mk (below_step (pB_ HB.out) hb); clear hb) | (go_at_call 44; (with_reducible refine (impl_CompareGreat.calls kj10 t1220 t1219 t1223 _ A28.out).mono ?_); rintro e w34 ⟨rfl, hb⟩; replace HB := Aside0.mk (below_step (pB_ HB.out) hb); clear hb) | (go_at_call 41; (with_reducible refine (impl_BitsOf.calls kj10 t1219 t1224 _ A31.out).mono ?_); rintro e w35 ⟨rfl, hb⟩; replace HB := Aside0.mk (below_step (pB_ HB.out) hb); clear hb) | (go_at_call 41; (with_reducible refine (impl_BitsOf.calls kj10 t1220 t1225 _ A32.out).mono ?_); rintro e w36 ⟨rfl, hb⟩; replace HB := Aside0.mk (below_step (pB_ HB.out) hb); clear hb)); try go_wp2_with (first | (go_at_call 45; (with_reducible refine (spec_CompareGreat.calls kj10 t1219 t1220 t1222 _ A26.out).mono ?_); rintro e w33 ⟨rfl, hb⟩; replace HB := Aside0.mk (below_step (pB_ HB.out) hb); clear hb) | (go_at_call 44; (with_reducible refine (impl_CompareGreat.calls kj10 t1220 t1219 t1223 _ A28.out).mono ?_); rintro e w34 ⟨rfl, hb⟩; replace HB := Aside0.mk (below_step (pB_ HB.out) hb); clear hb) | (go_at_call 41; (with_reducible refine (impl_BitsOf.calls kj10 t1219 t1224 _ A31.out).mono ?_); rintro e w35 ⟨rfl, hb⟩; replace HB := Aside0.mk (below_step (pB_ HB.out) hb); clear hb) | (go_at_call 41; (with_reducible refine (impl_BitsOf.calls kj10 t1220 t1225 _ A32.out).mono ?_); rintro e w36 ⟨rfl, hb⟩; replace HB := Aside0.mk (below_step (pB_ HB.out) hb); clear hb)))
      go_meet
      case rel => exact ⟨_, (decide (t1224 < t1225)), (by first | rfl | (simp; done) | (simp [*]; done)), H', ⟨by have := HJ10.out; first | omega | exact Nat.le_refl _⟩, ⟨pB_ HB.out⟩⟩
    clear HC23
    try clear c1
    try clear p1
    try clear q1
    try clear hx1
    try clear qi1
    try clear c2
    try clear p2
    try clear c3
    try clear c5
    try clear c5b0
    try clear c5b1
    try clear c6
    try clear c6b0
    try clear c6b1
    try clear p6
    try clear c7
    try clear c7b0
    try clear c7b1
    try clear p12
    try clear q12
    try clear hx12
    try clear qi12
    try clear c13
    try clear c17
    try clear c17b0
    try clear c17b1
    try clear c18
    try clear c18b0
    try clear c27
    try clear c27b0
    try clear c27b1
    try clear c29
    try clear c29b0
    try clear c29b1
    try clear c30
    try clear c30b0
    try clear c30b1
    try clear hx1211_0
    try clear hx1212_0
    try clear hx1213_0
    try clear p1
    try clear p12
    try clear p1211
    try clear p1212
    try clear p1213
    try clear p2
    try clear p6
    try clear q1
    try clear q12
    try clear q1211
    try clear q1212
    try clear q1213
    obtain ⟨kq, x85_22, rfl, HA, HJ22, HB⟩ := hcut
    rcases kq with _ | kj22
    · exact absurd HA.out (by simp [laws_FnGreatInts.j2])
    have H := HA.out
    clear HA
    simp only [laws_FnGreatInts.j2] at H
    by_cases c42 : x85_22 = true
    · subst c42
      have H1 : (some false) = some r := by rw [if_pos rfl] at H; exact H
      clear H
      have H := H1
      clear H1
      obtain rfl := Option.some.inj H
      go_wp2
      repeat (go_quiet (fail); try go_wp2)
      go_ret
      exact ⟨by first | rfl | (simp [errW_none, errW_some] <;> rfl) | (simp [*, errW_none, errW_some] <;> rfl), pB_ HB.out⟩
    · replace c42 := Bool.eq_false_iff.mpr c42
      subst c42
      have H1 : (if t1216 = true then (if t1215 = (wrap64 ((wrap64 ((wrap64 ((rd t1208 0) * 100000000)) + (wrap64 ((rd t1208 1) * 10000)))) + (rd t1208 2))) then (if x8_10 = (wrap64 ((wrap64 ((wrap64 ((rd t1208 0) * 100000000)) + (wrap64 ((rd t1208 1) * 10000)))) + (rd t1208 2))) then ((impl_GreatOk.f t1214).bind fun t1226 => (if t1226 = true then ((impl_BitsOf.f kj22 (⟨#[128]⟩ : ByteArray)).bind fun t1227 => (if t1227 = 8 then ((impl_GreatOk.f t1219).bind fun t1228 => ((spec_GreatOk.f t1219).bind fun t1229 => (some (t1228 == t1229)))) else (some false))) else (some false))) else (some false)) else (some false)) else (some false)) = some r := by rw [if_neg (show ¬ (false = true) by decide)] at H; exact H
      clear H
      have H := H1
      clear H1
      by_cases c43 : t1216 = true
      · subst c43
        have H1 : (if t1215 = (wrap64 ((wrap64 ((wrap64 ((rd t1208 0) * 100000000)) + (wrap64 ((rd t1208 1) * 10000)))) + (rd t1208 2))) then (if x8_10 = (wrap64 ((wrap64 ((wrap64 ((rd t1208 0) * 100000000)) + (wrap64 ((rd t1208 1) * 10000)))) + (rd t1208 2))) then ((impl_GreatOk.f t1214).bind fun t1226 => (if t1226 = true then ((impl_BitsOf.f kj22 (⟨#[128]⟩ : ByteArray)).bind fun t1227 => (if t1227 = 8 then ((impl_GreatOk.f t1219).bind fun t1228 => ((spec_GreatOk.f t1219).bind fun t1229 => (some (t1228 == t1229)))) else (some false))) else (some false))) else (some false)) else (some false)) = some r := by rw [if_pos rfl] at H; exact H
        clear H
        have H := H1
        clear H1
        by_cases c44 : t1215 = (wrap64 ((wrap64 ((wrap64 ((rd t1208 0) * 100000000)) + (wrap64 ((rd t1208 1) * 10000)))) + (rd t1208 2)))
        rotate_left
        · rw [if_neg c44] at H
          have c44b0 : (t1215 == (wrap64 ((wrap64 ((wrap64 ((rd t1208 0) * 100000000)) + (wrap64 ((rd t1208 1) * 10000)))) + (rd t1208 2)))) = false := beq_eq_false_iff_ne.mpr c44
          have c44b1 : (t1215 != (wrap64 ((wrap64 ((wrap64 ((rd t1208 0) * 100000000)) + (wrap64 ((rd t1208 1) * 10000)))) + (rd t1208 2)))) = true := bne_iff_ne.mpr c44
          obtain rfl := Option.some.inj H
          go_wp2
          repeat (go_quiet (fail); try go_wp2)
          go_ret
          exact ⟨by first | rfl | (simp [errW_none, errW_some] <;> rfl) | (simp [*, errW_none, errW_some] <;> rfl), pB_ HB.out⟩
        rw [if_pos c44] at H
        have c44b0 : (t1215 == (wrap64 ((wrap64 ((wrap64 ((rd t1208 0) * 100000000)) + (wrap64 ((rd t1208 1) * 10000)))) + (rd t1208 2)))) = true := beq_iff_eq.mpr c44
        have c44b1 : (t1215 != (wrap64 ((wrap64 ((wrap64 ((rd t1208 0) * 100000000)) + (wrap64 ((rd t1208 1) * 10000)))) + (rd t1208 2)))) = false := bne_eq_false_iff_eq.mpr c44
        clear c44
        by_cases c45 : x8_10 = (wrap64 ((wrap64 ((wrap64 ((rd t1208 0) * 100000000)) + (wrap64 ((rd t1208 1) * 10000)))) + (rd t1208 2)))
        rotate_left
        · rw [if_neg c45] at H
          have c45b0 : (x8_10 == (wrap64 ((wrap64 ((wrap64 ((rd t1208 0) * 100000000)) + (wrap64 ((rd t1208 1) * 10000)))) + (rd t1208 2)))) = false := beq_eq_false_iff_ne.mpr c45
          have c45b1 : (x8_10 != (wrap64 ((wrap64 ((wrap64 ((rd t1208 0) * 100000000)) + (wrap64 ((rd t1208 1) * 10000)))) + (rd t1208 2)))) = true := bne_iff_ne.mpr c45
          obtain rfl := Option.some.inj H
          go_wp2
          repeat (go_quiet (fail); try go_wp2)
          go_ret
          exact ⟨by first | rfl | (simp [errW_none, errW_some] <;> rfl) | (simp [*, errW_none, errW_some] <;> rfl), pB_ HB.out⟩
        rw [if_pos c45] at H
        have c45b0 : (x8_10 == (wrap64 ((wrap64 ((wrap64 ((rd t1208 0) * 100000000)) + (wrap64 ((rd t1208 1) * 10000)))) + (rd t1208 2)))) = true := beq_iff_eq.mpr c45
        have c45b1 : (x8_10 != (wrap64 ((wrap64 ((wrap64 ((rd t1208 0) * 100000000)) + (wrap64 ((rd t1208 1) * 10000)))) + (rd t1208 2)))) = false := bne_eq_false_iff_eq.mpr c45
        clear c45
        replace H := Option.bind_eq_some_iff.mp H
        obtain ⟨t1226, A460, H⟩ := H
        have A46 := Aside0.mk A460
        clear A460
        by_cases c47 : t1226 = true
        · subst c47
          have H1 : ((impl_BitsOf.f kj22 (⟨#[128]⟩ : ByteArray)).bind fun t1227 => (if t1227 = 8 then ((impl_GreatOk.f t1219).bind fun t1228 => ((spec_GreatOk.f t1219).bind fun t1229 => (some (t1228 == t1229)))) else (some false))) = some r := by rw [if_pos rfl] at H; exact H
          clear H
          have H := H1
          clear H1
          replace H := Option.bind_eq_some_iff.mp H
          obtain ⟨t1227, A480, H⟩ := H
          have A48 := Aside0.mk A480
          clear A480
          by_cases c49 : t1227 = 8
          rotate_left
          · rw [if_neg c49] at H
            have c49b0 : (t1227 == 8) = false := beq_eq_false_iff_ne.mpr c49
            have c49b1 : (t1227 != 8) = true := bne_iff_ne.mpr c49
            obtain rfl := Option.some.inj H
            go_wp2_with (first | (go_at_call 46; (with_reducible refine (impl_GreatOk.calls t1214 true _ A46.out).mono ?_); rintro e w' ⟨rfl, ⟨nd, rfl⟩⟩; (try first | exact ⟨rfl, _, World.drewN_drewN _ _ _⟩ | exact ⟨rfl, _, Eq.trans (World.drewN_drewN _ _ _) (congrArg (World.drewN _) (Nat.add_assoc _ _ _))⟩)) | (go_at_call 41; (with_reducible refine (impl_BitsOf.calls kj22 (⟨#[128]⟩ : ByteArray) t1227 _ A48.out).mono ?_); rintro e w53 ⟨rfl, hb⟩; replace HB := Aside0.mk (below_step (pB_ HB.out) hb); clear hb))
            repeat (go_quiet (first | (go_at_call 46; (with_reducible refine (impl_GreatOk.calls t1214 true _ A46.out).mono ?_); rintro e w' ⟨rfl, ⟨nd, rfl⟩⟩; (try first | exact ⟨rfl, _, World.drewN_drewN _ _ _⟩ | exact ⟨rfl, _, Eq.trans (World.drewN_drewN _ _ _) (congrArg (World.drewN _) (Nat.add_assoc _ _ _))⟩)) | (go_at_call 41; (with_reducible refine (impl_BitsOf.calls kj22 (⟨#[128]⟩ : ByteArray) t1227 _ A48.out).mono ?_); rintro e w53 ⟨rfl, hb⟩; replace HB := Aside0.mk (below_step (pB_ HB.out) hb); clear hb)); try go_wp2_with (first | (go_at_call 46; (with_reducible refine (impl_GreatOk.calls t1214 true _ A46.out).mono ?_); rintro e w' ⟨rfl, ⟨nd, rfl⟩⟩; (try first | exact ⟨rfl, _, World.drewN_drewN _ _ _⟩ | exact ⟨rfl, _, Eq.trans (World.drewN_drewN _ _ _) (congrArg (World.drewN _) (Nat.add_assoc _ _ _))⟩)) | (go_at_call 41; (with_reducible refine (impl_BitsOf.calls kj22 (⟨#[128]⟩ : ByteArray) t1227 _ A48.out).mono ?_); rintro e w53 ⟨rfl, hb⟩; replace HB := Aside0.mk (below_step (pB_ HB.out) hb); clear hb)))
            go_ret
            exact ⟨by first | rfl | (simp [errW_none, errW_some] <;> rfl) | (simp [*, errW_none, errW_some] <;> rfl), pB_ HB.out⟩
          rw [if_pos c49] at H
          have c49b0 : (t1227 == 8) = true := beq_iff_eq.mpr c49
          have c49b1 : (t1227 != 8) = false := bne_eq_false_iff_eq.mpr c49
          clear c49
          replace H := Option.bind_eq_some_iff.mp H
          obtain ⟨t1228, A500, H⟩ := H
          have A50 := Aside0.mk A500
          clear A500
          replace H := Option.bind_eq_some_iff.mp H
          obtain ⟨t1229, A510, H⟩ := H
          have A51 := Aside0.mk A510
          clear A510
          obtain rfl := Option.some.inj H
          go_wp2_with (first | (go_at_call 46; (with_reducible refine (impl_GreatOk.calls t1214 true _ A46.out).mono ?_); rintro e w' ⟨rfl, ⟨nd, rfl⟩⟩; (try first | exact ⟨rfl, _, World.drewN_drewN _ _ _⟩ | exact ⟨rfl, _, Eq.trans (World.drewN_drewN _ _ _) (congrArg (World.drewN _) (Nat.add_assoc _ _ _))⟩)) | (go_at_call 41; (with_reducible refine (impl_BitsOf.calls kj22 (⟨#[128]⟩ : ByteArray) t1227 _ A48.out).mono ?_); rintro e w52 ⟨rfl, hb⟩; replace HB := Aside0.mk (below_step (pB_ HB.out) hb); clear hb) | (go_at_call 46; (with_reducible refine (impl_GreatOk.calls t1219 t1228 _ A50.out).mono ?_); rintro e w' ⟨rfl, ⟨nd, rfl⟩⟩; (try first | exact ⟨rfl, _, World.drewN_drewN _ _ _⟩ | exact ⟨rfl, _, Eq.trans (World.drewN_drewN _ _ _) (congrArg (World.drewN _) (Nat.add_assoc _ _ _))⟩)) | (go_at_call 47; (with_reducible refine (spec_GreatOk.calls t1219 t1229 _ A51.out).mono ?_); rintro e w' ⟨rfl, ⟨nd, rfl⟩⟩; (try first | exact ⟨rfl, _, World.drewN_drewN _ _ _⟩ | exact ⟨rfl, _, Eq.trans (World.drewN_drewN _ _ _) (congrArg (World.drewN _) (Nat.add_assoc _ _ _))⟩)))
          repeat (go_quiet (first | (go_at_call 46; (with_reducible refine (impl_GreatOk.calls t1214 true _ A46.out).mono ?_); rintro e w' ⟨rfl, ⟨nd, rfl⟩⟩; (try first | exact ⟨rfl, _, World.drewN_drewN _ _ _⟩ | exact ⟨rfl, _, Eq.trans (World.drewN_drewN _ _ _) (congrArg (World.drewN _) (Nat.add_assoc _ _ _))⟩)) | (go_at_call 41; (with_reducible refine (impl_BitsOf.calls kj22 (⟨#[128]⟩ : ByteArray) t1227 _ A48.out).mono ?_); rintro e w52 ⟨rfl, hb⟩; replace HB := Aside0.mk (below_step (pB_ HB.out) hb); clear hb) | (go_at_call 46; (with_reducible refine (impl_GreatOk.calls t1219 t1228 _ A50.out).mono ?_); rintro e w' ⟨rfl, ⟨nd, rfl⟩⟩; (try first | exact ⟨rfl, _, World.drewN_drewN _ _ _⟩ | exact ⟨rfl, _, Eq.trans (World.drewN_drewN _ _ _) (congrArg (World.drewN _) (Nat.add_assoc _ _ _))⟩)) | (go_at_call 47; (with_reducible refine (spec_GreatOk.calls t1219 t1229 _ A51.out).mono ?_); rintro e w' ⟨rfl, ⟨nd, rfl⟩⟩; (try first | exact ⟨rfl, _, World.drewN_drewN _ _ _⟩ | exact ⟨rfl, _, Eq.trans (World.drewN_drewN _ _ _) (congrArg (World.drewN _) (Nat.add_assoc _ _ _))⟩))); try go_wp2_with (first | (go_at_call 46; (with_reducible refine (impl_GreatOk.calls t1214 true _ A46.out).mono ?_); rintro e w' ⟨rfl, ⟨nd, rfl⟩⟩; (try first | exact ⟨rfl, _, World.drewN_drewN _ _ _⟩ | exact ⟨rfl, _, Eq.trans (World.drewN_drewN _ _ _) (congrArg (World.drewN _) (Nat.add_assoc _ _ _))⟩)) | (go_at_call 41; (with_reducible refine (impl_BitsOf.calls kj22 (⟨#[128]⟩ : ByteArray) t1227 _ A48.out).mono ?_); rintro e w52 ⟨rfl, hb⟩; replace HB := Aside0.mk (below_step (pB_ HB.out) hb); clear hb) | (go_at_call 46; (with_reducible refine (impl_GreatOk.calls t1219 t1228 _ A50.out).mono ?_); rintro e w' ⟨rfl, ⟨nd, rfl⟩⟩; (try first | exact ⟨rfl, _, World.drewN_drewN _ _ _⟩ | exact ⟨rfl, _, Eq.trans (World.drewN_drewN _ _ _) (congrArg (World.drewN _) (Nat.add_assoc _ _ _))⟩)) | (go_at_call 47; (with_reducible refine (spec_GreatOk.calls t1219 t1229 _ A51.out).mono ?_); rintro e w' ⟨rfl, ⟨nd, rfl⟩⟩; (try first | exact ⟨rfl, _, World.drewN_drewN _ _ _⟩ | exact ⟨rfl, _, Eq.trans (World.drewN_drewN _ _ _) (congrArg (World.drewN _) (Nat.add_assoc _ _ _))⟩))))
          go_ret
          exact ⟨by first | rfl | (simp [errW_none, errW_some] <;> rfl) | (simp [*, errW_none, errW_some] <;> rfl), pB_ HB.out⟩
        · replace c47 := Bool.eq_false_iff.mpr c47
          subst c47
          have H1 : (some false) = some r := by rw [if_neg (show ¬ (false = true) by decide)] at H; exact H
          clear H
          have H := H1
          clear H1
          obtain rfl := Option.some.inj H
          go_wp2_with (first | (go_at_call 46; (with_reducible refine (impl_GreatOk.calls t1214 false _ A46.out).mono ?_); rintro e w' ⟨rfl, ⟨nd, rfl⟩⟩; (try first | exact ⟨rfl, _, World.drewN_drewN _ _ _⟩ | exact ⟨rfl, _, Eq.trans (World.drewN_drewN _ _ _) (congrArg (World.drewN _) (Nat.add_assoc _ _ _))⟩)))
          repeat (go_quiet (first | (go_at_call 46; (with_reducible refine (impl_GreatOk.calls t1214 false _ A46.out).mono ?_); rintro e w' ⟨rfl, ⟨nd, rfl⟩⟩; (try first | exact ⟨rfl, _, World.drewN_drewN _ _ _⟩ | exact ⟨rfl, _, Eq.trans (World.drewN_drewN _ _ _) (congrArg (World.drewN _) (Nat.add_assoc _ _ _))⟩))); try go_wp2_with (first | (go_at_call 46; (with_reducible refine (impl_GreatOk.calls t1214 false _ A46.out).mono ?_); rintro e w' ⟨rfl, ⟨nd, rfl⟩⟩; (try first | exact ⟨rfl, _, World.drewN_drewN _ _ _⟩ | exact ⟨rfl, _, Eq.trans (World.drewN_drewN _ _ _) (congrArg (World.drewN _) (Nat.add_assoc _ _ _))⟩))))
          go_ret
          exact ⟨by first | rfl | (simp [errW_none, errW_some] <;> rfl) | (simp [*, errW_none, errW_some] <;> rfl), pB_ HB.out⟩
      · replace c43 := Bool.eq_false_iff.mpr c43
        subst c43
        have H1 : (some false) = some r := by rw [if_neg (show ¬ (false = true) by decide)] at H; exact H
        clear H
        have H := H1
        clear H1
        obtain rfl := Option.some.inj H
        go_wp2
        repeat (go_quiet (fail); try go_wp2)
        go_ret
        exact ⟨by first | rfl | (simp [errW_none, errW_some] <;> rfl) | (simp [*, errW_none, errW_some] <;> rfl), pB_ HB.out⟩
/-- THE ONE PURE STATEMENT of laws_FnGreatInts: yours. -/
def laws_FnGreatInts.Pure : Prop := ∀ (l0 : List Int), l0.length ≤ maxLen → l0.length * 1 ≤ 140737488351232 → (∀ x ∈ l0, (Lit.int .u8 x).wf = true) → ∃ k, laws_FnGreatInts.f k l0 = some true
theorem laws_FnGreatInts.walk (P : laws_FnGreatInts.Pure) (a0 : Option Addr) (len0 cap0 : Nat) (z0 : List Int) (w : World) (w0 : (a0 = none ∧ len0 = 0 ∧ cap0 = 0 ∧ z0 = []) ∨ ∃ x, a0 = some x ∧ len0 ≤ cap0 ∧ cap0 ≤ maxLen ∧ z0.length = cap0 ∧ (∀ i, i < z0.length → w.cell? (x.add i) = some (.int .u8 (z0.getD i 0))) ∧ ∀ n ∈ z0, (Lit.int .u8 n).wf = true) (y0 : len0 * 1 ≤ 140737488351232) :
    Calls Try.prog 13 #[.slice a0 len0 cap0] w fun e w' => e = .returned (.bool true) ∧ Below w.heap.size w w' := by
  obtain ⟨l0, rfl, hr0, hm0, hw0, hc0⟩ := ReadsInt.ofRowC w0
  obtain ⟨k, h⟩ := P l0 hm0 y0 hw0
  refine (laws_FnGreatInts.calls k _ _ l0 true w (Kd.C_of_reads (d := (0 : Int)) (h1 := fun _ => rfl) hr0) hc0 h).mono ?_
  rintro e w' ⟨rfl, hd⟩
  exact ⟨rfl, hd⟩

end Go.Proofs.Ytohfimjpfnnpgaa.F
