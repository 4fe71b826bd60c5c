/- The row: for every input the law answers true; its parameters are structs by value. Conditions: none beyond the given statement's. -/
import Derived.Test.YtbkcchpcadlkdaaRows
import Derived.Test.YtbkcchpcadlkdaaFx3
import Derived.Test.YtbkcchpcadlkdaaPureFnExactSamePoint
import Derived.WalkKit
import Derived.ProofKit
import Derived.OpenShut
import Derived.ShutString
import Derived.ChangeOld
import Derived.Below
import Derived.SizedLaws
import Derived.Lib.SmallJoins
namespace Go.Proofs.Ytbkcchpcadlkdaa.fnExactSamePoint
open Go.ChangeShapes Go.WideShapes Go.ChangeAt Go.RowKit Go.Joins
open Go.ChangeMaps (open_string shut_string)
set_option linter.unusedVariables false
theorem own : ownKnob Try.prog.godebug = none := by kernel_rfl
theorem cells28 : Try.prog.cellsOf 28 = 3 := by kernel_rfl
set_option maxRecDepth 100000 in
theorem lifted (os : Os) (started : os.Started) (H : Type) (enc : TypeId × Value → H) :
    ReturnsInHanded {} Try.checked os 7 .any (Rows.fnExactSamePointSpec.pre6 enc Try.prog Try.f7 Rows.fnExactSamePointRow.domain false) (Rows.fnExactSamePointSpec.post enc Try.prog Try.f7 false true false false) := by
  refine returnsInHanded_of_change_sized (C := Try.checked) own started (by kernel_rfl) Try.func7
    (ChangeSpec.witness6 (enc := enc) (C := Try.checked) false ⟨#[], #[.agg #[.bool false, .string ByteArray.empty, .string ByteArray.empty], .agg #[.bool false, .string ByteArray.empty, .string ByteArray.empty]], []⟩ 8 (by kernel_rfl) (by kernel_rfl) (by kernel_rfl) (by kernel_rfl)) ?_
  intro W base args ds gs before hval0 hW hcnd hsz0 _
  have hsz : (DataW.weightsEach Try.prog (Try.f7.params.toList ++ Rows.fnExactSamePointSpec.plain.varTypes Try.prog) (ds ++ gs)).all (· ≤ reachBytes) = true := hsz0
  have hval : ∀ (j : Nat) t v, Try.f7.params[j]? = some t → args[j]? = some v → Value.okWide Try.prog W .any base t v := hval0
  have hW' := hW
  obtain ⟨p, q, hA0, hV, rfl, hfz, hnd⟩ := hW
  have hA : DataW.TrodAll enc Try.prog W 0 (fun _ => true) true Try.f7.params.toList args.toList ds p := hA0
  rw [Try.params7] at hA hval hsz
  obtain ⟨v0, vs0, d0, ds0, p0, q0, hargs, rfl, rfl, h0, r0⟩ := trodAll_cons hA
  obtain ⟨v1, vs1, d1, ds1, p1, q1, rfl, rfl, rfl, h1, r1⟩ := trodAll_cons r0
  obtain ⟨rfl, rfl, rfl⟩ := trodAll_nil r1
  obtain rfl : args = #[v0, v1] := by cases args; simp_all
  obtain ⟨rfl, rfl⟩ := trodVars_none hV
  obtain ⟨c0_0, c0_1, c0_2, z0_0, z0_1, z0_2, m0, rfl, rfl, rfl, hz0_0, hz0_1, hz0_2⟩ := open_agg3 Try.underlying28 (by kernel_rfl) cells28 (hval 0 28 v0 rfl rfl) h0
  obtain ⟨a0_0, e0_0, rfl⟩ := DataW.trod_bool Try.underlying4 hz0_0
  simp only [List.cons.injEq, and_true] at e0_0
  subst e0_0
  obtain ⟨a0_1, e0_1, rfl, y0_1⟩ := DataW.trod_string Try.underlying9 hz0_1
  simp only [List.cons.injEq, and_true] at e0_1
  subst e0_1
  have w0_1 : a0_1.size ≤ 140737488351232 := by
    have z := List.all_eq_true.1 hsz _ (DataW.weights_mem_each (j := 0) (t := 28) rfl rfl a0_1.data.toList.length (by simp [DataW.weights, DataW.weightsEach, Try.underlying28]))
    rw [Array.length_toList] at z
    exact of_decide_eq_true z
  obtain ⟨a0_2, e0_2, rfl, y0_2⟩ := DataW.trod_string Try.underlying9 hz0_2
  simp only [List.cons.injEq, and_true] at e0_2
  subst e0_2
  have w0_2 : a0_2.size ≤ 140737488351232 := by
    have z := List.all_eq_true.1 hsz _ (DataW.weights_mem_each (j := 0) (t := 28) rfl rfl a0_2.data.toList.length (by simp [DataW.weights, DataW.weightsEach, Try.underlying28]))
    rw [Array.length_toList] at z
    exact of_decide_eq_true z
  obtain ⟨c1_0, c1_1, c1_2, z1_0, z1_1, z1_2, m1, rfl, rfl, rfl, hz1_0, hz1_1, hz1_2⟩ := open_agg3 Try.underlying28 (by kernel_rfl) cells28 (hval 1 28 v1 rfl rfl) h1
  obtain ⟨a1_0, e1_0, rfl⟩ := DataW.trod_bool Try.underlying4 hz1_0
  simp only [List.cons.injEq, and_true] at e1_0
  subst e1_0
  obtain ⟨a1_1, e1_1, rfl, y1_1⟩ := DataW.trod_string Try.underlying9 hz1_1
  simp only [List.cons.injEq, and_true] at e1_1
  subst e1_1
  have w1_1 : a1_1.size ≤ 140737488351232 := by
    have z := List.all_eq_true.1 hsz _ (DataW.weights_mem_each (j := 1) (t := 28) rfl rfl a1_1.data.toList.length (by simp [DataW.weights, DataW.weightsEach, Try.underlying28]))
    rw [Array.length_toList] at z
    exact of_decide_eq_true z
  obtain ⟨a1_2, e1_2, rfl, y1_2⟩ := DataW.trod_string Try.underlying9 hz1_2
  simp only [List.cons.injEq, and_true] at e1_2
  subst e1_2
  have w1_2 : a1_2.size ≤ 140737488351232 := by
    have z := List.all_eq_true.1 hsz _ (DataW.weights_mem_each (j := 1) (t := 28) rfl rfl a1_2.data.toList.length (by simp [DataW.weights, DataW.weightsEach, Try.underlying28]))
    rw [Array.length_toList] at z
    exact of_decide_eq_true z
  clear hA0 hval0 hsz0 hsz
  have hk := Pure.FnExactSamePoint a0_0 a0_1 a0_2 a1_0 a1_1 a1_2 w0_1 w0_2 w1_1 w1_2
  refine (F.laws_FnExactSamePoint.calls a0_0 a0_1 a0_2 a1_0 a1_1 a1_2 true W hk).mono fun e W' ⟨he, bel⟩ => ?_
  subst he
  exact ⟨_, rfl, _, _, _, [], _, [], hW', trodAll_mk1 (shut_bool Try.underlying4 _), (trodAll_cons_mk (shut_agg3 (P := Try.prog) (y0 := (.lit (.bool a0_0), [])) (y1 := (.lit (.string a0_1.data.toList), [])) (y2 := (.lit (.string a0_2.data.toList), [])) Try.underlying28 (by kernel_rfl) cells28 ⟨1, by simp [DataW.trod, Try.underlying4]⟩ ⟨1, by simp [DataW.trod, Try.underlying9, y0_1]⟩ ⟨1, by simp [DataW.trod, Try.underlying9, y0_2]⟩) (trodAll_cons_mk (shut_agg3 (P := Try.prog) (y0 := (.lit (.bool a1_0), [])) (y1 := (.lit (.string a1_1.data.toList), [])) (y2 := (.lit (.string a1_2.data.toList), [])) Try.underlying28 (by kernel_rfl) cells28 ⟨1, by simp [DataW.trod, Try.underlying4]⟩ ⟨1, by simp [DataW.trod, Try.underlying9, y1_1]⟩ ⟨1, by simp [DataW.trod, Try.underlying9, y1_2]⟩) trodAll_mk0)), rfl, bel.frame _, fun h => by cases h⟩
theorem over : Rows.fnExactSamePointRow.holds Try.pinned (OpenSpec.ofChange Rows.fnExactSamePointSpec) :=
  OpenClaim.holds_of_wide 7 Try.f7 rfl rfl rfl rfl rfl rfl rfl ⟨rfl, rfl, rfl, rfl, rfl⟩ rfl rfl rfl rfl rfl (by kernel_rfl) Try.func7 (by kernel_rfl)
    (of_decide_eq_true (by kernel_rfl)) (by unfold Func.isWrapper; first | (rw [if_pos (by decide +kernel)]; kernel_rfl) | (rw [if_neg (by decide +kernel)]; exact ⟨rfl, rfl⟩))
    (fun os started H enc _ => lifted os started H enc)
theorem proved : Rows.FnExactSamePointSaid := over
#print axioms proved
end Go.Proofs.Ytbkcchpcadlkdaa.fnExactSamePoint
namespace Go.Proofs.Ytbkcchpcadlkdaa
/-- The row, under a short name, for the claim. -/
theorem fnExactSamePoint_holds : Rows.FnExactSamePointSaid := fnExactSamePoint.proved
end Go.Proofs.Ytbkcchpcadlkdaa
