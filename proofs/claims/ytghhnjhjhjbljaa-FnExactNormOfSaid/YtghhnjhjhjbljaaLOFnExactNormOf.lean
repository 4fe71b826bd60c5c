/- The row: for every input the law answers true; its parameters are structs by value. Conditions: none beyond the given statement's. -/
import Derived.Test.YtghhnjhjhjbljaaRows
import Derived.Test.YtghhnjhjhjbljaaPOFnExactNormOf
import Derived.WalkKit
import Derived.ProofKit
import Derived.OpenShut
import Derived.ShutString
import Derived.ChangeOld
import Derived.Below
import Derived.SizedLaws
import Derived.Lib.SmallJoins
namespace Go.Proofs.Ytghhnjhjhjbljaa.fnExactNormOf
open Go.ChangeShapes Go.WideShapes Go.ChangeAt Go.RowKit Go.Joins
open Go.ChangeMaps (open_string shut_string)
set_option linter.unusedVariables false
theorem own : ownKnob Try.prog.godebug = none := by kernel_rfl
theorem cells31 : Try.prog.cellsOf 31 = 2 := by kernel_rfl
set_option maxRecDepth 100000 in
theorem lifted (os : Os) (started : os.Started) (H : Type) (enc : TypeId × Value → H) :
    ReturnsInHanded {} Try.checked os 10 .any (Rows.fnExactNormOfSpec.pre6 enc Try.prog Try.f10 Rows.fnExactNormOfRow.domain false) (Rows.fnExactNormOfSpec.post enc Try.prog Try.f10 false true false false) := by
  refine returnsInHanded_of_change_sized (C := Try.checked) own started (by kernel_rfl) Try.func10
    (ChangeSpec.witness6 (enc := enc) (C := Try.checked) false ⟨#[], #[.agg #[.string ByteArray.empty, .string ByteArray.empty], .string ByteArray.empty], []⟩ 8 (by kernel_rfl) (by kernel_rfl) (by kernel_rfl) (by kernel_rfl)) ?_
  intro W base args ds gs before hval0 hW hcnd hsz0 _
  have hsz : (DataW.weightsEach Try.prog (Try.f10.params.toList ++ Rows.fnExactNormOfSpec.plain.varTypes Try.prog) (ds ++ gs)).all (· ≤ reachBytes) = true := hsz0
  have hval : ∀ (j : Nat) t v, Try.f10.params[j]? = some t → args[j]? = some v → Value.okWide Try.prog W .any base t v := hval0
  have hW' := hW
  obtain ⟨p, q, hA0, hV, rfl, hfz, hnd⟩ := hW
  have hA : DataW.TrodAll enc Try.prog W 0 (fun _ => true) true Try.f10.params.toList args.toList ds p := hA0
  rw [Try.params10] at hA hval hsz
  obtain ⟨v0, vs0, d0, ds0, p0, q0, hargs, rfl, rfl, h0, r0⟩ := trodAll_cons hA
  obtain ⟨v1, vs1, d1, ds1, p1, q1, rfl, rfl, rfl, h1, r1⟩ := trodAll_cons r0
  obtain ⟨rfl, rfl, rfl⟩ := trodAll_nil r1
  obtain rfl : args = #[v0, v1] := by cases args; simp_all
  obtain ⟨rfl, rfl⟩ := trodVars_none hV
  obtain ⟨c0_0, c0_1, z0_0, z0_1, m0, rfl, rfl, rfl, hz0_0, hz0_1⟩ := open_agg2 Try.underlying31 (by kernel_rfl) cells31 (hval 0 31 v0 rfl rfl) h0
  obtain ⟨a0_0, e0_0, rfl, y0_0⟩ := DataW.trod_string Try.underlying9 hz0_0
  simp only [List.cons.injEq, and_true] at e0_0
  subst e0_0
  have w0_0 : a0_0.size ≤ 140737488351232 := by
    have z := List.all_eq_true.1 hsz _ (DataW.weights_mem_each (j := 0) (t := 31) rfl rfl a0_0.data.toList.length (by simp [DataW.weights, DataW.weightsEach, Try.underlying31]))
    rw [Array.length_toList] at z
    exact of_decide_eq_true z
  obtain ⟨a0_1, e0_1, rfl, y0_1⟩ := DataW.trod_string Try.underlying9 hz0_1
  simp only [List.cons.injEq, and_true] at e0_1
  subst e0_1
  have w0_1 : a0_1.size ≤ 140737488351232 := by
    have z := List.all_eq_true.1 hsz _ (DataW.weights_mem_each (j := 0) (t := 31) rfl rfl a0_1.data.toList.length (by simp [DataW.weights, DataW.weightsEach, Try.underlying31]))
    rw [Array.length_toList] at z
    exact of_decide_eq_true z
  obtain ⟨a1, rfl, rfl, rfl, y1⟩ := open_string Try.underlying9 (hval 1 9 v1 rfl rfl) h1
  have w1 : a1.size ≤ 140737488351232 := by
    have z := sized_string hsz (j := 1) (t := 9) rfl rfl
    rw [Array.length_toList] at z
    exact z
  clear hA0 hval0 hsz0 hsz
  obtain ⟨k, hk⟩ := Pure.FnExactNormOf a0_0 a0_1 a1 w0_0 w0_1 w1
  refine (F.laws_FnExactNormOf.calls k a0_0 a0_1 a1 true W hk).mono fun e W' ⟨he, bel⟩ => ?_
  subst he
  exact ⟨_, rfl, _, _, _, [], _, [], hW', trodAll_mk1 (shut_bool Try.underlying4 _), (trodAll_cons_mk (shut_agg2 (P := Try.prog) (y0 := (.lit (.string a0_0.data.toList), [])) (y1 := (.lit (.string a0_1.data.toList), [])) Try.underlying31 (by kernel_rfl) cells31 ⟨1, by simp [DataW.trod, Try.underlying9, y0_0]⟩ ⟨1, by simp [DataW.trod, Try.underlying9, y0_1]⟩) (trodAll_cons_mk (shut_string Try.underlying9 y1) trodAll_mk0)), rfl, bel.frame _, fun h => by cases h⟩
theorem over : Rows.fnExactNormOfRow.holds Try.pinned (OpenSpec.ofChange Rows.fnExactNormOfSpec) :=
  OpenClaim.holds_of_wide 10 Try.f10 rfl rfl rfl rfl rfl rfl rfl ⟨rfl, rfl, rfl, rfl, rfl⟩ rfl rfl rfl rfl rfl (by kernel_rfl) Try.func10 (by kernel_rfl)
    (of_decide_eq_true (by kernel_rfl)) (by unfold Func.isWrapper; first | (rw [if_pos (by decide +kernel)]; kernel_rfl) | (rw [if_neg (by decide +kernel)]; exact ⟨rfl, rfl⟩))
    (fun os started H enc _ => lifted os started H enc)
theorem proved : Rows.FnExactNormOfSaid := over
#print axioms proved
end Go.Proofs.Ytghhnjhjhjbljaa.fnExactNormOf
namespace Go.Proofs.Ytghhnjhjhjbljaa
/-- The row, under a short name, for the claim. -/
theorem fnExactNormOf_holds : Rows.FnExactNormOfSaid := fnExactNormOf.proved
end Go.Proofs.Ytghhnjhjhjbljaa
