/- The program's SamePoint answers what the reference's answers. Conditions: none beyond the given statement's. -/
import Derived.Test.YtbkcchpcadlkdaaC1
import Derived.Test.YtbkcchpcadlkdaaFx2
import Derived.Test.YtbkcchpcadlkdaaFx3
set_option linter.unusedVariables false
set_option linter.unusedSimpArgs false
namespace Go.Proofs.Ytbkcchpcadlkdaa.Pure
open Go.RowKit Go.Proofs.YtbkcchpcadlkdaaW.PrintWords Go.Proofs.YtbkcchpcadlkdaaW.PrintLast Go.Proofs.YtbkcchpcadlkdaaW.PrintMore Go.Proofs.Ytbkcchpcadlkdaa.M Go.Proofs.Ytbkcchpcadlkdaa.C Go.Proofs.Ytbkcchpcadlkdaa.F

theorem szpoint_some (z : Bool) (a b : ByteArray) (n : Int) : ∃ t, laws_szPoint.f z a b n = some t := by
  unfold laws_szPoint.f
  by_cases h : wrap64 (n - (a.size : Int)) < 0
  · rw [if_pos h]; exact ⟨_, rfl⟩
  · rw [if_neg h]
    by_cases h2 : wrap64 (wrap64 (n - (a.size : Int)) - (b.size : Int)) < 0
    · rw [if_pos h2]; exact ⟨_, rfl⟩
    · rw [if_neg h2]; exact ⟨_, rfl⟩
theorem FnExactSamePoint (z : Bool) (a b : ByteArray) (y : Bool) (c d : ByteArray) (_ : a.size ≤ 140737488351232) (_ : b.size ≤ 140737488351232) (_ : c.size ≤ 140737488351232) (_ : d.size ≤ 140737488351232) : laws_FnExactSamePoint.f z a b y c d = some true := by
  unfold laws_FnExactSamePoint.f
  obtain ⟨t, ht⟩ := szpoint_some z a b 1048576
  rw [ht, Option.bind_some]
  by_cases h0 : t < 0
  · rw [if_pos h0]
  rw [if_neg h0]
  obtain ⟨u, hu⟩ := szpoint_some y c d t
  rw [hu, Option.bind_some]
  by_cases h1 : u < 0
  · rw [if_pos h1]
  rw [if_neg h1]
  unfold laws_toPoint.f spec_SamePoint.f impl_SamePoint.f
  simp only [Option.bind_some]
  rw [if_neg (by simp)]

end Go.Proofs.Ytbkcchpcadlkdaa.Pure
