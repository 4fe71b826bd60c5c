/- The program's NormOf answers what the reference's answers. Conditions: none beyond the given statement's. -/
import Derived.Test.YtghhnjhjhjbljaaYO4
import Derived.Test.YtghhnjhjhjbljaaZO9
set_option linter.unusedVariables false
set_option linter.unusedSimpArgs false
namespace Go.Proofs.Ytghhnjhjhjbljaa.Pure
open Go.RowKit Go.Proofs.YtghhnjhjhjbljaaW.PrintWords Go.Proofs.YtghhnjhjhjbljaaW.PrintLast Go.Proofs.YtghhnjhjhjbljaaW.PrintMore Go.Proofs.Ytghhnjhjhjbljaa.M Go.Proofs.Ytghhnjhjhjbljaa.C Go.Proofs.Ytghhnjhjhjbljaa.F

theorem FnExactNormOf (a b p : ByteArray) (ha : a.size ≤ 140737488351232) (hb : b.size ≤ 140737488351232) (hp : p.size ≤ 140737488351232) : ∃ k, laws_FnExactNormOf.f k a b p = some true := by
  refine Av.get (g := fun k => laws_FnExactNormOf.f k a b p) ?_
  unfold laws_FnExactNormOf.f
  by_cases cp : (p.size : Int) > 1048576
  · exact Av.ifp cp Av.ret
  obtain ⟨t, ht⟩ := szpair_some a b 1048576
  refine Av.ifn cp (Av.bindc ht ?_)
  by_cases h0 : t < 0
  · exact Av.ifp h0 Av.ret
  refine Av.ifn h0 (Av.bindc rfl ?_)
  exact Av.bind (normof_s a b p) (Av.bindc rfl (Av.bind (normof_f a b p (by omega)) (Av.ifp rfl Av.ret)))

end Go.Proofs.Ytghhnjhjhjbljaa.Pure
