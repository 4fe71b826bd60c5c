/- The program's PartsOf answers what the reference's answers. Conditions: none beyond the given statement's. -/
import Derived.Test.YtaaimkgpeilbbaaYK0
import Derived.Test.YtaaimkgpeilbbaaZK1
set_option linter.unusedVariables false
set_option linter.unusedSimpArgs false
namespace Go.Proofs.Ytaaimkgpeilbbaa.Pure
open Go.RowKit Go.Proofs.YtaaimkgpeilbbaaW.PrintWords Go.Proofs.YtaaimkgpeilbbaaW.PrintLast Go.Proofs.YtaaimkgpeilbbaaW.PrintMore Go.Proofs.Ytaaimkgpeilbbaa.M Go.Proofs.Ytaaimkgpeilbbaa.C Go.Proofs.Ytaaimkgpeilbbaa.F

theorem FnExactPartsOf : laws_FnExactPartsOf.Pure := by
  intro a ha
  refine Av.get (g := fun k => laws_FnExactPartsOf.f k a) ?_
  unfold laws_FnExactPartsOf.f
  by_cases ca : (a.size : Int) > 1048576
  · exact Av.ifp ca Av.ret
  obtain ⟨r, r1, r2, r3⟩ := partsof a
  obtain ⟨l, m1, m2⟩ := marked r.1 (by omega)
  have he := eqs_f r.1 (by omega)
  have hb : (r.2 != r.2) = false := by simp
  refine Av.ifn ca (Av.bind r2 (Av.bind r3 (Av.bind he (Av.ifp rfl ?_))))
  rw [hb]
  refine Av.succ ?_
  simp only [laws_FnExactPartsOf.j0]
  refine Av.ifn (by decide) (Av.bind m1 (Av.bind m2 (Av.ifn (by omega) (Av.ifp rfl (Av.bind r3 (Av.bind he (Av.ifp rfl ?_)))))))
  rw [hb]
  refine Av.succ ?_
  simp only [laws_FnExactPartsOf.j1]
  exact Av.ifn (by decide) (Av.bind m2 (Av.ifn (by omega) (Av.ifp rfl Av.ret)))

end Go.Proofs.Ytaaimkgpeilbbaa.Pure
