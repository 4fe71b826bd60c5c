/- The program's SubRest answers what the reference's answers. Conditions: none beyond the given statement's. -/
import Derived.Test.YtohfimjpfnnpgaaYA1
import Derived.Test.YtohfimjpfnnpgaaZA4
set_option linter.unusedVariables false
set_option linter.unusedSimpArgs false
namespace Go.Proofs.Ytohfimjpfnnpgaa.Pure
open Go.RowKit Go.Proofs.YtohfimjpfnnpgaaW.PrintWords Go.Proofs.YtohfimjpfnnpgaaW.PrintLast Go.Proofs.YtohfimjpfnnpgaaW.PrintMore Go.Proofs.Ytohfimjpfnnpgaa.M Go.Proofs.Ytohfimjpfnnpgaa.C Go.Proofs.Ytohfimjpfnnpgaa.F

theorem FnExactSubRest : laws_FnExactSubRest.Pure := by
  intro a b p ha hb hp
  refine Av.get (g := fun k => laws_FnExactSubRest.f k a b p) ?_
  unfold laws_FnExactSubRest.f
  by_cases ca : (a.size : Int) > 1048576
  · exact Av.ifp ca Av.ret
  refine Av.ifn ca ?_
  by_cases cb : (b.size : Int) > 1048576
  · exact Av.ifp cb Av.ret
  refine Av.ifn cb ?_
  by_cases cp : (p.size : Int) > 1048576
  · exact Av.ifp cp Av.ret
  refine Av.ifn cp ?_
  exact Av.bind (subrest_s a b p) (Av.bind (subrest_f a b p (by omega)) (Av.ifp rfl Av.ret))

end Go.Proofs.Ytohfimjpfnnpgaa.Pure
