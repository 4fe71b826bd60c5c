/- The program's NegRest answers what the reference's answers. Conditions: none beyond the given statement's. -/
import Derived.Test.YtohfimjpfnnpgaaYA1
import Derived.Test.YtohfimjpfnnpgaaZA4
set_option linter.unusedVariables false
set_option linter.unusedSimpArgs false
namespace Go.Proofs.Ytohfimjpfnnpgaa.Pure
open Go.RowKit Go.Proofs.YtohfimjpfnnpgaaW.PrintWords Go.Proofs.YtohfimjpfnnpgaaW.PrintLast Go.Proofs.YtohfimjpfnnpgaaW.PrintMore Go.Proofs.Ytohfimjpfnnpgaa.M Go.Proofs.Ytohfimjpfnnpgaa.C Go.Proofs.Ytohfimjpfnnpgaa.F

theorem FnExactNegRest : laws_FnExactNegRest.Pure := by
  intro a p ha hp
  refine Av.get (g := fun k => laws_FnExactNegRest.f k a p) ?_
  unfold laws_FnExactNegRest.f
  by_cases ca : (a.size : Int) > 1048576
  · exact Av.ifp ca Av.ret
  refine Av.ifn ca ?_
  by_cases cp : (p.size : Int) > 1048576
  · exact Av.ifp cp Av.ret
  refine Av.ifn cp ?_
  exact Av.bind (negrest_s a p) (Av.bind (negrest_f a p (by omega)) (Av.ifp rfl Av.ret))

end Go.Proofs.Ytohfimjpfnnpgaa.Pure
