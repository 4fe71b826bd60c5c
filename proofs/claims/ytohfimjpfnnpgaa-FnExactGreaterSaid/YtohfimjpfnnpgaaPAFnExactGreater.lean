/- The program's Greater answers what the reference's answers. Conditions: none beyond the given statement's. -/
import Derived.Test.YtohfimjpfnnpgaaYA1
import Derived.Test.YtohfimjpfnnpgaaZA3
set_option linter.unusedVariables false
set_option linter.unusedSimpArgs false
namespace Go.Proofs.Ytohfimjpfnnpgaa.Pure
open Go.RowKit Go.Proofs.YtohfimjpfnnpgaaW.PrintWords Go.Proofs.YtohfimjpfnnpgaaW.PrintLast Go.Proofs.YtohfimjpfnnpgaaW.PrintMore Go.Proofs.Ytohfimjpfnnpgaa.M Go.Proofs.Ytohfimjpfnnpgaa.C Go.Proofs.Ytohfimjpfnnpgaa.F

theorem FnExactGreater : laws_FnExactGreater.Pure := by
  intro a p ha hp
  refine Av.get (g := fun k => laws_FnExactGreater.f k a p) ?_
  unfold laws_FnExactGreater.f
  by_cases ca : (a.size : Int) > 1048576
  · exact Av.ifp ca Av.ret
  refine Av.ifn ca ?_
  by_cases cp : (p.size : Int) > 1048576
  · exact Av.ifp cp Av.ret
  refine Av.ifn cp ?_
  exact Av.bind (greater_s a p) (Av.bind (greater_f a p (by omega)) (Av.ifn (by simp) Av.ret))

end Go.Proofs.Ytohfimjpfnnpgaa.Pure
