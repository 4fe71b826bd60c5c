/- The program's PrimeOk answers what the reference's answers. Conditions: none beyond the given statement's. -/
import Derived.Test.YtohfimjpfnnpgaaYB1
import Derived.Test.YtohfimjpfnnpgaaZB5
set_option linter.unusedVariables false
set_option linter.unusedSimpArgs false
namespace Go.Proofs.Ytohfimjpfnnpgaa.Pure
open Go.RowKit Go.Proofs.YtohfimjpfnnpgaaW.PrintWords Go.Proofs.YtohfimjpfnnpgaaW.PrintLast Go.Proofs.YtohfimjpfnnpgaaW.PrintMore Go.Proofs.Ytohfimjpfnnpgaa.M Go.Proofs.Ytohfimjpfnnpgaa.C Go.Proofs.Ytohfimjpfnnpgaa.F

theorem PrimeOk_f (p : ByteArray) (hp : p.size < 281474976710656) : Av (fun k => impl_PrimeOk.f k p) (pk p) := by
  unfold impl_PrimeOk.f
  refine Av.bind (primeok_f p hp) (Av.ret' ?_)
  cases pk p <;> rfl
theorem FnExactPrimeOk : laws_FnExactPrimeOk.Pure := by
  intro a ha
  refine Av.get (g := fun k => laws_FnExactPrimeOk.f k a) ?_
  unfold laws_FnExactPrimeOk.f
  by_cases ca : (a.size : Int) > 1048576
  · exact Av.ifp ca Av.ret
  exact Av.ifn ca (Av.bind (primeok_s a) (Av.bind (PrimeOk_f a (by omega)) (Av.ifn (by simp) Av.ret)))

end Go.Proofs.Ytohfimjpfnnpgaa.Pure
