/- The program's PairOk answers what the reference's answers. Conditions: none beyond the given statement's. -/
import Derived.Test.YtaaimkgpeilbbaaYC0
import Derived.Test.YtaaimkgpeilbbaaZC1
import Derived.Test.YtaaimkgpeilbbaaZC2
set_option linter.unusedVariables false
set_option linter.unusedSimpArgs false
namespace Go.Proofs.Ytaaimkgpeilbbaa.Pure
open Go.RowKit Go.Proofs.YtaaimkgpeilbbaaW.PrintWords Go.Proofs.YtaaimkgpeilbbaaW.PrintLast Go.Proofs.YtaaimkgpeilbbaaW.PrintMore Go.Proofs.Ytaaimkgpeilbbaa.M Go.Proofs.Ytaaimkgpeilbbaa.C Go.Proofs.Ytaaimkgpeilbbaa.F

theorem pairok_f (a b p : ByteArray) (hp : p.size < 281474976710656) : Av (fun k => impl_PairOk.f k a b p) (pok a b p) := by
  unfold impl_PairOk.f
  exact Av.bind (pairs_f a b p hp) (Av.ret' (prs_snd a b p))
theorem FnExactPairOk (a b p : ByteArray) (ha : a.size ≤ 140737488351232) (hb : b.size ≤ 140737488351232) (hp : p.size ≤ 140737488351232) : ∃ k, laws_FnExactPairOk.f k a b p = some true := by
  refine Av.get (g := fun k => laws_FnExactPairOk.f k a b p) ?_
  unfold laws_FnExactPairOk.f
  by_cases cp : (p.size : Int) > 1048576
  · exact Av.ifp cp Av.ret
  obtain ⟨t, ht⟩ := szpair_some a b 1048576
  refine Av.ifn cp (Av.bindc ht ?_)
  by_cases h0 : t < 0
  · exact Av.ifp h0 Av.ret
  refine Av.ifn h0 (Av.bindc rfl ?_)
  exact Av.bind (pairok_s a b p) (Av.bindc rfl (Av.bind (pairok_f a b p (by omega)) (Av.ifn (by simp) Av.ret)))

end Go.Proofs.Ytaaimkgpeilbbaa.Pure
