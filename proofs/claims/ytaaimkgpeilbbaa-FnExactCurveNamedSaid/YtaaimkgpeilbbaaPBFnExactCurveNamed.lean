/- The program's CurveNamed answers what the reference's answers. Conditions: none beyond the given statement's. -/
import Derived.Test.YtaaimkgpeilbbaaYB1
import Derived.Test.YtaaimkgpeilbbaaZB0
import Derived.Test.YtaaimkgpeilbbaaZB4
set_option linter.unusedVariables false
set_option linter.unusedSimpArgs false
namespace Go.Proofs.Ytaaimkgpeilbbaa.Pure
open Go.RowKit Go.Proofs.YtaaimkgpeilbbaaW.PrintWords Go.Proofs.YtaaimkgpeilbbaaW.PrintLast Go.Proofs.YtaaimkgpeilbbaaW.PrintMore Go.Proofs.Ytaaimkgpeilbbaa.M Go.Proofs.Ytaaimkgpeilbbaa.C Go.Proofs.Ytaaimkgpeilbbaa.F

theorem named_loop (s : ByteArray) : ∀ (d i : Nat), 5 - i = d → 1 ≤ i → i ≤ 5 → ∃ r, Av (fun k => spec_CurveNamed.l0 k s i) r ∧ Av (fun k => impl_CurveNamed.l0 k s i) r
  | 0, i, hd, h1, h5 => by
    refine ⟨0, Av.succ ?_, Av.succ ?_⟩
    · simp only [spec_CurveNamed.l0]
      exact Av.ifn (by omega) Av.ret
    · simp only [impl_CurveNamed.l0]
      exact Av.ifn (by omega) Av.ret
  | d + 1, i, hd, h1, h5 => by
    obtain ⟨r, k1, k2⟩ := named_loop s d (i + 1) (by omega) (by omega) (by omega)
    have e1 : wrap64 ((i : Int) + 1) = ((i + 1 : Nat) : Int) := wrap_one (by omega)
    have hl := l09_s i h1 (by omega)
    have hc := curve_f i h1 (by omega)
    by_cases hn : (nm i).toList = s.toList
    · refine ⟨(i : Int), Av.succ ?_, Av.succ ?_⟩
      · simp only [spec_CurveNamed.l0]
        exact Av.ifp (by omega) (Av.bindc hl (Av.ifp hn Av.ret))
      · simp only [impl_CurveNamed.l0]
        exact Av.ifp (by omega) (Av.bind hc (Av.ifp hn Av.ret))
    · refine ⟨r, Av.succ ?_, Av.succ ?_⟩
      · simp only [spec_CurveNamed.l0, e1]
        exact Av.ifp (by omega) (Av.bindc hl (Av.ifn hn k1))
      · simp only [impl_CurveNamed.l0, e1]
        exact Av.ifp (by omega) (Av.bind hc (Av.ifn hn k2))
theorem FnExactCurveNamed : laws_FnExactCurveNamed.Pure := by
  intro a ha
  refine Av.get (g := fun k => laws_FnExactCurveNamed.f k a) ?_
  unfold laws_FnExactCurveNamed.f
  by_cases ca : (a.size : Int) > 1048576
  · exact Av.ifp ca Av.ret
  refine Av.ifn ca ?_
  obtain ⟨r, k1, k2⟩ := named_loop a 4 1 rfl (by omega) (by omega)
  exact Av.bind k1 (Av.bind k2 (Av.ifp rfl Av.ret))

end Go.Proofs.Ytaaimkgpeilbbaa.Pure
