/- The program's SpareBits answers what the reference's answers. Conditions: none beyond the given statement's. -/
import Derived.Test.YtaaimkgpeilbbaaYB1
import Derived.Test.YtaaimkgpeilbbaaZB6
import Derived.Test.YtaaimkgpeilbbaaZB7
set_option linter.unusedVariables false
set_option linter.unusedSimpArgs false
namespace Go.Proofs.Ytaaimkgpeilbbaa.Pure
open Go.RowKit Go.Proofs.YtaaimkgpeilbbaaW.PrintWords Go.Proofs.YtaaimkgpeilbbaaW.PrintLast Go.Proofs.YtaaimkgpeilbbaaW.PrintMore Go.Proofs.Ytaaimkgpeilbbaa.M Go.Proofs.Ytaaimkgpeilbbaa.C Go.Proofs.Ytaaimkgpeilbbaa.F

theorem spare_nb {id : Nat} (h1 : 1 ≤ id) (h4 : id ≤ 4) : nb ((cn id).getD 0 0) ≤ 384 := (nb_le 384 _).2 (by
  have := cn_lt h1 h4 0
  have e : (256 : Nat) ^ 48 = 2 ^ 384 := by decide +kernel
  rw [e] at this; exact this)
theorem FnExactSpareBits : laws_FnExactSpareBits.Pure := by
  intro a ha
  refine Av.get (g := fun k => laws_FnExactSpareBits.f k a) ?_
  unfold laws_FnExactSpareBits.f
  have key : ∃ r, Av (fun k => spec_SpareBits.f k a) r ∧ Av (fun k => impl_SpareBits.f k a) r := by
    unfold impl_SpareBits.f spec_SpareBits.f
    by_cases h : 1 ≤ a ∧ a ≤ 4
    · obtain ⟨id, rfl⟩ := Int.eq_ofNat_of_zero_le (show 0 ≤ a by omega)
      have h1 : 1 ≤ id := by omega
      have h4 : id ≤ 4 := by omega
      have hg := (@gok_bts ((cn id).getD 0 0)).2 (cn_gb' h1 h4 0)
      have hb := bitsof_s _ hg
      rw [bv_bts] at hb
      have hS := (Sm.gb (cn_gb' h1 h4 0)).1
      have hsz := size_f ((cn id).getD 0 0) (by omega)
      refine ⟨wrap64 (wrap64 (8 * ((bts ((cn id).getD 0 0)).size : Int)) - (nb ((cn id).getD 0 0) : Int)), Av.bindc (curveof_s id h1 h4) (Av.ifp rfl (Av.bind hb (Av.ret' rfl))), Av.bindc (iscurve_f _) (Av.ifp (decide_eq_true h) (Av.bind (curve_f id h1 h4) ?_))⟩
      have hfs : Av (fun k => impl_form_size.f k (frm id).1 (frm id).2.1 (frm id).2.2.1 (frm id).2.2.2.1 (frm id).2.2.2.2.1 (frm id).2.2.2.2.2.1 (frm id).2.2.2.2.2.2.1 (frm id).2.2.2.2.2.2.2.1 (frm id).2.2.2.2.2.2.2.2.1 (frm id).2.2.2.2.2.2.2.2.2.1 (frm id).2.2.2.2.2.2.2.2.2.2.1 (frm id).2.2.2.2.2.2.2.2.2.2.2.1 (frm id).2.2.2.2.2.2.2.2.2.2.2.2) ((bts ((cn id).getD 0 0)).size : Int) := by
        unfold impl_form_size.f
        refine Av.bind hsz (Av.ret' ?_)
        have hn := spare_nb h1 h4
        rw [bts_size, bytes_of_bits]
        generalize nb ((cn id).getD 0 0) = n at hn
        clear hg hb hS hsz
        rw [wr (x := (n : Int) + 7) (by omega) (by omega), td (by omega), wr (by omega) (by omega)]; omega
      exact Av.bind hfs (Av.bind hsz (Av.ret' rfl))
    · refine ⟨0, Av.bindc (curveof_none a h) (Av.ifn (by decide) Av.ret), Av.bindc (iscurve_f _) (Av.ifn (by simp [h]) Av.ret)⟩
  obtain ⟨r, k1, k2⟩ := key
  exact Av.bind k1 (Av.bind k2 (Av.ifp rfl Av.ret))

end Go.Proofs.Ytaaimkgpeilbbaa.Pure
