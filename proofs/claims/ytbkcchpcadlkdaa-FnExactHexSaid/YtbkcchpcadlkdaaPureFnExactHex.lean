/- The program's Hex answers what the reference's answers. Conditions: none beyond the given statement's. -/
import Derived.Test.YtbkcchpcadlkdaaC1
import Derived.Test.YtbkcchpcadlkdaaFx3
import Derived.Test.YtbkcchpcadlkdaaFx4
set_option linter.unusedVariables false
set_option linter.unusedSimpArgs false
namespace Go.Proofs.Ytbkcchpcadlkdaa.Pure
open Go.RowKit Go.Proofs.YtbkcchpcadlkdaaW.PrintWords Go.Proofs.YtbkcchpcadlkdaaW.PrintLast Go.Proofs.YtbkcchpcadlkdaaW.PrintMore Go.Proofs.Ytbkcchpcadlkdaa.M Go.Proofs.Ytbkcchpcadlkdaa.C Go.Proofs.Ytbkcchpcadlkdaa.F

def figs : ByteArray := ⟨#[48, 49, 50, 51, 52, 53, 54, 55, 56, 57, 97, 98, 99, 100, 101, 102]⟩
theorem fig_all : ∀ i : Fin 16, spec_l01Figure.f (i.val : Int) = some (bt figs (i.val : Int)) := by decide +kernel
theorem fig_at {x : Int} (h0 : 0 ≤ x) (h1 : x < 16) : spec_l01Figure.f x = some (bt figs x) := by
  obtain ⟨n, rfl⟩ := Int.eq_ofNat_of_zero_le h0
  exact fig_all ⟨n, by omega⟩
theorem hex_loop (s : ByteArray) (hs : s.size ≤ 20000) : ∀ (d i : Nat) (l : List Int), s.size - i = d → i ≤ s.size → l.length = 2 * i → ∃ r, Av (fun k => spec_Hex.l0 k s l i) r ∧ Av (fun k => impl_Hex.l0 k s l s.size i) r
  | 0, i, l, hd, hi, hl => by
    refine ⟨(strOfNums l, true), Av.succ ?_, Av.succ ?_⟩
    · simp only [spec_Hex.l0]
      exact Av.ifn (by omega) Av.ret
    · simp only [impl_Hex.l0]
      exact Av.ifn (by omega) Av.ret
  | d + 1, i, l, hd, hi, hl => by
    have hb := bt_range s i
    have hw : wrap64 (bt s i) = bt s i := wr (by omega) (by omega)
    have hw1 : wrap64 ((i : Int) + 1) = ((i + 1 : Nat) : Int) := by rw [wr (by omega) (by omega)]; omega
    have t1 : Int.tdiv (bt s i) 16 = bt s i / 16 := Int.tdiv_eq_ediv_of_nonneg hb.1
    have t2 : Int.tmod (bt s i) 16 = bt s i % 16 := Int.tmod_eq_emod_of_nonneg hb.1
    have t3 : Go.bits .and .u8 (bt s i) 15 = bt s i % 16 := u8_and15 _ hb.1 (by omega)
    have hw2 : wrap64 (bt s i / 16) = bt s i / 16 := wr (by omega) (by omega)
    obtain ⟨r, h1, h2⟩ := hex_loop s hs d (i + 1) (l ++ [bt figs (bt s i / 16), bt figs (bt s i % 16)]) (by omega) (by omega) (by simp; omega)
    refine ⟨r, Av.succ ?_, Av.succ ?_⟩
    · simp only [spec_Hex.l0, hw, t1, t2, hw1, hw2]
      refine Av.ifp (by omega) (Av.ifp (by omega) (Av.bindc (fig_at (by omega) (by omega)) (Av.bindc (fig_at (by omega) (by omega)) (Av.bindc rfl (Av.ifp ?_ h1)))))
      simp; omega
    · simp only [impl_Hex.l0, t3, hw1]
      refine Av.ifp (by omega) (Av.ifp (by omega) (Av.ifp (by omega) (Av.ifp (by omega) (Av.ifp (by omega) (Av.ifp (by omega) (Av.ifp (by omega) (Av.bindc rfl (Av.ifp ?_ h2))))))))
      simp; omega
theorem FnExactHex : laws_FnExactHex.Pure := by
  intro a0 h
  refine Av.get (g := fun k => laws_FnExactHex.f k a0) ?_
  unfold laws_FnExactHex.f
  by_cases hs : (a0.size : Int) > 1048576
  · exact Av.ifp hs Av.ret
  · refine Av.ifn hs ?_
    have key : ∃ r, Av (fun k => spec_Hex.f k a0) r ∧ Av (fun k => impl_Hex.f k a0) r := by
      unfold spec_Hex.f impl_Hex.f
      by_cases hb : (a0.size : Int) > 20000
      · exact ⟨_, Av.ifp hb Av.ret, Av.ifp hb Av.ret⟩
      · obtain ⟨r, h1, h2⟩ := hex_loop a0 (by omega) a0.size 0 [] (by omega) (by omega) rfl
        exact ⟨r, Av.ifn hb h1, Av.ifn hb h2⟩
    obtain ⟨r, h1, h2⟩ := key
    exact Av.bind h1 (Av.bind h2 (Av.ifp rfl (Av.ifn (by simp) Av.ret)))

end Go.Proofs.Ytbkcchpcadlkdaa.Pure
