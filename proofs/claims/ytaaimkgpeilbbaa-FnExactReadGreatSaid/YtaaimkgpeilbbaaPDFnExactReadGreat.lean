/- The program's ReadGreat answers what the reference's answers. Conditions: none beyond the given statement's. -/
import Derived.Test.YtaaimkgpeilbbaaYD1
import Derived.Test.YtaaimkgpeilbbaaZD0
import Derived.Test.YtaaimkgpeilbbaaZD1
import Derived.Test.YtaaimkgpeilbbaaZD2
import Derived.Test.YtaaimkgpeilbbaaZD3
set_option linter.unusedVariables false
set_option linter.unusedSimpArgs false
namespace Go.Proofs.Ytaaimkgpeilbbaa.Pure
open Go.RowKit Go.Proofs.YtaaimkgpeilbbaaW.PrintWords Go.Proofs.YtaaimkgpeilbbaaW.PrintLast Go.Proofs.YtaaimkgpeilbbaaW.PrintMore Go.Proofs.Ytaaimkgpeilbbaa.M Go.Proofs.Ytaaimkgpeilbbaa.C Go.Proofs.Ytaaimkgpeilbbaa.F

/-- What ReadGreat answers. -/
def rgv (s : ByteArray) : ByteArray × Bool := if s.size ≤ 400 ∧ figN s s.size = true ∧ fok s = true ∧ fv s s.size < GB then (bts (fv s s.size), true) else (⟨#[]⟩, false)
theorem rgv_yes {s : ByteArray} (h : s.size ≤ 400 ∧ figN s s.size = true ∧ fok s = true ∧ fv s s.size < GB) : rgv s = (bts (fv s s.size), true) := by unfold rgv; exact if_pos h
theorem rgv_no {s : ByteArray} (h : ¬ (s.size ≤ 400 ∧ figN s s.size = true ∧ fok s = true ∧ fv s s.size < GB)) : rgv s = (⟨#[]⟩, false) := by unfold rgv; exact if_neg h
theorem sm_ten {n i : Nat} (h : n < 10 ^ i) (hi : i ≤ 401) : Sm n := Sm.of (j := i) (Nat.lt_of_lt_of_le h (Nat.pow_le_pow_left (by decide) _)) (by omega)
theorem rd_c {c : Nat} (h : c ≤ 9) : wrap64 (wrap64 (48 + (c : Int)) - 48) = (c : Int) := by
  rw [wr (x := 48 + (c : Int)) (by omega) (by omega), wr (by omega) (by omega)]; omega
theorem trim_dig {c : Nat} (h : c ≤ 9) : Av (fun k => spec_l02Trim.f k [(c : Int)]) (E c) := trim_s' (by intro x hx; simp at hx; subst hx; constructor <;> omega) (by simp) (by simp [vl])
theorem trim_E {n : Nat} (h : Sm n) : Av (fun k => spec_l02Trim.f k (E n)) (E n) := trim_s' (digs_dg (by decide) _) (by have := h.2; omega) (vl_dg (by decide) _)
theorem mul10 {n : Nat} (h : Sm n) : Av (fun k => spec_l02Mul.f k (E n) [10]) (E (n * 10)) := by
  have hE10 : E 10 = [10] := by decide +kernel
  have s10 := (E_le 1 10).2 (by decide)
  have hmul := mul_s n 10 (by have h1 := h.2; omega)
  rw [hE10] at hmul
  exact hmul
theorem rd_loop (s : ByteArray) (hs : s.size ≤ 400) (hok : fok s = true) : ∀ (d i : Nat), s.size - i = d → i ≤ s.size → figN s i = true → Av (fun k => spec_ReadGreat.l0 k s (E (fv s i)) i) (rgv s)
  | 0, i, hd, hi, hf => by
    obtain rfl : i = s.size := by omega
    have hsm := sm_ten (fv_lt hf) (by omega)
    refine Av.succ ?_
    simp only [spec_ReadGreat.l0]
    refine Av.ifn (by omega) (Av.bind (out_s' hsm) (Av.bindc (gok_s _) ?_))
    have hg := @gok_bts (fv s s.size)
    by_cases h : fv s s.size < GB
    · rw [rgv_yes ⟨hs, hf, hok, h⟩]
      exact Av.ifp (hg.2 h) Av.ret
    · rw [rgv_no (fun h2 => h h2.2.2.2)]
      exact Av.ifn (fun h2 => h (hg.1 h2)) Av.ret
  | d + 1, i, hd, hi, hf => by
    have i1 : i < s.size := by omega
    have i2 : s.size - (i + 1) = d := by omega
    have i3 : (i : Int) < s.size := by omega
    have i4 : i + 1 ≤ 401 := by omega
    have i5 : i ≤ 401 := by omega
    have hb := bt_range s i
    have i6 : i < 4611686018427387904 := by omega
    have jT : fig s i = false → Av (fun k => spec_ReadGreat.j2 k s (E (fv s i)) i true) (rgv s) := by
      intro hfig
      refine Av.succ ?_
      simp only [spec_ReadGreat.j2]
      refine Av.ifp (by decide) (Av.ret' (Eq.symm ?_))
      refine rgv_no ?_
      intro h2
      rw [figN_not hfig i1] at h2
      exact absurd h2.2.1 (by decide)
    refine Av.succ ?_
    simp only [spec_ReadGreat.l0]
    refine Av.ifp i3 (Av.ifp (Int.natCast_nonneg _) ?_)
    by_cases h48 : bt s i < 48
    · exact Av.ifp h48 (jT (by unfold fig; rw [decide_eq_false (by omega)]; rfl))
    refine Av.ifn h48 ?_
    by_cases h57 : bt s i > 57
    · rw [decide_eq_true h57]
      exact jT (by unfold fig; rw [decide_eq_false (p := bt s i ≤ 57) (by omega)]; simp)
    rw [decide_eq_false h57]
    have hfig : fig s i = true := by unfold fig; rw [decide_eq_true (by omega), decide_eq_true (by omega)]; rfl
    have hf1 : figN s (i + 1) = true := by simp only [figN, hf, hfig]; rfl
    have hlt := fv_lt hf1
    obtain ⟨c, hc⟩ : ∃ c : Nat, bt s i = 48 + (c : Int) := ⟨(bt s i - 48).toNat, by omega⟩
    have hc9 : c ≤ 9 := by omega
    have e0 : (bt s i - 48).toNat = c := by omega
    have e1 : wrap64 ((i : Int) + 1) = ((i + 1 : Nat) : Int) := wrap_one i6
    have hfv : fv s (i + 1) = fv s i * 10 + c := by
      simp only [fv]
      rw [e0, Nat.mul_comm]
    have sn := sm_ten (fv_lt hf) i5
    have sc : Sm c := sm_ten (i := 1) (Nat.lt_of_le_of_lt hc9 (by decide)) (by decide)
    have hm : fv s i * 10 < 10 ^ (i + 1) := by rw [Nat.pow_succ]; exact Nat.mul_lt_mul_of_pos_right (fv_lt hf) (by decide)
    have sm := sm_ten hm i4
    have sf := sm_ten hlt i4
    have ih := rd_loop s hs hok d (i + 1) i2 i1 hf1
    have hmul := mul10 sn
    have htr := trim_dig hc9
    have hadd := add_s' sm sc
    rw [← hfv] at hadd
    have htr2 := trim_E sf
    refine Av.succ ?_
    simp only [spec_ReadGreat.j2, e1]
    refine Av.ifn (by decide) (Av.bind hmul (Av.ifp (Int.natCast_nonneg _) (Av.ifp i3 ?_)))
    rw [hc, rd_c hc9]
    exact Av.bind htr (Av.bind hadd (Av.bind htr2 ih))
theorem read_s (s : ByteArray) : Av (fun k => spec_ReadGreat.f k s) (rgv s) := by
  unfold spec_ReadGreat.f
  have jT : rgv s = (⟨#[]⟩, false) → Av (fun k => spec_ReadGreat.j0 k s true) (rgv s) := by
    intro h
    refine Av.succ ?_
    simp only [spec_ReadGreat.j0]
    exact Av.ifp (by decide) (Av.ret' h.symm)
  have jF : s.size ≤ 400 → fok s = true → Av (fun k => spec_ReadGreat.j0 k s false) (rgv s) := by
    intro hs hok
    refine Av.succ ?_
    simp only [spec_ReadGreat.j0]
    exact Av.ifn (by decide) (rd_loop s hs hok s.size 0 rfl (Nat.zero_le _) rfl)
  unfold spec_l01In.f
  by_cases h1 : (s.size : Int) ≥ 1
  · rw [if_pos h1]
    refine Av.bindc rfl ?_
    by_cases h4 : (s.size : Int) ≤ 400
    · refine Av.ifp (decide_eq_true h4) ?_
      by_cases h2 : (s.size : Int) > 1
      · refine Av.ifp h2 (Av.ifp (by omega) ?_)
        have hfk : fok s = (bt s 0 != 48) := by
          unfold fok
          rw [if_neg (by omega), if_neg (by omega)]
        cases hb : bt s 0 == 48 with
        | true =>
          refine jT ?_
          refine rgv_no ?_
          intro h
          have := h.2.2.1
          rw [hfk, bne, hb] at this
          exact absurd this (by decide)
        | false => exact jF (by omega) (by rw [hfk, bne, hb]; rfl)
      · refine Av.ifn h2 (jF (by omega) ?_)
        unfold fok
        rw [if_neg (by omega), if_pos (by omega)]
    · refine Av.ifn (by simp; omega) (jT ?_)
      refine rgv_no ?_
      intro h; have := h.1; omega
  · rw [if_neg h1]
    refine Av.bindc rfl (Av.ifn (by decide) (jT ?_))
    refine rgv_no ?_
    intro h
    have := h.2.2.1
    unfold fok at this
    rw [if_pos (by omega)] at this
    exact absurd this (by decide)
theorem read_f (s : ByteArray) : Av (fun k => impl_ReadGreat.f k s) (rgv s) := by
  unfold impl_ReadGreat.f
  by_cases h4 : (s.size : Int) > 400
  · refine Av.ifp h4 (Av.ret' (Eq.symm ?_))
    refine rgv_no ?_
    intro h; have := h.1; omega
  · refine Av.ifn h4 (Av.bind (ff_f s (by omega)) ?_)
    unfold fgr
    cases hf : figN s s.size with
    | false =>
      have ht := text_f' (a := 0) (Sm.of (j := 1) (by decide) (by decide))
      rw [D_zero] at ht
      refine Av.bind ht (Av.ifn (by simp) (Av.ret' (Eq.symm ?_)))
      refine rgv_no ?_
      intro h; rw [hf] at h; exact absurd h.2.1 (by decide)
    | true =>
      refine Av.bind (text_f' (sm_ten (fv_lt hf) (by omega))) ?_
      cases hok : fok s with
      | false =>
        refine Av.ifn (by simp) (Av.ret' (Eq.symm ?_))
        refine rgv_no ?_
        intro h; rw [hok] at h; exact absurd h.2.2.1 (by decide)
      | true =>
        refine Av.ifp (by simp) (Av.bindc (gok_f _) ?_)
        have hg := @gok_bts (fv s s.size)
        by_cases h : fv s s.size < GB
        · rw [rgv_yes ⟨by omega, hf, hok, h⟩]
          exact Av.ifp (hg.2 h) Av.ret
        · rw [rgv_no (fun h2 => h h2.2.2.2)]
          exact Av.ifn (fun h2 => h (hg.1 h2)) Av.ret
theorem FnExactReadGreat : laws_FnExactReadGreat.Pure := by
  intro a ha
  refine Av.get (g := fun k => laws_FnExactReadGreat.f k a) ?_
  unfold laws_FnExactReadGreat.f
  by_cases ca : (a.size : Int) > 1048576
  · exact Av.ifp ca Av.ret
  exact Av.ifn ca (Av.bind (read_s a) (Av.bind (read_f a) (Av.ifp rfl (Av.ifn (by simp) Av.ret))))

end Go.Proofs.Ytaaimkgpeilbbaa.Pure
