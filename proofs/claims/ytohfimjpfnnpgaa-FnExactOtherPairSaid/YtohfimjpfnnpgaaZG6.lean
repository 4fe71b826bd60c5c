-- Made for this seat by a program of this session (wip/fork, wip/slim.py). Lean checks it.
import Derived.Test.YtohfimjpfnnpgaaFx0
import Derived.Test.YtohfimjpfnnpgaaZG2
import Derived.Test.YtohfimjpfnnpgaaZG3
import Derived.Test.YtohfimjpfnnpgaaZG4
namespace Go.Proofs.Ytohfimjpfnnpgaa.F
open Go.RowKit Go.Proofs.YtohfimjpfnnpgaaW.PrintWords Go.Proofs.YtohfimjpfnnpgaaW.PrintLast Go.Proofs.YtohfimjpfnnpgaaW.PrintMore
attribute [local go_sem] max2_int min2_int max_two min_two max_three min_three max_four min_four   -- for this text's walks alone
set_option linter.unusedVariables false
set_option linter.unusedSimpArgs false

/-! ### impl_OtherPair: function 33 -/
def impl_OtherPair.f (k : Nat) (a0_0 : ByteArray) (a0_1 : ByteArray) (a1 : ByteArray) : Option (ByteArray × ByteArray) := (impl_pairs.f k a1 (([(⟨a0_0, a0_1⟩ : S32)] : List (S32)))).bind fun bt845 => (if bt845.2 = true then ((impl_natOf.f k a0_1).bind fun t849 => ((impl_prime_neg.f k bt845.1 t849).bind fun t852 => ((impl_nat_text.f k t852).bind fun t855 => (some (a0_0, t855))))) else (some ((⟨#[]⟩ : ByteArray), (⟨#[]⟩ : ByteArray))))
def impl_OtherPair.T4 : Bool × List (List Nat × List Nat) := (true, [([], []), ([0], [0]), ([], []), ([], []), ([3], [3]), ([4], [4]), ([2, 5, 5], [2, 5]), ([6, 6], [6]), ([1, 7], [1, 7]), ([8, 7, 0, 1, 2, 3, 4, 5, 6, 7, 8], [8])])
def impl_OtherPair.B4 : List Nat := [0, 1, 0, 0, 8, 24, 60, 124, 255, 511]
theorem impl_OtherPair.tab4 : rtab .any (opsOf Try.f33 4) = impl_OtherPair.T4 := by kernel_rfl
theorem impl_OtherPair.bits4 : waitsOk impl_OtherPair.T4.2 impl_OtherPair.B4 = true := by kernel_rfl
set_option maxHeartbeats 8000000 in
set_option maxRecDepth 100000 in
theorem impl_OtherPair.calls (k : Nat) (a0_0 : ByteArray) (a0_1 : ByteArray) (a1 : ByteArray) (r1 : ByteArray) (r2 : ByteArray) (w : World) (h : impl_OtherPair.f k a0_0 a0_1 a1 = some (r1, r2)) :
    Calls Try.prog 33 #[.agg #[.string a0_0, .string a0_1], .string a1] w fun e w' => e = .returned (.agg #[.string r1, .string r2]) ∧ Below w.heap.size w w' := by
  have hu32 := Try.underlying32
  have HB := Aside0.mk (Below.refl w.heap.size w)
  have H : ((impl_pairs.f k a1 (([(⟨a0_0, a0_1⟩ : S32)] : List (S32)))).bind fun bt845 => (if bt845.2 = true then ((impl_natOf.f k a0_1).bind fun t849 => ((impl_prime_neg.f k bt845.1 t849).bind fun t852 => ((impl_nat_text.f k t852).bind fun t855 => (some (a0_0, t855))))) else (some ((⟨#[]⟩ : ByteArray), (⟨#[]⟩ : ByteArray))))) = some (r1, r2) := h
  clear h
  obtain ⟨y842, hy842⟩ : ∃ y_ : List (S32), y_ = (([(⟨a0_0, a0_1⟩ : S32)] : List (S32))) := ⟨_, rfl⟩
  replace H : ((impl_pairs.f k a1 y842).bind fun bt845 => (if bt845.2 = true then ((impl_natOf.f k a0_1).bind fun t849 => ((impl_prime_neg.f k bt845.1 t849).bind fun t852 => ((impl_nat_text.f k t852).bind fun t855 => (some (a0_0, t855))))) else (some ((⟨#[]⟩ : ByteArray), (⟨#[]⟩ : ByteArray))))) = some (r1, r2) := by first | (rw [hy842]; with_reducible exact H) | (have H2_ := (Option.bind_some _ _).symm.trans H; rw [hy842]; with_reducible exact H2_) | (have H2_ := (Option.bind_some _ _).symm.trans H; with_reducible exact H2_) | with_reducible exact H | (rw [hy842]; exact H) | exact H
  have Ny842 := Aside0.mk hy842
  clear hy842
  replace H := Option.bind_eq_some_iff.mp H
  obtain ⟨⟨t845, t848⟩, A30, H⟩ := H
  replace H : (if t848 = true then ((impl_natOf.f k a0_1).bind fun t849 => ((impl_prime_neg.f k t845 t849).bind fun t852 => ((impl_nat_text.f k t852).bind fun t855 => (some (a0_0, t855))))) else (some ((⟨#[]⟩ : ByteArray), (⟨#[]⟩ : ByteArray)))) = some (r1, r2) := H
  have A3 := Aside0.mk A30
  clear A30
  by_cases c4 : t848 = true
  · subst c4
    have H1 : ((impl_natOf.f k a0_1).bind fun t849 => ((impl_prime_neg.f k t845 t849).bind fun t852 => ((impl_nat_text.f k t852).bind fun t855 => (some (a0_0, t855))))) = some (r1, r2) := by rw [if_pos rfl] at H; exact H
    clear H
    have H := H1
    clear H1
    replace H := Option.bind_eq_some_iff.mp H
    obtain ⟨t849, A50, H⟩ := H
    have A5 := Aside0.mk A50
    clear A50
    replace H := Option.bind_eq_some_iff.mp H
    obtain ⟨t852, A60, H⟩ := H
    have A6 := Aside0.mk A60
    clear A60
    replace H := Option.bind_eq_some_iff.mp H
    obtain ⟨t855, A70, H⟩ := H
    have A7 := Aside0.mk A70
    clear A70
    simp only [Option.some.injEq, Prod.mk.injEq] at H
    obtain ⟨rfl, rfl⟩ := H
    go_enter Try.func33, Try.ntmps33
    try go_wp2_with (first | ((with_reducible refine gate_dst (N := 2) rfl ?_); refine box_event ?hg (N := 2) ?hd (cs := #[.string a0_0, .string a0_1]) (t := 32) ?hr ?_; (case hd => rfl); (case hg => rfl); (case hr => first | (go_simp; done) | (go_simp; rfl)); intro gb840 hg w8 hbox hb; have BK840 := Aside0.mk (hbox); have GW840 := Aside0.mk ((by rw [hg]; exact (below_size (pB_ HB.out)) : w.heap.size ≤ gb840)); have GE840 := Aside0.mk ((by rw [hg]; exact (below_size (pB_ HB.out)) : w.heap.size ≤ gb840)); replace HB := Aside0.mk (below_step (pB_ HB.out) hb); clear hb hbox hg) | ((with_reducible refine gate_dst (N := 4) rfl ?_); refine box_event ?hg (N := 4) ?hd (cs := #[.string (⟨#[]⟩ : ByteArray), .string (⟨#[]⟩ : ByteArray)]) (t := 32) ?hr ?_; (case hd => rfl); (case hg => rfl); (case hr => first | (go_simp; done) | (go_simp; rfl)); intro gb841 hg w9 hbox hb; have BK841 := Aside0.mk (hbox); have GW841 := Aside0.mk ((by rw [hg]; exact (below_size (by repeat (first | (with_reducible first | exact HB.out | apply below_alloc | apply pw_below_drewN | apply below_drew1 | refine below_set ?_ GE840.out) | exact HB.out))) : w.heap.size ≤ gb841)); have GE841 := Aside0.mk ((by rw [hg]; exact (below_size (by repeat (first | (with_reducible first | exact HB.out | apply below_alloc | apply pw_below_drewN | apply below_drew1 | refine below_set ?_ GE840.out) | exact HB.out))) : w.heap.size ≤ gb841)); replace HB := Aside0.mk (below_step (by repeat (first | (with_reducible first | exact HB.out | apply below_alloc | apply pw_below_drewN | apply below_drew1 | refine below_set ?_ GE840.out) | exact HB.out)) hb); have NB840_841 := Aside0.mk ((by rw [hg]; exact Nat.ne_of_lt (blk_lt (g := gb840) (o := .cells #[.string a0_0, .string a0_1] 32 (0, 0)) (by (with_reducible repeat (first | refine blk_drewN ?_ _ | refine blk_drew ?_ | refine blk_alloc ?_ _)); exact BK840.out)) : gb840 ≠ gb841)); have NB841_840 := Aside0.mk ((by rw [hg]; exact Nat.ne_of_gt (blk_lt (g := gb840) (o := .cells #[.string a0_0, .string a0_1] 32 (0, 0)) (by (with_reducible repeat (first | refine blk_drewN ?_ _ | refine blk_drew ?_ | refine blk_alloc ?_ _)); exact BK840.out)) : gb841 ≠ gb840)); replace BK840 := Aside0.mk (blk_below (g := gb840) (o := .cells #[.string a0_0, .string a0_1] 32 (0, 0)) (by (with_reducible repeat (first | refine blk_drewN ?_ _ | refine blk_drew ?_ | refine blk_alloc ?_ _)); exact BK840.out) hb); clear hb hbox hg; have hnb10 := NB840_841.out; have hnc10 := NB841_840.out; have hcz11_0 : w9.cell? ⟨gb840, 0, none⟩ = some (.string a0_0) := (blk_cell BK840.out 0).trans rfl; have hcz11_1 : w9.cell? ⟨gb840, 1, none⟩ = some (.string a0_1) := (blk_cell BK840.out 1).trans rfl; have hfz11_0 := blk_frozen BK840.out 0; have hfz11_1 := blk_frozen BK840.out 1) | ((with_reducible refine gate_dst (N := 10) rfl ?_); refine Kd.R_lit k32 _ 32 ?hg (N := 10) ?hd (xs := ([(⟨a0_0, a0_1⟩ : S32)] : List (S32))) (inner := [.string a0_0, .string a0_1]) (ok := fun _ => True) (okp := fun _ => True) ?hr ?hp (fun _ hk => hk) trivial (Below.refl _ _) (Nat.le_refl _) (by simp) ?_; (case hd => rfl); (case hg => rfl); (case hr => first | (go_simp; done) | (go_simp; rfl)); (case hp => exact (Reps.c2 (show Kd.M k32 _ _ _ (⟨a0_0, a0_1⟩ : S32) [.string a0_0, .string a0_1] from (k32_mkM _ _ _ (⟨a0_0, a0_1⟩ : S32) )) (Reps.none _ _))); intro v843 w12 ho13 hb hg_ hnew_; clear hg_ hnew_; (first | rw [← Ny842.out] at ho13 | (simp only [Int.reduceToNat] at ho13; rw [← Ny842.out] at ho13)); have HO844 := Aside0.mk (Kd.R_lower (Kd.R_newB (Kd.R_newB ho13 (g := gb840) (o := .cells #[.string a0_0, .string a0_1] 32 (0, 0)) (by (with_reducible repeat (first | refine blk_drewN ?_ _ | refine blk_drew ?_ | refine blk_alloc ?_ _)); exact BK840.out)) (g := gb841) (o := .cells #[.string (⟨#[]⟩ : ByteArray), .string (⟨#[]⟩ : ByteArray)] 32 (0, 0)) (by (with_reducible repeat (first | refine blk_drewN ?_ _ | refine blk_drew ?_ | refine blk_alloc ?_ _)); exact BK841.out)) (below_size (by repeat (first | (with_reducible first | exact HB.out | apply below_alloc | apply pw_below_drewN | apply below_drew1 | refine below_set ?_ GE840.out | refine below_set ?_ GE841.out) | exact HB.out)))); replace BK840 := Aside0.mk (blk_below (g := gb840) (o := .cells #[.string a0_0, .string a0_1] 32 (0, 0)) (by (with_reducible repeat (first | refine blk_drewN ?_ _ | refine blk_drew ?_ | refine blk_alloc ?_ _)); exact BK840.out) hb); replace BK841 := Aside0.mk (blk_below (g := gb841) (o := .cells #[.string (⟨#[]⟩ : ByteArray), .string (⟨#[]⟩ : ByteArray)] 32 (0, 0)) (by (with_reducible repeat (first | refine blk_drewN ?_ _ | refine blk_drew ?_ | refine blk_alloc ?_ _)); exact BK841.out) hb); replace HB := Aside0.mk (below_step (by repeat (first | (with_reducible first | exact HB.out | apply below_alloc | apply pw_below_drewN | apply below_drew1 | refine below_set ?_ GE840.out | refine below_set ?_ GE841.out) | exact HB.out)) hb); clear hb ho13; obtain ⟨Ao14, co14, eo14⟩ := Kd.R_slice HO844.out; subst eo14) | ((with_reducible refine gate_callee (f := 71) rfl ?_); refine gL_ 11 Try.func71 rfl #[.string a1, .slice Ao14 y842.length co14] ?_; (with_reducible refine (impl_pairs.calls k a1 _ _ y842 t845 true _ ?side1 ?side2 A3.out).mono ?_); (case side1 => exact pC_ (Kd.R_reads' HO844.out).2.2); (case side2 => exact (Kd.R_reads' HO844.out).2.1); rintro e w15 ⟨v846, rfl, ho0, hb⟩; refine ⟨_, rfl, ?_⟩; have HO847 := Aside0.mk (Kd.V_lower (Kd.V_mono (ok' := fun k_ => some k_ ≠ (.slice Ao14 y842.length co14 : Value).ownBlock ∧ k_ ≠ gb840 ∧ k_ ≠ gb841) ho0 (fun k_ hk_ => ⟨(Kd.fresh' (Kd.R_lt (pR_ HO844.out)) k_ hk_), (Kd.freshB (g := gb840) (o := .cells #[.string a0_0, .string a0_1] 32 (0, 0)) (by (with_reducible repeat (first | refine blk_drewN ?_ _ | refine blk_drew ?_ | refine blk_alloc ?_ _)); exact BK840.out) k_ hk_), (Kd.freshB (g := gb841) (o := .cells #[.string (⟨#[]⟩ : ByteArray), .string (⟨#[]⟩ : ByteArray)] 32 (0, 0)) (by (with_reducible repeat (first | refine blk_drewN ?_ _ | refine blk_drew ?_ | refine blk_alloc ?_ _)); exact BK841.out) k_ hk_)⟩)) (below_size (by repeat (first | (with_reducible first | exact HB.out | apply below_alloc | apply pw_below_drewN | apply below_drew1 | refine below_set ?_ GE840.out | refine below_set ?_ GE841.out) | exact HB.out)))); replace HO844 := Aside0.mk (Kd.R_below (pR_ HO844.out) hb); replace BK840 := Aside0.mk (blk_below (g := gb840) (o := .cells #[.string a0_0, .string a0_1] 32 (0, 0)) (by (with_reducible repeat (first | refine blk_drewN ?_ _ | refine blk_drew ?_ | refine blk_alloc ?_ _)); exact BK840.out) hb); replace BK841 := Aside0.mk (blk_below (g := gb841) (o := .cells #[.string (⟨#[]⟩ : ByteArray), .string (⟨#[]⟩ : ByteArray)] 32 (0, 0)) (by (with_reducible repeat (first | refine blk_drewN ?_ _ | refine blk_drew ?_ | refine blk_alloc ?_ _)); exact BK841.out) hb); replace HB := Aside0.mk (below_step (by repeat (first | (with_reducible first | exact HB.out | apply below_alloc | apply pw_below_drewN | apply below_drew1 | refine below_set ?_ GE840.out | refine below_set ?_ GE841.out) | exact HB.out)) hb); clear hb ho0))
    have n0_ := Aside0.mk (Kd.R_drew HO844.out)
    have n1_ := Aside0.mk (Kd.V_drew HO847.out)
    have n2_ := Aside0.mk (blk_drew BK840.out)
    have n3_ := Aside0.mk (blk_drew BK841.out)
    have n4_ := Aside0.mk (below_drew1 HB.out)
    clear HO844
    clear HO847
    clear BK840
    clear BK841
    clear HB
    have HO844 := n0_
    have HO847 := n1_
    have BK840 := n2_
    have BK841 := n3_
    have HB := n4_
    clear n0_ n1_ n2_ n3_ n4_
    refine start_ (n := 10) (S := fun w' => w'.cell? ⟨gb840, 0, none⟩ = some (.string a0_0) ∧ w'.cell? ⟨gb840, 1, none⟩ = some (.string a0_1)) (ds := []) #[false, false, false, false, false, false, false, false, false, false] (by kernel_rfl) rfl rfl ⟨(blk_cell BK840.out 0).trans rfl, (blk_cell BK840.out 1).trans rfl⟩ (fun hHeld => ?_); refine with_tabW impl_OtherPair.tab4 impl_OtherPair.bits4 (fun HT_ HW_ => ?_)
    generalize w15.drew = w16 at HO844 HO847 BK840 BK841 HB hHeld ⊢
    refine pu_ 0 17 HT_.out ?_
    refine pu_ 2 19 HT_.out ?_
    refine pu_ 3 20 HT_.out ?_
    refine take_ (i := 1) (N := some 18) (v := ?_) (a' := ?_) #[true, true, true, true, false, false, false, false, false, false] rfl rfl (take_ofW HT_.out HW_.out (by kernel_rfl)) (fun _ _ _ h => h) (Or.inl ⟨by rfl, ?_⟩) hHeld ?_ ?_
    rotate_left
    · rintro w' ⟨s0, s1⟩
      go_simp
      with_reducible rfl
    rotate_left
    · simp only [Act.put, List.setIfInBounds_toArray, List.set_cons_zero, List.set_cons_succ, i64_w, i32_w]
      rfl
    refine take_ (i := 4) (N := some 21) (v := ?_) (a' := ?_) #[true, true, true, true, true, false, false, false, false, false] rfl rfl (take_ofW HT_.out HW_.out (by kernel_rfl)) (fun _ _ _ h => h) (Or.inl ⟨by rfl, ?_⟩) hHeld ?_ ?_
    rotate_left
    · rintro w' ⟨s0, s1⟩
      go_simp
      with_reducible rfl
    rotate_left
    · simp only [Act.put, List.setIfInBounds_toArray, List.set_cons_zero, List.set_cons_succ, i64_w, i32_w]
      rfl
    refine one_ (i := 5) (N := some 22) #[true, true, true, true, true, true, false, false, false, false] rfl rfl (one_of HT_.out (by kernel_rfl)) (by decide) (fun K hK => ?_)
    refine goes_ Try.func52 (by kernel_rfl) rfl #[.string a0_1] (by rfl) rfl rfl (by (try simp only [List.map_toArray, List.map_cons, List.map_nil]); first | done | rfl | (simp only [List.length_drop, List.length_take]; rfl)) ?_
    with_reducible refine (impl_natOf.calls k a0_1 t849 _ A5.out).mono ?_
    rintro e w17 ⟨v850, rfl, ho0, hb⟩
    refine ⟨_, rfl, ?_⟩
    have n0_ := Aside0.mk (Kd.R_below (pR_ HO844.out) hb)
    have n1_ := Aside0.mk (Kd.V_below (pV_ HO847.out) hb)
    have n2_ := Aside0.mk (Kd.V_lower (Kd.V_mono (ok' := fun k_ => some k_ ≠ (.slice Ao14 y842.length co14 : Value).ownBlock ∧ k_ ≠ gb840 ∧ k_ ≠ gb841) ho0 (fun k_ hk_ => ⟨(Kd.fresh' (Kd.R_lt (pR_ HO844.out)) k_ hk_), (Kd.freshB (g := gb840) (o := .cells #[.string a0_0, .string a0_1] 32 (0, 0)) (by (with_reducible repeat (first | refine blk_drewN ?_ _ | refine blk_drew ?_ | refine blk_alloc ?_ _)); exact BK840.out) k_ hk_), (Kd.freshB (g := gb841) (o := .cells #[.string (⟨#[]⟩ : ByteArray), .string (⟨#[]⟩ : ByteArray)] 32 (0, 0)) (by (with_reducible repeat (first | refine blk_drewN ?_ _ | refine blk_drew ?_ | refine blk_alloc ?_ _)); exact BK841.out) k_ hk_)⟩)) (below_size (by repeat (first | (with_reducible first | exact HB.out | apply below_alloc | apply pw_below_drewN | apply below_drew1 | refine below_set ?_ GE840.out | refine below_set ?_ GE841.out) | exact HB.out))))
    have n3_ := Aside0.mk (blk_below (g := gb840) (o := .cells #[.string a0_0, .string a0_1] 32 (0, 0)) (by (with_reducible repeat (first | refine blk_drewN ?_ _ | refine blk_drew ?_ | refine blk_alloc ?_ _)); exact BK840.out) hb)
    have n4_ := Aside0.mk (blk_below (g := gb841) (o := .cells #[.string (⟨#[]⟩ : ByteArray), .string (⟨#[]⟩ : ByteArray)] 32 (0, 0)) (by (with_reducible repeat (first | refine blk_drewN ?_ _ | refine blk_drew ?_ | refine blk_alloc ?_ _)); exact BK841.out) hb)
    have n5_ := Aside0.mk (below_step (by repeat (first | (with_reducible first | exact HB.out | apply below_alloc | apply pw_below_drewN | apply below_drew1 | refine below_set ?_ GE840.out | refine below_set ?_ GE841.out) | exact HB.out)) hb)
    clear HO844
    clear HO847
    clear BK840
    clear BK841
    clear HB
    have HO844 := n0_
    have HO847 := n1_
    have HO851 := n2_
    have BK840 := n3_
    have BK841 := n4_
    have HB := n5_
    clear n0_ n1_ n2_ n3_ n4_ n5_
    (try clear hb)
    (try clear hb2)
    (try clear hk)
    (try clear hi)
    (try clear ho0)
    obtain ⟨Ao18, co18, eo18⟩ := Kd.V_slice HO847.out
    (first | subst eo18 | (injection eo18 with f1_ f2_ f3_; have f4_ := f1_.symm; have f5_ := f3_.symm; clear f1_ f2_ f3_; subst f4_; subst f5_))
    obtain ⟨Ao19, co19, eo19⟩ := Kd.V_slice HO851.out
    (first | subst eo19 | (injection eo19 with f1_ f2_ f3_; have f4_ := f1_.symm; have f5_ := f3_.symm; clear f1_ f2_ f3_; subst f4_; subst f5_))
    refine hK.out _ _ ⟨(blk_cell BK840.out 0).trans rfl, (blk_cell BK840.out 1).trans rfl⟩ (fun hHeld => ?_)
    clear hK K
    refine norm_ (a' := ?_) ?_ ?_
    rotate_left
    · show Act.put _ (some 22) _ = _
      simp only [Act.put, List.setIfInBounds_toArray, List.set_cons_zero, List.set_cons_succ, i64_w, i32_w]
      rfl
    refine one_ (i := 6) (N := some 23) #[true, true, true, true, true, true, true, false, false, false] rfl rfl (one_of HT_.out (by kernel_rfl)) (by decide) (fun K hK => ?_)
    refine goes_ Try.func74 (by kernel_rfl) rfl #[.slice Ao18 t845.length co18, .slice Ao19 t849.length co19] (by rfl) rfl rfl (by (try simp only [List.map_toArray, List.map_cons, List.map_nil]); first | done | rfl | (simp only [List.length_drop, List.length_take]; rfl)) ?_
    with_reducible refine (impl_prime_neg.calls k (fun k_ => (some k_ ≠ (.slice Ao14 y842.length co14 : Value).ownBlock ∧ (k_ ≠ gb840 ∧ k_ ≠ gb841))) _ _ t845 _ _ t849 t852 _ ?side1 ?side2 ?side3 A6.out).mono ?_
    (case side1 => exact HO847.out)
    (case side2 => exact pC_ (Kd.V_reads' HO851.out).2.2)
    (case side3 => exact (Kd.V_reads' HO851.out).2.1)
    rintro e w20 ⟨v853, rfl, ho0, hb⟩
    refine ⟨_, rfl, ?_⟩
    have n0_ := Aside0.mk (Kd.R_below (pR_ HO844.out) hb)
    have n1_ := Aside0.mk (Kd.V_below (pV_ HO847.out) hb)
    have n2_ := Aside0.mk (Kd.V_below (pV_ HO851.out) hb)
    have n3_ := Aside0.mk (Kd.V_lower (Kd.V_mono (ok' := fun k_ => some k_ ≠ (.slice Ao14 y842.length co14 : Value).ownBlock ∧ k_ ≠ gb840 ∧ k_ ≠ gb841) ho0 (fun k_ hk_ => ⟨Or.elim hk_ (fun hs_ => hs_.1) (fun hn_ => (Kd.fresh' (Kd.R_lt (pR_ HO844.out)) k_ hn_)), Or.elim hk_ (fun hs_ => hs_.2.1) (fun hn_ => (Kd.freshB (g := gb840) (o := .cells #[.string a0_0, .string a0_1] 32 (0, 0)) (by (with_reducible repeat (first | refine blk_drewN ?_ _ | refine blk_drew ?_ | refine blk_alloc ?_ _)); exact BK840.out) k_ hn_)), Or.elim hk_ (fun hs_ => hs_.2.2) (fun hn_ => (Kd.freshB (g := gb841) (o := .cells #[.string (⟨#[]⟩ : ByteArray), .string (⟨#[]⟩ : ByteArray)] 32 (0, 0)) (by (with_reducible repeat (first | refine blk_drewN ?_ _ | refine blk_drew ?_ | refine blk_alloc ?_ _)); exact BK841.out) k_ hn_))⟩)) (below_size (by repeat (first | (with_reducible first | exact HB.out | apply below_alloc | apply pw_below_drewN | apply below_drew1 | refine below_set ?_ GE840.out | refine below_set ?_ GE841.out) | exact HB.out))))
    have n4_ := Aside0.mk (blk_below (g := gb840) (o := .cells #[.string a0_0, .string a0_1] 32 (0, 0)) (by (with_reducible repeat (first | refine blk_drewN ?_ _ | refine blk_drew ?_ | refine blk_alloc ?_ _)); exact BK840.out) hb)
    have n5_ := Aside0.mk (blk_below (g := gb841) (o := .cells #[.string (⟨#[]⟩ : ByteArray), .string (⟨#[]⟩ : ByteArray)] 32 (0, 0)) (by (with_reducible repeat (first | refine blk_drewN ?_ _ | refine blk_drew ?_ | refine blk_alloc ?_ _)); exact BK841.out) hb)
    have n6_ := Aside0.mk (below_step (by repeat (first | (with_reducible first | exact HB.out | apply below_alloc | apply pw_below_drewN | apply below_drew1 | refine below_set ?_ GE840.out | refine below_set ?_ GE841.out) | exact HB.out)) hb)
    clear HO844
    clear HO847
    clear HO851
    clear BK840
    clear BK841
    clear HB
    have HO844 := n0_
    have HO847 := n1_
    have HO851 := n2_
    have HO854 := n3_
    have BK840 := n4_
    have BK841 := n5_
    have HB := n6_
    clear n0_ n1_ n2_ n3_ n4_ n5_ n6_
    (try clear hb)
    (try clear hb2)
    (try clear hk)
    (try clear hi)
    (try clear ho0)
    obtain ⟨Ao21, co21, eo21⟩ := Kd.V_slice HO854.out
    (first | subst eo21 | (injection eo21 with f1_ f2_ f3_; have f4_ := f1_.symm; have f5_ := f3_.symm; clear f1_ f2_ f3_; subst f4_; subst f5_))
    refine hK.out _ _ ⟨(blk_cell BK840.out 0).trans rfl, (blk_cell BK840.out 1).trans rfl⟩ (fun hHeld => ?_)
    clear hK K
    refine norm_ (a' := ?_) ?_ ?_
    rotate_left
    · show Act.put _ (some 23) _ = _
      simp only [Act.put, List.setIfInBounds_toArray, List.set_cons_zero, List.set_cons_succ, i64_w, i32_w]
      rfl
    refine one_ (i := 7) (N := some 24) #[true, true, true, true, true, true, true, true, false, false] rfl rfl (one_of HT_.out (by kernel_rfl)) (by decide) (fun K hK => ?_)
    refine goes_ Try.func64 (by kernel_rfl) rfl #[.slice Ao21 t852.length co21] (by rfl) rfl rfl (by (try simp only [List.map_toArray, List.map_cons, List.map_nil]); first | done | rfl | (simp only [List.length_drop, List.length_take]; rfl)) ?_
    with_reducible refine (impl_nat_text.calls k _ _ t852 t855 _ ?side1 ?side2 A7.out).mono ?_
    (case side1 => exact pC_ (Kd.V_reads' HO854.out).2.2)
    (case side2 => exact (Kd.V_reads' HO854.out).2.1)
    rintro e w22 ⟨rfl, hb⟩
    refine ⟨_, rfl, ?_⟩
    have n0_ := Aside0.mk (Kd.R_below (pR_ HO844.out) hb)
    have n1_ := Aside0.mk (Kd.V_below (pV_ HO847.out) hb)
    have n2_ := Aside0.mk (Kd.V_below (pV_ HO851.out) hb)
    have n3_ := Aside0.mk (Kd.V_below (pV_ HO854.out) hb)
    have n4_ := Aside0.mk (blk_below (g := gb840) (o := .cells #[.string a0_0, .string a0_1] 32 (0, 0)) (by (with_reducible repeat (first | refine blk_drewN ?_ _ | refine blk_drew ?_ | refine blk_alloc ?_ _)); exact BK840.out) hb)
    have n5_ := Aside0.mk (blk_below (g := gb841) (o := .cells #[.string (⟨#[]⟩ : ByteArray), .string (⟨#[]⟩ : ByteArray)] 32 (0, 0)) (by (with_reducible repeat (first | refine blk_drewN ?_ _ | refine blk_drew ?_ | refine blk_alloc ?_ _)); exact BK841.out) hb)
    have n6_ := Aside0.mk (below_step (by repeat (first | (with_reducible first | exact HB.out | apply below_alloc | apply pw_below_drewN | apply below_drew1 | refine below_set ?_ GE840.out | refine below_set ?_ GE841.out) | exact HB.out)) hb)
    clear HO844
    clear HO847
    clear HO851
    clear HO854
    clear BK840
    clear BK841
    clear HB
    have HO844 := n0_
    have HO847 := n1_
    have HO851 := n2_
    have HO854 := n3_
    have BK840 := n4_
    have BK841 := n5_
    have HB := n6_
    clear n0_ n1_ n2_ n3_ n4_ n5_ n6_
    (try clear hb)
    (try clear hb2)
    (try clear hk)
    (try clear hi)
    refine hK.out _ _ ⟨(blk_cell BK840.out 0).trans rfl, (blk_cell BK840.out 1).trans rfl⟩ (fun hHeld => ?_)
    clear hK K
    refine norm_ (a' := ?_) ?_ ?_
    rotate_left
    · show Act.put _ (some 24) _ = _
      simp only [Act.put, List.setIfInBounds_toArray, List.set_cons_zero, List.set_cons_succ, i64_w, i32_w]
      rfl
    refine pu_ 8 25 HT_.out ?_
    refine one_ (i := 9) (N := none) #[true, true, true, true, true, true, true, true, true, true] rfl rfl (one_of HT_.out (by kernel_rfl)) (by decide) (fun K hK => ?_)
    have hs23 : w22.cell? ⟨gb841, 0, none⟩ = some (.string (⟨#[]⟩ : ByteArray)) := (blk_cell BK841.out 0).trans rfl
    have hfs23 := blk_frozen BK841.out 0
    have hns23_0 := NB840_841.out
    have hms23_0 := NB841_840.out
    have hs24 : w22.cell? ⟨gb841, 1, none⟩ = some (.string (⟨#[]⟩ : ByteArray)) := (blk_cell BK841.out 1).trans rfl
    have hfs24 := blk_frozen BK841.out 1
    have hns24_0 := NB840_841.out
    have hms24_0 := NB841_840.out
    refine skip_ (w1 := ?_) (by rfl) rfl ?_ ?_
    rotate_left
    · go_simp
      rfl
    refine hK.out _ _ ⟨((cell_far (p := ⟨gb841, _, none⟩) NB840_841.out _).trans (((cell_far (p := ⟨gb841, _, none⟩) NB840_841.out _).trans (hHeld.1)))), ((cell_far (p := ⟨gb841, _, none⟩) NB840_841.out _).trans (((cell_far (p := ⟨gb841, _, none⟩) NB840_841.out _).trans (hHeld.2))))⟩ (fun hHeld => ?_)
    clear hK K
    refine done_ (done_of HT_.out (by kernel_rfl)) ?_
    try go_wp2
    refine bodyPost_ret (results_cell_row rfl _ _ gb841 32 #[.string a0_0, .string t855] (0, 0) _ rfl (by (with_reducible repeat (first | refine blk_drewN ?_ _ | refine blk_drew ?_ | refine blk_alloc ?_ _)); refine blk_put (cs := #[.string a0_0, .string (⟨#[]⟩ : ByteArray)]) ?_ 1 _ rfl; (with_reducible repeat (first | refine blk_drewN ?_ _ | refine blk_drew ?_ | refine blk_alloc ?_ _)); refine blk_put (cs := #[.string (⟨#[]⟩ : ByteArray), .string (⟨#[]⟩ : ByteArray)]) ?_ 0 _ rfl; (with_reducible repeat (first | refine blk_drewN ?_ _ | refine blk_drew ?_ | refine blk_alloc ?_ _)); exact BK841.out) Try.underlying32 rfl (by kernel_rfl)) rfl ?_
    exact ⟨by first | rfl | (simp [errW_none, errW_some] <;> rfl) | (simp [*, errW_none, errW_some] <;> rfl), by repeat (first | (with_reducible first | exact HB.out | apply below_alloc | apply pw_below_drewN | apply below_drew1 | refine below_set ?_ GE840.out | refine below_set ?_ GE841.out) | exact HB.out)⟩
  · replace c4 := Bool.eq_false_iff.mpr c4
    subst c4
    have H1 : (some ((⟨#[]⟩ : ByteArray), (⟨#[]⟩ : ByteArray))) = some (r1, r2) := by rw [if_neg (show ¬ (false = true) by decide)] at H; exact H
    clear H
    have H := H1
    clear H1
    simp only [Option.some.injEq, Prod.mk.injEq] at H
    obtain ⟨rfl, rfl⟩ := H
    go_enter Try.func33, Try.ntmps33
    go_wp2_with (first | ((with_reducible refine gate_dst (N := 2) rfl ?_); refine box_event ?hg (N := 2) ?hd (cs := #[.string a0_0, .string a0_1]) (t := 32) ?hr ?_; (case hd => rfl); (case hg => rfl); (case hr => first | (go_simp; done) | (go_simp; rfl)); intro gb840 hg w25 hbox hb; have BK840 := Aside0.mk (hbox); have GW840 := Aside0.mk ((by rw [hg]; exact (below_size (pB_ HB.out)) : w.heap.size ≤ gb840)); have GE840 := Aside0.mk ((by rw [hg]; exact (below_size (pB_ HB.out)) : w.heap.size ≤ gb840)); replace HB := Aside0.mk (below_step (pB_ HB.out) hb); clear hb hbox hg) | ((with_reducible refine gate_dst (N := 4) rfl ?_); refine box_event ?hg (N := 4) ?hd (cs := #[.string (⟨#[]⟩ : ByteArray), .string (⟨#[]⟩ : ByteArray)]) (t := 32) ?hr ?_; (case hd => rfl); (case hg => rfl); (case hr => first | (go_simp; done) | (go_simp; rfl)); intro gb841 hg w26 hbox hb; have BK841 := Aside0.mk (hbox); have GW841 := Aside0.mk ((by rw [hg]; exact (below_size (by repeat (first | (with_reducible first | exact HB.out | apply below_alloc | apply pw_below_drewN | apply below_drew1 | refine below_set ?_ GE840.out) | exact HB.out))) : w.heap.size ≤ gb841)); have GE841 := Aside0.mk ((by rw [hg]; exact (below_size (by repeat (first | (with_reducible first | exact HB.out | apply below_alloc | apply pw_below_drewN | apply below_drew1 | refine below_set ?_ GE840.out) | exact HB.out))) : w.heap.size ≤ gb841)); replace HB := Aside0.mk (below_step (by repeat (first | (with_reducible first | exact HB.out | apply below_alloc | apply pw_below_drewN | apply below_drew1 | refine below_set ?_ GE840.out) | exact HB.out)) hb); have NB840_841 := Aside0.mk ((by rw [hg]; exact Nat.ne_of_lt (blk_lt (g := gb840) (o := .cells #[.string a0_0, .string a0_1] 32 (0, 0)) (by (with_reducible repeat (first | refine blk_drewN ?_ _ | refine blk_drew ?_ | refine blk_alloc ?_ _)); exact BK840.out)) : gb840 ≠ gb841)); have NB841_840 := Aside0.mk ((by rw [hg]; exact Nat.ne_of_gt (blk_lt (g := gb840) (o := .cells #[.string a0_0, .string a0_1] 32 (0, 0)) (by (with_reducible repeat (first | refine blk_drewN ?_ _ | refine blk_drew ?_ | refine blk_alloc ?_ _)); exact BK840.out)) : gb841 ≠ gb840)); replace BK840 := Aside0.mk (blk_below (g := gb840) (o := .cells #[.string a0_0, .string a0_1] 32 (0, 0)) (by (with_reducible repeat (first | refine blk_drewN ?_ _ | refine blk_drew ?_ | refine blk_alloc ?_ _)); exact BK840.out) hb); clear hb hbox hg; have hnb27 := NB840_841.out; have hnc27 := NB841_840.out; have hcz28_0 : w26.cell? ⟨gb840, 0, none⟩ = some (.string a0_0) := (blk_cell BK840.out 0).trans rfl; have hcz28_1 : w26.cell? ⟨gb840, 1, none⟩ = some (.string a0_1) := (blk_cell BK840.out 1).trans rfl; have hfz28_0 := blk_frozen BK840.out 0; have hfz28_1 := blk_frozen BK840.out 1) | ((with_reducible refine gate_dst (N := 10) rfl ?_); refine Kd.R_lit k32 _ 32 ?hg (N := 10) ?hd (xs := ([(⟨a0_0, a0_1⟩ : S32)] : List (S32))) (inner := [.string a0_0, .string a0_1]) (ok := fun _ => True) (okp := fun _ => True) ?hr ?hp (fun _ hk => hk) trivial (Below.refl _ _) (Nat.le_refl _) (by simp) ?_; (case hd => rfl); (case hg => rfl); (case hr => first | (go_simp; done) | (go_simp; rfl)); (case hp => exact (Reps.c2 (show Kd.M k32 _ _ _ (⟨a0_0, a0_1⟩ : S32) [.string a0_0, .string a0_1] from (k32_mkM _ _ _ (⟨a0_0, a0_1⟩ : S32) )) (Reps.none _ _))); intro v843 w29 ho30 hb hg_ hnew_; clear hg_ hnew_; (first | rw [← Ny842.out] at ho30 | (simp only [Int.reduceToNat] at ho30; rw [← Ny842.out] at ho30)); have HO844 := Aside0.mk (Kd.R_lower (Kd.R_newB (Kd.R_newB ho30 (g := gb840) (o := .cells #[.string a0_0, .string a0_1] 32 (0, 0)) (by (with_reducible repeat (first | refine blk_drewN ?_ _ | refine blk_drew ?_ | refine blk_alloc ?_ _)); exact BK840.out)) (g := gb841) (o := .cells #[.string (⟨#[]⟩ : ByteArray), .string (⟨#[]⟩ : ByteArray)] 32 (0, 0)) (by (with_reducible repeat (first | refine blk_drewN ?_ _ | refine blk_drew ?_ | refine blk_alloc ?_ _)); exact BK841.out)) (below_size (by repeat (first | (with_reducible first | exact HB.out | apply below_alloc | apply pw_below_drewN | apply below_drew1 | refine below_set ?_ GE840.out | refine below_set ?_ GE841.out) | exact HB.out)))); replace BK840 := Aside0.mk (blk_below (g := gb840) (o := .cells #[.string a0_0, .string a0_1] 32 (0, 0)) (by (with_reducible repeat (first | refine blk_drewN ?_ _ | refine blk_drew ?_ | refine blk_alloc ?_ _)); exact BK840.out) hb); replace BK841 := Aside0.mk (blk_below (g := gb841) (o := .cells #[.string (⟨#[]⟩ : ByteArray), .string (⟨#[]⟩ : ByteArray)] 32 (0, 0)) (by (with_reducible repeat (first | refine blk_drewN ?_ _ | refine blk_drew ?_ | refine blk_alloc ?_ _)); exact BK841.out) hb); replace HB := Aside0.mk (below_step (by repeat (first | (with_reducible first | exact HB.out | apply below_alloc | apply pw_below_drewN | apply below_drew1 | refine below_set ?_ GE840.out | refine below_set ?_ GE841.out) | exact HB.out)) hb); clear hb ho30; obtain ⟨Ao31, co31, eo31⟩ := Kd.R_slice HO844.out; subst eo31) | ((with_reducible refine gate_callee (f := 71) rfl ?_); refine gL_ 11 Try.func71 rfl #[.string a1, .slice Ao31 y842.length co31] ?_; (with_reducible refine (impl_pairs.calls k a1 _ _ y842 t845 false _ ?side1 ?side2 A3.out).mono ?_); (case side1 => exact pC_ (Kd.R_reads' HO844.out).2.2); (case side2 => exact (Kd.R_reads' HO844.out).2.1); rintro e w32 ⟨v846, rfl, ho0, hb⟩; refine ⟨_, rfl, ?_⟩; have HO847 := Aside0.mk (Kd.V_lower (Kd.V_mono (ok' := fun k_ => some k_ ≠ (.slice Ao31 y842.length co31 : Value).ownBlock ∧ k_ ≠ gb840 ∧ k_ ≠ gb841) ho0 (fun k_ hk_ => ⟨(Kd.fresh' (Kd.R_lt (pR_ HO844.out)) k_ hk_), (Kd.freshB (g := gb840) (o := .cells #[.string a0_0, .string a0_1] 32 (0, 0)) (by (with_reducible repeat (first | refine blk_drewN ?_ _ | refine blk_drew ?_ | refine blk_alloc ?_ _)); exact BK840.out) k_ hk_), (Kd.freshB (g := gb841) (o := .cells #[.string (⟨#[]⟩ : ByteArray), .string (⟨#[]⟩ : ByteArray)] 32 (0, 0)) (by (with_reducible repeat (first | refine blk_drewN ?_ _ | refine blk_drew ?_ | refine blk_alloc ?_ _)); exact BK841.out) k_ hk_)⟩)) (below_size (by repeat (first | (with_reducible first | exact HB.out | apply below_alloc | apply pw_below_drewN | apply below_drew1 | refine below_set ?_ GE840.out | refine below_set ?_ GE841.out) | exact HB.out)))); replace HO844 := Aside0.mk (Kd.R_below (pR_ HO844.out) hb); replace BK840 := Aside0.mk (blk_below (g := gb840) (o := .cells #[.string a0_0, .string a0_1] 32 (0, 0)) (by (with_reducible repeat (first | refine blk_drewN ?_ _ | refine blk_drew ?_ | refine blk_alloc ?_ _)); exact BK840.out) hb); replace BK841 := Aside0.mk (blk_below (g := gb841) (o := .cells #[.string (⟨#[]⟩ : ByteArray), .string (⟨#[]⟩ : ByteArray)] 32 (0, 0)) (by (with_reducible repeat (first | refine blk_drewN ?_ _ | refine blk_drew ?_ | refine blk_alloc ?_ _)); exact BK841.out) hb); replace HB := Aside0.mk (below_step (by repeat (first | (with_reducible first | exact HB.out | apply below_alloc | apply pw_below_drewN | apply below_drew1 | refine below_set ?_ GE840.out | refine below_set ?_ GE841.out) | exact HB.out)) hb); clear hb ho0; have hcz33_0 : w32.cell? ⟨gb841, 0, none⟩ = some (.string (⟨#[]⟩ : ByteArray)) := (blk_cell BK841.out 0).trans rfl; have hcz33_1 : w32.cell? ⟨gb841, 1, none⟩ = some (.string (⟨#[]⟩ : ByteArray)) := (blk_cell BK841.out 1).trans rfl; have hfz33_0 := blk_frozen BK841.out 0; have hfz33_1 := blk_frozen BK841.out 1))
    refine bodyPost_ret (results_cell_row rfl _ _ gb841 32 #[.string (⟨#[]⟩ : ByteArray), .string (⟨#[]⟩ : ByteArray)] (0, 0) _ rfl (by (with_reducible repeat (first | refine blk_drewN ?_ _ | refine blk_drew ?_ | refine blk_alloc ?_ _)); refine blk_put (cs := #[.string (⟨#[]⟩ : ByteArray), .string (⟨#[]⟩ : ByteArray)]) ?_ 1 _ rfl; (with_reducible repeat (first | refine blk_drewN ?_ _ | refine blk_drew ?_ | refine blk_alloc ?_ _)); refine blk_put (cs := #[.string (⟨#[]⟩ : ByteArray), .string (⟨#[]⟩ : ByteArray)]) ?_ 0 _ rfl; (with_reducible repeat (first | refine blk_drewN ?_ _ | refine blk_drew ?_ | refine blk_alloc ?_ _)); exact BK841.out) Try.underlying32 rfl (by kernel_rfl)) rfl ?_
    exact ⟨by first | rfl | (simp [errW_none, errW_some] <;> rfl) | (simp [*, errW_none, errW_some] <;> rfl), by repeat (first | (with_reducible first | exact HB.out | apply below_alloc | apply pw_below_drewN | apply below_drew1 | refine below_set ?_ GE840.out | refine below_set ?_ GE841.out) | exact HB.out)⟩

/-! ### laws_eqPair: function 34 -/
def laws_eqPair.f (a0_0 : ByteArray) (a0_1 : ByteArray) (a1_0 : ByteArray) (a1_1 : ByteArray) : Option (Bool) := if a0_0.toList = a1_0.toList then (if a0_1.toList = a1_1.toList then (some true) else (some false)) else (some false)
set_option maxHeartbeats 8000000 in
set_option maxRecDepth 100000 in
theorem laws_eqPair.calls (a0_0 : ByteArray) (a0_1 : ByteArray) (a1_0 : ByteArray) (a1_1 : ByteArray) (r : Bool) (w : World) (h : laws_eqPair.f a0_0 a0_1 a1_0 a1_1 = some r) :
    Calls Try.prog 34 #[.agg #[.string a0_0, .string a0_1], .agg #[.string a1_0, .string a1_1]] w fun e w' => e = .returned (.bool r) ∧ Below w.heap.size w w' := by
  have hu32 := Try.underlying32
  have HB := Aside0.mk (Below.refl w.heap.size w)
  have H : (if a0_0.toList = a1_0.toList then (if a0_1.toList = a1_1.toList then (some true) else (some false)) else (some false)) = some r := h
  clear h
  by_cases c3 : a0_0.toList = a1_0.toList
  rotate_left
  · rw [if_neg c3] at H
    have c3b0 : (a0_0.toList == a1_0.toList) = false := beq_eq_false_iff_ne.mpr c3
    have c3b1 : (a0_0.toList != a1_0.toList) = true := bne_iff_ne.mpr c3
    obtain rfl := Option.some.inj H
    go_enter Try.func34, Try.ntmps34
    go_wp2_with (first | ((with_reducible refine gate_dst (N := 2) rfl ?_); refine box_event ?hg (N := 2) ?hd (cs := #[.string a0_0, .string a0_1]) (t := 32) ?hr ?_; (case hd => rfl); (case hg => rfl); (case hr => first | (go_simp; done) | (go_simp; rfl)); intro gb856 hg w15 hbox hb; have BK856 := Aside0.mk (hbox); have GW856 := Aside0.mk ((by rw [hg]; exact (below_size (pB_ HB.out)) : w.heap.size ≤ gb856)); have GE856 := Aside0.mk ((by rw [hg]; exact (below_size (pB_ HB.out)) : w.heap.size ≤ gb856)); replace HB := Aside0.mk (below_step (pB_ HB.out) hb); clear hb hbox hg) | ((with_reducible refine gate_dst (N := 3) rfl ?_); refine box_event ?hg (N := 3) ?hd (cs := #[.string a1_0, .string a1_1]) (t := 32) ?hr ?_; (case hd => rfl); (case hg => rfl); (case hr => first | (go_simp; done) | (go_simp; rfl)); intro gb857 hg w16 hbox hb; have BK857 := Aside0.mk (hbox); have GW857 := Aside0.mk ((by rw [hg]; exact (below_size (by repeat (first | (with_reducible first | exact HB.out | apply below_alloc | apply pw_below_drewN | apply below_drew1 | refine below_set ?_ GE856.out) | exact HB.out))) : w.heap.size ≤ gb857)); have GE857 := Aside0.mk ((by rw [hg]; exact (below_size (by repeat (first | (with_reducible first | exact HB.out | apply below_alloc | apply pw_below_drewN | apply below_drew1 | refine below_set ?_ GE856.out) | exact HB.out))) : w.heap.size ≤ gb857)); replace HB := Aside0.mk (below_step (by repeat (first | (with_reducible first | exact HB.out | apply below_alloc | apply pw_below_drewN | apply below_drew1 | refine below_set ?_ GE856.out) | exact HB.out)) hb); have NB856_857 := Aside0.mk ((by rw [hg]; exact Nat.ne_of_lt (blk_lt (g := gb856) (o := .cells #[.string a0_0, .string a0_1] 32 (0, 0)) (by (with_reducible repeat (first | refine blk_drewN ?_ _ | refine blk_drew ?_ | refine blk_alloc ?_ _)); exact BK856.out)) : gb856 ≠ gb857)); have NB857_856 := Aside0.mk ((by rw [hg]; exact Nat.ne_of_gt (blk_lt (g := gb856) (o := .cells #[.string a0_0, .string a0_1] 32 (0, 0)) (by (with_reducible repeat (first | refine blk_drewN ?_ _ | refine blk_drew ?_ | refine blk_alloc ?_ _)); exact BK856.out)) : gb857 ≠ gb856)); replace BK856 := Aside0.mk (blk_below (g := gb856) (o := .cells #[.string a0_0, .string a0_1] 32 (0, 0)) (by (with_reducible repeat (first | refine blk_drewN ?_ _ | refine blk_drew ?_ | refine blk_alloc ?_ _)); exact BK856.out) hb); clear hb hbox hg; have hnb17 := NB856_857.out; have hnc17 := NB857_856.out; have hcz18_0 : w16.cell? ⟨gb856, 0, none⟩ = some (.string a0_0) := (blk_cell BK856.out 0).trans rfl; have hcz18_1 : w16.cell? ⟨gb856, 1, none⟩ = some (.string a0_1) := (blk_cell BK856.out 1).trans rfl; have hfz18_0 := blk_frozen BK856.out 0; have hfz18_1 := blk_frozen BK856.out 1; have hcz19_0 : w16.cell? ⟨gb857, 0, none⟩ = some (.string a1_0) := (blk_cell BK857.out 0).trans rfl; have hcz19_1 : w16.cell? ⟨gb857, 1, none⟩ = some (.string a1_1) := (blk_cell BK857.out 1).trans rfl; have hfz19_0 := blk_frozen BK857.out 0; have hfz19_1 := blk_frozen BK857.out 1))
    go_ret
    exact ⟨by first | rfl | (simp [errW_none, errW_some] <;> rfl) | (simp [*, errW_none, errW_some] <;> rfl), by repeat (first | (with_reducible first | exact HB.out | apply below_alloc | apply pw_below_drewN | apply below_drew1 | refine below_set ?_ GE856.out | refine below_set ?_ GE857.out) | exact HB.out)⟩

  rw [if_pos c3] at H
  have c3b0 : (a0_0.toList == a1_0.toList) = true := beq_iff_eq.mpr c3
  have c3b1 : (a0_0.toList != a1_0.toList) = false := bne_eq_false_iff_eq.mpr c3
  clear c3
  by_cases c4 : a0_1.toList = a1_1.toList
  · rw [if_pos c4] at H
    have c4b0 : (a0_1.toList == a1_1.toList) = true := beq_iff_eq.mpr c4
    have c4b1 : (a0_1.toList != a1_1.toList) = false := bne_eq_false_iff_eq.mpr c4
    clear c4
    obtain rfl := Option.some.inj H
    go_enter Try.func34, Try.ntmps34
    go_wp2_with (first | ((with_reducible refine gate_dst (N := 2) rfl ?_); refine box_event ?hg (N := 2) ?hd (cs := #[.string a0_0, .string a0_1]) (t := 32) ?hr ?_; (case hd => rfl); (case hg => rfl); (case hr => first | (go_simp; done) | (go_simp; rfl)); intro gb856 hg w5 hbox hb; have BK856 := Aside0.mk (hbox); have GW856 := Aside0.mk ((by rw [hg]; exact (below_size (pB_ HB.out)) : w.heap.size ≤ gb856)); have GE856 := Aside0.mk ((by rw [hg]; exact (below_size (pB_ HB.out)) : w.heap.size ≤ gb856)); replace HB := Aside0.mk (below_step (pB_ HB.out) hb); clear hb hbox hg) | ((with_reducible refine gate_dst (N := 3) rfl ?_); refine box_event ?hg (N := 3) ?hd (cs := #[.string a1_0, .string a1_1]) (t := 32) ?hr ?_; (case hd => rfl); (case hg => rfl); (case hr => first | (go_simp; done) | (go_simp; rfl)); intro gb857 hg w6 hbox hb; have BK857 := Aside0.mk (hbox); have GW857 := Aside0.mk ((by rw [hg]; exact (below_size (by repeat (first | (with_reducible first | exact HB.out | apply below_alloc | apply pw_below_drewN | apply below_drew1 | refine below_set ?_ GE856.out) | exact HB.out))) : w.heap.size ≤ gb857)); have GE857 := Aside0.mk ((by rw [hg]; exact (below_size (by repeat (first | (with_reducible first | exact HB.out | apply below_alloc | apply pw_below_drewN | apply below_drew1 | refine below_set ?_ GE856.out) | exact HB.out))) : w.heap.size ≤ gb857)); replace HB := Aside0.mk (below_step (by repeat (first | (with_reducible first | exact HB.out | apply below_alloc | apply pw_below_drewN | apply below_drew1 | refine below_set ?_ GE856.out) | exact HB.out)) hb); have NB856_857 := Aside0.mk ((by rw [hg]; exact Nat.ne_of_lt (blk_lt (g := gb856) (o := .cells #[.string a0_0, .string a0_1] 32 (0, 0)) (by (with_reducible repeat (first | refine blk_drewN ?_ _ | refine blk_drew ?_ | refine blk_alloc ?_ _)); exact BK856.out)) : gb856 ≠ gb857)); have NB857_856 := Aside0.mk ((by rw [hg]; exact Nat.ne_of_gt (blk_lt (g := gb856) (o := .cells #[.string a0_0, .string a0_1] 32 (0, 0)) (by (with_reducible repeat (first | refine blk_drewN ?_ _ | refine blk_drew ?_ | refine blk_alloc ?_ _)); exact BK856.out)) : gb857 ≠ gb856)); replace BK856 := Aside0.mk (blk_below (g := gb856) (o := .cells #[.string a0_0, .string a0_1] 32 (0, 0)) (by (with_reducible repeat (first | refine blk_drewN ?_ _ | refine blk_drew ?_ | refine blk_alloc ?_ _)); exact BK856.out) hb); clear hb hbox hg; have hnb7 := NB856_857.out; have hnc7 := NB857_856.out; have hcz8_0 : w6.cell? ⟨gb856, 0, none⟩ = some (.string a0_0) := (blk_cell BK856.out 0).trans rfl; have hcz8_1 : w6.cell? ⟨gb856, 1, none⟩ = some (.string a0_1) := (blk_cell BK856.out 1).trans rfl; have hfz8_0 := blk_frozen BK856.out 0; have hfz8_1 := blk_frozen BK856.out 1; have hcz9_0 : w6.cell? ⟨gb857, 0, none⟩ = some (.string a1_0) := (blk_cell BK857.out 0).trans rfl; have hcz9_1 : w6.cell? ⟨gb857, 1, none⟩ = some (.string a1_1) := (blk_cell BK857.out 1).trans rfl; have hfz9_0 := blk_frozen BK857.out 0; have hfz9_1 := blk_frozen BK857.out 1))
    go_ret
    exact ⟨by first | rfl | (simp [errW_none, errW_some] <;> rfl) | (simp [*, errW_none, errW_some] <;> rfl), by repeat (first | (with_reducible first | exact HB.out | apply below_alloc | apply pw_below_drewN | apply below_drew1 | refine below_set ?_ GE856.out | refine below_set ?_ GE857.out) | exact HB.out)⟩
  rw [if_neg c4] at H
  have c4b0 : (a0_1.toList == a1_1.toList) = false := beq_eq_false_iff_ne.mpr c4
  have c4b1 : (a0_1.toList != a1_1.toList) = true := bne_iff_ne.mpr c4
  obtain rfl := Option.some.inj H
  go_enter Try.func34, Try.ntmps34
  go_wp2_with (first | ((with_reducible refine gate_dst (N := 2) rfl ?_); refine box_event ?hg (N := 2) ?hd (cs := #[.string a0_0, .string a0_1]) (t := 32) ?hr ?_; (case hd => rfl); (case hg => rfl); (case hr => first | (go_simp; done) | (go_simp; rfl)); intro gb856 hg w10 hbox hb; have BK856 := Aside0.mk (hbox); have GW856 := Aside0.mk ((by rw [hg]; exact (below_size (pB_ HB.out)) : w.heap.size ≤ gb856)); have GE856 := Aside0.mk ((by rw [hg]; exact (below_size (pB_ HB.out)) : w.heap.size ≤ gb856)); replace HB := Aside0.mk (below_step (pB_ HB.out) hb); clear hb hbox hg) | ((with_reducible refine gate_dst (N := 3) rfl ?_); refine box_event ?hg (N := 3) ?hd (cs := #[.string a1_0, .string a1_1]) (t := 32) ?hr ?_; (case hd => rfl); (case hg => rfl); (case hr => first | (go_simp; done) | (go_simp; rfl)); intro gb857 hg w11 hbox hb; have BK857 := Aside0.mk (hbox); have GW857 := Aside0.mk ((by rw [hg]; exact (below_size (by repeat (first | (with_reducible first | exact HB.out | apply below_alloc | apply pw_below_drewN | apply below_drew1 | refine below_set ?_ GE856.out) | exact HB.out))) : w.heap.size ≤ gb857)); have GE857 := Aside0.mk ((by rw [hg]; exact (below_size (by repeat (first | (with_reducible first | exact HB.out | apply below_alloc | apply pw_below_drewN | apply below_drew1 | refine below_set ?_ GE856.out) | exact HB.out))) : w.heap.size ≤ gb857)); replace HB := Aside0.mk (below_step (by repeat (first | (with_reducible first | exact HB.out | apply below_alloc | apply pw_below_drewN | apply below_drew1 | refine below_set ?_ GE856.out) | exact HB.out)) hb); have NB856_857 := Aside0.mk ((by rw [hg]; exact Nat.ne_of_lt (blk_lt (g := gb856) (o := .cells #[.string a0_0, .string a0_1] 32 (0, 0)) (by (with_reducible repeat (first | refine blk_drewN ?_ _ | refine blk_drew ?_ | refine blk_alloc ?_ _)); exact BK856.out)) : gb856 ≠ gb857)); have NB857_856 := Aside0.mk ((by rw [hg]; exact Nat.ne_of_gt (blk_lt (g := gb856) (o := .cells #[.string a0_0, .string a0_1] 32 (0, 0)) (by (with_reducible repeat (first | refine blk_drewN ?_ _ | refine blk_drew ?_ | refine blk_alloc ?_ _)); exact BK856.out)) : gb857 ≠ gb856)); replace BK856 := Aside0.mk (blk_below (g := gb856) (o := .cells #[.string a0_0, .string a0_1] 32 (0, 0)) (by (with_reducible repeat (first | refine blk_drewN ?_ _ | refine blk_drew ?_ | refine blk_alloc ?_ _)); exact BK856.out) hb); clear hb hbox hg; have hnb12 := NB856_857.out; have hnc12 := NB857_856.out; have hcz13_0 : w11.cell? ⟨gb856, 0, none⟩ = some (.string a0_0) := (blk_cell BK856.out 0).trans rfl; have hcz13_1 : w11.cell? ⟨gb856, 1, none⟩ = some (.string a0_1) := (blk_cell BK856.out 1).trans rfl; have hfz13_0 := blk_frozen BK856.out 0; have hfz13_1 := blk_frozen BK856.out 1; have hcz14_0 : w11.cell? ⟨gb857, 0, none⟩ = some (.string a1_0) := (blk_cell BK857.out 0).trans rfl; have hcz14_1 : w11.cell? ⟨gb857, 1, none⟩ = some (.string a1_1) := (blk_cell BK857.out 1).trans rfl; have hfz14_0 := blk_frozen BK857.out 0; have hfz14_1 := blk_frozen BK857.out 1))
  go_ret
  exact ⟨by first | rfl | (simp [errW_none, errW_some] <;> rfl) | (simp [*, errW_none, errW_some] <;> rfl), by repeat (first | (with_reducible first | exact HB.out | apply below_alloc | apply pw_below_drewN | apply below_drew1 | refine below_set ?_ GE856.out | refine below_set ?_ GE857.out) | exact HB.out)⟩

end Go.Proofs.Ytohfimjpfnnpgaa.F
