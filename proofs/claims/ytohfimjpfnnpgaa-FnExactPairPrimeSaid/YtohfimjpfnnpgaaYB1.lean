/- Words and contracts that the laws of this claim lean on: numbers as limbs, and what the functions make of them. Conditions: those named in each theorem. -/
import Derived.Test.YtohfimjpfnnpgaaOwnWords
import Derived.Test.YtohfimjpfnnpgaaYB0
import Derived.Test.YtohfimjpfnnpgaaZB0
import Derived.Test.YtohfimjpfnnpgaaZB1
import Derived.Test.YtohfimjpfnnpgaaZB2
import Derived.Test.YtohfimjpfnnpgaaZB3
import Derived.Test.YtohfimjpfnnpgaaZB4
import Derived.Test.YtohfimjpfnnpgaaZB5
set_option linter.unusedVariables false
set_option linter.unusedSimpArgs false
set_option maxRecDepth 100000
namespace Go.Proofs.Ytohfimjpfnnpgaa.C
open Go.RowKit Go.Proofs.YtohfimjpfnnpgaaW.PrintWords Go.Proofs.YtohfimjpfnnpgaaW.PrintLast Go.Proofs.YtohfimjpfnnpgaaW.PrintMore
open Go.Proofs.Ytohfimjpfnnpgaa.M Go.Proofs.Ytohfimjpfnnpgaa.F
/-- Is that how a number is told? -/
def fok (s : ByteArray) : Bool := if s.size = 0 then false else if s.size = 1 then true else bt s 0 != 48
/-- What comes of figures. -/
def fgr (s : ByteArray) : List Int × Bool := if figN s s.size then (D (fv s s.size), fok s) else ([], false)
theorem ten_le {r : Nat} (h : r ≤ 18) : 10 ^ r ≤ 1000000000000000000 := by
  have : 10 ^ r ≤ 10 ^ 18 := Nat.pow_le_pow_right (by decide) h
  omega
theorem D_ten {n i : Nat} (h : n < 10 ^ i) : (D n).length ≤ i := (D_le _ _).2 (Nat.lt_of_lt_of_le h (Nat.pow_le_pow_left (by decide) _))
theorem small_ten {n : Nat} (h : n ≤ 1000000000000000000) : (D n).length ≤ 1 := (D_le 1 n).2 (by omega)
theorem ff_arith {o w P : Nat} (c : Nat) : 10 * (o * P + w) + c = o * (P * 10) + (10 * w + c) := by grind
theorem ff_mod {i : Nat} (h : ¬ i % 18 = 17) : i % 18 + 1 = (i + 1) % 18 := by omega
theorem mod18 (i : Nat) : Int.tmod (i : Int) 18 = ((i % 18 : Nat) : Int) := by rw [tm (by omega)]; omega
theorem ff_own {w c P : Nat} (hw : w < P) (hP : P * 10 ≤ 1000000000000000000) (hc : c ≤ 9) : wrap64 (wrap64 (10 * (w : Int)) + (48 + (c : Int) - 48) % 256) = ((10 * w + c : Nat) : Int) := by
  rw [wr (x := 10 * (w : Int)) (by omega) (by omega), wr (by omega) (by omega)]; omega
theorem ff_scale {P : Nat} (h : P * 10 ≤ 1000000000000000000) : wrap64 (10 * (P : Int)) = ((P * 10 : Nat) : Int) := by
  rw [wr (by omega) (by omega)]; omega
theorem ff_w {w c P : Nat} (hw : w < P) (hc : c ≤ 9) : 10 * w + c < P * 10 := by omega
theorem ff_loop (s : ByteArray) (hs : s.size ≤ 100000) : ∀ (d i o w r : Nat), s.size - i = d → i ≤ s.size → figN s i = true → fv s i = o * 10 ^ r + w → w < 10 ^ r → r ≤ 17 → (i < s.size → r = i % 18) → (i = s.size → r = 0) →
    Av (fun k => impl_fromFigures.l0 k s (D o) w ((10 ^ r : Nat) : Int) s.size i) (fgr s)
  | 0, i, o, w, r, hd, hi, hf, hv, hw, hr, _, he => by
    obtain rfl : i = s.size := by omega
    obtain rfl := he rfl
    have hw0 : w = 0 := by simpa using hw
    subst hw0
    rw [Nat.pow_zero, Nat.mul_one, Nat.add_zero] at hv
    refine Av.succ ?_
    simp only [impl_fromFigures.l0]
    refine Av.ifn (by omega) ?_
    unfold fgr fok
    rw [hf, if_pos rfl, hv]
    by_cases h0 : s.size = 0
    · rw [if_pos h0]
      exact Av.ifp (toList_nil_iff.2 h0) Av.ret
    · rw [if_neg h0]
      refine Av.ifn (fun h => h0 (toList_nil_iff.1 h)) ?_
      by_cases h1 : s.size = 1
      · rw [if_pos h1]
        exact Av.ifp (by omega) Av.ret
      · rw [if_neg h1]
        exact Av.ifn (by omega) (Av.ifp (by omega) Av.ret)
  | d + 1, i, o, w, r, hd, hi, hf, hv, hw, hr, hr1, he => by
    have i1 : i < s.size := by omega
    have i2 : s.size - (i + 1) = d := by omega
    have i3 : (i : Int) < s.size := by omega
    have hr2 := hr1 i1
    have hb := bt_range s i
    have hP := ten_le (r := r + 1) (by omega)
    rw [Nat.pow_succ] at hP
    have j1 : i < 4611686018427387904 := by omega
    have j2 : s.size < 4611686018427387904 := by omega
    have j3 : 1 ≤ s.size := by omega
    have j4 : i + 1 < 35184372088832 := by omega
    have g0 : (i % 18 = 17 ∨ i + 1 = s.size) → i + 1 < s.size → 0 = (i + 1) % 18 := by omega
    have g1 : ¬ i % 18 = 17 → r + 1 ≤ 17 := by omega
    have g3 : i + 1 = s.size → i = s.size - 1 := by omega
    have g2 : ¬ i + 1 = s.size → i ≠ s.size - 1 := by omega
    have e1 : wrap64 ((i : Int) + 1) = ((i + 1 : Nat) : Int) := wrap_one j1
    have et := mod18 i
    have en : wrap64 ((s.size : Int) - 1) = ((s.size - 1 : Nat) : Int) := wrap_pred j2 j3
    have jT : ∀ (a b c e g h : Int) (l : List Int), fig s i = false → Av (fun k => impl_fromFigures.j1 k s l a b c e g h true) (fgr s) := by
      intro a b c e g h l hfig
      refine Av.succ ?_
      simp only [impl_fromFigures.j1]
      refine Av.ifp (by decide) (Av.ret' ?_)
      unfold fgr
      rw [figN_not hfig i1]; rfl
    refine Av.succ ?_
    simp only [impl_fromFigures.l0]
    refine Av.ifp i3 (Av.ifp (Int.natCast_nonneg _) (Av.ifp i3 ?_))
    by_cases h48 : bt s i < 48
    · exact Av.ifp h48 (jT _ _ _ _ _ _ _ (by unfold fig; rw [decide_eq_false (by omega)]; rfl))
    refine Av.ifn h48 ?_
    by_cases h57 : bt s i > 57
    · rw [decide_eq_true h57]
      exact jT _ _ _ _ _ _ _ (by unfold fig; rw [decide_eq_false (p := bt s i ≤ 57) (by omega)]; simp)
    rw [decide_eq_false h57]
    have hfig : fig s i = true := by unfold fig; rw [decide_eq_true (by omega), decide_eq_true (by omega)]; rfl
    have hf1 : figN s (i + 1) = true := by simp only [figN, hf, hfig]; rfl
    have hlt := fv_lt hf1
    obtain ⟨c, hc⟩ : ∃ c : Nat, bt s i = 48 + (c : Int) := ⟨(bt s i - 48).toNat, by omega⟩
    have hc9 : c ≤ 9 := by omega
    have hfv : fv s (i + 1) = o * 10 ^ (r + 1) + (10 * w + c) := by
      have e0 : (bt s i - 48).toNat = c := by omega
      simp only [fv]
      rw [hv, e0, Nat.pow_succ]
      exact ff_arith c
    have hw1 : 10 * w + c < 10 ^ (r + 1) := by rw [Nat.pow_succ]; exact ff_w hw hc9
    have ew : wrap64 (wrap64 (10 * (w : Int)) + (bt s i - 48) % 256) = ((10 * w + c : Nat) : Int) := by rw [hc]; exact ff_own hw hP hc9
    have es : wrap64 (10 * ((10 ^ r : Nat) : Int)) = ((10 ^ (r + 1) : Nat) : Int) := by rw [Nat.pow_succ]; exact ff_scale hP
    have hP18 : 10 ^ (r + 1) ≤ 1000000000000000000 := by rw [Nat.pow_succ]; exact hP
    have hole : o ≤ fv s i := by
      rw [hv]
      exact Nat.le_trans (Nat.le_mul_of_pos_right _ (Nat.pow_pos (by decide))) (Nat.le_add_right _ _)
    have ho := D_ten (Nat.lt_of_le_of_lt hole (fv_lt hf))
    have h3 : o * 10 ^ (r + 1) ≤ fv s (i + 1) := by rw [hfv]; exact Nat.le_add_right _ _
    have hm := D_ten (Nat.lt_of_le_of_lt h3 hlt)
    have hown : 10 * w + c ≤ 1000000000000000000 := Nat.le_trans (Nat.le_of_lt hw1) hP18
    have hs1 := small_ten hP18
    have hs2 := small_ten hown
    have k1 : 10 ^ (r + 1) < 18446744073709551616 := Nat.lt_of_le_of_lt hP18 (by decide)
    have k2 : 10 * w + c < 18446744073709551616 := Nat.lt_of_le_of_lt hown (by decide)
    have k3 : (D o).length + (D (10 ^ (r + 1))).length < 35184372088832 := Nat.lt_of_le_of_lt (Nat.add_le_add ho hs1) j4
    have k4 : (D (o * 10 ^ (r + 1))).length < 35184372088832 := Nat.lt_of_le_of_lt hm j4
    have k5 : (D (10 * w + c)).length < 35184372088832 := Nat.lt_of_le_of_lt hs2 (by decide)
    have flush : (i % 18 = 17 ∨ i + 1 = s.size) → Av (fun k => impl_fromFigures.j2 k s (D o) ((10 * w + c : Nat) : Int) ((10 ^ (r + 1) : Nat) : Int) s.size i true) (fgr s) := by
      intro hor
      refine Av.succ ?_
      simp only [impl_fromFigures.j2, e1]
      refine Av.ifp (by decide) (Av.bind (small_f _ k1) (Av.bind (times_f _ _ k3) (Av.bind (small_f _ k2) (Av.bind (plus_f _ _ k4 k5) ?_))))
      rw [← hfv]
      have hn := ff_loop s hs d (i + 1) (fv s (i + 1)) 0 0 i2 i1 hf1 (by simp) (by decide) (by decide) (g0 hor) (fun _ => rfl)
      exact hn
    refine Av.succ ?_
    simp only [impl_fromFigures.j1, ew, es, et, en]
    refine Av.ifn (by decide) ?_
    by_cases h17 : i % 18 = 17
    · exact Av.ifp (by rw [h17]; rfl) (flush (.inl h17))
    · refine Av.ifn (fun h => h17 (Int.ofNat.inj h)) ?_
      by_cases hl : i + 1 = s.size
      · have eb : ((i : Int) == ((s.size - 1 : Nat) : Int)) = true := beq_iff_eq.2 (congrArg Int.ofNat (g3 hl))
        rw [eb]; exact flush (.inr hl)
      · have eb : ((i : Int) == ((s.size - 1 : Nat) : Int)) = false := by
          rw [beq_eq_false_iff_ne]
          exact fun h => g2 hl (Int.ofNat.inj h)
        rw [eb]
        refine Av.succ ?_
        simp only [impl_fromFigures.j2, e1]
        refine Av.ifn (by decide) ?_
        refine ff_loop s hs d (i + 1) o (10 * w + c) (r + 1) i2 i1 hf1 hfv hw1 (g1 h17) (fun _ => ?_) (fun h => absurd h hl)
        rw [hr2]; exact ff_mod h17
theorem ff_f (s : ByteArray) (hs : s.size ≤ 100000) : Av (fun k => impl_fromFigures.f k s) (fgr s) := by
  unfold impl_fromFigures.f
  have h := ff_loop s hs s.size 0 0 0 0 rfl (Nat.zero_le _) rfl (by simp [fv]) (by decide) (by decide) (fun _ => rfl) (fun _ => rfl)
  exact h
/-- The number of a text, if it is one of figures alone. -/
def fgv (s : ByteArray) : Option Nat := if figN s s.size then some (fv s s.size) else none
def fgl (s : ByteArray) : List Int := match fgv s with
  | some n => D n
  | none => []
theorem fgr_fst (s : ByteArray) : (fgr s).1 = fgl s := by
  unfold fgr fgl fgv
  cases figN s s.size <;> rfl
theorem figured_loop (l : List ByteArray) (hs : l.all (fun s => decide (s.size ≤ 1000)) = true) (hl : l.length < 1000000) : ∀ (d i : Nat), l.length - i = d → i ≤ l.length → Av (fun k => impl_figured.l0 k ((l.take i).map fgl) l l.length i) (l.map fgl)
  | 0, i, hd, hi => by
    refine Av.succ ?_
    simp only [impl_figured.l0]
    refine Av.ifn (by omega) (Av.ret' ?_)
    rw [List.take_of_length_le (by omega)]
  | d + 1, i, hd, hi => by
    have i1 : i < l.length := by omega
    have e1 : wrap64 ((i : Int) + 1) = ((i + 1 : Nat) : Int) := wrap_one (by omega)
    have hr : rdOf ByteArray.empty l (i : Int) = l[i] := by
      unfold rdOf
      rw [Int.toNat_natCast, List.getD_eq_getElem?_getD, List.getElem?_eq_getElem i1]; rfl
    have hz : l[i].size ≤ 1000 := by
      have := List.all_eq_true.1 hs l[i] (List.getElem_mem i1)
      simpa using this
    refine Av.succ ?_
    simp only [impl_figured.l0, e1, hr]
    refine Av.ifp (by omega) (Av.ifp (by omega) (Av.ifp (by omega) (Av.bind (ff_f _ (by omega)) (Av.ifp (by rw [List.length_map, List.length_take]; omega) ?_))))
    rw [fgr_fst]
    have := figured_loop l hs hl d (i + 1) (by omega) (by omega)
    rw [List.take_succ_eq_append_getElem i1, List.map_append] at this
    exact this
theorem figured_f (l : List ByteArray) (hs : l.all (fun s => decide (s.size ≤ 1000)) = true) (hl : l.length < 1000000) : Av (fun k => impl_figured.f k l) (l.map fgl) := by
  unfold impl_figured.f
  exact figured_loop l hs hl l.length 0 (by omega) (by omega)
/-- The eleven numbers of a curve: P, R, B, both of B2, the base point's two, the pair base point's four. -/
def cn (id : Nat) : List Nat :=
  if id = 1 then [1706311, 1704961, 3, 46117, 276699, 1, 2, 1065856, 131722, 644753, 478480]
  else if id = 2 then [10647363907, 9831361, 4, 4, 4, 1128182299, 5053441866, 6020256047, 6598444234, 1086762473, 7297982430]
  else if id = 3 then [21888242871839275222246405745257275088696311157297823662689037894645226208583, 21888242871839275222246405745257275088548364400416034343698204186575808495617, 3, 19485874751759354771024239261021720505790618469301721065564631296452457478373, 266929791119991161246907387137283842545076965332900288569378510910307636690, 1, 2, 10857046999023057135944570762232829481370756359578518086990519993285655852781, 11559732032986387107991004021392285783925812861821192530917403151452391805634, 8495653923123431417604973247489272438418190587263600148770280649306958101930, 4082367875863433681332203403145435568316851327593401208105741076214120093531]
  else [4002409555221667393417789825735904156556882819939007885332058136124031650490837864442687629129015664037894272559787, 52435875175126190479447740508185965837690552500527637822603658699938581184513, 4, 4, 4, 3685416753713387016781088315183077757961620795782546409894578378688607592378376318836054947676345821548104185464507, 1339506544944476473020471379941921221584933875938349620426543736416511423956333506472724655353366534992391756441569, 352701069587466618187139116011060144890029952792775240219908644239793785735715026873347600343865175952761926303160, 3059144344244213709971259814753781636986470325476647558659373206291635324768958432433509563104347017837885763365758, 1985150602287291935568054521177171638300868978215655730859378665066344726373823718423869104263333984641494340347905, 927553665492332455747201965776037880757740193453592970025027978793976877002675564980949289727957565575433344219582]
def nm (id : Nat) : ByteArray := if id = 1 then (⟨#[110, 97, 114, 114, 111, 119, 45, 115, 109, 97, 108, 108]⟩ : ByteArray) else if id = 2 then (⟨#[98, 114, 111, 97, 100, 45, 115, 109, 97, 108, 108]⟩ : ByteArray) else if id = 3 then (⟨#[110, 97, 114, 114, 111, 119]⟩ : ByteArray) else (⟨#[98, 114, 111, 97, 100]⟩ : ByteArray)
def brd (id : Nat) : Bool := id == 2 || id == 4
def figs (id : Nat) : List ByteArray :=
  if id = 1 then [(⟨#[49, 55, 48, 54, 51, 49, 49]⟩ : ByteArray), (⟨#[49, 55, 48, 52, 57, 54, 49]⟩ : ByteArray), (⟨#[51]⟩ : ByteArray), (⟨#[52, 54, 49, 49, 55]⟩ : ByteArray), (⟨#[50, 55, 54, 54, 57, 57]⟩ : ByteArray), (⟨#[49]⟩ : ByteArray), (⟨#[50]⟩ : ByteArray), (⟨#[49, 48, 54, 53, 56, 53, 54]⟩ : ByteArray), (⟨#[49, 51, 49, 55, 50, 50]⟩ : ByteArray), (⟨#[54, 52, 52, 55, 53, 51]⟩ : ByteArray), (⟨#[52, 55, 56, 52, 56, 48]⟩ : ByteArray)]
  else if id = 2 then [(⟨#[49, 48, 54, 52, 55, 51, 54, 51, 57, 48, 55]⟩ : ByteArray), (⟨#[57, 56, 51, 49, 51, 54, 49]⟩ : ByteArray), (⟨#[52]⟩ : ByteArray), (⟨#[52]⟩ : ByteArray), (⟨#[52]⟩ : ByteArray), (⟨#[49, 49, 50, 56, 49, 56, 50, 50, 57, 57]⟩ : ByteArray), (⟨#[53, 48, 53, 51, 52, 52, 49, 56, 54, 54]⟩ : ByteArray), (⟨#[54, 48, 50, 48, 50, 53, 54, 48, 52, 55]⟩ : ByteArray), (⟨#[54, 53, 57, 56, 52, 52, 52, 50, 51, 52]⟩ : ByteArray), (⟨#[49, 48, 56, 54, 55, 54, 50, 52, 55, 51]⟩ : ByteArray), (⟨#[55, 50, 57, 55, 57, 56, 50, 52, 51, 48]⟩ : ByteArray)]
  else if id = 3 then [(⟨#[50, 49, 56, 56, 56, 50, 52, 50, 56, 55, 49, 56, 51, 57, 50, 55, 53, 50, 50, 50, 50, 52, 54, 52, 48, 53, 55, 52, 53, 50, 53, 55, 50, 55, 53, 48, 56, 56, 54, 57, 54, 51, 49, 49, 49, 53, 55, 50, 57, 55, 56, 50, 51, 54, 54, 50, 54, 56, 57, 48, 51, 55, 56, 57, 52, 54, 52, 53, 50, 50, 54, 50, 48, 56, 53, 56, 51]⟩ : ByteArray), (⟨#[50, 49, 56, 56, 56, 50, 52, 50, 56, 55, 49, 56, 51, 57, 50, 55, 53, 50, 50, 50, 50, 52, 54, 52, 48, 53, 55, 52, 53, 50, 53, 55, 50, 55, 53, 48, 56, 56, 53, 52, 56, 51, 54, 52, 52, 48, 48, 52, 49, 54, 48, 51, 52, 51, 52, 51, 54, 57, 56, 50, 48, 52, 49, 56, 54, 53, 55, 53, 56, 48, 56, 52, 57, 53, 54, 49, 55]⟩ : ByteArray), (⟨#[51]⟩ : ByteArray), (⟨#[49, 57, 52, 56, 53, 56, 55, 52, 55, 53, 49, 55, 53, 57, 51, 53, 52, 55, 55, 49, 48, 50, 52, 50, 51, 57, 50, 54, 49, 48, 50, 49, 55, 50, 48, 53, 48, 53, 55, 57, 48, 54, 49, 56, 52, 54, 57, 51, 48, 49, 55, 50, 49, 48, 54, 53, 53, 54, 52, 54, 51, 49, 50, 57, 54, 52, 53, 50, 52, 53, 55, 52, 55, 56, 51, 55, 51]⟩ : ByteArray), (⟨#[50, 54, 54, 57, 50, 57, 55, 57, 49, 49, 49, 57, 57, 57, 49, 49, 54, 49, 50, 52, 54, 57, 48, 55, 51, 56, 55, 49, 51, 55, 50, 56, 51, 56, 52, 50, 53, 52, 53, 48, 55, 54, 57, 54, 53, 51, 51, 50, 57, 48, 48, 50, 56, 56, 53, 54, 57, 51, 55, 56, 53, 49, 48, 57, 49, 48, 51, 48, 55, 54, 51, 54, 54, 57, 48]⟩ : ByteArray), (⟨#[49]⟩ : ByteArray), (⟨#[50]⟩ : ByteArray), (⟨#[49, 48, 56, 53, 55, 48, 52, 54, 57, 57, 57, 48, 50, 51, 48, 53, 55, 49, 51, 53, 57, 52, 52, 53, 55, 48, 55, 54, 50, 50, 51, 50, 56, 50, 57, 52, 56, 49, 51, 55, 48, 55, 53, 54, 51, 53, 57, 53, 55, 56, 53, 49, 56, 48, 56, 54, 57, 57, 48, 53, 49, 57, 57, 57, 51, 50, 56, 53, 54, 53, 53, 56, 53, 50, 55, 56, 49]⟩ : ByteArray), (⟨#[49, 49, 53, 53, 57, 55, 51, 50, 48, 51, 50, 57, 56, 54, 51, 56, 55, 49, 48, 55, 57, 57, 49, 48, 48, 52, 48, 50, 49, 51, 57, 50, 50, 56, 53, 55, 56, 51, 57, 50, 53, 56, 49, 50, 56, 54, 49, 56, 50, 49, 49, 57, 50, 53, 51, 48, 57, 49, 55, 52, 48, 51, 49, 53, 49, 52, 53, 50, 51, 57, 49, 56, 48, 53, 54, 51, 52]⟩ : ByteArray), (⟨#[56, 52, 57, 53, 54, 53, 51, 57, 50, 51, 49, 50, 51, 52, 51, 49, 52, 49, 55, 54, 48, 52, 57, 55, 51, 50, 52, 55, 52, 56, 57, 50, 55, 50, 52, 51, 56, 52, 49, 56, 49, 57, 48, 53, 56, 55, 50, 54, 51, 54, 48, 48, 49, 52, 56, 55, 55, 48, 50, 56, 48, 54, 52, 57, 51, 48, 54, 57, 53, 56, 49, 48, 49, 57, 51, 48]⟩ : ByteArray), (⟨#[52, 48, 56, 50, 51, 54, 55, 56, 55, 53, 56, 54, 51, 52, 51, 51, 54, 56, 49, 51, 51, 50, 50, 48, 51, 52, 48, 51, 49, 52, 53, 52, 51, 53, 53, 54, 56, 51, 49, 54, 56, 53, 49, 51, 50, 55, 53, 57, 51, 52, 48, 49, 50, 48, 56, 49, 48, 53, 55, 52, 49, 48, 55, 54, 50, 49, 52, 49, 50, 48, 48, 57, 51, 53, 51, 49]⟩ : ByteArray)]
  else [(⟨#[52, 48, 48, 50, 52, 48, 57, 53, 53, 53, 50, 50, 49, 54, 54, 55, 51, 57, 51, 52, 49, 55, 55, 56, 57, 56, 50, 53, 55, 51, 53, 57, 48, 52, 49, 53, 54, 53, 53, 54, 56, 56, 50, 56, 49, 57, 57, 51, 57, 48, 48, 55, 56, 56, 53, 51, 51, 50, 48, 53, 56, 49, 51, 54, 49, 50, 52, 48, 51, 49, 54, 53, 48, 52, 57, 48, 56, 51, 55, 56, 54, 52, 52, 52, 50, 54, 56, 55, 54, 50, 57, 49, 50, 57, 48, 49, 53, 54, 54, 52, 48, 51, 55, 56, 57, 52, 50, 55, 50, 53, 53, 57, 55, 56, 55]⟩ : ByteArray), (⟨#[53, 50, 52, 51, 53, 56, 55, 53, 49, 55, 53, 49, 50, 54, 49, 57, 48, 52, 55, 57, 52, 52, 55, 55, 52, 48, 53, 48, 56, 49, 56, 53, 57, 54, 53, 56, 51, 55, 54, 57, 48, 53, 53, 50, 53, 48, 48, 53, 50, 55, 54, 51, 55, 56, 50, 50, 54, 48, 51, 54, 53, 56, 54, 57, 57, 57, 51, 56, 53, 56, 49, 49, 56, 52, 53, 49, 51]⟩ : ByteArray), (⟨#[52]⟩ : ByteArray), (⟨#[52]⟩ : ByteArray), (⟨#[52]⟩ : ByteArray), (⟨#[51, 54, 56, 53, 52, 49, 54, 55, 53, 51, 55, 49, 51, 51, 56, 55, 48, 49, 54, 55, 56, 49, 48, 56, 56, 51, 49, 53, 49, 56, 51, 48, 55, 55, 55, 53, 55, 57, 54, 49, 54, 50, 48, 55, 57, 53, 55, 56, 50, 53, 52, 54, 52, 48, 57, 56, 57, 52, 53, 55, 56, 51, 55, 56, 54, 56, 56, 54, 48, 55, 53, 57, 50, 51, 55, 56, 51, 55, 54, 51, 49, 56, 56, 51, 54, 48, 53, 52, 57, 52, 55, 54, 55, 54, 51, 52, 53, 56, 50, 49, 53, 52, 56, 49, 48, 52, 49, 56, 53, 52, 54, 52, 53, 48, 55]⟩ : ByteArray), (⟨#[49, 51, 51, 57, 53, 48, 54, 53, 52, 52, 57, 52, 52, 52, 55, 54, 52, 55, 51, 48, 50, 48, 52, 55, 49, 51, 55, 57, 57, 52, 49, 57, 50, 49, 50, 50, 49, 53, 56, 52, 57, 51, 51, 56, 55, 53, 57, 51, 56, 51, 52, 57, 54, 50, 48, 52, 50, 54, 53, 52, 51, 55, 51, 54, 52, 49, 54, 53, 49, 49, 52, 50, 51, 57, 53, 54, 51, 51, 51, 53, 48, 54, 52, 55, 50, 55, 50, 52, 54, 53, 53, 51, 53, 51, 51, 54, 54, 53, 51, 52, 57, 57, 50, 51, 57, 49, 55, 53, 54, 52, 52, 49, 53, 54, 57]⟩ : ByteArray), (⟨#[51, 53, 50, 55, 48, 49, 48, 54, 57, 53, 56, 55, 52, 54, 54, 54, 49, 56, 49, 56, 55, 49, 51, 57, 49, 49, 54, 48, 49, 49, 48, 54, 48, 49, 52, 52, 56, 57, 48, 48, 50, 57, 57, 53, 50, 55, 57, 50, 55, 55, 53, 50, 52, 48, 50, 49, 57, 57, 48, 56, 54, 52, 52, 50, 51, 57, 55, 57, 51, 55, 56, 53, 55, 51, 53, 55, 49, 53, 48, 50, 54, 56, 55, 51, 51, 52, 55, 54, 48, 48, 51, 52, 51, 56, 54, 53, 49, 55, 53, 57, 53, 50, 55, 54, 49, 57, 50, 54, 51, 48, 51, 49, 54, 48]⟩ : ByteArray), (⟨#[51, 48, 53, 57, 49, 52, 52, 51, 52, 52, 50, 52, 52, 50, 49, 51, 55, 48, 57, 57, 55, 49, 50, 53, 57, 56, 49, 52, 55, 53, 51, 55, 56, 49, 54, 51, 54, 57, 56, 54, 52, 55, 48, 51, 50, 53, 52, 55, 54, 54, 52, 55, 53, 53, 56, 54, 53, 57, 51, 55, 51, 50, 48, 54, 50, 57, 49, 54, 51, 53, 51, 50, 52, 55, 54, 56, 57, 53, 56, 52, 51, 50, 52, 51, 51, 53, 48, 57, 53, 54, 51, 49, 48, 52, 51, 52, 55, 48, 49, 55, 56, 51, 55, 56, 56, 53, 55, 54, 51, 51, 54, 53, 55, 53, 56]⟩ : ByteArray), (⟨#[49, 57, 56, 53, 49, 53, 48, 54, 48, 50, 50, 56, 55, 50, 57, 49, 57, 51, 53, 53, 54, 56, 48, 53, 52, 53, 50, 49, 49, 55, 55, 49, 55, 49, 54, 51, 56, 51, 48, 48, 56, 54, 56, 57, 55, 56, 50, 49, 53, 54, 53, 53, 55, 51, 48, 56, 53, 57, 51, 55, 56, 54, 54, 53, 48, 54, 54, 51, 52, 52, 55, 50, 54, 51, 55, 51, 56, 50, 51, 55, 49, 56, 52, 50, 51, 56, 54, 57, 49, 48, 52, 50, 54, 51, 51, 51, 51, 57, 56, 52, 54, 52, 49, 52, 57, 52, 51, 52, 48, 51, 52, 55, 57, 48, 53]⟩ : ByteArray), (⟨#[57, 50, 55, 53, 53, 51, 54, 54, 53, 52, 57, 50, 51, 51, 50, 52, 53, 53, 55, 52, 55, 50, 48, 49, 57, 54, 53, 55, 55, 54, 48, 51, 55, 56, 56, 48, 55, 53, 55, 55, 52, 48, 49, 57, 51, 52, 53, 51, 53, 57, 50, 57, 55, 48, 48, 50, 53, 48, 50, 55, 57, 55, 56, 55, 57, 51, 57, 55, 54, 56, 55, 55, 48, 48, 50, 54, 55, 53, 53, 54, 52, 57, 56, 48, 57, 52, 57, 50, 56, 57, 55, 50, 55, 57, 53, 55, 53, 54, 53, 53, 55, 53, 52, 51, 51, 51, 52, 52, 50, 49, 57, 53, 56, 50]⟩ : ByteArray)]
theorem figs_cn : ∀ i : Fin 4, (figs (i.val + 1)).map fgv = (cn (i.val + 1)).map some ∧ (figs (i.val + 1)).length = 11 ∧ (figs (i.val + 1)).all (fun s => decide (s.size ≤ 1000)) = true := by decide +kernel
/-- What a curve's form holds. -/
def frm (id : Nat) : ByteArray × Bool × List Int × List Int × List Int × List Int × List Int × List Int × List Int × List Int × List Int × List Int × List Int :=
  (nm id, brd id, D ((cn id).getD 0 0), D ((cn id).getD 1 0), D ((cn id).getD 2 0), D ((cn id).getD 3 0), D ((cn id).getD 4 0), D ((cn id).getD 5 0), D ((cn id).getD 6 0), D ((cn id).getD 7 0), D ((cn id).getD 8 0), D ((cn id).getD 9 0), D ((cn id).getD 10 0))
theorem form_f (a : ByteArray) (b : Bool) (l : List ByteArray) (c : List Nat) (h : l.map fgv = c.map some) (hl : l.length = 11) (hs : l.all (fun s => decide (s.size ≤ 1000)) = true) : Av (fun k => impl_formOf.f k a b l) (a, b, D (c.getD 0 0), D (c.getD 1 0), D (c.getD 2 0), D (c.getD 3 0), D (c.getD 4 0), D (c.getD 5 0), D (c.getD 6 0), D (c.getD 7 0), D (c.getD 8 0), D (c.getD 9 0), D (c.getD 10 0)) := by
  unfold impl_formOf.f
  refine Av.bind (figured_f l hs (by omega)) ?_
  have e : l.map fgl = c.map D := by
    have h1 : l.map fgl = (l.map fgv).map (fun o => match o with | some n => D n | none => []) := by
      rw [List.map_map]; rfl
    rw [h1, h, List.map_map]; rfl
  have hc : c.length = 11 := by
    have := congrArg List.length h
    simp only [List.length_map] at this
    omega
  have hm : (c.map D).length = 11 := by rw [List.length_map, hc]
  rw [e]
  have g : ∀ j : Nat, rd_L4 (c.map D) (j : Int) = D (c.getD j 0) := by
    intro j
    unfold rd_L4
    rw [Int.toNat_natCast, List.getD_eq_getElem?_getD, List.getD_eq_getElem?_getD, List.getElem?_map]
    cases c[j]? <;> rfl
  refine Av.ifp (by omega) (Av.ifp (by omega) (Av.ifp (by omega) (Av.ifp (by omega) (Av.ifp (by omega) (Av.ifp (by omega) (Av.ifp (by omega) (Av.ifp (by omega) (Av.ifp (by omega) (Av.ifp (by omega) (Av.ifp (by omega) (Av.ret' ?_)))))))))))
  have g0 := g 0
  have g1 := g 1
  have g2 := g 2
  have g3 := g 3
  have g4 := g 4
  have g5 := g 5
  have g6 := g 6
  have g7 := g 7
  have g8 := g 8
  have g9 := g 9
  have g10 := g 10
  simp only [Int.ofNat_eq_natCast, Int.natCast_zero, Int.natCast_one] at g0 g1
  simp only [show ((0 : Nat) : Int) = 0 from rfl, show ((1 : Nat) : Int) = 1 from rfl, show ((2 : Nat) : Int) = 2 from rfl, show ((3 : Nat) : Int) = 3 from rfl, show ((4 : Nat) : Int) = 4 from rfl, show ((5 : Nat) : Int) = 5 from rfl, show ((6 : Nat) : Int) = 6 from rfl, show ((7 : Nat) : Int) = 7 from rfl, show ((8 : Nat) : Int) = 8 from rfl, show ((9 : Nat) : Int) = 9 from rfl, show ((10 : Nat) : Int) = 10 from rfl] at g0 g1 g2 g3 g4 g5 g6 g7 g8 g9 g10
  rw [g0, g1, g2, g3, g4, g5, g6, g7, g8, g9, g10]
theorem curve_f (id : Nat) (h1 : 1 ≤ id) (h4 : id ≤ 4) : Av (fun k => impl_curve.f k id) (frm id) := by
  have hf := figs_cn ⟨id - 1, by omega⟩
  have e : id - 1 + 1 = id := by omega
  simp only [e] at hf
  have hfm := fun a b => form_f a b (figs id) (cn id) hf.1 hf.2.1 hf.2.2
  unfold impl_curve.f
  by_cases c1 : id = 1
  · subst c1
    exact Av.ifp (by decide) (Av.bind (hfm _ _) (Av.ret' rfl))
  refine Av.ifn (by omega) ?_
  by_cases c2 : id = 2
  · subst c2
    exact Av.ifp (by decide) (Av.bind (hfm _ _) (Av.ret' rfl))
  refine Av.ifn (by omega) ?_
  by_cases c3 : id = 3
  · subst c3
    exact Av.ifp (by decide) (Av.bind (hfm _ _) (Av.ret' rfl))
  refine Av.ifn (by omega) ?_
  obtain rfl : id = 4 := by omega
  exact Av.bind (hfm _ _) (Av.ret' rfl)
theorem cn_gb : ∀ i : Fin 4, (cn (i.val + 1)).all (fun n => decide (n < 256 ^ 48)) = true := by decide +kernel
theorem cn_lt {id : Nat} (h1 : 1 ≤ id) (h4 : id ≤ 4) (j : Nat) : (cn id).getD j 0 < 256 ^ 48 := by
  have h := cn_gb ⟨id - 1, by omega⟩
  have e : id - 1 + 1 = id := by omega
  simp only [e, List.all_eq_true, decide_eq_true_eq] at h
  rw [List.getD_eq_getElem?_getD]
  rcases hq : (cn id)[j]? with _ | n
  · exact Nat.pow_pos (by decide)
  · exact h n (List.mem_of_getElem? hq)
theorem cn_gb' {id : Nat} (h1 : 1 ≤ id) (h4 : id ≤ 4) (j : Nat) : (cn id).getD j 0 < GB := Nat.lt_of_lt_of_le (cn_lt h1 h4 j) (Nat.pow_le_pow_right (by decide) (by decide))
def crv (id : Nat) : ByteArray × ByteArray × ByteArray × ByteArray × ByteArray × ByteArray × Int × Int × Bool :=
  (nm id, bts ((cn id).getD 0 0), bts ((cn id).getD 1 0), bts ((cn id).getD 2 0), bts ((cn id).getD 3 0), bts ((cn id).getD 4 0), ((bts ((cn id).getD 0 0)).size : Int), ((bts ((cn id).getD 1 0)).size : Int), brd id)
theorem crv1 : crv 1 = ((⟨#[110, 97, 114, 114, 111, 119, 45, 115, 109, 97, 108, 108]⟩ : ByteArray), (⟨#[26, 9, 71]⟩ : ByteArray), (⟨#[26, 4, 1]⟩ : ByteArray), (⟨#[3]⟩ : ByteArray), (⟨#[180, 37]⟩ : ByteArray), (⟨#[4, 56, 219]⟩ : ByteArray), 3, 3, false) := by kernel_rfl
theorem crv2 : crv 2 = ((⟨#[98, 114, 111, 97, 100, 45, 115, 109, 97, 108, 108]⟩ : ByteArray), (⟨#[2, 122, 161, 225, 67]⟩ : ByteArray), (⟨#[150, 3, 193]⟩ : ByteArray), (⟨#[4]⟩ : ByteArray), (⟨#[4]⟩ : ByteArray), (⟨#[4]⟩ : ByteArray), 5, 3, true) := by kernel_rfl
theorem crv3 : crv 3 = ((⟨#[110, 97, 114, 114, 111, 119]⟩ : ByteArray), (⟨#[48, 100, 78, 114, 225, 49, 160, 41, 184, 80, 69, 182, 129, 129, 88, 93, 151, 129, 106, 145, 104, 113, 202, 141, 60, 32, 140, 22, 216, 124, 253, 71]⟩ : ByteArray), (⟨#[48, 100, 78, 114, 225, 49, 160, 41, 184, 80, 69, 182, 129, 129, 88, 93, 40, 51, 232, 72, 121, 185, 112, 145, 67, 225, 245, 147, 240, 0, 0, 1]⟩ : ByteArray), (⟨#[3]⟩ : ByteArray), (⟨#[43, 20, 157, 64, 206, 184, 170, 174, 129, 190, 24, 153, 27, 224, 106, 195, 181, 180, 197, 229, 89, 219, 239, 163, 50, 103, 230, 220, 36, 161, 56, 229]⟩ : ByteArray), (⟨#[151, 19, 176, 58, 240, 254, 212, 205, 44, 175, 173, 238, 216, 253, 244, 167, 79, 160, 132, 229, 45, 24, 82, 228, 162, 189, 6, 133, 195, 21, 210]⟩ : ByteArray), 32, 32, false) := by kernel_rfl
theorem crv4 : crv 4 = ((⟨#[98, 114, 111, 97, 100]⟩ : ByteArray), (⟨#[26, 1, 17, 234, 57, 127, 230, 154, 75, 27, 167, 182, 67, 75, 172, 215, 100, 119, 75, 132, 243, 133, 18, 191, 103, 48, 210, 160, 246, 176, 246, 36, 30, 171, 255, 254, 177, 83, 255, 255, 185, 254, 255, 255, 255, 255, 170, 171]⟩ : ByteArray), (⟨#[115, 237, 167, 83, 41, 157, 125, 72, 51, 57, 216, 8, 9, 161, 216, 5, 83, 189, 164, 2, 255, 254, 91, 254, 255, 255, 255, 255, 0, 0, 0, 1]⟩ : ByteArray), (⟨#[4]⟩ : ByteArray), (⟨#[4]⟩ : ByteArray), (⟨#[4]⟩ : ByteArray), 48, 32, true) := by kernel_rfl
theorem l09_s (id : Nat) (h1 : 1 ≤ id) (h4 : id ≤ 4) : spec_l09Curve.f id = some (crv id) := by
  unfold spec_l09Curve.f
  by_cases c1 : id = 1
  · subst c1; rw [if_pos (by decide), crv1]
  rw [if_neg (by omega)]
  by_cases c2 : id = 2
  · subst c2; rw [if_pos (by decide), crv2]
  rw [if_neg (by omega)]
  by_cases c3 : id = 3
  · subst c3; rw [if_pos (by decide), crv3]
  rw [if_neg (by omega)]
  obtain rfl : id = 4 := by omega
  rw [if_pos (by decide), crv4]
theorem in14 (id : Int) : spec_l01In.f id 1 4 = some (decide (1 ≤ id ∧ id ≤ 4)) := by
  unfold spec_l01In.f
  by_cases h : id ≥ 1
  · rw [if_pos h]
    congr 1
    exact decide_eq_decide.2 ⟨fun h2 => ⟨h, h2⟩, fun h2 => h2.2⟩
  · rw [if_neg h]
    congr 1
    rw [decide_eq_false (fun h2 => h h2.1)]
/-- What CurveOf answers of a curve that there is. -/
def cof (id : Nat) : ByteArray × ByteArray × ByteArray × ByteArray × ByteArray × ByteArray × Int × Int × Bool × Bool :=
  (nm id, bts ((cn id).getD 0 0), bts ((cn id).getD 1 0), bts ((cn id).getD 2 0), bts ((cn id).getD 3 0), bts ((cn id).getD 4 0), ((bts ((cn id).getD 0 0)).size : Int), ((bts ((cn id).getD 1 0)).size : Int), brd id, true)
theorem curveof_s (id : Nat) (h1 : 1 ≤ id) (h4 : id ≤ 4) : spec_CurveOf.f id = some (cof id) := by
  unfold spec_CurveOf.f
  rw [l09_s id h1 h4, Option.bind_some, in14, Option.bind_some, decide_eq_true (by omega)]
  rfl
/-- A number small enough for everything here. -/
def Sm (n : Nat) : Prop := (D n).length < 1000000 ∧ (E n).length < 1000000
theorem D_of {n j : Nat} (h : n < 256 ^ j) : (D n).length ≤ j := (D_le _ _).2 (Nat.lt_of_lt_of_le h (Nat.pow_le_pow_left (by decide) _))
theorem E_of {n j : Nat} (h : n < 256 ^ j) : (E n).length ≤ j := (E_le _ _).2 (Nat.lt_of_lt_of_le h (Nat.pow_le_pow_left (by decide) _))
theorem Sm.of {n j : Nat} (h : n < 256 ^ j) (hj : j < 1000000) : Sm n := ⟨Nat.lt_of_le_of_lt (D_of h) hj, Nat.lt_of_le_of_lt (E_of h) hj⟩
theorem Sm.le {m n : Nat} (h : Sm n) (hm : m ≤ n) : Sm m := ⟨Nat.lt_of_le_of_lt (D_mono hm) h.1, Nat.lt_of_le_of_lt (E_mono hm) h.2⟩
theorem Sm.gb {n : Nat} (h : n < GB) : Sm n := Sm.of h (by decide)
theorem Sm.add {a b : Nat} (ha : a < GB) (hb : b < GB) : Sm (a + b) := Sm.of (j := 161) (by
  have : GB + GB ≤ 256 ^ 161 := by decide
  omega) (by decide)
theorem bv_gb {s : ByteArray} (h : gok s = true) : bv s < GB := by
  obtain ⟨n, hn, rfl⟩ := gok_cases h
  rw [bv_bts]; exact hn
theorem bts_of {s : ByteArray} (h : gok s = true) : bts (bv s) = s := by
  obtain ⟨n, hn, rfl⟩ := gok_cases h
  rw [bv_bts]
theorem cmp_f' {a b : Nat} (ha : Sm a) (hb : Sm b) : Av (fun k => impl_nat_cmp.f k (D a) (D b)) (cmpv a b) := cmp_f a b (by have := ha.1; omega) (by have := hb.1; omega)
theorem wi {n : Int} (h0 : 0 ≤ n) (h1 : n < 2 ^ 63) : IntKind.i64.wrap n = n := by rw [i64_w]; exact wr (by omega) (by omega)
theorem and1i {k : Int} (h0 : 0 ≤ k) (h1 : k < 9223372036854775808) : Go.bits .and .i64 k 1 = k % 2 :=
  bits_mask .i64 63 (by decide) (fun n h0 h1 => wi h0 h1) 1 (by decide) k h0 (by simpa using h1)
theorem gok_size {s : ByteArray} (h : gok s = true) : s.size ≤ 160 := (gok_iff.1 h).1
theorem bitof_s (s : ByteArray) (h : gok s = true) (j : Nat) (hj : j < 9223372036854775808) : spec_BitOf.f s j = some ((bv s / 2 ^ j % 2 : Nat) : Int) := by
  have hs := gok_size h
  unfold spec_BitOf.f
  rw [gok_s, h, Option.bind_some, if_pos rfl]
  rw [if_neg (by omega)]
  simp (disch := omega) only [td, tm, wr]
  by_cases hb : s.size ≤ j / 8
  · rw [if_pos (by omega)]
    have h1 := bv_lt s
    have h2 : (256 : Nat) ^ s.size ≤ 2 ^ j := by
      have : (256 : Nat) = 2 ^ 8 := rfl
      rw [this, ← Nat.pow_mul]
      exact Nat.pow_le_pow_right (by decide) (by omega)
    rw [Nat.div_eq_of_lt (Nat.lt_of_lt_of_le h1 h2)]; rfl
  · rw [if_neg (by omega), if_pos (by omega), if_pos (by omega), ur (by omega) (by omega), if_pos (by omega)]
    have e1 : (s.size : Int) - 1 - (j : Int) / 8 = (s.size : Int) - 1 - ((j / 8 : Nat) : Int) := by omega
    rw [e1, bt_rev s (j / 8) (by omega)]
    have e2 : min ((j : Int) % 8).toNat IntKind.i64.bits = j % 8 := by simp only [IntKind.bits]; omega
    have hlt : bv s / 256 ^ (j / 8) % 256 < 256 := Nat.mod_lt _ (by decide)
    rw [wr (by omega) (by omega)]
    unfold shr
    rw [e2, natCast_div_pow]
    have h4 := dig_sub (b := 2) (by decide) (bv s) 8 (j / 8) (r := j % 8) (by omega)
    have e5 : 8 * (j / 8) + j % 8 = j := by omega
    have e6 : (2 : Nat) ^ 8 = 256 := rfl
    rw [e5, e6] at h4
    have h5 : bv s / 256 ^ (j / 8) % 256 / 2 ^ (j % 8) < 256 := Nat.lt_of_le_of_lt (Nat.div_le_self _ _) hlt
    rw [and1i (Int.natCast_nonneg _) (Int.ofNat_lt.2 (Nat.lt_trans h5 (by decide))), ← h4, Int.natCast_emod]
    rfl
theorem bv_prefix (s : ByteArray) (m : Nat) (h : m < s.size) : bv s / 256 ^ (s.size - (m + 1)) = bv s / 256 ^ (s.size - m) * 256 + bv s / 256 ^ (s.size - (m + 1)) % 256 := by
  have e : s.size - m = s.size - (m + 1) + 1 := by omega
  rw [e, Nat.pow_succ, ← Nat.div_div_eq_div_mul]
  have := Nat.div_add_mod (bv s / 256 ^ (s.size - (m + 1))) 256
  omega
theorem or8i {x b : Nat} (hx : x < 36028797018963968) (hb : b < 256) : Go.bits .or .i64 (wrap64 ((x : Int) * 256)) (wrap64 (b : Int)) = ((x * 256 + b : Nat) : Int) := by
  rw [wr (by omega) (by omega), wr (by omega) (by omega)]
  have := bits_join .i64 63 (by decide) (fun n h0 h1 => wi h0 h1) 8 ((x : Int) * 256) b (by omega) (by simp) (by simp; omega) (by omega) (by simp; omega) (by simp; omega)
  rw [this]; omega
theorem greatint_loop (s : ByteArray) (h8 : s.size ≤ 8) (hv : bv s < 9223372036854775808) : ∀ (d m : Nat), s.size - m = d → m ≤ s.size → Av (fun k => spec_GreatInt.l0 k s ((bv s / 256 ^ (s.size - m) : Nat) : Int) m) ((bv s : Int), true)
  | 0, m, hd, hm => by
    refine Av.succ ?_
    simp only [spec_GreatInt.l0]
    refine Av.ifn (by omega) (Av.ret' ?_)
    rw [hd]; simp
  | d + 1, m, hd, hm => by
    refine Av.succ ?_
    simp only [spec_GreatInt.l0]
    refine Av.ifp (by omega) (Av.ifp (by omega) ?_)
    have hb := bt_rev s (s.size - (m + 1)) (by omega)
    have e1 : (s.size : Int) - 1 - ((s.size - (m + 1) : Nat) : Int) = m := by omega
    rw [e1] at hb
    have hp := bv_prefix s m (by omega)
    have hq : bv s / 256 ^ (s.size - (m + 1)) ≤ bv s := Nat.div_le_self _ _
    have hlt : bv s / 256 ^ (s.size - (m + 1)) % 256 < 256 := Nat.mod_lt _ (by decide)
    have ih := greatint_loop s h8 hv d (m + 1) (by omega) (by omega)
    have e2 : wrap64 ((m : Int) + 1) = ((m + 1 : Nat) : Int) := by rw [wr (by omega) (by omega)]; omega
    rw [e2, hb]
    generalize bv s / 256 ^ (s.size - (m + 1)) = Y at *
    generalize bv s / 256 ^ (s.size - m) = Z at *
    rw [or8i (by omega) hlt, ← hp]
    exact ih
theorem size_big {s : ByteArray} (h : gok s = true) {j : Nat} : j < s.size ↔ 256 ^ j ≤ bv s := by
  obtain ⟨n, hn, rfl⟩ := gok_cases h
  rw [bv_bts, bts_size_lt]
/-- What GreatInt answers of a great number. -/
def giv (n : Nat) : Int × Bool := if n < 9223372036854775808 then ((n : Int), true) else (0, false)
theorem greatint_s (s : ByteArray) (h : gok s = true) : Av (fun k => spec_GreatInt.f k s) (giv (bv s)) := by
  unfold spec_GreatInt.f
  refine Av.bindc (by rw [gok_s, h]) (Av.ifp (by decide) ?_)
  have hb8 := size_big h (j := 8)
  have hlt := bv_lt s
  have tt : giv (bv s) = (0, false) → Av (fun k => spec_GreatInt.j0 k s true) (giv (bv s)) := fun e => by
    refine Av.succ ?_
    simp only [spec_GreatInt.j0]
    exact Av.ifp (by decide) (Av.ret' e.symm)
  have ff : bv s < 9223372036854775808 → s.size ≤ 8 → Av (fun k => spec_GreatInt.j0 k s false) (giv (bv s)) := fun e e8 => by
    refine Av.succ ?_
    simp only [spec_GreatInt.j0]
    refine Av.ifn (by decide) ?_
    have := greatint_loop s e8 e s.size 0 (by omega) (by omega)
    rw [Nat.sub_zero, Nat.div_eq_of_lt (bv_lt s)] at this
    unfold giv; rw [if_pos e]; exact this
  by_cases h9 : 8 < s.size
  · refine Av.ifp (by omega) (tt ?_)
    unfold giv
    rw [if_neg]
    have := hb8.1 h9
    omega
  · refine Av.ifn (by omega) ?_
    by_cases h8 : s.size = 8
    · refine Av.ifp (by omega) (Av.ifp (by omega) ?_)
      have hf := bt_first s (by omega)
      rw [h8] at hf
      by_cases hbt : bt s 0 > 127
      · rw [decide_eq_true hbt]
        refine tt ?_
        unfold giv
        rw [if_neg]
        omega
      · rw [decide_eq_false hbt]
        refine ff ?_ (by omega)
        omega
    · refine Av.ifn (by omega) (ff ?_ (by omega))
      have : (256 : Nat) ^ s.size ≤ 256 ^ 7 := Nat.pow_le_pow_right (by decide) (by omega)
      omega
theorem greatint_bad (s : ByteArray) (h : gok s = false) : Av (fun k => spec_GreatInt.f k s) (0, false) := by
  unfold spec_GreatInt.f
  refine Av.bindc (by rw [gok_s, h]) (Av.ifn (by decide) ?_)
  refine Av.succ ?_
  simp only [spec_GreatInt.j0]
  exact Av.ifp (by decide) Av.ret
end Go.Proofs.Ytohfimjpfnnpgaa.C
namespace Go.Proofs.Ytohfimjpfnnpgaa.M
open Go.RowKit Go.Proofs.YtohfimjpfnnpgaaW.PrintWords Go.Proofs.YtohfimjpfnnpgaaW.PrintLast Go.Proofs.YtohfimjpfnnpgaaW.PrintMore
/-- A prime. -/
def Pr (p : Nat) : Prop := 2 ≤ p ∧ ∀ d, d ∣ p → d = 1 ∨ d = p
theorem Pr.cop {p a : Nat} (h : Pr p) (ha : ¬ p ∣ a) : Nat.gcd p a = 1 := by
  rcases h.2 _ (Nat.gcd_dvd_left p a) with h1 | h1
  · exact h1
  · exact absurd (h1 ▸ Nat.gcd_dvd_right p a) ha
theorem Pr.dvd_mul {p a b : Nat} (h : Pr p) (hd : p ∣ a * b) : p ∣ a ∨ p ∣ b := by
  by_cases ha : p ∣ a
  · exact .inl ha
  · exact .inr (Nat.Coprime.dvd_of_dvd_mul_left (h.cop ha) hd)
theorem Pr.not_dvd {p a : Nat} (h0 : 0 < a) (h1 : a < p) : ¬ p ∣ a := fun h => by
  have := Nat.le_of_dvd h0 h
  omega
theorem prime_of_none {n : Nat} (hn : 2 ≤ n) (h : ∀ d, 2 ≤ d → d * d ≤ n → n % d ≠ 0) : Pr n := by
  refine ⟨hn, fun d hd => ?_⟩
  by_cases h1 : d = 1
  · exact .inl h1
  by_cases h2 : d = n
  · exact .inr h2
  exfalso
  obtain ⟨e, he⟩ := hd
  have hd0 : d ≠ 0 := by rintro rfl; simp at he; omega
  have he0 : e ≠ 0 := by rintro rfl; simp at he; omega
  have he1 : e ≠ 1 := by rintro rfl; simp at he; omega
  rcases Nat.le_total d e with hle | hle
  · exact h d (by omega) (by rw [he]; exact Nat.mul_le_mul_left d hle) (by rw [he, Nat.mul_mod_right])
  · exact h e (by omega) (by rw [he]; exact Nat.mul_le_mul_right e hle) (by rw [he, Nat.mul_mod_left])
/-- The primes that are taken: an odd one below 10000, or one of the curves'. -/
def Tk (p : Nat) : Prop := (3 ≤ p ∧ p < 10000 ∧ Pr p) ∨ p = 1706311 ∨ p = 1704961 ∨ p = 10647363907 ∨ p = 9831361 ∨ p = 21888242871839275222246405745257275088696311157297823662689037894645226208583 ∨ p = 21888242871839275222246405745257275088548364400416034343698204186575808495617 ∨ p = 4002409555221667393417789825735904156556882819939007885332058136124031650490837864442687629129015664037894272559787 ∨ p = 52435875175126190479447740508185965837690552500527637822603658699938581184513
theorem Tk.pos {p : Nat} (h : Tk p) : 0 < p := by
  rcases h with h | h | h | h | h | h | h | h | h <;> omega
theorem Pr.odd {p : Nat} (h : Pr p) (h3 : 3 ≤ p) : p % 2 = 1 := by
  rcases Nat.mod_two_eq_zero_or_one p with h0 | h0
  · rcases h.2 2 (Nat.dvd_of_mod_eq_zero h0) with h1 | h1 <;> omega
  · exact h0
end Go.Proofs.Ytohfimjpfnnpgaa.M
namespace Go.Proofs.Ytohfimjpfnnpgaa.C
open Go.RowKit Go.Proofs.YtohfimjpfnnpgaaW.PrintWords Go.Proofs.YtohfimjpfnnpgaaW.PrintLast Go.Proofs.YtohfimjpfnnpgaaW.PrintMore
open Go.Proofs.Ytohfimjpfnnpgaa.M Go.Proofs.Ytohfimjpfnnpgaa.F
theorem sq_small {d n : Nat} (hd : d ≤ 101) : IntKind.u64.wrap ((d : Int) * d) = ((d * d : Nat) : Int) := by
  have h : d * d ≤ 101 * 101 := Nat.mul_le_mul hd hd
  rw [← Int.natCast_mul]
  generalize d * d = z at *
  exact ur (by omega) (by omega)
theorem sq_small' {d n : Nat} (hd : d ≤ 103) : wrap64 ((d : Int) * d) = ((d * d : Nat) : Int) := by
  have h : d * d ≤ 103 * 103 := Nat.mul_le_mul hd hd
  rw [← Int.natCast_mul]
  generalize d * d = z at *
  exact wr (by omega) (by omega)
theorem sq_bound {d n : Nat} (h : d * d ≤ n) (hn : n < 10000) : d ≤ 99 := by
  rcases Nat.lt_or_ge d 100 with h1 | h1
  · omega
  · have := Nat.mul_le_mul h1 h1; omega
theorem try_f (n : Nat) (h0 : 0 < n) (hn : n < 10000) : ∀ (f d : Nat), 102 - d = f → d ≤ 101 → 1 ≤ d → ∃ b : Bool, Av (fun k => impl_primeOk.l0 k (D n) d) (if b then (D n, true) else ([], false)) ∧ (b = true ↔ ∀ e, d ≤ e → e * e ≤ n → n % e ≠ 0)
  | 0, d, hf, hd, h1 => by omega
  | f + 1, d, hf, hd, h1 => by
    have hp : 0 < (D n).length := by rw [D_lt, Nat.pow_zero]; exact h0
    have hp' : (0 : Int) < (D n).length := Int.ofNat_lt.2 hp
    have hr : rd (D n) 0 = (n : Int) := by
      have := rdD n 0
      rw [Nat.pow_zero, Nat.div_one, Nat.mod_eq_of_lt (by omega)] at this
      exact this
    have hne : ¬ (d : Int) = 0 := by omega
    have hu1 : IntKind.u64.wrap ((d : Int) + 1) = ((d + 1 : Nat) : Int) := by clear hr; rw [ur (by omega) (by omega)]; omega
    by_cases hs : d * d ≤ n
    · have hs' : ((d * d : Nat) : Int) ≤ (n : Int) := Int.ofNat_le.2 hs
      by_cases hz : n % d = 0
      · refine ⟨false, Av.succ ?_, ?_⟩
        · simp only [impl_primeOk.l0, sq_small (n := n) hd, hr]
          refine Av.ifp hp' (Av.ifp hs' (Av.ifn hne (Av.ifp ?_ (Av.ret' rfl))))
          rw [tm (Int.natCast_nonneg _), ← Int.natCast_emod, hz]; rfl
        · exact ⟨fun h => (by cases h), fun h => absurd hz (h d (Nat.le_refl _) hs)⟩
      · have hd2 := sq_bound hs hn
        obtain ⟨b, k1, k2⟩ := try_f n h0 hn f (d + 1) (by omega) (by omega) (by omega)
        refine ⟨b, Av.succ ?_, ?_⟩
        · simp only [impl_primeOk.l0, sq_small (n := n) hd, hr, hu1]
          refine Av.ifp hp' (Av.ifp hs' (Av.ifn hne (Av.ifn ?_ k1)))
          rw [tm (Int.natCast_nonneg _), ← Int.natCast_emod]
          exact fun h => hz (Int.ofNat.inj h)
        · rw [k2]
          constructor
          · intro h e he
            by_cases hde : d = e
            · subst hde; exact fun _ => hz
            · exact h e (Nat.lt_of_le_of_ne he hde)
          · exact fun h e he => h e (Nat.le_of_lt he)
    · refine ⟨true, Av.succ ?_, ?_⟩
      · simp only [impl_primeOk.l0, sq_small (n := n) hd, hr]
        exact Av.ifp hp' (Av.ifn (fun h => hs (Int.ofNat_le.1 h)) (Av.ret' rfl))
      · refine ⟨fun _ e he hee => ?_, fun _ => rfl⟩
        have := Nat.mul_le_mul he he
        exact absurd (Nat.le_trans this hee) hs
theorem try_s (n : Nat) (hn : n < 10000) (ho : n % 2 = 1) : ∀ (f d : Nat), 104 - d = f → d ≤ 103 → 1 ≤ d → d % 2 = 1 → ∃ b : Bool, Av (fun k => spec_l06Small.l0 k n d) b ∧ (b = true ↔ ∀ e, d ≤ e → e * e ≤ n → n % e ≠ 0)
  | 0, d, hf, hd, h1, hod => by omega
  | f + 1, d, hf, hd, h1, hod => by
    have hne : ¬ (d : Int) = 0 := by omega
    have hu1 : wrap64 ((d : Int) + 2) = ((d + 2 : Nat) : Int) := wrap_add (b := 2) (by omega)
    by_cases hs : d * d ≤ n
    · have hs' : ((d * d : Nat) : Int) ≤ (n : Int) := Int.ofNat_le.2 hs
      by_cases hz : n % d = 0
      · refine ⟨false, Av.succ ?_, ?_⟩
        · simp only [spec_l06Small.l0, sq_small' (n := n) hd]
          refine Av.ifp hs' (Av.ifn hne (Av.ifp ?_ Av.ret))
          rw [tm (Int.natCast_nonneg _), ← Int.natCast_emod, hz]; rfl
        · exact ⟨fun h => (by cases h), fun h => absurd hz (h d (Nat.le_refl _) hs)⟩
      · have hd2 := sq_bound hs hn
        obtain ⟨b, k1, k2⟩ := try_s n hn ho (f - 1) (d + 2) (by clear hu1; omega) (by clear hu1; omega) (by clear hu1; omega) (by clear hu1; omega)
        refine ⟨b, Av.succ ?_, ?_⟩
        · simp only [spec_l06Small.l0, sq_small' (n := n) hd, hu1]
          refine Av.ifp hs' (Av.ifn hne (Av.ifn ?_ k1))
          rw [tm (Int.natCast_nonneg _), ← Int.natCast_emod]
          exact fun h => hz (Int.ofNat.inj h)
        · rw [k2]
          constructor
          · intro h e he hee
            by_cases hde : d = e
            · subst hde; exact hz
            · by_cases hde2 : e = d + 1
              · intro h0
                have h2 : 2 ∣ e := Nat.dvd_of_mod_eq_zero (by omega)
                have h3 := Nat.mod_eq_zero_of_dvd (Nat.dvd_trans h2 (Nat.dvd_of_mod_eq_zero h0))
                omega
              · exact h e (by omega) hee
          · exact fun h e he => h e (by omega)
    · refine ⟨true, Av.succ ?_, ?_⟩
      · simp only [spec_l06Small.l0, sq_small' (n := n) hd]
        exact Av.ifn (fun h => hs (Int.ofNat_le.1 h)) Av.ret
      · refine ⟨fun _ e he hee => ?_, fun _ => rfl⟩
        have := Nat.mul_le_mul he he
        exact absurd (Nat.le_trans this hee) hs
theorem pr_of_try {n : Nat} (h2 : 2 ≤ n) : (∀ e, 2 ≤ e → e * e ≤ n → n % e ≠ 0) ↔ Pr n := by
  constructor
  · exact prime_of_none h2
  · intro h e he hee h0
    rcases h.2 e (Nat.dvd_of_mod_eq_zero h0) with h1 | h1
    · omega
    · subst h1
      have := Nat.mul_le_mul_right e he
      omega
theorem pr_of_try3 {n : Nat} (h3 : 3 ≤ n) (ho : n % 2 = 1) : (∀ e, 3 ≤ e → e * e ≤ n → n % e ≠ 0) ↔ Pr n := by
  rw [← pr_of_try (by omega)]
  constructor
  · intro h e he hee
    by_cases h2 : e = 2
    · subst h2; omega
    · exact h e (by omega) hee
  · exact fun h e he => h e (by omega)
/-- Is n one of the primes of the last d curves? -/
def gpl (n : Nat) : Nat → Bool
  | 0 => false
  | d + 1 => n == (cn (4 - d)).getD 0 0 || (n == (cn (4 - d)).getD 1 0 || gpl n d)
theorem gpr_f (n : Nat) (hn : n < GB) : ∀ (d : Nat), d ≤ 4 → Av (fun k => impl_greatPrime.l0 k (D n) ((5 - d : Nat) : Int)) (gpl n d)
  | 0, _ => by
    refine Av.succ ?_
    simp only [impl_greatPrime.l0]
    exact Av.ifn (by decide) (Av.ret' rfl)
  | d + 1, hd => by
    have ih := gpr_f n hn d (by omega)
    have h1 : 1 ≤ 4 - d := by omega
    have h4 : 4 - d ≤ 4 := by omega
    have e : 5 - (d + 1) = 4 - d := by omega
    have e1 : wrap64 (((4 - d : Nat) : Int) + 1) = ((5 - d : Nat) : Int) := by
      have : 5 - d = (4 - d) + 1 := by omega
      rw [this]
      exact wrap_one (by omega)
    rw [e]
    refine Av.succ ?_
    simp only [impl_greatPrime.l0, e1, gpl]
    refine Av.ifp (Int.ofNat_le.2 h4) (Av.bind (curve_f (4 - d) h1 h4) (Av.bind (cmp_f' (Sm.gb hn) (Sm.gb (cn_gb' h1 h4 0))) ?_))
    by_cases c0 : n = (cn (4 - d)).getD 0 0
    · refine Av.ifp (cmpv_zero.2 c0) (Av.ret' ?_)
      rw [beq_iff_eq.2 c0]; rfl
    · refine Av.ifn (fun h => c0 (cmpv_zero.1 h)) ?_
      rw [beq_eq_false_iff_ne.2 c0, Bool.false_or]
      refine Av.bind (cmp_f' (Sm.gb hn) (Sm.gb (cn_gb' h1 h4 1))) ?_
      by_cases c1 : n = (cn (4 - d)).getD 1 0
      · refine Av.ifp (cmpv_zero.2 c1) (Av.ret' ?_)
        rw [beq_iff_eq.2 c1]; rfl
      · refine Av.ifn (fun h => c1 (cmpv_zero.1 h)) ?_
        rw [beq_eq_false_iff_ne.2 c1, Bool.false_or]
        exact ih
theorem greatPrime_f (n : Nat) (hn : n < GB) : Av (fun k => impl_greatPrime.f k (D n)) (gpl n 4) := by
  unfold impl_greatPrime.f
  exact gpr_f n hn 4 (by decide)
theorem toList_bts {s : ByteArray} (hs : gok s = true) (m : Nat) : s.toList = (bts m).toList ↔ bv s = m := by
  rw [toList_eq_iff]
  constructor
  · rintro rfl; exact bv_bts m
  · rintro rfl; exact (bts_of hs).symm
theorem gpr_s (s : ByteArray) (hs : gok s = true) : ∀ (d : Nat), d ≤ 4 → Av (fun k => spec_PrimeOk.l0 k s ((5 - d : Nat) : Int)) (gpl (bv s) d)
  | 0, _ => by
    refine Av.succ ?_
    simp only [spec_PrimeOk.l0]
    exact Av.ifn (by decide) (Av.ret' rfl)
  | d + 1, hd => by
    have ih := gpr_s s hs d (by omega)
    have h1 : 1 ≤ 4 - d := by omega
    have h4 : 4 - d ≤ 4 := by omega
    have e : 5 - (d + 1) = 4 - d := by omega
    have e1 : wrap64 (((4 - d : Nat) : Int) + 1) = ((5 - d : Nat) : Int) := by
      have : 5 - d = (4 - d) + 1 := by omega
      rw [this]
      exact wrap_one (by omega)
    rw [e]
    refine Av.succ ?_
    simp only [spec_PrimeOk.l0, e1, gpl]
    refine Av.ifp (Int.ofNat_le.2 h4) (Av.bindc (curveof_s (4 - d) h1 h4) ?_)
    by_cases c0 : bv s = (cn (4 - d)).getD 0 0
    · refine Av.ifp ((toList_bts hs _).2 c0) (Av.ret' ?_)
      rw [beq_iff_eq.2 c0]; rfl
    · refine Av.ifn (fun h => c0 ((toList_bts hs _).1 h)) ?_
      rw [beq_eq_false_iff_ne.2 c0, Bool.false_or]
      by_cases c1 : bv s = (cn (4 - d)).getD 1 0
      · refine Av.ifp ((toList_bts hs _).2 c1) (Av.ret' ?_)
        rw [beq_iff_eq.2 c1]; rfl
      · refine Av.ifn (fun h => c1 ((toList_bts hs _).1 h)) ?_
        rw [beq_eq_false_iff_ne.2 c1, Bool.false_or]
        exact ih
/-- A text that is no great number is none of them. -/
theorem gpr_bad (s : ByteArray) (hs : gok s = false) : ∀ (d : Nat), d ≤ 4 → Av (fun k => spec_PrimeOk.l0 k s ((5 - d : Nat) : Int)) false
  | 0, _ => by
    refine Av.succ ?_
    simp only [spec_PrimeOk.l0]
    exact Av.ifn (by decide) Av.ret
  | d + 1, hd => by
    have ih := gpr_bad s hs d (by omega)
    have h1 : 1 ≤ 4 - d := by omega
    have h4 : 4 - d ≤ 4 := by omega
    have e : 5 - (d + 1) = 4 - d := by omega
    have e1 : wrap64 (((4 - d : Nat) : Int) + 1) = ((5 - d : Nat) : Int) := by
      have : 5 - d = (4 - d) + 1 := by omega
      rw [this]
      exact wrap_one (by omega)
    have hne : ∀ m, m < GB → ¬ s.toList = (bts m).toList := by
      intro m hm h
      rw [toList_eq_iff] at h
      rw [h, gok_bts.2 hm] at hs
      cases hs
    rw [e]
    refine Av.succ ?_
    simp only [spec_PrimeOk.l0, e1]
    exact Av.ifp (Int.ofNat_le.2 h4) (Av.bindc (curveof_s (4 - d) h1 h4) (Av.ifn (hne _ (cn_gb' h1 h4 0)) (Av.ifn (hne _ (cn_gb' h1 h4 1)) ih)))
theorem gpl_iff (n : Nat) : gpl n 4 = true ↔ n = 1706311 ∨ n = 1704961 ∨ n = 10647363907 ∨ n = 9831361 ∨ n = 21888242871839275222246405745257275088696311157297823662689037894645226208583 ∨ n = 21888242871839275222246405745257275088548364400416034343698204186575808495617 ∨ n = 4002409555221667393417789825735904156556882819939007885332058136124031650490837864442687629129015664037894272559787 ∨ n = 52435875175126190479447740508185965837690552500527637822603658699938581184513 := by
  have e : gpl n 4 = (n == 1706311 || (n == 1704961 || (n == 10647363907 || (n == 9831361 || (n == 21888242871839275222246405745257275088696311157297823662689037894645226208583 || (n == 21888242871839275222246405745257275088548364400416034343698204186575808495617 || (n == 4002409555221667393417789825735904156556882819939007885332058136124031650490837864442687629129015664037894272559787 || (n == 52435875175126190479447740508185965837690552500527637822603658699938581184513 || false)))))))) := rfl
  rw [e]
  simp only [Bool.or_eq_true, beq_iff_eq, Bool.false_eq_true, or_false]
theorem gpl_big {n : Nat} (h : gpl n 4 = true) : 10000 ≤ n := by
  rcases (gpl_iff n).1 h with h | h | h | h | h | h | h | h <;> (subst h; decide)
/-- Is p a prime that is taken? -/
noncomputable def pk (p : ByteArray) : Bool := @decide (gok p = true ∧ Tk (bv p)) (Classical.propDecidable _)
theorem pk_iff {p : ByteArray} : pk p = true ↔ gok p = true ∧ Tk (bv p) := by unfold pk; exact @decide_eq_true_iff _ (Classical.propDecidable _)
theorem pk_of {p : ByteArray} {b : Bool} (hg : gok p = true) (h : b = true ↔ Tk (bv p)) : b = pk p := by
  rw [Bool.eq_iff_iff, pk_iff, h]
  exact ⟨fun h => ⟨hg, h⟩, fun h => h.2⟩
theorem pk_bad {p : ByteArray} (hg : gok p = false) : pk p = false := by
  cases h : pk p with
  | false => rfl
  | true => rw [(pk_iff.1 h).1] at hg; cases hg
theorem tk_small {n : Nat} (hn : n < 10000) : Tk n ↔ 3 ≤ n ∧ Pr n := by
  unfold Tk
  constructor
  · intro h
    rcases h with h | h | h | h | h | h | h | h | h
    · exact ⟨h.1, h.2.2⟩
    all_goals (subst h; exact absurd hn (by decide))
  · exact fun h => .inl ⟨h.1, hn, h.2⟩
theorem tk_big {n : Nat} (hn : 10000 ≤ n) : Tk n ↔ gpl n 4 = true := by
  rw [gpl_iff]
  unfold Tk
  constructor
  · intro h
    rcases h with h | h
    · omega
    · exact h
  · exact .inr
theorem small_s (n : Nat) (hn : n < 10000) : ∃ b, Av (fun k => spec_l06Small.f k n) b ∧ (b = true ↔ Tk n) := by
  rw [tk_small hn]
  unfold spec_l06Small.f
  have jT : Av (fun k => spec_l06Small.j0 k n true) false := by
    refine Av.succ ?_
    simp only [spec_l06Small.j0]
    exact Av.ifp (by decide) Av.ret
  by_cases h3 : n < 3
  · exact ⟨false, Av.ifp (by omega) jT, ⟨fun h => (by cases h), fun h => (by omega)⟩⟩
  · have ht : (Int.tmod (n : Int) 2 == 0) = (n % 2 == 0) := by
      rw [tm (Int.natCast_nonneg _)]
      rw [Bool.eq_iff_iff, beq_iff_eq, beq_iff_eq]
      omega
    rw [ht]
    by_cases h2 : n % 2 = 0
    · refine ⟨false, Av.ifn (by omega) (by rw [beq_iff_eq.2 h2]; exact jT), ⟨fun h => (by cases h), fun h => ?_⟩⟩
      have := h.2.odd h.1
      omega
    · obtain ⟨b, k1, k2⟩ := try_s n hn (by omega) 101 3 (by decide) (by decide) (by decide) (by decide)
      refine ⟨b, Av.ifn (by omega) ?_, ?_⟩
      · rw [beq_eq_false_iff_ne.2 h2]
        refine Av.succ ?_
        simp only [spec_l06Small.j0]
        exact Av.ifn (by decide) k1
      · rw [k2, pr_of_try3 (by omega) (by omega)]
        exact ⟨fun h => ⟨by omega, h⟩, fun h => h.2⟩
theorem primeok_s (p : ByteArray) : Av (fun k => spec_PrimeOk.f k p) (pk p) := by
  unfold spec_PrimeOk.f
  cases hg : gok p with
  | false =>
    refine Av.bind (greatint_bad p hg) (Av.ifn (by decide) (Av.succ ?_))
    simp only [spec_PrimeOk.j0]
    rw [pk_bad hg]
    exact Av.ifn (by decide) (gpr_bad p hg 4 (by decide))
  | true =>
    refine Av.bind (greatint_s p hg) ?_
    have big : 10000 ≤ bv p → ∀ x, Av (fun k => spec_PrimeOk.j0 k p x false) (pk p) := by
      intro hb x
      refine Av.succ ?_
      simp only [spec_PrimeOk.j0]
      rw [← pk_of hg (tk_big hb).symm]
      exact Av.ifn (by decide) (gpr_s p hg 4 (by decide))
    unfold giv
    by_cases h63 : bv p < 9223372036854775808
    · rw [if_pos h63]
      refine Av.ifp rfl ?_
      by_cases hs : bv p < 10000
      · rw [decide_eq_true (by omega)]
        obtain ⟨b, k1, k2⟩ := small_s (bv p) hs
        refine Av.succ ?_
        simp only [spec_PrimeOk.j0]
        rw [← pk_of hg k2]
        exact Av.ifp (by decide) (Av.bind k1 Av.ret)
      · rw [decide_eq_false (by omega)]
        exact big (by omega) _
    · rw [if_neg h63]
      exact Av.ifn (by decide) (big (by omega) _)
theorem primeok_f (p : ByteArray) (hp : p.size < 281474976710656) : Av (fun k => impl_primeOk.f k p) (if pk p then (D (bv p), true) else ([], false)) := by
  unfold impl_primeOk.f
  have jT : pk p = false → Av (fun k => impl_primeOk.j0 k (D (bv p)) true) (if pk p then (D (bv p), true) else ([], false)) := by
    intro h
    refine Av.succ ?_
    simp only [impl_primeOk.j0]
    exact Av.ifp (by decide) (Av.ret' (by rw [h]; rfl))
  refine Av.bind (natOf_f p hp) (Av.bindc (gok_f p) ?_)
  cases hg : gok p with
  | false => exact Av.ifn (by decide) (jT (pk_bad hg))
  | true =>
    have hgb := bv_gb hg
    have h2 := cmp_f' (Sm.gb hgb) (Sm.of (n := 2) (j := 1) (by decide) (by decide))
    have hs2 := small_f 2 (by decide)
    refine Av.ifp (by decide) (Av.bind hs2 (Av.bind h2 ?_))
    have hc := @cmpv_pos (bv p) 2
    by_cases c2 : 2 < bv p
    · rw [decide_eq_false (by have := hc.2 c2; omega)]
      refine Av.succ ?_
      simp only [impl_primeOk.j0]
      refine Av.ifn (by decide) (Av.bind (greatPrime_f _ hgb) ?_)
      cases hgp : gpl (bv p) 4 with
      | true =>
        have ht := pk_of (b := true) hg ⟨fun _ => (tk_big (gpl_big hgp)).2 hgp, fun _ => rfl⟩
        rw [← ht]
        exact Av.ifp (by decide) (Av.ret' rfl)
      | false =>
        have hs3 := small_f 10000 (by decide)
        have h3 := cmp_f' (Sm.gb hgb) (Sm.of (n := 10000) (j := 2) (by decide) (by decide))
        have hc3 := @cmpv_neg (bv p) 10000
        refine Av.ifn (by decide) (Av.bind hs3 (Av.bind h3 ?_))
        by_cases c3 : bv p < 10000
        · obtain ⟨b, k1, k2⟩ := try_f (bv p) (by omega) c3 100 2 (by decide) (by decide) (by decide)
          rw [← pk_of hg (b := b) (by rw [k2, pr_of_try (by omega), tk_small c3]; exact ⟨fun h => ⟨c2, h⟩, fun h => h.2⟩)]
          exact Av.ifn (by have := hc3.2 c3; omega) k1
        · have ht := pk_of (b := false) hg ⟨fun h => (by cases h), fun h => (by have h5 := (tk_big (by omega)).1 h; rw [hgp] at h5; exact h5)⟩
          rw [← ht]
          exact Av.ifp (by have := fun h => c3 (hc3.1 h); omega) (Av.ret' rfl)
    · rw [decide_eq_true (by have := fun h => c2 (hc.1 h); omega)]
      refine jT ?_
      have ht := pk_of (b := false) hg (by
        rw [tk_small (by omega)]
        exact ⟨fun h => (by cases h), fun h => (by omega)⟩)
      exact ht.symm
end Go.Proofs.Ytohfimjpfnnpgaa.C
