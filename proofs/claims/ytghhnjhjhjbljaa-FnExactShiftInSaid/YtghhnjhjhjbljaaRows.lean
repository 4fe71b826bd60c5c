/-
  No cell of these rows narrows 'for every input' (looked for: loops, veiled, ifaces, maps, wideKeys, modest, calm, conditions, laid).
  DERIVED. THE GIVEN ROWS OF THIS SEAT. 9 by the template 'for every input the law returns true; each argument reads behind the call as it read before'; 0 by the template 'total and deterministic' (their statements: YtghhnjhjhjbljaaTotals.lean).
  GIVEN WITH THE SEED: the statements are not yours to turn. If you find one false, say at which input.
  Laid BY PROGRAM, IN A SANDBOX (cutbox-rows.mjs): the forced cells as the released guide's own fill.sh prints them over the translation 87a97f39966cbb9b… (all of the seat's roots in one cut). By AI agents, Wed Nov 11 2026. No macro, syntax, notation, axiom, sorry.
-/
import Derived.Test.YtghhnjhjhjbljaaChecked
import GoSem.Claim
import GoSem.ClaimJoined
import GoSem.ClaimMapViews
import Derived.JoinedTies
import Derived.KernelRfl
namespace Go.Proofs.Ytghhnjhjhjbljaa
/- THE CELL 'sum', in the pinned program and in every row, IS THE sha256 OF THE DUMP (.gsa) THAT YtghhnjhjhjbljaaProg.lean LOADS. Nothing in Lean hashes anything: it is a label: what it is worth is what the hold of that sum in a sandbox is worth. -/
noncomputable def Try.pinned : Pinned := { name := "ytghhnjhjhjbljaa", sum := "87a97f39966cbb9be287d709b24c5fad809b27cf1bba97ba4cc899a93b1bc113", checked := Try.checked }
namespace Rows
def none {H : Type} : Left H := { results := [], args := [] }

/-- 'laws.FnExactHalfRest': WHATEVER THE INPUT: true; the input reads as it did. -/
def fnExactHalfRestSpec : ChangeSpec := { name := "fnExactHalfRest", fn := fun _ => fun
  | [d1, d2] => { results := [.lit (.bool true)], args := [d1, d2] }
  | _ => none }
def fnExactHalfRestRow : OpenClaim := { program := "ytghhnjhjhjbljaa", sum := "87a97f39966cbb9be287d709b24c5fad809b27cf1bba97ba4cc899a93b1bc113", func := "loop.example/g00970/laws.FnExactHalfRest", spec := "fnExactHalfRest", inPlace := ["math/bits.Add64"], recurses := true, apart := false }
def FnExactHalfRestSaid : Prop := fnExactHalfRestRow.holds Try.pinned (OpenSpec.ofChange fnExactHalfRestSpec)

/-- ITS FALSE NEIGHBOUR: 'it returns false'. Refute it at one input. -/
def fnExactHalfRestWrong : ChangeSpec := { name := "fnExactHalfRest", fn := fun _ => fun
  | [d1, d2] => { results := [.lit (.bool false)], args := [d1, d2] }
  | _ => none }
def FnExactHalfRestWrongFalsely : Prop := fnExactHalfRestRow.holds Try.pinned (OpenSpec.ofChange fnExactHalfRestWrong)

/-- 'laws.FnExactDivGreat': WHATEVER THE INPUT: true; the input reads as it did. -/
def fnExactDivGreatSpec : ChangeSpec := { name := "fnExactDivGreat", fn := fun _ => fun
  | [d1, d2] => { results := [.lit (.bool true)], args := [d1, d2] }
  | _ => none }
def fnExactDivGreatRow : OpenClaim := { program := "ytghhnjhjhjbljaa", sum := "87a97f39966cbb9be287d709b24c5fad809b27cf1bba97ba4cc899a93b1bc113", func := "loop.example/g00970/laws.FnExactDivGreat", spec := "fnExactDivGreat", inPlace := ["math/bits.Add64", "math/bits.Sub64"], named := ["math/bits.divideError", "math/bits.overflowError"], apart := false }
def FnExactDivGreatSaid : Prop := fnExactDivGreatRow.holds Try.pinned (OpenSpec.ofChange fnExactDivGreatSpec)

/-- ITS FALSE NEIGHBOUR: 'it returns false'. Refute it at one input. -/
def fnExactDivGreatWrong : ChangeSpec := { name := "fnExactDivGreat", fn := fun _ => fun
  | [d1, d2] => { results := [.lit (.bool false)], args := [d1, d2] }
  | _ => none }
def FnExactDivGreatWrongFalsely : Prop := fnExactDivGreatRow.holds Try.pinned (OpenSpec.ofChange fnExactDivGreatWrong)

/-- 'laws.FnExactRestOf': WHATEVER THE INPUT: true; the input reads as it did. -/
def fnExactRestOfSpec : ChangeSpec := { name := "fnExactRestOf", fn := fun _ => fun
  | [d1, d2] => { results := [.lit (.bool true)], args := [d1, d2] }
  | _ => none }
def fnExactRestOfRow : OpenClaim := { program := "ytghhnjhjhjbljaa", sum := "87a97f39966cbb9be287d709b24c5fad809b27cf1bba97ba4cc899a93b1bc113", func := "loop.example/g00970/laws.FnExactRestOf", spec := "fnExactRestOf", inPlace := ["math/bits.Add64", "math/bits.Sub64"], named := ["math/bits.divideError", "math/bits.overflowError"], apart := false }
def FnExactRestOfSaid : Prop := fnExactRestOfRow.holds Try.pinned (OpenSpec.ofChange fnExactRestOfSpec)

/-- ITS FALSE NEIGHBOUR: 'it returns false'. Refute it at one input. -/
def fnExactRestOfWrong : ChangeSpec := { name := "fnExactRestOf", fn := fun _ => fun
  | [d1, d2] => { results := [.lit (.bool false)], args := [d1, d2] }
  | _ => none }
def FnExactRestOfWrongFalsely : Prop := fnExactRestOfRow.holds Try.pinned (OpenSpec.ofChange fnExactRestOfWrong)

/-- 'laws.FnExactMulRest': WHATEVER THE INPUT: true; the input reads as it did. -/
def fnExactMulRestSpec : ChangeSpec := { name := "fnExactMulRest", fn := fun _ => fun
  | [d1, d2, d3] => { results := [.lit (.bool true)], args := [d1, d2, d3] }
  | _ => none }
def fnExactMulRestRow : OpenClaim := { program := "ytghhnjhjhjbljaa", sum := "87a97f39966cbb9be287d709b24c5fad809b27cf1bba97ba4cc899a93b1bc113", func := "loop.example/g00970/laws.FnExactMulRest", spec := "fnExactMulRest", inPlace := ["math/bits.Add64", "math/bits.Sub64"], named := ["math/bits.divideError", "math/bits.overflowError"], apart := false }
def FnExactMulRestSaid : Prop := fnExactMulRestRow.holds Try.pinned (OpenSpec.ofChange fnExactMulRestSpec)

/-- ITS FALSE NEIGHBOUR: 'it returns false'. Refute it at one input. -/
def fnExactMulRestWrong : ChangeSpec := { name := "fnExactMulRest", fn := fun _ => fun
  | [d1, d2, d3] => { results := [.lit (.bool false)], args := [d1, d2, d3] }
  | _ => none }
def FnExactMulRestWrongFalsely : Prop := fnExactMulRestRow.holds Try.pinned (OpenSpec.ofChange fnExactMulRestWrong)

/-- 'laws.FnExactShiftOf': WHATEVER THE INPUT: true; the input reads as it did. -/
def fnExactShiftOfSpec : ChangeSpec := { name := "fnExactShiftOf", fn := fun _ => fun
  | [d] => { results := [.lit (.bool true)], args := [d] }
  | _ => none }
def fnExactShiftOfRow : OpenClaim := { program := "ytghhnjhjhjbljaa", sum := "87a97f39966cbb9be287d709b24c5fad809b27cf1bba97ba4cc899a93b1bc113", func := "loop.example/g00970/laws.FnExactShiftOf", spec := "fnExactShiftOf", inPlace := ["math/bits.Add64", "math/bits.Sub64"], named := ["math/bits.divideError", "math/bits.overflowError"], apart := false }
def FnExactShiftOfSaid : Prop := fnExactShiftOfRow.holds Try.pinned (OpenSpec.ofChange fnExactShiftOfSpec)

/-- ITS FALSE NEIGHBOUR: 'it returns false'. Refute it at one input. -/
def fnExactShiftOfWrong : ChangeSpec := { name := "fnExactShiftOf", fn := fun _ => fun
  | [d] => { results := [.lit (.bool false)], args := [d] }
  | _ => none }
def FnExactShiftOfWrongFalsely : Prop := fnExactShiftOfRow.holds Try.pinned (OpenSpec.ofChange fnExactShiftOfWrong)

/-- 'laws.FnExactPowRest': WHATEVER THE INPUT: true; the input reads as it did. -/
def fnExactPowRestSpec : ChangeSpec := { name := "fnExactPowRest", fn := fun _ => fun
  | [d1, d2, d3] => { results := [.lit (.bool true)], args := [d1, d2, d3] }
  | _ => none }
def fnExactPowRestRow : OpenClaim := { program := "ytghhnjhjhjbljaa", sum := "87a97f39966cbb9be287d709b24c5fad809b27cf1bba97ba4cc899a93b1bc113", func := "loop.example/g00970/laws.FnExactPowRest", spec := "fnExactPowRest", inPlace := ["math/bits.Add64", "math/bits.Sub64"], named := ["math/bits.divideError", "math/bits.overflowError"], apart := false }
def FnExactPowRestSaid : Prop := fnExactPowRestRow.holds Try.pinned (OpenSpec.ofChange fnExactPowRestSpec)

/-- ITS FALSE NEIGHBOUR: 'it returns false'. Refute it at one input. -/
def fnExactPowRestWrong : ChangeSpec := { name := "fnExactPowRest", fn := fun _ => fun
  | [d1, d2, d3] => { results := [.lit (.bool false)], args := [d1, d2, d3] }
  | _ => none }
def FnExactPowRestWrongFalsely : Prop := fnExactPowRestRow.holds Try.pinned (OpenSpec.ofChange fnExactPowRestWrong)

/-- 'laws.FnExactShiftIn': WHATEVER THE INPUT: true; the input reads as it did. -/
def fnExactShiftInSpec : ChangeSpec := { name := "fnExactShiftIn", fn := fun _ => fun
  | [d1, d2] => { results := [.lit (.bool true)], args := [d1, d2] }
  | _ => none }
def fnExactShiftInRow : OpenClaim := { program := "ytghhnjhjhjbljaa", sum := "87a97f39966cbb9be287d709b24c5fad809b27cf1bba97ba4cc899a93b1bc113", func := "loop.example/g00970/laws.FnExactShiftIn", spec := "fnExactShiftIn", inPlace := ["math/bits.Add64", "math/bits.Sub64"], named := ["math/bits.divideError", "math/bits.overflowError"], apart := false }
def FnExactShiftInSaid : Prop := fnExactShiftInRow.holds Try.pinned (OpenSpec.ofChange fnExactShiftInSpec)

/-- ITS FALSE NEIGHBOUR: 'it returns false'. Refute it at one input. -/
def fnExactShiftInWrong : ChangeSpec := { name := "fnExactShiftIn", fn := fun _ => fun
  | [d1, d2] => { results := [.lit (.bool false)], args := [d1, d2] }
  | _ => none }
def FnExactShiftInWrongFalsely : Prop := fnExactShiftInRow.holds Try.pinned (OpenSpec.ofChange fnExactShiftInWrong)

/-- 'laws.FnExactNormOf': WHATEVER THE INPUT: true; the input reads as it did. -/
def fnExactNormOfSpec : ChangeSpec := { name := "fnExactNormOf", fn := fun _ => fun
  | [d1, d2] => { results := [.lit (.bool true)], args := [d1, d2] }
  | _ => none }
def fnExactNormOfRow : OpenClaim := { program := "ytghhnjhjhjbljaa", sum := "87a97f39966cbb9be287d709b24c5fad809b27cf1bba97ba4cc899a93b1bc113", func := "loop.example/g00970/laws.FnExactNormOf", spec := "fnExactNormOf", inPlace := ["math/bits.Add64", "math/bits.Sub64"], recurses := true, named := ["math/bits.divideError", "math/bits.overflowError"], apart := false }
def FnExactNormOfSaid : Prop := fnExactNormOfRow.holds Try.pinned (OpenSpec.ofChange fnExactNormOfSpec)

/-- ITS FALSE NEIGHBOUR: 'it returns false'. Refute it at one input. -/
def fnExactNormOfWrong : ChangeSpec := { name := "fnExactNormOf", fn := fun _ => fun
  | [d1, d2] => { results := [.lit (.bool false)], args := [d1, d2] }
  | _ => none }
def FnExactNormOfWrongFalsely : Prop := fnExactNormOfRow.holds Try.pinned (OpenSpec.ofChange fnExactNormOfWrong)

/-- 'laws.FnExactInverseRest': WHATEVER THE INPUT: true; the input reads as it did. -/
def fnExactInverseRestSpec : ChangeSpec := { name := "fnExactInverseRest", fn := fun _ => fun
  | [d1, d2] => { results := [.lit (.bool true)], args := [d1, d2] }
  | _ => none }
def fnExactInverseRestRow : OpenClaim := { program := "ytghhnjhjhjbljaa", sum := "87a97f39966cbb9be287d709b24c5fad809b27cf1bba97ba4cc899a93b1bc113", func := "loop.example/g00970/laws.FnExactInverseRest", spec := "fnExactInverseRest", inPlace := ["math/bits.Add64", "math/bits.Sub64"], recurses := true, named := ["math/bits.divideError", "math/bits.overflowError"], apart := false }
def FnExactInverseRestSaid : Prop := fnExactInverseRestRow.holds Try.pinned (OpenSpec.ofChange fnExactInverseRestSpec)

/-- ITS FALSE NEIGHBOUR: 'it returns false'. Refute it at one input. -/
def fnExactInverseRestWrong : ChangeSpec := { name := "fnExactInverseRest", fn := fun _ => fun
  | [d1, d2] => { results := [.lit (.bool false)], args := [d1, d2] }
  | _ => none }
def FnExactInverseRestWrongFalsely : Prop := fnExactInverseRestRow.holds Try.pinned (OpenSpec.ofChange fnExactInverseRestWrong)

/- THE SECOND FORM. 'bulk': how many values and letters a reading holds, each counted each time it is reached (what is shared counts as often as it is met; a slice's spare places count too). A statement '..UptoSaid' is the law's where the arguments, and the package variables that the reading takes, are together of bulk at most 1048576: NARROWER than '..Said'. Prove '..Said' where nothing that the law and all that it calls make is longer than what came in: it says more and counts as full. Else prove '..UptoSaid'. A law counts once. -/
mutual
def uptoBulk {H : Type} : DataW H → Nat
  | .lit (.string bytes) => bytes.length + 1
  | .lit _ => 1
  | .nil => 1
  | .ptr d => uptoBulk d + 1
  | .slice elems spare => uptoBulkAll elems + uptoBulkAll spare + 1
  | .agg parts => uptoBulkAll parts + 1
  | .iface _ d => uptoBulk d + 1
  | .map entries => uptoBulkEntries entries + 1
  | .held _ => 1
def uptoBulkAll {H : Type} : List (DataW H) → Nat
  | [] => 0
  | d :: r => uptoBulk d + uptoBulkAll r
def uptoBulkEntries {H : Type} : List (Lit × DataW H) → Nat
  | [] => 0
  | x :: r => uptoBulkEntry x + uptoBulkEntries r
def uptoBulkEntry {H : Type} : Lit × DataW H → Nat
  | (.string bytes, d) => bytes.length + uptoBulk d + 1
  | (_, d) => uptoBulk d + 1
 end
def uptoSmall : (H : Type) → List (DataW H) → Bool := fun _ ds => decide (uptoBulkAll ds ≤ 1048576)
def OpenSpec.upto (s : _root_.Go.ChangeSpec) : _root_.Go.OpenSpec := { _root_.Go.OpenSpec.ofChange s with cond := some uptoSmall }

/-- 'laws.FnExactHalfRest', WHERE WHAT IT READS IS OF BULK AT MOST 1048576: true; the input reads as it did. -/
def fnExactHalfRestUptoRow : OpenClaim := { program := "ytghhnjhjhjbljaa", sum := "87a97f39966cbb9be287d709b24c5fad809b27cf1bba97ba4cc899a93b1bc113", func := "loop.example/g00970/laws.FnExactHalfRest", spec := "fnExactHalfRest", inPlace := ["math/bits.Add64"], recurses := true, apart := false, narrowed := true }
def FnExactHalfRestUptoSaid : Prop := fnExactHalfRestUptoRow.holds Try.pinned (OpenSpec.upto fnExactHalfRestSpec)

/-- 'laws.FnExactDivGreat', WHERE WHAT IT READS IS OF BULK AT MOST 1048576: true; the input reads as it did. -/
def fnExactDivGreatUptoRow : OpenClaim := { program := "ytghhnjhjhjbljaa", sum := "87a97f39966cbb9be287d709b24c5fad809b27cf1bba97ba4cc899a93b1bc113", func := "loop.example/g00970/laws.FnExactDivGreat", spec := "fnExactDivGreat", inPlace := ["math/bits.Add64", "math/bits.Sub64"], named := ["math/bits.divideError", "math/bits.overflowError"], apart := false, narrowed := true }
def FnExactDivGreatUptoSaid : Prop := fnExactDivGreatUptoRow.holds Try.pinned (OpenSpec.upto fnExactDivGreatSpec)

/-- 'laws.FnExactRestOf', WHERE WHAT IT READS IS OF BULK AT MOST 1048576: true; the input reads as it did. -/
def fnExactRestOfUptoRow : OpenClaim := { program := "ytghhnjhjhjbljaa", sum := "87a97f39966cbb9be287d709b24c5fad809b27cf1bba97ba4cc899a93b1bc113", func := "loop.example/g00970/laws.FnExactRestOf", spec := "fnExactRestOf", inPlace := ["math/bits.Add64", "math/bits.Sub64"], named := ["math/bits.divideError", "math/bits.overflowError"], apart := false, narrowed := true }
def FnExactRestOfUptoSaid : Prop := fnExactRestOfUptoRow.holds Try.pinned (OpenSpec.upto fnExactRestOfSpec)

/-- 'laws.FnExactMulRest', WHERE WHAT IT READS IS OF BULK AT MOST 1048576: true; the input reads as it did. -/
def fnExactMulRestUptoRow : OpenClaim := { program := "ytghhnjhjhjbljaa", sum := "87a97f39966cbb9be287d709b24c5fad809b27cf1bba97ba4cc899a93b1bc113", func := "loop.example/g00970/laws.FnExactMulRest", spec := "fnExactMulRest", inPlace := ["math/bits.Add64", "math/bits.Sub64"], named := ["math/bits.divideError", "math/bits.overflowError"], apart := false, narrowed := true }
def FnExactMulRestUptoSaid : Prop := fnExactMulRestUptoRow.holds Try.pinned (OpenSpec.upto fnExactMulRestSpec)

/-- 'laws.FnExactShiftOf', WHERE WHAT IT READS IS OF BULK AT MOST 1048576: true; the input reads as it did. -/
def fnExactShiftOfUptoRow : OpenClaim := { program := "ytghhnjhjhjbljaa", sum := "87a97f39966cbb9be287d709b24c5fad809b27cf1bba97ba4cc899a93b1bc113", func := "loop.example/g00970/laws.FnExactShiftOf", spec := "fnExactShiftOf", inPlace := ["math/bits.Add64", "math/bits.Sub64"], named := ["math/bits.divideError", "math/bits.overflowError"], apart := false, narrowed := true }
def FnExactShiftOfUptoSaid : Prop := fnExactShiftOfUptoRow.holds Try.pinned (OpenSpec.upto fnExactShiftOfSpec)

/-- 'laws.FnExactPowRest', WHERE WHAT IT READS IS OF BULK AT MOST 1048576: true; the input reads as it did. -/
def fnExactPowRestUptoRow : OpenClaim := { program := "ytghhnjhjhjbljaa", sum := "87a97f39966cbb9be287d709b24c5fad809b27cf1bba97ba4cc899a93b1bc113", func := "loop.example/g00970/laws.FnExactPowRest", spec := "fnExactPowRest", inPlace := ["math/bits.Add64", "math/bits.Sub64"], named := ["math/bits.divideError", "math/bits.overflowError"], apart := false, narrowed := true }
def FnExactPowRestUptoSaid : Prop := fnExactPowRestUptoRow.holds Try.pinned (OpenSpec.upto fnExactPowRestSpec)

/-- 'laws.FnExactShiftIn', WHERE WHAT IT READS IS OF BULK AT MOST 1048576: true; the input reads as it did. -/
def fnExactShiftInUptoRow : OpenClaim := { program := "ytghhnjhjhjbljaa", sum := "87a97f39966cbb9be287d709b24c5fad809b27cf1bba97ba4cc899a93b1bc113", func := "loop.example/g00970/laws.FnExactShiftIn", spec := "fnExactShiftIn", inPlace := ["math/bits.Add64", "math/bits.Sub64"], named := ["math/bits.divideError", "math/bits.overflowError"], apart := false, narrowed := true }
def FnExactShiftInUptoSaid : Prop := fnExactShiftInUptoRow.holds Try.pinned (OpenSpec.upto fnExactShiftInSpec)

/-- 'laws.FnExactNormOf', WHERE WHAT IT READS IS OF BULK AT MOST 1048576: true; the input reads as it did. -/
def fnExactNormOfUptoRow : OpenClaim := { program := "ytghhnjhjhjbljaa", sum := "87a97f39966cbb9be287d709b24c5fad809b27cf1bba97ba4cc899a93b1bc113", func := "loop.example/g00970/laws.FnExactNormOf", spec := "fnExactNormOf", inPlace := ["math/bits.Add64", "math/bits.Sub64"], recurses := true, named := ["math/bits.divideError", "math/bits.overflowError"], apart := false, narrowed := true }
def FnExactNormOfUptoSaid : Prop := fnExactNormOfUptoRow.holds Try.pinned (OpenSpec.upto fnExactNormOfSpec)

/-- 'laws.FnExactInverseRest', WHERE WHAT IT READS IS OF BULK AT MOST 1048576: true; the input reads as it did. -/
def fnExactInverseRestUptoRow : OpenClaim := { program := "ytghhnjhjhjbljaa", sum := "87a97f39966cbb9be287d709b24c5fad809b27cf1bba97ba4cc899a93b1bc113", func := "loop.example/g00970/laws.FnExactInverseRest", spec := "fnExactInverseRest", inPlace := ["math/bits.Add64", "math/bits.Sub64"], recurses := true, named := ["math/bits.divideError", "math/bits.overflowError"], apart := false, narrowed := true }
def FnExactInverseRestUptoSaid : Prop := fnExactInverseRestUptoRow.holds Try.pinned (OpenSpec.upto fnExactInverseRestSpec)

end Rows
end Go.Proofs.Ytghhnjhjhjbljaa
