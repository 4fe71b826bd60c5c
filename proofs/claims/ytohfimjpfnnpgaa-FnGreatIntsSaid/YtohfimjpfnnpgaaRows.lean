/-
  No cell of these rows narrows 'for every input' (looked for: loops, veiled, ifaces, maps, wideKeys, modest, calm, conditions, laid).
  DERIVED. THE GIVEN ROWS OF THIS SEAT. 11 by the template 'for every input the law returns true; each argument reads behind the call as it read before'; 0 by the template 'total and deterministic' (their statements: YtohfimjpfnnpgaaTotals.lean).
  GIVEN WITH THE SEED: the statements are not yours to turn. If you find one false, say at which input.
  Laid BY PROGRAM, IN A SANDBOX (cutbox-rows.mjs): the forced cells as the released guide's own fill.sh prints them over the translation d9950a38cebbde28… (all of the seat's roots in one cut). By AI agents, Wed Nov 11 2026. No macro, syntax, notation, axiom, sorry.
-/
import Derived.Test.YtohfimjpfnnpgaaChecked
import GoSem.Claim
import GoSem.ClaimJoined
import GoSem.ClaimMapViews
import Derived.JoinedTies
import Derived.KernelRfl
namespace Go.Proofs.Ytohfimjpfnnpgaa
/- THE CELL 'sum', in the pinned program and in every row, IS THE sha256 OF THE DUMP (.gsa) THAT YtohfimjpfnnpgaaProg.lean LOADS. Nothing in Lean hashes anything: it is a label: what it is worth is what the hold of that sum in a sandbox is worth. -/
noncomputable def Try.pinned : Pinned := { name := "ytohfimjpfnnpgaa", sum := "d9950a38cebbde281edbeb0ccad89ba077855bc8a1afc5a7156b42ff0bbaa227", checked := Try.checked }
namespace Rows
def none {H : Type} : Left H := { results := [], args := [] }

/-- 'laws.FnExactGreater': WHATEVER THE INPUT: true; the input reads as it did. -/
def fnExactGreaterSpec : ChangeSpec := { name := "fnExactGreater", fn := fun _ => fun
  | [d1, d2] => { results := [.lit (.bool true)], args := [d1, d2] }
  | _ => none }
def fnExactGreaterRow : OpenClaim := { program := "ytohfimjpfnnpgaa", sum := "d9950a38cebbde281edbeb0ccad89ba077855bc8a1afc5a7156b42ff0bbaa227", func := "loop.example/g00970/laws.FnExactGreater", spec := "fnExactGreater", inPlace := ["math/bits.Sub64", "math/bits.Add64"], recurses := true, apart := false }
def FnExactGreaterSaid : Prop := fnExactGreaterRow.holds Try.pinned (OpenSpec.ofChange fnExactGreaterSpec)

/-- ITS FALSE NEIGHBOUR: 'it returns false'. Refute it at one input. -/
def fnExactGreaterWrong : ChangeSpec := { name := "fnExactGreater", fn := fun _ => fun
  | [d1, d2] => { results := [.lit (.bool false)], args := [d1, d2] }
  | _ => none }
def FnExactGreaterWrongFalsely : Prop := fnExactGreaterRow.holds Try.pinned (OpenSpec.ofChange fnExactGreaterWrong)

/-- 'laws.FnExactPrimeOk': WHATEVER THE INPUT: true; the input reads as it did. -/
def fnExactPrimeOkSpec : ChangeSpec := { name := "fnExactPrimeOk", fn := fun _ => fun
  | [d] => { results := [.lit (.bool true)], args := [d] }
  | _ => none }
def fnExactPrimeOkRow : OpenClaim := { program := "ytohfimjpfnnpgaa", sum := "d9950a38cebbde281edbeb0ccad89ba077855bc8a1afc5a7156b42ff0bbaa227", func := "loop.example/g00970/laws.FnExactPrimeOk", spec := "fnExactPrimeOk", inPlace := ["math/bits.Add64"], apart := false }
def FnExactPrimeOkSaid : Prop := fnExactPrimeOkRow.holds Try.pinned (OpenSpec.ofChange fnExactPrimeOkSpec)

/-- ITS FALSE NEIGHBOUR: 'it returns false'. Refute it at one input. -/
def fnExactPrimeOkWrong : ChangeSpec := { name := "fnExactPrimeOk", fn := fun _ => fun
  | [d] => { results := [.lit (.bool false)], args := [d] }
  | _ => none }
def FnExactPrimeOkWrongFalsely : Prop := fnExactPrimeOkRow.holds Try.pinned (OpenSpec.ofChange fnExactPrimeOkWrong)

/-- 'laws.FnExactPairPrime': WHATEVER THE INPUT: true; the input reads as it did. -/
def fnExactPairPrimeSpec : ChangeSpec := { name := "fnExactPairPrime", fn := fun _ => fun
  | [d] => { results := [.lit (.bool true)], args := [d] }
  | _ => none }
def fnExactPairPrimeRow : OpenClaim := { program := "ytohfimjpfnnpgaa", sum := "d9950a38cebbde281edbeb0ccad89ba077855bc8a1afc5a7156b42ff0bbaa227", func := "loop.example/g00970/laws.FnExactPairPrime", spec := "fnExactPairPrime", inPlace := ["math/bits.Add64"], apart := false }
def FnExactPairPrimeSaid : Prop := fnExactPairPrimeRow.holds Try.pinned (OpenSpec.ofChange fnExactPairPrimeSpec)

/-- ITS FALSE NEIGHBOUR: 'it returns false'. Refute it at one input. -/
def fnExactPairPrimeWrong : ChangeSpec := { name := "fnExactPairPrime", fn := fun _ => fun
  | [d] => { results := [.lit (.bool false)], args := [d] }
  | _ => none }
def FnExactPairPrimeWrongFalsely : Prop := fnExactPairPrimeRow.holds Try.pinned (OpenSpec.ofChange fnExactPairPrimeWrong)

/-- 'laws.FnExactSubRest': WHATEVER THE INPUT: true; the input reads as it did. -/
def fnExactSubRestSpec : ChangeSpec := { name := "fnExactSubRest", fn := fun _ => fun
  | [d1, d2, d3] => { results := [.lit (.bool true)], args := [d1, d2, d3] }
  | _ => none }
def fnExactSubRestRow : OpenClaim := { program := "ytohfimjpfnnpgaa", sum := "d9950a38cebbde281edbeb0ccad89ba077855bc8a1afc5a7156b42ff0bbaa227", func := "loop.example/g00970/laws.FnExactSubRest", spec := "fnExactSubRest", inPlace := ["math/bits.Sub64", "math/bits.Add64"], recurses := true, apart := false }
def FnExactSubRestSaid : Prop := fnExactSubRestRow.holds Try.pinned (OpenSpec.ofChange fnExactSubRestSpec)

/-- ITS FALSE NEIGHBOUR: 'it returns false'. Refute it at one input. -/
def fnExactSubRestWrong : ChangeSpec := { name := "fnExactSubRest", fn := fun _ => fun
  | [d1, d2, d3] => { results := [.lit (.bool false)], args := [d1, d2, d3] }
  | _ => none }
def FnExactSubRestWrongFalsely : Prop := fnExactSubRestRow.holds Try.pinned (OpenSpec.ofChange fnExactSubRestWrong)

/-- 'laws.FnExactScalarOk': WHATEVER THE INPUT: true; the input reads as it did. -/
def fnExactScalarOkSpec : ChangeSpec := { name := "fnExactScalarOk", fn := fun _ => fun
  | [d1, d2] => { results := [.lit (.bool true)], args := [d1, d2] }
  | _ => none }
def fnExactScalarOkRow : OpenClaim := { program := "ytohfimjpfnnpgaa", sum := "d9950a38cebbde281edbeb0ccad89ba077855bc8a1afc5a7156b42ff0bbaa227", func := "loop.example/g00970/laws.FnExactScalarOk", spec := "fnExactScalarOk", inPlace := ["math/bits.Add64"], apart := false }
def FnExactScalarOkSaid : Prop := fnExactScalarOkRow.holds Try.pinned (OpenSpec.ofChange fnExactScalarOkSpec)

/-- ITS FALSE NEIGHBOUR: 'it returns false'. Refute it at one input. -/
def fnExactScalarOkWrong : ChangeSpec := { name := "fnExactScalarOk", fn := fun _ => fun
  | [d1, d2] => { results := [.lit (.bool false)], args := [d1, d2] }
  | _ => none }
def FnExactScalarOkWrongFalsely : Prop := fnExactScalarOkRow.holds Try.pinned (OpenSpec.ofChange fnExactScalarOkWrong)

/-- 'laws.FnExactAddRest': WHATEVER THE INPUT: true; the input reads as it did. -/
def fnExactAddRestSpec : ChangeSpec := { name := "fnExactAddRest", fn := fun _ => fun
  | [d1, d2, d3] => { results := [.lit (.bool true)], args := [d1, d2, d3] }
  | _ => none }
def fnExactAddRestRow : OpenClaim := { program := "ytohfimjpfnnpgaa", sum := "d9950a38cebbde281edbeb0ccad89ba077855bc8a1afc5a7156b42ff0bbaa227", func := "loop.example/g00970/laws.FnExactAddRest", spec := "fnExactAddRest", inPlace := ["math/bits.Add64", "math/bits.Sub64"], recurses := true, apart := false }
def FnExactAddRestSaid : Prop := fnExactAddRestRow.holds Try.pinned (OpenSpec.ofChange fnExactAddRestSpec)

/-- ITS FALSE NEIGHBOUR: 'it returns false'. Refute it at one input. -/
def fnExactAddRestWrong : ChangeSpec := { name := "fnExactAddRest", fn := fun _ => fun
  | [d1, d2, d3] => { results := [.lit (.bool false)], args := [d1, d2, d3] }
  | _ => none }
def FnExactAddRestWrongFalsely : Prop := fnExactAddRestRow.holds Try.pinned (OpenSpec.ofChange fnExactAddRestWrong)

/-- 'laws.FnExactNegRest': WHATEVER THE INPUT: true; the input reads as it did. -/
def fnExactNegRestSpec : ChangeSpec := { name := "fnExactNegRest", fn := fun _ => fun
  | [d1, d2] => { results := [.lit (.bool true)], args := [d1, d2] }
  | _ => none }
def fnExactNegRestRow : OpenClaim := { program := "ytohfimjpfnnpgaa", sum := "d9950a38cebbde281edbeb0ccad89ba077855bc8a1afc5a7156b42ff0bbaa227", func := "loop.example/g00970/laws.FnExactNegRest", spec := "fnExactNegRest", inPlace := ["math/bits.Sub64", "math/bits.Add64"], recurses := true, apart := false }
def FnExactNegRestSaid : Prop := fnExactNegRestRow.holds Try.pinned (OpenSpec.ofChange fnExactNegRestSpec)

/-- ITS FALSE NEIGHBOUR: 'it returns false'. Refute it at one input. -/
def fnExactNegRestWrong : ChangeSpec := { name := "fnExactNegRest", fn := fun _ => fun
  | [d1, d2] => { results := [.lit (.bool false)], args := [d1, d2] }
  | _ => none }
def FnExactNegRestWrongFalsely : Prop := fnExactNegRestRow.holds Try.pinned (OpenSpec.ofChange fnExactNegRestWrong)

/-- 'laws.FnExactPairGreater': WHATEVER THE INPUT: true; the input reads as it did. -/
def fnExactPairGreaterSpec : ChangeSpec := { name := "fnExactPairGreater", fn := fun _ => fun
  | [d1, d2] => { results := [.lit (.bool true)], args := [d1, d2] }
  | _ => none }
def fnExactPairGreaterRow : OpenClaim := { program := "ytohfimjpfnnpgaa", sum := "d9950a38cebbde281edbeb0ccad89ba077855bc8a1afc5a7156b42ff0bbaa227", func := "loop.example/g00970/laws.FnExactPairGreater", spec := "fnExactPairGreater", inPlace := ["math/bits.Sub64", "math/bits.Add64"], recurses := true, apart := false }
def FnExactPairGreaterSaid : Prop := fnExactPairGreaterRow.holds Try.pinned (OpenSpec.ofChange fnExactPairGreaterSpec)

/-- ITS FALSE NEIGHBOUR: 'it returns false'. Refute it at one input. -/
def fnExactPairGreaterWrong : ChangeSpec := { name := "fnExactPairGreater", fn := fun _ => fun
  | [d1, d2] => { results := [.lit (.bool false)], args := [d1, d2] }
  | _ => none }
def FnExactPairGreaterWrongFalsely : Prop := fnExactPairGreaterRow.holds Try.pinned (OpenSpec.ofChange fnExactPairGreaterWrong)

/-- 'laws.FnExactOtherPair': WHATEVER THE INPUT: true; the input reads as it did. -/
def fnExactOtherPairSpec : ChangeSpec := { name := "fnExactOtherPair", fn := fun _ => fun
  | [d1, d2] => { results := [.lit (.bool true)], args := [d1, d2] }
  | _ => none }
def fnExactOtherPairRow : OpenClaim := { program := "ytohfimjpfnnpgaa", sum := "d9950a38cebbde281edbeb0ccad89ba077855bc8a1afc5a7156b42ff0bbaa227", func := "loop.example/g00970/laws.FnExactOtherPair", spec := "fnExactOtherPair", inPlace := ["math/bits.Sub64", "math/bits.Add64"], recurses := true, apart := false }
def FnExactOtherPairSaid : Prop := fnExactOtherPairRow.holds Try.pinned (OpenSpec.ofChange fnExactOtherPairSpec)

/-- ITS FALSE NEIGHBOUR: 'it returns false'. Refute it at one input. -/
def fnExactOtherPairWrong : ChangeSpec := { name := "fnExactOtherPair", fn := fun _ => fun
  | [d1, d2] => { results := [.lit (.bool false)], args := [d1, d2] }
  | _ => none }
def FnExactOtherPairWrongFalsely : Prop := fnExactOtherPairRow.holds Try.pinned (OpenSpec.ofChange fnExactOtherPairWrong)

/-- 'laws.FnExactTwosIn': WHATEVER THE INPUT: true; the input reads as it did. -/
def fnExactTwosInSpec : ChangeSpec := { name := "fnExactTwosIn", fn := fun _ => fun
  | [d] => { results := [.lit (.bool true)], args := [d] }
  | _ => none }
def fnExactTwosInRow : OpenClaim := { program := "ytohfimjpfnnpgaa", sum := "d9950a38cebbde281edbeb0ccad89ba077855bc8a1afc5a7156b42ff0bbaa227", func := "loop.example/g00970/laws.FnExactTwosIn", spec := "fnExactTwosIn", inPlace := ["math/bits.Sub64"], apart := false }
def FnExactTwosInSaid : Prop := fnExactTwosInRow.holds Try.pinned (OpenSpec.ofChange fnExactTwosInSpec)

/-- ITS FALSE NEIGHBOUR: 'it returns false'. Refute it at one input. -/
def fnExactTwosInWrong : ChangeSpec := { name := "fnExactTwosIn", fn := fun _ => fun
  | [d] => { results := [.lit (.bool false)], args := [d] }
  | _ => none }
def FnExactTwosInWrongFalsely : Prop := fnExactTwosInRow.holds Try.pinned (OpenSpec.ofChange fnExactTwosInWrong)

/-- 'laws.FnGreatInts': WHATEVER THE INPUT: true; the input reads as it did. -/
def fnGreatIntsSpec : ChangeSpec := { name := "fnGreatInts", fn := fun _ => fun
  | [d] => { results := [.lit (.bool true)], args := [d] }
  | _ => none }
def fnGreatIntsRow : OpenClaim := { program := "ytohfimjpfnnpgaa", sum := "d9950a38cebbde281edbeb0ccad89ba077855bc8a1afc5a7156b42ff0bbaa227", func := "loop.example/g00970/laws.FnGreatInts", spec := "fnGreatInts", apart := false }
def FnGreatIntsSaid : Prop := fnGreatIntsRow.holds Try.pinned (OpenSpec.ofChange fnGreatIntsSpec)

/-- ITS FALSE NEIGHBOUR: 'it returns false'. Refute it at one input. -/
def fnGreatIntsWrong : ChangeSpec := { name := "fnGreatInts", fn := fun _ => fun
  | [d] => { results := [.lit (.bool false)], args := [d] }
  | _ => none }
def FnGreatIntsWrongFalsely : Prop := fnGreatIntsRow.holds Try.pinned (OpenSpec.ofChange fnGreatIntsWrong)

/- THE SECOND FORM. 'bulk': how many values and letters a reading holds, each counted each time it is reached (what is shared counts as often as it is met; a slice's spare places count too). A statement '..UptoSaid' is the law's where the arguments, and the package variables that the reading takes, are together of bulk at most 1048576: NARROWER than '..Said'. Prove '..Said' where nothing that the law and all that it calls make is longer than what came in: it says more and counts as full. Else prove '..UptoSaid'. A law counts once. -/
mutual
def uptoBulk {H : Type} : DataW H → Nat
  | .lit (.string bytes) => bytes.length + 1
  | .lit _ => 1
  | .nil => 1
  | .ptr d => uptoBulk d + 1
  | .slice elems spare => uptoBulkAll elems + uptoBulkAll spare + 1
  | .agg parts => uptoBulkAll parts + 1
  | .iface _ d => uptoBulk d + 1
  | .map entries => uptoBulkEntries entries + 1
  | .held _ => 1
def uptoBulkAll {H : Type} : List (DataW H) → Nat
  | [] => 0
  | d :: r => uptoBulk d + uptoBulkAll r
def uptoBulkEntries {H : Type} : List (Lit × DataW H) → Nat
  | [] => 0
  | x :: r => uptoBulkEntry x + uptoBulkEntries r
def uptoBulkEntry {H : Type} : Lit × DataW H → Nat
  | (.string bytes, d) => bytes.length + uptoBulk d + 1
  | (_, d) => uptoBulk d + 1
 end
def uptoSmall : (H : Type) → List (DataW H) → Bool := fun _ ds => decide (uptoBulkAll ds ≤ 1048576)
def OpenSpec.upto (s : _root_.Go.ChangeSpec) : _root_.Go.OpenSpec := { _root_.Go.OpenSpec.ofChange s with cond := some uptoSmall }

/-- 'laws.FnExactGreater', WHERE WHAT IT READS IS OF BULK AT MOST 1048576: true; the input reads as it did. -/
def fnExactGreaterUptoRow : OpenClaim := { program := "ytohfimjpfnnpgaa", sum := "d9950a38cebbde281edbeb0ccad89ba077855bc8a1afc5a7156b42ff0bbaa227", func := "loop.example/g00970/laws.FnExactGreater", spec := "fnExactGreater", inPlace := ["math/bits.Sub64", "math/bits.Add64"], recurses := true, apart := false, narrowed := true }
def FnExactGreaterUptoSaid : Prop := fnExactGreaterUptoRow.holds Try.pinned (OpenSpec.upto fnExactGreaterSpec)

/-- 'laws.FnExactPrimeOk', WHERE WHAT IT READS IS OF BULK AT MOST 1048576: true; the input reads as it did. -/
def fnExactPrimeOkUptoRow : OpenClaim := { program := "ytohfimjpfnnpgaa", sum := "d9950a38cebbde281edbeb0ccad89ba077855bc8a1afc5a7156b42ff0bbaa227", func := "loop.example/g00970/laws.FnExactPrimeOk", spec := "fnExactPrimeOk", inPlace := ["math/bits.Add64"], apart := false, narrowed := true }
def FnExactPrimeOkUptoSaid : Prop := fnExactPrimeOkUptoRow.holds Try.pinned (OpenSpec.upto fnExactPrimeOkSpec)

/-- 'laws.FnExactPairPrime', WHERE WHAT IT READS IS OF BULK AT MOST 1048576: true; the input reads as it did. -/
def fnExactPairPrimeUptoRow : OpenClaim := { program := "ytohfimjpfnnpgaa", sum := "d9950a38cebbde281edbeb0ccad89ba077855bc8a1afc5a7156b42ff0bbaa227", func := "loop.example/g00970/laws.FnExactPairPrime", spec := "fnExactPairPrime", inPlace := ["math/bits.Add64"], apart := false, narrowed := true }
def FnExactPairPrimeUptoSaid : Prop := fnExactPairPrimeUptoRow.holds Try.pinned (OpenSpec.upto fnExactPairPrimeSpec)

/-- 'laws.FnExactSubRest', WHERE WHAT IT READS IS OF BULK AT MOST 1048576: true; the input reads as it did. -/
def fnExactSubRestUptoRow : OpenClaim := { program := "ytohfimjpfnnpgaa", sum := "d9950a38cebbde281edbeb0ccad89ba077855bc8a1afc5a7156b42ff0bbaa227", func := "loop.example/g00970/laws.FnExactSubRest", spec := "fnExactSubRest", inPlace := ["math/bits.Sub64", "math/bits.Add64"], recurses := true, apart := false, narrowed := true }
def FnExactSubRestUptoSaid : Prop := fnExactSubRestUptoRow.holds Try.pinned (OpenSpec.upto fnExactSubRestSpec)

/-- 'laws.FnExactScalarOk', WHERE WHAT IT READS IS OF BULK AT MOST 1048576: true; the input reads as it did. -/
def fnExactScalarOkUptoRow : OpenClaim := { program := "ytohfimjpfnnpgaa", sum := "d9950a38cebbde281edbeb0ccad89ba077855bc8a1afc5a7156b42ff0bbaa227", func := "loop.example/g00970/laws.FnExactScalarOk", spec := "fnExactScalarOk", inPlace := ["math/bits.Add64"], apart := false, narrowed := true }
def FnExactScalarOkUptoSaid : Prop := fnExactScalarOkUptoRow.holds Try.pinned (OpenSpec.upto fnExactScalarOkSpec)

/-- 'laws.FnExactAddRest', WHERE WHAT IT READS IS OF BULK AT MOST 1048576: true; the input reads as it did. -/
def fnExactAddRestUptoRow : OpenClaim := { program := "ytohfimjpfnnpgaa", sum := "d9950a38cebbde281edbeb0ccad89ba077855bc8a1afc5a7156b42ff0bbaa227", func := "loop.example/g00970/laws.FnExactAddRest", spec := "fnExactAddRest", inPlace := ["math/bits.Add64", "math/bits.Sub64"], recurses := true, apart := false, narrowed := true }
def FnExactAddRestUptoSaid : Prop := fnExactAddRestUptoRow.holds Try.pinned (OpenSpec.upto fnExactAddRestSpec)

/-- 'laws.FnExactNegRest', WHERE WHAT IT READS IS OF BULK AT MOST 1048576: true; the input reads as it did. -/
def fnExactNegRestUptoRow : OpenClaim := { program := "ytohfimjpfnnpgaa", sum := "d9950a38cebbde281edbeb0ccad89ba077855bc8a1afc5a7156b42ff0bbaa227", func := "loop.example/g00970/laws.FnExactNegRest", spec := "fnExactNegRest", inPlace := ["math/bits.Sub64", "math/bits.Add64"], recurses := true, apart := false, narrowed := true }
def FnExactNegRestUptoSaid : Prop := fnExactNegRestUptoRow.holds Try.pinned (OpenSpec.upto fnExactNegRestSpec)

/-- 'laws.FnExactPairGreater', WHERE WHAT IT READS IS OF BULK AT MOST 1048576: true; the input reads as it did. -/
def fnExactPairGreaterUptoRow : OpenClaim := { program := "ytohfimjpfnnpgaa", sum := "d9950a38cebbde281edbeb0ccad89ba077855bc8a1afc5a7156b42ff0bbaa227", func := "loop.example/g00970/laws.FnExactPairGreater", spec := "fnExactPairGreater", inPlace := ["math/bits.Sub64", "math/bits.Add64"], recurses := true, apart := false, narrowed := true }
def FnExactPairGreaterUptoSaid : Prop := fnExactPairGreaterUptoRow.holds Try.pinned (OpenSpec.upto fnExactPairGreaterSpec)

/-- 'laws.FnExactOtherPair', WHERE WHAT IT READS IS OF BULK AT MOST 1048576: true; the input reads as it did. -/
def fnExactOtherPairUptoRow : OpenClaim := { program := "ytohfimjpfnnpgaa", sum := "d9950a38cebbde281edbeb0ccad89ba077855bc8a1afc5a7156b42ff0bbaa227", func := "loop.example/g00970/laws.FnExactOtherPair", spec := "fnExactOtherPair", inPlace := ["math/bits.Sub64", "math/bits.Add64"], recurses := true, apart := false, narrowed := true }
def FnExactOtherPairUptoSaid : Prop := fnExactOtherPairUptoRow.holds Try.pinned (OpenSpec.upto fnExactOtherPairSpec)

/-- 'laws.FnExactTwosIn', WHERE WHAT IT READS IS OF BULK AT MOST 1048576: true; the input reads as it did. -/
def fnExactTwosInUptoRow : OpenClaim := { program := "ytohfimjpfnnpgaa", sum := "d9950a38cebbde281edbeb0ccad89ba077855bc8a1afc5a7156b42ff0bbaa227", func := "loop.example/g00970/laws.FnExactTwosIn", spec := "fnExactTwosIn", inPlace := ["math/bits.Sub64"], apart := false, narrowed := true }
def FnExactTwosInUptoSaid : Prop := fnExactTwosInUptoRow.holds Try.pinned (OpenSpec.upto fnExactTwosInSpec)

/-- 'laws.FnGreatInts', WHERE WHAT IT READS IS OF BULK AT MOST 1048576: true; the input reads as it did. -/
def fnGreatIntsUptoRow : OpenClaim := { program := "ytohfimjpfnnpgaa", sum := "d9950a38cebbde281edbeb0ccad89ba077855bc8a1afc5a7156b42ff0bbaa227", func := "loop.example/g00970/laws.FnGreatInts", spec := "fnGreatInts", apart := false, narrowed := true }
def FnGreatIntsUptoSaid : Prop := fnGreatIntsUptoRow.holds Try.pinned (OpenSpec.upto fnGreatIntsSpec)

end Rows
end Go.Proofs.Ytohfimjpfnnpgaa
