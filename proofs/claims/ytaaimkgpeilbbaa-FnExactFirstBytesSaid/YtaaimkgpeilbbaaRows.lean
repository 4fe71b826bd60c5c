/-
  No cell of these rows narrows 'for every input' (looked for: loops, veiled, ifaces, maps, wideKeys, modest, calm, conditions, laid).
  DERIVED. THE GIVEN ROWS OF THIS SEAT. 10 by the template 'for every input the law returns true; each argument reads behind the call as it read before'; 0 by the template 'total and deterministic' (their statements: YtaaimkgpeilbbaaTotals.lean).
  GIVEN WITH THE SEED: the statements are not yours to turn. If you find one false, say at which input.
  Laid BY PROGRAM, IN A SANDBOX (cutbox-rows.mjs): the forced cells as the released guide's own fill.sh prints them over the translation 8499188abe118601… (all of the seat's roots in one cut). By AI agents, Wed Nov 11 2026. No macro, syntax, notation, axiom, sorry.
-/
import Derived.Test.YtaaimkgpeilbbaaChecked
import GoSem.Claim
import GoSem.ClaimJoined
import GoSem.ClaimMapViews
import Derived.JoinedTies
import Derived.KernelRfl
namespace Go.Proofs.Ytaaimkgpeilbbaa
/- THE CELL 'sum', in the pinned program and in every row, IS THE sha256 OF THE DUMP (.gsa) THAT YtaaimkgpeilbbaaProg.lean LOADS. Nothing in Lean hashes anything: it is a label: what it is worth is what the hold of that sum in a sandbox is worth. -/
noncomputable def Try.pinned : Pinned := { name := "ytaaimkgpeilbbaa", sum := "8499188abe1186013fc29ea3e7ecb481959a8c172fc542142fc0c1cbca477c5e", checked := Try.checked }
namespace Rows
def none {H : Type} : Left H := { results := [], args := [] }

/-- 'laws.FnExactRestOk': WHATEVER THE INPUT: true; the input reads as it did. -/
def fnExactRestOkSpec : ChangeSpec := { name := "fnExactRestOk", fn := fun _ => fun
  | [d1, d2] => { results := [.lit (.bool true)], args := [d1, d2] }
  | _ => none }
def fnExactRestOkRow : OpenClaim := { program := "ytaaimkgpeilbbaa", sum := "8499188abe1186013fc29ea3e7ecb481959a8c172fc542142fc0c1cbca477c5e", func := "loop.example/g00970/laws.FnExactRestOk", spec := "fnExactRestOk", apart := false }
def FnExactRestOkSaid : Prop := fnExactRestOkRow.holds Try.pinned (OpenSpec.ofChange fnExactRestOkSpec)

/-- ITS FALSE NEIGHBOUR: 'it returns false'. Refute it at one input. -/
def fnExactRestOkWrong : ChangeSpec := { name := "fnExactRestOk", fn := fun _ => fun
  | [d1, d2] => { results := [.lit (.bool false)], args := [d1, d2] }
  | _ => none }
def FnExactRestOkWrongFalsely : Prop := fnExactRestOkRow.holds Try.pinned (OpenSpec.ofChange fnExactRestOkWrong)

/-- 'laws.FnExactPartsOf': WHATEVER THE INPUT: true; the input reads as it did. -/
def fnExactPartsOfSpec : ChangeSpec := { name := "fnExactPartsOf", fn := fun _ => fun
  | [d] => { results := [.lit (.bool true)], args := [d] }
  | _ => none }
def fnExactPartsOfRow : OpenClaim := { program := "ytaaimkgpeilbbaa", sum := "8499188abe1186013fc29ea3e7ecb481959a8c172fc542142fc0c1cbca477c5e", func := "loop.example/g00970/laws.FnExactPartsOf", spec := "fnExactPartsOf", apart := false }
def FnExactPartsOfSaid : Prop := fnExactPartsOfRow.holds Try.pinned (OpenSpec.ofChange fnExactPartsOfSpec)

/-- ITS FALSE NEIGHBOUR: 'it returns false'. Refute it at one input. -/
def fnExactPartsOfWrong : ChangeSpec := { name := "fnExactPartsOf", fn := fun _ => fun
  | [d] => { results := [.lit (.bool false)], args := [d] }
  | _ => none }
def FnExactPartsOfWrongFalsely : Prop := fnExactPartsOfRow.holds Try.pinned (OpenSpec.ofChange fnExactPartsOfWrong)

/-- 'laws.FnExactCompareGreat': WHATEVER THE INPUT: true; the input reads as it did. -/
def fnExactCompareGreatSpec : ChangeSpec := { name := "fnExactCompareGreat", fn := fun _ => fun
  | [d1, d2] => { results := [.lit (.bool true)], args := [d1, d2] }
  | _ => none }
def fnExactCompareGreatRow : OpenClaim := { program := "ytaaimkgpeilbbaa", sum := "8499188abe1186013fc29ea3e7ecb481959a8c172fc542142fc0c1cbca477c5e", func := "loop.example/g00970/laws.FnExactCompareGreat", spec := "fnExactCompareGreat", apart := false }
def FnExactCompareGreatSaid : Prop := fnExactCompareGreatRow.holds Try.pinned (OpenSpec.ofChange fnExactCompareGreatSpec)

/-- ITS FALSE NEIGHBOUR: 'it returns false'. Refute it at one input. -/
def fnExactCompareGreatWrong : ChangeSpec := { name := "fnExactCompareGreat", fn := fun _ => fun
  | [d1, d2] => { results := [.lit (.bool false)], args := [d1, d2] }
  | _ => none }
def FnExactCompareGreatWrongFalsely : Prop := fnExactCompareGreatRow.holds Try.pinned (OpenSpec.ofChange fnExactCompareGreatWrong)

/-- 'laws.FnExactPairOk': WHATEVER THE INPUT: true; the input reads as it did. -/
def fnExactPairOkSpec : ChangeSpec := { name := "fnExactPairOk", fn := fun _ => fun
  | [d1, d2] => { results := [.lit (.bool true)], args := [d1, d2] }
  | _ => none }
def fnExactPairOkRow : OpenClaim := { program := "ytaaimkgpeilbbaa", sum := "8499188abe1186013fc29ea3e7ecb481959a8c172fc542142fc0c1cbca477c5e", func := "loop.example/g00970/laws.FnExactPairOk", spec := "fnExactPairOk", apart := false }
def FnExactPairOkSaid : Prop := fnExactPairOkRow.holds Try.pinned (OpenSpec.ofChange fnExactPairOkSpec)

/-- ITS FALSE NEIGHBOUR: 'it returns false'. Refute it at one input. -/
def fnExactPairOkWrong : ChangeSpec := { name := "fnExactPairOk", fn := fun _ => fun
  | [d1, d2] => { results := [.lit (.bool false)], args := [d1, d2] }
  | _ => none }
def FnExactPairOkWrongFalsely : Prop := fnExactPairOkRow.holds Try.pinned (OpenSpec.ofChange fnExactPairOkWrong)

/-- 'laws.FnExactCurveNamed': WHATEVER THE INPUT: true; the input reads as it did. -/
def fnExactCurveNamedSpec : ChangeSpec := { name := "fnExactCurveNamed", fn := fun _ => fun
  | [d] => { results := [.lit (.bool true)], args := [d] }
  | _ => none }
def fnExactCurveNamedRow : OpenClaim := { program := "ytaaimkgpeilbbaa", sum := "8499188abe1186013fc29ea3e7ecb481959a8c172fc542142fc0c1cbca477c5e", func := "loop.example/g00970/laws.FnExactCurveNamed", spec := "fnExactCurveNamed", inPlace := ["math/bits.Add64"], apart := false }
def FnExactCurveNamedSaid : Prop := fnExactCurveNamedRow.holds Try.pinned (OpenSpec.ofChange fnExactCurveNamedSpec)

/-- ITS FALSE NEIGHBOUR: 'it returns false'. Refute it at one input. -/
def fnExactCurveNamedWrong : ChangeSpec := { name := "fnExactCurveNamed", fn := fun _ => fun
  | [d] => { results := [.lit (.bool false)], args := [d] }
  | _ => none }
def FnExactCurveNamedWrongFalsely : Prop := fnExactCurveNamedRow.holds Try.pinned (OpenSpec.ofChange fnExactCurveNamedWrong)

/-- 'laws.FnExactFirstBytes': WHATEVER THE INPUT: true; the input reads as it did. -/
def fnExactFirstBytesSpec : ChangeSpec := { name := "fnExactFirstBytes", fn := fun _ => fun
  | [d1, d2] => { results := [.lit (.bool true)], args := [d1, d2] }
  | _ => none }
def fnExactFirstBytesRow : OpenClaim := { program := "ytaaimkgpeilbbaa", sum := "8499188abe1186013fc29ea3e7ecb481959a8c172fc542142fc0c1cbca477c5e", func := "loop.example/g00970/laws.FnExactFirstBytes", spec := "fnExactFirstBytes", inPlace := ["internal/abi.NoEscape", "internal/bytealg.MakeNoZero"], apart := false }
def FnExactFirstBytesSaid : Prop := fnExactFirstBytesRow.holds Try.pinned (OpenSpec.ofChange fnExactFirstBytesSpec)

/-- ITS FALSE NEIGHBOUR: 'it returns false'. Refute it at one input. -/
def fnExactFirstBytesWrong : ChangeSpec := { name := "fnExactFirstBytes", fn := fun _ => fun
  | [d1, d2] => { results := [.lit (.bool false)], args := [d1, d2] }
  | _ => none }
def FnExactFirstBytesWrongFalsely : Prop := fnExactFirstBytesRow.holds Try.pinned (OpenSpec.ofChange fnExactFirstBytesWrong)

/-- 'laws.FnExactBaseOf': WHATEVER THE INPUT: true; the input reads as it did. -/
def fnExactBaseOfSpec : ChangeSpec := { name := "fnExactBaseOf", fn := fun _ => fun
  | [d] => { results := [.lit (.bool true)], args := [d] }
  | _ => none }
def fnExactBaseOfRow : OpenClaim := { program := "ytaaimkgpeilbbaa", sum := "8499188abe1186013fc29ea3e7ecb481959a8c172fc542142fc0c1cbca477c5e", func := "loop.example/g00970/laws.FnExactBaseOf", spec := "fnExactBaseOf", inPlace := ["math/bits.Add64"], apart := false }
def FnExactBaseOfSaid : Prop := fnExactBaseOfRow.holds Try.pinned (OpenSpec.ofChange fnExactBaseOfSpec)

/-- ITS FALSE NEIGHBOUR: 'it returns false'. Refute it at one input. -/
def fnExactBaseOfWrong : ChangeSpec := { name := "fnExactBaseOf", fn := fun _ => fun
  | [d] => { results := [.lit (.bool false)], args := [d] }
  | _ => none }
def FnExactBaseOfWrongFalsely : Prop := fnExactBaseOfRow.holds Try.pinned (OpenSpec.ofChange fnExactBaseOfWrong)

/-- 'laws.FnExactSpareBits': WHATEVER THE INPUT: true; the input reads as it did. -/
def fnExactSpareBitsSpec : ChangeSpec := { name := "fnExactSpareBits", fn := fun _ => fun
  | [d] => { results := [.lit (.bool true)], args := [d] }
  | _ => none }
def fnExactSpareBitsRow : OpenClaim := { program := "ytaaimkgpeilbbaa", sum := "8499188abe1186013fc29ea3e7ecb481959a8c172fc542142fc0c1cbca477c5e", func := "loop.example/g00970/laws.FnExactSpareBits", spec := "fnExactSpareBits", inPlace := ["math/bits.Add64"], apart := false }
def FnExactSpareBitsSaid : Prop := fnExactSpareBitsRow.holds Try.pinned (OpenSpec.ofChange fnExactSpareBitsSpec)

/-- ITS FALSE NEIGHBOUR: 'it returns false'. Refute it at one input. -/
def fnExactSpareBitsWrong : ChangeSpec := { name := "fnExactSpareBits", fn := fun _ => fun
  | [d] => { results := [.lit (.bool false)], args := [d] }
  | _ => none }
def FnExactSpareBitsWrongFalsely : Prop := fnExactSpareBitsRow.holds Try.pinned (OpenSpec.ofChange fnExactSpareBitsWrong)

/-- 'laws.FnExactLastBytes': WHATEVER THE INPUT: true; the input reads as it did. -/
def fnExactLastBytesSpec : ChangeSpec := { name := "fnExactLastBytes", fn := fun _ => fun
  | [d1, d2] => { results := [.lit (.bool true)], args := [d1, d2] }
  | _ => none }
def fnExactLastBytesRow : OpenClaim := { program := "ytaaimkgpeilbbaa", sum := "8499188abe1186013fc29ea3e7ecb481959a8c172fc542142fc0c1cbca477c5e", func := "loop.example/g00970/laws.FnExactLastBytes", spec := "fnExactLastBytes", inPlace := ["internal/abi.NoEscape", "internal/bytealg.MakeNoZero"], apart := false }
def FnExactLastBytesSaid : Prop := fnExactLastBytesRow.holds Try.pinned (OpenSpec.ofChange fnExactLastBytesSpec)

/-- ITS FALSE NEIGHBOUR: 'it returns false'. Refute it at one input. -/
def fnExactLastBytesWrong : ChangeSpec := { name := "fnExactLastBytes", fn := fun _ => fun
  | [d1, d2] => { results := [.lit (.bool false)], args := [d1, d2] }
  | _ => none }
def FnExactLastBytesWrongFalsely : Prop := fnExactLastBytesRow.holds Try.pinned (OpenSpec.ofChange fnExactLastBytesWrong)

/-- 'laws.FnExactReadGreat': WHATEVER THE INPUT: true; the input reads as it did. -/
def fnExactReadGreatSpec : ChangeSpec := { name := "fnExactReadGreat", fn := fun _ => fun
  | [d] => { results := [.lit (.bool true)], args := [d] }
  | _ => none }
def fnExactReadGreatRow : OpenClaim := { program := "ytaaimkgpeilbbaa", sum := "8499188abe1186013fc29ea3e7ecb481959a8c172fc542142fc0c1cbca477c5e", func := "loop.example/g00970/laws.FnExactReadGreat", spec := "fnExactReadGreat", inPlace := ["math/bits.Add64"], recurses := true, apart := false }
def FnExactReadGreatSaid : Prop := fnExactReadGreatRow.holds Try.pinned (OpenSpec.ofChange fnExactReadGreatSpec)

/-- ITS FALSE NEIGHBOUR: 'it returns false'. Refute it at one input. -/
def fnExactReadGreatWrong : ChangeSpec := { name := "fnExactReadGreat", fn := fun _ => fun
  | [d] => { results := [.lit (.bool false)], args := [d] }
  | _ => none }
def FnExactReadGreatWrongFalsely : Prop := fnExactReadGreatRow.holds Try.pinned (OpenSpec.ofChange fnExactReadGreatWrong)

/- THE SECOND FORM. 'bulk': how many values and letters a reading holds, each counted each time it is reached (what is shared counts as often as it is met; a slice's spare places count too). A statement '..UptoSaid' is the law's where the arguments, and the package variables that the reading takes, are together of bulk at most 1048576: NARROWER than '..Said'. Prove '..Said' where nothing that the law and all that it calls make is longer than what came in: it says more and counts as full. Else prove '..UptoSaid'. A law counts once. -/
mutual
def uptoBulk {H : Type} : DataW H → Nat
  | .lit (.string bytes) => bytes.length + 1
  | .lit _ => 1
  | .nil => 1
  | .ptr d => uptoBulk d + 1
  | .slice elems spare => uptoBulkAll elems + uptoBulkAll spare + 1
  | .agg parts => uptoBulkAll parts + 1
  | .iface _ d => uptoBulk d + 1
  | .map entries => uptoBulkEntries entries + 1
  | .held _ => 1
def uptoBulkAll {H : Type} : List (DataW H) → Nat
  | [] => 0
  | d :: r => uptoBulk d + uptoBulkAll r
def uptoBulkEntries {H : Type} : List (Lit × DataW H) → Nat
  | [] => 0
  | x :: r => uptoBulkEntry x + uptoBulkEntries r
def uptoBulkEntry {H : Type} : Lit × DataW H → Nat
  | (.string bytes, d) => bytes.length + uptoBulk d + 1
  | (_, d) => uptoBulk d + 1
 end
def uptoSmall : (H : Type) → List (DataW H) → Bool := fun _ ds => decide (uptoBulkAll ds ≤ 1048576)
def OpenSpec.upto (s : _root_.Go.ChangeSpec) : _root_.Go.OpenSpec := { _root_.Go.OpenSpec.ofChange s with cond := some uptoSmall }

/-- 'laws.FnExactRestOk', WHERE WHAT IT READS IS OF BULK AT MOST 1048576: true; the input reads as it did. -/
def fnExactRestOkUptoRow : OpenClaim := { program := "ytaaimkgpeilbbaa", sum := "8499188abe1186013fc29ea3e7ecb481959a8c172fc542142fc0c1cbca477c5e", func := "loop.example/g00970/laws.FnExactRestOk", spec := "fnExactRestOk", apart := false, narrowed := true }
def FnExactRestOkUptoSaid : Prop := fnExactRestOkUptoRow.holds Try.pinned (OpenSpec.upto fnExactRestOkSpec)

/-- 'laws.FnExactPartsOf', WHERE WHAT IT READS IS OF BULK AT MOST 1048576: true; the input reads as it did. -/
def fnExactPartsOfUptoRow : OpenClaim := { program := "ytaaimkgpeilbbaa", sum := "8499188abe1186013fc29ea3e7ecb481959a8c172fc542142fc0c1cbca477c5e", func := "loop.example/g00970/laws.FnExactPartsOf", spec := "fnExactPartsOf", apart := false, narrowed := true }
def FnExactPartsOfUptoSaid : Prop := fnExactPartsOfUptoRow.holds Try.pinned (OpenSpec.upto fnExactPartsOfSpec)

/-- 'laws.FnExactCompareGreat', WHERE WHAT IT READS IS OF BULK AT MOST 1048576: true; the input reads as it did. -/
def fnExactCompareGreatUptoRow : OpenClaim := { program := "ytaaimkgpeilbbaa", sum := "8499188abe1186013fc29ea3e7ecb481959a8c172fc542142fc0c1cbca477c5e", func := "loop.example/g00970/laws.FnExactCompareGreat", spec := "fnExactCompareGreat", apart := false, narrowed := true }
def FnExactCompareGreatUptoSaid : Prop := fnExactCompareGreatUptoRow.holds Try.pinned (OpenSpec.upto fnExactCompareGreatSpec)

/-- 'laws.FnExactPairOk', WHERE WHAT IT READS IS OF BULK AT MOST 1048576: true; the input reads as it did. -/
def fnExactPairOkUptoRow : OpenClaim := { program := "ytaaimkgpeilbbaa", sum := "8499188abe1186013fc29ea3e7ecb481959a8c172fc542142fc0c1cbca477c5e", func := "loop.example/g00970/laws.FnExactPairOk", spec := "fnExactPairOk", apart := false, narrowed := true }
def FnExactPairOkUptoSaid : Prop := fnExactPairOkUptoRow.holds Try.pinned (OpenSpec.upto fnExactPairOkSpec)

/-- 'laws.FnExactCurveNamed', WHERE WHAT IT READS IS OF BULK AT MOST 1048576: true; the input reads as it did. -/
def fnExactCurveNamedUptoRow : OpenClaim := { program := "ytaaimkgpeilbbaa", sum := "8499188abe1186013fc29ea3e7ecb481959a8c172fc542142fc0c1cbca477c5e", func := "loop.example/g00970/laws.FnExactCurveNamed", spec := "fnExactCurveNamed", inPlace := ["math/bits.Add64"], apart := false, narrowed := true }
def FnExactCurveNamedUptoSaid : Prop := fnExactCurveNamedUptoRow.holds Try.pinned (OpenSpec.upto fnExactCurveNamedSpec)

/-- 'laws.FnExactFirstBytes', WHERE WHAT IT READS IS OF BULK AT MOST 1048576: true; the input reads as it did. -/
def fnExactFirstBytesUptoRow : OpenClaim := { program := "ytaaimkgpeilbbaa", sum := "8499188abe1186013fc29ea3e7ecb481959a8c172fc542142fc0c1cbca477c5e", func := "loop.example/g00970/laws.FnExactFirstBytes", spec := "fnExactFirstBytes", inPlace := ["internal/abi.NoEscape", "internal/bytealg.MakeNoZero"], apart := false, narrowed := true }
def FnExactFirstBytesUptoSaid : Prop := fnExactFirstBytesUptoRow.holds Try.pinned (OpenSpec.upto fnExactFirstBytesSpec)

/-- 'laws.FnExactBaseOf', WHERE WHAT IT READS IS OF BULK AT MOST 1048576: true; the input reads as it did. -/
def fnExactBaseOfUptoRow : OpenClaim := { program := "ytaaimkgpeilbbaa", sum := "8499188abe1186013fc29ea3e7ecb481959a8c172fc542142fc0c1cbca477c5e", func := "loop.example/g00970/laws.FnExactBaseOf", spec := "fnExactBaseOf", inPlace := ["math/bits.Add64"], apart := false, narrowed := true }
def FnExactBaseOfUptoSaid : Prop := fnExactBaseOfUptoRow.holds Try.pinned (OpenSpec.upto fnExactBaseOfSpec)

/-- 'laws.FnExactSpareBits', WHERE WHAT IT READS IS OF BULK AT MOST 1048576: true; the input reads as it did. -/
def fnExactSpareBitsUptoRow : OpenClaim := { program := "ytaaimkgpeilbbaa", sum := "8499188abe1186013fc29ea3e7ecb481959a8c172fc542142fc0c1cbca477c5e", func := "loop.example/g00970/laws.FnExactSpareBits", spec := "fnExactSpareBits", inPlace := ["math/bits.Add64"], apart := false, narrowed := true }
def FnExactSpareBitsUptoSaid : Prop := fnExactSpareBitsUptoRow.holds Try.pinned (OpenSpec.upto fnExactSpareBitsSpec)

/-- 'laws.FnExactLastBytes', WHERE WHAT IT READS IS OF BULK AT MOST 1048576: true; the input reads as it did. -/
def fnExactLastBytesUptoRow : OpenClaim := { program := "ytaaimkgpeilbbaa", sum := "8499188abe1186013fc29ea3e7ecb481959a8c172fc542142fc0c1cbca477c5e", func := "loop.example/g00970/laws.FnExactLastBytes", spec := "fnExactLastBytes", inPlace := ["internal/abi.NoEscape", "internal/bytealg.MakeNoZero"], apart := false, narrowed := true }
def FnExactLastBytesUptoSaid : Prop := fnExactLastBytesUptoRow.holds Try.pinned (OpenSpec.upto fnExactLastBytesSpec)

/-- 'laws.FnExactReadGreat', WHERE WHAT IT READS IS OF BULK AT MOST 1048576: true; the input reads as it did. -/
def fnExactReadGreatUptoRow : OpenClaim := { program := "ytaaimkgpeilbbaa", sum := "8499188abe1186013fc29ea3e7ecb481959a8c172fc542142fc0c1cbca477c5e", func := "loop.example/g00970/laws.FnExactReadGreat", spec := "fnExactReadGreat", inPlace := ["math/bits.Add64"], recurses := true, apart := false, narrowed := true }
def FnExactReadGreatUptoSaid : Prop := fnExactReadGreatUptoRow.holds Try.pinned (OpenSpec.upto fnExactReadGreatSpec)

end Rows
end Go.Proofs.Ytaaimkgpeilbbaa
