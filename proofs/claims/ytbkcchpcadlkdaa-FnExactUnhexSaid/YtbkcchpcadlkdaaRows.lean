/-
  No cell of these rows narrows 'for every input' (looked for: loops, veiled, ifaces, maps, wideKeys, modest, calm, conditions, laid).
  DERIVED. THE GIVEN ROWS OF THIS SEAT. 12 by the template 'for every input the law returns true; each argument reads behind the call as it read before'; 0 by the template 'total and deterministic' (their statements: YtbkcchpcadlkdaaTotals.lean).
  GIVEN WITH THE SEED: the statements are not yours to turn. If you find one false, say at which input.
  Laid BY PROGRAM, IN A SANDBOX (cutbox-rows.mjs): the forced cells as the released guide's own fill.sh prints them over the translation 6896b958d77e3c20… (all of the seat's roots in one cut). By AI agents, Wed Nov 11 2026. No macro, syntax, notation, axiom, sorry.
-/
import Derived.Test.YtbkcchpcadlkdaaChecked
import GoSem.Claim
import GoSem.ClaimJoined
import GoSem.ClaimMapViews
import Derived.JoinedTies
import Derived.KernelRfl
namespace Go.Proofs.Ytbkcchpcadlkdaa
/- THE CELL 'sum', in the pinned program and in every row, IS THE sha256 OF THE DUMP (.gsa) THAT YtbkcchpcadlkdaaProg.lean LOADS. Nothing in Lean hashes anything: it is a label: what it is worth is what the hold of that sum in a sandbox is worth. -/
noncomputable def Try.pinned : Pinned := { name := "ytbkcchpcadlkdaa", sum := "6896b958d77e3c207b68daeef6151c1fe42b7d344b1a5ced328d8a37686447e3", checked := Try.checked }
namespace Rows
def none {H : Type} : Left H := { results := [], args := [] }

/-- 'laws.FnExactConstants': WHATEVER THE INPUT: true; the input reads as it did. -/
def fnExactConstantsSpec : ChangeSpec := { name := "fnExactConstants", fn := fun _ => fun
  | [] => { results := [.lit (.bool true)], args := [] }
  | _ => none }
def fnExactConstantsRow : OpenClaim := { program := "ytbkcchpcadlkdaa", sum := "6896b958d77e3c207b68daeef6151c1fe42b7d344b1a5ced328d8a37686447e3", func := "loop.example/g00970/laws.FnExactConstants", spec := "fnExactConstants", apart := false }
def FnExactConstantsSaid : Prop := fnExactConstantsRow.holds Try.pinned (OpenSpec.ofChange fnExactConstantsSpec)

/-- ITS FALSE NEIGHBOUR: 'it returns false'. Refute it at one input. -/
def fnExactConstantsWrong : ChangeSpec := { name := "fnExactConstants", fn := fun _ => fun
  | [] => { results := [.lit (.bool false)], args := [] }
  | _ => none }
def FnExactConstantsWrongFalsely : Prop := fnExactConstantsRow.holds Try.pinned (OpenSpec.ofChange fnExactConstantsWrong)

/-- 'laws.FnExactGreatOk': WHATEVER THE INPUT: true; the input reads as it did. -/
def fnExactGreatOkSpec : ChangeSpec := { name := "fnExactGreatOk", fn := fun _ => fun
  | [d] => { results := [.lit (.bool true)], args := [d] }
  | _ => none }
def fnExactGreatOkRow : OpenClaim := { program := "ytbkcchpcadlkdaa", sum := "6896b958d77e3c207b68daeef6151c1fe42b7d344b1a5ced328d8a37686447e3", func := "loop.example/g00970/laws.FnExactGreatOk", spec := "fnExactGreatOk", apart := false }
def FnExactGreatOkSaid : Prop := fnExactGreatOkRow.holds Try.pinned (OpenSpec.ofChange fnExactGreatOkSpec)

/-- ITS FALSE NEIGHBOUR: 'it returns false'. Refute it at one input. -/
def fnExactGreatOkWrong : ChangeSpec := { name := "fnExactGreatOk", fn := fun _ => fun
  | [d] => { results := [.lit (.bool false)], args := [d] }
  | _ => none }
def FnExactGreatOkWrongFalsely : Prop := fnExactGreatOkRow.holds Try.pinned (OpenSpec.ofChange fnExactGreatOkWrong)

/-- 'laws.FnExactBrought': WHATEVER THE INPUT: true; the input reads as it did. -/
def fnExactBroughtSpec : ChangeSpec := { name := "fnExactBrought", fn := fun _ => fun
  | [d1, d2, d3] => { results := [.lit (.bool true)], args := [d1, d2, d3] }
  | _ => none }
def fnExactBroughtRow : OpenClaim := { program := "ytbkcchpcadlkdaa", sum := "6896b958d77e3c207b68daeef6151c1fe42b7d344b1a5ced328d8a37686447e3", func := "loop.example/g00970/laws.FnExactBrought", spec := "fnExactBrought", apart := false }
def FnExactBroughtSaid : Prop := fnExactBroughtRow.holds Try.pinned (OpenSpec.ofChange fnExactBroughtSpec)

/-- ITS FALSE NEIGHBOUR: 'it returns false'. Refute it at one input. -/
def fnExactBroughtWrong : ChangeSpec := { name := "fnExactBrought", fn := fun _ => fun
  | [d1, d2, d3] => { results := [.lit (.bool false)], args := [d1, d2, d3] }
  | _ => none }
def FnExactBroughtWrongFalsely : Prop := fnExactBroughtRow.holds Try.pinned (OpenSpec.ofChange fnExactBroughtWrong)

/-- 'laws.FnExactLimbsOf': WHATEVER THE INPUT: true; the input reads as it did. -/
def fnExactLimbsOfSpec : ChangeSpec := { name := "fnExactLimbsOf", fn := fun _ => fun
  | [d] => { results := [.lit (.bool true)], args := [d] }
  | _ => none }
def fnExactLimbsOfRow : OpenClaim := { program := "ytbkcchpcadlkdaa", sum := "6896b958d77e3c207b68daeef6151c1fe42b7d344b1a5ced328d8a37686447e3", func := "loop.example/g00970/laws.FnExactLimbsOf", spec := "fnExactLimbsOf", apart := false }
def FnExactLimbsOfSaid : Prop := fnExactLimbsOfRow.holds Try.pinned (OpenSpec.ofChange fnExactLimbsOfSpec)

/-- ITS FALSE NEIGHBOUR: 'it returns false'. Refute it at one input. -/
def fnExactLimbsOfWrong : ChangeSpec := { name := "fnExactLimbsOf", fn := fun _ => fun
  | [d] => { results := [.lit (.bool false)], args := [d] }
  | _ => none }
def FnExactLimbsOfWrongFalsely : Prop := fnExactLimbsOfRow.holds Try.pinned (OpenSpec.ofChange fnExactLimbsOfWrong)

/-- 'laws.FnExactSamePoint': WHATEVER THE INPUT: true; the input reads as it did. -/
def fnExactSamePointSpec : ChangeSpec := { name := "fnExactSamePoint", fn := fun _ => fun
  | [d1, d2] => { results := [.lit (.bool true)], args := [d1, d2] }
  | _ => none }
def fnExactSamePointRow : OpenClaim := { program := "ytbkcchpcadlkdaa", sum := "6896b958d77e3c207b68daeef6151c1fe42b7d344b1a5ced328d8a37686447e3", func := "loop.example/g00970/laws.FnExactSamePoint", spec := "fnExactSamePoint", apart := false }
def FnExactSamePointSaid : Prop := fnExactSamePointRow.holds Try.pinned (OpenSpec.ofChange fnExactSamePointSpec)

/-- ITS FALSE NEIGHBOUR: 'it returns false'. Refute it at one input. -/
def fnExactSamePointWrong : ChangeSpec := { name := "fnExactSamePoint", fn := fun _ => fun
  | [d1, d2] => { results := [.lit (.bool false)], args := [d1, d2] }
  | _ => none }
def FnExactSamePointWrongFalsely : Prop := fnExactSamePointRow.holds Try.pinned (OpenSpec.ofChange fnExactSamePointWrong)

/-- 'laws.FnExactHex': WHATEVER THE INPUT: true; the input reads as it did. -/
def fnExactHexSpec : ChangeSpec := { name := "fnExactHex", fn := fun _ => fun
  | [d] => { results := [.lit (.bool true)], args := [d] }
  | _ => none }
def fnExactHexRow : OpenClaim := { program := "ytbkcchpcadlkdaa", sum := "6896b958d77e3c207b68daeef6151c1fe42b7d344b1a5ced328d8a37686447e3", func := "loop.example/g00970/laws.FnExactHex", spec := "fnExactHex", apart := false }
def FnExactHexSaid : Prop := fnExactHexRow.holds Try.pinned (OpenSpec.ofChange fnExactHexSpec)

/-- ITS FALSE NEIGHBOUR: 'it returns false'. Refute it at one input. -/
def fnExactHexWrong : ChangeSpec := { name := "fnExactHex", fn := fun _ => fun
  | [d] => { results := [.lit (.bool false)], args := [d] }
  | _ => none }
def FnExactHexWrongFalsely : Prop := fnExactHexRow.holds Try.pinned (OpenSpec.ofChange fnExactHexWrong)

/-- 'laws.FnExactBitOf': WHATEVER THE INPUT: true; the input reads as it did. -/
def fnExactBitOfSpec : ChangeSpec := { name := "fnExactBitOf", fn := fun _ => fun
  | [d1, d2] => { results := [.lit (.bool true)], args := [d1, d2] }
  | _ => none }
def fnExactBitOfRow : OpenClaim := { program := "ytbkcchpcadlkdaa", sum := "6896b958d77e3c207b68daeef6151c1fe42b7d344b1a5ced328d8a37686447e3", func := "loop.example/g00970/laws.FnExactBitOf", spec := "fnExactBitOf", apart := false }
def FnExactBitOfSaid : Prop := fnExactBitOfRow.holds Try.pinned (OpenSpec.ofChange fnExactBitOfSpec)

/-- ITS FALSE NEIGHBOUR: 'it returns false'. Refute it at one input. -/
def fnExactBitOfWrong : ChangeSpec := { name := "fnExactBitOf", fn := fun _ => fun
  | [d1, d2] => { results := [.lit (.bool false)], args := [d1, d2] }
  | _ => none }
def FnExactBitOfWrongFalsely : Prop := fnExactBitOfRow.holds Try.pinned (OpenSpec.ofChange fnExactBitOfWrong)

/-- 'laws.FnExactUnhex': WHATEVER THE INPUT: true; the input reads as it did. -/
def fnExactUnhexSpec : ChangeSpec := { name := "fnExactUnhex", fn := fun _ => fun
  | [d] => { results := [.lit (.bool true)], args := [d] }
  | _ => none }
def fnExactUnhexRow : OpenClaim := { program := "ytbkcchpcadlkdaa", sum := "6896b958d77e3c207b68daeef6151c1fe42b7d344b1a5ced328d8a37686447e3", func := "loop.example/g00970/laws.FnExactUnhex", spec := "fnExactUnhex", inPlace := ["internal/bytealg.IndexByteString"], apart := false }
def FnExactUnhexSaid : Prop := fnExactUnhexRow.holds Try.pinned (OpenSpec.ofChange fnExactUnhexSpec)

/-- ITS FALSE NEIGHBOUR: 'it returns false'. Refute it at one input. -/
def fnExactUnhexWrong : ChangeSpec := { name := "fnExactUnhex", fn := fun _ => fun
  | [d] => { results := [.lit (.bool false)], args := [d] }
  | _ => none }
def FnExactUnhexWrongFalsely : Prop := fnExactUnhexRow.holds Try.pinned (OpenSpec.ofChange fnExactUnhexWrong)

/-- 'laws.FnExactGreatOf': WHATEVER THE INPUT: true; the input reads as it did. -/
def fnExactGreatOfSpec : ChangeSpec := { name := "fnExactGreatOf", fn := fun _ => fun
  | [d] => { results := [.lit (.bool true)], args := [d] }
  | _ => none }
def fnExactGreatOfRow : OpenClaim := { program := "ytbkcchpcadlkdaa", sum := "6896b958d77e3c207b68daeef6151c1fe42b7d344b1a5ced328d8a37686447e3", func := "loop.example/g00970/laws.FnExactGreatOf", spec := "fnExactGreatOf", apart := false }
def FnExactGreatOfSaid : Prop := fnExactGreatOfRow.holds Try.pinned (OpenSpec.ofChange fnExactGreatOfSpec)

/-- ITS FALSE NEIGHBOUR: 'it returns false'. Refute it at one input. -/
def fnExactGreatOfWrong : ChangeSpec := { name := "fnExactGreatOf", fn := fun _ => fun
  | [d] => { results := [.lit (.bool false)], args := [d] }
  | _ => none }
def FnExactGreatOfWrongFalsely : Prop := fnExactGreatOfRow.holds Try.pinned (OpenSpec.ofChange fnExactGreatOfWrong)

/-- 'laws.FnExactBitsOf': WHATEVER THE INPUT: true; the input reads as it did. -/
def fnExactBitsOfSpec : ChangeSpec := { name := "fnExactBitsOf", fn := fun _ => fun
  | [d] => { results := [.lit (.bool true)], args := [d] }
  | _ => none }
def fnExactBitsOfRow : OpenClaim := { program := "ytbkcchpcadlkdaa", sum := "6896b958d77e3c207b68daeef6151c1fe42b7d344b1a5ced328d8a37686447e3", func := "loop.example/g00970/laws.FnExactBitsOf", spec := "fnExactBitsOf", apart := false }
def FnExactBitsOfSaid : Prop := fnExactBitsOfRow.holds Try.pinned (OpenSpec.ofChange fnExactBitsOfSpec)

/-- ITS FALSE NEIGHBOUR: 'it returns false'. Refute it at one input. -/
def fnExactBitsOfWrong : ChangeSpec := { name := "fnExactBitsOf", fn := fun _ => fun
  | [d] => { results := [.lit (.bool false)], args := [d] }
  | _ => none }
def FnExactBitsOfWrongFalsely : Prop := fnExactBitsOfRow.holds Try.pinned (OpenSpec.ofChange fnExactBitsOfWrong)

/-- 'laws.FnExactGreatInt': WHATEVER THE INPUT: true; the input reads as it did. -/
def fnExactGreatIntSpec : ChangeSpec := { name := "fnExactGreatInt", fn := fun _ => fun
  | [d] => { results := [.lit (.bool true)], args := [d] }
  | _ => none }
def fnExactGreatIntRow : OpenClaim := { program := "ytbkcchpcadlkdaa", sum := "6896b958d77e3c207b68daeef6151c1fe42b7d344b1a5ced328d8a37686447e3", func := "loop.example/g00970/laws.FnExactGreatInt", spec := "fnExactGreatInt", apart := false }
def FnExactGreatIntSaid : Prop := fnExactGreatIntRow.holds Try.pinned (OpenSpec.ofChange fnExactGreatIntSpec)

/-- ITS FALSE NEIGHBOUR: 'it returns false'. Refute it at one input. -/
def fnExactGreatIntWrong : ChangeSpec := { name := "fnExactGreatInt", fn := fun _ => fun
  | [d] => { results := [.lit (.bool false)], args := [d] }
  | _ => none }
def FnExactGreatIntWrongFalsely : Prop := fnExactGreatIntRow.holds Try.pinned (OpenSpec.ofChange fnExactGreatIntWrong)

/-- 'laws.FnExactLowInverse': WHATEVER THE INPUT: true; the input reads as it did. -/
def fnExactLowInverseSpec : ChangeSpec := { name := "fnExactLowInverse", fn := fun _ => fun
  | [d] => { results := [.lit (.bool true)], args := [d] }
  | _ => none }
def fnExactLowInverseRow : OpenClaim := { program := "ytbkcchpcadlkdaa", sum := "6896b958d77e3c207b68daeef6151c1fe42b7d344b1a5ced328d8a37686447e3", func := "loop.example/g00970/laws.FnExactLowInverse", spec := "fnExactLowInverse", apart := false }
def FnExactLowInverseSaid : Prop := fnExactLowInverseRow.holds Try.pinned (OpenSpec.ofChange fnExactLowInverseSpec)

/-- ITS FALSE NEIGHBOUR: 'it returns false'. Refute it at one input. -/
def fnExactLowInverseWrong : ChangeSpec := { name := "fnExactLowInverse", fn := fun _ => fun
  | [d] => { results := [.lit (.bool false)], args := [d] }
  | _ => none }
def FnExactLowInverseWrongFalsely : Prop := fnExactLowInverseRow.holds Try.pinned (OpenSpec.ofChange fnExactLowInverseWrong)

/- THE SECOND FORM. 'bulk': how many values and letters a reading holds, each counted each time it is reached (what is shared counts as often as it is met; a slice's spare places count too). A statement '..UptoSaid' is the law's where the arguments, and the package variables that the reading takes, are together of bulk at most 1048576: NARROWER than '..Said'. Prove '..Said' where nothing that the law and all that it calls make is longer than what came in: it says more and counts as full. Else prove '..UptoSaid'. A law counts once. -/
mutual
def uptoBulk {H : Type} : DataW H → Nat
  | .lit (.string bytes) => bytes.length + 1
  | .lit _ => 1
  | .nil => 1
  | .ptr d => uptoBulk d + 1
  | .slice elems spare => uptoBulkAll elems + uptoBulkAll spare + 1
  | .agg parts => uptoBulkAll parts + 1
  | .iface _ d => uptoBulk d + 1
  | .map entries => uptoBulkEntries entries + 1
  | .held _ => 1
def uptoBulkAll {H : Type} : List (DataW H) → Nat
  | [] => 0
  | d :: r => uptoBulk d + uptoBulkAll r
def uptoBulkEntries {H : Type} : List (Lit × DataW H) → Nat
  | [] => 0
  | x :: r => uptoBulkEntry x + uptoBulkEntries r
def uptoBulkEntry {H : Type} : Lit × DataW H → Nat
  | (.string bytes, d) => bytes.length + uptoBulk d + 1
  | (_, d) => uptoBulk d + 1
 end
def uptoSmall : (H : Type) → List (DataW H) → Bool := fun _ ds => decide (uptoBulkAll ds ≤ 1048576)
def OpenSpec.upto (s : _root_.Go.ChangeSpec) : _root_.Go.OpenSpec := { _root_.Go.OpenSpec.ofChange s with cond := some uptoSmall }

/-- 'laws.FnExactConstants', WHERE WHAT IT READS IS OF BULK AT MOST 1048576: true; the input reads as it did. -/
def fnExactConstantsUptoRow : OpenClaim := { program := "ytbkcchpcadlkdaa", sum := "6896b958d77e3c207b68daeef6151c1fe42b7d344b1a5ced328d8a37686447e3", func := "loop.example/g00970/laws.FnExactConstants", spec := "fnExactConstants", apart := false, narrowed := true }
def FnExactConstantsUptoSaid : Prop := fnExactConstantsUptoRow.holds Try.pinned (OpenSpec.upto fnExactConstantsSpec)

/-- 'laws.FnExactGreatOk', WHERE WHAT IT READS IS OF BULK AT MOST 1048576: true; the input reads as it did. -/
def fnExactGreatOkUptoRow : OpenClaim := { program := "ytbkcchpcadlkdaa", sum := "6896b958d77e3c207b68daeef6151c1fe42b7d344b1a5ced328d8a37686447e3", func := "loop.example/g00970/laws.FnExactGreatOk", spec := "fnExactGreatOk", apart := false, narrowed := true }
def FnExactGreatOkUptoSaid : Prop := fnExactGreatOkUptoRow.holds Try.pinned (OpenSpec.upto fnExactGreatOkSpec)

/-- 'laws.FnExactBrought', WHERE WHAT IT READS IS OF BULK AT MOST 1048576: true; the input reads as it did. -/
def fnExactBroughtUptoRow : OpenClaim := { program := "ytbkcchpcadlkdaa", sum := "6896b958d77e3c207b68daeef6151c1fe42b7d344b1a5ced328d8a37686447e3", func := "loop.example/g00970/laws.FnExactBrought", spec := "fnExactBrought", apart := false, narrowed := true }
def FnExactBroughtUptoSaid : Prop := fnExactBroughtUptoRow.holds Try.pinned (OpenSpec.upto fnExactBroughtSpec)

/-- 'laws.FnExactLimbsOf', WHERE WHAT IT READS IS OF BULK AT MOST 1048576: true; the input reads as it did. -/
def fnExactLimbsOfUptoRow : OpenClaim := { program := "ytbkcchpcadlkdaa", sum := "6896b958d77e3c207b68daeef6151c1fe42b7d344b1a5ced328d8a37686447e3", func := "loop.example/g00970/laws.FnExactLimbsOf", spec := "fnExactLimbsOf", apart := false, narrowed := true }
def FnExactLimbsOfUptoSaid : Prop := fnExactLimbsOfUptoRow.holds Try.pinned (OpenSpec.upto fnExactLimbsOfSpec)

/-- 'laws.FnExactSamePoint', WHERE WHAT IT READS IS OF BULK AT MOST 1048576: true; the input reads as it did. -/
def fnExactSamePointUptoRow : OpenClaim := { program := "ytbkcchpcadlkdaa", sum := "6896b958d77e3c207b68daeef6151c1fe42b7d344b1a5ced328d8a37686447e3", func := "loop.example/g00970/laws.FnExactSamePoint", spec := "fnExactSamePoint", apart := false, narrowed := true }
def FnExactSamePointUptoSaid : Prop := fnExactSamePointUptoRow.holds Try.pinned (OpenSpec.upto fnExactSamePointSpec)

/-- 'laws.FnExactHex', WHERE WHAT IT READS IS OF BULK AT MOST 1048576: true; the input reads as it did. -/
def fnExactHexUptoRow : OpenClaim := { program := "ytbkcchpcadlkdaa", sum := "6896b958d77e3c207b68daeef6151c1fe42b7d344b1a5ced328d8a37686447e3", func := "loop.example/g00970/laws.FnExactHex", spec := "fnExactHex", apart := false, narrowed := true }
def FnExactHexUptoSaid : Prop := fnExactHexUptoRow.holds Try.pinned (OpenSpec.upto fnExactHexSpec)

/-- 'laws.FnExactBitOf', WHERE WHAT IT READS IS OF BULK AT MOST 1048576: true; the input reads as it did. -/
def fnExactBitOfUptoRow : OpenClaim := { program := "ytbkcchpcadlkdaa", sum := "6896b958d77e3c207b68daeef6151c1fe42b7d344b1a5ced328d8a37686447e3", func := "loop.example/g00970/laws.FnExactBitOf", spec := "fnExactBitOf", apart := false, narrowed := true }
def FnExactBitOfUptoSaid : Prop := fnExactBitOfUptoRow.holds Try.pinned (OpenSpec.upto fnExactBitOfSpec)

/-- 'laws.FnExactUnhex', WHERE WHAT IT READS IS OF BULK AT MOST 1048576: true; the input reads as it did. -/
def fnExactUnhexUptoRow : OpenClaim := { program := "ytbkcchpcadlkdaa", sum := "6896b958d77e3c207b68daeef6151c1fe42b7d344b1a5ced328d8a37686447e3", func := "loop.example/g00970/laws.FnExactUnhex", spec := "fnExactUnhex", inPlace := ["internal/bytealg.IndexByteString"], apart := false, narrowed := true }
def FnExactUnhexUptoSaid : Prop := fnExactUnhexUptoRow.holds Try.pinned (OpenSpec.upto fnExactUnhexSpec)

/-- 'laws.FnExactGreatOf', WHERE WHAT IT READS IS OF BULK AT MOST 1048576: true; the input reads as it did. -/
def fnExactGreatOfUptoRow : OpenClaim := { program := "ytbkcchpcadlkdaa", sum := "6896b958d77e3c207b68daeef6151c1fe42b7d344b1a5ced328d8a37686447e3", func := "loop.example/g00970/laws.FnExactGreatOf", spec := "fnExactGreatOf", apart := false, narrowed := true }
def FnExactGreatOfUptoSaid : Prop := fnExactGreatOfUptoRow.holds Try.pinned (OpenSpec.upto fnExactGreatOfSpec)

/-- 'laws.FnExactBitsOf', WHERE WHAT IT READS IS OF BULK AT MOST 1048576: true; the input reads as it did. -/
def fnExactBitsOfUptoRow : OpenClaim := { program := "ytbkcchpcadlkdaa", sum := "6896b958d77e3c207b68daeef6151c1fe42b7d344b1a5ced328d8a37686447e3", func := "loop.example/g00970/laws.FnExactBitsOf", spec := "fnExactBitsOf", apart := false, narrowed := true }
def FnExactBitsOfUptoSaid : Prop := fnExactBitsOfUptoRow.holds Try.pinned (OpenSpec.upto fnExactBitsOfSpec)

/-- 'laws.FnExactGreatInt', WHERE WHAT IT READS IS OF BULK AT MOST 1048576: true; the input reads as it did. -/
def fnExactGreatIntUptoRow : OpenClaim := { program := "ytbkcchpcadlkdaa", sum := "6896b958d77e3c207b68daeef6151c1fe42b7d344b1a5ced328d8a37686447e3", func := "loop.example/g00970/laws.FnExactGreatInt", spec := "fnExactGreatInt", apart := false, narrowed := true }
def FnExactGreatIntUptoSaid : Prop := fnExactGreatIntUptoRow.holds Try.pinned (OpenSpec.upto fnExactGreatIntSpec)

/-- 'laws.FnExactLowInverse', WHERE WHAT IT READS IS OF BULK AT MOST 1048576: true; the input reads as it did. -/
def fnExactLowInverseUptoRow : OpenClaim := { program := "ytbkcchpcadlkdaa", sum := "6896b958d77e3c207b68daeef6151c1fe42b7d344b1a5ced328d8a37686447e3", func := "loop.example/g00970/laws.FnExactLowInverse", spec := "fnExactLowInverse", apart := false, narrowed := true }
def FnExactLowInverseUptoSaid : Prop := fnExactLowInverseUptoRow.holds Try.pinned (OpenSpec.upto fnExactLowInverseSpec)

end Rows
end Go.Proofs.Ytbkcchpcadlkdaa
