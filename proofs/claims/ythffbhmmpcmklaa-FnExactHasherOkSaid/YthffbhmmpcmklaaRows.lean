/-
  No cell of these rows narrows 'for every input' (looked for: loops, veiled, ifaces, maps, wideKeys, modest, calm, conditions, laid).
  DERIVED. THE GIVEN ROWS OF THIS SEAT. 12 by the template 'for every input the law returns true; each argument reads behind the call as it read before'; 0 by the template 'total and deterministic' (their statements: YthffbhmmpcmklaaTotals.lean).
  GIVEN WITH THE SEED: the statements are not yours to turn. If you find one false, say at which input.
  Laid BY PROGRAM, IN A SANDBOX (cutbox-rows.mjs): the forced cells as the released guide's own fill.sh prints them over the translation 779dd884db2303fd… (all of the seat's roots in one cut). By AI agents, Wed Nov 11 2026. No macro, syntax, notation, axiom, sorry.
-/
import Derived.Test.YthffbhmmpcmklaaChecked
import GoSem.Claim
import GoSem.ClaimJoined
import GoSem.ClaimMapViews
import Derived.JoinedTies
import Derived.KernelRfl
namespace Go.Proofs.Ythffbhmmpcmklaa
/- THE CELL 'sum', in the pinned program and in every row, IS THE sha256 OF THE DUMP (.gsa) THAT YthffbhmmpcmklaaProg.lean LOADS. Nothing in Lean hashes anything: it is a label: what it is worth is what the hold of that sum in a sandbox is worth. -/
noncomputable def Try.pinned : Pinned := { name := "ythffbhmmpcmklaa", sum := "779dd884db2303fd1be2af4661285f5f01a67326e72a43271887c1c78837c809", checked := Try.checked }
namespace Rows
def none {H : Type} : Left H := { results := [], args := [] }

/-- 'laws.FnExactConstants': WHATEVER THE INPUT: true; the input reads as it did. -/
def fnExactConstantsSpec : ChangeSpec := { name := "fnExactConstants", fn := fun _ => fun
  | [] => { results := [.lit (.bool true)], args := [] }
  | _ => none }
def fnExactConstantsRow : OpenClaim := { program := "ythffbhmmpcmklaa", sum := "779dd884db2303fd1be2af4661285f5f01a67326e72a43271887c1c78837c809", func := "loop.example/g00193/laws.FnExactConstants", spec := "fnExactConstants", apart := false }
def FnExactConstantsSaid : Prop := fnExactConstantsRow.holds Try.pinned (OpenSpec.ofChange fnExactConstantsSpec)

/-- ITS FALSE NEIGHBOUR: 'it returns false'. Refute it at one input. -/
def fnExactConstantsWrong : ChangeSpec := { name := "fnExactConstants", fn := fun _ => fun
  | [] => { results := [.lit (.bool false)], args := [] }
  | _ => none }
def FnExactConstantsWrongFalsely : Prop := fnExactConstantsRow.holds Try.pinned (OpenSpec.ofChange fnExactConstantsWrong)

/-- 'laws.FnExactSameMac': WHATEVER THE INPUT: true; the input reads as it did. -/
def fnExactSameMacSpec : ChangeSpec := { name := "fnExactSameMac", fn := fun _ => fun
  | [d1, d2] => { results := [.lit (.bool true)], args := [d1, d2] }
  | _ => none }
def fnExactSameMacRow : OpenClaim := { program := "ythffbhmmpcmklaa", sum := "779dd884db2303fd1be2af4661285f5f01a67326e72a43271887c1c78837c809", func := "loop.example/g00193/laws.FnExactSameMac", spec := "fnExactSameMac", apart := false }
def FnExactSameMacSaid : Prop := fnExactSameMacRow.holds Try.pinned (OpenSpec.ofChange fnExactSameMacSpec)

/-- ITS FALSE NEIGHBOUR: 'it returns false'. Refute it at one input. -/
def fnExactSameMacWrong : ChangeSpec := { name := "fnExactSameMac", fn := fun _ => fun
  | [d1, d2] => { results := [.lit (.bool false)], args := [d1, d2] }
  | _ => none }
def FnExactSameMacWrongFalsely : Prop := fnExactSameMacRow.holds Try.pinned (OpenSpec.ofChange fnExactSameMacWrong)

/-- 'laws.FnExactAddrOk': WHATEVER THE INPUT: true; the input reads as it did. -/
def fnExactAddrOkSpec : ChangeSpec := { name := "fnExactAddrOk", fn := fun _ => fun
  | [d] => { results := [.lit (.bool true)], args := [d] }
  | _ => none }
def fnExactAddrOkRow : OpenClaim := { program := "ythffbhmmpcmklaa", sum := "779dd884db2303fd1be2af4661285f5f01a67326e72a43271887c1c78837c809", func := "loop.example/g00193/laws.FnExactAddrOk", spec := "fnExactAddrOk", apart := false }
def FnExactAddrOkSaid : Prop := fnExactAddrOkRow.holds Try.pinned (OpenSpec.ofChange fnExactAddrOkSpec)

/-- ITS FALSE NEIGHBOUR: 'it returns false'. Refute it at one input. -/
def fnExactAddrOkWrong : ChangeSpec := { name := "fnExactAddrOk", fn := fun _ => fun
  | [d] => { results := [.lit (.bool false)], args := [d] }
  | _ => none }
def FnExactAddrOkWrongFalsely : Prop := fnExactAddrOkRow.holds Try.pinned (OpenSpec.ofChange fnExactAddrOkWrong)

/-- 'laws.FnExactMulP': WHATEVER THE INPUT: true; the input reads as it did. -/
def fnExactMulPSpec : ChangeSpec := { name := "fnExactMulP", fn := fun _ => fun
  | [d1, d2] => { results := [.lit (.bool true)], args := [d1, d2] }
  | _ => none }
def fnExactMulPRow : OpenClaim := { program := "ythffbhmmpcmklaa", sum := "779dd884db2303fd1be2af4661285f5f01a67326e72a43271887c1c78837c809", func := "loop.example/g00193/laws.FnExactMulP", spec := "fnExactMulP", apart := false }
def FnExactMulPSaid : Prop := fnExactMulPRow.holds Try.pinned (OpenSpec.ofChange fnExactMulPSpec)

/-- ITS FALSE NEIGHBOUR: 'it returns false'. Refute it at one input. -/
def fnExactMulPWrong : ChangeSpec := { name := "fnExactMulP", fn := fun _ => fun
  | [d1, d2] => { results := [.lit (.bool false)], args := [d1, d2] }
  | _ => none }
def FnExactMulPWrongFalsely : Prop := fnExactMulPRow.holds Try.pinned (OpenSpec.ofChange fnExactMulPWrong)

/-- 'laws.FnExactReadNumber': WHATEVER THE INPUT: true; the input reads as it did. -/
def fnExactReadNumberSpec : ChangeSpec := { name := "fnExactReadNumber", fn := fun _ => fun
  | [d] => { results := [.lit (.bool true)], args := [d] }
  | _ => none }
def fnExactReadNumberRow : OpenClaim := { program := "ythffbhmmpcmklaa", sum := "779dd884db2303fd1be2af4661285f5f01a67326e72a43271887c1c78837c809", func := "loop.example/g00193/laws.FnExactReadNumber", spec := "fnExactReadNumber", apart := false }
def FnExactReadNumberSaid : Prop := fnExactReadNumberRow.holds Try.pinned (OpenSpec.ofChange fnExactReadNumberSpec)

/-- ITS FALSE NEIGHBOUR: 'it returns false'. Refute it at one input. -/
def fnExactReadNumberWrong : ChangeSpec := { name := "fnExactReadNumber", fn := fun _ => fun
  | [d] => { results := [.lit (.bool false)], args := [d] }
  | _ => none }
def FnExactReadNumberWrongFalsely : Prop := fnExactReadNumberRow.holds Try.pinned (OpenSpec.ofChange fnExactReadNumberWrong)

/-- 'laws.FnExactNumberText': WHATEVER THE INPUT: true; the input reads as it did. -/
def fnExactNumberTextSpec : ChangeSpec := { name := "fnExactNumberText", fn := fun _ => fun
  | [d] => { results := [.lit (.bool true)], args := [d] }
  | _ => none }
def fnExactNumberTextRow : OpenClaim := { program := "ythffbhmmpcmklaa", sum := "779dd884db2303fd1be2af4661285f5f01a67326e72a43271887c1c78837c809", func := "loop.example/g00193/laws.FnExactNumberText", spec := "fnExactNumberText", apart := false }
def FnExactNumberTextSaid : Prop := fnExactNumberTextRow.holds Try.pinned (OpenSpec.ofChange fnExactNumberTextSpec)

/-- ITS FALSE NEIGHBOUR: 'it returns false'. Refute it at one input. -/
def fnExactNumberTextWrong : ChangeSpec := { name := "fnExactNumberText", fn := fun _ => fun
  | [d] => { results := [.lit (.bool false)], args := [d] }
  | _ => none }
def FnExactNumberTextWrongFalsely : Prop := fnExactNumberTextRow.holds Try.pinned (OpenSpec.ofChange fnExactNumberTextWrong)

/-- 'laws.FnExactPrefixOk': WHATEVER THE INPUT: true; the input reads as it did. -/
def fnExactPrefixOkSpec : ChangeSpec := { name := "fnExactPrefixOk", fn := fun _ => fun
  | [d] => { results := [.lit (.bool true)], args := [d] }
  | _ => none }
def fnExactPrefixOkRow : OpenClaim := { program := "ythffbhmmpcmklaa", sum := "779dd884db2303fd1be2af4661285f5f01a67326e72a43271887c1c78837c809", func := "loop.example/g00193/laws.FnExactPrefixOk", spec := "fnExactPrefixOk", apart := false }
def FnExactPrefixOkSaid : Prop := fnExactPrefixOkRow.holds Try.pinned (OpenSpec.ofChange fnExactPrefixOkSpec)

/-- ITS FALSE NEIGHBOUR: 'it returns false'. Refute it at one input. -/
def fnExactPrefixOkWrong : ChangeSpec := { name := "fnExactPrefixOk", fn := fun _ => fun
  | [d] => { results := [.lit (.bool false)], args := [d] }
  | _ => none }
def FnExactPrefixOkWrongFalsely : Prop := fnExactPrefixOkRow.holds Try.pinned (OpenSpec.ofChange fnExactPrefixOkWrong)

/-- 'laws.FnExactSumMore': WHATEVER THE INPUT: true; the input reads as it did. -/
def fnExactSumMoreSpec : ChangeSpec := { name := "fnExactSumMore", fn := fun _ => fun
  | [d1, d2] => { results := [.lit (.bool true)], args := [d1, d2] }
  | _ => none }
def fnExactSumMoreRow : OpenClaim := { program := "ythffbhmmpcmklaa", sum := "779dd884db2303fd1be2af4661285f5f01a67326e72a43271887c1c78837c809", func := "loop.example/g00193/laws.FnExactSumMore", spec := "fnExactSumMore", apart := false }
def FnExactSumMoreSaid : Prop := fnExactSumMoreRow.holds Try.pinned (OpenSpec.ofChange fnExactSumMoreSpec)

/-- ITS FALSE NEIGHBOUR: 'it returns false'. Refute it at one input. -/
def fnExactSumMoreWrong : ChangeSpec := { name := "fnExactSumMore", fn := fun _ => fun
  | [d1, d2] => { results := [.lit (.bool false)], args := [d1, d2] }
  | _ => none }
def FnExactSumMoreWrongFalsely : Prop := fnExactSumMoreRow.holds Try.pinned (OpenSpec.ofChange fnExactSumMoreWrong)

/-- 'laws.FnExactHex': WHATEVER THE INPUT: true; the input reads as it did. -/
def fnExactHexSpec : ChangeSpec := { name := "fnExactHex", fn := fun _ => fun
  | [d] => { results := [.lit (.bool true)], args := [d] }
  | _ => none }
def fnExactHexRow : OpenClaim := { program := "ythffbhmmpcmklaa", sum := "779dd884db2303fd1be2af4661285f5f01a67326e72a43271887c1c78837c809", func := "loop.example/g00193/laws.FnExactHex", spec := "fnExactHex", apart := false }
def FnExactHexSaid : Prop := fnExactHexRow.holds Try.pinned (OpenSpec.ofChange fnExactHexSpec)

/-- ITS FALSE NEIGHBOUR: 'it returns false'. Refute it at one input. -/
def fnExactHexWrong : ChangeSpec := { name := "fnExactHex", fn := fun _ => fun
  | [d] => { results := [.lit (.bool false)], args := [d] }
  | _ => none }
def FnExactHexWrongFalsely : Prop := fnExactHexRow.holds Try.pinned (OpenSpec.ofChange fnExactHexWrong)

/-- 'laws.FnExactHasherOk': WHATEVER THE INPUT: true; the input reads as it did. -/
def fnExactHasherOkSpec : ChangeSpec := { name := "fnExactHasherOk", fn := fun _ => fun
  | [d] => { results := [.lit (.bool true)], args := [d] }
  | _ => none }
def fnExactHasherOkRow : OpenClaim := { program := "ythffbhmmpcmklaa", sum := "779dd884db2303fd1be2af4661285f5f01a67326e72a43271887c1c78837c809", func := "loop.example/g00193/laws.FnExactHasherOk", spec := "fnExactHasherOk", apart := false }
def FnExactHasherOkSaid : Prop := fnExactHasherOkRow.holds Try.pinned (OpenSpec.ofChange fnExactHasherOkSpec)

/-- ITS FALSE NEIGHBOUR: 'it returns false'. Refute it at one input. -/
def fnExactHasherOkWrong : ChangeSpec := { name := "fnExactHasherOk", fn := fun _ => fun
  | [d] => { results := [.lit (.bool false)], args := [d] }
  | _ => none }
def FnExactHasherOkWrongFalsely : Prop := fnExactHasherOkRow.holds Try.pinned (OpenSpec.ofChange fnExactHasherOkWrong)

/-- 'laws.FnExactVarText': WHATEVER THE INPUT: true; the input reads as it did. -/
def fnExactVarTextSpec : ChangeSpec := { name := "fnExactVarText", fn := fun _ => fun
  | [d] => { results := [.lit (.bool true)], args := [d] }
  | _ => none }
def fnExactVarTextRow : OpenClaim := { program := "ythffbhmmpcmklaa", sum := "779dd884db2303fd1be2af4661285f5f01a67326e72a43271887c1c78837c809", func := "loop.example/g00193/laws.FnExactVarText", spec := "fnExactVarText", apart := false }
def FnExactVarTextSaid : Prop := fnExactVarTextRow.holds Try.pinned (OpenSpec.ofChange fnExactVarTextSpec)

/-- ITS FALSE NEIGHBOUR: 'it returns false'. Refute it at one input. -/
def fnExactVarTextWrong : ChangeSpec := { name := "fnExactVarText", fn := fun _ => fun
  | [d] => { results := [.lit (.bool false)], args := [d] }
  | _ => none }
def FnExactVarTextWrongFalsely : Prop := fnExactVarTextRow.holds Try.pinned (OpenSpec.ofChange fnExactVarTextWrong)

/-- 'laws.FnExactSumOf': WHATEVER THE INPUT: true; the input reads as it did. -/
def fnExactSumOfSpec : ChangeSpec := { name := "fnExactSumOf", fn := fun _ => fun
  | [d] => { results := [.lit (.bool true)], args := [d] }
  | _ => none }
def fnExactSumOfRow : OpenClaim := { program := "ythffbhmmpcmklaa", sum := "779dd884db2303fd1be2af4661285f5f01a67326e72a43271887c1c78837c809", func := "loop.example/g00193/laws.FnExactSumOf", spec := "fnExactSumOf", apart := false }
def FnExactSumOfSaid : Prop := fnExactSumOfRow.holds Try.pinned (OpenSpec.ofChange fnExactSumOfSpec)

/-- ITS FALSE NEIGHBOUR: 'it returns false'. Refute it at one input. -/
def fnExactSumOfWrong : ChangeSpec := { name := "fnExactSumOf", fn := fun _ => fun
  | [d] => { results := [.lit (.bool false)], args := [d] }
  | _ => none }
def FnExactSumOfWrongFalsely : Prop := fnExactSumOfRow.holds Try.pinned (OpenSpec.ofChange fnExactSumOfWrong)

/- THE SECOND FORM. 'bulk': how many values and letters a reading holds, each counted each time it is reached (what is shared counts as often as it is met; a slice's spare places count too). A statement '..UptoSaid' is the law's where the arguments, and the package variables that the reading takes, are together of bulk at most 1048576: NARROWER than '..Said'. Prove '..Said' where nothing that the law and all that it calls make is longer than what came in: it says more and counts as full. Else prove '..UptoSaid'. A law counts once. -/
mutual
def uptoBulk {H : Type} : DataW H → Nat
  | .lit (.string bytes) => bytes.length + 1
  | .lit _ => 1
  | .nil => 1
  | .ptr d => uptoBulk d + 1
  | .slice elems spare => uptoBulkAll elems + uptoBulkAll spare + 1
  | .agg parts => uptoBulkAll parts + 1
  | .iface _ d => uptoBulk d + 1
  | .map entries => uptoBulkEntries entries + 1
  | .held _ => 1
def uptoBulkAll {H : Type} : List (DataW H) → Nat
  | [] => 0
  | d :: r => uptoBulk d + uptoBulkAll r
def uptoBulkEntries {H : Type} : List (Lit × DataW H) → Nat
  | [] => 0
  | x :: r => uptoBulkEntry x + uptoBulkEntries r
def uptoBulkEntry {H : Type} : Lit × DataW H → Nat
  | (.string bytes, d) => bytes.length + uptoBulk d + 1
  | (_, d) => uptoBulk d + 1
 end
def uptoSmall : (H : Type) → List (DataW H) → Bool := fun _ ds => decide (uptoBulkAll ds ≤ 1048576)
def OpenSpec.upto (s : _root_.Go.ChangeSpec) : _root_.Go.OpenSpec := { _root_.Go.OpenSpec.ofChange s with cond := some uptoSmall }

/-- 'laws.FnExactConstants', WHERE WHAT IT READS IS OF BULK AT MOST 1048576: true; the input reads as it did. -/
def fnExactConstantsUptoRow : OpenClaim := { program := "ythffbhmmpcmklaa", sum := "779dd884db2303fd1be2af4661285f5f01a67326e72a43271887c1c78837c809", func := "loop.example/g00193/laws.FnExactConstants", spec := "fnExactConstants", apart := false, narrowed := true }
def FnExactConstantsUptoSaid : Prop := fnExactConstantsUptoRow.holds Try.pinned (OpenSpec.upto fnExactConstantsSpec)

/-- 'laws.FnExactSameMac', WHERE WHAT IT READS IS OF BULK AT MOST 1048576: true; the input reads as it did. -/
def fnExactSameMacUptoRow : OpenClaim := { program := "ythffbhmmpcmklaa", sum := "779dd884db2303fd1be2af4661285f5f01a67326e72a43271887c1c78837c809", func := "loop.example/g00193/laws.FnExactSameMac", spec := "fnExactSameMac", apart := false, narrowed := true }
def FnExactSameMacUptoSaid : Prop := fnExactSameMacUptoRow.holds Try.pinned (OpenSpec.upto fnExactSameMacSpec)

/-- 'laws.FnExactAddrOk', WHERE WHAT IT READS IS OF BULK AT MOST 1048576: true; the input reads as it did. -/
def fnExactAddrOkUptoRow : OpenClaim := { program := "ythffbhmmpcmklaa", sum := "779dd884db2303fd1be2af4661285f5f01a67326e72a43271887c1c78837c809", func := "loop.example/g00193/laws.FnExactAddrOk", spec := "fnExactAddrOk", apart := false, narrowed := true }
def FnExactAddrOkUptoSaid : Prop := fnExactAddrOkUptoRow.holds Try.pinned (OpenSpec.upto fnExactAddrOkSpec)

/-- 'laws.FnExactMulP', WHERE WHAT IT READS IS OF BULK AT MOST 1048576: true; the input reads as it did. -/
def fnExactMulPUptoRow : OpenClaim := { program := "ythffbhmmpcmklaa", sum := "779dd884db2303fd1be2af4661285f5f01a67326e72a43271887c1c78837c809", func := "loop.example/g00193/laws.FnExactMulP", spec := "fnExactMulP", apart := false, narrowed := true }
def FnExactMulPUptoSaid : Prop := fnExactMulPUptoRow.holds Try.pinned (OpenSpec.upto fnExactMulPSpec)

/-- 'laws.FnExactReadNumber', WHERE WHAT IT READS IS OF BULK AT MOST 1048576: true; the input reads as it did. -/
def fnExactReadNumberUptoRow : OpenClaim := { program := "ythffbhmmpcmklaa", sum := "779dd884db2303fd1be2af4661285f5f01a67326e72a43271887c1c78837c809", func := "loop.example/g00193/laws.FnExactReadNumber", spec := "fnExactReadNumber", apart := false, narrowed := true }
def FnExactReadNumberUptoSaid : Prop := fnExactReadNumberUptoRow.holds Try.pinned (OpenSpec.upto fnExactReadNumberSpec)

/-- 'laws.FnExactNumberText', WHERE WHAT IT READS IS OF BULK AT MOST 1048576: true; the input reads as it did. -/
def fnExactNumberTextUptoRow : OpenClaim := { program := "ythffbhmmpcmklaa", sum := "779dd884db2303fd1be2af4661285f5f01a67326e72a43271887c1c78837c809", func := "loop.example/g00193/laws.FnExactNumberText", spec := "fnExactNumberText", apart := false, narrowed := true }
def FnExactNumberTextUptoSaid : Prop := fnExactNumberTextUptoRow.holds Try.pinned (OpenSpec.upto fnExactNumberTextSpec)

/-- 'laws.FnExactPrefixOk', WHERE WHAT IT READS IS OF BULK AT MOST 1048576: true; the input reads as it did. -/
def fnExactPrefixOkUptoRow : OpenClaim := { program := "ythffbhmmpcmklaa", sum := "779dd884db2303fd1be2af4661285f5f01a67326e72a43271887c1c78837c809", func := "loop.example/g00193/laws.FnExactPrefixOk", spec := "fnExactPrefixOk", apart := false, narrowed := true }
def FnExactPrefixOkUptoSaid : Prop := fnExactPrefixOkUptoRow.holds Try.pinned (OpenSpec.upto fnExactPrefixOkSpec)

/-- 'laws.FnExactSumMore', WHERE WHAT IT READS IS OF BULK AT MOST 1048576: true; the input reads as it did. -/
def fnExactSumMoreUptoRow : OpenClaim := { program := "ythffbhmmpcmklaa", sum := "779dd884db2303fd1be2af4661285f5f01a67326e72a43271887c1c78837c809", func := "loop.example/g00193/laws.FnExactSumMore", spec := "fnExactSumMore", apart := false, narrowed := true }
def FnExactSumMoreUptoSaid : Prop := fnExactSumMoreUptoRow.holds Try.pinned (OpenSpec.upto fnExactSumMoreSpec)

/-- 'laws.FnExactHex', WHERE WHAT IT READS IS OF BULK AT MOST 1048576: true; the input reads as it did. -/
def fnExactHexUptoRow : OpenClaim := { program := "ythffbhmmpcmklaa", sum := "779dd884db2303fd1be2af4661285f5f01a67326e72a43271887c1c78837c809", func := "loop.example/g00193/laws.FnExactHex", spec := "fnExactHex", apart := false, narrowed := true }
def FnExactHexUptoSaid : Prop := fnExactHexUptoRow.holds Try.pinned (OpenSpec.upto fnExactHexSpec)

/-- 'laws.FnExactHasherOk', WHERE WHAT IT READS IS OF BULK AT MOST 1048576: true; the input reads as it did. -/
def fnExactHasherOkUptoRow : OpenClaim := { program := "ythffbhmmpcmklaa", sum := "779dd884db2303fd1be2af4661285f5f01a67326e72a43271887c1c78837c809", func := "loop.example/g00193/laws.FnExactHasherOk", spec := "fnExactHasherOk", apart := false, narrowed := true }
def FnExactHasherOkUptoSaid : Prop := fnExactHasherOkUptoRow.holds Try.pinned (OpenSpec.upto fnExactHasherOkSpec)

/-- 'laws.FnExactVarText', WHERE WHAT IT READS IS OF BULK AT MOST 1048576: true; the input reads as it did. -/
def fnExactVarTextUptoRow : OpenClaim := { program := "ythffbhmmpcmklaa", sum := "779dd884db2303fd1be2af4661285f5f01a67326e72a43271887c1c78837c809", func := "loop.example/g00193/laws.FnExactVarText", spec := "fnExactVarText", apart := false, narrowed := true }
def FnExactVarTextUptoSaid : Prop := fnExactVarTextUptoRow.holds Try.pinned (OpenSpec.upto fnExactVarTextSpec)

/-- 'laws.FnExactSumOf', WHERE WHAT IT READS IS OF BULK AT MOST 1048576: true; the input reads as it did. -/
def fnExactSumOfUptoRow : OpenClaim := { program := "ythffbhmmpcmklaa", sum := "779dd884db2303fd1be2af4661285f5f01a67326e72a43271887c1c78837c809", func := "loop.example/g00193/laws.FnExactSumOf", spec := "fnExactSumOf", apart := false, narrowed := true }
def FnExactSumOfUptoSaid : Prop := fnExactSumOfUptoRow.holds Try.pinned (OpenSpec.upto fnExactSumOfSpec)

end Rows
end Go.Proofs.Ythffbhmmpcmklaa
