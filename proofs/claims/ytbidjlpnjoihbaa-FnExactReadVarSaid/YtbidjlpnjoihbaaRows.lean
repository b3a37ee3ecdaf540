/-
  No cell of these rows narrows 'for every input' (looked for: loops, veiled, ifaces, maps, wideKeys, modest, calm, conditions, laid).
  DERIVED. THE GIVEN ROWS OF THIS SEAT. 10 by the template 'for every input the law returns true; each argument reads behind the call as it read before'; 0 by the template 'total and deterministic' (their statements: YtbidjlpnjoihbaaTotals.lean).
  GIVEN WITH THE SEED: the statements are not yours to turn. If you find one false, say at which input.
  Laid BY PROGRAM, IN A SANDBOX (cutbox-rows.mjs): the forced cells as the released guide's own fill.sh prints them over the translation 790b504c41df2211… (all of the seat's roots in one cut). By AI agents, Wed Nov 11 2026. No macro, syntax, notation, axiom, sorry.
-/
import Derived.Test.YtbidjlpnjoihbaaChecked
import GoSem.Claim
import GoSem.ClaimJoined
import GoSem.ClaimMapViews
import Derived.JoinedTies
import Derived.KernelRfl
namespace Go.Proofs.Ytbidjlpnjoihbaa
/- THE CELL 'sum', in the pinned program and in every row, IS THE sha256 OF THE DUMP (.gsa) THAT YtbidjlpnjoihbaaProg.lean LOADS. Nothing in Lean hashes anything: it is a label: what it is worth is what the hold of that sum in a sandbox is worth. -/
noncomputable def Try.pinned : Pinned := { name := "ytbidjlpnjoihbaa", sum := "790b504c41df2211449802f78da440879005314a264104cfc5106964e73a6776", checked := Try.checked }
namespace Rows
def none {H : Type} : Left H := { results := [], args := [] }

/-- 'laws.FnChecks': WHATEVER THE INPUT: true; the input reads as it did. -/
def fnChecksSpec : ChangeSpec := { name := "fnChecks", fn := fun _ => fun
  | [d] => { results := [.lit (.bool true)], args := [d] }
  | _ => none }
def fnChecksRow : OpenClaim := { program := "ytbidjlpnjoihbaa", sum := "790b504c41df2211449802f78da440879005314a264104cfc5106964e73a6776", func := "loop.example/g00193/laws.FnChecks", spec := "fnChecks", inPlace := ["internal/abi.NoEscape", "internal/bytealg.MakeNoZero"], apart := false }
def FnChecksSaid : Prop := fnChecksRow.holds Try.pinned (OpenSpec.ofChange fnChecksSpec)

/-- ITS FALSE NEIGHBOUR: 'it returns false'. Refute it at one input. -/
def fnChecksWrong : ChangeSpec := { name := "fnChecks", fn := fun _ => fun
  | [d] => { results := [.lit (.bool false)], args := [d] }
  | _ => none }
def FnChecksWrongFalsely : Prop := fnChecksRow.holds Try.pinned (OpenSpec.ofChange fnChecksWrong)

/-- 'laws.FnExactInPrefix': WHATEVER THE INPUT: true; the input reads as it did. -/
def fnExactInPrefixSpec : ChangeSpec := { name := "fnExactInPrefix", fn := fun _ => fun
  | [d1, d2] => { results := [.lit (.bool true)], args := [d1, d2] }
  | _ => none }
def fnExactInPrefixRow : OpenClaim := { program := "ytbidjlpnjoihbaa", sum := "790b504c41df2211449802f78da440879005314a264104cfc5106964e73a6776", func := "loop.example/g00193/laws.FnExactInPrefix", spec := "fnExactInPrefix", apart := false }
def FnExactInPrefixSaid : Prop := fnExactInPrefixRow.holds Try.pinned (OpenSpec.ofChange fnExactInPrefixSpec)

/-- ITS FALSE NEIGHBOUR: 'it returns false'. Refute it at one input. -/
def fnExactInPrefixWrong : ChangeSpec := { name := "fnExactInPrefix", fn := fun _ => fun
  | [d1, d2] => { results := [.lit (.bool false)], args := [d1, d2] }
  | _ => none }
def FnExactInPrefixWrongFalsely : Prop := fnExactInPrefixRow.holds Try.pinned (OpenSpec.ofChange fnExactInPrefixWrong)

/-- 'laws.FnExactShortText': WHATEVER THE INPUT: true; the input reads as it did. -/
def fnExactShortTextSpec : ChangeSpec := { name := "fnExactShortText", fn := fun _ => fun
  | [d] => { results := [.lit (.bool true)], args := [d] }
  | _ => none }
def fnExactShortTextRow : OpenClaim := { program := "ytbidjlpnjoihbaa", sum := "790b504c41df2211449802f78da440879005314a264104cfc5106964e73a6776", func := "loop.example/g00193/laws.FnExactShortText", spec := "fnExactShortText", apart := false }
def FnExactShortTextSaid : Prop := fnExactShortTextRow.holds Try.pinned (OpenSpec.ofChange fnExactShortTextSpec)

/-- ITS FALSE NEIGHBOUR: 'it returns false'. Refute it at one input. -/
def fnExactShortTextWrong : ChangeSpec := { name := "fnExactShortText", fn := fun _ => fun
  | [d] => { results := [.lit (.bool false)], args := [d] }
  | _ => none }
def FnExactShortTextWrongFalsely : Prop := fnExactShortTextRow.holds Try.pinned (OpenSpec.ofChange fnExactShortTextWrong)

/-- 'laws.FnExactSigText': WHATEVER THE INPUT: true; the input reads as it did. -/
def fnExactSigTextSpec : ChangeSpec := { name := "fnExactSigText", fn := fun _ => fun
  | [d] => { results := [.lit (.bool true)], args := [d] }
  | _ => none }
def fnExactSigTextRow : OpenClaim := { program := "ytbidjlpnjoihbaa", sum := "790b504c41df2211449802f78da440879005314a264104cfc5106964e73a6776", func := "loop.example/g00193/laws.FnExactSigText", spec := "fnExactSigText", apart := false }
def FnExactSigTextSaid : Prop := fnExactSigTextRow.holds Try.pinned (OpenSpec.ofChange fnExactSigTextSpec)

/-- ITS FALSE NEIGHBOUR: 'it returns false'. Refute it at one input. -/
def fnExactSigTextWrong : ChangeSpec := { name := "fnExactSigText", fn := fun _ => fun
  | [d] => { results := [.lit (.bool false)], args := [d] }
  | _ => none }
def FnExactSigTextWrongFalsely : Prop := fnExactSigTextRow.holds Try.pinned (OpenSpec.ofChange fnExactSigTextWrong)

/-- 'laws.FnExactPrefixOf': WHATEVER THE INPUT: true; the input reads as it did. -/
def fnExactPrefixOfSpec : ChangeSpec := { name := "fnExactPrefixOf", fn := fun _ => fun
  | [d1, d2] => { results := [.lit (.bool true)], args := [d1, d2] }
  | _ => none }
def fnExactPrefixOfRow : OpenClaim := { program := "ytbidjlpnjoihbaa", sum := "790b504c41df2211449802f78da440879005314a264104cfc5106964e73a6776", func := "loop.example/g00193/laws.FnExactPrefixOf", spec := "fnExactPrefixOf", apart := false }
def FnExactPrefixOfSaid : Prop := fnExactPrefixOfRow.holds Try.pinned (OpenSpec.ofChange fnExactPrefixOfSpec)

/-- ITS FALSE NEIGHBOUR: 'it returns false'. Refute it at one input. -/
def fnExactPrefixOfWrong : ChangeSpec := { name := "fnExactPrefixOf", fn := fun _ => fun
  | [d1, d2] => { results := [.lit (.bool false)], args := [d1, d2] }
  | _ => none }
def FnExactPrefixOfWrongFalsely : Prop := fnExactPrefixOfRow.holds Try.pinned (OpenSpec.ofChange fnExactPrefixOfWrong)

/-- 'laws.FnExactPowP': WHATEVER THE INPUT: true; the input reads as it did. -/
def fnExactPowPSpec : ChangeSpec := { name := "fnExactPowP", fn := fun _ => fun
  | [d1, d2] => { results := [.lit (.bool true)], args := [d1, d2] }
  | _ => none }
def fnExactPowPRow : OpenClaim := { program := "ytbidjlpnjoihbaa", sum := "790b504c41df2211449802f78da440879005314a264104cfc5106964e73a6776", func := "loop.example/g00193/laws.FnExactPowP", spec := "fnExactPowP", apart := false }
def FnExactPowPSaid : Prop := fnExactPowPRow.holds Try.pinned (OpenSpec.ofChange fnExactPowPSpec)

/-- ITS FALSE NEIGHBOUR: 'it returns false'. Refute it at one input. -/
def fnExactPowPWrong : ChangeSpec := { name := "fnExactPowP", fn := fun _ => fun
  | [d1, d2] => { results := [.lit (.bool false)], args := [d1, d2] }
  | _ => none }
def FnExactPowPWrongFalsely : Prop := fnExactPowPRow.holds Try.pinned (OpenSpec.ofChange fnExactPowPWrong)

/-- 'laws.FnExactInGroup': WHATEVER THE INPUT: true; the input reads as it did. -/
def fnExactInGroupSpec : ChangeSpec := { name := "fnExactInGroup", fn := fun _ => fun
  | [d] => { results := [.lit (.bool true)], args := [d] }
  | _ => none }
def fnExactInGroupRow : OpenClaim := { program := "ytbidjlpnjoihbaa", sum := "790b504c41df2211449802f78da440879005314a264104cfc5106964e73a6776", func := "loop.example/g00193/laws.FnExactInGroup", spec := "fnExactInGroup", apart := false }
def FnExactInGroupSaid : Prop := fnExactInGroupRow.holds Try.pinned (OpenSpec.ofChange fnExactInGroupSpec)

/-- ITS FALSE NEIGHBOUR: 'it returns false'. Refute it at one input. -/
def fnExactInGroupWrong : ChangeSpec := { name := "fnExactInGroup", fn := fun _ => fun
  | [d] => { results := [.lit (.bool false)], args := [d] }
  | _ => none }
def FnExactInGroupWrongFalsely : Prop := fnExactInGroupRow.holds Try.pinned (OpenSpec.ofChange fnExactInGroupWrong)

/-- 'laws.FnExactHasherNew': WHATEVER THE INPUT: true; the input reads as it did. -/
def fnExactHasherNewSpec : ChangeSpec := { name := "fnExactHasherNew", fn := fun _ => fun
  | [] => { results := [.lit (.bool true)], args := [] }
  | _ => none }
def fnExactHasherNewRow : OpenClaim := { program := "ytbidjlpnjoihbaa", sum := "790b504c41df2211449802f78da440879005314a264104cfc5106964e73a6776", func := "loop.example/g00193/laws.FnExactHasherNew", spec := "fnExactHasherNew", apart := false }
def FnExactHasherNewSaid : Prop := fnExactHasherNewRow.holds Try.pinned (OpenSpec.ofChange fnExactHasherNewSpec)

/-- ITS FALSE NEIGHBOUR: 'it returns false'. Refute it at one input. -/
def fnExactHasherNewWrong : ChangeSpec := { name := "fnExactHasherNew", fn := fun _ => fun
  | [] => { results := [.lit (.bool false)], args := [] }
  | _ => none }
def FnExactHasherNewWrongFalsely : Prop := fnExactHasherNewRow.holds Try.pinned (OpenSpec.ofChange fnExactHasherNewWrong)

/-- 'laws.FnExactUnhex': WHATEVER THE INPUT: true; the input reads as it did. -/
def fnExactUnhexSpec : ChangeSpec := { name := "fnExactUnhex", fn := fun _ => fun
  | [d] => { results := [.lit (.bool true)], args := [d] }
  | _ => none }
def fnExactUnhexRow : OpenClaim := { program := "ytbidjlpnjoihbaa", sum := "790b504c41df2211449802f78da440879005314a264104cfc5106964e73a6776", func := "loop.example/g00193/laws.FnExactUnhex", spec := "fnExactUnhex", inPlace := ["internal/bytealg.IndexByteString"], apart := false }
def FnExactUnhexSaid : Prop := fnExactUnhexRow.holds Try.pinned (OpenSpec.ofChange fnExactUnhexSpec)

/-- ITS FALSE NEIGHBOUR: 'it returns false'. Refute it at one input. -/
def fnExactUnhexWrong : ChangeSpec := { name := "fnExactUnhex", fn := fun _ => fun
  | [d] => { results := [.lit (.bool false)], args := [d] }
  | _ => none }
def FnExactUnhexWrongFalsely : Prop := fnExactUnhexRow.holds Try.pinned (OpenSpec.ofChange fnExactUnhexWrong)

/-- 'laws.FnExactReadVar': WHATEVER THE INPUT: true; the input reads as it did. -/
def fnExactReadVarSpec : ChangeSpec := { name := "fnExactReadVar", fn := fun _ => fun
  | [d1, d2] => { results := [.lit (.bool true)], args := [d1, d2] }
  | _ => none }
def fnExactReadVarRow : OpenClaim := { program := "ytbidjlpnjoihbaa", sum := "790b504c41df2211449802f78da440879005314a264104cfc5106964e73a6776", func := "loop.example/g00193/laws.FnExactReadVar", spec := "fnExactReadVar", apart := false }
def FnExactReadVarSaid : Prop := fnExactReadVarRow.holds Try.pinned (OpenSpec.ofChange fnExactReadVarSpec)

/-- ITS FALSE NEIGHBOUR: 'it returns false'. Refute it at one input. -/
def fnExactReadVarWrong : ChangeSpec := { name := "fnExactReadVar", fn := fun _ => fun
  | [d1, d2] => { results := [.lit (.bool false)], args := [d1, d2] }
  | _ => none }
def FnExactReadVarWrongFalsely : Prop := fnExactReadVarRow.holds Try.pinned (OpenSpec.ofChange fnExactReadVarWrong)

/- THE SECOND FORM. 'bulk': how many values and letters a reading holds, each counted each time it is reached (what is shared counts as often as it is met; a slice's spare places count too). A statement '..UptoSaid' is the law's where the arguments, and the package variables that the reading takes, are together of bulk at most 1048576: NARROWER than '..Said'. Prove '..Said' where nothing that the law and all that it calls make is longer than what came in: it says more and counts as full. Else prove '..UptoSaid'. A law counts once. -/
mutual
def uptoBulk {H : Type} : DataW H → Nat
  | .lit (.string bytes) => bytes.length + 1
  | .lit _ => 1
  | .nil => 1
  | .ptr d => uptoBulk d + 1
  | .slice elems spare => uptoBulkAll elems + uptoBulkAll spare + 1
  | .agg parts => uptoBulkAll parts + 1
  | .iface _ d => uptoBulk d + 1
  | .map entries => uptoBulkEntries entries + 1
  | .held _ => 1
def uptoBulkAll {H : Type} : List (DataW H) → Nat
  | [] => 0
  | d :: r => uptoBulk d + uptoBulkAll r
def uptoBulkEntries {H : Type} : List (Lit × DataW H) → Nat
  | [] => 0
  | x :: r => uptoBulkEntry x + uptoBulkEntries r
def uptoBulkEntry {H : Type} : Lit × DataW H → Nat
  | (.string bytes, d) => bytes.length + uptoBulk d + 1
  | (_, d) => uptoBulk d + 1
 end
def uptoSmall : (H : Type) → List (DataW H) → Bool := fun _ ds => decide (uptoBulkAll ds ≤ 1048576)
def OpenSpec.upto (s : _root_.Go.ChangeSpec) : _root_.Go.OpenSpec := { _root_.Go.OpenSpec.ofChange s with cond := some uptoSmall }

/-- 'laws.FnChecks', WHERE WHAT IT READS IS OF BULK AT MOST 1048576: true; the input reads as it did. -/
def fnChecksUptoRow : OpenClaim := { program := "ytbidjlpnjoihbaa", sum := "790b504c41df2211449802f78da440879005314a264104cfc5106964e73a6776", func := "loop.example/g00193/laws.FnChecks", spec := "fnChecks", inPlace := ["internal/abi.NoEscape", "internal/bytealg.MakeNoZero"], apart := false, narrowed := true }
def FnChecksUptoSaid : Prop := fnChecksUptoRow.holds Try.pinned (OpenSpec.upto fnChecksSpec)

/-- 'laws.FnExactInPrefix', WHERE WHAT IT READS IS OF BULK AT MOST 1048576: true; the input reads as it did. -/
def fnExactInPrefixUptoRow : OpenClaim := { program := "ytbidjlpnjoihbaa", sum := "790b504c41df2211449802f78da440879005314a264104cfc5106964e73a6776", func := "loop.example/g00193/laws.FnExactInPrefix", spec := "fnExactInPrefix", apart := false, narrowed := true }
def FnExactInPrefixUptoSaid : Prop := fnExactInPrefixUptoRow.holds Try.pinned (OpenSpec.upto fnExactInPrefixSpec)

/-- 'laws.FnExactShortText', WHERE WHAT IT READS IS OF BULK AT MOST 1048576: true; the input reads as it did. -/
def fnExactShortTextUptoRow : OpenClaim := { program := "ytbidjlpnjoihbaa", sum := "790b504c41df2211449802f78da440879005314a264104cfc5106964e73a6776", func := "loop.example/g00193/laws.FnExactShortText", spec := "fnExactShortText", apart := false, narrowed := true }
def FnExactShortTextUptoSaid : Prop := fnExactShortTextUptoRow.holds Try.pinned (OpenSpec.upto fnExactShortTextSpec)

/-- 'laws.FnExactSigText', WHERE WHAT IT READS IS OF BULK AT MOST 1048576: true; the input reads as it did. -/
def fnExactSigTextUptoRow : OpenClaim := { program := "ytbidjlpnjoihbaa", sum := "790b504c41df2211449802f78da440879005314a264104cfc5106964e73a6776", func := "loop.example/g00193/laws.FnExactSigText", spec := "fnExactSigText", apart := false, narrowed := true }
def FnExactSigTextUptoSaid : Prop := fnExactSigTextUptoRow.holds Try.pinned (OpenSpec.upto fnExactSigTextSpec)

/-- 'laws.FnExactPrefixOf', WHERE WHAT IT READS IS OF BULK AT MOST 1048576: true; the input reads as it did. -/
def fnExactPrefixOfUptoRow : OpenClaim := { program := "ytbidjlpnjoihbaa", sum := "790b504c41df2211449802f78da440879005314a264104cfc5106964e73a6776", func := "loop.example/g00193/laws.FnExactPrefixOf", spec := "fnExactPrefixOf", apart := false, narrowed := true }
def FnExactPrefixOfUptoSaid : Prop := fnExactPrefixOfUptoRow.holds Try.pinned (OpenSpec.upto fnExactPrefixOfSpec)

/-- 'laws.FnExactPowP', WHERE WHAT IT READS IS OF BULK AT MOST 1048576: true; the input reads as it did. -/
def fnExactPowPUptoRow : OpenClaim := { program := "ytbidjlpnjoihbaa", sum := "790b504c41df2211449802f78da440879005314a264104cfc5106964e73a6776", func := "loop.example/g00193/laws.FnExactPowP", spec := "fnExactPowP", apart := false, narrowed := true }
def FnExactPowPUptoSaid : Prop := fnExactPowPUptoRow.holds Try.pinned (OpenSpec.upto fnExactPowPSpec)

/-- 'laws.FnExactInGroup', WHERE WHAT IT READS IS OF BULK AT MOST 1048576: true; the input reads as it did. -/
def fnExactInGroupUptoRow : OpenClaim := { program := "ytbidjlpnjoihbaa", sum := "790b504c41df2211449802f78da440879005314a264104cfc5106964e73a6776", func := "loop.example/g00193/laws.FnExactInGroup", spec := "fnExactInGroup", apart := false, narrowed := true }
def FnExactInGroupUptoSaid : Prop := fnExactInGroupUptoRow.holds Try.pinned (OpenSpec.upto fnExactInGroupSpec)

/-- 'laws.FnExactHasherNew', WHERE WHAT IT READS IS OF BULK AT MOST 1048576: true; the input reads as it did. -/
def fnExactHasherNewUptoRow : OpenClaim := { program := "ytbidjlpnjoihbaa", sum := "790b504c41df2211449802f78da440879005314a264104cfc5106964e73a6776", func := "loop.example/g00193/laws.FnExactHasherNew", spec := "fnExactHasherNew", apart := false, narrowed := true }
def FnExactHasherNewUptoSaid : Prop := fnExactHasherNewUptoRow.holds Try.pinned (OpenSpec.upto fnExactHasherNewSpec)

/-- 'laws.FnExactUnhex', WHERE WHAT IT READS IS OF BULK AT MOST 1048576: true; the input reads as it did. -/
def fnExactUnhexUptoRow : OpenClaim := { program := "ytbidjlpnjoihbaa", sum := "790b504c41df2211449802f78da440879005314a264104cfc5106964e73a6776", func := "loop.example/g00193/laws.FnExactUnhex", spec := "fnExactUnhex", inPlace := ["internal/bytealg.IndexByteString"], apart := false, narrowed := true }
def FnExactUnhexUptoSaid : Prop := fnExactUnhexUptoRow.holds Try.pinned (OpenSpec.upto fnExactUnhexSpec)

/-- 'laws.FnExactReadVar', WHERE WHAT IT READS IS OF BULK AT MOST 1048576: true; the input reads as it did. -/
def fnExactReadVarUptoRow : OpenClaim := { program := "ytbidjlpnjoihbaa", sum := "790b504c41df2211449802f78da440879005314a264104cfc5106964e73a6776", func := "loop.example/g00193/laws.FnExactReadVar", spec := "fnExactReadVar", apart := false, narrowed := true }
def FnExactReadVarUptoSaid : Prop := fnExactReadVarUptoRow.holds Try.pinned (OpenSpec.upto fnExactReadVarSpec)

end Rows
end Go.Proofs.Ytbidjlpnjoihbaa
