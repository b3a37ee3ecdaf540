/-
  No cell of these rows narrows 'for every input' (looked for: loops, veiled, ifaces, maps, wideKeys, modest, calm, conditions, laid).
  DERIVED. THE GIVEN ROWS OF THIS SEAT. 4 by the template 'for every input the law returns true; each argument reads behind the call as it read before'; 0 by the template 'total and deterministic' (their statements: YtmjmnmcpfpbkeabTotals.lean).
  GIVEN WITH THE SEED: the statements are not yours to turn. If you find one false, say at which input.
  Laid BY PROGRAM, IN A SANDBOX (cutbox-rows.mjs): the forced cells as the released guide's own fill.sh prints them over the translation 2a1eb75b4875416e… (all of the seat's roots in one cut). By AI agents, Wed Nov 11 2026. No macro, syntax, notation, axiom, sorry.
-/
import Derived.Test.YtmjmnmcpfpbkeabChecked
import GoSem.Claim
import GoSem.ClaimJoined
import GoSem.ClaimMapViews
import Derived.JoinedTies
import Derived.KernelRfl
namespace Go.Proofs.Ytmjmnmcpfpbkeab
/- THE CELL 'sum', in the pinned program and in every row, IS THE sha256 OF THE DUMP (.gsa) THAT YtmjmnmcpfpbkeabProg.lean LOADS. Nothing in Lean hashes anything: it is a label: what it is worth is what the hold of that sum in a sandbox is worth. -/
noncomputable def Try.pinned : Pinned := { name := "ytmjmnmcpfpbkeab", sum := "2a1eb75b4875416e2cc302afd62b86ba9551b2f1e1e485f45cd9f636e89de30f", checked := Try.checked }
namespace Rows
def none {H : Type} : Left H := { results := [], args := [] }

/-- 'laws.FnExactExpand': WHATEVER THE INPUT: true; the input reads as it did. -/
def fnExactExpandSpec : ChangeSpec := { name := "fnExactExpand", fn := fun _ => fun
  | [d1, d2, d3] => { results := [.lit (.bool true)], args := [d1, d2, d3] }
  | _ => none }
def fnExactExpandRow : OpenClaim := { program := "ytmjmnmcpfpbkeab", sum := "2a1eb75b4875416e2cc302afd62b86ba9551b2f1e1e485f45cd9f636e89de30f", func := "loop.example/g00193/laws.FnExactExpand", spec := "fnExactExpand", inPlace := ["internal/abi.NoEscape", "internal/bytealg.MakeNoZero"], apart := false }
def FnExactExpandSaid : Prop := fnExactExpandRow.holds Try.pinned (OpenSpec.ofChange fnExactExpandSpec)

/-- ITS FALSE NEIGHBOUR: 'it returns false'. Refute it at one input. -/
def fnExactExpandWrong : ChangeSpec := { name := "fnExactExpand", fn := fun _ => fun
  | [d1, d2, d3] => { results := [.lit (.bool false)], args := [d1, d2, d3] }
  | _ => none }
def FnExactExpandWrongFalsely : Prop := fnExactExpandRow.holds Try.pinned (OpenSpec.ofChange fnExactExpandWrong)

/-- 'laws.FnExactMask': WHATEVER THE INPUT: true; the input reads as it did. -/
def fnExactMaskSpec : ChangeSpec := { name := "fnExactMask", fn := fun _ => fun
  | [d1, d2, d3] => { results := [.lit (.bool true)], args := [d1, d2, d3] }
  | _ => none }
def fnExactMaskRow : OpenClaim := { program := "ytmjmnmcpfpbkeab", sum := "2a1eb75b4875416e2cc302afd62b86ba9551b2f1e1e485f45cd9f636e89de30f", func := "loop.example/g00193/laws.FnExactMask", spec := "fnExactMask", inPlace := ["internal/abi.NoEscape", "internal/bytealg.MakeNoZero"], apart := false }
def FnExactMaskSaid : Prop := fnExactMaskRow.holds Try.pinned (OpenSpec.ofChange fnExactMaskSpec)

/-- ITS FALSE NEIGHBOUR: 'it returns false'. Refute it at one input. -/
def fnExactMaskWrong : ChangeSpec := { name := "fnExactMask", fn := fun _ => fun
  | [d1, d2, d3] => { results := [.lit (.bool false)], args := [d1, d2, d3] }
  | _ => none }
def FnExactMaskWrongFalsely : Prop := fnExactMaskRow.holds Try.pinned (OpenSpec.ofChange fnExactMaskWrong)

/-- 'laws.FnMacs': WHATEVER THE INPUT: true; the input reads as it did. -/
def fnMacsSpec : ChangeSpec := { name := "fnMacs", fn := fun _ => fun
  | [d] => { results := [.lit (.bool true)], args := [d] }
  | _ => none }
def fnMacsRow : OpenClaim := { program := "ytmjmnmcpfpbkeab", sum := "2a1eb75b4875416e2cc302afd62b86ba9551b2f1e1e485f45cd9f636e89de30f", func := "loop.example/g00193/laws.FnMacs", spec := "fnMacs", inPlace := ["internal/abi.NoEscape", "internal/bytealg.MakeNoZero"], apart := false }
def FnMacsSaid : Prop := fnMacsRow.holds Try.pinned (OpenSpec.ofChange fnMacsSpec)

/-- ITS FALSE NEIGHBOUR: 'it returns false'. Refute it at one input. -/
def fnMacsWrong : ChangeSpec := { name := "fnMacs", fn := fun _ => fun
  | [d] => { results := [.lit (.bool false)], args := [d] }
  | _ => none }
def FnMacsWrongFalsely : Prop := fnMacsRow.holds Try.pinned (OpenSpec.ofChange fnMacsWrong)

/-- 'laws.FnDigests': WHATEVER THE INPUT: true; the input reads as it did. -/
def fnDigestsSpec : ChangeSpec := { name := "fnDigests", fn := fun _ => fun
  | [d] => { results := [.lit (.bool true)], args := [d] }
  | _ => none }
def fnDigestsRow : OpenClaim := { program := "ytmjmnmcpfpbkeab", sum := "2a1eb75b4875416e2cc302afd62b86ba9551b2f1e1e485f45cd9f636e89de30f", func := "loop.example/g00193/laws.FnDigests", spec := "fnDigests", inPlace := ["internal/abi.NoEscape", "internal/bytealg.MakeNoZero"], apart := false }
def FnDigestsSaid : Prop := fnDigestsRow.holds Try.pinned (OpenSpec.ofChange fnDigestsSpec)

/-- ITS FALSE NEIGHBOUR: 'it returns false'. Refute it at one input. -/
def fnDigestsWrong : ChangeSpec := { name := "fnDigests", fn := fun _ => fun
  | [d] => { results := [.lit (.bool false)], args := [d] }
  | _ => none }
def FnDigestsWrongFalsely : Prop := fnDigestsRow.holds Try.pinned (OpenSpec.ofChange fnDigestsWrong)

/- THE SECOND FORM. 'bulk': how many values and letters a reading holds, each counted each time it is reached (what is shared counts as often as it is met; a slice's spare places count too). A statement '..UptoSaid' is the law's where the arguments, and the package variables that the reading takes, are together of bulk at most 1048576: NARROWER than '..Said'. Prove '..Said' where nothing that the law and all that it calls make is longer than what came in: it says more and counts as full. Else prove '..UptoSaid'. A law counts once. -/
mutual
def uptoBulk {H : Type} : DataW H → Nat
  | .lit (.string bytes) => bytes.length + 1
  | .lit _ => 1
  | .nil => 1
  | .ptr d => uptoBulk d + 1
  | .slice elems spare => uptoBulkAll elems + uptoBulkAll spare + 1
  | .agg parts => uptoBulkAll parts + 1
  | .iface _ d => uptoBulk d + 1
  | .map entries => uptoBulkEntries entries + 1
  | .held _ => 1
def uptoBulkAll {H : Type} : List (DataW H) → Nat
  | [] => 0
  | d :: r => uptoBulk d + uptoBulkAll r
def uptoBulkEntries {H : Type} : List (Lit × DataW H) → Nat
  | [] => 0
  | x :: r => uptoBulkEntry x + uptoBulkEntries r
def uptoBulkEntry {H : Type} : Lit × DataW H → Nat
  | (.string bytes, d) => bytes.length + uptoBulk d + 1
  | (_, d) => uptoBulk d + 1
 end
def uptoSmall : (H : Type) → List (DataW H) → Bool := fun _ ds => decide (uptoBulkAll ds ≤ 1048576)
def OpenSpec.upto (s : _root_.Go.ChangeSpec) : _root_.Go.OpenSpec := { _root_.Go.OpenSpec.ofChange s with cond := some uptoSmall }

/-- 'laws.FnExactExpand', WHERE WHAT IT READS IS OF BULK AT MOST 1048576: true; the input reads as it did. -/
def fnExactExpandUptoRow : OpenClaim := { program := "ytmjmnmcpfpbkeab", sum := "2a1eb75b4875416e2cc302afd62b86ba9551b2f1e1e485f45cd9f636e89de30f", func := "loop.example/g00193/laws.FnExactExpand", spec := "fnExactExpand", inPlace := ["internal/abi.NoEscape", "internal/bytealg.MakeNoZero"], apart := false, narrowed := true }
def FnExactExpandUptoSaid : Prop := fnExactExpandUptoRow.holds Try.pinned (OpenSpec.upto fnExactExpandSpec)

/-- 'laws.FnExactMask', WHERE WHAT IT READS IS OF BULK AT MOST 1048576: true; the input reads as it did. -/
def fnExactMaskUptoRow : OpenClaim := { program := "ytmjmnmcpfpbkeab", sum := "2a1eb75b4875416e2cc302afd62b86ba9551b2f1e1e485f45cd9f636e89de30f", func := "loop.example/g00193/laws.FnExactMask", spec := "fnExactMask", inPlace := ["internal/abi.NoEscape", "internal/bytealg.MakeNoZero"], apart := false, narrowed := true }
def FnExactMaskUptoSaid : Prop := fnExactMaskUptoRow.holds Try.pinned (OpenSpec.upto fnExactMaskSpec)

/-- 'laws.FnMacs', WHERE WHAT IT READS IS OF BULK AT MOST 1048576: true; the input reads as it did. -/
def fnMacsUptoRow : OpenClaim := { program := "ytmjmnmcpfpbkeab", sum := "2a1eb75b4875416e2cc302afd62b86ba9551b2f1e1e485f45cd9f636e89de30f", func := "loop.example/g00193/laws.FnMacs", spec := "fnMacs", inPlace := ["internal/abi.NoEscape", "internal/bytealg.MakeNoZero"], apart := false, narrowed := true }
def FnMacsUptoSaid : Prop := fnMacsUptoRow.holds Try.pinned (OpenSpec.upto fnMacsSpec)

/-- 'laws.FnDigests', WHERE WHAT IT READS IS OF BULK AT MOST 1048576: true; the input reads as it did. -/
def fnDigestsUptoRow : OpenClaim := { program := "ytmjmnmcpfpbkeab", sum := "2a1eb75b4875416e2cc302afd62b86ba9551b2f1e1e485f45cd9f636e89de30f", func := "loop.example/g00193/laws.FnDigests", spec := "fnDigests", inPlace := ["internal/abi.NoEscape", "internal/bytealg.MakeNoZero"], apart := false, narrowed := true }
def FnDigestsUptoSaid : Prop := fnDigestsUptoRow.holds Try.pinned (OpenSpec.upto fnDigestsSpec)

end Rows
end Go.Proofs.Ytmjmnmcpfpbkeab
