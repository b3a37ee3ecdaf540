/-
  No cell of these rows narrows 'for every input' (looked for: loops, veiled, ifaces, maps, wideKeys, modest, calm, conditions, laid).
  DERIVED. THE GIVEN ROWS OF THIS SEAT. 10 by the template 'for every input the law returns true; each argument reads behind the call as it read before'; 0 by the template 'total and deterministic' (their statements: YtbmedcifganklaaTotals.lean).
  GIVEN WITH THE SEED: the statements are not yours to turn. If you find one false, say at which input.
  Laid BY PROGRAM, IN A SANDBOX (cutbox-rows.mjs): the forced cells as the released guide's own fill.sh prints them over the translation d56ea634433ae4b2… (all of the seat's roots in one cut). By AI agents, Wed Nov 11 2026. No macro, syntax, notation, axiom, sorry.
-/
import Derived.Test.YtbmedcifganklaaChecked
import GoSem.Claim
import GoSem.ClaimJoined
import GoSem.ClaimMapViews
import Derived.JoinedTies
import Derived.KernelRfl
namespace Go.Proofs.Ytbmedcifganklaa
/- THE CELL 'sum', in the pinned program and in every row, IS THE sha256 OF THE DUMP (.gsa) THAT YtbmedcifganklaaProg.lean LOADS. Nothing in Lean hashes anything: it is a label: what it is worth is what the hold of that sum in a sandbox is worth. -/
noncomputable def Try.pinned : Pinned := { name := "ytbmedcifganklaa", sum := "d56ea634433ae4b27f3021025309461cef0239ada50b9367b8648e0f8bd8d408", checked := Try.checked }
namespace Rows
def none {H : Type} : Left H := { results := [], args := [] }

/-- 'laws.FnExactHashEnd': WHATEVER THE INPUT: true; the input reads as it did. -/
def fnExactHashEndSpec : ChangeSpec := { name := "fnExactHashEnd", fn := fun _ => fun
  | [d] => { results := [.lit (.bool true)], args := [d] }
  | _ => none }
def fnExactHashEndRow : OpenClaim := { program := "ytbmedcifganklaa", sum := "d56ea634433ae4b27f3021025309461cef0239ada50b9367b8648e0f8bd8d408", func := "loop.example/g00193/laws.FnExactHashEnd", spec := "fnExactHashEnd", inPlace := ["internal/abi.NoEscape", "internal/bytealg.MakeNoZero"], apart := false }
def FnExactHashEndSaid : Prop := fnExactHashEndRow.holds Try.pinned (OpenSpec.ofChange fnExactHashEndSpec)

/-- ITS FALSE NEIGHBOUR: 'it returns false'. Refute it at one input. -/
def fnExactHashEndWrong : ChangeSpec := { name := "fnExactHashEnd", fn := fun _ => fun
  | [d] => { results := [.lit (.bool false)], args := [d] }
  | _ => none }
def FnExactHashEndWrongFalsely : Prop := fnExactHashEndRow.holds Try.pinned (OpenSpec.ofChange fnExactHashEndWrong)

/-- 'laws.FnExactDigestOf': WHATEVER THE INPUT: true; the input reads as it did. -/
def fnExactDigestOfSpec : ChangeSpec := { name := "fnExactDigestOf", fn := fun _ => fun
  | [d] => { results := [.lit (.bool true)], args := [d] }
  | _ => none }
def fnExactDigestOfRow : OpenClaim := { program := "ytbmedcifganklaa", sum := "d56ea634433ae4b27f3021025309461cef0239ada50b9367b8648e0f8bd8d408", func := "loop.example/g00193/laws.FnExactDigestOf", spec := "fnExactDigestOf", inPlace := ["internal/abi.NoEscape", "internal/bytealg.MakeNoZero"], apart := false }
def FnExactDigestOfSaid : Prop := fnExactDigestOfRow.holds Try.pinned (OpenSpec.ofChange fnExactDigestOfSpec)

/-- ITS FALSE NEIGHBOUR: 'it returns false'. Refute it at one input. -/
def fnExactDigestOfWrong : ChangeSpec := { name := "fnExactDigestOf", fn := fun _ => fun
  | [d] => { results := [.lit (.bool false)], args := [d] }
  | _ => none }
def FnExactDigestOfWrongFalsely : Prop := fnExactDigestOfRow.holds Try.pinned (OpenSpec.ofChange fnExactDigestOfWrong)

/-- 'laws.FnExactSecretOf': WHATEVER THE INPUT: true; the input reads as it did. -/
def fnExactSecretOfSpec : ChangeSpec := { name := "fnExactSecretOf", fn := fun _ => fun
  | [d] => { results := [.lit (.bool true)], args := [d] }
  | _ => none }
def fnExactSecretOfRow : OpenClaim := { program := "ytbmedcifganklaa", sum := "d56ea634433ae4b27f3021025309461cef0239ada50b9367b8648e0f8bd8d408", func := "loop.example/g00193/laws.FnExactSecretOf", spec := "fnExactSecretOf", inPlace := ["internal/abi.NoEscape", "internal/bytealg.MakeNoZero"], apart := false }
def FnExactSecretOfSaid : Prop := fnExactSecretOfRow.holds Try.pinned (OpenSpec.ofChange fnExactSecretOfSpec)

/-- ITS FALSE NEIGHBOUR: 'it returns false'. Refute it at one input. -/
def fnExactSecretOfWrong : ChangeSpec := { name := "fnExactSecretOf", fn := fun _ => fun
  | [d] => { results := [.lit (.bool false)], args := [d] }
  | _ => none }
def FnExactSecretOfWrongFalsely : Prop := fnExactSecretOfRow.holds Try.pinned (OpenSpec.ofChange fnExactSecretOfWrong)

/-- 'laws.FnExactMacOf': WHATEVER THE INPUT: true; the input reads as it did. -/
def fnExactMacOfSpec : ChangeSpec := { name := "fnExactMacOf", fn := fun _ => fun
  | [d1, d2] => { results := [.lit (.bool true)], args := [d1, d2] }
  | _ => none }
def fnExactMacOfRow : OpenClaim := { program := "ytbmedcifganklaa", sum := "d56ea634433ae4b27f3021025309461cef0239ada50b9367b8648e0f8bd8d408", func := "loop.example/g00193/laws.FnExactMacOf", spec := "fnExactMacOf", inPlace := ["internal/abi.NoEscape", "internal/bytealg.MakeNoZero"], apart := false }
def FnExactMacOfSaid : Prop := fnExactMacOfRow.holds Try.pinned (OpenSpec.ofChange fnExactMacOfSpec)

/-- ITS FALSE NEIGHBOUR: 'it returns false'. Refute it at one input. -/
def fnExactMacOfWrong : ChangeSpec := { name := "fnExactMacOf", fn := fun _ => fun
  | [d1, d2] => { results := [.lit (.bool false)], args := [d1, d2] }
  | _ => none }
def FnExactMacOfWrongFalsely : Prop := fnExactMacOfRow.holds Try.pinned (OpenSpec.ofChange fnExactMacOfWrong)

/-- 'laws.FnExactChallenge': WHATEVER THE INPUT: true; the input reads as it did. -/
def fnExactChallengeSpec : ChangeSpec := { name := "fnExactChallenge", fn := fun _ => fun
  | [d1, d2, d3] => { results := [.lit (.bool true)], args := [d1, d2, d3] }
  | _ => none }
def fnExactChallengeRow : OpenClaim := { program := "ytbmedcifganklaa", sum := "d56ea634433ae4b27f3021025309461cef0239ada50b9367b8648e0f8bd8d408", func := "loop.example/g00193/laws.FnExactChallenge", spec := "fnExactChallenge", inPlace := ["internal/abi.NoEscape", "internal/bytealg.MakeNoZero"], apart := false }
def FnExactChallengeSaid : Prop := fnExactChallengeRow.holds Try.pinned (OpenSpec.ofChange fnExactChallengeSpec)

/-- ITS FALSE NEIGHBOUR: 'it returns false'. Refute it at one input. -/
def fnExactChallengeWrong : ChangeSpec := { name := "fnExactChallenge", fn := fun _ => fun
  | [d1, d2, d3] => { results := [.lit (.bool false)], args := [d1, d2, d3] }
  | _ => none }
def FnExactChallengeWrongFalsely : Prop := fnExactChallengeRow.holds Try.pinned (OpenSpec.ofChange fnExactChallengeWrong)

/-- 'laws.FnExactExpand': WHATEVER THE INPUT: true; the input reads as it did. -/
def fnExactExpandSpec : ChangeSpec := { name := "fnExactExpand", fn := fun _ => fun
  | [d1, d2, d3] => { results := [.lit (.bool true)], args := [d1, d2, d3] }
  | _ => none }
def fnExactExpandRow : OpenClaim := { program := "ytbmedcifganklaa", sum := "d56ea634433ae4b27f3021025309461cef0239ada50b9367b8648e0f8bd8d408", func := "loop.example/g00193/laws.FnExactExpand", spec := "fnExactExpand", inPlace := ["internal/abi.NoEscape", "internal/bytealg.MakeNoZero"], apart := false }
def FnExactExpandSaid : Prop := fnExactExpandRow.holds Try.pinned (OpenSpec.ofChange fnExactExpandSpec)

/-- ITS FALSE NEIGHBOUR: 'it returns false'. Refute it at one input. -/
def fnExactExpandWrong : ChangeSpec := { name := "fnExactExpand", fn := fun _ => fun
  | [d1, d2, d3] => { results := [.lit (.bool false)], args := [d1, d2, d3] }
  | _ => none }
def FnExactExpandWrongFalsely : Prop := fnExactExpandRow.holds Try.pinned (OpenSpec.ofChange fnExactExpandWrong)

/-- 'laws.FnHashers': WHATEVER THE INPUT: true; the input reads as it did. -/
def fnHashersSpec : ChangeSpec := { name := "fnHashers", fn := fun _ => fun
  | [d] => { results := [.lit (.bool true)], args := [d] }
  | _ => none }
def fnHashersRow : OpenClaim := { program := "ytbmedcifganklaa", sum := "d56ea634433ae4b27f3021025309461cef0239ada50b9367b8648e0f8bd8d408", func := "loop.example/g00193/laws.FnHashers", spec := "fnHashers", inPlace := ["internal/abi.NoEscape", "internal/bytealg.MakeNoZero"], apart := false }
def FnHashersSaid : Prop := fnHashersRow.holds Try.pinned (OpenSpec.ofChange fnHashersSpec)

/-- ITS FALSE NEIGHBOUR: 'it returns false'. Refute it at one input. -/
def fnHashersWrong : ChangeSpec := { name := "fnHashers", fn := fun _ => fun
  | [d] => { results := [.lit (.bool false)], args := [d] }
  | _ => none }
def FnHashersWrongFalsely : Prop := fnHashersRow.holds Try.pinned (OpenSpec.ofChange fnHashersWrong)

/-- 'laws.FnExactMask': WHATEVER THE INPUT: true; the input reads as it did. -/
def fnExactMaskSpec : ChangeSpec := { name := "fnExactMask", fn := fun _ => fun
  | [d1, d2, d3] => { results := [.lit (.bool true)], args := [d1, d2, d3] }
  | _ => none }
def fnExactMaskRow : OpenClaim := { program := "ytbmedcifganklaa", sum := "d56ea634433ae4b27f3021025309461cef0239ada50b9367b8648e0f8bd8d408", func := "loop.example/g00193/laws.FnExactMask", spec := "fnExactMask", inPlace := ["internal/abi.NoEscape", "internal/bytealg.MakeNoZero"], apart := false }
def FnExactMaskSaid : Prop := fnExactMaskRow.holds Try.pinned (OpenSpec.ofChange fnExactMaskSpec)

/-- ITS FALSE NEIGHBOUR: 'it returns false'. Refute it at one input. -/
def fnExactMaskWrong : ChangeSpec := { name := "fnExactMask", fn := fun _ => fun
  | [d1, d2, d3] => { results := [.lit (.bool false)], args := [d1, d2, d3] }
  | _ => none }
def FnExactMaskWrongFalsely : Prop := fnExactMaskRow.holds Try.pinned (OpenSpec.ofChange fnExactMaskWrong)

/-- 'laws.FnDigests': WHATEVER THE INPUT: true; the input reads as it did. -/
def fnDigestsSpec : ChangeSpec := { name := "fnDigests", fn := fun _ => fun
  | [d] => { results := [.lit (.bool true)], args := [d] }
  | _ => none }
def fnDigestsRow : OpenClaim := { program := "ytbmedcifganklaa", sum := "d56ea634433ae4b27f3021025309461cef0239ada50b9367b8648e0f8bd8d408", func := "loop.example/g00193/laws.FnDigests", spec := "fnDigests", inPlace := ["internal/abi.NoEscape", "internal/bytealg.MakeNoZero"], apart := false }
def FnDigestsSaid : Prop := fnDigestsRow.holds Try.pinned (OpenSpec.ofChange fnDigestsSpec)

/-- ITS FALSE NEIGHBOUR: 'it returns false'. Refute it at one input. -/
def fnDigestsWrong : ChangeSpec := { name := "fnDigests", fn := fun _ => fun
  | [d] => { results := [.lit (.bool false)], args := [d] }
  | _ => none }
def FnDigestsWrongFalsely : Prop := fnDigestsRow.holds Try.pinned (OpenSpec.ofChange fnDigestsWrong)

/-- 'laws.FnExactCheckText': WHATEVER THE INPUT: true; the input reads as it did. -/
def fnExactCheckTextSpec : ChangeSpec := { name := "fnExactCheckText", fn := fun _ => fun
  | [d1, d2, d3] => { results := [.lit (.bool true)], args := [d1, d2, d3] }
  | _ => none }
def fnExactCheckTextRow : OpenClaim := { program := "ytbmedcifganklaa", sum := "d56ea634433ae4b27f3021025309461cef0239ada50b9367b8648e0f8bd8d408", func := "loop.example/g00193/laws.FnExactCheckText", spec := "fnExactCheckText", inPlace := ["internal/abi.NoEscape", "internal/bytealg.MakeNoZero"], apart := false }
def FnExactCheckTextSaid : Prop := fnExactCheckTextRow.holds Try.pinned (OpenSpec.ofChange fnExactCheckTextSpec)

/-- ITS FALSE NEIGHBOUR: 'it returns false'. Refute it at one input. -/
def fnExactCheckTextWrong : ChangeSpec := { name := "fnExactCheckText", fn := fun _ => fun
  | [d1, d2, d3] => { results := [.lit (.bool false)], args := [d1, d2, d3] }
  | _ => none }
def FnExactCheckTextWrongFalsely : Prop := fnExactCheckTextRow.holds Try.pinned (OpenSpec.ofChange fnExactCheckTextWrong)

/- THE SECOND FORM. 'bulk': how many values and letters a reading holds, each counted each time it is reached (what is shared counts as often as it is met; a slice's spare places count too). A statement '..UptoSaid' is the law's where the arguments, and the package variables that the reading takes, are together of bulk at most 1048576: NARROWER than '..Said'. Prove '..Said' where nothing that the law and all that it calls make is longer than what came in: it says more and counts as full. Else prove '..UptoSaid'. A law counts once. -/
mutual
def uptoBulk {H : Type} : DataW H → Nat
  | .lit (.string bytes) => bytes.length + 1
  | .lit _ => 1
  | .nil => 1
  | .ptr d => uptoBulk d + 1
  | .slice elems spare => uptoBulkAll elems + uptoBulkAll spare + 1
  | .agg parts => uptoBulkAll parts + 1
  | .iface _ d => uptoBulk d + 1
  | .map entries => uptoBulkEntries entries + 1
  | .held _ => 1
def uptoBulkAll {H : Type} : List (DataW H) → Nat
  | [] => 0
  | d :: r => uptoBulk d + uptoBulkAll r
def uptoBulkEntries {H : Type} : List (Lit × DataW H) → Nat
  | [] => 0
  | x :: r => uptoBulkEntry x + uptoBulkEntries r
def uptoBulkEntry {H : Type} : Lit × DataW H → Nat
  | (.string bytes, d) => bytes.length + uptoBulk d + 1
  | (_, d) => uptoBulk d + 1
 end
def uptoSmall : (H : Type) → List (DataW H) → Bool := fun _ ds => decide (uptoBulkAll ds ≤ 1048576)
def OpenSpec.upto (s : _root_.Go.ChangeSpec) : _root_.Go.OpenSpec := { _root_.Go.OpenSpec.ofChange s with cond := some uptoSmall }

/-- 'laws.FnExactHashEnd', WHERE WHAT IT READS IS OF BULK AT MOST 1048576: true; the input reads as it did. -/
def fnExactHashEndUptoRow : OpenClaim := { program := "ytbmedcifganklaa", sum := "d56ea634433ae4b27f3021025309461cef0239ada50b9367b8648e0f8bd8d408", func := "loop.example/g00193/laws.FnExactHashEnd", spec := "fnExactHashEnd", inPlace := ["internal/abi.NoEscape", "internal/bytealg.MakeNoZero"], apart := false, narrowed := true }
def FnExactHashEndUptoSaid : Prop := fnExactHashEndUptoRow.holds Try.pinned (OpenSpec.upto fnExactHashEndSpec)

/-- 'laws.FnExactDigestOf', WHERE WHAT IT READS IS OF BULK AT MOST 1048576: true; the input reads as it did. -/
def fnExactDigestOfUptoRow : OpenClaim := { program := "ytbmedcifganklaa", sum := "d56ea634433ae4b27f3021025309461cef0239ada50b9367b8648e0f8bd8d408", func := "loop.example/g00193/laws.FnExactDigestOf", spec := "fnExactDigestOf", inPlace := ["internal/abi.NoEscape", "internal/bytealg.MakeNoZero"], apart := false, narrowed := true }
def FnExactDigestOfUptoSaid : Prop := fnExactDigestOfUptoRow.holds Try.pinned (OpenSpec.upto fnExactDigestOfSpec)

/-- 'laws.FnExactSecretOf', WHERE WHAT IT READS IS OF BULK AT MOST 1048576: true; the input reads as it did. -/
def fnExactSecretOfUptoRow : OpenClaim := { program := "ytbmedcifganklaa", sum := "d56ea634433ae4b27f3021025309461cef0239ada50b9367b8648e0f8bd8d408", func := "loop.example/g00193/laws.FnExactSecretOf", spec := "fnExactSecretOf", inPlace := ["internal/abi.NoEscape", "internal/bytealg.MakeNoZero"], apart := false, narrowed := true }
def FnExactSecretOfUptoSaid : Prop := fnExactSecretOfUptoRow.holds Try.pinned (OpenSpec.upto fnExactSecretOfSpec)

/-- 'laws.FnExactMacOf', WHERE WHAT IT READS IS OF BULK AT MOST 1048576: true; the input reads as it did. -/
def fnExactMacOfUptoRow : OpenClaim := { program := "ytbmedcifganklaa", sum := "d56ea634433ae4b27f3021025309461cef0239ada50b9367b8648e0f8bd8d408", func := "loop.example/g00193/laws.FnExactMacOf", spec := "fnExactMacOf", inPlace := ["internal/abi.NoEscape", "internal/bytealg.MakeNoZero"], apart := false, narrowed := true }
def FnExactMacOfUptoSaid : Prop := fnExactMacOfUptoRow.holds Try.pinned (OpenSpec.upto fnExactMacOfSpec)

/-- 'laws.FnExactChallenge', WHERE WHAT IT READS IS OF BULK AT MOST 1048576: true; the input reads as it did. -/
def fnExactChallengeUptoRow : OpenClaim := { program := "ytbmedcifganklaa", sum := "d56ea634433ae4b27f3021025309461cef0239ada50b9367b8648e0f8bd8d408", func := "loop.example/g00193/laws.FnExactChallenge", spec := "fnExactChallenge", inPlace := ["internal/abi.NoEscape", "internal/bytealg.MakeNoZero"], apart := false, narrowed := true }
def FnExactChallengeUptoSaid : Prop := fnExactChallengeUptoRow.holds Try.pinned (OpenSpec.upto fnExactChallengeSpec)

/-- 'laws.FnExactExpand', WHERE WHAT IT READS IS OF BULK AT MOST 1048576: true; the input reads as it did. -/
def fnExactExpandUptoRow : OpenClaim := { program := "ytbmedcifganklaa", sum := "d56ea634433ae4b27f3021025309461cef0239ada50b9367b8648e0f8bd8d408", func := "loop.example/g00193/laws.FnExactExpand", spec := "fnExactExpand", inPlace := ["internal/abi.NoEscape", "internal/bytealg.MakeNoZero"], apart := false, narrowed := true }
def FnExactExpandUptoSaid : Prop := fnExactExpandUptoRow.holds Try.pinned (OpenSpec.upto fnExactExpandSpec)

/-- 'laws.FnHashers', WHERE WHAT IT READS IS OF BULK AT MOST 1048576: true; the input reads as it did. -/
def fnHashersUptoRow : OpenClaim := { program := "ytbmedcifganklaa", sum := "d56ea634433ae4b27f3021025309461cef0239ada50b9367b8648e0f8bd8d408", func := "loop.example/g00193/laws.FnHashers", spec := "fnHashers", inPlace := ["internal/abi.NoEscape", "internal/bytealg.MakeNoZero"], apart := false, narrowed := true }
def FnHashersUptoSaid : Prop := fnHashersUptoRow.holds Try.pinned (OpenSpec.upto fnHashersSpec)

/-- 'laws.FnExactMask', WHERE WHAT IT READS IS OF BULK AT MOST 1048576: true; the input reads as it did. -/
def fnExactMaskUptoRow : OpenClaim := { program := "ytbmedcifganklaa", sum := "d56ea634433ae4b27f3021025309461cef0239ada50b9367b8648e0f8bd8d408", func := "loop.example/g00193/laws.FnExactMask", spec := "fnExactMask", inPlace := ["internal/abi.NoEscape", "internal/bytealg.MakeNoZero"], apart := false, narrowed := true }
def FnExactMaskUptoSaid : Prop := fnExactMaskUptoRow.holds Try.pinned (OpenSpec.upto fnExactMaskSpec)

/-- 'laws.FnDigests', WHERE WHAT IT READS IS OF BULK AT MOST 1048576: true; the input reads as it did. -/
def fnDigestsUptoRow : OpenClaim := { program := "ytbmedcifganklaa", sum := "d56ea634433ae4b27f3021025309461cef0239ada50b9367b8648e0f8bd8d408", func := "loop.example/g00193/laws.FnDigests", spec := "fnDigests", inPlace := ["internal/abi.NoEscape", "internal/bytealg.MakeNoZero"], apart := false, narrowed := true }
def FnDigestsUptoSaid : Prop := fnDigestsUptoRow.holds Try.pinned (OpenSpec.upto fnDigestsSpec)

/-- 'laws.FnExactCheckText', WHERE WHAT IT READS IS OF BULK AT MOST 1048576: true; the input reads as it did. -/
def fnExactCheckTextUptoRow : OpenClaim := { program := "ytbmedcifganklaa", sum := "d56ea634433ae4b27f3021025309461cef0239ada50b9367b8648e0f8bd8d408", func := "loop.example/g00193/laws.FnExactCheckText", spec := "fnExactCheckText", inPlace := ["internal/abi.NoEscape", "internal/bytealg.MakeNoZero"], apart := false, narrowed := true }
def FnExactCheckTextUptoSaid : Prop := fnExactCheckTextUptoRow.holds Try.pinned (OpenSpec.upto fnExactCheckTextSpec)

end Rows
end Go.Proofs.Ytbmedcifganklaa
