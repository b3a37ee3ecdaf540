/-
  No cell of these rows narrows 'for every input' (looked for: loops, veiled, ifaces, maps, wideKeys, modest, calm, conditions, laid).
  DERIVED. THE GIVEN ROWS OF THIS SEAT. 6 by the template 'for every input the law returns true; each argument reads behind the call as it read before'; 0 by the template 'total and deterministic' (their statements: YthlakoofnnnlgaaTotals.lean).
  GIVEN WITH THE SEED: the statements are not yours to turn. If you find one false, say at which input.
  Laid BY PROGRAM, IN A SANDBOX (cutbox-rows.mjs): the forced cells as the released guide's own fill.sh prints them over the translation bace22848c46d0ff… (all of the seat's roots in one cut). By AI agents, Wed Nov 11 2026. No macro, syntax, notation, axiom, sorry.
-/
import Derived.Test.YthlakoofnnnlgaaChecked
import GoSem.Claim
import GoSem.ClaimJoined
import GoSem.ClaimMapViews
import Derived.JoinedTies
import Derived.KernelRfl
namespace Go.Proofs.Ythlakoofnnnlgaa
/- THE CELL 'sum', in the pinned program and in every row, IS THE sha256 OF THE DUMP (.gsa) THAT YthlakoofnnnlgaaProg.lean LOADS. Nothing in Lean hashes anything: it is a label: what it is worth is what the hold of that sum in a sandbox is worth. -/
noncomputable def Try.pinned : Pinned := { name := "ythlakoofnnnlgaa", sum := "bace22848c46d0ff1a3b3755a62ff9aacb2ca3b3bc6431a8ed4bef36ef8b535b", checked := Try.checked }
namespace Rows
def none {H : Type} : Left H := { results := [], args := [] }

/-- 'laws.FnExactSignText': WHATEVER THE INPUT: true; the input reads as it did. -/
def fnExactSignTextSpec : ChangeSpec := { name := "fnExactSignText", fn := fun _ => fun
  | [d1, d2] => { results := [.lit (.bool true)], args := [d1, d2] }
  | _ => none }
def fnExactSignTextRow : OpenClaim := { program := "ythlakoofnnnlgaa", sum := "bace22848c46d0ff1a3b3755a62ff9aacb2ca3b3bc6431a8ed4bef36ef8b535b", func := "loop.example/g00193/laws.FnExactSignText", spec := "fnExactSignText", inPlace := ["internal/abi.NoEscape", "internal/bytealg.MakeNoZero"], apart := false }
def FnExactSignTextSaid : Prop := fnExactSignTextRow.holds Try.pinned (OpenSpec.ofChange fnExactSignTextSpec)

/-- ITS FALSE NEIGHBOUR: 'it returns false'. Refute it at one input. -/
def fnExactSignTextWrong : ChangeSpec := { name := "fnExactSignText", fn := fun _ => fun
  | [d1, d2] => { results := [.lit (.bool false)], args := [d1, d2] }
  | _ => none }
def FnExactSignTextWrongFalsely : Prop := fnExactSignTextRow.holds Try.pinned (OpenSpec.ofChange fnExactSignTextWrong)

/-- 'laws.FnExactLockText': WHATEVER THE INPUT: true; the input reads as it did. -/
def fnExactLockTextSpec : ChangeSpec := { name := "fnExactLockText", fn := fun _ => fun
  | [d1, d2, d3] => { results := [.lit (.bool true)], args := [d1, d2, d3] }
  | _ => none }
def fnExactLockTextRow : OpenClaim := { program := "ythlakoofnnnlgaa", sum := "bace22848c46d0ff1a3b3755a62ff9aacb2ca3b3bc6431a8ed4bef36ef8b535b", func := "loop.example/g00193/laws.FnExactLockText", spec := "fnExactLockText", inPlace := ["internal/abi.NoEscape", "internal/bytealg.MakeNoZero"], apart := false }
def FnExactLockTextSaid : Prop := fnExactLockTextRow.holds Try.pinned (OpenSpec.ofChange fnExactLockTextSpec)

/-- ITS FALSE NEIGHBOUR: 'it returns false'. Refute it at one input. -/
def fnExactLockTextWrong : ChangeSpec := { name := "fnExactLockText", fn := fun _ => fun
  | [d1, d2, d3] => { results := [.lit (.bool false)], args := [d1, d2, d3] }
  | _ => none }
def FnExactLockTextWrongFalsely : Prop := fnExactLockTextRow.holds Try.pinned (OpenSpec.ofChange fnExactLockTextWrong)

/-- 'laws.FnMacs': WHATEVER THE INPUT: true; the input reads as it did. -/
def fnMacsSpec : ChangeSpec := { name := "fnMacs", fn := fun _ => fun
  | [d] => { results := [.lit (.bool true)], args := [d] }
  | _ => none }
def fnMacsRow : OpenClaim := { program := "ythlakoofnnnlgaa", sum := "bace22848c46d0ff1a3b3755a62ff9aacb2ca3b3bc6431a8ed4bef36ef8b535b", func := "loop.example/g00193/laws.FnMacs", spec := "fnMacs", inPlace := ["internal/abi.NoEscape", "internal/bytealg.MakeNoZero"], apart := false }
def FnMacsSaid : Prop := fnMacsRow.holds Try.pinned (OpenSpec.ofChange fnMacsSpec)

/-- ITS FALSE NEIGHBOUR: 'it returns false'. Refute it at one input. -/
def fnMacsWrong : ChangeSpec := { name := "fnMacs", fn := fun _ => fun
  | [d] => { results := [.lit (.bool false)], args := [d] }
  | _ => none }
def FnMacsWrongFalsely : Prop := fnMacsRow.holds Try.pinned (OpenSpec.ofChange fnMacsWrong)

/-- 'laws.FnExactOpenText': WHATEVER THE INPUT: true; the input reads as it did. -/
def fnExactOpenTextSpec : ChangeSpec := { name := "fnExactOpenText", fn := fun _ => fun
  | [d1, d2, d3] => { results := [.lit (.bool true)], args := [d1, d2, d3] }
  | _ => none }
def fnExactOpenTextRow : OpenClaim := { program := "ythlakoofnnnlgaa", sum := "bace22848c46d0ff1a3b3755a62ff9aacb2ca3b3bc6431a8ed4bef36ef8b535b", func := "loop.example/g00193/laws.FnExactOpenText", spec := "fnExactOpenText", inPlace := ["internal/abi.NoEscape", "internal/bytealg.MakeNoZero"], apart := false }
def FnExactOpenTextSaid : Prop := fnExactOpenTextRow.holds Try.pinned (OpenSpec.ofChange fnExactOpenTextSpec)

/-- ITS FALSE NEIGHBOUR: 'it returns false'. Refute it at one input. -/
def fnExactOpenTextWrong : ChangeSpec := { name := "fnExactOpenText", fn := fun _ => fun
  | [d1, d2, d3] => { results := [.lit (.bool false)], args := [d1, d2, d3] }
  | _ => none }
def FnExactOpenTextWrongFalsely : Prop := fnExactOpenTextRow.holds Try.pinned (OpenSpec.ofChange fnExactOpenTextWrong)

/-- 'laws.FnSigns': WHATEVER THE INPUT: true; the input reads as it did. -/
def fnSignsSpec : ChangeSpec := { name := "fnSigns", fn := fun _ => fun
  | [d] => { results := [.lit (.bool true)], args := [d] }
  | _ => none }
def fnSignsRow : OpenClaim := { program := "ythlakoofnnnlgaa", sum := "bace22848c46d0ff1a3b3755a62ff9aacb2ca3b3bc6431a8ed4bef36ef8b535b", func := "loop.example/g00193/laws.FnSigns", spec := "fnSigns", inPlace := ["internal/abi.NoEscape", "internal/bytealg.MakeNoZero"], apart := false }
def FnSignsSaid : Prop := fnSignsRow.holds Try.pinned (OpenSpec.ofChange fnSignsSpec)

/-- ITS FALSE NEIGHBOUR: 'it returns false'. Refute it at one input. -/
def fnSignsWrong : ChangeSpec := { name := "fnSigns", fn := fun _ => fun
  | [d] => { results := [.lit (.bool false)], args := [d] }
  | _ => none }
def FnSignsWrongFalsely : Prop := fnSignsRow.holds Try.pinned (OpenSpec.ofChange fnSignsWrong)

/-- 'laws.FnLocks': WHATEVER THE INPUT: true; the input reads as it did. -/
def fnLocksSpec : ChangeSpec := { name := "fnLocks", fn := fun _ => fun
  | [d] => { results := [.lit (.bool true)], args := [d] }
  | _ => none }
def fnLocksRow : OpenClaim := { program := "ythlakoofnnnlgaa", sum := "bace22848c46d0ff1a3b3755a62ff9aacb2ca3b3bc6431a8ed4bef36ef8b535b", func := "loop.example/g00193/laws.FnLocks", spec := "fnLocks", inPlace := ["internal/abi.NoEscape", "internal/bytealg.MakeNoZero"], apart := false }
def FnLocksSaid : Prop := fnLocksRow.holds Try.pinned (OpenSpec.ofChange fnLocksSpec)

/-- ITS FALSE NEIGHBOUR: 'it returns false'. Refute it at one input. -/
def fnLocksWrong : ChangeSpec := { name := "fnLocks", fn := fun _ => fun
  | [d] => { results := [.lit (.bool false)], args := [d] }
  | _ => none }
def FnLocksWrongFalsely : Prop := fnLocksRow.holds Try.pinned (OpenSpec.ofChange fnLocksWrong)

/- THE SECOND FORM. 'bulk': how many values and letters a reading holds, each counted each time it is reached (what is shared counts as often as it is met; a slice's spare places count too). A statement '..UptoSaid' is the law's where the arguments, and the package variables that the reading takes, are together of bulk at most 1048576: NARROWER than '..Said'. Prove '..Said' where nothing that the law and all that it calls make is longer than what came in: it says more and counts as full. Else prove '..UptoSaid'. A law counts once. -/
mutual
def uptoBulk {H : Type} : DataW H → Nat
  | .lit (.string bytes) => bytes.length + 1
  | .lit _ => 1
  | .nil => 1
  | .ptr d => uptoBulk d + 1
  | .slice elems spare => uptoBulkAll elems + uptoBulkAll spare + 1
  | .agg parts => uptoBulkAll parts + 1
  | .iface _ d => uptoBulk d + 1
  | .map entries => uptoBulkEntries entries + 1
  | .held _ => 1
def uptoBulkAll {H : Type} : List (DataW H) → Nat
  | [] => 0
  | d :: r => uptoBulk d + uptoBulkAll r
def uptoBulkEntries {H : Type} : List (Lit × DataW H) → Nat
  | [] => 0
  | x :: r => uptoBulkEntry x + uptoBulkEntries r
def uptoBulkEntry {H : Type} : Lit × DataW H → Nat
  | (.string bytes, d) => bytes.length + uptoBulk d + 1
  | (_, d) => uptoBulk d + 1
 end
def uptoSmall : (H : Type) → List (DataW H) → Bool := fun _ ds => decide (uptoBulkAll ds ≤ 1048576)
def OpenSpec.upto (s : _root_.Go.ChangeSpec) : _root_.Go.OpenSpec := { _root_.Go.OpenSpec.ofChange s with cond := some uptoSmall }

/-- 'laws.FnExactSignText', WHERE WHAT IT READS IS OF BULK AT MOST 1048576: true; the input reads as it did. -/
def fnExactSignTextUptoRow : OpenClaim := { program := "ythlakoofnnnlgaa", sum := "bace22848c46d0ff1a3b3755a62ff9aacb2ca3b3bc6431a8ed4bef36ef8b535b", func := "loop.example/g00193/laws.FnExactSignText", spec := "fnExactSignText", inPlace := ["internal/abi.NoEscape", "internal/bytealg.MakeNoZero"], apart := false, narrowed := true }
def FnExactSignTextUptoSaid : Prop := fnExactSignTextUptoRow.holds Try.pinned (OpenSpec.upto fnExactSignTextSpec)

/-- 'laws.FnExactLockText', WHERE WHAT IT READS IS OF BULK AT MOST 1048576: true; the input reads as it did. -/
def fnExactLockTextUptoRow : OpenClaim := { program := "ythlakoofnnnlgaa", sum := "bace22848c46d0ff1a3b3755a62ff9aacb2ca3b3bc6431a8ed4bef36ef8b535b", func := "loop.example/g00193/laws.FnExactLockText", spec := "fnExactLockText", inPlace := ["internal/abi.NoEscape", "internal/bytealg.MakeNoZero"], apart := false, narrowed := true }
def FnExactLockTextUptoSaid : Prop := fnExactLockTextUptoRow.holds Try.pinned (OpenSpec.upto fnExactLockTextSpec)

/-- 'laws.FnMacs', WHERE WHAT IT READS IS OF BULK AT MOST 1048576: true; the input reads as it did. -/
def fnMacsUptoRow : OpenClaim := { program := "ythlakoofnnnlgaa", sum := "bace22848c46d0ff1a3b3755a62ff9aacb2ca3b3bc6431a8ed4bef36ef8b535b", func := "loop.example/g00193/laws.FnMacs", spec := "fnMacs", inPlace := ["internal/abi.NoEscape", "internal/bytealg.MakeNoZero"], apart := false, narrowed := true }
def FnMacsUptoSaid : Prop := fnMacsUptoRow.holds Try.pinned (OpenSpec.upto fnMacsSpec)

/-- 'laws.FnExactOpenText', WHERE WHAT IT READS IS OF BULK AT MOST 1048576: true; the input reads as it did. -/
def fnExactOpenTextUptoRow : OpenClaim := { program := "ythlakoofnnnlgaa", sum := "bace22848c46d0ff1a3b3755a62ff9aacb2ca3b3bc6431a8ed4bef36ef8b535b", func := "loop.example/g00193/laws.FnExactOpenText", spec := "fnExactOpenText", inPlace := ["internal/abi.NoEscape", "internal/bytealg.MakeNoZero"], apart := false, narrowed := true }
def FnExactOpenTextUptoSaid : Prop := fnExactOpenTextUptoRow.holds Try.pinned (OpenSpec.upto fnExactOpenTextSpec)

/-- 'laws.FnSigns', WHERE WHAT IT READS IS OF BULK AT MOST 1048576: true; the input reads as it did. -/
def fnSignsUptoRow : OpenClaim := { program := "ythlakoofnnnlgaa", sum := "bace22848c46d0ff1a3b3755a62ff9aacb2ca3b3bc6431a8ed4bef36ef8b535b", func := "loop.example/g00193/laws.FnSigns", spec := "fnSigns", inPlace := ["internal/abi.NoEscape", "internal/bytealg.MakeNoZero"], apart := false, narrowed := true }
def FnSignsUptoSaid : Prop := fnSignsUptoRow.holds Try.pinned (OpenSpec.upto fnSignsSpec)

/-- 'laws.FnLocks', WHERE WHAT IT READS IS OF BULK AT MOST 1048576: true; the input reads as it did. -/
def fnLocksUptoRow : OpenClaim := { program := "ythlakoofnnnlgaa", sum := "bace22848c46d0ff1a3b3755a62ff9aacb2ca3b3bc6431a8ed4bef36ef8b535b", func := "loop.example/g00193/laws.FnLocks", spec := "fnLocks", inPlace := ["internal/abi.NoEscape", "internal/bytealg.MakeNoZero"], apart := false, narrowed := true }
def FnLocksUptoSaid : Prop := fnLocksUptoRow.holds Try.pinned (OpenSpec.upto fnLocksSpec)

end Rows
end Go.Proofs.Ythlakoofnnnlgaa
