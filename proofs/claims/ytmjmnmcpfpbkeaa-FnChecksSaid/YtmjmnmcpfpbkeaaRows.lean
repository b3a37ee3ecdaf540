/-
  No cell of these rows narrows 'for every input' (looked for: loops, veiled, ifaces, maps, wideKeys, modest, calm, conditions, laid).
  DERIVED. THE GIVEN ROWS OF THIS SEAT. 4 by the template 'for every input the law returns true; each argument reads behind the call as it read before'; 0 by the template 'total and deterministic' (their statements: YtmjmnmcpfpbkeaaTotals.lean).
  GIVEN WITH THE SEED: the statements are not yours to turn. If you find one false, say at which input.
  Laid BY PROGRAM, IN A SANDBOX (cutbox-rows.mjs): the forced cells as the released guide's own fill.sh prints them over the translation b8914fc0879f1b03… (all of the seat's roots in one cut). By AI agents, Wed Nov 11 2026. No macro, syntax, notation, axiom, sorry.
-/
import Derived.Test.YtmjmnmcpfpbkeaaChecked
import GoSem.Claim
import GoSem.ClaimJoined
import GoSem.ClaimMapViews
import Derived.JoinedTies
import Derived.KernelRfl
namespace Go.Proofs.Ytmjmnmcpfpbkeaa
/- THE CELL 'sum', in the pinned program and in every row, IS THE sha256 OF THE DUMP (.gsa) THAT YtmjmnmcpfpbkeaaProg.lean LOADS. Nothing in Lean hashes anything: it is a label: what it is worth is what the hold of that sum in a sandbox is worth. -/
noncomputable def Try.pinned : Pinned := { name := "ytmjmnmcpfpbkeaa", sum := "b8914fc0879f1b03e6c236524c81db07efcce42ca39baf5162a98c500e66e2a7", checked := Try.checked }
namespace Rows
def none {H : Type} : Left H := { results := [], args := [] }

/-- 'laws.FnHashers': WHATEVER THE INPUT: true; the input reads as it did. -/
def fnHashersSpec : ChangeSpec := { name := "fnHashers", fn := fun _ => fun
  | [d] => { results := [.lit (.bool true)], args := [d] }
  | _ => none }
def fnHashersRow : OpenClaim := { program := "ytmjmnmcpfpbkeaa", sum := "b8914fc0879f1b03e6c236524c81db07efcce42ca39baf5162a98c500e66e2a7", func := "loop.example/g00193/laws.FnHashers", spec := "fnHashers", inPlace := ["internal/abi.NoEscape", "internal/bytealg.MakeNoZero"], apart := false }
def FnHashersSaid : Prop := fnHashersRow.holds Try.pinned (OpenSpec.ofChange fnHashersSpec)

/-- ITS FALSE NEIGHBOUR: 'it returns false'. Refute it at one input. -/
def fnHashersWrong : ChangeSpec := { name := "fnHashers", fn := fun _ => fun
  | [d] => { results := [.lit (.bool false)], args := [d] }
  | _ => none }
def FnHashersWrongFalsely : Prop := fnHashersRow.holds Try.pinned (OpenSpec.ofChange fnHashersWrong)

/-- 'laws.FnSigns': WHATEVER THE INPUT: true; the input reads as it did. -/
def fnSignsSpec : ChangeSpec := { name := "fnSigns", fn := fun _ => fun
  | [d] => { results := [.lit (.bool true)], args := [d] }
  | _ => none }
def fnSignsRow : OpenClaim := { program := "ytmjmnmcpfpbkeaa", sum := "b8914fc0879f1b03e6c236524c81db07efcce42ca39baf5162a98c500e66e2a7", func := "loop.example/g00193/laws.FnSigns", spec := "fnSigns", inPlace := ["internal/abi.NoEscape", "internal/bytealg.MakeNoZero"], apart := false }
def FnSignsSaid : Prop := fnSignsRow.holds Try.pinned (OpenSpec.ofChange fnSignsSpec)

/-- ITS FALSE NEIGHBOUR: 'it returns false'. Refute it at one input. -/
def fnSignsWrong : ChangeSpec := { name := "fnSigns", fn := fun _ => fun
  | [d] => { results := [.lit (.bool false)], args := [d] }
  | _ => none }
def FnSignsWrongFalsely : Prop := fnSignsRow.holds Try.pinned (OpenSpec.ofChange fnSignsWrong)

/-- 'laws.FnExactReadSig': WHATEVER THE INPUT: true; the input reads as it did. -/
def fnExactReadSigSpec : ChangeSpec := { name := "fnExactReadSig", fn := fun _ => fun
  | [d] => { results := [.lit (.bool true)], args := [d] }
  | _ => none }
def fnExactReadSigRow : OpenClaim := { program := "ytmjmnmcpfpbkeaa", sum := "b8914fc0879f1b03e6c236524c81db07efcce42ca39baf5162a98c500e66e2a7", func := "loop.example/g00193/laws.FnExactReadSig", spec := "fnExactReadSig", apart := false }
def FnExactReadSigSaid : Prop := fnExactReadSigRow.holds Try.pinned (OpenSpec.ofChange fnExactReadSigSpec)

/-- ITS FALSE NEIGHBOUR: 'it returns false'. Refute it at one input. -/
def fnExactReadSigWrong : ChangeSpec := { name := "fnExactReadSig", fn := fun _ => fun
  | [d] => { results := [.lit (.bool false)], args := [d] }
  | _ => none }
def FnExactReadSigWrongFalsely : Prop := fnExactReadSigRow.holds Try.pinned (OpenSpec.ofChange fnExactReadSigWrong)

/-- 'laws.FnChecks': WHATEVER THE INPUT: true; the input reads as it did. -/
def fnChecksSpec : ChangeSpec := { name := "fnChecks", fn := fun _ => fun
  | [d] => { results := [.lit (.bool true)], args := [d] }
  | _ => none }
def fnChecksRow : OpenClaim := { program := "ytmjmnmcpfpbkeaa", sum := "b8914fc0879f1b03e6c236524c81db07efcce42ca39baf5162a98c500e66e2a7", func := "loop.example/g00193/laws.FnChecks", spec := "fnChecks", inPlace := ["internal/abi.NoEscape", "internal/bytealg.MakeNoZero"], apart := false }
def FnChecksSaid : Prop := fnChecksRow.holds Try.pinned (OpenSpec.ofChange fnChecksSpec)

/-- ITS FALSE NEIGHBOUR: 'it returns false'. Refute it at one input. -/
def fnChecksWrong : ChangeSpec := { name := "fnChecks", fn := fun _ => fun
  | [d] => { results := [.lit (.bool false)], args := [d] }
  | _ => none }
def FnChecksWrongFalsely : Prop := fnChecksRow.holds Try.pinned (OpenSpec.ofChange fnChecksWrong)

/- THE SECOND FORM. 'bulk': how many values and letters a reading holds, each counted each time it is reached (what is shared counts as often as it is met; a slice's spare places count too). A statement '..UptoSaid' is the law's where the arguments, and the package variables that the reading takes, are together of bulk at most 1048576: NARROWER than '..Said'. Prove '..Said' where nothing that the law and all that it calls make is longer than what came in: it says more and counts as full. Else prove '..UptoSaid'. A law counts once. -/
mutual
def uptoBulk {H : Type} : DataW H → Nat
  | .lit (.string bytes) => bytes.length + 1
  | .lit _ => 1
  | .nil => 1
  | .ptr d => uptoBulk d + 1
  | .slice elems spare => uptoBulkAll elems + uptoBulkAll spare + 1
  | .agg parts => uptoBulkAll parts + 1
  | .iface _ d => uptoBulk d + 1
  | .map entries => uptoBulkEntries entries + 1
  | .held _ => 1
def uptoBulkAll {H : Type} : List (DataW H) → Nat
  | [] => 0
  | d :: r => uptoBulk d + uptoBulkAll r
def uptoBulkEntries {H : Type} : List (Lit × DataW H) → Nat
  | [] => 0
  | x :: r => uptoBulkEntry x + uptoBulkEntries r
def uptoBulkEntry {H : Type} : Lit × DataW H → Nat
  | (.string bytes, d) => bytes.length + uptoBulk d + 1
  | (_, d) => uptoBulk d + 1
 end
def uptoSmall : (H : Type) → List (DataW H) → Bool := fun _ ds => decide (uptoBulkAll ds ≤ 1048576)
def OpenSpec.upto (s : _root_.Go.ChangeSpec) : _root_.Go.OpenSpec := { _root_.Go.OpenSpec.ofChange s with cond := some uptoSmall }

/-- 'laws.FnHashers', WHERE WHAT IT READS IS OF BULK AT MOST 1048576: true; the input reads as it did. -/
def fnHashersUptoRow : OpenClaim := { program := "ytmjmnmcpfpbkeaa", sum := "b8914fc0879f1b03e6c236524c81db07efcce42ca39baf5162a98c500e66e2a7", func := "loop.example/g00193/laws.FnHashers", spec := "fnHashers", inPlace := ["internal/abi.NoEscape", "internal/bytealg.MakeNoZero"], apart := false, narrowed := true }
def FnHashersUptoSaid : Prop := fnHashersUptoRow.holds Try.pinned (OpenSpec.upto fnHashersSpec)

/-- 'laws.FnSigns', WHERE WHAT IT READS IS OF BULK AT MOST 1048576: true; the input reads as it did. -/
def fnSignsUptoRow : OpenClaim := { program := "ytmjmnmcpfpbkeaa", sum := "b8914fc0879f1b03e6c236524c81db07efcce42ca39baf5162a98c500e66e2a7", func := "loop.example/g00193/laws.FnSigns", spec := "fnSigns", inPlace := ["internal/abi.NoEscape", "internal/bytealg.MakeNoZero"], apart := false, narrowed := true }
def FnSignsUptoSaid : Prop := fnSignsUptoRow.holds Try.pinned (OpenSpec.upto fnSignsSpec)

/-- 'laws.FnExactReadSig', WHERE WHAT IT READS IS OF BULK AT MOST 1048576: true; the input reads as it did. -/
def fnExactReadSigUptoRow : OpenClaim := { program := "ytmjmnmcpfpbkeaa", sum := "b8914fc0879f1b03e6c236524c81db07efcce42ca39baf5162a98c500e66e2a7", func := "loop.example/g00193/laws.FnExactReadSig", spec := "fnExactReadSig", apart := false, narrowed := true }
def FnExactReadSigUptoSaid : Prop := fnExactReadSigUptoRow.holds Try.pinned (OpenSpec.upto fnExactReadSigSpec)

/-- 'laws.FnChecks', WHERE WHAT IT READS IS OF BULK AT MOST 1048576: true; the input reads as it did. -/
def fnChecksUptoRow : OpenClaim := { program := "ytmjmnmcpfpbkeaa", sum := "b8914fc0879f1b03e6c236524c81db07efcce42ca39baf5162a98c500e66e2a7", func := "loop.example/g00193/laws.FnChecks", spec := "fnChecks", inPlace := ["internal/abi.NoEscape", "internal/bytealg.MakeNoZero"], apart := false, narrowed := true }
def FnChecksUptoSaid : Prop := fnChecksUptoRow.holds Try.pinned (OpenSpec.upto fnChecksSpec)

end Rows
end Go.Proofs.Ytmjmnmcpfpbkeaa
