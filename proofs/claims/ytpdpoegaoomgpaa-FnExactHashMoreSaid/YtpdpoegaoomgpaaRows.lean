/-
  No cell of these rows narrows 'for every input' (looked for: loops, veiled, ifaces, maps, wideKeys, modest, calm, conditions, laid).
  DERIVED. THE GIVEN ROWS OF THIS SEAT. 10 by the template 'for every input the law returns true; each argument reads behind the call as it read before'; 0 by the template 'total and deterministic' (their statements: YtpdpoegaoomgpaaTotals.lean).
  GIVEN WITH THE SEED: the statements are not yours to turn. If you find one false, say at which input.
  Laid BY PROGRAM, IN A SANDBOX (cutbox-rows.mjs): the forced cells as the released guide's own fill.sh prints them over the translation 1e64040fb78c1163… (all of the seat's roots in one cut). By AI agents, Wed Nov 11 2026. No macro, syntax, notation, axiom, sorry.
-/
import Derived.Test.YtpdpoegaoomgpaaChecked
import GoSem.Claim
import GoSem.ClaimJoined
import GoSem.ClaimMapViews
import Derived.JoinedTies
import Derived.KernelRfl
namespace Go.Proofs.Ytpdpoegaoomgpaa
/- THE CELL 'sum', in the pinned program and in every row, IS THE sha256 OF THE DUMP (.gsa) THAT YtpdpoegaoomgpaaProg.lean LOADS. Nothing in Lean hashes anything: it is a label: what it is worth is what the hold of that sum in a sandbox is worth. -/
noncomputable def Try.pinned : Pinned := { name := "ytpdpoegaoomgpaa", sum := "1e64040fb78c116366ddeaa273c9d1db1e0a9b9c262709ca4fb8a2d46b25011b", checked := Try.checked }
namespace Rows
def none {H : Type} : Left H := { results := [], args := [] }

/-- 'laws.FnExactReadSig': WHATEVER THE INPUT: true; the input reads as it did. -/
def fnExactReadSigSpec : ChangeSpec := { name := "fnExactReadSig", fn := fun _ => fun
  | [d] => { results := [.lit (.bool true)], args := [d] }
  | _ => none }
def fnExactReadSigRow : OpenClaim := { program := "ytpdpoegaoomgpaa", sum := "1e64040fb78c116366ddeaa273c9d1db1e0a9b9c262709ca4fb8a2d46b25011b", func := "loop.example/g00193/laws.FnExactReadSig", spec := "fnExactReadSig", apart := false }
def FnExactReadSigSaid : Prop := fnExactReadSigRow.holds Try.pinned (OpenSpec.ofChange fnExactReadSigSpec)

/-- ITS FALSE NEIGHBOUR: 'it returns false'. Refute it at one input. -/
def fnExactReadSigWrong : ChangeSpec := { name := "fnExactReadSig", fn := fun _ => fun
  | [d] => { results := [.lit (.bool false)], args := [d] }
  | _ => none }
def FnExactReadSigWrongFalsely : Prop := fnExactReadSigRow.holds Try.pinned (OpenSpec.ofChange fnExactReadSigWrong)

/-- 'laws.FnExactSealed': WHATEVER THE INPUT: true; the input reads as it did. -/
def fnExactSealedSpec : ChangeSpec := { name := "fnExactSealed", fn := fun _ => fun
  | [d] => { results := [.lit (.bool true)], args := [d] }
  | _ => none }
def fnExactSealedRow : OpenClaim := { program := "ytpdpoegaoomgpaa", sum := "1e64040fb78c116366ddeaa273c9d1db1e0a9b9c262709ca4fb8a2d46b25011b", func := "loop.example/g00193/laws.FnExactSealed", spec := "fnExactSealed", apart := false }
def FnExactSealedSaid : Prop := fnExactSealedRow.holds Try.pinned (OpenSpec.ofChange fnExactSealedSpec)

/-- ITS FALSE NEIGHBOUR: 'it returns false'. Refute it at one input. -/
def fnExactSealedWrong : ChangeSpec := { name := "fnExactSealed", fn := fun _ => fun
  | [d] => { results := [.lit (.bool false)], args := [d] }
  | _ => none }
def FnExactSealedWrongFalsely : Prop := fnExactSealedRow.holds Try.pinned (OpenSpec.ofChange fnExactSealedWrong)

/-- 'laws.FnExactPublicOf': WHATEVER THE INPUT: true; the input reads as it did. -/
def fnExactPublicOfSpec : ChangeSpec := { name := "fnExactPublicOf", fn := fun _ => fun
  | [d] => { results := [.lit (.bool true)], args := [d] }
  | _ => none }
def fnExactPublicOfRow : OpenClaim := { program := "ytpdpoegaoomgpaa", sum := "1e64040fb78c116366ddeaa273c9d1db1e0a9b9c262709ca4fb8a2d46b25011b", func := "loop.example/g00193/laws.FnExactPublicOf", spec := "fnExactPublicOf", apart := false }
def FnExactPublicOfSaid : Prop := fnExactPublicOfRow.holds Try.pinned (OpenSpec.ofChange fnExactPublicOfSpec)

/-- ITS FALSE NEIGHBOUR: 'it returns false'. Refute it at one input. -/
def fnExactPublicOfWrong : ChangeSpec := { name := "fnExactPublicOf", fn := fun _ => fun
  | [d] => { results := [.lit (.bool false)], args := [d] }
  | _ => none }
def FnExactPublicOfWrongFalsely : Prop := fnExactPublicOfRow.holds Try.pinned (OpenSpec.ofChange fnExactPublicOfWrong)

/-- 'laws.FnExactSharedOf': WHATEVER THE INPUT: true; the input reads as it did. -/
def fnExactSharedOfSpec : ChangeSpec := { name := "fnExactSharedOf", fn := fun _ => fun
  | [d1, d2] => { results := [.lit (.bool true)], args := [d1, d2] }
  | _ => none }
def fnExactSharedOfRow : OpenClaim := { program := "ytpdpoegaoomgpaa", sum := "1e64040fb78c116366ddeaa273c9d1db1e0a9b9c262709ca4fb8a2d46b25011b", func := "loop.example/g00193/laws.FnExactSharedOf", spec := "fnExactSharedOf", apart := false }
def FnExactSharedOfSaid : Prop := fnExactSharedOfRow.holds Try.pinned (OpenSpec.ofChange fnExactSharedOfSpec)

/-- ITS FALSE NEIGHBOUR: 'it returns false'. Refute it at one input. -/
def fnExactSharedOfWrong : ChangeSpec := { name := "fnExactSharedOf", fn := fun _ => fun
  | [d1, d2] => { results := [.lit (.bool false)], args := [d1, d2] }
  | _ => none }
def FnExactSharedOfWrongFalsely : Prop := fnExactSharedOfRow.holds Try.pinned (OpenSpec.ofChange fnExactSharedOfWrong)

/-- 'laws.FnExactReadShort': WHATEVER THE INPUT: true; the input reads as it did. -/
def fnExactReadShortSpec : ChangeSpec := { name := "fnExactReadShort", fn := fun _ => fun
  | [d1, d2] => { results := [.lit (.bool true)], args := [d1, d2] }
  | _ => none }
def fnExactReadShortRow : OpenClaim := { program := "ytpdpoegaoomgpaa", sum := "1e64040fb78c116366ddeaa273c9d1db1e0a9b9c262709ca4fb8a2d46b25011b", func := "loop.example/g00193/laws.FnExactReadShort", spec := "fnExactReadShort", apart := false }
def FnExactReadShortSaid : Prop := fnExactReadShortRow.holds Try.pinned (OpenSpec.ofChange fnExactReadShortSpec)

/-- ITS FALSE NEIGHBOUR: 'it returns false'. Refute it at one input. -/
def fnExactReadShortWrong : ChangeSpec := { name := "fnExactReadShort", fn := fun _ => fun
  | [d1, d2] => { results := [.lit (.bool false)], args := [d1, d2] }
  | _ => none }
def FnExactReadShortWrongFalsely : Prop := fnExactReadShortRow.holds Try.pinned (OpenSpec.ofChange fnExactReadShortWrong)

/-- 'laws.FnExactUnsealed': WHATEVER THE INPUT: true; the input reads as it did. -/
def fnExactUnsealedSpec : ChangeSpec := { name := "fnExactUnsealed", fn := fun _ => fun
  | [d] => { results := [.lit (.bool true)], args := [d] }
  | _ => none }
def fnExactUnsealedRow : OpenClaim := { program := "ytpdpoegaoomgpaa", sum := "1e64040fb78c116366ddeaa273c9d1db1e0a9b9c262709ca4fb8a2d46b25011b", func := "loop.example/g00193/laws.FnExactUnsealed", spec := "fnExactUnsealed", apart := false }
def FnExactUnsealedSaid : Prop := fnExactUnsealedRow.holds Try.pinned (OpenSpec.ofChange fnExactUnsealedSpec)

/-- ITS FALSE NEIGHBOUR: 'it returns false'. Refute it at one input. -/
def fnExactUnsealedWrong : ChangeSpec := { name := "fnExactUnsealed", fn := fun _ => fun
  | [d] => { results := [.lit (.bool false)], args := [d] }
  | _ => none }
def FnExactUnsealedWrongFalsely : Prop := fnExactUnsealedRow.holds Try.pinned (OpenSpec.ofChange fnExactUnsealedWrong)

/-- 'laws.FnTurned': WHATEVER THE INPUT: true; the input reads as it did. -/
def fnTurnedSpec : ChangeSpec := { name := "fnTurned", fn := fun _ => fun
  | [d] => { results := [.lit (.bool true)], args := [d] }
  | _ => none }
def fnTurnedRow : OpenClaim := { program := "ytpdpoegaoomgpaa", sum := "1e64040fb78c116366ddeaa273c9d1db1e0a9b9c262709ca4fb8a2d46b25011b", func := "loop.example/g00193/laws.FnTurned", spec := "fnTurned", apart := false }
def FnTurnedSaid : Prop := fnTurnedRow.holds Try.pinned (OpenSpec.ofChange fnTurnedSpec)

/-- ITS FALSE NEIGHBOUR: 'it returns false'. Refute it at one input. -/
def fnTurnedWrong : ChangeSpec := { name := "fnTurned", fn := fun _ => fun
  | [d] => { results := [.lit (.bool false)], args := [d] }
  | _ => none }
def FnTurnedWrongFalsely : Prop := fnTurnedRow.holds Try.pinned (OpenSpec.ofChange fnTurnedWrong)

/-- 'laws.FnPowers': WHATEVER THE INPUT: true; the input reads as it did. -/
def fnPowersSpec : ChangeSpec := { name := "fnPowers", fn := fun _ => fun
  | [d] => { results := [.lit (.bool true)], args := [d] }
  | _ => none }
def fnPowersRow : OpenClaim := { program := "ytpdpoegaoomgpaa", sum := "1e64040fb78c116366ddeaa273c9d1db1e0a9b9c262709ca4fb8a2d46b25011b", func := "loop.example/g00193/laws.FnPowers", spec := "fnPowers", apart := false }
def FnPowersSaid : Prop := fnPowersRow.holds Try.pinned (OpenSpec.ofChange fnPowersSpec)

/-- ITS FALSE NEIGHBOUR: 'it returns false'. Refute it at one input. -/
def fnPowersWrong : ChangeSpec := { name := "fnPowers", fn := fun _ => fun
  | [d] => { results := [.lit (.bool false)], args := [d] }
  | _ => none }
def FnPowersWrongFalsely : Prop := fnPowersRow.holds Try.pinned (OpenSpec.ofChange fnPowersWrong)

/-- 'laws.FnExactHashMore': WHATEVER THE INPUT: true; the input reads as it did. -/
def fnExactHashMoreSpec : ChangeSpec := { name := "fnExactHashMore", fn := fun _ => fun
  | [d1, d2] => { results := [.lit (.bool true)], args := [d1, d2] }
  | _ => none }
def fnExactHashMoreRow : OpenClaim := { program := "ytpdpoegaoomgpaa", sum := "1e64040fb78c116366ddeaa273c9d1db1e0a9b9c262709ca4fb8a2d46b25011b", func := "loop.example/g00193/laws.FnExactHashMore", spec := "fnExactHashMore", apart := false }
def FnExactHashMoreSaid : Prop := fnExactHashMoreRow.holds Try.pinned (OpenSpec.ofChange fnExactHashMoreSpec)

/-- ITS FALSE NEIGHBOUR: 'it returns false'. Refute it at one input. -/
def fnExactHashMoreWrong : ChangeSpec := { name := "fnExactHashMore", fn := fun _ => fun
  | [d1, d2] => { results := [.lit (.bool false)], args := [d1, d2] }
  | _ => none }
def FnExactHashMoreWrongFalsely : Prop := fnExactHashMoreRow.holds Try.pinned (OpenSpec.ofChange fnExactHashMoreWrong)

/-- 'laws.FnShared': WHATEVER THE INPUT: true; the input reads as it did. -/
def fnSharedSpec : ChangeSpec := { name := "fnShared", fn := fun _ => fun
  | [d] => { results := [.lit (.bool true)], args := [d] }
  | _ => none }
def fnSharedRow : OpenClaim := { program := "ytpdpoegaoomgpaa", sum := "1e64040fb78c116366ddeaa273c9d1db1e0a9b9c262709ca4fb8a2d46b25011b", func := "loop.example/g00193/laws.FnShared", spec := "fnShared", apart := false }
def FnSharedSaid : Prop := fnSharedRow.holds Try.pinned (OpenSpec.ofChange fnSharedSpec)

/-- ITS FALSE NEIGHBOUR: 'it returns false'. Refute it at one input. -/
def fnSharedWrong : ChangeSpec := { name := "fnShared", fn := fun _ => fun
  | [d] => { results := [.lit (.bool false)], args := [d] }
  | _ => none }
def FnSharedWrongFalsely : Prop := fnSharedRow.holds Try.pinned (OpenSpec.ofChange fnSharedWrong)

/- THE SECOND FORM. 'bulk': how many values and letters a reading holds, each counted each time it is reached (what is shared counts as often as it is met; a slice's spare places count too). A statement '..UptoSaid' is the law's where the arguments, and the package variables that the reading takes, are together of bulk at most 1048576: NARROWER than '..Said'. Prove '..Said' where nothing that the law and all that it calls make is longer than what came in: it says more and counts as full. Else prove '..UptoSaid'. A law counts once. -/
mutual
def uptoBulk {H : Type} : DataW H → Nat
  | .lit (.string bytes) => bytes.length + 1
  | .lit _ => 1
  | .nil => 1
  | .ptr d => uptoBulk d + 1
  | .slice elems spare => uptoBulkAll elems + uptoBulkAll spare + 1
  | .agg parts => uptoBulkAll parts + 1
  | .iface _ d => uptoBulk d + 1
  | .map entries => uptoBulkEntries entries + 1
  | .held _ => 1
def uptoBulkAll {H : Type} : List (DataW H) → Nat
  | [] => 0
  | d :: r => uptoBulk d + uptoBulkAll r
def uptoBulkEntries {H : Type} : List (Lit × DataW H) → Nat
  | [] => 0
  | x :: r => uptoBulkEntry x + uptoBulkEntries r
def uptoBulkEntry {H : Type} : Lit × DataW H → Nat
  | (.string bytes, d) => bytes.length + uptoBulk d + 1
  | (_, d) => uptoBulk d + 1
 end
def uptoSmall : (H : Type) → List (DataW H) → Bool := fun _ ds => decide (uptoBulkAll ds ≤ 1048576)
def OpenSpec.upto (s : _root_.Go.ChangeSpec) : _root_.Go.OpenSpec := { _root_.Go.OpenSpec.ofChange s with cond := some uptoSmall }

/-- 'laws.FnExactReadSig', WHERE WHAT IT READS IS OF BULK AT MOST 1048576: true; the input reads as it did. -/
def fnExactReadSigUptoRow : OpenClaim := { program := "ytpdpoegaoomgpaa", sum := "1e64040fb78c116366ddeaa273c9d1db1e0a9b9c262709ca4fb8a2d46b25011b", func := "loop.example/g00193/laws.FnExactReadSig", spec := "fnExactReadSig", apart := false, narrowed := true }
def FnExactReadSigUptoSaid : Prop := fnExactReadSigUptoRow.holds Try.pinned (OpenSpec.upto fnExactReadSigSpec)

/-- 'laws.FnExactSealed', WHERE WHAT IT READS IS OF BULK AT MOST 1048576: true; the input reads as it did. -/
def fnExactSealedUptoRow : OpenClaim := { program := "ytpdpoegaoomgpaa", sum := "1e64040fb78c116366ddeaa273c9d1db1e0a9b9c262709ca4fb8a2d46b25011b", func := "loop.example/g00193/laws.FnExactSealed", spec := "fnExactSealed", apart := false, narrowed := true }
def FnExactSealedUptoSaid : Prop := fnExactSealedUptoRow.holds Try.pinned (OpenSpec.upto fnExactSealedSpec)

/-- 'laws.FnExactPublicOf', WHERE WHAT IT READS IS OF BULK AT MOST 1048576: true; the input reads as it did. -/
def fnExactPublicOfUptoRow : OpenClaim := { program := "ytpdpoegaoomgpaa", sum := "1e64040fb78c116366ddeaa273c9d1db1e0a9b9c262709ca4fb8a2d46b25011b", func := "loop.example/g00193/laws.FnExactPublicOf", spec := "fnExactPublicOf", apart := false, narrowed := true }
def FnExactPublicOfUptoSaid : Prop := fnExactPublicOfUptoRow.holds Try.pinned (OpenSpec.upto fnExactPublicOfSpec)

/-- 'laws.FnExactSharedOf', WHERE WHAT IT READS IS OF BULK AT MOST 1048576: true; the input reads as it did. -/
def fnExactSharedOfUptoRow : OpenClaim := { program := "ytpdpoegaoomgpaa", sum := "1e64040fb78c116366ddeaa273c9d1db1e0a9b9c262709ca4fb8a2d46b25011b", func := "loop.example/g00193/laws.FnExactSharedOf", spec := "fnExactSharedOf", apart := false, narrowed := true }
def FnExactSharedOfUptoSaid : Prop := fnExactSharedOfUptoRow.holds Try.pinned (OpenSpec.upto fnExactSharedOfSpec)

/-- 'laws.FnExactReadShort', WHERE WHAT IT READS IS OF BULK AT MOST 1048576: true; the input reads as it did. -/
def fnExactReadShortUptoRow : OpenClaim := { program := "ytpdpoegaoomgpaa", sum := "1e64040fb78c116366ddeaa273c9d1db1e0a9b9c262709ca4fb8a2d46b25011b", func := "loop.example/g00193/laws.FnExactReadShort", spec := "fnExactReadShort", apart := false, narrowed := true }
def FnExactReadShortUptoSaid : Prop := fnExactReadShortUptoRow.holds Try.pinned (OpenSpec.upto fnExactReadShortSpec)

/-- 'laws.FnExactUnsealed', WHERE WHAT IT READS IS OF BULK AT MOST 1048576: true; the input reads as it did. -/
def fnExactUnsealedUptoRow : OpenClaim := { program := "ytpdpoegaoomgpaa", sum := "1e64040fb78c116366ddeaa273c9d1db1e0a9b9c262709ca4fb8a2d46b25011b", func := "loop.example/g00193/laws.FnExactUnsealed", spec := "fnExactUnsealed", apart := false, narrowed := true }
def FnExactUnsealedUptoSaid : Prop := fnExactUnsealedUptoRow.holds Try.pinned (OpenSpec.upto fnExactUnsealedSpec)

/-- 'laws.FnTurned', WHERE WHAT IT READS IS OF BULK AT MOST 1048576: true; the input reads as it did. -/
def fnTurnedUptoRow : OpenClaim := { program := "ytpdpoegaoomgpaa", sum := "1e64040fb78c116366ddeaa273c9d1db1e0a9b9c262709ca4fb8a2d46b25011b", func := "loop.example/g00193/laws.FnTurned", spec := "fnTurned", apart := false, narrowed := true }
def FnTurnedUptoSaid : Prop := fnTurnedUptoRow.holds Try.pinned (OpenSpec.upto fnTurnedSpec)

/-- 'laws.FnPowers', WHERE WHAT IT READS IS OF BULK AT MOST 1048576: true; the input reads as it did. -/
def fnPowersUptoRow : OpenClaim := { program := "ytpdpoegaoomgpaa", sum := "1e64040fb78c116366ddeaa273c9d1db1e0a9b9c262709ca4fb8a2d46b25011b", func := "loop.example/g00193/laws.FnPowers", spec := "fnPowers", apart := false, narrowed := true }
def FnPowersUptoSaid : Prop := fnPowersUptoRow.holds Try.pinned (OpenSpec.upto fnPowersSpec)

/-- 'laws.FnExactHashMore', WHERE WHAT IT READS IS OF BULK AT MOST 1048576: true; the input reads as it did. -/
def fnExactHashMoreUptoRow : OpenClaim := { program := "ytpdpoegaoomgpaa", sum := "1e64040fb78c116366ddeaa273c9d1db1e0a9b9c262709ca4fb8a2d46b25011b", func := "loop.example/g00193/laws.FnExactHashMore", spec := "fnExactHashMore", apart := false, narrowed := true }
def FnExactHashMoreUptoSaid : Prop := fnExactHashMoreUptoRow.holds Try.pinned (OpenSpec.upto fnExactHashMoreSpec)

/-- 'laws.FnShared', WHERE WHAT IT READS IS OF BULK AT MOST 1048576: true; the input reads as it did. -/
def fnSharedUptoRow : OpenClaim := { program := "ytpdpoegaoomgpaa", sum := "1e64040fb78c116366ddeaa273c9d1db1e0a9b9c262709ca4fb8a2d46b25011b", func := "loop.example/g00193/laws.FnShared", spec := "fnShared", apart := false, narrowed := true }
def FnSharedUptoSaid : Prop := fnSharedUptoRow.holds Try.pinned (OpenSpec.upto fnSharedSpec)

end Rows
end Go.Proofs.Ytpdpoegaoomgpaa
