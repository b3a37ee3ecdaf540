/- The row of FnExactPrefixOk: its statement follows from the pure statement, by the printed contract of its function. -/
import Derived.Test.YthffbhmmpcmklaaRows
import Derived.Test.YthffbhmmpcmklaaPFnExactPrefixOkx
import Derived.Test.YthffbhmmpcmklaaPureFnExactPrefixOk
import Derived.WalkKit
import Derived.ProofKit
import Derived.OpenShut
import Derived.ShutString
import Derived.ChangeOld
import Derived.Below
import Derived.SizedLaws
import Derived.Lib.SmallJoins
import Derived.JoinedOf
import Derived.JoinedAt
import Derived.RowKit3
namespace Go.Proofs.Ythffbhmmpcmklaa.fnExactPrefixOk
open Go.ChangeShapes Go.WideShapes Go.ChangeAt Go.RowKit Go.Joins
open Go.ChangeMaps (open_string shut_string)
set_option linter.unusedVariables false
set_option linter.unusedSimpArgs false
theorem own : ownKnob Try.prog.godebug = none := by kernel_rfl
theorem cells32 : Try.prog.cellsOf 32 = 2 := by kernel_rfl
theorem walk (a0_0 : Int) (a0_1 : Int) (W : World) (ha0_0 : (Lit.int .i64 a0_0).wf = true) (ha0_1 : (Lit.int .i64 a0_1).wf = true) :
    Calls Try.prog 9 #[(.agg #[.int .i64 a0_0, .int .i64 a0_1])] W fun e w' => e = .returned (.bool true) ∧ Below W.heap.size W w' := by
  obtain ⟨k, h⟩ := Go.Proofs.Ythffbhmmpcmklaa.Pure.FnExactPrefixOk.FnExactPrefixOk a0_0 a0_1 ha0_0 ha0_1
  refine (Go.Proofs.Ythffbhmmpcmklaa.PFnExactPrefixOk.laws_FnExactPrefixOk.calls k a0_0 a0_1 true W h).mono ?_
  rintro e w' ⟨rfl, hd⟩
  exact ⟨rfl, by first | exact hd | exact hd.below⟩
set_option maxRecDepth 100000 in
theorem lifted (os : Os) (started : os.Started) (H : Type) (enc : TypeId × Value → H) :
    ReturnsInHanded {} Try.checked os 9 .any (Rows.fnExactPrefixOkSpec.pre6 enc Try.prog Try.f9 Rows.fnExactPrefixOkRow.domain false) (Rows.fnExactPrefixOkSpec.post enc Try.prog Try.f9 false true false false) := by
  refine returnsInHanded_of_change_sized (C := Try.checked) own started (by kernel_rfl) Try.func9
    (ChangeSpec.witness6 (enc := enc) (C := Try.checked) false ⟨#[], #[(.agg #[.int .i64 0, .int .i64 0])], []⟩ 8 (by kernel_rfl) (by kernel_rfl) (by kernel_rfl) (by kernel_rfl)) ?_
  intro W base args ds gs before hval0 hW hcnd hsz0 _
  have hsz : (DataW.weightsEach Try.prog (Try.f9.params.toList ++ Rows.fnExactPrefixOkSpec.plain.varTypes Try.prog) (ds ++ gs)).all (· ≤ reachBytes) = true := hsz0
  have hval : ∀ (j : Nat) t v, Try.f9.params[j]? = some t → args[j]? = some v → Value.okWide Try.prog W .any base t v := hval0
  have hW' := hW
  obtain ⟨p, q, hA0, hV, rfl, hfz, hnd⟩ := hW
  have hA : DataW.TrodAll enc Try.prog W 0 (fun _ => true) true Try.f9.params.toList args.toList ds p := hA0
  rw [Try.params9] at hA hval hsz
  obtain ⟨v0, vs0, d0, ds0, p0, q0, hargs, rfl, rfl, h0, r0⟩ := trodAll_cons hA
  obtain ⟨rfl, rfl, rfl⟩ := trodAll_nil r0
  obtain rfl : args = #[v0] := by cases args; simp_all
  obtain ⟨rfl, rfl⟩ := trodVars_none hV
  obtain ⟨c0_0, c0_1, y0_0, y0_1, m0, rfl, rfl, rfl, hy0_0, hy0_1⟩ := open_agg2 Try.underlying32 (by kernel_rfl) cells32 (hval 0 32 v0 rfl rfl) h0
  obtain ⟨a0_0, ea0_0, rfl, wa0_0⟩ := DataW.trod_int Try.underlying3 hy0_0
  obtain ⟨a0_1, ea0_1, rfl, wa0_1⟩ := DataW.trod_int Try.underlying3 hy0_1
  simp at ea0_0 ea0_1
  subst ea0_0 ea0_1
  clear hA0 hval0 hsz0 hsz
  simp only [List.append_nil, List.nil_append] at hW'
  have reads0 : ∀ (W' : World) (sp : Nat → Bool), DataW.Trod enc Try.prog W' 0 sp true 32 (.agg #[.int .i64 a0_0, .int .i64 a0_1]) (.agg [.lit (.int .i64 a0_0), .lit (.int .i64 a0_1)]) [] := fun W' sp =>
    shut_agg2 (y0 := (.lit (.int .i64 a0_0), [])) (y1 := (.lit (.int .i64 a0_1), [])) Try.underlying32 (by kernel_rfl) cells32 ⟨1, by simp [DataW.trod, Try.underlying3, wa0_0]⟩ ⟨1, by simp [DataW.trod, Try.underlying3, wa0_1]⟩
  refine (walk a0_0 a0_1 W wa0_0 wa0_1).mono fun e W' ⟨he, bel⟩ => ?_
  subst he
  exact ⟨_, rfl, _, _, _, [], _, [], hW', trodAll_mk1 (shut_bool Try.underlying4 _), (trodAll_cons_mk (reads0 _ _) trodAll_mk0), rfl, bel.frame _, fun h => by cases h⟩
theorem over : Rows.fnExactPrefixOkRow.holds Try.pinned (OpenSpec.ofChange Rows.fnExactPrefixOkSpec) :=
  OpenClaim.holds_of_wide 9 Try.f9 rfl rfl rfl rfl rfl rfl rfl ⟨rfl, rfl, rfl, rfl, rfl⟩ rfl rfl rfl rfl rfl (by kernel_rfl) Try.func9 (by kernel_rfl)
    (of_decide_eq_true (by kernel_rfl)) (by unfold Func.isWrapper; first | (rw [if_pos (by decide +kernel)]; kernel_rfl) | (rw [if_neg (by decide +kernel)]; exact ⟨rfl, rfl⟩))
    (fun os started H enc _ => lifted os started H enc)
theorem proved : Rows.FnExactPrefixOkSaid := over
#print axioms proved
end Go.Proofs.Ythffbhmmpcmklaa.fnExactPrefixOk
namespace Go.Proofs.Ythffbhmmpcmklaa
/-- The row, under a short name, for the claim. -/
theorem fnExactPrefixOk_holds : Rows.FnExactPrefixOkSaid := fnExactPrefixOk.proved
end Go.Proofs.Ythffbhmmpcmklaa
