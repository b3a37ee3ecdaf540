/- The row of FnExactHashEnd: its statement follows from the pure statement, by the printed contract of its function. -/
import Derived.Test.YtbmedcifganklaaRows
import Derived.Test.YtbmedcifganklaaPFnExactHashEndx
import Derived.Test.YtbmedcifganklaaPureFnExactHashEnd
import Derived.WalkKit
import Derived.ProofKit
import Derived.OpenShut
import Derived.ShutString
import Derived.ChangeOld
import Derived.Below
import Derived.SizedLaws
import Derived.Lib.SmallJoins
import Derived.JoinedOf
import Derived.JoinedAt
import Derived.RowKit3
namespace Go.Proofs.Ytbmedcifganklaa.fnExactHashEnd
open Go.ChangeShapes Go.WideShapes Go.ChangeAt Go.RowKit Go.Joins
open Go.ChangeMaps (open_string shut_string)
set_option linter.unusedVariables false
set_option linter.unusedSimpArgs false
theorem own : ownKnob Try.prog.godebug = none := by kernel_rfl
theorem cells23 : Try.prog.cellsOf 23 = 3 := by kernel_rfl
theorem walk (a0_0 : ByteArray) (a0_1 : ByteArray) (a0_2 : Int) (W : World) (ha0_0 : a0_0.size ≤ 140737488351232) (ha0_1 : a0_1.size ≤ 140737488351232) (ha0_2 : (Lit.int .i64 a0_2).wf = true) :
    Calls Try.prog 3 #[(.agg #[.string a0_0, .string a0_1, .int .i64 a0_2])] W fun e w' => e = .returned (.bool true) ∧ Below W.heap.size W w' := by
  obtain ⟨k, h⟩ := Go.Proofs.Ytbmedcifganklaa.Pure.FnExactHashEnd.FnExactHashEnd a0_0 a0_1 a0_2 ha0_0 ha0_1 ha0_2
  refine (Go.Proofs.Ytbmedcifganklaa.PFnExactHashEnd.laws_FnExactHashEnd.calls k a0_0 a0_1 a0_2 true W h).mono ?_
  rintro e w' ⟨rfl, hd⟩
  exact ⟨rfl, by first | exact hd | exact hd.below⟩
set_option maxRecDepth 100000 in
theorem lifted (os : Os) (started : os.Started) (H : Type) (enc : TypeId × Value → H) :
    ReturnsInHanded {} Try.checked os 3 .any (Rows.fnExactHashEndSpec.pre6 enc Try.prog Try.f3 Rows.fnExactHashEndRow.domain false) (Rows.fnExactHashEndSpec.post enc Try.prog Try.f3 false true false false) := by
  refine returnsInHanded_of_change_sized (C := Try.checked) own started (by kernel_rfl) Try.func3
    (ChangeSpec.witness6 (enc := enc) (C := Try.checked) false ⟨#[], #[(.agg #[.string ByteArray.empty, .string ByteArray.empty, .int .i64 0])], []⟩ 8 (by kernel_rfl) (by kernel_rfl) (by kernel_rfl) (by kernel_rfl)) ?_
  intro W base args ds gs before hval0 hW hcnd hsz0 _
  have hsz : (DataW.weightsEach Try.prog (Try.f3.params.toList ++ Rows.fnExactHashEndSpec.plain.varTypes Try.prog) (ds ++ gs)).all (· ≤ reachBytes) = true := hsz0
  have hval : ∀ (j : Nat) t v, Try.f3.params[j]? = some t → args[j]? = some v → Value.okWide Try.prog W .any base t v := hval0
  have hW' := hW
  obtain ⟨p, q, hA0, hV, rfl, hfz, hnd⟩ := hW
  have hA : DataW.TrodAll enc Try.prog W 0 (fun _ => true) true Try.f3.params.toList args.toList ds p := hA0
  rw [Try.params3] at hA hval hsz
  obtain ⟨v0, vs0, d0, ds0, p0, q0, hargs, rfl, rfl, h0, r0⟩ := trodAll_cons hA
  obtain ⟨rfl, rfl, rfl⟩ := trodAll_nil r0
  obtain rfl : args = #[v0] := by cases args; simp_all
  obtain ⟨rfl, rfl⟩ := trodVars_none hV
  obtain ⟨c0_0, c0_1, c0_2, y0_0, y0_1, y0_2, m0, rfl, rfl, rfl, hy0_0, hy0_1, hy0_2⟩ := open_agg3 Try.underlying23 (by kernel_rfl) cells23 (hval 0 23 v0 rfl rfl) h0
  obtain ⟨a0_0, ea0_0, rfl, ya0_0⟩ := DataW.trod_string Try.underlying9 hy0_0
  obtain ⟨a0_1, ea0_1, rfl, ya0_1⟩ := DataW.trod_string Try.underlying9 hy0_1
  obtain ⟨a0_2, ea0_2, rfl, wa0_2⟩ := DataW.trod_int Try.underlying3 hy0_2
  simp at ea0_0 ea0_1 ea0_2
  subst ea0_0 ea0_1 ea0_2
  have wa0_0 : a0_0.size ≤ 140737488351232 := by
    have z := List.all_eq_true.1 hsz _ (DataW.weights_mem_each (j := 0) (t := 23) rfl rfl a0_0.data.toList.length (by simp [DataW.weights, DataW.weightsEach]))
    have z2 : a0_0.data.toList.length ≤ reachBytes := by simpa using z
    rw [Array.length_toList] at z2
    exact z2
  have wa0_1 : a0_1.size ≤ 140737488351232 := by
    have z := List.all_eq_true.1 hsz _ (DataW.weights_mem_each (j := 0) (t := 23) rfl rfl a0_1.data.toList.length (by simp [DataW.weights, DataW.weightsEach]))
    have z2 : a0_1.data.toList.length ≤ reachBytes := by simpa using z
    rw [Array.length_toList] at z2
    exact z2
  clear hA0 hval0 hsz0 hsz
  simp only [List.append_nil, List.nil_append] at hW'
  have reads0 : ∀ (W' : World) (sp : Nat → Bool), DataW.Trod enc Try.prog W' 0 sp true 23 (.agg #[.string a0_0, .string a0_1, .int .i64 a0_2]) (.agg [.lit (.string a0_0.data.toList), .lit (.string a0_1.data.toList), .lit (.int .i64 a0_2)]) [] := fun W' sp =>
    shut_agg3 (y0 := (.lit (.string a0_0.data.toList), [])) (y1 := (.lit (.string a0_1.data.toList), [])) (y2 := (.lit (.int .i64 a0_2), [])) Try.underlying23 (by kernel_rfl) cells23 ⟨1, by simp [DataW.trod, Try.underlying9, ya0_0]⟩ ⟨1, by simp [DataW.trod, Try.underlying9, ya0_1]⟩ ⟨1, by simp [DataW.trod, Try.underlying3, wa0_2]⟩
  refine (walk a0_0 a0_1 a0_2 W wa0_0 wa0_1 wa0_2).mono fun e W' ⟨he, bel⟩ => ?_
  subst he
  exact ⟨_, rfl, _, _, _, [], _, [], hW', trodAll_mk1 (shut_bool Try.underlying4 _), (trodAll_cons_mk (reads0 _ _) trodAll_mk0), rfl, bel.frame _, fun h => by cases h⟩
theorem over : Rows.fnExactHashEndRow.holds Try.pinned (OpenSpec.ofChange Rows.fnExactHashEndSpec) :=
  OpenClaim.holds_of_wide 3 Try.f3 rfl rfl rfl rfl rfl rfl rfl ⟨rfl, rfl, rfl, rfl, rfl⟩ rfl rfl rfl rfl rfl (by kernel_rfl) Try.func3 (by kernel_rfl)
    (of_decide_eq_true (by kernel_rfl)) (by unfold Func.isWrapper; first | (rw [if_pos (by decide +kernel)]; kernel_rfl) | (rw [if_neg (by decide +kernel)]; exact ⟨rfl, rfl⟩))
    (fun os started H enc _ => lifted os started H enc)
theorem proved : Rows.FnExactHashEndSaid := over
#print axioms proved
end Go.Proofs.Ytbmedcifganklaa.fnExactHashEnd
namespace Go.Proofs.Ytbmedcifganklaa
/-- The row, under a short name, for the claim. -/
theorem fnExactHashEnd_holds : Rows.FnExactHashEndSaid := fnExactHashEnd.proved
end Go.Proofs.Ytbmedcifganklaa
