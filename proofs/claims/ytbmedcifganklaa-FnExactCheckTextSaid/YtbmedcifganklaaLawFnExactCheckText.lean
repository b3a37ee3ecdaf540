/- The row of FnExactCheckText: its statement follows from the pure statement, by the printed contract of its function. -/
import Derived.Test.YtbmedcifganklaaRows
import Derived.Test.YtbmedcifganklaaPFnExactCheckTextx
import Derived.Test.YtbmedcifganklaaPureFnExactCheckText
import Derived.WalkKit
import Derived.ProofKit
import Derived.OpenShut
import Derived.ShutString
import Derived.ChangeOld
import Derived.Below
import Derived.SizedLaws
import Derived.Lib.SmallJoins
import Derived.JoinedOf
import Derived.JoinedAt
import Derived.RowKit3
namespace Go.Proofs.Ytbmedcifganklaa.fnExactCheckText
open Go.ChangeShapes Go.WideShapes Go.ChangeAt Go.RowKit Go.Joins
open Go.ChangeMaps (open_string shut_string)
set_option linter.unusedVariables false
set_option linter.unusedSimpArgs false
theorem own : ownKnob Try.prog.godebug = none := by kernel_rfl
theorem cells52 : Try.prog.cellsOf 52 = 2 := by kernel_rfl
theorem walk (a0 : Int) (a1 : ByteArray) (a2_0 : Int) (a2_1 : Int) (W : World) (ha0 : (Lit.int .i64 a0).wf = true) (ha1 : a1.size ≤ 140737488351232) (ha2_0 : (Lit.int .i64 a2_0).wf = true) (ha2_1 : (Lit.int .i64 a2_1).wf = true) :
    Calls Try.prog 12 #[(.int .i64 a0), (.string a1), (.agg #[.int .i64 a2_0, .int .i64 a2_1])] W fun e w' => e = .returned (.bool true) ∧ Below W.heap.size W w' := by
  obtain ⟨k, h⟩ := Go.Proofs.Ytbmedcifganklaa.Pure.FnExactCheckText.FnExactCheckText a0 a1 a2_0 a2_1 ha0 ha1 ha2_0 ha2_1
  refine (Go.Proofs.Ytbmedcifganklaa.PFnExactCheckText.laws_FnExactCheckText.calls k a0 a1 a2_0 a2_1 true W h).mono ?_
  rintro e w' ⟨rfl, hd⟩
  exact ⟨rfl, by first | exact hd | exact hd.below⟩
set_option maxRecDepth 100000 in
theorem lifted (os : Os) (started : os.Started) (H : Type) (enc : TypeId × Value → H) :
    ReturnsInHanded {} Try.checked os 12 .any (Rows.fnExactCheckTextSpec.pre6 enc Try.prog Try.f12 Rows.fnExactCheckTextRow.domain false) (Rows.fnExactCheckTextSpec.post enc Try.prog Try.f12 false true false false) := by
  refine returnsInHanded_of_change_sized (C := Try.checked) own started (by kernel_rfl) Try.func12
    (ChangeSpec.witness6 (enc := enc) (C := Try.checked) false ⟨#[], #[.int .i64 0, .string ByteArray.empty, (.agg #[.int .i64 0, .int .i64 0])], []⟩ 8 (by kernel_rfl) (by kernel_rfl) (by kernel_rfl) (by kernel_rfl)) ?_
  intro W base args ds gs before hval0 hW hcnd hsz0 _
  have hsz : (DataW.weightsEach Try.prog (Try.f12.params.toList ++ Rows.fnExactCheckTextSpec.plain.varTypes Try.prog) (ds ++ gs)).all (· ≤ reachBytes) = true := hsz0
  have hval : ∀ (j : Nat) t v, Try.f12.params[j]? = some t → args[j]? = some v → Value.okWide Try.prog W .any base t v := hval0
  have hW' := hW
  obtain ⟨p, q, hA0, hV, rfl, hfz, hnd⟩ := hW
  have hA : DataW.TrodAll enc Try.prog W 0 (fun _ => true) true Try.f12.params.toList args.toList ds p := hA0
  rw [Try.params12] at hA hval hsz
  obtain ⟨v0, vs0, d0, ds0, p0, q0, hargs, rfl, rfl, h0, r0⟩ := trodAll_cons hA
  obtain ⟨v1, vs1, d1, ds1, p1, q1, rfl, rfl, rfl, h1, r1⟩ := trodAll_cons r0
  obtain ⟨v2, vs2, d2, ds2, p2, q2, rfl, rfl, rfl, h2, r2⟩ := trodAll_cons r1
  obtain ⟨rfl, rfl, rfl⟩ := trodAll_nil r2
  obtain rfl : args = #[v0, v1, v2] := by cases args; simp_all
  obtain ⟨rfl, rfl⟩ := trodVars_none hV
  obtain ⟨a0, rfl, rfl, rfl, wa0⟩ := open_int Try.underlying3 (hval 0 3 v0 rfl rfl) h0
  obtain ⟨a1, rfl, rfl, rfl, y1⟩ := open_string Try.underlying9 (hval 1 9 v1 rfl rfl) h1
  have wa1 : a1.size ≤ 140737488351232 := by
    have z := sized_string hsz (j := 1) (t := 9) rfl rfl
    rw [Array.length_toList] at z
    exact z
  obtain ⟨c2_0, c2_1, y2_0, y2_1, m2, rfl, rfl, rfl, hy2_0, hy2_1⟩ := open_agg2 Try.underlying52 (by kernel_rfl) cells52 (hval 2 52 v2 rfl rfl) h2
  obtain ⟨a2_0, ea2_0, rfl, wa2_0⟩ := DataW.trod_int Try.underlying3 hy2_0
  obtain ⟨a2_1, ea2_1, rfl, wa2_1⟩ := DataW.trod_int Try.underlying3 hy2_1
  simp at ea2_0 ea2_1
  subst ea2_0 ea2_1
  clear hA0 hval0 hsz0 hsz
  simp only [List.append_nil, List.nil_append] at hW'
  have reads2 : ∀ (W' : World) (sp : Nat → Bool), DataW.Trod enc Try.prog W' 0 sp true 52 (.agg #[.int .i64 a2_0, .int .i64 a2_1]) (.agg [.lit (.int .i64 a2_0), .lit (.int .i64 a2_1)]) [] := fun W' sp =>
    shut_agg2 (y0 := (.lit (.int .i64 a2_0), [])) (y1 := (.lit (.int .i64 a2_1), [])) Try.underlying52 (by kernel_rfl) cells52 ⟨1, by simp [DataW.trod, Try.underlying3, wa2_0]⟩ ⟨1, by simp [DataW.trod, Try.underlying3, wa2_1]⟩
  refine (walk a0 a1 a2_0 a2_1 W wa0 wa1 wa2_0 wa2_1).mono fun e W' ⟨he, bel⟩ => ?_
  subst he
  exact ⟨_, rfl, _, _, _, [], _, [], hW', trodAll_mk1 (shut_bool Try.underlying4 _), (trodAll_cons_mk (shut_int Try.underlying3 wa0) (trodAll_cons_mk (shut_string Try.underlying9 y1) (trodAll_cons_mk (reads2 _ _) trodAll_mk0))), rfl, bel.frame _, fun h => by cases h⟩
theorem over : Rows.fnExactCheckTextRow.holds Try.pinned (OpenSpec.ofChange Rows.fnExactCheckTextSpec) :=
  OpenClaim.holds_of_wide 12 Try.f12 rfl rfl rfl rfl rfl rfl rfl ⟨rfl, rfl, rfl, rfl, rfl⟩ rfl rfl rfl rfl rfl (by kernel_rfl) Try.func12 (by kernel_rfl)
    (of_decide_eq_true (by kernel_rfl)) (by unfold Func.isWrapper; first | (rw [if_pos (by decide +kernel)]; kernel_rfl) | (rw [if_neg (by decide +kernel)]; exact ⟨rfl, rfl⟩))
    (fun os started H enc _ => lifted os started H enc)
theorem proved : Rows.FnExactCheckTextSaid := over
#print axioms proved
end Go.Proofs.Ytbmedcifganklaa.fnExactCheckText
namespace Go.Proofs.Ytbmedcifganklaa
/-- The row, under a short name, for the claim. -/
theorem fnExactCheckText_holds : Rows.FnExactCheckTextSaid := fnExactCheckText.proved
end Go.Proofs.Ytbmedcifganklaa
