/- HasherOk of the program is HasherOk of the reference, for all hashers. -/
import Derived.Test.YthffbhmmpcmklaaPFnExactHasherOkx
import Derived.OpenShut
import Derived.Laws.BitsLemmas
namespace Go.Proofs.Ythffbhmmpcmklaa.Pure.FnExactHasherOk
open Go Go.RowKit Go.Proofs.Ythffbhmmpcmklaa.PFnExactHasherOk Go.Proofs.YthffbhmmpcmklaaW.PrintWords Go.Proofs.YthffbhmmpcmklaaW.PrintLast Go.Proofs.YthffbhmmpcmklaaW.PrintMore
set_option linter.unusedVariables false
set_option linter.unusedSimpArgs false

theorem w64 {x : Int} (h0 : -9223372036854775808 ≤ x) (h1 : x ≤ 9223372036854775807) : wrap64 x = x := by unfold wrap64; omega

theorem wraps64 (n : Int) (h0 : 0 ≤ n) (h1 : n < 2 ^ 63) : IntKind.i64.wrap n = n := by rw [IntKind.wrap_i64]; omega

theorem wraps32 (n : Int) (h0 : 0 ≤ n) (h1 : n < 2 ^ 32) : IntKind.u32.wrap n = n := by rw [IntKind.wrap_u32]; omega

theorem and255 (x : Int) (h0 : 0 ≤ x) (h1 : x < 9223372036854775808) : Go.bits .and .i64 x 255 = x % 256 :=
  bits_mask .i64 63 (by decide) wraps64 8 (by decide) x h0 (by omega)

theorem mask32 (x : Int) (h0 : 0 ≤ x) (h1 : x < 9223372036854775808) : Go.bits .and .i64 x 4294967295 = x % 4294967296 :=
  bits_mask .i64 63 (by decide) wraps64 32 (by decide) x h0 (by omega)

theorem tdiv_nn {a : Int} (b : Int) (h : 0 ≤ a) : Int.tdiv a b = a / b := Int.tdiv_eq_ediv_of_nonneg h

theorem tmod_nn {a : Int} (b : Int) (h : 0 ≤ a) : Int.tmod a b = a % b := Int.tmod_eq_emod_of_nonneg h

theorem bt_nn (s : ByteArray) (i : Int) : 0 ≤ bt s i := (bt_range s i).1

theorem bt_le (s : ByteArray) (i : Int) : bt s i ≤ 255 := (bt_range s i).2

theorem l01In_eq (a b c : Int) : spec_l01In.f a b c = some (decide (b ≤ a ∧ a ≤ c)) := by
  unfold spec_l01In.f
  by_cases h : a ≥ b
  · rw [if_pos h]; congr 1; simp; omega
  · rw [if_neg h]; congr 1; simp; omega

theorem within_eq (a b c : Int) : impl_within.f a b c = some (decide (b ≤ a ∧ a ≤ c)) := by
  unfold impl_within.f
  by_cases h : a ≥ b
  · rw [if_pos h]; congr 1; simp; omega
  · rw [if_neg h]; congr 1; simp; omega


theorem FnExactHasherOk (s r : ByteArray) (c : Int) (_ : s.size ≤ 140737488351232) (_ : r.size ≤ 140737488351232) (_ : (Lit.int .i64 c).wf = true) : laws_FnExactHasherOk.f s r c = some true := by
  have key : spec_HasherOk.f s r c = impl_HasherOk.f s r c := by
    unfold spec_HasherOk.f impl_HasherOk.f
    rw [l01In_eq, within_eq]
    by_cases h : (s.size : Int) = 32
    · rw [if_pos h, if_pos h]
      by_cases hc : 0 ≤ c ∧ c ≤ 1000000000
      · rw [decide_eq_true hc]
        simp only [Option.bind_some, if_true]
        rw [tmod_nn _ hc.1]
        by_cases hr : (r.size : Int) < 64
        · rw [if_pos hr]
          congr 1
          rw [Bool.eq_iff_iff, beq_iff_eq, beq_iff_eq]
          exact eq_comm
        · rw [if_neg hr]
          congr 1
          symm
          rw [beq_eq_false_iff_ne]
          omega
      · rw [decide_eq_false hc]
        simp
    · rw [if_neg h, if_neg h]
  unfold laws_FnExactHasherOk.f laws_toHasher.f
  simp only [Option.bind_some]
  have hz : ∃ z, laws_szHasher.f s r c 1048576 = some z := by
    unfold laws_szHasher.f
    split
    · exact ⟨_, rfl⟩
    · split <;> exact ⟨_, rfl⟩
  obtain ⟨z, hz⟩ := hz
  have hv : ∃ v, impl_HasherOk.f s r c = some v := by
    unfold impl_HasherOk.f
    rw [within_eq]
    split
    · simp only [Option.bind_some]
      split <;> exact ⟨_, rfl⟩
    · exact ⟨_, rfl⟩
  obtain ⟨v, hv⟩ := hv
  rw [hz, key, hv]
  simp

end Go.Proofs.Ythffbhmmpcmklaa.Pure.FnExactHasherOk
