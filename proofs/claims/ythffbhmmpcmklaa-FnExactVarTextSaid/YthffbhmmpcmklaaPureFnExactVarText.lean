/- VarText of the program is VarText of the reference, for all numbers. -/
import Derived.Test.YthffbhmmpcmklaaPFnExactVarTextx1
import Derived.OpenShut
import Derived.Laws.BitsLemmas
namespace Go.Proofs.Ythffbhmmpcmklaa.Pure.FnExactVarText
open Go Go.RowKit Go.Proofs.Ythffbhmmpcmklaa.PFnExactVarText Go.Proofs.YthffbhmmpcmklaaW.PrintWords Go.Proofs.YthffbhmmpcmklaaW.PrintLast Go.Proofs.YthffbhmmpcmklaaW.PrintMore
set_option linter.unusedVariables false
set_option linter.unusedSimpArgs false

theorem w64 {x : Int} (h0 : -9223372036854775808 ≤ x) (h1 : x ≤ 9223372036854775807) : wrap64 x = x := by unfold wrap64; omega

theorem wraps64 (n : Int) (h0 : 0 ≤ n) (h1 : n < 2 ^ 63) : IntKind.i64.wrap n = n := by rw [IntKind.wrap_i64]; omega

theorem wraps32 (n : Int) (h0 : 0 ≤ n) (h1 : n < 2 ^ 32) : IntKind.u32.wrap n = n := by rw [IntKind.wrap_u32]; omega

theorem and255 (x : Int) (h0 : 0 ≤ x) (h1 : x < 9223372036854775808) : Go.bits .and .i64 x 255 = x % 256 :=
  bits_mask .i64 63 (by decide) wraps64 8 (by decide) x h0 (by omega)

theorem mask32 (x : Int) (h0 : 0 ≤ x) (h1 : x < 9223372036854775808) : Go.bits .and .i64 x 4294967295 = x % 4294967296 :=
  bits_mask .i64 63 (by decide) wraps64 32 (by decide) x h0 (by omega)

theorem tdiv_nn {a : Int} (b : Int) (h : 0 ≤ a) : Int.tdiv a b = a / b := Int.tdiv_eq_ediv_of_nonneg h

theorem tmod_nn {a : Int} (b : Int) (h : 0 ≤ a) : Int.tmod a b = a % b := Int.tmod_eq_emod_of_nonneg h

theorem bt_nn (s : ByteArray) (i : Int) : 0 ≤ bt s i := (bt_range s i).1

theorem bt_le (s : ByteArray) (i : Int) : bt s i ≤ 255 := (bt_range s i).2

theorem l01In_eq (a b c : Int) : spec_l01In.f a b c = some (decide (b ≤ a ∧ a ≤ c)) := by
  unfold spec_l01In.f
  by_cases h : a ≥ b
  · rw [if_pos h]; congr 1; simp; omega
  · rw [if_neg h]; congr 1; simp; omega

theorem within_eq (a b c : Int) : impl_within.f a b c = some (decide (b ≤ a ∧ a ≤ c)) := by
  unfold impl_within.f
  by_cases h : a ≥ b
  · rw [if_pos h]; congr 1; simp; omega
  · rw [if_neg h]; congr 1; simp; omega

def varF : Nat → Int → List Int
  | 0, n => [n % 256]
  | f + 1, n => if n > 127 then (n % 128 + 128) :: varF f (n / 128) else [n % 256]

theorem varF_length : ∀ (f : Nat) (n : Int), (varF f n).length ≤ f + 1
  | 0, n => by simp [varF]
  | f + 1, n => by
    unfold varF
    split
    · have := varF_length f (n / 128); simp; omega
    · simp

def varNums (n : Int) : List Int := varF 9 n

def varOf (n : Int) : ByteArray := strOfNums (varNums n)

theorem l01Var_l0 : ∀ (f : Nat) (k : Nat) (n : Int) (acc : List Int), 0 ≤ n → n < 128 ^ (f + 1) → n ≤ 9223372036854775807 → acc.length + f < 140737488355328 → spec_l01Var.l0 (k + f + 1) n acc = some (strOfNums (acc ++ varF f n))
  | 0, k, n, acc, h0, h1, h2, hl => by
    show spec_l01Var.l0 (k + 1) n acc = _
    rw [spec_l01Var.l0, if_neg (by omega), if_pos (by omega)]
    rfl
  | f + 1, k, n, acc, h0, h1, h2, hl => by
    show spec_l01Var.l0 ((k + f + 1) + 1) n acc = _
    rw [spec_l01Var.l0]
    by_cases h : n > 127
    · have hp : n / 128 < 128 ^ (f + 1) := by
        have : (128 : Int) ^ (f + 1 + 1) = 128 ^ (f + 1) * 128 := Int.pow_succ _ _
        omega
      rw [if_pos h, if_pos (by omega), tdiv_nn _ h0, tmod_nn _ h0, w64 (x := n / 128) (by omega) (by omega), w64 (x := n % 128 + 128) (by omega) (by omega), l01Var_l0 f k _ _ (by omega) hp (by omega) (by simp; omega)]
      have e : (n % 128 + 128) % 256 = n % 128 + 128 := by omega
      rw [varF, if_pos h, e]
      simp
    · rw [if_neg h, if_pos (by omega), varF, if_neg h]

theorem implVar_l0 : ∀ (f : Nat) (k : Nat) (n : Int) (acc : List Int), 0 ≤ n → n < 128 ^ (f + 1) → n ≤ 9223372036854775807 → acc.length + f < 140737488355328 → impl_VarText.l0 (k + f + 1) n acc = some (strOfNums (acc ++ varF f n), true)
  | 0, k, n, acc, h0, h1, h2, hl => by
    show impl_VarText.l0 (k + 1) n acc = _
    rw [impl_VarText.l0, if_neg (by omega), if_pos (by omega)]
    rfl
  | f + 1, k, n, acc, h0, h1, h2, hl => by
    show impl_VarText.l0 ((k + f + 1) + 1) n acc = _
    rw [impl_VarText.l0]
    by_cases h : n > 127
    · have hp : n / 128 < 128 ^ (f + 1) := by
        have : (128 : Int) ^ (f + 1 + 1) = 128 ^ (f + 1) * 128 := Int.pow_succ _ _
        omega
      rw [if_pos h, if_pos (by omega), tdiv_nn _ h0, tmod_nn _ h0, w64 (x := n / 128) (by omega) (by omega), w64 (x := n % 128 + 128) (by omega) (by omega), implVar_l0 f k _ _ (by omega) hp (by omega) (by simp; omega)]
      have e : (n % 128 + 128) % 256 = n % 128 + 128 := by omega
      rw [varF, if_pos h, e]
      simp
    · rw [if_neg h, if_pos (by omega), varF, if_neg h]

theorem l01Var_ev (n : Int) (h0 : 0 ≤ n) (h1 : n ≤ 9223372036854775807) : Ev (fun k => spec_l01Var.f k n) (varOf n) := by
  refine ⟨10, fun k hk => ?_⟩
  obtain ⟨m, rfl⟩ : ∃ m, k = m + 9 + 1 := ⟨k - 10, by omega⟩
  exact l01Var_l0 9 m n [] h0 (by omega) h1 (by simp)

theorem specVarText_ev (n : Int) (h0 : 0 ≤ n) (h1 : n ≤ 1000000000) : Ev (fun k => spec_VarText.f k n) (varOf n, true) := by
  obtain ⟨K, h⟩ := l01Var_ev n h0 (by omega)
  refine ⟨K, fun k hk => ?_⟩
  have h := h k hk
  simp only at h
  show spec_VarText.f k n = _
  unfold spec_VarText.f
  rw [l01In_eq, decide_eq_true ⟨h0, h1⟩, h]
  rfl

theorem specVarText_no (n : Int) (h : ¬ (0 ≤ n ∧ n ≤ 1000000000)) (k : Nat) : spec_VarText.f k n = some (⟨#[]⟩, false) := by
  unfold spec_VarText.f
  rw [l01In_eq, decide_eq_false h]
  simp

theorem implVarText_ev (n : Int) (h0 : 0 ≤ n) (h1 : n ≤ 1000000000) : Ev (fun k => impl_VarText.f k n) (varOf n, true) := by
  refine ⟨10, fun k hk => ?_⟩
  obtain ⟨m, rfl⟩ : ∃ m, k = m + 9 + 1 := ⟨k - 10, by omega⟩
  show impl_VarText.f (m + 9 + 1) n = _
  unfold impl_VarText.f
  rw [within_eq, decide_eq_true ⟨h0, h1⟩]
  exact implVar_l0 9 m n [] h0 (by omega) (by omega) (by simp)

theorem implVarText_no (n : Int) (h : ¬ (0 ≤ n ∧ n ≤ 1000000000)) (k : Nat) : impl_VarText.f k n = some (⟨#[]⟩, false) := by
  unfold impl_VarText.f
  rw [within_eq, decide_eq_false h]
  simp

theorem FnExactVarText : laws_FnExactVarText.Pure := by
  intro n _
  by_cases h : 0 ≤ n ∧ n ≤ 1000000000
  · obtain ⟨K, h1⟩ := specVarText_ev n h.1 h.2
    obtain ⟨K', h2⟩ := implVarText_ev n h.1 h.2
    refine ⟨K + K', ?_⟩
    have h1 := h1 (K + K') (by omega)
    have h2 := h2 (K + K') (by omega)
    simp only at h1 h2
    unfold laws_FnExactVarText.f
    rw [h1, h2]
    simp
  · refine ⟨0, ?_⟩
    unfold laws_FnExactVarText.f
    rw [specVarText_no n h, implVarText_no n h]
    simp

end Go.Proofs.Ythffbhmmpcmklaa.Pure.FnExactVarText
namespace Go.Proofs.Ythffbhmmpcmklaa.Pure
theorem FnExactVarText : Go.Proofs.Ythffbhmmpcmklaa.PFnExactVarText.laws_FnExactVarText.Pure := Go.Proofs.Ythffbhmmpcmklaa.Pure.FnExactVarText.FnExactVarText
end Go.Proofs.Ythffbhmmpcmklaa.Pure
