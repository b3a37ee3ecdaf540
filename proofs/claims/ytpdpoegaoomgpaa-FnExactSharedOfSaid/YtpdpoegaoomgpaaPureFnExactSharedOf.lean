/- SharedOf of the program is SharedOf of the reference, for all numbers. -/
import Derived.Test.YtpdpoegaoomgpaaPFnExactSharedOfx1
import Derived.OpenShut
import Derived.Laws.BitsLemmas
namespace Go.Proofs.Ytpdpoegaoomgpaa.Pure.FnExactSharedOf
open Go Go.RowKit Go.Proofs.Ytpdpoegaoomgpaa.PFnExactSharedOf Go.Proofs.YtpdpoegaoomgpaaW.PrintWords Go.Proofs.YtpdpoegaoomgpaaW.PrintLast Go.Proofs.YtpdpoegaoomgpaaW.PrintMore
set_option linter.unusedVariables false
set_option linter.unusedSimpArgs false

theorem w64 {x : Int} (h0 : -9223372036854775808 ≤ x) (h1 : x ≤ 9223372036854775807) : wrap64 x = x := by unfold wrap64; omega

theorem wraps64 (n : Int) (h0 : 0 ≤ n) (h1 : n < 2 ^ 63) : IntKind.i64.wrap n = n := by rw [IntKind.wrap_i64]; omega

theorem wraps32 (n : Int) (h0 : 0 ≤ n) (h1 : n < 2 ^ 32) : IntKind.u32.wrap n = n := by rw [IntKind.wrap_u32]; omega

theorem and255 (x : Int) (h0 : 0 ≤ x) (h1 : x < 9223372036854775808) : Go.bits .and .i64 x 255 = x % 256 :=
  bits_mask .i64 63 (by decide) wraps64 8 (by decide) x h0 (by omega)

theorem mask32 (x : Int) (h0 : 0 ≤ x) (h1 : x < 9223372036854775808) : Go.bits .and .i64 x 4294967295 = x % 4294967296 :=
  bits_mask .i64 63 (by decide) wraps64 32 (by decide) x h0 (by omega)

theorem tdiv_nn {a : Int} (b : Int) (h : 0 ≤ a) : Int.tdiv a b = a / b := Int.tdiv_eq_ediv_of_nonneg h

theorem tmod_nn {a : Int} (b : Int) (h : 0 ≤ a) : Int.tmod a b = a % b := Int.tmod_eq_emod_of_nonneg h

theorem bt_nn (s : ByteArray) (i : Int) : 0 ≤ bt s i := (bt_range s i).1

theorem bt_le (s : ByteArray) (i : Int) : bt s i ≤ 255 := (bt_range s i).2

def modP (a : Int) : Int := a % 2147483579

theorem modP_nn (a : Int) : 0 ≤ modP a := by unfold modP; omega

theorem modP_lt (a : Int) : modP a < 2147483579 := by unfold modP; omega

theorem tmodP (a : Int) : Int.tmod a 2147483579 = modP a ∨ (Int.tmod a 2147483579 < 0 ∧ Int.tmod a 2147483579 + 2147483579 = modP a) := by
  unfold modP
  by_cases h : 0 ≤ a
  · left; exact tmod_nn _ h
  · have h1 : Int.tmod a 2147483579 = -(Int.tmod (-a) 2147483579) := by rw [Int.neg_tmod, Int.neg_neg]
    rw [h1, tmod_nn _ (by omega)]
    omega

theorem l03Mod_eq (a : Int) : spec_l03Mod.f a = some (modP a) := by
  unfold spec_l03Mod.f
  have h1 := modP_nn a
  have h2 := modP_lt a
  rcases tmodP a with h | ⟨h, h'⟩
  · rw [h, if_neg (by omega)]
  · rw [if_pos h, h', w64 (by omega) (by omega)]

theorem inPrime_eq (a : Int) : impl_inPrime.f a = some (modP a) := by
  unfold impl_inPrime.f
  have h1 := modP_nn a
  have h2 := modP_lt a
  rcases tmodP a with h | ⟨h, h'⟩
  · rw [h, w64 (by omega) (by omega), tmod_nn _ (by omega)]; congr 1; omega
  · rw [h', w64 (by omega) (by omega), tmod_nn _ (by omega)]; congr 1; omega

theorem mul_bound {x y : Int} (hx : 0 ≤ x) (hx' : x < 2147483579) (hy : 0 ≤ y) (hy' : y < 2147483579) : 0 ≤ x * y ∧ x * y ≤ 4611685726741798084 := by
  refine ⟨Int.mul_nonneg hx hy, ?_⟩
  have h1 : x * y ≤ 2147483578 * 2147483578 := Int.mul_le_mul (by omega) (by omega) hy (by omega)
  omega

theorem wmul {x y : Int} (hx : 0 ≤ x) (hx' : x < 2147483579) (hy : 0 ≤ y) (hy' : y < 2147483579) : Int.tmod (wrap64 (x * y)) 2147483579 = modP (x * y) := by
  have h := mul_bound hx hx' hy hy'
  rw [w64 (by omega) (by omega), tmod_nn _ h.1]; rfl


theorem modP_modP (a : Int) : modP (modP a) = modP a := by unfold modP; omega

theorem modP_id {a : Int} (h0 : 0 ≤ a) (h1 : a < 2147483579) : modP a = a := by unfold modP; omega

theorem modP_mul (a b : Int) : modP (modP a * modP b) = modP (a * b) := by unfold modP; rw [← Int.mul_emod]

theorem modP_mul_l (a b : Int) : modP (modP a * b) = modP (a * b) := by rw [← modP_mul, modP_modP, modP_mul]

theorem modP_mul_r (a b : Int) : modP (a * modP b) = modP (a * b) := by rw [← modP_mul, modP_modP, modP_mul]

def pw (b : Int) (n : Nat) : Int := modP (b ^ n)

theorem pw_nn (b : Int) (n : Nat) : 0 ≤ pw b n := modP_nn _

theorem pw_lt (b : Int) (n : Nat) : pw b n < 2147483579 := modP_lt _

theorem pw_zero (b : Int) : pw b 0 = 1 := by unfold pw; rw [Int.pow_zero]; rfl

theorem pw_succ (b : Int) (n : Nat) : pw b (n + 1) = modP (pw b n * b) := by
  unfold pw
  rw [Int.pow_succ, modP_mul_l]

theorem pw_add (b : Int) (m n : Nat) : modP (pw b m * pw b n) = pw b (m + n) := by
  unfold pw
  rw [modP_mul, ← Int.pow_add]

theorem pw_modP (b : Int) : ∀ n : Nat, pw (modP b) n = pw b n
  | 0 => by rw [pw_zero, pw_zero]
  | n + 1 => by rw [pw_succ, pw_succ, pw_modP b n, modP_mul_r]

theorem pw_mul (b : Int) (m n : Nat) : pw (pw b m) n = pw b (m * n) := by
  have h : pw (pw b m) n = pw (b ^ m) n := pw_modP (b ^ m) n
  rw [h]
  unfold pw
  rw [Int.pow_mul]

theorem pw_one (n : Nat) : pw 1 n = 1 := by
  unfold pw
  rw [Int.one_pow]; rfl

def powLoop : Nat → Int → Int → Int → Int
  | 0, out, _, _ => out
  | f + 1, out, sq, e => if e > 0 then powLoop f (if e % 2 = 1 then modP (out * sq) else out) (modP (sq * sq)) (e / 2) else out

theorem powLoop_eq : ∀ (f : Nat) (out sq e : Int), 0 ≤ e → e < 2 ^ f → modP out = out → powLoop f out sq e = modP (out * sq ^ e.toNat)
  | 0, out, sq, e, h0, h1, ho => by
    have e0 : e = 0 := by simp at h1; omega
    subst e0
    simp [powLoop, ho]
  | f + 1, out, sq, e, h0, h1, ho => by
    unfold powLoop
    by_cases h : e > 0
    · rw [if_pos h]
      have h2 : e / 2 < 2 ^ f := by
        have : (2 : Int) ^ (f + 1) = 2 ^ f * 2 := Int.pow_succ _ _
        omega
      have key : ∀ o : Int, modP (o * (modP (sq * sq)) ^ (e / 2).toNat) = modP (o * sq ^ (2 * (e / 2).toNat)) := by
        intro o
        have h3 : pw (modP (sq * sq)) (e / 2).toNat = pw (sq * sq) (e / 2).toNat := pw_modP _ _
        unfold pw at h3
        rw [← modP_mul_r, h3, modP_mul_r, Int.pow_mul]
        congr 3
        rw [Int.pow_succ, Int.pow_succ, Int.pow_zero, Int.one_mul]
      by_cases hr : e % 2 = 1
      · rw [if_pos hr, powLoop_eq f _ _ _ (by omega) h2 (modP_modP _), key, modP_mul_l]
        have e1 : e.toNat = 2 * (e / 2).toNat + 1 := by omega
        rw [e1, Int.pow_succ]
        congr 1
        rw [Int.mul_assoc, Int.mul_comm sq]
      · rw [if_neg hr, powLoop_eq f _ _ _ (by omega) h2 ho, key]
        have e1 : e.toNat = 2 * (e / 2).toNat := by omega
        rw [e1]
    · have e0 : e = 0 := by omega
      subst e0
      rw [if_neg h]
      simp [ho]

theorem l01In_eq (a b c : Int) : spec_l01In.f a b c = some (decide (b ≤ a ∧ a ≤ c)) := by
  unfold spec_l01In.f
  by_cases h : a ≥ b
  · rw [if_pos h]; congr 1; simp; omega
  · rw [if_neg h]; congr 1; simp; omega

theorem within_eq (a b c : Int) : impl_within.f a b c = some (decide (b ≤ a ∧ a ≤ c)) := by
  unfold impl_within.f
  by_cases h : a ≥ b
  · rw [if_pos h]; congr 1; simp; omega
  · rw [if_neg h]; congr 1; simp; omega


theorem implPow_l0 : ∀ (f k : Nat) (e out sq : Int), 0 ≤ e → e < 2 ^ f → e ≤ 2147483579 → 0 ≤ out → out < 2147483579 → 0 ≤ sq → sq < 2147483579 → impl_PowP.l0 (k + f + 1) e out sq = some (powLoop f out sq e)
  | 0, k, e, out, sq, h0, h1, h2, o0, o1, s0, s1 => by
    show impl_PowP.l0 (k + 1) e out sq = _
    have e0 : e = 0 := by simp at h1; omega
    subst e0
    rw [impl_PowP.l0, if_neg (by omega)]
    rfl
  | f + 1, k, e, out, sq, h0, h1, h2, o0, o1, s0, s1 => by
    show impl_PowP.l0 ((k + f + 1) + 1) e out sq = _
    rw [impl_PowP.l0]
    unfold powLoop
    by_cases h : e > 0
    · have hf : e / 2 < 2 ^ f := by
        have : (2 : Int) ^ (f + 1) = 2 ^ f * 2 := Int.pow_succ _ _
        omega
      rw [if_pos h, if_pos h, tmod_nn _ h0, tdiv_nn _ h0, w64 (x := e / 2) (by omega) (by omega), wmul s0 s1 s0 s1]
      by_cases hr : e % 2 = 1
      · rw [if_pos hr, if_pos hr, wmul o0 o1 s0 s1, implPow_l0 f k _ _ _ (by omega) hf (by omega) (modP_nn _) (modP_lt _) (modP_nn _) (modP_lt _)]
      · rw [if_neg hr, if_neg hr, implPow_l0 f k _ _ _ (by omega) hf (by omega) o0 o1 (modP_nn _) (modP_lt _)]
    · rw [if_neg h, if_neg h]

theorem specPow_l0 : ∀ (f k : Nat) (e out sq : Int), 0 ≤ e → e < 2 ^ f → e ≤ 2147483579 → 0 ≤ out → out < 2147483579 → 0 ≤ sq → sq < 2147483579 → spec_PowP.l0 (k + f + 1) sq e out = some (powLoop f out sq e)
  | 0, k, e, out, sq, h0, h1, h2, o0, o1, s0, s1 => by
    show spec_PowP.l0 (k + 1) sq e out = _
    have e0 : e = 0 := by simp at h1; omega
    subst e0
    rw [spec_PowP.l0, if_neg (by omega)]
    rfl
  | f + 1, k, e, out, sq, h0, h1, h2, o0, o1, s0, s1 => by
    show spec_PowP.l0 ((k + f + 1) + 1) sq e out = _
    rw [spec_PowP.l0]
    unfold powLoop
    by_cases h : e > 0
    · have hf : e / 2 < 2 ^ f := by
        have : (2 : Int) ^ (f + 1) = 2 ^ f * 2 := Int.pow_succ _ _
        omega
      rw [if_pos h, if_pos h, tmod_nn _ h0, tdiv_nn _ h0, w64 (x := e / 2) (by omega) (by omega), wmul s0 s1 s0 s1]
      by_cases hr : e % 2 = 1
      · rw [if_pos hr, if_pos hr, wmul o0 o1 s0 s1, specPow_l0 f k _ _ _ (by omega) hf (by omega) (modP_nn _) (modP_lt _) (modP_nn _) (modP_lt _)]
      · rw [if_neg hr, if_neg hr, specPow_l0 f k _ _ _ (by omega) hf (by omega) o0 o1 (modP_nn _) (modP_lt _)]
    · rw [if_neg h, if_neg h]

theorem powLoop_start (b e : Int) (h0 : 0 ≤ e) (h1 : e ≤ 2147483579) : powLoop 31 1 (modP b) e = pw b e.toNat := by
  rw [powLoop_eq 31 1 (modP b) e h0 (by omega) rfl, Int.one_mul]
  exact pw_modP b e.toNat

theorem implPowP_ev (b e : Int) (h0 : 0 ≤ e) (h1 : e ≤ 2147483579) : Ev (fun k => impl_PowP.f k b e) (pw b e.toNat) := by
  refine ⟨32, fun k hk => ?_⟩
  obtain ⟨m, rfl⟩ : ∃ m, k = m + 31 + 1 := ⟨k - 32, by omega⟩
  show impl_PowP.f (m + 31 + 1) b e = _
  unfold impl_PowP.f
  rw [within_eq, decide_eq_true ⟨h0, h1⟩]
  simp only [Option.bind_some, if_true]
  rw [inPrime_eq]
  simp only [Option.bind_some]
  rw [implPow_l0 31 m e 1 (modP b) h0 (by omega) h1 (by omega) (by omega) (modP_nn _) (modP_lt _), powLoop_start b e h0 h1]

theorem implPowP_no (b e : Int) (h : ¬ (0 ≤ e ∧ e ≤ 2147483579)) (k : Nat) : impl_PowP.f k b e = some 0 := by
  unfold impl_PowP.f
  rw [within_eq, decide_eq_false h]
  simp

theorem specPowP_ev (b e : Int) (h0 : 0 ≤ e) (h1 : e ≤ 2147483579) : Ev (fun k => spec_PowP.f k b e) (pw b e.toNat) := by
  refine ⟨32, fun k hk => ?_⟩
  obtain ⟨m, rfl⟩ : ∃ m, k = m + 31 + 1 := ⟨k - 32, by omega⟩
  show spec_PowP.f (m + 31 + 1) b e = _
  unfold spec_PowP.f
  rw [l01In_eq, decide_eq_true ⟨h0, h1⟩]
  simp only [Option.bind_some, if_true]
  rw [l03Mod_eq]
  simp only [Option.bind_some]
  rw [specPow_l0 31 m e 1 (modP b) h0 (by omega) h1 (by omega) (by omega) (modP_nn _) (modP_lt _), powLoop_start b e h0 h1]

theorem specPowP_no (b e : Int) (h : ¬ (0 ≤ e ∧ e ≤ 2147483579)) (k : Nat) : spec_PowP.f k b e = some 0 := by
  unfold spec_PowP.f
  rw [l01In_eq, decide_eq_false h]
  simp


def inGrp (y : Int) : Bool := decide (2 ≤ y ∧ y ≤ 2147483578) && (pw y (1073741789 : Int).toNat == 1)

theorem specInGroup_ev (y : Int) : Ev (fun k => spec_InGroup.f k y) (inGrp y) := by
  obtain ⟨K, h⟩ := specPowP_ev y 1073741789 (by omega) (by omega)
  refine ⟨K, fun k hk => ?_⟩
  have h := h k hk
  simp only at h
  show spec_InGroup.f k y = _
  unfold spec_InGroup.f inGrp
  rw [l01In_eq, h]
  by_cases hy : 2 ≤ y ∧ y ≤ 2147483578
  · rw [decide_eq_true hy]
    simp only [Option.bind_some, if_true, Bool.true_and]
  · rw [decide_eq_false hy]
    simp only [Option.bind_some, Bool.false_eq_true, if_false, Bool.false_and]

theorem implInGroup_ev (y : Int) : Ev (fun k => impl_InGroup.f k y) (inGrp y) := by
  obtain ⟨K, h⟩ := implPowP_ev y 1073741789 (by omega) (by omega)
  refine ⟨K, fun k hk => ?_⟩
  have h := h k hk
  simp only at h
  show impl_InGroup.f k y = _
  unfold impl_InGroup.f inGrp
  rw [within_eq, h]
  by_cases hy : 2 ≤ y ∧ y ≤ 2147483578
  · rw [decide_eq_true hy]
    simp only [Option.bind_some, if_true, Bool.true_and]
  · rw [decide_eq_false hy]
    simp only [Option.bind_some, Bool.false_eq_true, if_false, Bool.false_and]


def pubM (s : Int) : Int := if 1 ≤ s ∧ s ≤ 1073741788 then pw 4 s.toNat else 0

theorem secretOk_eq (s : Int) : impl_secretOk.f s = some (decide (1 ≤ s ∧ s ≤ 1073741788)) := by
  unfold impl_secretOk.f
  rw [within_eq]; rfl


def sharedM (s y : Int) : Int × Bool := if inGrp y = true ∧ (1 ≤ s ∧ s ≤ 1073741788) then (pw y s.toNat, true) else (0, false)

theorem specSharedOf_ev (s y : Int) : Ev (fun k => spec_SharedOf.f k s y) (sharedM s y) := by
  obtain ⟨K, hg⟩ := specInGroup_ev y
  by_cases h : 1 ≤ s ∧ s ≤ 1073741788
  · obtain ⟨K', h1⟩ := specPowP_ev y s (by omega) (by omega)
    refine ⟨K + K', fun k hk => ?_⟩
    have h1 := h1 k (by omega)
    have hg := hg k (by omega)
    simp only at h1 hg
    show spec_SharedOf.f k s y = _
    unfold spec_SharedOf.f sharedM
    rw [hg, l01In_eq, decide_eq_true h, h1]
    cases inGrp y <;> simp [h]
  · refine ⟨K, fun k hk => ?_⟩
    have hg := hg k (by omega)
    simp only at hg
    show spec_SharedOf.f k s y = _
    unfold spec_SharedOf.f sharedM
    rw [hg, l01In_eq, decide_eq_false h, if_neg (fun hh => h hh.2)]
    cases inGrp y <;> simp

theorem implSharedOf_ev (s y : Int) : Ev (fun k => impl_SharedOf.f k s y) (sharedM s y) := by
  obtain ⟨K, hg⟩ := implInGroup_ev y
  by_cases h : 1 ≤ s ∧ s ≤ 1073741788
  · obtain ⟨K', h1⟩ := implPowP_ev y s (by omega) (by omega)
    refine ⟨K + K', fun k hk => ?_⟩
    have h1 := h1 k (by omega)
    have hg := hg k (by omega)
    simp only at h1 hg
    show impl_SharedOf.f k s y = _
    unfold impl_SharedOf.f sharedM
    rw [hg, secretOk_eq, decide_eq_true h, h1]
    cases inGrp y <;> simp [h]
  · refine ⟨K, fun k hk => ?_⟩
    have hg := hg k (by omega)
    simp only at hg
    show impl_SharedOf.f k s y = _
    unfold impl_SharedOf.f sharedM
    rw [hg, secretOk_eq, decide_eq_false h, if_neg (fun hh => h hh.2)]
    cases inGrp y <;> simp


theorem FnExactSharedOf : laws_FnExactSharedOf.Pure := by
  intro s y _ _
  obtain ⟨K, h1⟩ := specSharedOf_ev s y
  obtain ⟨K', h2⟩ := implSharedOf_ev s y
  refine ⟨K + K', ?_⟩
  have h1 := h1 (K + K') (by omega)
  have h2 := h2 (K + K') (by omega)
  simp only at h1 h2
  unfold laws_FnExactSharedOf.f
  rw [h1, h2]
  simp

end Go.Proofs.Ytpdpoegaoomgpaa.Pure.FnExactSharedOf
namespace Go.Proofs.Ytpdpoegaoomgpaa.Pure
theorem FnExactSharedOf : Go.Proofs.Ytpdpoegaoomgpaa.PFnExactSharedOf.laws_FnExactSharedOf.Pure := Go.Proofs.Ytpdpoegaoomgpaa.Pure.FnExactSharedOf.FnExactSharedOf
end Go.Proofs.Ytpdpoegaoomgpaa.Pure
