/- PrefixOf of the program is PrefixOf of the reference, for all numbers. -/
import Derived.Test.YtbidjlpnjoihbaaPFnExactPrefixOfx1
import Derived.OpenShut
import Derived.Laws.BitsLemmas
namespace Go.Proofs.Ytbidjlpnjoihbaa.Pure.FnExactPrefixOf
open Go Go.RowKit Go.Proofs.Ytbidjlpnjoihbaa.PFnExactPrefixOf Go.Proofs.YtbidjlpnjoihbaaW.PrintWords Go.Proofs.YtbidjlpnjoihbaaW.PrintLast Go.Proofs.YtbidjlpnjoihbaaW.PrintMore
set_option linter.unusedVariables false
set_option linter.unusedSimpArgs false

theorem w64 {x : Int} (h0 : -9223372036854775808 ≤ x) (h1 : x ≤ 9223372036854775807) : wrap64 x = x := by unfold wrap64; omega

theorem wraps64 (n : Int) (h0 : 0 ≤ n) (h1 : n < 2 ^ 63) : IntKind.i64.wrap n = n := by rw [IntKind.wrap_i64]; omega

theorem wraps32 (n : Int) (h0 : 0 ≤ n) (h1 : n < 2 ^ 32) : IntKind.u32.wrap n = n := by rw [IntKind.wrap_u32]; omega

theorem and255 (x : Int) (h0 : 0 ≤ x) (h1 : x < 9223372036854775808) : Go.bits .and .i64 x 255 = x % 256 :=
  bits_mask .i64 63 (by decide) wraps64 8 (by decide) x h0 (by omega)

theorem mask32 (x : Int) (h0 : 0 ≤ x) (h1 : x < 9223372036854775808) : Go.bits .and .i64 x 4294967295 = x % 4294967296 :=
  bits_mask .i64 63 (by decide) wraps64 32 (by decide) x h0 (by omega)

theorem tdiv_nn {a : Int} (b : Int) (h : 0 ≤ a) : Int.tdiv a b = a / b := Int.tdiv_eq_ediv_of_nonneg h

theorem tmod_nn {a : Int} (b : Int) (h : 0 ≤ a) : Int.tmod a b = a % b := Int.tmod_eq_emod_of_nonneg h

theorem bt_nn (s : ByteArray) (i : Int) : 0 ≤ bt s i := (bt_range s i).1

theorem bt_le (s : ByteArray) (i : Int) : bt s i ≤ 255 := (bt_range s i).2

theorem l01In_eq (a b c : Int) : spec_l01In.f a b c = some (decide (b ≤ a ∧ a ≤ c)) := by
  unfold spec_l01In.f
  by_cases h : a ≥ b
  · rw [if_pos h]; congr 1; simp; omega
  · rw [if_neg h]; congr 1; simp; omega

theorem within_eq (a b c : Int) : impl_within.f a b c = some (decide (b ≤ a ∧ a ≤ c)) := by
  unfold impl_within.f
  by_cases h : a ≥ b
  · rw [if_pos h]; congr 1; simp; omega
  · rw [if_neg h]; congr 1; simp; omega


def p2 (d : Nat) : Int := 2 ^ d

theorem p2_pos (d : Nat) : 1 ≤ p2 d := by
  unfold p2
  have : 0 < (2 : Int) ^ d := Int.pow_pos (by decide)
  omega

theorem p2_succ (d : Nat) : p2 (d + 1) = p2 d * 2 := by unfold p2; exact Int.pow_succ _ _

theorem p2_le : ∀ (d : Nat), d ≤ 32 → p2 d ≤ 4294967296 := by
  intro d hd
  unfold p2
  have h : 2 ^ d ≤ 2 ^ 32 := Nat.pow_le_pow_right (by decide) hd
  have h2 : ((2 ^ d : Nat) : Int) ≤ ((2 ^ 32 : Nat) : Int) := by exact_mod_cast h
  simpa using h2

theorem l08Size_l0 : ∀ (d : Nat) (k : Nat) (x i : Int), 0 ≤ i → i + d = 32 → 0 ≤ x → x * p2 d ≤ 4294967296 → spec_l08Size.l0 (k + d + 1) x i = some (x * p2 d)
  | 0, k, x, i, h0, h, hx, hb => by
    show spec_l08Size.l0 (k + 1) x i = _
    rw [spec_l08Size.l0, if_neg (by omega)]
    simp [p2]
  | d + 1, k, x, i, h0, h, hx, hb => by
    show spec_l08Size.l0 ((k + d + 1) + 1) x i = _
    have hp := p2_pos d
    rw [p2_succ] at hb
    have hx2 : 2 * x * p2 d ≤ 4294967296 := by
      have : 2 * x * p2 d = x * (p2 d * 2) := by rw [Int.mul_comm 2 x, Int.mul_assoc, Int.mul_comm 2]
      omega
    have hx3 : 2 * x ≤ 4294967296 := by
      have : 2 * x * 1 ≤ 2 * x * p2 d := Int.mul_le_mul_of_nonneg_left hp (by omega)
      omega
    rw [spec_l08Size.l0, if_pos (by omega), w64 (x := 2 * x) (by omega) (by omega), w64 (x := i + 1) (by omega) (by omega), l08Size_l0 d k _ _ (by omega) (by omega) (by omega) hx2, p2_succ]
    congr 1
    rw [Int.mul_comm 2 x, Int.mul_assoc, Int.mul_comm 2]

theorem l08Size_ev (n : Int) (h0 : 0 ≤ n) (h1 : n ≤ 32) : Ev (fun k => spec_l08Size.f k n) (p2 (32 - n).toNat) := by
  refine ⟨34, fun k hk => ?_⟩
  obtain ⟨m, rfl⟩ : ∃ m, k = m + (32 - n).toNat + 1 := ⟨k - (32 - n).toNat - 1, by omega⟩
  have hle := p2_le (32 - n).toNat (by omega)
  have h := l08Size_l0 (32 - n).toNat m 1 n h0 (by omega) (by omega) (by omega)
  rw [Int.one_mul] at h
  exact h

theorem lastBits_eq (n : Int) (h0 : 0 ≤ n) (h1 : n ≤ 32) : impl_lastBits.f n = some (p2 (32 - n).toNat - 1) := by
  unfold impl_lastBits.f
  rw [w64 (x := 32 - n) (by omega) (by omega), if_pos (by omega)]
  have hp := p2_pos (32 - n).toNat
  have hle := p2_le (32 - n).toNat (by omega)
  have e : shl .i64 1 (32 - n) = p2 (32 - n).toNat := by
    unfold shl
    rw [Nat.min_eq_left (by simp [IntKind.bits]; omega), Int.one_mul]
    exact wraps64 _ (by unfold p2 at hp; omega) (by unfold p2 at hle; omega)
  rw [e, w64 (by omega) (by omega)]

theorem andMask (a : Int) (d : Nat) (hd : d ≤ 32) (h0 : 0 ≤ a) (h1 : a ≤ 4294967295) : Go.bits .and .i64 a (p2 d - 1) = a % p2 d :=
  bits_mask .i64 63 (by decide) wraps64 d (by omega) a h0 (by omega)

theorem andNotNat (x d : Nat) (hx : x < 2 ^ 64) (hd : d ≤ 64) : (BitVec.ofNat 64 x &&& ~~~BitVec.ofNat 64 (2 ^ d - 1)).toNat = x - x % 2 ^ d := by
  have hp : 0 < 2 ^ d := Nat.two_pow_pos d
  have hm : 2 ^ d - 1 < 2 ^ 64 := Nat.lt_of_lt_of_le (Nat.sub_lt hp (by decide)) (Nat.pow_le_pow_right (by decide) (by omega))
  have h3 : x - x % 2 ^ d = (x / 2 ^ d) <<< d := by
    have := Nat.div_add_mod x (2 ^ d)
    rw [Nat.shiftLeft_eq, Nat.mul_comm]
    omega
  rw [h3]
  apply Nat.eq_of_testBit_eq
  intro i
  rw [BitVec.testBit_toNat, Nat.testBit_shiftLeft, Nat.testBit_div_two_pow]
  by_cases hi : i < 64
  · rw [BitVec.getLsbD_and, BitVec.getLsbD_not]
    simp only [BitVec.getLsbD_ofNat, hi, decide_true, Bool.true_and, Nat.testBit_two_pow_sub_one]
    by_cases h : d ≤ i
    · have e : i - d + d = i := by omega
      simp [h, Nat.not_lt.mpr h, e]
    · simp [h, Nat.lt_of_not_le h]
  · have hx2 : x.testBit i = false := Nat.testBit_lt_two_pow (Nat.lt_of_lt_of_le hx (Nat.pow_le_pow_right (by decide) (by omega)))
    rw [BitVec.getLsbD_of_ge _ _ (by omega)]
    by_cases h : d ≤ i
    · have e : i - d + d = i := by omega
      simp [e, hx2]
    · simp [h]

theorem andNotMask (a : Int) (d : Nat) (hd : d ≤ 32) (h0 : 0 ≤ a) (h1 : a ≤ 4294967295) : Go.bits .andNot .i64 a (p2 d - 1) = a - a % p2 d := by
  obtain ⟨x, rfl⟩ := Int.eq_ofNat_of_zero_le h0
  have hp : 0 < 2 ^ d := Nat.two_pow_pos d
  have hc : p2 d - 1 = ((2 ^ d - 1 : Nat) : Int) := by
    unfold p2
    rw [Int.natCast_sub hp]; simp
  have hx : x < 2 ^ 64 := by omega
  have hm : x % 2 ^ d ≤ x := Nat.mod_le _ _
  rw [hc]
  simp only [Go.bits, BitVec.ofInt_natCast]
  show IntKind.i64.wrap (((BitVec.ofNat 64 x &&& ~~~BitVec.ofNat 64 (2 ^ d - 1)).toNat : Nat) : Int) = _
  rw [andNotNat x d hx (by omega), wraps64 _ (by omega) (by omega), Int.natCast_sub hm]
  unfold p2
  simp

def pfxOk (a n : Int) : Bool := decide ((0 ≤ a ∧ a ≤ 4294967295) ∧ (0 ≤ n ∧ n ≤ 32) ∧ a % p2 (32 - n).toNat = 0)

theorem specAddrOk_eq (a : Int) : spec_AddrOk.f a = some (decide (0 ≤ a ∧ a ≤ 4294967295)) := by
  unfold spec_AddrOk.f
  rw [l01In_eq]; rfl

theorem implAddrOk_eq (a : Int) : impl_AddrOk.f a = some (decide (0 ≤ a ∧ a ≤ 4294967295)) := by
  unfold impl_AddrOk.f
  rw [within_eq]; rfl

theorem mod_le {b p : Int} (hb : 0 ≤ b) (hp : 1 ≤ p) : 0 ≤ b % p ∧ b % p ≤ b := by
  have h5 := Int.emod_add_mul_ediv b p
  have h6 : 0 ≤ p * (b / p) := Int.mul_nonneg (by omega) (Int.ediv_nonneg hb (by omega))
  have h7 : 0 ≤ b % p := Int.emod_nonneg _ (by omega)
  omega

theorem specPrefixOf_ev (a n : Int) (ha : 0 ≤ a ∧ a ≤ 4294967295) (hn : 0 ≤ n ∧ n ≤ 32) : Ev (fun k => spec_PrefixOf.f k a n) (a - a % p2 (32 - n).toNat, n, true) := by
  obtain ⟨K, h⟩ := l08Size_ev n hn.1 hn.2
  simp only at h
  refine ⟨K, fun k hk => ?_⟩
  have h := h k hk
  have hp := p2_pos (32 - n).toNat
  have hm := mod_le ha.1 hp
  show spec_PrefixOf.f k a n = _
  unfold spec_PrefixOf.f
  rw [specAddrOk_eq, decide_eq_true ha, l01In_eq, decide_eq_true hn, h]
  simp only [Option.bind_some, if_true]
  rw [if_neg (by omega), tmod_nn _ ha.1, w64 (by omega) (by omega)]

theorem specPrefixOf_no (a n : Int) (h : ¬ ((0 ≤ a ∧ a ≤ 4294967295) ∧ (0 ≤ n ∧ n ≤ 32))) (k : Nat) : spec_PrefixOf.f k a n = some (0, 0, false) := by
  unfold spec_PrefixOf.f
  rw [specAddrOk_eq, l01In_eq]
  by_cases ha : 0 ≤ a ∧ a ≤ 4294967295
  · rw [decide_eq_true ha, decide_eq_false (fun hn => h ⟨ha, hn⟩)]
    simp
  · rw [decide_eq_false ha]
    simp

theorem implPrefixOf_eq (a n : Int) (ha : 0 ≤ a ∧ a ≤ 4294967295) (hn : 0 ≤ n ∧ n ≤ 32) : impl_PrefixOf.f a n = some (a - a % p2 (32 - n).toNat, n, true) := by
  unfold impl_PrefixOf.f
  rw [implAddrOk_eq, decide_eq_true ha, within_eq, decide_eq_true hn, lastBits_eq n hn.1 hn.2]
  simp only [Option.bind_some, if_true]
  rw [andNotMask a _ (by omega) ha.1 ha.2]

theorem implPrefixOf_no (a n : Int) (h : ¬ ((0 ≤ a ∧ a ≤ 4294967295) ∧ (0 ≤ n ∧ n ≤ 32))) : impl_PrefixOf.f a n = some (0, 0, false) := by
  unfold impl_PrefixOf.f
  rw [implAddrOk_eq, within_eq]
  by_cases ha : 0 ≤ a ∧ a ≤ 4294967295
  · rw [decide_eq_true ha, decide_eq_false (fun hn => h ⟨ha, hn⟩)]
    simp
  · rw [decide_eq_false ha]
    simp


theorem eqPrefix_refl (a b : Int) : laws_eqPrefix.f a b a b = some true := by unfold laws_eqPrefix.f; simp

theorem FnExactPrefixOf : laws_FnExactPrefixOf.Pure := by
  intro a n _ _
  by_cases h : (0 ≤ a ∧ a ≤ 4294967295) ∧ (0 ≤ n ∧ n ≤ 32)
  · obtain ⟨K, h1⟩ := specPrefixOf_ev a n h.1 h.2
    have h1 := h1 K (Nat.le_refl _)
    simp only at h1
    refine ⟨K, ?_⟩
    unfold laws_FnExactPrefixOf.f
    rw [h1, implPrefixOf_eq a n h.1 h.2]
    simp only [Option.bind_some]
    rw [eqPrefix_refl]
    simp
  · refine ⟨0, ?_⟩
    unfold laws_FnExactPrefixOf.f
    rw [specPrefixOf_no a n h 0, implPrefixOf_no a n h]
    simp only [Option.bind_some]
    rw [eqPrefix_refl]
    simp

end Go.Proofs.Ytbidjlpnjoihbaa.Pure.FnExactPrefixOf
namespace Go.Proofs.Ytbidjlpnjoihbaa.Pure
theorem FnExactPrefixOf : Go.Proofs.Ytbidjlpnjoihbaa.PFnExactPrefixOf.laws_FnExactPrefixOf.Pure := Go.Proofs.Ytbidjlpnjoihbaa.Pure.FnExactPrefixOf.FnExactPrefixOf
end Go.Proofs.Ytbidjlpnjoihbaa.Pure
