/- MulP of the program is MulP of the reference, for all numbers. -/
import Derived.Test.YthffbhmmpcmklaaPFnExactMulPx1
import Derived.OpenShut
import Derived.Laws.BitsLemmas
namespace Go.Proofs.Ythffbhmmpcmklaa.Pure.FnExactMulP
open Go Go.RowKit Go.Proofs.Ythffbhmmpcmklaa.PFnExactMulP Go.Proofs.YthffbhmmpcmklaaW.PrintWords Go.Proofs.YthffbhmmpcmklaaW.PrintLast Go.Proofs.YthffbhmmpcmklaaW.PrintMore
set_option linter.unusedVariables false
set_option linter.unusedSimpArgs false

theorem w64 {x : Int} (h0 : -9223372036854775808 ≤ x) (h1 : x ≤ 9223372036854775807) : wrap64 x = x := by unfold wrap64; omega

theorem wraps64 (n : Int) (h0 : 0 ≤ n) (h1 : n < 2 ^ 63) : IntKind.i64.wrap n = n := by rw [IntKind.wrap_i64]; omega

theorem wraps32 (n : Int) (h0 : 0 ≤ n) (h1 : n < 2 ^ 32) : IntKind.u32.wrap n = n := by rw [IntKind.wrap_u32]; omega

theorem and255 (x : Int) (h0 : 0 ≤ x) (h1 : x < 9223372036854775808) : Go.bits .and .i64 x 255 = x % 256 :=
  bits_mask .i64 63 (by decide) wraps64 8 (by decide) x h0 (by omega)

theorem mask32 (x : Int) (h0 : 0 ≤ x) (h1 : x < 9223372036854775808) : Go.bits .and .i64 x 4294967295 = x % 4294967296 :=
  bits_mask .i64 63 (by decide) wraps64 32 (by decide) x h0 (by omega)

theorem tdiv_nn {a : Int} (b : Int) (h : 0 ≤ a) : Int.tdiv a b = a / b := Int.tdiv_eq_ediv_of_nonneg h

theorem tmod_nn {a : Int} (b : Int) (h : 0 ≤ a) : Int.tmod a b = a % b := Int.tmod_eq_emod_of_nonneg h

theorem bt_nn (s : ByteArray) (i : Int) : 0 ≤ bt s i := (bt_range s i).1

theorem bt_le (s : ByteArray) (i : Int) : bt s i ≤ 255 := (bt_range s i).2

def modP (a : Int) : Int := a % 2147483579

theorem modP_nn (a : Int) : 0 ≤ modP a := by unfold modP; omega

theorem modP_lt (a : Int) : modP a < 2147483579 := by unfold modP; omega

theorem tmodP (a : Int) : Int.tmod a 2147483579 = modP a ∨ (Int.tmod a 2147483579 < 0 ∧ Int.tmod a 2147483579 + 2147483579 = modP a) := by
  unfold modP
  by_cases h : 0 ≤ a
  · left; exact tmod_nn _ h
  · have h1 : Int.tmod a 2147483579 = -(Int.tmod (-a) 2147483579) := by rw [Int.neg_tmod, Int.neg_neg]
    rw [h1, tmod_nn _ (by omega)]
    omega

theorem l03Mod_eq (a : Int) : spec_l03Mod.f a = some (modP a) := by
  unfold spec_l03Mod.f
  have h1 := modP_nn a
  have h2 := modP_lt a
  rcases tmodP a with h | ⟨h, h'⟩
  · rw [h, if_neg (by omega)]
  · rw [if_pos h, h', w64 (by omega) (by omega)]

theorem inPrime_eq (a : Int) : impl_inPrime.f a = some (modP a) := by
  unfold impl_inPrime.f
  have h1 := modP_nn a
  have h2 := modP_lt a
  rcases tmodP a with h | ⟨h, h'⟩
  · rw [h, w64 (by omega) (by omega), tmod_nn _ (by omega)]; congr 1; omega
  · rw [h', w64 (by omega) (by omega), tmod_nn _ (by omega)]; congr 1; omega

theorem mul_bound {x y : Int} (hx : 0 ≤ x) (hx' : x < 2147483579) (hy : 0 ≤ y) (hy' : y < 2147483579) : 0 ≤ x * y ∧ x * y ≤ 4611685726741798084 := by
  refine ⟨Int.mul_nonneg hx hy, ?_⟩
  have h1 : x * y ≤ 2147483578 * 2147483578 := Int.mul_le_mul (by omega) (by omega) hy (by omega)
  omega

theorem wmul {x y : Int} (hx : 0 ≤ x) (hx' : x < 2147483579) (hy : 0 ≤ y) (hy' : y < 2147483579) : Int.tmod (wrap64 (x * y)) 2147483579 = modP (x * y) := by
  have h := mul_bound hx hx' hy hy'
  rw [w64 (by omega) (by omega), tmod_nn _ h.1]; rfl

theorem specMulP_eq (a b : Int) : spec_MulP.f a b = some (modP (modP a * modP b)) := by
  unfold spec_MulP.f
  rw [l03Mod_eq, l03Mod_eq]
  simp only [Option.bind_some]
  rw [wmul (modP_nn a) (modP_lt a) (modP_nn b) (modP_lt b)]

theorem implMulP_eq (a b : Int) : impl_MulP.f a b = some (modP (modP a * modP b)) := by
  unfold impl_MulP.f
  rw [inPrime_eq, inPrime_eq]
  simp only [Option.bind_some]
  rw [wmul (modP_nn a) (modP_lt a) (modP_nn b) (modP_lt b)]

theorem FnExactMulP : laws_FnExactMulP.Pure := by
  intro a b _ _
  unfold laws_FnExactMulP.f
  rw [specMulP_eq, implMulP_eq]
  simp

end Go.Proofs.Ythffbhmmpcmklaa.Pure.FnExactMulP
namespace Go.Proofs.Ythffbhmmpcmklaa.Pure
theorem FnExactMulP : Go.Proofs.Ythffbhmmpcmklaa.PFnExactMulP.laws_FnExactMulP.Pure := Go.Proofs.Ythffbhmmpcmklaa.Pure.FnExactMulP.FnExactMulP
end Go.Proofs.Ythffbhmmpcmklaa.Pure
