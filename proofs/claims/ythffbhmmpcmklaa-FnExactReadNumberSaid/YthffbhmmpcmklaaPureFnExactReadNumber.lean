/- ReadNumber of the program is ReadNumber of the reference, for all texts. -/
import Derived.Test.YthffbhmmpcmklaaPFnExactReadNumberx1
import Derived.OpenShut
import Derived.Laws.BitsLemmas
namespace Go.Proofs.Ythffbhmmpcmklaa.Pure.FnExactReadNumber
open Go Go.RowKit Go.Proofs.Ythffbhmmpcmklaa.PFnExactReadNumber Go.Proofs.YthffbhmmpcmklaaW.PrintWords Go.Proofs.YthffbhmmpcmklaaW.PrintLast Go.Proofs.YthffbhmmpcmklaaW.PrintMore
set_option linter.unusedVariables false
set_option linter.unusedSimpArgs false

theorem w64 {x : Int} (h0 : -9223372036854775808 ≤ x) (h1 : x ≤ 9223372036854775807) : wrap64 x = x := by unfold wrap64; omega

theorem wraps64 (n : Int) (h0 : 0 ≤ n) (h1 : n < 2 ^ 63) : IntKind.i64.wrap n = n := by rw [IntKind.wrap_i64]; omega

theorem wraps32 (n : Int) (h0 : 0 ≤ n) (h1 : n < 2 ^ 32) : IntKind.u32.wrap n = n := by rw [IntKind.wrap_u32]; omega

theorem and255 (x : Int) (h0 : 0 ≤ x) (h1 : x < 9223372036854775808) : Go.bits .and .i64 x 255 = x % 256 :=
  bits_mask .i64 63 (by decide) wraps64 8 (by decide) x h0 (by omega)

theorem mask32 (x : Int) (h0 : 0 ≤ x) (h1 : x < 9223372036854775808) : Go.bits .and .i64 x 4294967295 = x % 4294967296 :=
  bits_mask .i64 63 (by decide) wraps64 32 (by decide) x h0 (by omega)

theorem tdiv_nn {a : Int} (b : Int) (h : 0 ≤ a) : Int.tdiv a b = a / b := Int.tdiv_eq_ediv_of_nonneg h

theorem tmod_nn {a : Int} (b : Int) (h : 0 ≤ a) : Int.tmod a b = a % b := Int.tmod_eq_emod_of_nonneg h

theorem bt_nn (s : ByteArray) (i : Int) : 0 ≤ bt s i := (bt_range s i).1

theorem bt_le (s : ByteArray) (i : Int) : bt s i ≤ 255 := (bt_range s i).2

def be (a b c d : Int) : Int := a * 16777216 + b * 65536 + c * 256 + d

theorem specReadNumber_eq (s : ByteArray) (h : s.size = 4) : spec_ReadNumber.f s = some (be (bt s 0) (bt s 1) (bt s 2) (bt s 3), true) := by
  unfold spec_ReadNumber.f be
  have h0 := bt_range s 0
  have h1 := bt_range s 1
  have h2 := bt_range s 2
  have h3 := bt_range s 3
  rw [if_pos (by omega), if_pos (by omega), if_pos (by omega), if_pos (by omega), if_pos (by omega)]
  generalize bt s 0 = a at *
  generalize bt s 1 = b at *
  generalize bt s 2 = c at *
  generalize bt s 3 = d at *
  congr 2
  unfold wrap64
  omega

theorem specReadNumber_no (s : ByteArray) (h : ¬ s.size = 4) : spec_ReadNumber.f s = some (0, false) := by
  unfold spec_ReadNumber.f
  rw [if_neg (by omega)]

theorem orjoin (i : Nat) (x y : Int) (hx0 : 0 ≤ x) (hx : x % 2 ^ i = 0) (hx1 : x < 2 ^ 63) (hy0 : 0 ≤ y) (hy : y < 2 ^ i) (hy1 : y < 2 ^ 63) : Go.bits .or .i64 x y = x + y :=
  bits_join .i64 63 (by decide) wraps64 i x y hx0 hx hx1 hy0 hy hy1

theorem implReadNumber_eq (s : ByteArray) (h : s.size = 4) : impl_ReadNumber.f s = some (be (bt s 0) (bt s 1) (bt s 2) (bt s 3), true) := by
  unfold impl_ReadNumber.f be
  have h0 := bt_range s 0
  have h1 := bt_range s 1
  have h2 := bt_range s 2
  have h3 := bt_range s 3
  rw [if_pos (by omega), if_pos (by omega), if_pos (by omega), if_pos (by omega), if_pos (by omega)]
  generalize bt s 0 = a at *
  generalize bt s 1 = b at *
  generalize bt s 2 = c at *
  generalize bt s 3 = d at *
  rw [w64 (x := a) (by omega) (by omega), w64 (x := b) (by omega) (by omega), w64 (x := c) (by omega) (by omega), w64 (x := d) (by omega) (by omega), w64 (x := a * 16777216) (by omega) (by omega), w64 (x := b * 65536) (by omega) (by omega), w64 (x := c * 256) (by omega) (by omega)]
  rw [orjoin 24 (a * 16777216) (b * 65536) (by omega) (by omega) (by omega) (by omega) (by omega) (by omega)]
  rw [orjoin 16 (a * 16777216 + b * 65536) (c * 256) (by omega) (by omega) (by omega) (by omega) (by omega) (by omega)]
  rw [orjoin 8 (a * 16777216 + b * 65536 + c * 256) d (by omega) (by omega) (by omega) (by omega) (by omega) (by omega)]

theorem implReadNumber_no (s : ByteArray) (h : ¬ s.size = 4) : impl_ReadNumber.f s = some (0, false) := by
  unfold impl_ReadNumber.f
  rw [if_neg (by omega)]

theorem FnExactReadNumber : laws_FnExactReadNumber.Pure := by
  intro s _
  unfold laws_FnExactReadNumber.f
  by_cases h : s.size = 4
  · rw [specReadNumber_eq s h, implReadNumber_eq s h]
    simp
  · rw [specReadNumber_no s h, implReadNumber_no s h]
    simp

end Go.Proofs.Ythffbhmmpcmklaa.Pure.FnExactReadNumber
namespace Go.Proofs.Ythffbhmmpcmklaa.Pure
theorem FnExactReadNumber : Go.Proofs.Ythffbhmmpcmklaa.PFnExactReadNumber.laws_FnExactReadNumber.Pure := Go.Proofs.Ythffbhmmpcmklaa.Pure.FnExactReadNumber.FnExactReadNumber
end Go.Proofs.Ythffbhmmpcmklaa.Pure
