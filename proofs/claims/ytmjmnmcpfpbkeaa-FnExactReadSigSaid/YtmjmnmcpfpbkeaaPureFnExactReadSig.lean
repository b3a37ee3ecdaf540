/- ReadSig of the program is ReadSig of the reference, for all texts. -/
import Derived.Test.YtmjmnmcpfpbkeaaPFnExactReadSigx1
import Derived.OpenShut
import Derived.Laws.BitsLemmas
import Derived.Laws.Strings
namespace Go.Proofs.Ytmjmnmcpfpbkeaa.Pure.FnExactReadSig
open Go Go.RowKit Go.Proofs.Ytmjmnmcpfpbkeaa.PFnExactReadSig Go.Proofs.YtmjmnmcpfpbkeaaW.PrintWords Go.Proofs.YtmjmnmcpfpbkeaaW.PrintLast Go.Proofs.YtmjmnmcpfpbkeaaW.PrintMore
set_option linter.unusedVariables false
set_option linter.unusedSimpArgs false

theorem w64 {x : Int} (h0 : -9223372036854775808 ≤ x) (h1 : x ≤ 9223372036854775807) : wrap64 x = x := by unfold wrap64; omega

theorem wraps64 (n : Int) (h0 : 0 ≤ n) (h1 : n < 2 ^ 63) : IntKind.i64.wrap n = n := by rw [IntKind.wrap_i64]; omega

theorem wraps32 (n : Int) (h0 : 0 ≤ n) (h1 : n < 2 ^ 32) : IntKind.u32.wrap n = n := by rw [IntKind.wrap_u32]; omega

theorem and255 (x : Int) (h0 : 0 ≤ x) (h1 : x < 9223372036854775808) : Go.bits .and .i64 x 255 = x % 256 :=
  bits_mask .i64 63 (by decide) wraps64 8 (by decide) x h0 (by omega)

theorem mask32 (x : Int) (h0 : 0 ≤ x) (h1 : x < 9223372036854775808) : Go.bits .and .i64 x 4294967295 = x % 4294967296 :=
  bits_mask .i64 63 (by decide) wraps64 32 (by decide) x h0 (by omega)

theorem tdiv_nn {a : Int} (b : Int) (h : 0 ≤ a) : Int.tdiv a b = a / b := Int.tdiv_eq_ediv_of_nonneg h

theorem tmod_nn {a : Int} (b : Int) (h : 0 ≤ a) : Int.tmod a b = a % b := Int.tmod_eq_emod_of_nonneg h

theorem bt_nn (s : ByteArray) (i : Int) : 0 ≤ bt s i := (bt_range s i).1

theorem bt_le (s : ByteArray) (i : Int) : bt s i ≤ 255 := (bt_range s i).2

theorem within_eq (a b c : Int) : impl_within.f a b c = some (decide (b ≤ a ∧ a ≤ c)) := by
  unfold impl_within.f
  by_cases h : a ≥ b
  · rw [if_pos h]; congr 1; simp; omega
  · rw [if_neg h]; congr 1; simp; omega


def inOrd (a : Int) : Bool := decide (0 ≤ a ∧ a ≤ 1073741788)

def sigOkB (e s : Int) : Bool := inOrd e && inOrd s

theorem implSigOk_eq (e s : Int) : impl_sigOk.f e s = some (sigOkB e s) := by
  unfold impl_sigOk.f sigOkB inOrd
  rw [within_eq, within_eq]
  cases decide (0 ≤ e ∧ e ≤ 1073741788) <;> simp

theorem sigOk_bounds {e s : Int} (h : sigOkB e s = true) : (0 ≤ e ∧ e ≤ 1073741788) ∧ (0 ≤ s ∧ s ≤ 1073741788) := by
  unfold sigOkB inOrd at h
  rw [Bool.and_eq_true] at h
  exact ⟨of_decide_eq_true h.1, of_decide_eq_true h.2⟩

def be (a b c d : Int) : Int := a * 16777216 + b * 65536 + c * 256 + d

theorem specReadNumber_eq (s : ByteArray) (h : s.size = 4) : spec_ReadNumber.f s = some (be (bt s 0) (bt s 1) (bt s 2) (bt s 3), true) := by
  unfold spec_ReadNumber.f be
  have h0 := bt_range s 0
  have h1 := bt_range s 1
  have h2 := bt_range s 2
  have h3 := bt_range s 3
  rw [if_pos (by omega), if_pos (by omega), if_pos (by omega), if_pos (by omega), if_pos (by omega)]
  generalize bt s 0 = a at *
  generalize bt s 1 = b at *
  generalize bt s 2 = c at *
  generalize bt s 3 = d at *
  congr 2
  unfold wrap64
  omega

theorem specReadNumber_no (s : ByteArray) (h : ¬ s.size = 4) : spec_ReadNumber.f s = some (0, false) := by
  unfold spec_ReadNumber.f
  rw [if_neg (by omega)]

theorem orjoin (i : Nat) (x y : Int) (hx0 : 0 ≤ x) (hx : x % 2 ^ i = 0) (hx1 : x < 2 ^ 63) (hy0 : 0 ≤ y) (hy : y < 2 ^ i) (hy1 : y < 2 ^ 63) : Go.bits .or .i64 x y = x + y :=
  bits_join .i64 63 (by decide) wraps64 i x y hx0 hx hx1 hy0 hy hy1

theorem implReadNumber_eq (s : ByteArray) (h : s.size = 4) : impl_ReadNumber.f s = some (be (bt s 0) (bt s 1) (bt s 2) (bt s 3), true) := by
  unfold impl_ReadNumber.f be
  have h0 := bt_range s 0
  have h1 := bt_range s 1
  have h2 := bt_range s 2
  have h3 := bt_range s 3
  rw [if_pos (by omega), if_pos (by omega), if_pos (by omega), if_pos (by omega), if_pos (by omega)]
  generalize bt s 0 = a at *
  generalize bt s 1 = b at *
  generalize bt s 2 = c at *
  generalize bt s 3 = d at *
  rw [w64 (x := a) (by omega) (by omega), w64 (x := b) (by omega) (by omega), w64 (x := c) (by omega) (by omega), w64 (x := d) (by omega) (by omega), w64 (x := a * 16777216) (by omega) (by omega), w64 (x := b * 65536) (by omega) (by omega), w64 (x := c * 256) (by omega) (by omega)]
  rw [orjoin 24 (a * 16777216) (b * 65536) (by omega) (by omega) (by omega) (by omega) (by omega) (by omega)]
  rw [orjoin 16 (a * 16777216 + b * 65536) (c * 256) (by omega) (by omega) (by omega) (by omega) (by omega) (by omega)]
  rw [orjoin 8 (a * 16777216 + b * 65536 + c * 256) d (by omega) (by omega) (by omega) (by omega) (by omega) (by omega)]

theorem implReadNumber_no (s : ByteArray) (h : ¬ s.size = 4) : impl_ReadNumber.f s = some (0, false) := by
  unfold impl_ReadNumber.f
  rw [if_neg (by omega)]


theorem ba_ext {a b : ByteArray} (h : a.data.toList = b.data.toList) : a = b := by
  cases a; cases b
  congr 1
  exact Array.toList_inj.mp h

theorem ba_data_append (a b : ByteArray) : (a ++ b).data.toList = a.data.toList ++ b.data.toList := by
  rw [ByteArray.data_append, Array.toList_append]

theorem ba_size (a : ByteArray) : a.data.toList.length = a.size := data_length a

theorem ba_append_size (a b : ByteArray) : (a ++ b).size = a.size + b.size := ByteArray.size_append

theorem strOf_append (a b : List Int) : strOfNums a ++ strOfNums b = strOfNums (a ++ b) := by
  apply ba_ext
  rw [ba_data_append, strOfNums_data, strOfNums_data, strOfNums_data, List.map_append]

def Bytes (xs : List Int) : Prop := ∀ x ∈ xs, 0 ≤ x ∧ x ≤ 255

theorem bytesOf_bytes (s : ByteArray) : Bytes (bytesOf s) := by
  intro x hx
  unfold bytesOf at hx
  obtain ⟨b, _, rfl⟩ := List.mem_map.mp hx
  have := b.toNat_lt
  omega

theorem bytesOf_strOf {xs : List Int} (h : Bytes xs) : bytesOf (strOfNums xs) = xs := by
  unfold bytesOf
  rw [strOfNums_data, List.map_map]
  conv => rhs; rw [← List.map_id xs]
  apply List.map_congr_left
  intro x hx
  have := h x hx
  simp only [Function.comp, id]
  rw [UInt8.toNat_ofNat_of_lt' (by simp [UInt8.size]; omega)]
  omega

theorem strOf_bytesOf (s : ByteArray) : strOfNums (bytesOf s) = s := by
  apply ba_ext
  rw [strOfNums_data]
  unfold bytesOf
  rw [List.map_map]
  conv => rhs; rw [← List.map_id s.data.toList]
  apply List.map_congr_left
  intro x _
  simp

theorem bytesOf_append (a b : ByteArray) : bytesOf (a ++ b) = bytesOf a ++ bytesOf b := by
  unfold bytesOf
  rw [ba_data_append, List.map_append]

theorem bytesOf_inj {a b : ByteArray} (h : bytesOf a = bytesOf b) : a = b := by
  rw [← strOf_bytesOf a, h, strOf_bytesOf]

theorem ba_toList (a : ByteArray) : a.toList = a.data.toList := by
  exact ByteArray.toList_eq a

theorem toList_inj {a b : ByteArray} (h : a.toList = b.toList) : a = b := by
  rw [ba_toList, ba_toList] at h
  exact ba_ext h

theorem bytesOf_extract (s : ByteArray) (i j : Nat) : bytesOf (s.extract i j) = ((bytesOf s).take j).drop i := by
  unfold bytesOf
  rw [ByteArray.data_extract, Array.toList_extract]
  simp [List.extract_eq_take_drop, List.drop_take, List.map_take, List.map_drop]

theorem bt_bytesOf (s : ByteArray) (i : Int) : bt s i = rd (bytesOf s) i := (rd_bytesOf s i).symm

theorem bt_strOf {xs : List Int} (h : Bytes xs) (i : Int) : bt (strOfNums xs) i = rd xs i := by
  rw [bt_bytesOf, bytesOf_strOf h]

theorem rd_pre (pre : List Int) (x : Int) (post : List Int) : rd (pre ++ x :: post) (pre.length : Int) = x := by
  unfold rd
  simp

theorem be_range (s : ByteArray) : 0 ≤ be (bt s 0) (bt s 1) (bt s 2) (bt s 3) ∧ be (bt s 0) (bt s 1) (bt s 2) (bt s 3) ≤ 4294967295 := by
  have h0 := bt_range s 0
  have h1 := bt_range s 1
  have h2 := bt_range s 2
  have h3 := bt_range s 3
  unfold be
  omega

def numOf (s : ByteArray) : Int := be (bt s 0) (bt s 1) (bt s 2) (bt s 3)

theorem ext_sz (t : ByteArray) (i j : Nat) (h : j ≤ t.size) : (t.extract i j).size = j - i := by
  rw [← bytesOf_length, bytesOf_extract, List.length_drop, List.length_take, bytesOf_length]
  omega

def readSigM (t : ByteArray) : Int × Int × Bool :=
  if t.size = 8 then (if sigOkB (numOf (t.extract 0 4)) (numOf (t.extract 4 t.size)) = true then (numOf (t.extract 0 4), numOf (t.extract 4 t.size), true) else (0, 0, false)) else (0, 0, false)

theorem specReadSig_eq (t : ByteArray) : spec_ReadSig.f t = some (readSigM t) := by
  unfold spec_ReadSig.f readSigM
  by_cases h : t.size = 8
  · rw [if_pos (by omega), if_pos h, if_pos (by omega), if_pos (by omega)]
    rw [specReadNumber_eq _ (by rw [ext_sz _ _ _ (by omega)]), specReadNumber_eq _ (by rw [ext_sz _ _ _ (by omega)]; omega)]
    simp only [Option.bind_some]
    have h1 := be_range (t.extract 0 4)
    have h2 := be_range (t.extract 4 t.size)
    unfold numOf
    generalize be (bt (t.extract 0 4) 0) (bt (t.extract 0 4) 1) (bt (t.extract 0 4) 2) (bt (t.extract 0 4) 3) = x at *
    generalize be (bt (t.extract 4 t.size) 0) (bt (t.extract 4 t.size) 1) (bt (t.extract 4 t.size) 2) (bt (t.extract 4 t.size) 3) = y at *
    unfold sigOkB inOrd
    by_cases hx : x ≥ 1073741789
    · rw [if_pos hx, decide_eq_false (by omega)]
      simp
    · rw [if_neg hx, decide_eq_true (p := 0 ≤ x ∧ x ≤ 1073741788) (by omega)]
      by_cases hy : y ≥ 1073741789
      · rw [if_pos hy, decide_eq_false (by omega)]
        simp
      · rw [if_neg hy, decide_eq_true (by omega)]
        simp
  · rw [if_neg (by omega), if_neg h]

theorem implReadSig_eq (t : ByteArray) : impl_ReadSig.f t = some (readSigM t) := by
  unfold impl_ReadSig.f readSigM
  by_cases h : t.size = 8
  · rw [if_pos (by omega), if_pos h, if_pos (by omega), if_pos (by omega)]
    rw [implReadNumber_eq _ (by rw [ext_sz _ _ _ (by omega)]), implReadNumber_eq _ (by rw [ext_sz _ _ _ (by omega)]; omega)]
    simp only [Option.bind_some]
    rw [implSigOk_eq]
    simp only [Option.bind_some]
    unfold numOf
    split <;> rfl
  · rw [if_neg (by omega), if_neg h]


theorem FnExactReadSig : laws_FnExactReadSig.Pure := by
  intro t _
  unfold laws_FnExactReadSig.f
  rw [specReadSig_eq, implReadSig_eq]
  simp [laws_eqSig.f]

end Go.Proofs.Ytmjmnmcpfpbkeaa.Pure.FnExactReadSig
namespace Go.Proofs.Ytmjmnmcpfpbkeaa.Pure
theorem FnExactReadSig : Go.Proofs.Ytmjmnmcpfpbkeaa.PFnExactReadSig.laws_FnExactReadSig.Pure := Go.Proofs.Ytmjmnmcpfpbkeaa.Pure.FnExactReadSig.FnExactReadSig
end Go.Proofs.Ytmjmnmcpfpbkeaa.Pure
