/- SigText of the program is SigText of the reference, for all signatures. -/
import Derived.Test.YtbidjlpnjoihbaaPFnExactSigTextx
import Derived.OpenShut
import Derived.Laws.BitsLemmas
import Derived.Laws.Strings
namespace Go.Proofs.Ytbidjlpnjoihbaa.Pure.FnExactSigText
open Go Go.RowKit Go.Proofs.Ytbidjlpnjoihbaa.PFnExactSigText Go.Proofs.YtbidjlpnjoihbaaW.PrintWords Go.Proofs.YtbidjlpnjoihbaaW.PrintLast Go.Proofs.YtbidjlpnjoihbaaW.PrintMore
set_option linter.unusedVariables false
set_option linter.unusedSimpArgs false

theorem w64 {x : Int} (h0 : -9223372036854775808 ≤ x) (h1 : x ≤ 9223372036854775807) : wrap64 x = x := by unfold wrap64; omega

theorem wraps64 (n : Int) (h0 : 0 ≤ n) (h1 : n < 2 ^ 63) : IntKind.i64.wrap n = n := by rw [IntKind.wrap_i64]; omega

theorem wraps32 (n : Int) (h0 : 0 ≤ n) (h1 : n < 2 ^ 32) : IntKind.u32.wrap n = n := by rw [IntKind.wrap_u32]; omega

theorem and255 (x : Int) (h0 : 0 ≤ x) (h1 : x < 9223372036854775808) : Go.bits .and .i64 x 255 = x % 256 :=
  bits_mask .i64 63 (by decide) wraps64 8 (by decide) x h0 (by omega)

theorem mask32 (x : Int) (h0 : 0 ≤ x) (h1 : x < 9223372036854775808) : Go.bits .and .i64 x 4294967295 = x % 4294967296 :=
  bits_mask .i64 63 (by decide) wraps64 32 (by decide) x h0 (by omega)

theorem tdiv_nn {a : Int} (b : Int) (h : 0 ≤ a) : Int.tdiv a b = a / b := Int.tdiv_eq_ediv_of_nonneg h

theorem tmod_nn {a : Int} (b : Int) (h : 0 ≤ a) : Int.tmod a b = a % b := Int.tmod_eq_emod_of_nonneg h

theorem bt_nn (s : ByteArray) (i : Int) : 0 ≤ bt s i := (bt_range s i).1

theorem bt_le (s : ByteArray) (i : Int) : bt s i ≤ 255 := (bt_range s i).2

theorem l01In_eq (a b c : Int) : spec_l01In.f a b c = some (decide (b ≤ a ∧ a ≤ c)) := by
  unfold spec_l01In.f
  by_cases h : a ≥ b
  · rw [if_pos h]; congr 1; simp; omega
  · rw [if_neg h]; congr 1; simp; omega

theorem within_eq (a b c : Int) : impl_within.f a b c = some (decide (b ≤ a ∧ a ≤ c)) := by
  unfold impl_within.f
  by_cases h : a ≥ b
  · rw [if_pos h]; congr 1; simp; omega
  · rw [if_neg h]; congr 1; simp; omega


def inOrd (a : Int) : Bool := decide (0 ≤ a ∧ a ≤ 1073741788)

def sigOkB (e s : Int) : Bool := inOrd e && inOrd s

theorem implSigOk_eq (e s : Int) : impl_sigOk.f e s = some (sigOkB e s) := by
  unfold impl_sigOk.f sigOkB inOrd
  rw [within_eq, within_eq]
  cases decide (0 ≤ e ∧ e ≤ 1073741788) <;> simp

theorem sigOk_bounds {e s : Int} (h : sigOkB e s = true) : (0 ≤ e ∧ e ≤ 1073741788) ∧ (0 ≤ s ∧ s ≤ 1073741788) := by
  unfold sigOkB inOrd at h
  rw [Bool.and_eq_true] at h
  exact ⟨of_decide_eq_true h.1, of_decide_eq_true h.2⟩

def num4 (a : Int) : ByteArray := strOfNums [a / 16777216 % 256, a / 65536 % 256, a / 256 % 256, a % 256]

theorem specNumberText_eq (a : Int) (h0 : 0 ≤ a) (h1 : a ≤ 4294967295) : spec_NumberText.f a = some (num4 a) := by
  unfold spec_NumberText.f num4
  rw [l01In_eq, decide_eq_true (by omega)]
  simp only [Option.bind_some, if_true]
  rw [tdiv_nn _ h0, tdiv_nn _ h0, tdiv_nn _ h0, tmod_nn _ h0, w64 (by omega) (by omega), w64 (by omega) (by omega), w64 (by omega) (by omega), tmod_nn _ (by omega), tmod_nn _ (by omega)]
  rw [Int.emod_emod_of_dvd _ (by decide), Int.emod_emod_of_dvd _ (by decide), Int.emod_emod_of_dvd _ (by decide)]

theorem specNumberText_no (a : Int) (h : ¬ (0 ≤ a ∧ a ≤ 4294967295)) : spec_NumberText.f a = some ⟨#[]⟩ := by
  unfold spec_NumberText.f
  rw [l01In_eq, decide_eq_false h]
  simp

theorem implNumberText_eq (a : Int) (h0 : 0 ≤ a) (h1 : a ≤ 4294967295) : impl_NumberText.f a = some (num4 a) := by
  unfold impl_NumberText.f num4
  rw [within_eq, decide_eq_true (by omega)]
  simp only [Option.bind_some, if_true]
  rw [and255 _ (by omega) (by omega), and255 _ (by omega) (by omega), and255 _ (by omega) (by omega), and255 _ (by omega) (by omega)]
  rw [Int.emod_emod_of_dvd _ (by decide), Int.emod_emod_of_dvd _ (by decide), Int.emod_emod_of_dvd _ (by decide), Int.emod_emod_of_dvd _ (by decide)]

theorem implNumberText_no (a : Int) (h : ¬ (0 ≤ a ∧ a ≤ 4294967295)) : impl_NumberText.f a = some ⟨#[]⟩ := by
  unfold impl_NumberText.f
  rw [within_eq, decide_eq_false h]
  simp


theorem ba_ext {a b : ByteArray} (h : a.data.toList = b.data.toList) : a = b := by
  cases a; cases b
  congr 1
  exact Array.toList_inj.mp h

theorem ba_data_append (a b : ByteArray) : (a ++ b).data.toList = a.data.toList ++ b.data.toList := by
  rw [ByteArray.data_append, Array.toList_append]

theorem ba_size (a : ByteArray) : a.data.toList.length = a.size := data_length a

theorem ba_append_size (a b : ByteArray) : (a ++ b).size = a.size + b.size := ByteArray.size_append

theorem strOf_append (a b : List Int) : strOfNums a ++ strOfNums b = strOfNums (a ++ b) := by
  apply ba_ext
  rw [ba_data_append, strOfNums_data, strOfNums_data, strOfNums_data, List.map_append]

def Bytes (xs : List Int) : Prop := ∀ x ∈ xs, 0 ≤ x ∧ x ≤ 255

theorem bytesOf_bytes (s : ByteArray) : Bytes (bytesOf s) := by
  intro x hx
  unfold bytesOf at hx
  obtain ⟨b, _, rfl⟩ := List.mem_map.mp hx
  have := b.toNat_lt
  omega

theorem bytesOf_strOf {xs : List Int} (h : Bytes xs) : bytesOf (strOfNums xs) = xs := by
  unfold bytesOf
  rw [strOfNums_data, List.map_map]
  conv => rhs; rw [← List.map_id xs]
  apply List.map_congr_left
  intro x hx
  have := h x hx
  simp only [Function.comp, id]
  rw [UInt8.toNat_ofNat_of_lt' (by simp [UInt8.size]; omega)]
  omega

theorem strOf_bytesOf (s : ByteArray) : strOfNums (bytesOf s) = s := by
  apply ba_ext
  rw [strOfNums_data]
  unfold bytesOf
  rw [List.map_map]
  conv => rhs; rw [← List.map_id s.data.toList]
  apply List.map_congr_left
  intro x _
  simp

theorem bytesOf_append (a b : ByteArray) : bytesOf (a ++ b) = bytesOf a ++ bytesOf b := by
  unfold bytesOf
  rw [ba_data_append, List.map_append]

theorem bytesOf_inj {a b : ByteArray} (h : bytesOf a = bytesOf b) : a = b := by
  rw [← strOf_bytesOf a, h, strOf_bytesOf]

theorem ba_toList (a : ByteArray) : a.toList = a.data.toList := by
  exact ByteArray.toList_eq a

theorem toList_inj {a b : ByteArray} (h : a.toList = b.toList) : a = b := by
  rw [ba_toList, ba_toList] at h
  exact ba_ext h

theorem bytesOf_extract (s : ByteArray) (i j : Nat) : bytesOf (s.extract i j) = ((bytesOf s).take j).drop i := by
  unfold bytesOf
  rw [ByteArray.data_extract, Array.toList_extract]
  simp [List.extract_eq_take_drop, List.drop_take, List.map_take, List.map_drop]

theorem bt_bytesOf (s : ByteArray) (i : Int) : bt s i = rd (bytesOf s) i := (rd_bytesOf s i).symm

theorem bt_strOf {xs : List Int} (h : Bytes xs) (i : Int) : bt (strOfNums xs) i = rd xs i := by
  rw [bt_bytesOf, bytesOf_strOf h]

theorem rd_pre (pre : List Int) (x : Int) (post : List Int) : rd (pre ++ x :: post) (pre.length : Int) = x := by
  unfold rd
  simp

theorem num4_size (a : Int) : (num4 a).size = 4 := by unfold num4; rw [strOfNums_size]; rfl

theorem implSigText_eq (e s : Int) (h : sigOkB e s = true) : impl_SigText.f e s = some (num4 e ++ num4 s, true) := by
  have hb := sigOk_bounds h
  unfold impl_SigText.f
  rw [implSigOk_eq, h]
  simp only [Option.bind_some, if_true]
  rw [implNumberText_eq e (by omega) (by omega), implNumberText_eq s (by omega) (by omega)]
  simp only [Option.bind_some]
  rw [num4_size, num4_size, if_pos (by omega)]

theorem implSigText_no (e s : Int) (h : sigOkB e s = false) : impl_SigText.f e s = some (⟨#[]⟩, false) := by
  unfold impl_SigText.f
  rw [implSigOk_eq, h]
  simp

theorem specSigText_eq (e s : Int) (h : sigOkB e s = true) (k : Nat) : spec_SigText.f (k + 1) e s = some (num4 e ++ num4 s, true) := by
  have hb := sigOk_bounds h
  unfold spec_SigText.f
  rw [l01In_eq, l01In_eq, decide_eq_true hb.1, decide_eq_true hb.2]
  simp only [Option.bind_some, if_true]
  rw [spec_SigText.j0]
  simp only [Bool.not_true, Bool.false_eq_true, if_false]
  rw [specNumberText_eq e (by omega) (by omega), specNumberText_eq s (by omega) (by omega)]
  simp only [Option.bind_some]
  rw [num4_size, num4_size, if_pos (by omega)]

theorem specSigText_no (e s : Int) (h : sigOkB e s = false) (k : Nat) : spec_SigText.f (k + 1) e s = some (⟨#[]⟩, false) := by
  unfold spec_SigText.f
  rw [l01In_eq, l01In_eq]
  unfold sigOkB inOrd at h
  cases he : decide (0 ≤ e ∧ e ≤ 1073741788)
  · simp [spec_SigText.j0]
  · rw [he] at h
    rw [Bool.true_and] at h
    rw [h]
    simp [spec_SigText.j0]


theorem FnExactSigText (e s : Int) (_ : (Lit.int .i64 e).wf = true) (_ : (Lit.int .i64 s).wf = true) : ∃ k, laws_FnExactSigText.f k e s = some true := by
  refine ⟨1, ?_⟩
  unfold laws_FnExactSigText.f laws_toSig.f
  simp only [Option.bind_some]
  cases h : sigOkB e s
  · rw [specSigText_no e s h 0, implSigText_no e s h]
    simp
  · rw [specSigText_eq e s h 0, implSigText_eq e s h]
    simp

end Go.Proofs.Ytbidjlpnjoihbaa.Pure.FnExactSigText
