/- ShortText of the program is ShortText of the reference, for all texts. -/
import Derived.Test.YtbidjlpnjoihbaaPFnExactShortTextx1
import Derived.OpenShut
import Derived.Laws.BitsLemmas
import Derived.Laws.Strings
namespace Go.Proofs.Ytbidjlpnjoihbaa.Pure.FnExactShortText
open Go Go.RowKit Go.Proofs.Ytbidjlpnjoihbaa.PFnExactShortText Go.Proofs.YtbidjlpnjoihbaaW.PrintWords Go.Proofs.YtbidjlpnjoihbaaW.PrintLast Go.Proofs.YtbidjlpnjoihbaaW.PrintMore
set_option linter.unusedVariables false
set_option linter.unusedSimpArgs false

theorem w64 {x : Int} (h0 : -9223372036854775808 ≤ x) (h1 : x ≤ 9223372036854775807) : wrap64 x = x := by unfold wrap64; omega

theorem wraps64 (n : Int) (h0 : 0 ≤ n) (h1 : n < 2 ^ 63) : IntKind.i64.wrap n = n := by rw [IntKind.wrap_i64]; omega

theorem wraps32 (n : Int) (h0 : 0 ≤ n) (h1 : n < 2 ^ 32) : IntKind.u32.wrap n = n := by rw [IntKind.wrap_u32]; omega

theorem and255 (x : Int) (h0 : 0 ≤ x) (h1 : x < 9223372036854775808) : Go.bits .and .i64 x 255 = x % 256 :=
  bits_mask .i64 63 (by decide) wraps64 8 (by decide) x h0 (by omega)

theorem mask32 (x : Int) (h0 : 0 ≤ x) (h1 : x < 9223372036854775808) : Go.bits .and .i64 x 4294967295 = x % 4294967296 :=
  bits_mask .i64 63 (by decide) wraps64 32 (by decide) x h0 (by omega)

theorem tdiv_nn {a : Int} (b : Int) (h : 0 ≤ a) : Int.tdiv a b = a / b := Int.tdiv_eq_ediv_of_nonneg h

theorem tmod_nn {a : Int} (b : Int) (h : 0 ≤ a) : Int.tmod a b = a % b := Int.tmod_eq_emod_of_nonneg h

theorem bt_nn (s : ByteArray) (i : Int) : 0 ≤ bt s i := (bt_range s i).1

theorem bt_le (s : ByteArray) (i : Int) : bt s i ≤ 255 := (bt_range s i).2

theorem within_eq (a b c : Int) : impl_within.f a b c = some (decide (b ≤ a ∧ a ≤ c)) := by
  unfold impl_within.f
  by_cases h : a ≥ b
  · rw [if_pos h]; congr 1; simp; omega
  · rw [if_neg h]; congr 1; simp; omega


def varF : Nat → Int → List Int
  | 0, n => [n % 256]
  | f + 1, n => if n > 127 then (n % 128 + 128) :: varF f (n / 128) else [n % 256]

theorem varF_length : ∀ (f : Nat) (n : Int), (varF f n).length ≤ f + 1
  | 0, n => by simp [varF]
  | f + 1, n => by
    unfold varF
    split
    · have := varF_length f (n / 128); simp; omega
    · simp

def varNums (n : Int) : List Int := varF 9 n

def varOf (n : Int) : ByteArray := strOfNums (varNums n)

theorem l01Var_l0 : ∀ (f : Nat) (k : Nat) (n : Int) (acc : List Int), 0 ≤ n → n < 128 ^ (f + 1) → n ≤ 9223372036854775807 → acc.length + f < 140737488355328 → spec_l01Var.l0 (k + f + 1) n acc = some (strOfNums (acc ++ varF f n))
  | 0, k, n, acc, h0, h1, h2, hl => by
    show spec_l01Var.l0 (k + 1) n acc = _
    rw [spec_l01Var.l0, if_neg (by omega), if_pos (by omega)]
    rfl
  | f + 1, k, n, acc, h0, h1, h2, hl => by
    show spec_l01Var.l0 ((k + f + 1) + 1) n acc = _
    rw [spec_l01Var.l0]
    by_cases h : n > 127
    · have hp : n / 128 < 128 ^ (f + 1) := by
        have : (128 : Int) ^ (f + 1 + 1) = 128 ^ (f + 1) * 128 := Int.pow_succ _ _
        omega
      rw [if_pos h, if_pos (by omega), tdiv_nn _ h0, tmod_nn _ h0, w64 (x := n / 128) (by omega) (by omega), w64 (x := n % 128 + 128) (by omega) (by omega), l01Var_l0 f k _ _ (by omega) hp (by omega) (by simp; omega)]
      have e : (n % 128 + 128) % 256 = n % 128 + 128 := by omega
      rw [varF, if_pos h, e]
      simp
    · rw [if_neg h, if_pos (by omega), varF, if_neg h]

theorem implVar_l0 : ∀ (f : Nat) (k : Nat) (n : Int) (acc : List Int), 0 ≤ n → n < 128 ^ (f + 1) → n ≤ 9223372036854775807 → acc.length + f < 140737488355328 → impl_VarText.l0 (k + f + 1) n acc = some (strOfNums (acc ++ varF f n), true)
  | 0, k, n, acc, h0, h1, h2, hl => by
    show impl_VarText.l0 (k + 1) n acc = _
    rw [impl_VarText.l0, if_neg (by omega), if_pos (by omega)]
    rfl
  | f + 1, k, n, acc, h0, h1, h2, hl => by
    show impl_VarText.l0 ((k + f + 1) + 1) n acc = _
    rw [impl_VarText.l0]
    by_cases h : n > 127
    · have hp : n / 128 < 128 ^ (f + 1) := by
        have : (128 : Int) ^ (f + 1 + 1) = 128 ^ (f + 1) * 128 := Int.pow_succ _ _
        omega
      rw [if_pos h, if_pos (by omega), tdiv_nn _ h0, tmod_nn _ h0, w64 (x := n / 128) (by omega) (by omega), w64 (x := n % 128 + 128) (by omega) (by omega), implVar_l0 f k _ _ (by omega) hp (by omega) (by simp; omega)]
      have e : (n % 128 + 128) % 256 = n % 128 + 128 := by omega
      rw [varF, if_pos h, e]
      simp
    · rw [if_neg h, if_pos (by omega), varF, if_neg h]

theorem l01Var_ev (n : Int) (h0 : 0 ≤ n) (h1 : n ≤ 9223372036854775807) : Ev (fun k => spec_l01Var.f k n) (varOf n) := by
  refine ⟨10, fun k hk => ?_⟩
  obtain ⟨m, rfl⟩ : ∃ m, k = m + 9 + 1 := ⟨k - 10, by omega⟩
  exact l01Var_l0 9 m n [] h0 (by omega) h1 (by simp)

theorem implVarText_ev (n : Int) (h0 : 0 ≤ n) (h1 : n ≤ 1000000000) : Ev (fun k => impl_VarText.f k n) (varOf n, true) := by
  refine ⟨10, fun k hk => ?_⟩
  obtain ⟨m, rfl⟩ : ∃ m, k = m + 9 + 1 := ⟨k - 10, by omega⟩
  show impl_VarText.f (m + 9 + 1) n = _
  unfold impl_VarText.f
  rw [within_eq, decide_eq_true ⟨h0, h1⟩]
  exact implVar_l0 9 m n [] h0 (by omega) (by omega) (by simp)

theorem implVarText_no (n : Int) (h : ¬ (0 ≤ n ∧ n ≤ 1000000000)) (k : Nat) : impl_VarText.f k n = some (⟨#[]⟩, false) := by
  unfold impl_VarText.f
  rw [within_eq, decide_eq_false h]
  simp


theorem ba_ext {a b : ByteArray} (h : a.data.toList = b.data.toList) : a = b := by
  cases a; cases b
  congr 1
  exact Array.toList_inj.mp h

theorem ba_data_append (a b : ByteArray) : (a ++ b).data.toList = a.data.toList ++ b.data.toList := by
  rw [ByteArray.data_append, Array.toList_append]

theorem ba_size (a : ByteArray) : a.data.toList.length = a.size := data_length a

theorem ba_append_size (a b : ByteArray) : (a ++ b).size = a.size + b.size := ByteArray.size_append

theorem strOf_append (a b : List Int) : strOfNums a ++ strOfNums b = strOfNums (a ++ b) := by
  apply ba_ext
  rw [ba_data_append, strOfNums_data, strOfNums_data, strOfNums_data, List.map_append]

def Bytes (xs : List Int) : Prop := ∀ x ∈ xs, 0 ≤ x ∧ x ≤ 255

theorem bytesOf_bytes (s : ByteArray) : Bytes (bytesOf s) := by
  intro x hx
  unfold bytesOf at hx
  obtain ⟨b, _, rfl⟩ := List.mem_map.mp hx
  have := b.toNat_lt
  omega

theorem bytesOf_strOf {xs : List Int} (h : Bytes xs) : bytesOf (strOfNums xs) = xs := by
  unfold bytesOf
  rw [strOfNums_data, List.map_map]
  conv => rhs; rw [← List.map_id xs]
  apply List.map_congr_left
  intro x hx
  have := h x hx
  simp only [Function.comp, id]
  rw [UInt8.toNat_ofNat_of_lt' (by simp [UInt8.size]; omega)]
  omega

theorem strOf_bytesOf (s : ByteArray) : strOfNums (bytesOf s) = s := by
  apply ba_ext
  rw [strOfNums_data]
  unfold bytesOf
  rw [List.map_map]
  conv => rhs; rw [← List.map_id s.data.toList]
  apply List.map_congr_left
  intro x _
  simp

theorem bytesOf_append (a b : ByteArray) : bytesOf (a ++ b) = bytesOf a ++ bytesOf b := by
  unfold bytesOf
  rw [ba_data_append, List.map_append]

theorem bytesOf_inj {a b : ByteArray} (h : bytesOf a = bytesOf b) : a = b := by
  rw [← strOf_bytesOf a, h, strOf_bytesOf]

theorem ba_toList (a : ByteArray) : a.toList = a.data.toList := by
  exact ByteArray.toList_eq a

theorem toList_inj {a b : ByteArray} (h : a.toList = b.toList) : a = b := by
  rw [ba_toList, ba_toList] at h
  exact ba_ext h

theorem bytesOf_extract (s : ByteArray) (i j : Nat) : bytesOf (s.extract i j) = ((bytesOf s).take j).drop i := by
  unfold bytesOf
  rw [ByteArray.data_extract, Array.toList_extract]
  simp [List.extract_eq_take_drop, List.drop_take, List.map_take, List.map_drop]

theorem bt_bytesOf (s : ByteArray) (i : Int) : bt s i = rd (bytesOf s) i := (rd_bytesOf s i).symm

theorem bt_strOf {xs : List Int} (h : Bytes xs) (i : Int) : bt (strOfNums xs) i = rd xs i := by
  rw [bt_bytesOf, bytesOf_strOf h]

theorem rd_pre (pre : List Int) (x : Int) (post : List Int) : rd (pre ++ x :: post) (pre.length : Int) = x := by
  unfold rd
  simp

theorem varOf_size (n : Int) : (varOf n).size ≤ 10 := by
  unfold varOf varNums
  rw [strOfNums_size]
  have := varF_length 9 n
  omega

def shortOf (s : ByteArray) : ByteArray := varOf (s.size : Int) ++ s

theorem specShortText_ev (s : ByteArray) (h : s.size ≤ 20000) : Ev (fun k => spec_ShortText.f k s) (shortOf s, true) := by
  obtain ⟨K, h1⟩ := l01Var_ev (s.size : Int) (by omega) (by omega)
  refine ⟨K, fun k hk => ?_⟩
  have h1 := h1 k hk
  simp only at h1
  have hz := varOf_size (s.size : Int)
  show spec_ShortText.f k s = _
  unfold spec_ShortText.f
  rw [if_neg (by omega), h1]
  simp only [Option.bind_some]
  rw [if_pos (by omega)]
  rfl

theorem specShortText_no (s : ByteArray) (h : ¬ s.size ≤ 20000) (k : Nat) : spec_ShortText.f k s = some (⟨#[]⟩, false) := by
  unfold spec_ShortText.f
  rw [if_pos (by omega)]

theorem implShortText_ev (s : ByteArray) (h : s.size ≤ 20000) : Ev (fun k => impl_ShortText.f k s) (shortOf s, true) := by
  obtain ⟨K, h1⟩ := implVarText_ev (s.size : Int) (by omega) (by omega)
  refine ⟨K, fun k hk => ?_⟩
  have h1 := h1 k hk
  simp only at h1
  have hz := varOf_size (s.size : Int)
  show impl_ShortText.f k s = _
  unfold impl_ShortText.f
  rw [if_neg (by omega), h1]
  simp only [Option.bind_some]
  rw [if_pos (by omega)]
  rfl

theorem implShortText_no (s : ByteArray) (h : ¬ s.size ≤ 20000) (k : Nat) : impl_ShortText.f k s = some (⟨#[]⟩, false) := by
  unfold impl_ShortText.f
  rw [if_pos (by omega)]


theorem FnExactShortText : laws_FnExactShortText.Pure := by
  intro s _
  by_cases h : s.size ≤ 20000
  · obtain ⟨K, h1⟩ := specShortText_ev s h
    obtain ⟨K', h2⟩ := implShortText_ev s h
    refine ⟨K + K', ?_⟩
    have h1 := h1 (K + K') (by omega)
    have h2 := h2 (K + K') (by omega)
    simp only at h1 h2
    unfold laws_FnExactShortText.f
    rw [h1, h2]
    simp
  · refine ⟨0, ?_⟩
    unfold laws_FnExactShortText.f
    rw [specShortText_no s h, implShortText_no s h]
    simp

end Go.Proofs.Ytbidjlpnjoihbaa.Pure.FnExactShortText
namespace Go.Proofs.Ytbidjlpnjoihbaa.Pure
theorem FnExactShortText : Go.Proofs.Ytbidjlpnjoihbaa.PFnExactShortText.laws_FnExactShortText.Pure := Go.Proofs.Ytbidjlpnjoihbaa.Pure.FnExactShortText.FnExactShortText
end Go.Proofs.Ytbidjlpnjoihbaa.Pure
