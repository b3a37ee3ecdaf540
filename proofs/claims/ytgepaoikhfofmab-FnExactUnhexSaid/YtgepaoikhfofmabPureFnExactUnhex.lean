/- Unhex of the program is Unhex of the reference. -/
import Derived.Test.YtgepaoikhfofmabPFnExactUnhexx1
import Derived.OpenShut
import Derived.Laws.BitsLemmas
import Derived.Laws.Strings
namespace Go.Proofs.Ytgepaoikhfofmab.Pure.FnExactUnhex
open Go Go.RowKit Go.Proofs.Ytgepaoikhfofmab.PFnExactUnhex Go.Proofs.YtgepaoikhfofmabW.PrintWords Go.Proofs.YtgepaoikhfofmabW.PrintLast Go.Proofs.YtgepaoikhfofmabW.PrintMore
set_option linter.unusedVariables false
set_option linter.unusedSimpArgs false

theorem w64 {x : Int} (h0 : -9223372036854775808 ≤ x) (h1 : x ≤ 9223372036854775807) : wrap64 x = x := by unfold wrap64; omega

theorem wraps64 (n : Int) (h0 : 0 ≤ n) (h1 : n < 2 ^ 63) : IntKind.i64.wrap n = n := by rw [IntKind.wrap_i64]; omega

theorem wraps32 (n : Int) (h0 : 0 ≤ n) (h1 : n < 2 ^ 32) : IntKind.u32.wrap n = n := by rw [IntKind.wrap_u32]; omega

theorem and255 (x : Int) (h0 : 0 ≤ x) (h1 : x < 9223372036854775808) : Go.bits .and .i64 x 255 = x % 256 :=
  bits_mask .i64 63 (by decide) wraps64 8 (by decide) x h0 (by omega)

theorem mask32 (x : Int) (h0 : 0 ≤ x) (h1 : x < 9223372036854775808) : Go.bits .and .i64 x 4294967295 = x % 4294967296 :=
  bits_mask .i64 63 (by decide) wraps64 32 (by decide) x h0 (by omega)

theorem tdiv_nn {a : Int} (b : Int) (h : 0 ≤ a) : Int.tdiv a b = a / b := Int.tdiv_eq_ediv_of_nonneg h

theorem tmod_nn {a : Int} (b : Int) (h : 0 ≤ a) : Int.tmod a b = a % b := Int.tmod_eq_emod_of_nonneg h

theorem bt_nn (s : ByteArray) (i : Int) : 0 ≤ bt s i := (bt_range s i).1

theorem bt_le (s : ByteArray) (i : Int) : bt s i ≤ 255 := (bt_range s i).2

theorem ba_ext {a b : ByteArray} (h : a.data.toList = b.data.toList) : a = b := by
  cases a; cases b
  congr 1
  exact Array.toList_inj.mp h

theorem ba_data_append (a b : ByteArray) : (a ++ b).data.toList = a.data.toList ++ b.data.toList := by
  rw [ByteArray.data_append, Array.toList_append]

theorem ba_size (a : ByteArray) : a.data.toList.length = a.size := data_length a

theorem ba_append_size (a b : ByteArray) : (a ++ b).size = a.size + b.size := ByteArray.size_append

theorem strOf_append (a b : List Int) : strOfNums a ++ strOfNums b = strOfNums (a ++ b) := by
  apply ba_ext
  rw [ba_data_append, strOfNums_data, strOfNums_data, strOfNums_data, List.map_append]

def Bytes (xs : List Int) : Prop := ∀ x ∈ xs, 0 ≤ x ∧ x ≤ 255

theorem bytesOf_bytes (s : ByteArray) : Bytes (bytesOf s) := by
  intro x hx
  unfold bytesOf at hx
  obtain ⟨b, _, rfl⟩ := List.mem_map.mp hx
  have := b.toNat_lt
  omega

theorem bytesOf_strOf {xs : List Int} (h : Bytes xs) : bytesOf (strOfNums xs) = xs := by
  unfold bytesOf
  rw [strOfNums_data, List.map_map]
  conv => rhs; rw [← List.map_id xs]
  apply List.map_congr_left
  intro x hx
  have := h x hx
  simp only [Function.comp, id]
  rw [UInt8.toNat_ofNat_of_lt' (by simp [UInt8.size]; omega)]
  omega

theorem strOf_bytesOf (s : ByteArray) : strOfNums (bytesOf s) = s := by
  apply ba_ext
  rw [strOfNums_data]
  unfold bytesOf
  rw [List.map_map]
  conv => rhs; rw [← List.map_id s.data.toList]
  apply List.map_congr_left
  intro x _
  simp

theorem bytesOf_append (a b : ByteArray) : bytesOf (a ++ b) = bytesOf a ++ bytesOf b := by
  unfold bytesOf
  rw [ba_data_append, List.map_append]

theorem bytesOf_inj {a b : ByteArray} (h : bytesOf a = bytesOf b) : a = b := by
  rw [← strOf_bytesOf a, h, strOf_bytesOf]

theorem ba_toList (a : ByteArray) : a.toList = a.data.toList := by
  exact ByteArray.toList_eq a

theorem toList_inj {a b : ByteArray} (h : a.toList = b.toList) : a = b := by
  rw [ba_toList, ba_toList] at h
  exact ba_ext h

theorem bytesOf_extract (s : ByteArray) (i j : Nat) : bytesOf (s.extract i j) = ((bytesOf s).take j).drop i := by
  unfold bytesOf
  rw [ByteArray.data_extract, Array.toList_extract]
  simp [List.extract_eq_take_drop, List.drop_take, List.map_take, List.map_drop]

theorem bt_bytesOf (s : ByteArray) (i : Int) : bt s i = rd (bytesOf s) i := (rd_bytesOf s i).symm

theorem bt_strOf {xs : List Int} (h : Bytes xs) (i : Int) : bt (strOfNums xs) i = rd xs i := by
  rw [bt_bytesOf, bytesOf_strOf h]

theorem rd_pre (pre : List Int) (x : Int) (post : List Int) : rd (pre ++ x :: post) (pre.length : Int) = x := by
  unfold rd
  simp

def hexVal (x : Int) : Int := if 48 ≤ x ∧ x ≤ 57 then x - 48 else if 97 ≤ x ∧ x ≤ 102 then x - 87 else -1

theorem hexVal_in (x : Int) : -1 ≤ hexVal x ∧ hexVal x ≤ 15 := by
  unfold hexVal
  split
  · omega
  · split
    · omega
    · omega

theorem l01Value_eq (k : Nat) (x : Int) (h0 : 0 ≤ x) (h1 : x ≤ 255) : spec_l01Value.f (k + 1) x = some (hexVal x) := by
  unfold spec_l01Value.f hexVal
  by_cases a : x ≥ 48
  · rw [if_pos a]
    by_cases b : x ≤ 57
    · rw [decide_eq_true b, spec_l01Value.j0, if_pos rfl, if_pos (show 48 ≤ x ∧ x ≤ 57 by omega), w64 (x := x) (by omega) (by omega), w64 (by omega) (by omega)]
    · rw [decide_eq_false b, spec_l01Value.j0, if_neg (by decide), if_neg (show ¬ (48 ≤ x ∧ x ≤ 57) by omega)]
      by_cases c : x ≥ 97
      · rw [if_pos c]
        by_cases d : x ≤ 102
        · rw [if_pos d, if_pos (show 97 ≤ x ∧ x ≤ 102 by omega), w64 (x := x) (by omega) (by omega), w64 (x := x - 97) (by omega) (by omega), w64 (by omega) (by omega)]
          congr 1
          omega
        · rw [if_neg d, if_neg (show ¬ (97 ≤ x ∧ x ≤ 102) by omega)]
      · rw [if_neg c, if_neg (show ¬ (97 ≤ x ∧ x ≤ 102) by omega)]
  · rw [if_neg a, spec_l01Value.j0, if_neg (by decide), if_neg (show ¬ x ≥ 97 by omega), if_neg (show ¬ (48 ≤ x ∧ x ≤ 57) by omega), if_neg (show ¬ (97 ≤ x ∧ x ≤ 102) by omega)]

theorem figs_all : ∀ n : Fin 256, Lib.indexByte [48, 49, 50, 51, 52, 53, 54, 55, 56, 57, 97, 98, 99, 100, 101, 102] n.val.toUInt8 = hexVal (n.val : Int) := by decide +kernel

theorem indexByte_eq (x : Int) (h0 : 0 ≤ x) (h1 : x ≤ 255) : strings_IndexByte.f (⟨#[48, 49, 50, 51, 52, 53, 54, 55, 56, 57, 97, 98, 99, 100, 101, 102]⟩ : ByteArray) x = some (hexVal x) := by
  unfold strings_IndexByte.f
  have h := figs_all ⟨x.toNat, by omega⟩
  simp only at h
  rw [Int.toNat_of_nonneg h0] at h
  rw [← h]

theorem unhex_l0 (t : ByteArray) (ht : t.size ≤ 40000) : ∀ (m : Nat) (out : List Int) (i : Int), 0 ≤ i → i + 2 * m = t.size → (out.length : Int) ≤ i → ∃ R, Ev (fun k => spec_Unhex.l0 k t out i) R ∧ Ev (fun k => impl_Unhex.l0 k t out i) R
  | 0, out, i, h0, hm, hl => by
    refine ⟨(strOfNums out, true), ⟨1, fun k hk => ?_⟩, ⟨1, fun k hk => ?_⟩⟩
    · obtain ⟨k, rfl⟩ : ∃ q, k = q + 1 := ⟨k - 1, by omega⟩
      show spec_Unhex.l0 _ _ _ _ = _
      rw [spec_Unhex.l0, if_neg (by omega)]
    · obtain ⟨k, rfl⟩ : ∃ q, k = q + 1 := ⟨k - 1, by omega⟩
      show impl_Unhex.l0 _ _ _ _ = _
      rw [impl_Unhex.l0, if_neg (by omega)]
  | m + 1, out, i, h0, hm, hl => by
    have e1 : wrap64 (i + 1) = i + 1 := w64 (by omega) (by omega)
    have e2 : wrap64 (i + 2) = i + 2 := w64 (by omega) (by omega)
    have b0 := bt_range t i
    have b1 := bt_range t (i + 1)
    have vh := indexByte_eq (bt t i) b0.1 b0.2
    have vl := indexByte_eq (bt t (i + 1)) b1.1 b1.2
    have sh := fun k => l01Value_eq k (bt t i) b0.1 b0.2
    have sl := fun k => l01Value_eq k (bt t (i + 1)) b1.1 b1.2
    have S : ∀ k, spec_Unhex.l0 (k + 2) t out i = if hexVal (bt t i) < 0 then some ((⟨#[]⟩ : ByteArray), false) else if hexVal (bt t (i + 1)) < 0 then some ((⟨#[]⟩ : ByteArray), false) else spec_Unhex.l0 (k + 1) t (out ++ [(wrap64 ((wrap64 (16 * hexVal (bt t i))) + hexVal (bt t (i + 1)))) % 256]) (i + 2) := by
      intro k
      rw [spec_Unhex.l0, if_pos (by omega), if_pos h0, sh, Option.bind_some, e1, if_pos (by omega), if_pos (by omega), sl, Option.bind_some, e2, if_pos (show out.length < 140737488355328 by omega)]
    have I : ∀ k, impl_Unhex.l0 (k + 2) t out i = if hexVal (bt t i) < 0 then some ((⟨#[]⟩ : ByteArray), false) else if hexVal (bt t (i + 1)) < 0 then some ((⟨#[]⟩ : ByteArray), false) else impl_Unhex.l0 (k + 1) t (out ++ [(wrap64 ((wrap64 (16 * hexVal (bt t i))) + hexVal (bt t (i + 1)))) % 256]) (i + 2) := by
      intro k
      rw [impl_Unhex.l0, if_pos (by omega), if_pos h0, vh, Option.bind_some, e1, if_pos (by omega), if_pos (by omega), vl, Option.bind_some, e2, if_pos (show out.length < 140737488355328 by omega)]
    by_cases ha : hexVal (bt t i) < 0
    · refine ⟨((⟨#[]⟩ : ByteArray), false), ⟨2, fun k hk => ?_⟩, ⟨2, fun k hk => ?_⟩⟩
      · obtain ⟨k, rfl⟩ : ∃ q, k = q + 2 := ⟨k - 2, by omega⟩
        show spec_Unhex.l0 _ _ _ _ = _
        rw [S, if_pos ha]
      · obtain ⟨k, rfl⟩ : ∃ q, k = q + 2 := ⟨k - 2, by omega⟩
        show impl_Unhex.l0 _ _ _ _ = _
        rw [I, if_pos ha]
    by_cases hb : hexVal (bt t (i + 1)) < 0
    · refine ⟨((⟨#[]⟩ : ByteArray), false), ⟨2, fun k hk => ?_⟩, ⟨2, fun k hk => ?_⟩⟩
      · obtain ⟨k, rfl⟩ : ∃ q, k = q + 2 := ⟨k - 2, by omega⟩
        show spec_Unhex.l0 _ _ _ _ = _
        rw [S, if_neg ha, if_pos hb]
      · obtain ⟨k, rfl⟩ : ∃ q, k = q + 2 := ⟨k - 2, by omega⟩
        show impl_Unhex.l0 _ _ _ _ = _
        rw [I, if_neg ha, if_pos hb]
    obtain ⟨R, ⟨K1, r1⟩, ⟨K2, r2⟩⟩ := unhex_l0 t ht m (out ++ [(wrap64 ((wrap64 (16 * hexVal (bt t i))) + hexVal (bt t (i + 1)))) % 256]) (i + 2) (by omega) (by omega) (by rw [List.length_append]; simp only [List.length_singleton]; omega)
    refine ⟨R, ⟨K1 + 2, fun k hk => ?_⟩, ⟨K2 + 2, fun k hk => ?_⟩⟩
    · obtain ⟨k, rfl⟩ : ∃ q, k = q + 2 := ⟨k - 2, by omega⟩
      show spec_Unhex.l0 _ _ _ _ = _
      rw [S, if_neg ha, if_neg hb]
      exact r1 (k + 1) (by omega)
    · obtain ⟨k, rfl⟩ : ∃ q, k = q + 2 := ⟨k - 2, by omega⟩
      show impl_Unhex.l0 _ _ _ _ = _
      rw [I, if_neg ha, if_neg hb]
      exact r2 (k + 1) (by omega)

theorem FnExactUnhex : laws_FnExactUnhex.Pure := by
  intro t _
  by_cases hb : (t.size : Int) > 1048576
  · exact ⟨0, by unfold laws_FnExactUnhex.f; rw [if_pos hb]⟩
  have fin : ∀ R, Ev (fun k => spec_Unhex.f k t) R → Ev (fun k => impl_Unhex.f k t) R → ∃ k, laws_FnExactUnhex.f k t = some true := by
    intro R ⟨K1, r1⟩ ⟨K2, r2⟩
    refine ⟨K1 + K2, ?_⟩
    have r1 := r1 (K1 + K2) (by omega)
    have r2 := r2 (K1 + K2) (by omega)
    simp only at r1 r2
    unfold laws_FnExactUnhex.f
    rw [if_neg hb, r1, Option.bind_some, r2, Option.bind_some, if_pos rfl]
    simp
  by_cases hg : (t.size : Int) > 40000
  · refine fin ((⟨#[]⟩ : ByteArray), false) ⟨1, fun k hk => ?_⟩ ⟨1, fun k hk => ?_⟩
    · obtain ⟨k, rfl⟩ : ∃ q, k = q + 1 := ⟨k - 1, by omega⟩
      show spec_Unhex.f _ _ = _
      unfold spec_Unhex.f
      rw [if_pos hg, spec_Unhex.j0, if_pos rfl]
    · obtain ⟨k, rfl⟩ : ∃ q, k = q + 1 := ⟨k - 1, by omega⟩
      show impl_Unhex.f _ _ = _
      unfold impl_Unhex.f
      split
      · rw [decide_eq_true hg, impl_Unhex.j0, if_pos rfl]
      · rw [impl_Unhex.j0, if_pos rfl]
  by_cases he : (t.size : Int) % 2 = 0
  · obtain ⟨R, ⟨K1, r1⟩, ⟨K2, r2⟩⟩ := unhex_l0 t (by omega) (t.size / 2) [] 0 (by omega) (by omega) (by simp)
    refine fin R ⟨K1 + 1, fun k hk => ?_⟩ ⟨K2 + 1, fun k hk => ?_⟩
    · obtain ⟨k, rfl⟩ : ∃ q, k = q + 1 := ⟨k - 1, by omega⟩
      show spec_Unhex.f _ _ = _
      unfold spec_Unhex.f
      rw [if_neg hg, he, spec_Unhex.j0, if_neg (by decide)]
      exact r1 k (by omega)
    · obtain ⟨k, rfl⟩ : ∃ q, k = q + 1 := ⟨k - 1, by omega⟩
      show impl_Unhex.f _ _ = _
      unfold impl_Unhex.f
      rw [if_pos he, decide_eq_false hg, impl_Unhex.j0, if_neg (by decide)]
      exact r2 k (by omega)
  · refine fin ((⟨#[]⟩ : ByteArray), false) ⟨1, fun k hk => ?_⟩ ⟨1, fun k hk => ?_⟩
    · obtain ⟨k, rfl⟩ : ∃ q, k = q + 1 := ⟨k - 1, by omega⟩
      show spec_Unhex.f _ _ = _
      unfold spec_Unhex.f
      have hne : ((t.size : Int) % 2 != 0) = true := bne_iff_ne.mpr he
      rw [if_neg hg, hne, spec_Unhex.j0, if_pos rfl]
    · obtain ⟨k, rfl⟩ : ∃ q, k = q + 1 := ⟨k - 1, by omega⟩
      show impl_Unhex.f _ _ = _
      unfold impl_Unhex.f
      rw [if_neg he, impl_Unhex.j0, if_pos rfl]

end Go.Proofs.Ytgepaoikhfofmab.Pure.FnExactUnhex
namespace Go.Proofs.Ytgepaoikhfofmab.Pure
theorem FnExactUnhex : Go.Proofs.Ytgepaoikhfofmab.PFnExactUnhex.laws_FnExactUnhex.Pure := Go.Proofs.Ytgepaoikhfofmab.Pure.FnExactUnhex.FnExactUnhex
end Go.Proofs.Ytgepaoikhfofmab.Pure
