/- Unsealed of the program is Unsealed of the reference, for all texts. -/
import Derived.Test.YtpdpoegaoomgpaaPFnExactUnsealedx2
import Derived.OpenShut
import Derived.Laws.BitsLemmas
import Derived.Laws.Strings
namespace Go.Proofs.Ytpdpoegaoomgpaa.Pure.FnExactUnsealed
open Go Go.RowKit Go.Proofs.Ytpdpoegaoomgpaa.PFnExactUnsealed Go.Proofs.YtpdpoegaoomgpaaW.PrintWords Go.Proofs.YtpdpoegaoomgpaaW.PrintLast Go.Proofs.YtpdpoegaoomgpaaW.PrintMore
set_option linter.unusedVariables false
set_option linter.unusedSimpArgs false

theorem w64 {x : Int} (h0 : -9223372036854775808 ≤ x) (h1 : x ≤ 9223372036854775807) : wrap64 x = x := by unfold wrap64; omega

theorem wraps64 (n : Int) (h0 : 0 ≤ n) (h1 : n < 2 ^ 63) : IntKind.i64.wrap n = n := by rw [IntKind.wrap_i64]; omega

theorem wraps32 (n : Int) (h0 : 0 ≤ n) (h1 : n < 2 ^ 32) : IntKind.u32.wrap n = n := by rw [IntKind.wrap_u32]; omega

theorem and255 (x : Int) (h0 : 0 ≤ x) (h1 : x < 9223372036854775808) : Go.bits .and .i64 x 255 = x % 256 :=
  bits_mask .i64 63 (by decide) wraps64 8 (by decide) x h0 (by omega)

theorem mask32 (x : Int) (h0 : 0 ≤ x) (h1 : x < 9223372036854775808) : Go.bits .and .i64 x 4294967295 = x % 4294967296 :=
  bits_mask .i64 63 (by decide) wraps64 32 (by decide) x h0 (by omega)

theorem tdiv_nn {a : Int} (b : Int) (h : 0 ≤ a) : Int.tdiv a b = a / b := Int.tdiv_eq_ediv_of_nonneg h

theorem tmod_nn {a : Int} (b : Int) (h : 0 ≤ a) : Int.tmod a b = a % b := Int.tmod_eq_emod_of_nonneg h

theorem bt_nn (s : ByteArray) (i : Int) : 0 ≤ bt s i := (bt_range s i).1

theorem bt_le (s : ByteArray) (i : Int) : bt s i ≤ 255 := (bt_range s i).2

def crcStep (x : Int) : Int := if Int.tmod x 2 = 1 then Go.bits .xor .u32 ((Int.tdiv x 2) % 4294967296) 3558460437 else (Int.tdiv x 2) % 4294967296

def crcIter : Nat → Int → Int
  | 0, x => x
  | d + 1, x => crcIter d (crcStep x)

def crcByte (x b : Int) : Int := crcIter 8 (Go.bits .xor .u32 x (b % 4294967296))

def crcFrom (t : ByteArray) : Nat → Int → Int → Int
  | 0, _, x => x
  | d + 1, i, x => crcFrom t d (i + 1) (crcByte x (bt t i))

theorem specSum_l1 (t : ByteArray) (i : Int) : ∀ (d : Nat) (k : Nat) (x j : Int), 0 ≤ j → j + d = 8 → spec_SumMore.l1 (k + d + 1) x t i j = spec_SumMore.l0 k (crcIter d x) t (wrap64 (i + 1))
  | 0, k, x, j, h0, h => by
    show spec_SumMore.l1 (k + 1) x t i j = _
    rw [spec_SumMore.l1, if_neg (by omega)]; rfl
  | d + 1, k, x, j, h0, h => by
    show spec_SumMore.l1 ((k + d + 1) + 1) x t i j = _
    rw [spec_SumMore.l1, if_pos (by omega), w64 (x := j + 1) (by omega) (by omega), specSum_l1 t i d k _ (j + 1) (by omega) (by omega), specSum_l1 t i d k _ (j + 1) (by omega) (by omega)]
    show _ = spec_SumMore.l0 k (crcIter d (crcStep x)) t (wrap64 (i + 1))
    unfold crcStep
    split <;> rfl

theorem specSum_l0 (t : ByteArray) (ht : t.size ≤ 140737488351232) : ∀ (d : Nat) (k : Nat) (x i : Int), 0 ≤ i → i + d = t.size → spec_SumMore.l0 (k + 10 * d + 1) x t i = some (crcFrom t d i x)
  | 0, k, x, i, h0, h => by
    show spec_SumMore.l0 (k + 1) x t i = _
    rw [spec_SumMore.l0, if_neg (by omega)]; rfl
  | d + 1, k, x, i, h0, h => by
    have e : k + 10 * (d + 1) + 1 = (k + 10 * d + 1) + 8 + 1 + 1 := by omega
    rw [e, spec_SumMore.l0, if_pos (by omega), if_pos h0, specSum_l1 t i 8 _ _ 0 (by omega) (by omega), w64 (x := i + 1) (by omega) (by omega), specSum_l0 t ht d k _ (i + 1) (by omega) (by omega)]
    rfl

theorem specSum_ev (t : ByteArray) (ht : t.size ≤ 140737488351232) (x : Int) : Ev (fun k => spec_SumMore.f k x t) (crcFrom t t.size 0 x) := by
  refine ⟨10 * t.size + 1, fun k hk => ?_⟩
  obtain ⟨m, rfl⟩ : ∃ m, k = m + 10 * t.size + 1 := ⟨k - (10 * t.size + 1), by omega⟩
  exact specSum_l0 t ht t.size m x 0 (by omega) (by omega)

theorem implSum_l1 (t : ByteArray) (i : Int) : ∀ (d : Nat) (k : Nat) (x j : Int), 0 ≤ j → j + d = 8 → impl_SumMore.l1 (k + d + 1) x t i j = impl_SumMore.l0 k (crcIter d x) t (wrap64 (i + 1))
  | 0, k, x, j, h0, h => by
    show impl_SumMore.l1 (k + 1) x t i j = _
    rw [impl_SumMore.l1, if_neg (by omega)]; rfl
  | d + 1, k, x, j, h0, h => by
    show impl_SumMore.l1 ((k + d + 1) + 1) x t i j = _
    rw [impl_SumMore.l1, if_pos (by omega), w64 (x := j + 1) (by omega) (by omega), implSum_l1 t i d k _ (j + 1) (by omega) (by omega), implSum_l1 t i d k _ (j + 1) (by omega) (by omega)]
    show _ = impl_SumMore.l0 k (crcIter d (crcStep x)) t (wrap64 (i + 1))
    unfold crcStep
    split <;> rfl

theorem implSum_l0 (t : ByteArray) (ht : t.size ≤ 140737488351232) : ∀ (d : Nat) (k : Nat) (x i : Int), 0 ≤ i → i + d = t.size → impl_SumMore.l0 (k + 10 * d + 1) x t i = some (crcFrom t d i x)
  | 0, k, x, i, h0, h => by
    show impl_SumMore.l0 (k + 1) x t i = _
    rw [impl_SumMore.l0, if_neg (by omega)]; rfl
  | d + 1, k, x, i, h0, h => by
    have e : k + 10 * (d + 1) + 1 = (k + 10 * d + 1) + 8 + 1 + 1 := by omega
    rw [e, impl_SumMore.l0, if_pos (by omega), if_pos h0, implSum_l1 t i 8 _ _ 0 (by omega) (by omega), w64 (x := i + 1) (by omega) (by omega), implSum_l0 t ht d k _ (i + 1) (by omega) (by omega)]
    rfl

theorem implSum_ev (t : ByteArray) (ht : t.size ≤ 140737488351232) (x : Int) : Ev (fun k => impl_SumMore.f k x t) (crcFrom t t.size 0 x) := by
  refine ⟨10 * t.size + 1, fun k hk => ?_⟩
  obtain ⟨m, rfl⟩ : ∃ m, k = m + 10 * t.size + 1 := ⟨k - (10 * t.size + 1), by omega⟩
  exact implSum_l0 t ht t.size m x 0 (by omega) (by omega)


def crcOf (t : ByteArray) : Int := crcFrom t t.size 0 4294967295

theorem specSumOf_ev (t : ByteArray) (ht : t.size ≤ 140737488351232) : Ev (fun k => spec_SumOf.f k t) (crcOf t) := by
  obtain ⟨K, h⟩ := specSum_ev t ht 4294967295
  refine ⟨K, fun k hk => ?_⟩
  show spec_SumOf.f k t = some (crcOf t)
  have h := h k hk
  simp only at h
  unfold spec_SumOf.f
  rw [h]; rfl

theorem implSumOf_ev (t : ByteArray) (ht : t.size ≤ 140737488351232) : Ev (fun k => impl_SumOf.f k t) (crcOf t) := by
  obtain ⟨K, h⟩ := implSum_ev t ht 4294967295
  refine ⟨K, fun k hk => ?_⟩
  show impl_SumOf.f k t = some (crcOf t)
  have h := h k hk
  simp only at h
  unfold impl_SumOf.f
  rw [h]; rfl



def num4 (a : Int) : ByteArray := strOfNums [a / 16777216 % 256, a / 65536 % 256, a / 256 % 256, a % 256]


theorem ba_ext {a b : ByteArray} (h : a.data.toList = b.data.toList) : a = b := by
  cases a; cases b
  congr 1
  exact Array.toList_inj.mp h

theorem ba_data_append (a b : ByteArray) : (a ++ b).data.toList = a.data.toList ++ b.data.toList := by
  rw [ByteArray.data_append, Array.toList_append]

theorem ba_size (a : ByteArray) : a.data.toList.length = a.size := data_length a

theorem ba_append_size (a b : ByteArray) : (a ++ b).size = a.size + b.size := ByteArray.size_append

theorem strOf_append (a b : List Int) : strOfNums a ++ strOfNums b = strOfNums (a ++ b) := by
  apply ba_ext
  rw [ba_data_append, strOfNums_data, strOfNums_data, strOfNums_data, List.map_append]

def Bytes (xs : List Int) : Prop := ∀ x ∈ xs, 0 ≤ x ∧ x ≤ 255

theorem bytesOf_bytes (s : ByteArray) : Bytes (bytesOf s) := by
  intro x hx
  unfold bytesOf at hx
  obtain ⟨b, _, rfl⟩ := List.mem_map.mp hx
  have := b.toNat_lt
  omega

theorem bytesOf_strOf {xs : List Int} (h : Bytes xs) : bytesOf (strOfNums xs) = xs := by
  unfold bytesOf
  rw [strOfNums_data, List.map_map]
  conv => rhs; rw [← List.map_id xs]
  apply List.map_congr_left
  intro x hx
  have := h x hx
  simp only [Function.comp, id]
  rw [UInt8.toNat_ofNat_of_lt' (by simp [UInt8.size]; omega)]
  omega

theorem strOf_bytesOf (s : ByteArray) : strOfNums (bytesOf s) = s := by
  apply ba_ext
  rw [strOfNums_data]
  unfold bytesOf
  rw [List.map_map]
  conv => rhs; rw [← List.map_id s.data.toList]
  apply List.map_congr_left
  intro x _
  simp

theorem bytesOf_append (a b : ByteArray) : bytesOf (a ++ b) = bytesOf a ++ bytesOf b := by
  unfold bytesOf
  rw [ba_data_append, List.map_append]

theorem bytesOf_inj {a b : ByteArray} (h : bytesOf a = bytesOf b) : a = b := by
  rw [← strOf_bytesOf a, h, strOf_bytesOf]

theorem ba_toList (a : ByteArray) : a.toList = a.data.toList := by
  exact ByteArray.toList_eq a

theorem toList_inj {a b : ByteArray} (h : a.toList = b.toList) : a = b := by
  rw [ba_toList, ba_toList] at h
  exact ba_ext h

theorem bytesOf_extract (s : ByteArray) (i j : Nat) : bytesOf (s.extract i j) = ((bytesOf s).take j).drop i := by
  unfold bytesOf
  rw [ByteArray.data_extract, Array.toList_extract]
  simp [List.extract_eq_take_drop, List.drop_take, List.map_take, List.map_drop]

theorem bt_bytesOf (s : ByteArray) (i : Int) : bt s i = rd (bytesOf s) i := (rd_bytesOf s i).symm

theorem bt_strOf {xs : List Int} (h : Bytes xs) (i : Int) : bt (strOfNums xs) i = rd xs i := by
  rw [bt_bytesOf, bytesOf_strOf h]

theorem rd_pre (pre : List Int) (x : Int) (post : List Int) : rd (pre ++ x :: post) (pre.length : Int) = x := by
  unfold rd
  simp

theorem xor32_range (x y : Int) : 0 ≤ Go.bits .xor .u32 x y ∧ Go.bits .xor .u32 x y ≤ 4294967295 := bounds_u32 (wf_bits .xor .u32 x y)

theorem crcStep_range (x : Int) : 0 ≤ crcStep x ∧ crcStep x ≤ 4294967295 := by
  unfold crcStep
  split
  · exact xor32_range _ _
  · omega

theorem crcIter_range : ∀ (d : Nat) (x : Int), 0 ≤ x → x ≤ 4294967295 → 0 ≤ crcIter d x ∧ crcIter d x ≤ 4294967295
  | 0, x, h0, h1 => ⟨h0, h1⟩
  | d + 1, x, h0, h1 => crcIter_range d _ (crcStep_range x).1 (crcStep_range x).2

theorem crcByte_range (x b : Int) : 0 ≤ crcByte x b ∧ crcByte x b ≤ 4294967295 :=
  crcIter_range 8 _ (xor32_range _ _).1 (xor32_range _ _).2

theorem crcFrom_range (t : ByteArray) : ∀ (d : Nat) (i x : Int), 0 ≤ x → x ≤ 4294967295 → 0 ≤ crcFrom t d i x ∧ crcFrom t d i x ≤ 4294967295
  | 0, i, x, h0, h1 => ⟨h0, h1⟩
  | d + 1, i, x, h0, h1 => crcFrom_range t d _ _ (crcByte_range _ _).1 (crcByte_range _ _).2

theorem crcOf_range (t : ByteArray) : 0 ≤ crcOf t ∧ crcOf t ≤ 4294967295 := crcFrom_range t _ _ _ (by omega) (by omega)

def sealOf (t : ByteArray) : ByteArray := t ++ num4 (crcOf t)

theorem num4_sz (a : Int) : (num4 a).size = 4 := by unfold num4; rw [strOfNums_size]; rfl

theorem l02Four_eq (a : Int) : spec_l02Four.f a = some (num4 a) := rfl

theorem highFirst_ev (a : Int) (h0 : 0 ≤ a) (h1 : a ≤ 4294967295) : Ev (fun k => impl_highFirst.f k a 4) (num4 a) := by
  refine ⟨5, fun k hk => ?_⟩
  obtain ⟨m, rfl⟩ : ∃ m, k = m + 1 + 1 + 1 + 1 + 1 := ⟨k - 5, by omega⟩
  show impl_highFirst.f _ a 4 = _
  unfold impl_highFirst.f
  rw [if_pos (by omega), if_pos (by decide)]
  have e0 : List.replicate (4 : Int).toNat (0 : Int) = [0, 0, 0, 0] := rfl
  have w3 : wrap64 (4 - 1) = 3 := by unfold wrap64; omega
  have w2 : wrap64 (3 - 1) = 2 := by unfold wrap64; omega
  have w1 : wrap64 (2 - 1) = 1 := by unfold wrap64; omega
  have w0 : wrap64 (1 - 1) = 0 := by unfold wrap64; omega
  have wm : wrap64 (0 - 1) = -1 := by unfold wrap64; omega
  rw [e0, w3, impl_highFirst.l0, if_pos (by omega), if_pos (by omega), if_pos (by simp), and255 a (by omega) (by omega), w2]
  rw [impl_highFirst.l0, if_pos (by omega), if_pos (by omega), if_pos (by simp), and255 (a / 256) (by omega) (by omega), w1]
  rw [impl_highFirst.l0, if_pos (by omega), if_pos (by omega), if_pos (by simp), and255 (a / 256 / 256) (by omega) (by omega), w0]
  rw [impl_highFirst.l0, if_pos (by omega), if_pos (by omega), if_pos (by simp), and255 (a / 256 / 256 / 256) (by omega) (by omega), wm]
  rw [impl_highFirst.l0, if_neg (by omega)]
  have e1 : a / 256 / 256 / 256 % 256 % 256 = a / 16777216 % 256 := by omega
  have e2 : a / 256 / 256 % 256 % 256 = a / 65536 % 256 := by omega
  have e3 : a / 256 % 256 % 256 = a / 256 % 256 := by omega
  have e4 : a % 256 % 256 = a % 256 := by omega
  rw [e1, e2, e3, e4]
  rfl

theorem implSealed_ev (t : ByteArray) (h : t.size ≤ 20000) : Ev (fun k => impl_Sealed.f k t) (sealOf t, true) := by
  have hr := crcOf_range t
  obtain ⟨K, h1⟩ := implSumOf_ev t (by omega)
  obtain ⟨K', h2⟩ := highFirst_ev (crcOf t) hr.1 hr.2
  refine ⟨K + K', fun k hk => ?_⟩
  have h1 := h1 k (by omega)
  have h2 := h2 k (by omega)
  simp only at h1 h2
  show impl_Sealed.f k t = _
  unfold impl_Sealed.f
  rw [if_neg (by omega), h1]
  simp only [Option.bind_some]
  rw [w64 (by omega) (by omega), h2]
  simp only [Option.bind_some]
  rw [num4_sz, if_pos (by omega)]
  rfl

theorem implSealed_no (t : ByteArray) (h : ¬ t.size ≤ 20000) (k : Nat) : impl_Sealed.f k t = some (⟨#[]⟩, false) := by
  unfold impl_Sealed.f
  rw [if_pos (by omega)]


theorem ext_split (t : ByteArray) (n : Nat) (h : n ≤ t.size) : t.extract 0 n ++ t.extract n t.size = t := by
  apply bytesOf_inj
  rw [bytesOf_append, bytesOf_extract, bytesOf_extract, List.drop_zero]
  have e : (bytesOf t).take t.size = bytesOf t := List.take_of_length_le (by rw [bytesOf_length]; exact Nat.le_refl _)
  rw [e, List.take_append_drop]

theorem ext_size (t : ByteArray) (i j : Nat) (h : j ≤ t.size) : (t.extract i j).size = j - i := by
  rw [← bytesOf_length, bytesOf_extract, List.length_drop, List.length_take, bytesOf_length]
  omega

theorem app_inj_l {a b c : ByteArray} (h : a ++ b = a ++ c) : b = c := by
  apply bytesOf_inj
  have := congrArg bytesOf h
  rw [bytesOf_append, bytesOf_append] at this
  exact List.append_cancel_left this

def unsealOf (t : ByteArray) : ByteArray × Bool :=
  if t.size < 4 then (⟨#[]⟩, false) else if t.size > 20004 then (⟨#[]⟩, false) else if sealOf (t.extract 0 (t.size - 4)) = t then (t.extract 0 (t.size - 4), true) else (⟨#[]⟩, false)

theorem specUnsealed_ev (t : ByteArray) (ht : t.size ≤ 140737488351232) : Ev (fun k => spec_Unsealed.f k t) (unsealOf t) := by
  have hz := ext_size t 0 (t.size - 4) (by omega)
  obtain ⟨K, h1⟩ := specSumOf_ev (t.extract 0 (t.size - 4)) (by omega)
  refine ⟨K, fun k hk => ?_⟩
  have h1 := h1 k hk
  simp only at h1
  show spec_Unsealed.f k t = _
  unfold spec_Unsealed.f unsealOf
  rw [w64 (by omega) (by omega)]
  by_cases h4 : t.size < 4
  · rw [if_pos (by omega), if_pos h4]
  · rw [if_neg (by omega), if_neg h4]
    by_cases hb : t.size > 20004
    · rw [if_pos (by omega), if_pos hb]
    · have e : ((t.size : Int) - 4).toNat = t.size - 4 := by omega
      rw [if_neg (by omega), if_neg hb, if_pos (by omega), if_pos (by omega), e, h1]
      simp only [Option.bind_some]
      rw [l02Four_eq]
      simp only [Option.bind_some]
      have hs := ext_split t (t.size - 4) (by omega)
      by_cases he : sealOf (t.extract 0 (t.size - 4)) = t
      · have h5 : t.extract (t.size - 4) t.size = num4 (crcOf (t.extract 0 (t.size - 4))) := by
          have h6 : t.extract 0 (t.size - 4) ++ num4 (crcOf (t.extract 0 (t.size - 4))) = t := he
          exact app_inj_l (hs.trans h6.symm)
        rw [if_pos (by rw [h5]), if_pos he]
      · rw [if_neg (fun h => he ?_), if_neg he]
        have h7 := toList_inj h
        unfold sealOf
        rw [← h7, hs]

theorem implUnsealed_ev (t : ByteArray) (ht : t.size ≤ 140737488351232) : Ev (fun k => impl_Unsealed.f k t) (unsealOf t) := by
  have hz := ext_size t 0 (t.size - 4) (by omega)
  by_cases hb : t.size > 20004
  · refine ⟨0, fun k hk => ?_⟩
    show impl_Unsealed.f k t = _
    unfold impl_Unsealed.f unsealOf
    have e : ((t.size : Int) - 4).toNat = t.size - 4 := by omega
    rw [w64 (by omega) (by omega), if_neg (by omega), if_pos (by omega), if_pos (by omega), e, implSealed_no _ (by omega)]
    simp only [Option.bind_some, Bool.false_eq_true, if_false]
    rw [if_neg (by omega), if_pos hb]
  · obtain ⟨K, h1⟩ := implSealed_ev (t.extract 0 (t.size - 4)) (by omega)
    refine ⟨K, fun k hk => ?_⟩
    have h1 := h1 k hk
    simp only at h1
    show impl_Unsealed.f k t = _
    unfold impl_Unsealed.f unsealOf
    rw [w64 (by omega) (by omega)]
    by_cases h4 : t.size < 4
    · rw [if_pos (by omega), if_pos h4]
    · have e : ((t.size : Int) - 4).toNat = t.size - 4 := by omega
      rw [if_neg (by omega), if_neg h4, if_neg hb, if_pos (by omega), if_pos (by omega), e, h1]
      simp only [Option.bind_some, if_true]
      by_cases he : sealOf (t.extract 0 (t.size - 4)) = t
      · rw [if_pos (by rw [he]), if_pos he]
      · rw [if_neg (fun h => he (toList_inj h)), if_neg he]


theorem FnExactUnsealed : laws_FnExactUnsealed.Pure := by
  intro t ht
  obtain ⟨K, h1⟩ := specUnsealed_ev t ht
  obtain ⟨K', h2⟩ := implUnsealed_ev t ht
  refine ⟨K + K', ?_⟩
  have h1 := h1 (K + K') (by omega)
  have h2 := h2 (K + K') (by omega)
  simp only at h1 h2
  unfold laws_FnExactUnsealed.f
  rw [h1, h2]
  simp

end Go.Proofs.Ytpdpoegaoomgpaa.Pure.FnExactUnsealed
namespace Go.Proofs.Ytpdpoegaoomgpaa.Pure
theorem FnExactUnsealed : Go.Proofs.Ytpdpoegaoomgpaa.PFnExactUnsealed.laws_FnExactUnsealed.Pure := Go.Proofs.Ytpdpoegaoomgpaa.Pure.FnExactUnsealed.FnExactUnsealed
end Go.Proofs.Ytpdpoegaoomgpaa.Pure
