/- a drawn text whose one byte is another is not Unsealed; it is Unsealed as it was sealed; SumMore goes on. -/
import Derived.Test.YtgepaoikhfofmaaPFnTurnedx
import Derived.OpenShut
import Derived.Laws.BitsLemmas
import Derived.Laws.Strings
namespace Go.Proofs.Ytgepaoikhfofmaa.Pure.FnTurned
open Go Go.RowKit Go.Proofs.Ytgepaoikhfofmaa.PFnTurned Go.Proofs.YtgepaoikhfofmaaW.PrintWords Go.Proofs.YtgepaoikhfofmaaW.PrintLast Go.Proofs.YtgepaoikhfofmaaW.PrintMore
set_option linter.unusedVariables false
set_option linter.unusedSimpArgs false

theorem w64 {x : Int} (h0 : -9223372036854775808 ≤ x) (h1 : x ≤ 9223372036854775807) : wrap64 x = x := by unfold wrap64; omega

theorem wraps64 (n : Int) (h0 : 0 ≤ n) (h1 : n < 2 ^ 63) : IntKind.i64.wrap n = n := by rw [IntKind.wrap_i64]; omega

theorem wraps32 (n : Int) (h0 : 0 ≤ n) (h1 : n < 2 ^ 32) : IntKind.u32.wrap n = n := by rw [IntKind.wrap_u32]; omega

theorem and255 (x : Int) (h0 : 0 ≤ x) (h1 : x < 9223372036854775808) : Go.bits .and .i64 x 255 = x % 256 :=
  bits_mask .i64 63 (by decide) wraps64 8 (by decide) x h0 (by omega)

theorem mask32 (x : Int) (h0 : 0 ≤ x) (h1 : x < 9223372036854775808) : Go.bits .and .i64 x 4294967295 = x % 4294967296 :=
  bits_mask .i64 63 (by decide) wraps64 32 (by decide) x h0 (by omega)

theorem tdiv_nn {a : Int} (b : Int) (h : 0 ≤ a) : Int.tdiv a b = a / b := Int.tdiv_eq_ediv_of_nonneg h

theorem tmod_nn {a : Int} (b : Int) (h : 0 ≤ a) : Int.tmod a b = a % b := Int.tmod_eq_emod_of_nonneg h

theorem bt_nn (s : ByteArray) (i : Int) : 0 ≤ bt s i := (bt_range s i).1

theorem bt_le (s : ByteArray) (i : Int) : bt s i ≤ 255 := (bt_range s i).2

def crcStep (x : Int) : Int := if Int.tmod x 2 = 1 then Go.bits .xor .u32 ((Int.tdiv x 2) % 4294967296) 3558460437 else (Int.tdiv x 2) % 4294967296

def crcIter : Nat → Int → Int
  | 0, x => x
  | d + 1, x => crcIter d (crcStep x)

def crcByte (x b : Int) : Int := crcIter 8 (Go.bits .xor .u32 x (b % 4294967296))

def crcFrom (t : ByteArray) : Nat → Int → Int → Int
  | 0, _, x => x
  | d + 1, i, x => crcFrom t d (i + 1) (crcByte x (bt t i))

theorem implSum_l1 (t : ByteArray) (i : Int) : ∀ (d : Nat) (k : Nat) (x j : Int), 0 ≤ j → j + d = 8 → impl_SumMore.l1 (k + d + 1) x t i j = impl_SumMore.l0 k (crcIter d x) t (wrap64 (i + 1))
  | 0, k, x, j, h0, h => by
    show impl_SumMore.l1 (k + 1) x t i j = _
    rw [impl_SumMore.l1, if_neg (by omega)]; rfl
  | d + 1, k, x, j, h0, h => by
    show impl_SumMore.l1 ((k + d + 1) + 1) x t i j = _
    rw [impl_SumMore.l1, if_pos (by omega), w64 (x := j + 1) (by omega) (by omega), implSum_l1 t i d k _ (j + 1) (by omega) (by omega), implSum_l1 t i d k _ (j + 1) (by omega) (by omega)]
    show _ = impl_SumMore.l0 k (crcIter d (crcStep x)) t (wrap64 (i + 1))
    unfold crcStep
    split <;> rfl

theorem implSum_l0 (t : ByteArray) (ht : t.size ≤ 140737488351232) : ∀ (d : Nat) (k : Nat) (x i : Int), 0 ≤ i → i + d = t.size → impl_SumMore.l0 (k + 10 * d + 1) x t i = some (crcFrom t d i x)
  | 0, k, x, i, h0, h => by
    show impl_SumMore.l0 (k + 1) x t i = _
    rw [impl_SumMore.l0, if_neg (by omega)]; rfl
  | d + 1, k, x, i, h0, h => by
    have e : k + 10 * (d + 1) + 1 = (k + 10 * d + 1) + 8 + 1 + 1 := by omega
    rw [e, impl_SumMore.l0, if_pos (by omega), if_pos h0, implSum_l1 t i 8 _ _ 0 (by omega) (by omega), w64 (x := i + 1) (by omega) (by omega), implSum_l0 t ht d k _ (i + 1) (by omega) (by omega)]
    rfl

theorem implSum_ev (t : ByteArray) (ht : t.size ≤ 140737488351232) (x : Int) : Ev (fun k => impl_SumMore.f k x t) (crcFrom t t.size 0 x) := by
  refine ⟨10 * t.size + 1, fun k hk => ?_⟩
  obtain ⟨m, rfl⟩ : ∃ m, k = m + 10 * t.size + 1 := ⟨k - (10 * t.size + 1), by omega⟩
  exact implSum_l0 t ht t.size m x 0 (by omega) (by omega)


def crcOf (t : ByteArray) : Int := crcFrom t t.size 0 4294967295

theorem implSumOf_ev (t : ByteArray) (ht : t.size ≤ 140737488351232) : Ev (fun k => impl_SumOf.f k t) (crcOf t) := by
  obtain ⟨K, h⟩ := implSum_ev t ht 4294967295
  refine ⟨K, fun k hk => ?_⟩
  show impl_SumOf.f k t = some (crcOf t)
  have h := h k hk
  simp only at h
  unfold impl_SumOf.f
  rw [h]; rfl



def num4 (a : Int) : ByteArray := strOfNums [a / 16777216 % 256, a / 65536 % 256, a / 256 % 256, a % 256]

theorem num4_size (a : Int) : (num4 a).size = 4 := by unfold num4; rw [strOfNums_size]; rfl


theorem ba_ext {a b : ByteArray} (h : a.data.toList = b.data.toList) : a = b := by
  cases a; cases b
  congr 1
  exact Array.toList_inj.mp h

theorem ba_data_append (a b : ByteArray) : (a ++ b).data.toList = a.data.toList ++ b.data.toList := by
  rw [ByteArray.data_append, Array.toList_append]

theorem ba_size (a : ByteArray) : a.data.toList.length = a.size := data_length a

theorem ba_append_size (a b : ByteArray) : (a ++ b).size = a.size + b.size := ByteArray.size_append

theorem strOf_append (a b : List Int) : strOfNums a ++ strOfNums b = strOfNums (a ++ b) := by
  apply ba_ext
  rw [ba_data_append, strOfNums_data, strOfNums_data, strOfNums_data, List.map_append]

def Bytes (xs : List Int) : Prop := ∀ x ∈ xs, 0 ≤ x ∧ x ≤ 255

theorem bytesOf_bytes (s : ByteArray) : Bytes (bytesOf s) := by
  intro x hx
  unfold bytesOf at hx
  obtain ⟨b, _, rfl⟩ := List.mem_map.mp hx
  have := b.toNat_lt
  omega

theorem bytesOf_strOf {xs : List Int} (h : Bytes xs) : bytesOf (strOfNums xs) = xs := by
  unfold bytesOf
  rw [strOfNums_data, List.map_map]
  conv => rhs; rw [← List.map_id xs]
  apply List.map_congr_left
  intro x hx
  have := h x hx
  simp only [Function.comp, id]
  rw [UInt8.toNat_ofNat_of_lt' (by simp [UInt8.size]; omega)]
  omega

theorem strOf_bytesOf (s : ByteArray) : strOfNums (bytesOf s) = s := by
  apply ba_ext
  rw [strOfNums_data]
  unfold bytesOf
  rw [List.map_map]
  conv => rhs; rw [← List.map_id s.data.toList]
  apply List.map_congr_left
  intro x _
  simp

theorem bytesOf_append (a b : ByteArray) : bytesOf (a ++ b) = bytesOf a ++ bytesOf b := by
  unfold bytesOf
  rw [ba_data_append, List.map_append]

theorem bytesOf_inj {a b : ByteArray} (h : bytesOf a = bytesOf b) : a = b := by
  rw [← strOf_bytesOf a, h, strOf_bytesOf]

theorem ba_toList (a : ByteArray) : a.toList = a.data.toList := by
  exact ByteArray.toList_eq a

theorem toList_inj {a b : ByteArray} (h : a.toList = b.toList) : a = b := by
  rw [ba_toList, ba_toList] at h
  exact ba_ext h

theorem bytesOf_extract (s : ByteArray) (i j : Nat) : bytesOf (s.extract i j) = ((bytesOf s).take j).drop i := by
  unfold bytesOf
  rw [ByteArray.data_extract, Array.toList_extract]
  simp [List.extract_eq_take_drop, List.drop_take, List.map_take, List.map_drop]

theorem bt_bytesOf (s : ByteArray) (i : Int) : bt s i = rd (bytesOf s) i := (rd_bytesOf s i).symm

theorem bt_strOf {xs : List Int} (h : Bytes xs) (i : Int) : bt (strOfNums xs) i = rd xs i := by
  rw [bt_bytesOf, bytesOf_strOf h]

theorem rd_pre (pre : List Int) (x : Int) (post : List Int) : rd (pre ++ x :: post) (pre.length : Int) = x := by
  unfold rd
  simp

theorem xor32_range (x y : Int) : 0 ≤ Go.bits .xor .u32 x y ∧ Go.bits .xor .u32 x y ≤ 4294967295 := bounds_u32 (wf_bits .xor .u32 x y)

theorem crcStep_range (x : Int) : 0 ≤ crcStep x ∧ crcStep x ≤ 4294967295 := by
  unfold crcStep
  split
  · exact xor32_range _ _
  · omega

theorem crcIter_range : ∀ (d : Nat) (x : Int), 0 ≤ x → x ≤ 4294967295 → 0 ≤ crcIter d x ∧ crcIter d x ≤ 4294967295
  | 0, x, h0, h1 => ⟨h0, h1⟩
  | d + 1, x, h0, h1 => crcIter_range d _ (crcStep_range x).1 (crcStep_range x).2

theorem crcByte_range (x b : Int) : 0 ≤ crcByte x b ∧ crcByte x b ≤ 4294967295 :=
  crcIter_range 8 _ (xor32_range _ _).1 (xor32_range _ _).2

theorem crcFrom_range (t : ByteArray) : ∀ (d : Nat) (i x : Int), 0 ≤ x → x ≤ 4294967295 → 0 ≤ crcFrom t d i x ∧ crcFrom t d i x ≤ 4294967295
  | 0, i, x, h0, h1 => ⟨h0, h1⟩
  | d + 1, i, x, h0, h1 => crcFrom_range t d _ _ (crcByte_range _ _).1 (crcByte_range _ _).2

theorem crcOf_range (t : ByteArray) : 0 ≤ crcOf t ∧ crcOf t ≤ 4294967295 := crcFrom_range t _ _ _ (by omega) (by omega)

def sealOf (t : ByteArray) : ByteArray := t ++ num4 (crcOf t)

theorem num4_sz (a : Int) : (num4 a).size = 4 := by unfold num4; rw [strOfNums_size]; rfl

theorem highFirst_ev (a : Int) (h0 : 0 ≤ a) (h1 : a ≤ 4294967295) : Ev (fun k => impl_highFirst.f k a 4) (num4 a) := by
  refine ⟨5, fun k hk => ?_⟩
  obtain ⟨m, rfl⟩ : ∃ m, k = m + 1 + 1 + 1 + 1 + 1 := ⟨k - 5, by omega⟩
  show impl_highFirst.f _ a 4 = _
  unfold impl_highFirst.f
  rw [if_pos (by omega), if_pos (by decide)]
  have e0 : List.replicate (4 : Int).toNat (0 : Int) = [0, 0, 0, 0] := rfl
  have w3 : wrap64 (4 - 1) = 3 := by unfold wrap64; omega
  have w2 : wrap64 (3 - 1) = 2 := by unfold wrap64; omega
  have w1 : wrap64 (2 - 1) = 1 := by unfold wrap64; omega
  have w0 : wrap64 (1 - 1) = 0 := by unfold wrap64; omega
  have wm : wrap64 (0 - 1) = -1 := by unfold wrap64; omega
  rw [e0, w3, impl_highFirst.l0, if_pos (by omega), if_pos (by omega), if_pos (by simp), and255 a (by omega) (by omega), w2]
  rw [impl_highFirst.l0, if_pos (by omega), if_pos (by omega), if_pos (by simp), and255 (a / 256) (by omega) (by omega), w1]
  rw [impl_highFirst.l0, if_pos (by omega), if_pos (by omega), if_pos (by simp), and255 (a / 256 / 256) (by omega) (by omega), w0]
  rw [impl_highFirst.l0, if_pos (by omega), if_pos (by omega), if_pos (by simp), and255 (a / 256 / 256 / 256) (by omega) (by omega), wm]
  rw [impl_highFirst.l0, if_neg (by omega)]
  have e1 : a / 256 / 256 / 256 % 256 % 256 = a / 16777216 % 256 := by omega
  have e2 : a / 256 / 256 % 256 % 256 = a / 65536 % 256 := by omega
  have e3 : a / 256 % 256 % 256 = a / 256 % 256 := by omega
  have e4 : a % 256 % 256 = a % 256 := by omega
  rw [e1, e2, e3, e4]
  rfl

theorem implSealed_ev (t : ByteArray) (h : t.size ≤ 20000) : Ev (fun k => impl_Sealed.f k t) (sealOf t, true) := by
  have hr := crcOf_range t
  obtain ⟨K, h1⟩ := implSumOf_ev t (by omega)
  obtain ⟨K', h2⟩ := highFirst_ev (crcOf t) hr.1 hr.2
  refine ⟨K + K', fun k hk => ?_⟩
  have h1 := h1 k (by omega)
  have h2 := h2 k (by omega)
  simp only at h1 h2
  show impl_Sealed.f k t = _
  unfold impl_Sealed.f
  rw [if_neg (by omega), h1]
  simp only [Option.bind_some]
  rw [w64 (by omega) (by omega), h2]
  simp only [Option.bind_some]
  rw [num4_sz, if_pos (by omega)]
  rfl

theorem implSealed_no (t : ByteArray) (h : ¬ t.size ≤ 20000) (k : Nat) : impl_Sealed.f k t = some (⟨#[]⟩, false) := by
  unfold impl_Sealed.f
  rw [if_pos (by omega)]


theorem ext_split (t : ByteArray) (n : Nat) (h : n ≤ t.size) : t.extract 0 n ++ t.extract n t.size = t := by
  apply bytesOf_inj
  rw [bytesOf_append, bytesOf_extract, bytesOf_extract, List.drop_zero]
  have e : (bytesOf t).take t.size = bytesOf t := List.take_of_length_le (by rw [bytesOf_length]; exact Nat.le_refl _)
  rw [e, List.take_append_drop]

theorem ext_size (t : ByteArray) (i j : Nat) (h : j ≤ t.size) : (t.extract i j).size = j - i := by
  rw [← bytesOf_length, bytesOf_extract, List.length_drop, List.length_take, bytesOf_length]
  omega

theorem app_inj_l {a b c : ByteArray} (h : a ++ b = a ++ c) : b = c := by
  apply bytesOf_inj
  have := congrArg bytesOf h
  rw [bytesOf_append, bytesOf_append] at this
  exact List.append_cancel_left this

def unsealOf (t : ByteArray) : ByteArray × Bool :=
  if t.size < 4 then (⟨#[]⟩, false) else if t.size > 20004 then (⟨#[]⟩, false) else if sealOf (t.extract 0 (t.size - 4)) = t then (t.extract 0 (t.size - 4), true) else (⟨#[]⟩, false)

theorem implUnsealed_ev (t : ByteArray) (ht : t.size ≤ 140737488351232) : Ev (fun k => impl_Unsealed.f k t) (unsealOf t) := by
  have hz := ext_size t 0 (t.size - 4) (by omega)
  by_cases hb : t.size > 20004
  · refine ⟨0, fun k hk => ?_⟩
    show impl_Unsealed.f k t = _
    unfold impl_Unsealed.f unsealOf
    have e : ((t.size : Int) - 4).toNat = t.size - 4 := by omega
    rw [w64 (by omega) (by omega), if_neg (by omega), if_pos (by omega), if_pos (by omega), e, implSealed_no _ (by omega)]
    simp only [Option.bind_some, Bool.false_eq_true, if_false]
    rw [if_neg (by omega), if_pos hb]
  · obtain ⟨K, h1⟩ := implSealed_ev (t.extract 0 (t.size - 4)) (by omega)
    refine ⟨K, fun k hk => ?_⟩
    have h1 := h1 k hk
    simp only at h1
    show impl_Unsealed.f k t = _
    unfold impl_Unsealed.f unsealOf
    rw [w64 (by omega) (by omega)]
    by_cases h4 : t.size < 4
    · rw [if_pos (by omega), if_pos h4]
    · have e : ((t.size : Int) - 4).toNat = t.size - 4 := by omega
      rw [if_neg (by omega), if_neg h4, if_neg hb, if_pos (by omega), if_pos (by omega), e, h1]
      simp only [Option.bind_some, if_true]
      by_cases he : sealOf (t.extract 0 (t.size - 4)) = t
      · rw [if_pos (by rw [he]), if_pos he]
      · rw [if_neg (fun h => he (toList_inj h)), if_neg he]


theorem xor_bits (k : IntKind) (j : Nat) (hj : j ≤ k.bits) (hk : ∀ n : Int, 0 ≤ n → n < 2 ^ j → k.wrap n = n) (a b : Nat) (ha : a < 2 ^ j) (hb : b < 2 ^ j) :
    Go.bits .xor k a b = ((a ^^^ b : Nat) : Int) := by
  have hp : 2 ^ j ≤ 2 ^ k.bits := Nat.pow_le_pow_right (by decide) hj
  have ha' : a % 2 ^ k.bits = a := Nat.mod_eq_of_lt (Nat.lt_of_lt_of_le ha hp)
  have hb' : b % 2 ^ k.bits = b := Nat.mod_eq_of_lt (Nat.lt_of_lt_of_le hb hp)
  simp only [Go.bits, BitVec.ofInt_natCast, BitVec.toNat_xor, BitVec.toNat_ofNat, ha', hb']
  exact hk _ (Int.natCast_nonneg _) (by exact_mod_cast Nat.xor_lt_two_pow ha hb)

def X (a b : Int) : Int := ((a.toNat ^^^ b.toNat : Nat) : Int)
def A (a b : Int) : Int := ((a.toNat &&& b.toNat : Nat) : Int)
def In32 (x : Int) : Prop := 0 ≤ x ∧ x ≤ 4294967295

theorem X_in {a b : Int} (ha : In32 a) (hb : In32 b) : In32 (X a b) := by
  unfold In32 at *
  have h := Nat.xor_lt_two_pow (x := a.toNat) (y := b.toNat) (n := 32) (by omega) (by omega)
  unfold X
  omega

theorem A_in {a b : Int} (ha : In32 a) (hb : In32 b) : In32 (A a b) := by
  unfold In32 at *
  have h : a.toNat &&& b.toNat < 2 ^ 32 := Nat.and_lt_two_pow _ (by omega)
  unfold A
  omega

theorem xor64 {a b : Int} (ha : In32 a) (hb : In32 b) : Go.bits .xor .i64 a b = X a b := by
  unfold In32 at *
  have h := xor_bits .i64 63 (by decide) wraps64 a.toNat b.toNat (by omega) (by omega)
  rw [Int.toNat_of_nonneg ha.1, Int.toNat_of_nonneg hb.1] at h
  exact h

theorem xor32 {a b : Int} (ha : In32 a) (hb : In32 b) : Go.bits .xor .u32 a b = X a b := by
  unfold In32 at *
  have h := xor_bits .u32 32 (by decide) wraps32 a.toNat b.toNat (by omega) (by omega)
  rw [Int.toNat_of_nonneg ha.1, Int.toNat_of_nonneg hb.1] at h
  exact h

theorem and64 {a b : Int} (ha : In32 a) (hb : In32 b) : Go.bits .and .i64 a b = A a b := by
  unfold In32 at *
  have h := (bits_nat .i64 63 (by decide) wraps64 a.toNat b.toNat (by omega) (by omega)).1
  rw [Int.toNat_of_nonneg ha.1, Int.toNat_of_nonneg hb.1] at h
  exact h

theorem and32 {a b : Int} (ha : In32 a) (hb : In32 b) : Go.bits .and .u32 a b = A a b := by
  unfold In32 at *
  have h := (bits_nat .u32 32 (by decide) wraps32 a.toNat b.toNat (by omega) (by omega)).1
  rw [Int.toNat_of_nonneg ha.1, Int.toNat_of_nonneg hb.1] at h
  exact h

theorem or_comm64 {a b : Int} (ha : 0 ≤ a ∧ a < 2 ^ 63) (hb : 0 ≤ b ∧ b < 2 ^ 63) : Go.bits .or .i64 a b = Go.bits .or .i64 b a := by
  have h1 := (bits_nat .i64 63 (by decide) wraps64 a.toNat b.toNat (by omega) (by omega)).2
  have h2 := (bits_nat .i64 63 (by decide) wraps64 b.toNat a.toNat (by omega) (by omega)).2
  rw [Int.toNat_of_nonneg ha.1, Int.toNat_of_nonneg hb.1] at h1 h2
  rw [h1, h2, Nat.or_comm]

theorem not64 {a : Int} (ha : In32 a) : Go.bits .xor .i64 4294967295 a = 4294967295 - a := by
  have hc := ha
  unfold In32 at ha
  rw [xor64 (by unfold In32; omega) hc]
  unfold X
  have e : ∀ n : Nat, n < 2 ^ 32 → (2 ^ 32 - 1) ^^^ n = 2 ^ 32 - (n + 1) := by
    intro n hn
    apply Nat.eq_of_testBit_eq
    intro i
    rw [Nat.testBit_xor, Nat.testBit_two_pow_sub_one, Nat.testBit_two_pow_sub_succ hn]
    by_cases hi : i < 32
    · simp [hi]
    · have : n.testBit i = false := Nat.testBit_lt_two_pow (Nat.lt_of_lt_of_le hn (Nat.pow_le_pow_right (by decide) (by omega)))
      simp [hi, this]
  have h := e a.toNat (by omega)
  have e2 : (4294967295 : Int).toNat = 2 ^ 32 - 1 := by decide
  rw [e2, h]
  omega

def rot (x p q : Int) : Int := x / p + x % p * q

theorem rot_parts {x p q : Int} (hx : In32 x) (hp : 0 < p) (hq : 0 < q) (hpq : p * q = 4294967296) : 0 ≤ x / p ∧ x / p < q ∧ 0 ≤ x % p * q ∧ x % p * q ≤ 4294967296 - q := by
  unfold In32 at hx
  refine ⟨Int.ediv_nonneg hx.1 (by omega), Int.ediv_lt_of_lt_mul hp (by rw [Int.mul_comm, hpq]; omega), Int.mul_nonneg (Int.emod_nonneg _ (by omega)) (by omega), ?_⟩
  have h := Int.mul_le_mul_of_nonneg_right (Int.le_sub_one_of_lt (Int.emod_lt_of_pos x hp)) (show 0 ≤ q by omega)
  have e : (p - 1) * q = p * q - q := by rw [Int.sub_mul, Int.one_mul]
  omega

theorem rot_in {x p q : Int} (hx : In32 x) (hp : 0 < p) (hq : 0 < q) (hpq : p * q = 4294967296) : In32 (rot x p q) := by
  have := rot_parts hx hp hq hpq
  unfold In32 rot
  omega


def Ex {α : Type} (g : Nat → Option α) (P : α → Prop) : Prop := ∃ r, Ev g r ∧ P r

theorem Ex.mono {α : Type} {g : Nat → Option α} {P Q : α → Prop} (h : Ex g P) (hq : ∀ a, P a → Q a) : Ex g Q := by
  obtain ⟨r, h1, h2⟩ := h
  exact ⟨r, h1, hq r h2⟩
theorem Ex.bind {α β : Type} {g : Nat → Option α} {f : Nat → α → Option β} {P : α → Prop} {Q : β → Prop} (h : Ex g P) (k : ∀ a, P a → Ex (fun n => f n a) Q) : Ex (fun n => (g n).bind (f n)) Q := by
  obtain ⟨a, h1, h2⟩ := h
  obtain ⟨r, h3, h4⟩ := k a h2
  exact ⟨r, h1.bind h3, h4⟩
theorem Ex.ev {α : Type} {g : Nat → Option α} {r : α} {P : α → Prop} (h : Ev g r) (hp : P r) : Ex g P := ⟨r, h, hp⟩
theorem Ex.now {α : Type} {r : α} {P : α → Prop} (hp : P r) : Ex (fun _ => some r) P := ⟨r, Ev.now r, hp⟩
theorem Ex.eq {α : Type} {o : Option α} {r : α} {P : α → Prop} (h : o = some r) (hp : P r) : Ex (fun _ => o) P := by
  subst h
  exact Ex.now hp
theorem Ex.step {α : Type} {g f : Nat → Option α} {P : α → Prop} (h : ∀ k, g (k + 1) = f k) (k : Ex f P) : Ex g P := by
  obtain ⟨r, h1, h2⟩ := k
  exact ⟨r, h1.step h, h2⟩
theorem Ex.shift {α : Type} {g : Nat → Option α} {P : α → Prop} (k : Ex (fun n => g (n + 1)) P) : Ex g P := Ex.step (f := fun n => g (n + 1)) (fun _ => rfl) k
theorem Ex.ite {α : Type} {c : Prop} [Decidable c] {f g : Nat → Option α} {P : α → Prop} (h1 : c → Ex f P) (h2 : ¬ c → Ex g P) : Ex (fun k => if c then f k else g k) P := by
  by_cases h : c
  · simp only [if_pos h]
    exact h1 h
  · simp only [if_neg h]
    exact h2 h
theorem Ex.pos {α : Type} {c : Prop} [Decidable c] {f g : Nat → Option α} {P : α → Prop} (h : c) (h1 : Ex f P) : Ex (fun k => if c then f k else g k) P := by
  simp only [if_pos h]
  exact h1
theorem Ex.neg {α : Type} {c : Prop} [Decidable c] {f g : Nat → Option α} {P : α → Prop} (h : ¬ c) (h1 : Ex g P) : Ex (fun k => if c then f k else g k) P := by
  simp only [if_neg h]
  exact h1

theorem and255_range (x : Int) : 0 ≤ Go.bits .and .i64 x 255 ∧ Go.bits .and .i64 x 255 ≤ 255 := by
  have h : ((BitVec.ofInt IntKind.i64.bits x &&& BitVec.ofInt IntKind.i64.bits 255).toNat) ≤ 255 := by
    rw [BitVec.toNat_and]
    exact Nat.le_trans Nat.and_le_right (by decide)
  have e : Go.bits .and .i64 x 255 = IntKind.i64.wrap ((BitVec.ofInt IntKind.i64.bits x &&& BitVec.ofInt IntKind.i64.bits 255).toNat : Int) := rfl
  rw [e, wraps64 _ (by omega) (by omega)]
  omega

/-- A cursor's place. -/
def Pl (i : Int) : Prop := 0 ≤ i ∧ i ≤ 4611686018427387904

theorem l01Byte_ex (l : List Int) (i h : Int) (hl : l.length ≤ 4000000) (hi : Pl i) : ∃ v i' h', spec_l01Byte.f l i h = some (v, i', h') ∧ (0 ≤ v ∧ v ≤ 255) ∧ Pl i' := by
  unfold Pl at *
  unfold spec_l01Byte.f
  by_cases hc : i < (l.length : Int)
  · rw [if_pos hc, if_pos hi.1]
    exact ⟨_, _, _, rfl, and255_range _, by rw [w64 (by omega) (by omega)]; omega⟩
  · rw [if_neg hc]
    exact ⟨_, _, _, rfl, and255_range _, hi⟩

theorem l01Below_ex (l : List Int) (i h n : Int) (hl : l.length ≤ 4000000) (hi : Pl i) : ∃ v i' h', spec_l01Below.f l i h n = some (v, i', h') ∧ (0 ≤ v ∧ (v < n ∨ v = 0)) ∧ Pl i' := by
  unfold spec_l01Below.f
  by_cases h0 : n ≤ 0
  · rw [if_pos h0]
    exact ⟨_, _, _, rfl, by omega, hi⟩
  rw [if_neg h0]
  by_cases h1 : n ≤ 256
  · obtain ⟨v, i1, h1', e, hv, hi1⟩ := l01Byte_ex l i h hl hi
    rw [if_pos h1, e, Option.bind_some, if_neg (by omega)]
    refine ⟨_, _, _, rfl, ?_, hi1⟩
    simp only
    rw [tmod_nn _ hv.1]
    have := Int.emod_nonneg v (show n ≠ 0 by omega)
    have := Int.emod_lt_of_pos v (show 0 < n by omega)
    omega
  · obtain ⟨v1, i1, g1, e1, hv1, hi1⟩ := l01Byte_ex l i h hl hi
    obtain ⟨v2, i2, g2, e2, hv2, hi2⟩ := l01Byte_ex l i1 g1 hl hi1
    obtain ⟨v3, i3, g3, e3, hv3, hi3⟩ := l01Byte_ex l i2 g2 hl hi2
    obtain ⟨v4, i4, g4, e4, hv4, hi4⟩ := l01Byte_ex l i3 g3 hl hi3
    rw [if_neg h1, e1, Option.bind_some, e2, Option.bind_some, e3, Option.bind_some, e4, Option.bind_some, if_neg (by omega)]
    refine ⟨_, _, _, rfl, ?_, hi4⟩
    simp only
    rw [w64 (x := v1 * 16777216) (by omega) (by omega), w64 (x := v2 * 65536) (by omega) (by omega), w64 (x := v3 * 256) (by omega) (by omega), w64 (x := v1 * 16777216 + v2 * 65536) (by omega) (by omega), w64 (x := v1 * 16777216 + v2 * 65536 + v3 * 256) (by omega) (by omega), w64 (by omega) (by omega), tmod_nn _ (by omega)]
    have := Int.emod_nonneg (v1 * 16777216 + v2 * 65536 + v3 * 256 + v4) (show n ≠ 0 by omega)
    have := Int.emod_lt_of_pos (v1 * 16777216 + v2 * 65536 + v3 * 256 + v4) (show 0 < n by omega)
    omega

theorem l01Text_l0 (n : Int) (l : List Int) (hl : l.length ≤ 4000000) (hn : n ≤ 5000) : ∀ (m : Nat) (out : List Int) (q i h : Int), Pl i → 0 ≤ q → n ≤ q + m → out.length = q.toNat → q ≤ 5000 → Ex (fun k => spec_l01Text.l0 k n out q l i h) (fun r => r.1.size = max out.length n.toNat ∧ Pl r.2.1)
  | 0, out, q, i, h, hi, hq, hm, ho, hq5 => by
    refine Ex.step (f := fun _ => some (strOfNums out, i, h)) (fun k => ?_) (Ex.now ⟨?_, hi⟩)
    · rw [spec_l01Text.l0, if_neg (by omega)]
    · simp only
      rw [strOfNums_size]
      omega
  | m + 1, out, q, i, h, hi, hq, hm, ho, hq5 => by
    by_cases hc : q < n
    · obtain ⟨v, i1, h1, e, hv, hi1⟩ := l01Byte_ex l i h hl hi
      refine Ex.step (f := fun k => spec_l01Text.l0 k n (out ++ [v % 256]) (q + 1) l i1 h1) (fun k => ?_) ?_
      · rw [spec_l01Text.l0, if_pos hc, e, Option.bind_some, if_pos (by omega), w64 (by omega) (by omega)]
      · refine (l01Text_l0 n l hl hn m (out ++ [v % 256]) (q + 1) i1 h1 hi1 (by omega) (by omega) (by simp; omega) (by omega)).mono (fun r hr => ⟨?_, hr.2⟩)
        rw [hr.1, List.length_append]
        simp only [List.length_singleton]
        omega
    · refine Ex.step (f := fun _ => some (strOfNums out, i, h)) (fun k => ?_) (Ex.now ⟨?_, hi⟩)
      · rw [spec_l01Text.l0, if_neg hc]
      · simp only
        rw [strOfNums_size]
        omega

theorem l01Text_ex (l : List Int) (i h n : Int) (hl : l.length ≤ 4000000) (hi : Pl i) : Ex (fun k => spec_l01Text.f k l i h n) (fun r => r.1.size ≤ 5000 ∧ (r.1.size : Int) ≤ max n 0 ∧ Pl r.2.1) := by
  have key : ∀ n : Int, n ≤ 5000 → Ex (fun k => spec_l01Text.j0 k n l i h) (fun r => r.1.size = n.toNat ∧ Pl r.2.1) := by
    intro n hn
    refine Ex.step (f := fun k => spec_l01Text.l0 k n [] 0 l i h) (fun k => by rw [spec_l01Text.j0]) ?_
    refine (l01Text_l0 n l hl hn n.toNat [] 0 i h hi (by omega) (by omega) rfl (by omega)).mono (fun r hr => ⟨?_, hr.2⟩)
    rw [hr.1]
    simp
  unfold spec_l01Text.f
  refine Ex.ite (fun hc => (key 5000 (by omega)).mono (fun r hr => ⟨?_, ?_, hr.2⟩)) (fun hc => (key n (by omega)).mono (fun r hr => ⟨?_, ?_, hr.2⟩))
  · rw [hr.1]; omega
  · rw [hr.1]; omega
  · rw [hr.1]; omega
  · rw [hr.1]; omega

theorem l01New_l0 (l : List Int) : ∀ (m : Nat) (h i : Int), 0 ≤ i → 4000 ≤ i + m → i ≤ 4000 → Ex (fun k => spec_l01New.l0 k l h i) (fun r => r.1 = l ∧ Pl r.2.1)
  | 0, h, i, h0, hm, h4 => by
    have hp : Pl 0 := by unfold Pl; omega
    refine Ex.step (f := fun _ => some (l, 0, h)) (fun k => ?_) (Ex.now ⟨rfl, hp⟩)
    rw [spec_l01New.l0]
    by_cases hc : i < (l.length : Int)
    · rw [if_pos hc, if_neg (by omega)]
    · rw [if_neg hc]
  | m + 1, h, i, h0, hm, h4 => by
    have hp : Pl 0 := by unfold Pl; omega
    by_cases hc : i < (l.length : Int) ∧ i < 4000
    · refine Ex.step (f := fun k => spec_l01New.l0 k l (Go.bits .and .i64 (wrap64 ((wrap64 ((wrap64 (h * 131)) + (wrap64 (rd l i)))) + 7)) 1073741823) (i + 1)) (fun k => ?_) ?_
      · rw [spec_l01New.l0, if_pos hc.1, if_pos hc.2, if_pos h0, w64 (x := i + 1) (by omega) (by omega)]
      · exact l01New_l0 l m _ (i + 1) (by omega) (by omega) (by omega)
    · refine Ex.step (f := fun _ => some (l, 0, h)) (fun k => ?_) (Ex.now ⟨rfl, hp⟩)
      rw [spec_l01New.l0]
      by_cases hc1 : i < (l.length : Int)
      · rw [if_pos hc1, if_neg (fun q => hc ⟨hc1, q⟩)]
      · rw [if_neg hc1]

theorem l01New_ex (l : List Int) : Ex (fun k => spec_l01New.f k l) (fun r => r.1 = l ∧ Pl r.2.1) := by
  unfold spec_l01New.f
  exact l01New_l0 l 4000 _ 0 (by omega) (by omega) (by omega)


theorem Ex.go {α β : Type} {g : Nat → Option α} {f : Nat → α → Option β} {a : α} {Q : β → Prop} (h : Ev g a) (k : Ex (fun n => f n a) Q) : Ex (fun n => (g n).bind (f n)) Q :=
  Ex.bind (Ex.ev (P := fun q => q = a) h rfl) (fun q hq => by subst hq; exact k)
theorem Ex.have_ {α β : Type} {o : Option α} {f : Nat → α → Option β} {a : α} {Q : β → Prop} (h : o = some a) (k : Ex (fun n => f n a) Q) : Ex (fun n => o.bind (f n)) Q := by
  subst h
  exact k
theorem Ex.fin {g : Nat → Option Bool} (h : Ex g (fun r => r = true)) : ∃ k, g k = some true := by
  obtain ⟨r, ⟨K, hr⟩, rfl⟩ := h
  exact ⟨K, hr K (Nat.le_refl K)⟩
theorem Ex.toEv {α : Type} {g : Nat → Option α} {v : α} (h : Ex g (fun r => r = v)) : Ev g v := by
  obtain ⟨r, hr, rfl⟩ := h
  exact hr

theorem sameList (a b : ByteArray) : (a.toList == b.toList) = decide (a = b) := by
  by_cases h : a = b
  · rw [h, beq_self_eq_true, decide_eq_true rfl]
  · rw [decide_eq_false h]
    exact beq_eq_false_iff_ne.mpr (fun q => h (toList_inj q))

def PL (p : List Int) (n : Nat) : Prop := p.length = n ∧ ∀ x ∈ p, 0 ≤ x ∧ x ≤ 9999

theorem PL.rd {p : List Int} {n : Nat} (h : PL p n) (i : Int) (h0 : 0 ≤ i) (h1 : i < n) : 0 ≤ rd p i ∧ rd p i ≤ 9999 := by
  obtain ⟨hl, hp⟩ := h
  have hn : i.toNat < p.length := by omega
  have e : Go.Proofs.YtgepaoikhfofmaaW.PrintWords.rd p i = p[i.toNat] := by
    show p.getD i.toNat 0 = _
    rw [List.getD_eq_getElem?_getD, List.getElem?_eq_getElem hn]
    rfl
  rw [e]
  exact hp _ (List.getElem_mem hn)

theorem DrawPlaces_l0 (l : List Int) (hl : l.length ≤ 4000000) : ∀ (m : Nat) (acc : List Int) (i ci ch : Int), Pl ci → 0 ≤ i → i + m = 12 → PL acc i.toNat → Ex (fun k => spec_DrawPlaces.l0 k acc i l ci ch) (fun p => PL p 12)
  | 0, acc, i, ci, ch, hp, h0, hm, ha => by
    refine Ex.step (f := fun _ => some acc) (fun k => ?_) (Ex.now ?_)
    · rw [spec_DrawPlaces.l0, if_neg (by omega)]
    · have e : i.toNat = 12 := by omega
      rw [e] at ha
      exact ha
  | m + 1, acc, i, ci, ch, hp, h0, hm, ha => by
    obtain ⟨v, i1, h1, e1, hv, hi1⟩ := l01Below_ex l ci ch 10000 hl hp
    refine Ex.step (f := fun k => spec_DrawPlaces.l0 k (acc ++ [v]) (i + 1) l i1 h1) (fun k => ?_) ?_
    · have hal := ha.1
      rw [spec_DrawPlaces.l0, if_pos (by omega), e1, Option.bind_some, if_pos (by omega), w64 (x := i + 1) (by omega) (by omega)]
    · refine DrawPlaces_l0 l hl m (acc ++ [v]) (i + 1) i1 h1 hi1 (by omega) (by omega) ⟨?_, fun x hx => ?_⟩
      · rw [List.length_append, ha.1]
        simp only [List.length_singleton]
        omega
      · rcases List.mem_append.mp hx with hx | hx
        · exact ha.2 x hx
        · rw [List.mem_singleton] at hx
          omega

theorem DrawPlaces_ex (l : List Int) (hl : l.length ≤ 4000000) : Ex (fun k => spec_DrawPlaces.f k l) (fun p => PL p 12) := by
  unfold spec_DrawPlaces.f
  refine Ex.bind (l01New_ex l) (fun c hc => ?_)
  obtain ⟨hc1, hc2⟩ := hc
  rw [hc1]
  obtain ⟨v, i1, h1, e1, hv, hi1⟩ := l01Byte_ex l c.2.1 c.2.2 hl hc2
  refine Ex.have_ e1 ?_
  exact DrawPlaces_l0 l hl 12 [] 0 i1 h1 hi1 (by omega) (by omega) ⟨rfl, fun x hx => by simp at hx⟩


theorem X_X2 {a b : Int} (ha : 0 ≤ a) : X (X a b) b = a := by
  unfold X
  rw [Int.toNat_natCast, Nat.xor_assoc, Nat.xor_self, Nat.xor_zero]
  omega

theorem X_inj {a b c : Int} (ha : 0 ≤ a) (hb : 0 ≤ b) (h : X a c = X b c) : a = b := by
  rw [← X_X2 (b := c) ha, h, X_X2 hb]

theorem X_comm (a b : Int) : X a b = X b a := by
  unfold X
  rw [Nat.xor_comm]

theorem X_high {a : Int} (ha : 0 ≤ a ∧ a < 2147483648) : 2147483648 ≤ X a 3558460437 := by
  unfold X
  have h1 : (a.toNat).testBit 31 = false := Nat.testBit_lt_two_pow (show a.toNat < 2 ^ 31 by omega)
  have h2 : ((3558460437 : Int).toNat).testBit 31 = true := by decide
  have h3 : (a.toNat ^^^ (3558460437 : Int).toNat).testBit 31 = true := by
    rw [Nat.testBit_xor, h1, h2]
    rfl
  have h4 : ¬ (a.toNat ^^^ (3558460437 : Int).toNat) < 2 ^ 31 := by
    intro q
    rw [Nat.testBit_lt_two_pow q] at h3
    exact absurd h3 (by decide)
  omega

theorem crcStep_eq {x : Int} (hx : In32 x) : crcStep x = if x % 2 = 1 then X (x / 2) 3558460437 else x / 2 := by
  have hc := hx
  unfold In32 at hc
  unfold crcStep
  have e1 : Int.tmod x 2 = x % 2 := tmod_nn _ hc.1
  have e2 : Int.tdiv x 2 = x / 2 := tdiv_nn _ hc.1
  have e3 : x / 2 % 4294967296 = x / 2 := by omega
  rw [e1, e2, e3]
  by_cases h : x % 2 = 1
  · rw [if_pos h, if_pos h, xor32 (by unfold In32; omega) (by unfold In32; omega)]
  · rw [if_neg h, if_neg h]

theorem crcStep_inj {x y : Int} (hx : In32 x) (hy : In32 y) (h : crcStep x = crcStep y) : x = y := by
  rw [crcStep_eq hx, crcStep_eq hy] at h
  unfold In32 at hx hy
  by_cases h1 : x % 2 = 1
  · rw [if_pos h1] at h
    have := X_high (a := x / 2) (by omega)
    by_cases h2 : y % 2 = 1
    · rw [if_pos h2] at h
      have := X_inj (by omega) (by omega) h
      omega
    · rw [if_neg h2] at h
      omega
  · rw [if_neg h1] at h
    by_cases h2 : y % 2 = 1
    · rw [if_pos h2] at h
      have := X_high (a := y / 2) (by omega)
      omega
    · rw [if_neg h2] at h
      omega

theorem crcStep_in {x : Int} : In32 (crcStep x) := crcStep_range x

theorem crcIter_inj : ∀ (d : Nat) {x y : Int}, In32 x → In32 y → crcIter d x = crcIter d y → x = y
  | 0, x, y, hx, hy, h => h
  | d + 1, x, y, hx, hy, h => crcStep_inj hx hy (crcIter_inj d crcStep_in crcStep_in h)

theorem byte32 {b : Int} (hb : 0 ≤ b ∧ b ≤ 255) : b % 4294967296 = b := by omega

theorem crcByte_inj_x {x y b : Int} (hx : In32 x) (hy : In32 y) (hb : 0 ≤ b ∧ b ≤ 255) (h : crcByte x b = crcByte y b) : x = y := by
  unfold crcByte at h
  rw [byte32 hb] at h
  have hB : In32 b := by unfold In32; omega
  rw [xor32 hx hB, xor32 hy hB] at h
  have h2 := crcIter_inj 8 (X_in hx hB) (X_in hy hB) h
  exact X_inj hx.1 hy.1 h2

theorem crcByte_inj_b {x b c : Int} (hx : In32 x) (hb : 0 ≤ b ∧ b ≤ 255) (hc : 0 ≤ c ∧ c ≤ 255) (h : crcByte x b = crcByte x c) : b = c := by
  unfold crcByte at h
  rw [byte32 hb, byte32 hc] at h
  have hB : In32 b := by unfold In32; omega
  have hC : In32 c := by unfold In32; omega
  rw [xor32 hx hB, xor32 hx hC] at h
  have h2 := crcIter_inj 8 (X_in hx hB) (X_in hx hC) h
  rw [X_comm x b, X_comm x c] at h2
  exact X_inj hb.1 hc.1 h2

theorem crcByte_in (x b : Int) : In32 (crcByte x b) := crcByte_range x b

theorem crcFrom_ne (a b : ByteArray) : ∀ (d : Nat) (j x y : Int), In32 x → In32 y → x ≠ y → (∀ q, j ≤ q → q < j + d → bt a q = bt b q) → crcFrom a d j x ≠ crcFrom b d j y
  | 0, j, x, y, hx, hy, hn, he => hn
  | d + 1, j, x, y, hx, hy, hn, he => by
    have e := he j (by omega) (by omega)
    show crcFrom a d (j + 1) (crcByte x (bt a j)) ≠ crcFrom b d (j + 1) (crcByte y (bt b j))
    rw [← e]
    refine crcFrom_ne a b d (j + 1) _ _ (crcByte_in _ _) (crcByte_in _ _) (fun q => hn (crcByte_inj_x hx hy (bt_range a j) q)) (fun q h1 h2 => he q (by omega) (by omega))

theorem crcFrom_two (a b : ByteArray) (i : Int) (hi : bt a i ≠ bt b i) : ∀ (d : Nat) (j x : Int), In32 x → j ≤ i → i < j + d → (∀ q, j ≤ q → q < j + d → q ≠ i → bt a q = bt b q) → crcFrom a d j x ≠ crcFrom b d j x
  | 0, j, x, hx, h1, h2, he => by omega
  | d + 1, j, x, hx, h1, h2, he => by
    show crcFrom a d (j + 1) (crcByte x (bt a j)) ≠ crcFrom b d (j + 1) (crcByte x (bt b j))
    by_cases hj : j = i
    · subst hj
      exact crcFrom_ne a b d (j + 1) _ _ (crcByte_in _ _) (crcByte_in _ _) (fun q => hi (crcByte_inj_b hx (bt_range a j) (bt_range b j) q)) (fun q q1 q2 => he q (by omega) (by omega) (by omega))
    · rw [he j (by omega) (by omega) hj]
      exact crcFrom_two a b i hi d (j + 1) _ (crcByte_in _ _) (by omega) (by omega) (fun q q1 q2 => he q (by omega) (by omega))

theorem num4_inj {x y : Int} (hx : In32 x) (hy : In32 y) (h : num4 x = num4 y) : x = y := by
  unfold In32 at hx hy
  have e := congrArg bytesOf h
  unfold num4 at e
  rw [bytesOf_strOf (by intro z hz; simp only [List.mem_cons, List.not_mem_nil, or_false] at hz; omega), bytesOf_strOf (by intro z hz; simp only [List.mem_cons, List.not_mem_nil, or_false] at hz; omega)] at e
  injection e with e1 e
  injection e with e2 e
  injection e with e3 e
  injection e with e4 e
  omega

theorem bt_app_l (s t : ByteArray) (j : Int) (h0 : 0 ≤ j) (h : j < s.size) : bt (s ++ t) j = bt s j := by
  rw [bt_bytesOf, bt_bytesOf, bytesOf_append]
  show (bytesOf s ++ bytesOf t).getD j.toNat 0 = (bytesOf s).getD j.toNat 0
  rw [List.getD_eq_getElem?_getD, List.getD_eq_getElem?_getD, List.getElem?_append_left (by rw [bytesOf_length]; omega)]

theorem bt_app_r (s t : ByteArray) : bt (s ++ t) (s.size : Int) = bt t 0 := by
  rw [bt_bytesOf, bt_bytesOf, bytesOf_append]
  show (bytesOf s ++ bytesOf t).getD ((s.size : Int)).toNat 0 = (bytesOf t).getD (0 : Int).toNat 0
  rw [Int.toNat_natCast, List.getD_eq_getElem?_getD, List.getD_eq_getElem?_getD, List.getElem?_append_right (by rw [bytesOf_length]; omega), bytesOf_length, Nat.sub_self]
  rfl

theorem crcFrom_app (s t : ByteArray) (e : Nat) : ∀ (d : Nat) (j x : Int), 0 ≤ j → j + d = s.size → crcFrom (s ++ t) (d + e) j x = crcFrom (s ++ t) e (s.size : Int) (crcFrom s d j x)
  | 0, j, x, h0, h => by
    have : j = (s.size : Int) := by omega
    rw [this, Nat.zero_add]
    rfl
  | d + 1, j, x, h0, h => by
    rw [show d + 1 + e = (d + e) + 1 by omega]
    show crcFrom (s ++ t) (d + e) (j + 1) (crcByte x (bt (s ++ t) j)) = crcFrom (s ++ t) e (s.size : Int) (crcFrom s d (j + 1) (crcByte x (bt s j)))
    rw [bt_app_l s t j h0 (by omega)]
    exact crcFrom_app s t e d (j + 1) _ (by omega) (by omega)

theorem crc_more (s : ByteArray) : crcOf (s ++ (⟨#[120]⟩ : ByteArray)) = crcFrom (⟨#[120]⟩ : ByteArray) 1 0 (crcOf s) := by
  unfold crcOf
  have hz : (s ++ (⟨#[120]⟩ : ByteArray)).size = s.size + 1 := ba_append_size _ _
  rw [hz, crcFrom_app s _ 1 s.size 0 _ (by omega) (by omega)]
  have e1 : ∀ y : Int, crcFrom (s ++ (⟨#[120]⟩ : ByteArray)) 1 (s.size : Int) y = crcByte y (bt (s ++ (⟨#[120]⟩ : ByteArray)) (s.size : Int)) := fun _ => rfl
  have e2 : ∀ y : Int, crcFrom (⟨#[120]⟩ : ByteArray) 1 0 y = crcByte y (bt (⟨#[120]⟩ : ByteArray) 0) := fun _ => rfl
  rw [e1, e2, bt_app_r]

theorem sealOf_size (s : ByteArray) : (sealOf s).size = s.size + 4 := by
  unfold sealOf
  rw [ba_append_size, num4_size]

theorem sealOf_cut (s : ByteArray) : (sealOf s).extract 0 s.size = s := by
  apply bytesOf_inj
  unfold sealOf
  rw [bytesOf_extract, bytesOf_append, List.take_left' (bytesOf_length s), List.drop_zero]

theorem unseal_seal (s : ByteArray) (h : s.size ≤ 20000) : unsealOf (sealOf s) = (s, true) := by
  have hz := sealOf_size s
  have e : (sealOf s).size - 4 = s.size := by omega
  unfold unsealOf
  rw [if_neg (by omega), if_neg (by omega), e, sealOf_cut, if_pos rfl]

theorem unseal_turned (s : ByteArray) (h : s.size ≤ 20000) (i : Nat) (c : Int) (hi : i < s.size + 4) (hc : 0 ≤ c ∧ c ≤ 255) (hn : c ≠ bt (sealOf s) (i : Int)) :
    (unsealOf (strOfNums ((bytesOf (sealOf s)).set i c))).2 = false := by
  have hz := sealOf_size s
  have hzl : (bytesOf (sealOf s)).length = s.size + 4 := by rw [bytesOf_length, hz]
  obtain ⟨t, ht⟩ : ∃ t, t = strOfNums ((bytesOf (sealOf s)).set i c) := ⟨_, rfl⟩
  have hB : Bytes ((bytesOf (sealOf s)).set i c) := by
    intro y hy
    rcases List.mem_or_eq_of_mem_set hy with hy | rfl
    · exact bytesOf_bytes _ y hy
    · exact hc
  have hbt : bytesOf t = (bytesOf (sealOf s)).set i c := by rw [ht, bytesOf_strOf hB]
  have htz : t.size = s.size + 4 := by rw [← bytesOf_length, hbt, List.length_set, hzl]
  have hbi : bt t (i : Int) = c := by
    rw [bt_bytesOf, hbt]
    show ((bytesOf (sealOf s)).set i c).getD ((i : Int)).toNat 0 = c
    rw [Int.toNat_natCast, List.getD_eq_getElem?_getD, List.getElem?_set_self (by omega)]
    rfl
  rw [← ht]
  unfold unsealOf
  have e : t.size - 4 = s.size := by omega
  rw [if_neg (by omega), if_neg (by omega), e, if_neg (fun q => ?_)]
  obtain ⟨b, hb⟩ : ∃ b, b = t.extract 0 s.size := ⟨_, rfl⟩
  rw [← hb] at q
  have hbl : bytesOf b = ((bytesOf (sealOf s)).set i c).take s.size := by rw [hb, bytesOf_extract, List.drop_zero, hbt]
  have hbz : b.size = s.size := by rw [← bytesOf_length, hbl, List.length_take, List.length_set, hzl]; omega
  by_cases hin : i < s.size
  · have hq : bytesOf (sealOf b) = (bytesOf (sealOf s)).set i c := by rw [q, hbt]
    have hd : (bytesOf (sealOf b)).drop s.size = (bytesOf (sealOf s)).drop s.size := by
      rw [hq, List.drop_set_of_lt hin]
    unfold sealOf at hd
    rw [bytesOf_append, bytesOf_append, List.drop_left' (by rw [bytesOf_length, hbz]), List.drop_left' (bytesOf_length s)] at hd
    have hcrc := num4_inj (crcOf_range b) (crcOf_range s) (bytesOf_inj hd)
    unfold crcOf at hcrc
    rw [hbz] at hcrc
    have hbb : ∀ j : Int, 0 ≤ j → j < s.size → bt b j = bt t j := by
      intro j j0 j1
      rw [bt_bytesOf, bt_bytesOf, hbl, hbt]
      show (((bytesOf (sealOf s)).set i c).take s.size).getD j.toNat 0 = ((bytesOf (sealOf s)).set i c).getD j.toNat 0
      rw [List.getD_eq_getElem?_getD, List.getD_eq_getElem?_getD, List.getElem?_take_of_lt (by omega)]
    have hss : ∀ j : Int, 0 ≤ j → j < s.size → bt (sealOf s) j = bt s j := fun j j0 j1 => bt_app_l s _ j j0 j1
    have hne : bt b (i : Int) ≠ bt s (i : Int) := by
      rw [hbb _ (by omega) (by omega), hbi, ← hss _ (by omega) (by omega)]
      exact hn
    refine crcFrom_two b s (i : Int) hne s.size 0 4294967295 (by unfold In32; omega) (by omega) (by omega) (fun j j0 j1 jn => ?_) hcrc
    rw [hbb j j0 (by omega), ← hss j j0 (by omega), bt_bytesOf, bt_bytesOf, hbt]
    show ((bytesOf (sealOf s)).set i c).getD j.toNat 0 = (bytesOf (sealOf s)).getD j.toNat 0
    rw [List.getD_eq_getElem?_getD, List.getD_eq_getElem?_getD, List.getElem?_set_ne (by omega)]
  · have hbs : b = s := by
      apply bytesOf_inj
      rw [hbl, List.take_set_of_le (by omega)]
      unfold sealOf
      rw [bytesOf_append, List.take_left' (bytesOf_length s)]
    rw [hbs] at q
    exact hn (by rw [q, hbi])

theorem DrawSumOf_ex (l : List Int) (hl : l.length ≤ 4000000) : Ex (fun k => spec_DrawSumOf.f k l) (fun q => q.size ≤ 1000) := by
  unfold spec_DrawSumOf.f
  refine Ex.bind (l01New_ex l) (fun c hc => ?_)
  obtain ⟨hc1, hc2⟩ := hc
  rw [hc1]
  obtain ⟨m, i1, h1, e1, hm, hi1⟩ := l01Below_ex l c.2.1 c.2.2 40 hl hc2
  refine Ex.have_ e1 ?_
  exact Ex.bind (l01Text_ex l i1 h1 m hl hi1) (fun t ht => Ex.now (by omega))

theorem xorb_ne {b v : Int} (hb : 0 ≤ b ∧ b ≤ 255) (hv : 1 ≤ v ∧ v ≤ 255) : (0 ≤ Go.bits .xor .u8 b v ∧ Go.bits .xor .u8 b v ≤ 255) ∧ Go.bits .xor .u8 b v ≠ b := by
  have h := xor_bits .u8 8 (by decide) (fun n h0 h1 => by rw [IntKind.wrap_u8]; omega) b.toNat v.toNat (by omega) (by omega)
  rw [Int.toNat_of_nonneg hb.1, Int.toNat_of_nonneg (by omega)] at h
  have hx : Go.bits .xor .u8 b v = X b v := h
  have hl := Nat.xor_lt_two_pow (x := b.toNat) (y := v.toNat) (n := 8) (by omega) (by omega)
  rw [hx]
  refine ⟨?_, fun q => ?_⟩
  · unfold X
    omega
  · have h1 := X_X2 (a := v) (b := b) (by omega)
    rw [X_comm v b, q] at h1
    unfold X at h1
    rw [Nat.xor_self] at h1
    omega

theorem FnTurned : laws_FnTurned.Pure := by
  intro l0 hb hl _
  by_cases hbig : (l0.length : Int) > 1048576
  · exact ⟨0, by unfold laws_FnTurned.f laws_big.f; simp [hbig]⟩
  have hB : laws_big.f l0 = some false := by unfold laws_big.f; rw [decide_eq_false hbig]
  refine Ex.fin ?_
  unfold laws_FnTurned.f
  refine Ex.have_ hB (Ex.neg (by decide) ?_)
  refine Ex.bind (DrawSumOf_ex l0 (by omega)) (fun s hs => ?_)
  refine Ex.bind (DrawPlaces_ex l0 (by omega)) (fun p hp => ?_)
  have hpl := hp.1
  have h0 := hp.rd 0 (by omega) (by omega)
  have h1 := hp.rd 1 (by omega) (by omega)
  have hz := sealOf_size s
  have u1 := implUnsealed_ev (sealOf s) (by omega)
  rw [unseal_seal s (by omega)] at u1
  refine Ex.go (implSealed_ev s (by omega)) (Ex.go u1 (Ex.pos ⟨rfl, rfl, hz, hs, by omega, h0.1, h1.1, by omega⟩ ?_))
  obtain ⟨i, hi⟩ : ∃ i : Nat, (i : Int) = rd p 0 % ((sealOf s).size : Int) := ⟨(rd p 0 % ((sealOf s).size : Int)).toNat, Int.toNat_of_nonneg (Int.emod_nonneg _ (by omega))⟩
  have hlt := Int.emod_lt_of_pos (rd p 0) (show 0 < ((sealOf s).size : Int) by omega)
  rw [← hi] at hlt
  have hbb := bt_range (sealOf s) (i : Int)
  obtain ⟨hc, hn⟩ := xorb_ne (v := 1 + rd p 1 % 255) hbb (by omega)
  have hT : turnedT (sealOf s) p = strOfNums ((bytesOf (sealOf s)).set i (Go.bits .xor .u8 (bt (sealOf s) (i : Int)) (1 + rd p 1 % 255))) := by
    unfold turnedT
    rw [← hi, Int.toNat_natCast, ← bt_bytesOf]
  have hU := unseal_turned s (by omega) i _ (by omega) hc hn
  rw [← hT] at hU
  have hTz : (turnedT (sealOf s) p).size = s.size + 4 := by rw [hT, strOfNums_size, List.length_set, bytesOf_length, hz]
  have u2 := implUnsealed_ev (turnedT (sealOf s) p) (by omega)
  have k1 := implSumOf_ev s (by omega)
  have k2 := implSum_ev (⟨#[120]⟩ : ByteArray) (show 1 ≤ 140737488351232 by decide) (crcOf s)
  have hz2 : (s ++ (⟨#[120]⟩ : ByteArray)).size = s.size + 1 := ba_append_size _ _
  have k3 := implSumOf_ev (s ++ (⟨#[120]⟩ : ByteArray)) (by omega)
  rw [crc_more] at k3
  exact Ex.go u2 (Ex.pos hU (Ex.go k1 (Ex.go k2 (Ex.go k3 (Ex.pos rfl (Ex.now rfl))))))

end Go.Proofs.Ytgepaoikhfofmaa.Pure.FnTurned
namespace Go.Proofs.Ytgepaoikhfofmaa.Pure
theorem FnTurned : Go.Proofs.Ytgepaoikhfofmaa.PFnTurned.laws_FnTurned.Pure := Go.Proofs.Ytgepaoikhfofmaa.Pure.FnTurned.FnTurned
end Go.Proofs.Ytgepaoikhfofmaa.Pure
