/- a drawn number comes back from VarText and from Decimal, a drawn text from ShortText and Hex. -/
import Derived.Test.YtgepaoikhfofmacDoorPFnNumbersx4
import Derived.OpenShut
import Derived.Laws.BitsLemmas
import Derived.Laws.Strings
import Derived.Lib.ItoaNum
import Derived.Lib.AtoiTie
namespace Go.Proofs.YtgepaoikhfofmacDoor.Pure.FnNumbers
open Go Go.RowKit Go.Proofs.YtgepaoikhfofmacDoor.PFnNumbers Go.Proofs.YtgepaoikhfofmacDoorW.PrintWords Go.Proofs.YtgepaoikhfofmacDoorW.PrintLast Go.Proofs.YtgepaoikhfofmacDoorW.PrintMore
set_option linter.unusedVariables false
set_option linter.unusedSimpArgs false

theorem w64 {x : Int} (h0 : -9223372036854775808 ≤ x) (h1 : x ≤ 9223372036854775807) : wrap64 x = x := by unfold wrap64; omega

theorem wraps64 (n : Int) (h0 : 0 ≤ n) (h1 : n < 2 ^ 63) : IntKind.i64.wrap n = n := by rw [IntKind.wrap_i64]; omega

theorem wraps32 (n : Int) (h0 : 0 ≤ n) (h1 : n < 2 ^ 32) : IntKind.u32.wrap n = n := by rw [IntKind.wrap_u32]; omega

theorem and255 (x : Int) (h0 : 0 ≤ x) (h1 : x < 9223372036854775808) : Go.bits .and .i64 x 255 = x % 256 :=
  bits_mask .i64 63 (by decide) wraps64 8 (by decide) x h0 (by omega)

theorem mask32 (x : Int) (h0 : 0 ≤ x) (h1 : x < 9223372036854775808) : Go.bits .and .i64 x 4294967295 = x % 4294967296 :=
  bits_mask .i64 63 (by decide) wraps64 32 (by decide) x h0 (by omega)

theorem tdiv_nn {a : Int} (b : Int) (h : 0 ≤ a) : Int.tdiv a b = a / b := Int.tdiv_eq_ediv_of_nonneg h

theorem tmod_nn {a : Int} (b : Int) (h : 0 ≤ a) : Int.tmod a b = a % b := Int.tmod_eq_emod_of_nonneg h

theorem bt_nn (s : ByteArray) (i : Int) : 0 ≤ bt s i := (bt_range s i).1

theorem bt_le (s : ByteArray) (i : Int) : bt s i ≤ 255 := (bt_range s i).2

theorem xor_bits (k : IntKind) (j : Nat) (hj : j ≤ k.bits) (hk : ∀ n : Int, 0 ≤ n → n < 2 ^ j → k.wrap n = n) (a b : Nat) (ha : a < 2 ^ j) (hb : b < 2 ^ j) :
    Go.bits .xor k a b = ((a ^^^ b : Nat) : Int) := by
  have hp : 2 ^ j ≤ 2 ^ k.bits := Nat.pow_le_pow_right (by decide) hj
  have ha' : a % 2 ^ k.bits = a := Nat.mod_eq_of_lt (Nat.lt_of_lt_of_le ha hp)
  have hb' : b % 2 ^ k.bits = b := Nat.mod_eq_of_lt (Nat.lt_of_lt_of_le hb hp)
  simp only [Go.bits, BitVec.ofInt_natCast, BitVec.toNat_xor, BitVec.toNat_ofNat, ha', hb']
  exact hk _ (Int.natCast_nonneg _) (by exact_mod_cast Nat.xor_lt_two_pow ha hb)

def X (a b : Int) : Int := ((a.toNat ^^^ b.toNat : Nat) : Int)
def A (a b : Int) : Int := ((a.toNat &&& b.toNat : Nat) : Int)
def In32 (x : Int) : Prop := 0 ≤ x ∧ x ≤ 4294967295

theorem X_in {a b : Int} (ha : In32 a) (hb : In32 b) : In32 (X a b) := by
  unfold In32 at *
  have h := Nat.xor_lt_two_pow (x := a.toNat) (y := b.toNat) (n := 32) (by omega) (by omega)
  unfold X
  omega

theorem A_in {a b : Int} (ha : In32 a) (hb : In32 b) : In32 (A a b) := by
  unfold In32 at *
  have h : a.toNat &&& b.toNat < 2 ^ 32 := Nat.and_lt_two_pow _ (by omega)
  unfold A
  omega

theorem xor64 {a b : Int} (ha : In32 a) (hb : In32 b) : Go.bits .xor .i64 a b = X a b := by
  unfold In32 at *
  have h := xor_bits .i64 63 (by decide) wraps64 a.toNat b.toNat (by omega) (by omega)
  rw [Int.toNat_of_nonneg ha.1, Int.toNat_of_nonneg hb.1] at h
  exact h

theorem xor32 {a b : Int} (ha : In32 a) (hb : In32 b) : Go.bits .xor .u32 a b = X a b := by
  unfold In32 at *
  have h := xor_bits .u32 32 (by decide) wraps32 a.toNat b.toNat (by omega) (by omega)
  rw [Int.toNat_of_nonneg ha.1, Int.toNat_of_nonneg hb.1] at h
  exact h

theorem and64 {a b : Int} (ha : In32 a) (hb : In32 b) : Go.bits .and .i64 a b = A a b := by
  unfold In32 at *
  have h := (bits_nat .i64 63 (by decide) wraps64 a.toNat b.toNat (by omega) (by omega)).1
  rw [Int.toNat_of_nonneg ha.1, Int.toNat_of_nonneg hb.1] at h
  exact h

theorem and32 {a b : Int} (ha : In32 a) (hb : In32 b) : Go.bits .and .u32 a b = A a b := by
  unfold In32 at *
  have h := (bits_nat .u32 32 (by decide) wraps32 a.toNat b.toNat (by omega) (by omega)).1
  rw [Int.toNat_of_nonneg ha.1, Int.toNat_of_nonneg hb.1] at h
  exact h

theorem or_comm64 {a b : Int} (ha : 0 ≤ a ∧ a < 2 ^ 63) (hb : 0 ≤ b ∧ b < 2 ^ 63) : Go.bits .or .i64 a b = Go.bits .or .i64 b a := by
  have h1 := (bits_nat .i64 63 (by decide) wraps64 a.toNat b.toNat (by omega) (by omega)).2
  have h2 := (bits_nat .i64 63 (by decide) wraps64 b.toNat a.toNat (by omega) (by omega)).2
  rw [Int.toNat_of_nonneg ha.1, Int.toNat_of_nonneg hb.1] at h1 h2
  rw [h1, h2, Nat.or_comm]

theorem not64 {a : Int} (ha : In32 a) : Go.bits .xor .i64 4294967295 a = 4294967295 - a := by
  have hc := ha
  unfold In32 at ha
  rw [xor64 (by unfold In32; omega) hc]
  unfold X
  have e : ∀ n : Nat, n < 2 ^ 32 → (2 ^ 32 - 1) ^^^ n = 2 ^ 32 - (n + 1) := by
    intro n hn
    apply Nat.eq_of_testBit_eq
    intro i
    rw [Nat.testBit_xor, Nat.testBit_two_pow_sub_one, Nat.testBit_two_pow_sub_succ hn]
    by_cases hi : i < 32
    · simp [hi]
    · have : n.testBit i = false := Nat.testBit_lt_two_pow (Nat.lt_of_lt_of_le hn (Nat.pow_le_pow_right (by decide) (by omega)))
      simp [hi, this]
  have h := e a.toNat (by omega)
  have e2 : (4294967295 : Int).toNat = 2 ^ 32 - 1 := by decide
  rw [e2, h]
  omega

def rot (x p q : Int) : Int := x / p + x % p * q

theorem rot_parts {x p q : Int} (hx : In32 x) (hp : 0 < p) (hq : 0 < q) (hpq : p * q = 4294967296) : 0 ≤ x / p ∧ x / p < q ∧ 0 ≤ x % p * q ∧ x % p * q ≤ 4294967296 - q := by
  unfold In32 at hx
  refine ⟨Int.ediv_nonneg hx.1 (by omega), Int.ediv_lt_of_lt_mul hp (by rw [Int.mul_comm, hpq]; omega), Int.mul_nonneg (Int.emod_nonneg _ (by omega)) (by omega), ?_⟩
  have h := Int.mul_le_mul_of_nonneg_right (Int.le_sub_one_of_lt (Int.emod_lt_of_pos x hp)) (show 0 ≤ q by omega)
  have e : (p - 1) * q = p * q - q := by rw [Int.sub_mul, Int.one_mul]
  omega

theorem rot_in {x p q : Int} (hx : In32 x) (hp : 0 < p) (hq : 0 < q) (hpq : p * q = 4294967296) : In32 (rot x p q) := by
  have := rot_parts hx hp hq hpq
  unfold In32 rot
  omega


theorem ba_ext {a b : ByteArray} (h : a.data.toList = b.data.toList) : a = b := by
  cases a; cases b
  congr 1
  exact Array.toList_inj.mp h

theorem ba_data_append (a b : ByteArray) : (a ++ b).data.toList = a.data.toList ++ b.data.toList := by
  rw [ByteArray.data_append, Array.toList_append]

theorem ba_size (a : ByteArray) : a.data.toList.length = a.size := data_length a

theorem ba_append_size (a b : ByteArray) : (a ++ b).size = a.size + b.size := ByteArray.size_append

theorem strOf_append (a b : List Int) : strOfNums a ++ strOfNums b = strOfNums (a ++ b) := by
  apply ba_ext
  rw [ba_data_append, strOfNums_data, strOfNums_data, strOfNums_data, List.map_append]

def Bytes (xs : List Int) : Prop := ∀ x ∈ xs, 0 ≤ x ∧ x ≤ 255

theorem bytesOf_bytes (s : ByteArray) : Bytes (bytesOf s) := by
  intro x hx
  unfold bytesOf at hx
  obtain ⟨b, _, rfl⟩ := List.mem_map.mp hx
  have := b.toNat_lt
  omega

theorem bytesOf_strOf {xs : List Int} (h : Bytes xs) : bytesOf (strOfNums xs) = xs := by
  unfold bytesOf
  rw [strOfNums_data, List.map_map]
  conv => rhs; rw [← List.map_id xs]
  apply List.map_congr_left
  intro x hx
  have := h x hx
  simp only [Function.comp, id]
  rw [UInt8.toNat_ofNat_of_lt' (by simp [UInt8.size]; omega)]
  omega

theorem strOf_bytesOf (s : ByteArray) : strOfNums (bytesOf s) = s := by
  apply ba_ext
  rw [strOfNums_data]
  unfold bytesOf
  rw [List.map_map]
  conv => rhs; rw [← List.map_id s.data.toList]
  apply List.map_congr_left
  intro x _
  simp

theorem bytesOf_append (a b : ByteArray) : bytesOf (a ++ b) = bytesOf a ++ bytesOf b := by
  unfold bytesOf
  rw [ba_data_append, List.map_append]

theorem bytesOf_inj {a b : ByteArray} (h : bytesOf a = bytesOf b) : a = b := by
  rw [← strOf_bytesOf a, h, strOf_bytesOf]

theorem ba_toList (a : ByteArray) : a.toList = a.data.toList := by
  exact ByteArray.toList_eq a

theorem toList_inj {a b : ByteArray} (h : a.toList = b.toList) : a = b := by
  rw [ba_toList, ba_toList] at h
  exact ba_ext h

theorem bytesOf_extract (s : ByteArray) (i j : Nat) : bytesOf (s.extract i j) = ((bytesOf s).take j).drop i := by
  unfold bytesOf
  rw [ByteArray.data_extract, Array.toList_extract]
  simp [List.extract_eq_take_drop, List.drop_take, List.map_take, List.map_drop]

theorem bt_bytesOf (s : ByteArray) (i : Int) : bt s i = rd (bytesOf s) i := (rd_bytesOf s i).symm

theorem bt_strOf {xs : List Int} (h : Bytes xs) (i : Int) : bt (strOfNums xs) i = rd xs i := by
  rw [bt_bytesOf, bytesOf_strOf h]

theorem rd_pre (pre : List Int) (x : Int) (post : List Int) : rd (pre ++ x :: post) (pre.length : Int) = x := by
  unfold rd
  simp

def Ex {α : Type} (g : Nat → Option α) (P : α → Prop) : Prop := ∃ r, Ev g r ∧ P r

theorem Ex.mono {α : Type} {g : Nat → Option α} {P Q : α → Prop} (h : Ex g P) (hq : ∀ a, P a → Q a) : Ex g Q := by
  obtain ⟨r, h1, h2⟩ := h
  exact ⟨r, h1, hq r h2⟩
theorem Ex.bind {α β : Type} {g : Nat → Option α} {f : Nat → α → Option β} {P : α → Prop} {Q : β → Prop} (h : Ex g P) (k : ∀ a, P a → Ex (fun n => f n a) Q) : Ex (fun n => (g n).bind (f n)) Q := by
  obtain ⟨a, h1, h2⟩ := h
  obtain ⟨r, h3, h4⟩ := k a h2
  exact ⟨r, h1.bind h3, h4⟩
theorem Ex.ev {α : Type} {g : Nat → Option α} {r : α} {P : α → Prop} (h : Ev g r) (hp : P r) : Ex g P := ⟨r, h, hp⟩
theorem Ex.now {α : Type} {r : α} {P : α → Prop} (hp : P r) : Ex (fun _ => some r) P := ⟨r, Ev.now r, hp⟩
theorem Ex.eq {α : Type} {o : Option α} {r : α} {P : α → Prop} (h : o = some r) (hp : P r) : Ex (fun _ => o) P := by
  subst h
  exact Ex.now hp
theorem Ex.step {α : Type} {g f : Nat → Option α} {P : α → Prop} (h : ∀ k, g (k + 1) = f k) (k : Ex f P) : Ex g P := by
  obtain ⟨r, h1, h2⟩ := k
  exact ⟨r, h1.step h, h2⟩
theorem Ex.shift {α : Type} {g : Nat → Option α} {P : α → Prop} (k : Ex (fun n => g (n + 1)) P) : Ex g P := Ex.step (f := fun n => g (n + 1)) (fun _ => rfl) k
theorem Ex.ite {α : Type} {c : Prop} [Decidable c] {f g : Nat → Option α} {P : α → Prop} (h1 : c → Ex f P) (h2 : ¬ c → Ex g P) : Ex (fun k => if c then f k else g k) P := by
  by_cases h : c
  · simp only [if_pos h]
    exact h1 h
  · simp only [if_neg h]
    exact h2 h
theorem Ex.pos {α : Type} {c : Prop} [Decidable c] {f g : Nat → Option α} {P : α → Prop} (h : c) (h1 : Ex f P) : Ex (fun k => if c then f k else g k) P := by
  simp only [if_pos h]
  exact h1
theorem Ex.neg {α : Type} {c : Prop} [Decidable c] {f g : Nat → Option α} {P : α → Prop} (h : ¬ c) (h1 : Ex g P) : Ex (fun k => if c then f k else g k) P := by
  simp only [if_neg h]
  exact h1

theorem and255_range (x : Int) : 0 ≤ Go.bits .and .i64 x 255 ∧ Go.bits .and .i64 x 255 ≤ 255 := by
  have h : ((BitVec.ofInt IntKind.i64.bits x &&& BitVec.ofInt IntKind.i64.bits 255).toNat) ≤ 255 := by
    rw [BitVec.toNat_and]
    exact Nat.le_trans Nat.and_le_right (by decide)
  have e : Go.bits .and .i64 x 255 = IntKind.i64.wrap ((BitVec.ofInt IntKind.i64.bits x &&& BitVec.ofInt IntKind.i64.bits 255).toNat : Int) := rfl
  rw [e, wraps64 _ (by omega) (by omega)]
  omega

/-- A cursor's place. -/
def Pl (i : Int) : Prop := 0 ≤ i ∧ i ≤ 4611686018427387904

theorem l01Byte_ex (l : List Int) (i h : Int) (hl : l.length ≤ 4000000) (hi : Pl i) : ∃ v i' h', spec_l01Byte.f l i h = some (v, i', h') ∧ (0 ≤ v ∧ v ≤ 255) ∧ Pl i' := by
  unfold Pl at *
  unfold spec_l01Byte.f
  by_cases hc : i < (l.length : Int)
  · rw [if_pos hc, if_pos hi.1]
    exact ⟨_, _, _, rfl, and255_range _, by rw [w64 (by omega) (by omega)]; omega⟩
  · rw [if_neg hc]
    exact ⟨_, _, _, rfl, and255_range _, hi⟩

theorem l01Below_ex (l : List Int) (i h n : Int) (hl : l.length ≤ 4000000) (hi : Pl i) : ∃ v i' h', spec_l01Below.f l i h n = some (v, i', h') ∧ (0 ≤ v ∧ (v < n ∨ v = 0)) ∧ Pl i' := by
  unfold spec_l01Below.f
  by_cases h0 : n ≤ 0
  · rw [if_pos h0]
    exact ⟨_, _, _, rfl, by omega, hi⟩
  rw [if_neg h0]
  by_cases h1 : n ≤ 256
  · obtain ⟨v, i1, h1', e, hv, hi1⟩ := l01Byte_ex l i h hl hi
    rw [if_pos h1, e, Option.bind_some, if_neg (by omega)]
    refine ⟨_, _, _, rfl, ?_, hi1⟩
    simp only
    rw [tmod_nn _ hv.1]
    have := Int.emod_nonneg v (show n ≠ 0 by omega)
    have := Int.emod_lt_of_pos v (show 0 < n by omega)
    omega
  · obtain ⟨v1, i1, g1, e1, hv1, hi1⟩ := l01Byte_ex l i h hl hi
    obtain ⟨v2, i2, g2, e2, hv2, hi2⟩ := l01Byte_ex l i1 g1 hl hi1
    obtain ⟨v3, i3, g3, e3, hv3, hi3⟩ := l01Byte_ex l i2 g2 hl hi2
    obtain ⟨v4, i4, g4, e4, hv4, hi4⟩ := l01Byte_ex l i3 g3 hl hi3
    rw [if_neg h1, e1, Option.bind_some, e2, Option.bind_some, e3, Option.bind_some, e4, Option.bind_some, if_neg (by omega)]
    refine ⟨_, _, _, rfl, ?_, hi4⟩
    simp only
    rw [w64 (x := v1 * 16777216) (by omega) (by omega), w64 (x := v2 * 65536) (by omega) (by omega), w64 (x := v3 * 256) (by omega) (by omega), w64 (x := v1 * 16777216 + v2 * 65536) (by omega) (by omega), w64 (x := v1 * 16777216 + v2 * 65536 + v3 * 256) (by omega) (by omega), w64 (by omega) (by omega), tmod_nn _ (by omega)]
    have := Int.emod_nonneg (v1 * 16777216 + v2 * 65536 + v3 * 256 + v4) (show n ≠ 0 by omega)
    have := Int.emod_lt_of_pos (v1 * 16777216 + v2 * 65536 + v3 * 256 + v4) (show 0 < n by omega)
    omega

theorem l01Once_ex (l : List Int) (i h n : Int) (hl : l.length ≤ 4000000) (hi : Pl i) : ∃ v i' h', spec_l01Once.f l i h n = some (v, i', h') ∧ Pl i' := by
  obtain ⟨v, i1, h1, e, hv, hi1⟩ := l01Below_ex l i h n hl hi
  unfold spec_l01Once.f
  rw [e, Option.bind_some]
  exact ⟨_, _, _, rfl, hi1⟩

theorem l01PickInt_ex (l : List Int) (i h : Int) (xs : List Int) (hx : 0 < xs.length) (hl : l.length ≤ 4000000) (hi : Pl i) : ∃ v i' h', spec_l01PickInt.f l i h xs = some (v, i', h') ∧ v ∈ xs ∧ Pl i' := by
  obtain ⟨v, i1, h1, e, hv, hi1⟩ := l01Below_ex l i h xs.length hl hi
  unfold spec_l01PickInt.f
  rw [e, Option.bind_some, if_pos hv.1, if_pos (by show v < (xs.length : Int); omega)]
  refine ⟨_, _, _, rfl, ?_, hi1⟩
  simp only
  have hn : v.toNat < xs.length := by omega
  unfold rd
  rw [List.getD_eq_getElem?_getD, List.getElem?_eq_getElem hn]
  exact List.getElem_mem hn

theorem l01Text_l0 (n : Int) (l : List Int) (hl : l.length ≤ 4000000) (hn : n ≤ 5000) : ∀ (m : Nat) (out : List Int) (q i h : Int), Pl i → 0 ≤ q → n ≤ q + m → out.length = q.toNat → q ≤ 5000 → Ex (fun k => spec_l01Text.l0 k n out q l i h) (fun r => r.1.size = max out.length n.toNat ∧ Pl r.2.1)
  | 0, out, q, i, h, hi, hq, hm, ho, hq5 => by
    refine Ex.step (f := fun _ => some (strOfNums out, i, h)) (fun k => ?_) (Ex.now ⟨?_, hi⟩)
    · rw [spec_l01Text.l0, if_neg (by omega)]
    · simp only
      rw [strOfNums_size]
      omega
  | m + 1, out, q, i, h, hi, hq, hm, ho, hq5 => by
    by_cases hc : q < n
    · obtain ⟨v, i1, h1, e, hv, hi1⟩ := l01Byte_ex l i h hl hi
      refine Ex.step (f := fun k => spec_l01Text.l0 k n (out ++ [v % 256]) (q + 1) l i1 h1) (fun k => ?_) ?_
      · rw [spec_l01Text.l0, if_pos hc, e, Option.bind_some, if_pos (by omega), w64 (by omega) (by omega)]
      · refine (l01Text_l0 n l hl hn m (out ++ [v % 256]) (q + 1) i1 h1 hi1 (by omega) (by omega) (by simp; omega) (by omega)).mono (fun r hr => ⟨?_, hr.2⟩)
        rw [hr.1, List.length_append]
        simp only [List.length_singleton]
        omega
    · refine Ex.step (f := fun _ => some (strOfNums out, i, h)) (fun k => ?_) (Ex.now ⟨?_, hi⟩)
      · rw [spec_l01Text.l0, if_neg hc]
      · simp only
        rw [strOfNums_size]
        omega

theorem l01Text_ex (l : List Int) (i h n : Int) (hl : l.length ≤ 4000000) (hi : Pl i) : Ex (fun k => spec_l01Text.f k l i h n) (fun r => r.1.size ≤ 5000 ∧ (r.1.size : Int) ≤ max n 0 ∧ Pl r.2.1) := by
  have key : ∀ n : Int, n ≤ 5000 → Ex (fun k => spec_l01Text.j0 k n l i h) (fun r => r.1.size = n.toNat ∧ Pl r.2.1) := by
    intro n hn
    refine Ex.step (f := fun k => spec_l01Text.l0 k n [] 0 l i h) (fun k => by rw [spec_l01Text.j0]) ?_
    refine (l01Text_l0 n l hl hn n.toNat [] 0 i h hi (by omega) (by omega) rfl (by omega)).mono (fun r hr => ⟨?_, hr.2⟩)
    rw [hr.1]
    simp
  unfold spec_l01Text.f
  refine Ex.ite (fun hc => (key 5000 (by omega)).mono (fun r hr => ⟨?_, ?_, hr.2⟩)) (fun hc => (key n (by omega)).mono (fun r hr => ⟨?_, ?_, hr.2⟩))
  · rw [hr.1]; omega
  · rw [hr.1]; omega
  · rw [hr.1]; omega
  · rw [hr.1]; omega

theorem l01Long_l0 (n x : Int) : ∀ (m : Nat) (xs : List Int) (i : Int), 0 ≤ i → i + m = n → xs.length = n.toNat → n ≤ 4611686018427387904 → Ex (fun k => spec_l01Long.l0 k n x xs i) (fun r => r.size = n.toNat)
  | 0, xs, i, h0, hm, hx, hn => by
    refine Ex.step (f := fun _ => some (strOfNums xs)) (fun k => ?_) (Ex.now (by rw [strOfNums_size, hx]))
    rw [spec_l01Long.l0, if_neg (by omega)]
  | m + 1, xs, i, h0, hm, hx, hn => by
    refine Ex.step (f := fun k => spec_l01Long.l0 k n x (xs.set i.toNat x) (i + 1)) (fun k => ?_) ?_
    · rw [spec_l01Long.l0, if_pos (by omega), if_pos h0, if_pos (by omega), w64 (by omega) (by omega)]
    · exact l01Long_l0 n x m _ (i + 1) (by omega) (by omega) (by rw [List.length_set]; exact hx) hn

theorem l01Long_ex (n x : Int) (h0 : 0 ≤ n) (h1 : n ≤ 1000000) : Ex (fun k => spec_l01Long.f k n x) (fun r => (r.size : Int) = n) := by
  unfold spec_l01Long.f
  refine Ex.pos h0 (Ex.pos (by omega) ((l01Long_l0 n x n.toNat _ 0 (by omega) (by omega) (by rw [List.length_replicate]) (by omega)).mono (fun r hr => ?_)))
  omega

theorem l01New_l0 (l : List Int) : ∀ (m : Nat) (h i : Int), 0 ≤ i → 4000 ≤ i + m → i ≤ 4000 → Ex (fun k => spec_l01New.l0 k l h i) (fun r => r.1 = l ∧ Pl r.2.1)
  | 0, h, i, h0, hm, h4 => by
    have hp : Pl 0 := by unfold Pl; omega
    refine Ex.step (f := fun _ => some (l, 0, h)) (fun k => ?_) (Ex.now ⟨rfl, hp⟩)
    rw [spec_l01New.l0]
    by_cases hc : i < (l.length : Int)
    · rw [if_pos hc, if_neg (by omega)]
    · rw [if_neg hc]
  | m + 1, h, i, h0, hm, h4 => by
    have hp : Pl 0 := by unfold Pl; omega
    by_cases hc : i < (l.length : Int) ∧ i < 4000
    · refine Ex.step (f := fun k => spec_l01New.l0 k l (Go.bits .and .i64 (wrap64 ((wrap64 ((wrap64 (h * 131)) + (wrap64 (rd l i)))) + 7)) 1073741823) (i + 1)) (fun k => ?_) ?_
      · rw [spec_l01New.l0, if_pos hc.1, if_pos hc.2, if_pos h0, w64 (x := i + 1) (by omega) (by omega)]
      · exact l01New_l0 l m _ (i + 1) (by omega) (by omega) (by omega)
    · refine Ex.step (f := fun _ => some (l, 0, h)) (fun k => ?_) (Ex.now ⟨rfl, hp⟩)
      rw [spec_l01New.l0]
      by_cases hc1 : i < (l.length : Int)
      · rw [if_pos hc1, if_neg (fun q => hc ⟨hc1, q⟩)]
      · rw [if_neg hc1]

theorem l01New_ex (l : List Int) : Ex (fun k => spec_l01New.f k l) (fun r => r.1 = l ∧ Pl r.2.1) := by
  unfold spec_l01New.f
  exact l01New_l0 l 4000 _ 0 (by omega) (by omega) (by omega)


theorem Ex.go {α β : Type} {g : Nat → Option α} {f : Nat → α → Option β} {a : α} {Q : β → Prop} (h : Ev g a) (k : Ex (fun n => f n a) Q) : Ex (fun n => (g n).bind (f n)) Q :=
  Ex.bind (Ex.ev (P := fun q => q = a) h rfl) (fun q hq => by subst hq; exact k)
theorem Ex.have_ {α β : Type} {o : Option α} {f : Nat → α → Option β} {a : α} {Q : β → Prop} (h : o = some a) (k : Ex (fun n => f n a) Q) : Ex (fun n => o.bind (f n)) Q := by
  subst h
  exact k
theorem Ex.fin {g : Nat → Option Bool} (h : Ex g (fun r => r = true)) : ∃ k, g k = some true := by
  obtain ⟨r, ⟨K, hr⟩, rfl⟩ := h
  exact ⟨K, hr K (Nat.le_refl K)⟩
theorem Ex.toEv {α : Type} {g : Nat → Option α} {v : α} (h : Ex g (fun r => r = v)) : Ev g v := by
  obtain ⟨r, hr, rfl⟩ := h
  exact hr

theorem sameList (a b : ByteArray) : (a.toList == b.toList) = decide (a = b) := by
  by_cases h : a = b
  · rw [h, beq_self_eq_true, decide_eq_true rfl]
  · rw [decide_eq_false h]
    exact beq_eq_false_iff_ne.mpr (fun q => h (toList_inj q))

def digs (u : Nat) : List UInt8 := if u = 0 then [] else Lib.decDigits u

theorem digs_step (u : Nat) (h : u ≠ 0) : digs u = digs (u / 10) ++ [UInt8.ofNat (48 + u % 10)] := by
  unfold digs
  rw [if_neg h, Lib.decDigits]
  by_cases h10 : u < 10
  · rw [dif_pos h10, if_pos (show u / 10 = 0 by omega), show u % 10 = u by omega]
    rfl
  · rw [dif_neg h10, if_neg (show ¬ u / 10 = 0 by omega)]

def asB (l : List UInt8) : ByteArray := ⟨l.toArray⟩

theorem asB_append (a b : List UInt8) : asB a ++ asB b = asB (a ++ b) := by
  apply ba_ext
  rw [ba_data_append]
  simp [asB]

theorem asB_size (a : List UInt8) : (asB a).size = a.length := by
  unfold asB
  show (a.toArray).size = _
  simp

theorem asB_self (s : ByteArray) : asB s.data.toList = s := by
  apply ba_ext
  simp [asB]

theorem bt_data (s : ByteArray) (i : Nat) (h : i < s.size) : bt s (i : Int) = ((s.data.toList[i]'(by rw [ba_size]; exact h)).toNat : Int) := by
  unfold bt
  rw [dif_pos (by simpa using h)]
  rfl

theorem asB_one (d : Nat) (h : d ≤ 9) : strOfNums [(48 : Int) + (d : Int)] = asB [UInt8.ofNat (48 + d)] := by
  apply ba_ext
  rw [strOfNums_data]
  simp only [asB, List.map_cons, List.map_nil]
  congr 2

theorem itoa_len (n : Int) (h0 : -9223372036854775808 ≤ n) (h1 : n ≤ 9223372036854775807) : (asB (Lib.itoa n)).size ≤ 100 := by
  rw [asB_size]
  have hd : ∀ (m u : Nat), u < 10 ^ (m + 1) → (Lib.decDigits u).length ≤ m + 1 := by
    intro m
    induction m with
    | zero =>
      intro u hu
      rw [Lib.decDigits, dif_pos (by simpa using hu)]
      simp
    | succ m ih =>
      intro u hu
      rw [Lib.decDigits]
      by_cases h : u < 10
      · rw [dif_pos h]
        simp
      · rw [dif_neg h, List.length_append]
        have : (10 : Nat) ^ (m + 1 + 1) = 10 ^ (m + 1) * 10 := Nat.pow_succ _ _
        have := ih (u / 10) (by omega)
        simp only [List.length_singleton]
        omega
  unfold Lib.itoa
  split
  · have := hd 19 n.natAbs (by omega)
    simp only [List.length_cons]
    omega
  · have := hd 19 n.toNat (by omega)
    omega

theorem decFrom_snoc : ∀ (l : List UInt8) (acc m d : Nat) (c : UInt8), Lib.decFrom acc l = some m → Lib.digitVal c = some d → Lib.decFrom acc (l ++ [c]) = some (m * 10 + d)
  | [], acc, m, d, c, h, hc => by
    simp only [Lib.decFrom, Option.some.injEq] at h
    subst h
    simp [Lib.decFrom, hc]
  | a :: r, acc, m, d, c, h, hc => by
    simp only [Lib.decFrom, List.cons_append] at h ⊢
    cases ha : Lib.digitVal a with
    | none => simp [ha] at h
    | some e =>
      simp only [ha] at h ⊢
      exact decFrom_snoc r _ m d c h hc

theorem digitVal_fig (d : Nat) (h : d ≤ 9) : Lib.digitVal (UInt8.ofNat (48 + d)) = some d := by
  have e : (UInt8.ofNat (48 + d)).toNat = 48 + d := by rw [UInt8.toNat_ofNat_of_lt' (by simp [UInt8.size]; omega)]
  unfold Lib.digitVal
  rw [e, if_pos (by omega)]
  congr 1
  omega

theorem decFrom_dec (u : Nat) : Lib.decFrom 0 (Lib.decDigits u) = some u := by
  induction u using Nat.strongRecOn with
  | _ u ih =>
    by_cases h : u < 10
    · rw [Lib.decDigits, dif_pos h]
      unfold Lib.decFrom
      rw [digitVal_fig u (by omega)]
      simp [Lib.decFrom]
    · rw [Lib.decDigits, dif_neg h, decFrom_snoc _ 0 _ _ _ (ih (u / 10) (by omega)) (digitVal_fig (u % 10) (by omega))]
      congr 1
      omega

theorem dec_len : ∀ (m u : Nat), u < 10 ^ (m + 1) → (Lib.decDigits u).length ≤ m + 1 := by
  intro m
  induction m with
  | zero =>
    intro u hu
    rw [Lib.decDigits, dif_pos (by simpa using hu)]
    simp
  | succ m ih =>
    intro u hu
    rw [Lib.decDigits]
    by_cases h : u < 10
    · rw [dif_pos h]
      simp
    · rw [dif_neg h, List.length_append]
      have : (10 : Nat) ^ (m + 1 + 1) = 10 ^ (m + 1) * 10 := Nat.pow_succ _ _
      have := ih (u / 10) (by omega)
      simp only [List.length_singleton]
      omega

theorem itoa_nat (u : Nat) : Lib.itoa (u : Int) = Lib.decDigits u := by
  unfold Lib.itoa
  rw [if_neg (by omega), Int.toNat_natCast]

theorem itoa_ten (v : Int) (h0 : 0 ≤ v) (h1 : v ≤ 1000000000) : (asB (Lib.itoa v)).size ≤ 10 := by
  obtain ⟨u, rfl⟩ := Int.eq_ofNat_of_zero_le h0
  rw [asB_size, itoa_nat]
  exact dec_len 9 u (by omega)

theorem atoi_dec (u : Nat) : Lib.atoi (Lib.decDigits u) = some (u : Int) := by
  have h := decFrom_dec u
  cases hl : Lib.decDigits u with
  | nil =>
    have := Lib.decDigits_length u
    have := Lib.nDigits_pos u
    rw [hl] at *
    simp at *
    omega
  | cons b r =>
    rw [hl] at h
    obtain ⟨d, hd⟩ := Lib.digit_of_decFrom _ 0 u h 0 b rfl
    have hb : 48 ≤ b.toNat := by
      unfold Lib.digitVal at hd
      split at hd
      · omega
      · cases hd
    have b1 : (b == 45) = false := beq_eq_false_iff_ne.mpr (by rintro rfl; simp at hb)
    have b2 : (b == 43) = false := beq_eq_false_iff_ne.mpr (by rintro rfl; simp at hb)
    unfold Lib.atoi
    simp only [b1, b2, Bool.false_eq_true, if_false]
    unfold Lib.decNat
    rw [if_neg (by simp), h]
    rfl

theorem atoiAll_itoa (v : Int) (h0 : 0 ≤ v) (h1 : v ≤ 1000000000) : Lib.atoiAll (Lib.itoa v) = .ok v := by
  have hs := itoa_ten v h0 h1
  rw [asB_size] at hs
  rw [Lib.atoiAll_short _ (by omega)]
  obtain ⟨u, rfl⟩ := Int.eq_ofNat_of_zero_le h0
  rw [itoa_nat, atoi_dec]
  rfl

/-- What a text tells as a number, at the reference's own words. -/
def Says (s : ByteArray) (v : Int) : Prop := (0 ≤ v ∧ v ≤ 1000000000) ∧ asB (Lib.itoa v) = s

theorem rdT_yes {s : ByteArray} {v : Int} (h : Says s v) : rdT s = (v, true) := by
  obtain ⟨h, rfl⟩ := h
  unfold rdT
  rw [show (asB (Lib.itoa v)).data.toList = Lib.itoa v from by simp [asB], atoiAll_itoa v h.1 h.2]
  simp only
  rw [if_pos h]
  exact if_pos rfl

theorem rdT_no {s : ByteArray} (h : ∀ v, ¬ Says s v) : rdT s = (0, false) := by
  unfold rdT
  cases hA : Lib.atoiAll s.data.toList
  · rename_i v
    simp only
    by_cases h1 : 0 ≤ v ∧ v ≤ 1000000000
    · rw [if_pos h1]
      exact if_neg (fun q => h v ⟨h1, q⟩)
    · rw [if_neg h1]
  · rfl
  · rfl

theorem implRd_eq (s : ByteArray) (h : s.size ≤ 140737488351232) : impl_ReadDecimal.f s = some (rdT s) := by
  unfold impl_ReadDecimal.f
  rw [if_pos (by omega)]


theorem within_eq (a b c : Int) : impl_within.f a b c = some (decide (b ≤ a ∧ a ≤ c)) := by
  unfold impl_within.f
  by_cases h : a ≥ b
  · rw [if_pos h]; congr 1; simp; omega
  · rw [if_neg h]; congr 1; simp; omega


def varF : Nat → Int → List Int
  | 0, n => [n % 256]
  | f + 1, n => if n > 127 then (n % 128 + 128) :: varF f (n / 128) else [n % 256]

theorem varF_length : ∀ (f : Nat) (n : Int), (varF f n).length ≤ f + 1
  | 0, n => by simp [varF]
  | f + 1, n => by
    unfold varF
    split
    · have := varF_length f (n / 128); simp; omega
    · simp

def varNums (n : Int) : List Int := varF 9 n

def varOf (n : Int) : ByteArray := strOfNums (varNums n)

theorem implVar_l0 : ∀ (f : Nat) (k : Nat) (n : Int) (acc : List Int), 0 ≤ n → n < 128 ^ (f + 1) → n ≤ 9223372036854775807 → acc.length + f < 140737488355328 → impl_VarText.l0 (k + f + 1) n acc = some (strOfNums (acc ++ varF f n), true)
  | 0, k, n, acc, h0, h1, h2, hl => by
    show impl_VarText.l0 (k + 1) n acc = _
    rw [impl_VarText.l0, if_neg (by omega), if_pos (by omega)]
    rfl
  | f + 1, k, n, acc, h0, h1, h2, hl => by
    show impl_VarText.l0 ((k + f + 1) + 1) n acc = _
    rw [impl_VarText.l0]
    by_cases h : n > 127
    · have hp : n / 128 < 128 ^ (f + 1) := by
        have : (128 : Int) ^ (f + 1 + 1) = 128 ^ (f + 1) * 128 := Int.pow_succ _ _
        omega
      rw [if_pos h, if_pos (by omega), tdiv_nn _ h0, tmod_nn _ h0, w64 (x := n / 128) (by omega) (by omega), w64 (x := n % 128 + 128) (by omega) (by omega), implVar_l0 f k _ _ (by omega) hp (by omega) (by simp; omega)]
      have e : (n % 128 + 128) % 256 = n % 128 + 128 := by omega
      rw [varF, if_pos h, e]
      simp
    · rw [if_neg h, if_pos (by omega), varF, if_neg h]

theorem implVarText_ev (n : Int) (h0 : 0 ≤ n) (h1 : n ≤ 1000000000) : Ev (fun k => impl_VarText.f k n) (varOf n, true) := by
  refine ⟨10, fun k hk => ?_⟩
  obtain ⟨m, rfl⟩ : ∃ m, k = m + 9 + 1 := ⟨k - 10, by omega⟩
  show impl_VarText.f (m + 9 + 1) n = _
  unfold impl_VarText.f
  rw [within_eq, decide_eq_true ⟨h0, h1⟩]
  exact implVar_l0 9 m n [] h0 (by omega) (by omega) (by simp)

theorem implVarText_no (n : Int) (h : ¬ (0 ≤ n ∧ n ≤ 1000000000)) (k : Nat) : impl_VarText.f k n = some (⟨#[]⟩, false) := by
  unfold impl_VarText.f
  rw [within_eq, decide_eq_false h]
  simp


def rvGo (t : ByteArray) (a : Int) : Nat → Nat → Int → Int × Int × Bool
  | 0, _, _ => (0, 0, false)
  | d + 1, j, n => if a + j < t.size then (if bt t (a + j) > 127 then rvGo t a d (j + 1) (n + bt t (a + j) % 128 * 128 ^ j) else (if (0 < j ∧ bt t (a + j) = 0) ∨ n + bt t (a + j) % 128 * 128 ^ j > 1000000000 then (0, 0, false) else (n + bt t (a + j) % 128 * 128 ^ j, a + j + 1, true))) else (0, 0, false)

def readVarM (t : ByteArray) (a : Int) : Int × Int × Bool := if 0 ≤ a ∧ a ≤ t.size then rvGo t a 5 0 0 else (0, 0, false)

theorem pow128 (j : Nat) (h : j ≤ 5) : (1 : Int) ≤ 128 ^ j ∧ (128 : Int) ^ j ≤ 34359738368 := by
  match j, h with
  | 0, _ => decide
  | 1, _ => decide
  | 2, _ => decide
  | 3, _ => decide
  | 4, _ => decide
  | 5, _ => decide

theorem shl7 (x : Int) (h0 : 0 ≤ x) (h1 : x ≤ 127) (j : Nat) (h : j ≤ 4) : shl .i64 x (7 * (j : Int)) = x * 128 ^ j := by
  unfold shl
  match j, h with
  | 0, _ => simp [IntKind.bits]; exact wraps64 _ (by omega) (by omega)
  | 1, _ => simp [IntKind.bits]; exact wraps64 _ (by omega) (by omega)
  | 2, _ => simp [IntKind.bits]; exact wraps64 _ (by omega) (by omega)
  | 3, _ => simp [IntKind.bits]; exact wraps64 _ (by omega) (by omega)
  | 4, _ => simp [IntKind.bits]; exact wraps64 _ (by omega) (by omega)

theorem step_bound {n b p : Int} (n0 : 0 ≤ n) (n1 : n < p) (b0 : 0 ≤ b) (p1 : 1 ≤ p) : 0 ≤ n + b % 128 * p ∧ n + b % 128 * p < p * 128 := by
  have h1 : 0 ≤ b % 128 * p := Int.mul_nonneg (by omega) (by omega)
  have h2 : b % 128 * p ≤ 127 * p := Int.mul_le_mul_of_nonneg_right (by omega) (by omega)
  omega

theorem implReadVar_l0 (t : ByteArray) (ht : t.size ≤ 140737488351232) (a : Int) (ha : 0 ≤ a) (ha' : a ≤ t.size) : ∀ (d j k : Nat) (n : Int), j + d = 5 → 0 ≤ n → n < 128 ^ j → impl_ReadVar.l0 (k + 2 * d + 2) t a n j = some (rvGo t a d j n)
  | 0, j, k, n, h, n0, n1 => by
    show impl_ReadVar.l0 (k + 1 + 1) t a n j = _
    rw [impl_ReadVar.l0, if_neg (by omega), impl_ReadVar.j1]
    simp [rvGo]
  | d + 1, j, k, n, h, n0, n1 => by
    have e : k + 2 * (d + 1) + 2 = (k + 2 * d + 2) + 1 + 1 := by omega
    have hp := pow128 j (by omega)
    rw [e, impl_ReadVar.l0, if_pos (by omega), impl_ReadVar.j1, w64 (x := a + j) (by omega) (by omega), w64 (x := 7 * (j : Int)) (by omega) (by omega)]
    unfold rvGo
    by_cases hlt : a + j < t.size
    · have hb := bt_range t (a + j)
      have hs := step_bound n0 n1 hb.1 hp.1
      rw [decide_eq_true hlt, if_pos rfl, if_pos (by omega), if_pos hlt, if_pos (by omega), if_pos hlt, w64 (x := bt t (a + j)) (by omega) (by omega), tmod_nn _ hb.1, shl7 _ (by omega) (by omega) j (by omega), w64 (x := n + bt t (a + j) % 128 * 128 ^ j) (by omega) (by omega)]
      by_cases hc : bt t (a + j) > 127
      · rw [if_pos hc, if_pos hc, w64 (x := (j : Int) + 1) (by omega) (by omega)]
        have e2 : (j : Int) + 1 = ((j + 1 : Nat) : Int) := by omega
        have e3 : (128 : Int) ^ (j + 1) = 128 ^ j * 128 := Int.pow_succ _ _
        rw [e2, implReadVar_l0 t ht a ha ha' d (j + 1) k _ (by omega) hs.1 (by omega)]
      · rw [if_neg hc, if_neg hc, w64 (x := a + j + 1) (by omega) (by omega)]
        by_cases hj : 0 < j
        · rw [if_pos (by omega)]
          by_cases hz : bt t (a + j) = 0
          · rw [if_pos hz, if_pos (Or.inl ⟨hj, hz⟩)]
          · rw [if_neg hz]
            by_cases hm : n + bt t (a + j) % 128 * 128 ^ j > 1000000000
            · rw [if_pos hm, if_pos (Or.inr hm)]
            · rw [if_neg hm, if_neg (fun hh => hh.elim (fun x => hz x.2) hm)]
        · rw [if_neg (by omega)]
          by_cases hm : n + bt t (a + j) % 128 * 128 ^ j > 1000000000
          · rw [if_pos hm, if_pos (Or.inr hm)]
          · rw [if_neg hm, if_neg (fun hh => hh.elim (fun x => hj x.1) hm)]
    · rw [decide_eq_false hlt, if_neg (by simp), if_neg hlt]

theorem implReadVar_ev (t : ByteArray) (ht : t.size ≤ 140737488351232) (a : Int) : Ev (fun k => impl_ReadVar.f k t a) (readVarM t a) := by
  refine ⟨12, fun k hk => ?_⟩
  show impl_ReadVar.f k t a = _
  unfold impl_ReadVar.f readVarM
  rw [within_eq]
  by_cases h : 0 ≤ a ∧ a ≤ (t.size : Int)
  · obtain ⟨m, rfl⟩ : ∃ m, k = m + 2 * 5 + 2 := ⟨k - 12, by omega⟩
    rw [decide_eq_true h, if_pos h]
    exact implReadVar_l0 t ht a h.1 h.2 5 0 m 0 (by omega) (by omega) (by decide)
  · rw [decide_eq_false h, if_neg h]
    rfl

def dec : List Int → Int
  | [] => 0
  | b :: bs => b % 128 + 128 * dec bs

theorem dec_snoc : ∀ (bs : List Int) (b : Int), dec (bs ++ [b]) = dec bs + b % 128 * 128 ^ bs.length
  | [], b => by simp [dec]
  | c :: bs, b => by
    rw [List.cons_append, dec, dec, dec_snoc bs b, List.length_cons, Int.pow_succ, Int.mul_add]
    have : 128 * (b % 128 * 128 ^ bs.length) = b % 128 * (128 ^ bs.length * 128) := by
      rw [Int.mul_comm 128, Int.mul_assoc]
    omega

theorem dec_nn : ∀ (bs : List Int), 0 ≤ dec bs
  | [] => by simp [dec]
  | b :: bs => by have := dec_nn bs; unfold dec; omega

theorem dec_lt : ∀ (bs : List Int), dec bs < 128 ^ bs.length
  | [] => by decide
  | b :: bs => by
    have := dec_lt bs
    rw [List.length_cons, Int.pow_succ]
    unfold dec
    omega

def Hi (bs : List Int) : Prop := ∀ x ∈ bs, 128 ≤ x ∧ x ≤ 255

theorem varF_dec : ∀ (bs : List Int) (b : Int) (f : Nat), Hi bs → 0 ≤ b → b ≤ 127 → (bs = [] ∨ b ≠ 0) → bs.length ≤ f → varF f (dec (bs ++ [b])) = bs ++ [b]
  | [], b, f, h, b0, b1, hz, hf => by
    have e : dec ([] ++ [b]) = b := by simp [dec]; omega
    rw [e]
    match f with
    | 0 => simp [varF]; omega
    | f + 1 => rw [varF, if_neg (by omega)]; simp; omega
  | c :: bs, b, f, h, b0, b1, hz, hf => by
    obtain ⟨g, rfl⟩ : ∃ g, f = g + 1 := ⟨f - 1, by simp at hf; omega⟩
    have hb : b ≠ 0 := hz.elim (fun x => by simp at x) id
    have hc := h c (by simp)
    have hd : 1 ≤ dec (bs ++ [b]) := by
      rw [dec_snoc]
      have h1 := dec_nn bs
      have h2 : (1 : Int) ≤ 128 ^ bs.length := by
        have := Int.pow_pos (n := 128) (m := bs.length) (by decide)
        omega
      have h3 : 1 * 1 ≤ b % 128 * 128 ^ bs.length := Int.mul_le_mul (by omega) h2 (by omega) (by omega)
      omega
    have hn := dec_nn (bs ++ [b])
    rw [List.cons_append, dec, varF, if_pos (by omega)]
    have e1 : (c % 128 + 128 * dec (bs ++ [b])) % 128 + 128 = c := by omega
    have e2 : (c % 128 + 128 * dec (bs ++ [b])) / 128 = dec (bs ++ [b]) := by omega
    rw [e1, e2, varF_dec bs b g (fun x hx => h x (by simp [hx])) b0 b1 (Or.inr hb) (by simp at hf; omega)]

theorem varF_short : ∀ (m f : Nat) (n : Int), 0 ≤ n → n < 128 ^ m → 1 ≤ m → (varF f n).length ≤ m
  | m, 0, n, h0, h1, hm => by simp [varF]; omega
  | m, f + 1, n, h0, h1, hm => by
    unfold varF
    by_cases h : n > 127
    · rw [if_pos h]
      obtain ⟨p, rfl⟩ : ∃ p, m = p + 1 := ⟨m - 1, by omega⟩
      have hp : 1 ≤ p := by
        rcases p with _ | p
        · simp at h1; omega
        · omega
      have e : (128 : Int) ^ (p + 1) = 128 ^ p * 128 := Int.pow_succ _ _
      have := varF_short p f (n / 128) (by omega) (by omega) hp
      simp
      omega
    · rw [if_neg h]; simp; omega

theorem varNums_eq {bs : List Int} {b : Int} (h : Hi bs) (b0 : 0 ≤ b) (b1 : b ≤ 127) (hl : bs.length ≤ 4) : varNums (dec (bs ++ [b])) = bs ++ [b] ↔ ¬ (0 < bs.length ∧ b = 0) := by
  unfold varNums
  constructor
  · intro he hh
    have hlen : (varF 9 (dec (bs ++ [b]))).length ≤ bs.length := by
      refine varF_short bs.length 9 _ (dec_nn _) ?_ hh.1
      rw [dec_snoc, hh.2]
      have := dec_lt bs
      simpa using this
    rw [he] at hlen
    simp at hlen
    omega
  · intro hn
    refine varF_dec bs b 9 h b0 b1 ?_ (by omega)
    by_cases hb : b = 0
    · left
      rcases bs with _ | ⟨c, bs⟩
      · rfl
      · exact absurd ⟨by simp, hb⟩ hn
    · exact Or.inr hb

theorem varF_bytes : ∀ (f : Nat) (n : Int), 0 ≤ n → Bytes (varF f n)
  | 0, n, h => by intro x hx; simp [varF] at hx; omega
  | f + 1, n, h => by
    intro x hx
    unfold varF at hx
    split at hx
    · simp only [List.mem_cons] at hx
      rcases hx with rfl | hx
      · omega
      · exact varF_bytes f (n / 128) (by omega) x hx
    · simp at hx; omega

theorem bytesOf_varOf {n : Int} (h : 0 ≤ n) : bytesOf (varOf n) = varNums n := by
  unfold varOf varNums
  exact bytesOf_strOf (varF_bytes 9 n h)

theorem seg_snoc (l : List Int) (a j : Nat) (h : a + j < l.length) : (l.take (a + j + 1)).drop a = (l.take (a + j)).drop a ++ [l.getD (a + j) 0] := by
  rw [List.take_succ_eq_append_getElem h, List.drop_append_of_le_length (by simp; omega)]
  simp [List.getD_eq_getElem?_getD, List.getElem?_eq_getElem h]


theorem rvGo_ok (t : ByteArray) (a : Int) : ∀ (d j : Nat) (n : Int), 0 ≤ n → (rvGo t a d j n).2.2 = true → 0 ≤ (rvGo t a d j n).1 ∧ (rvGo t a d j n).1 ≤ 1000000000 ∧ a < (rvGo t a d j n).2.1 ∧ (rvGo t a d j n).2.1 ≤ t.size
  | 0, j, n, h0, h => by simp [rvGo] at h
  | d + 1, j, n, h0, h => by
    have hb := bt_range t (a + j)
    have hp : 0 ≤ bt t (a + j) % 128 * 128 ^ j := Int.mul_nonneg (by omega) (Int.le_of_lt (Int.pow_pos (by decide)))
    unfold rvGo at h ⊢
    by_cases h1 : a + j < t.size
    · rw [if_pos h1] at h ⊢
      by_cases h2 : bt t (a + j) > 127
      · rw [if_pos h2] at h ⊢
        exact rvGo_ok t a d (j + 1) _ (by omega) h
      · rw [if_neg h2] at h ⊢
        by_cases h3 : (0 < j ∧ bt t (a + j) = 0) ∨ n + bt t (a + j) % 128 * 128 ^ j > 1000000000
        · rw [if_pos h3] at h
          simp at h
        · rw [if_neg h3]
          refine ⟨?_, ?_, ?_, ?_⟩
          · show 0 ≤ n + bt t (a + j) % 128 * 128 ^ j
            omega
          · show n + bt t (a + j) % 128 * 128 ^ j ≤ 1000000000
            have : ¬ n + bt t (a + j) % 128 * 128 ^ j > 1000000000 := fun x => h3 (Or.inr x)
            omega
          · show a < a + j + 1
            omega
          · show a + j + 1 ≤ t.size
            omega
    · rw [if_neg h1] at h
      simp at h

theorem readVar_ok (t : ByteArray) (a : Int) (h : (readVarM t a).2.2 = true) : 0 ≤ (readVarM t a).1 ∧ (readVarM t a).1 ≤ 1000000000 ∧ 0 ≤ (readVarM t a).2.1 ∧ (readVarM t a).2.1 ≤ t.size := by
  unfold readVarM at h ⊢
  by_cases h1 : 0 ≤ a ∧ a ≤ t.size
  · rw [if_pos h1] at h ⊢
    have := rvGo_ok t a 5 0 0 (by omega) h
    omega
  · rw [if_neg h1] at h
    simp at h

def readShortM (t : ByteArray) (a : Int) : ByteArray × Int × Bool :=
  if (readVarM t a).2.2 = true ∧ (readVarM t a).1 ≤ 20000 ∧ (readVarM t a).1 ≤ t.size - (readVarM t a).2.1 then (t.extract (readVarM t a).2.1.toNat ((readVarM t a).2.1 + (readVarM t a).1).toNat, (readVarM t a).2.1 + (readVarM t a).1, true) else (⟨#[]⟩, 0, false)

theorem implReadShort_ev (t : ByteArray) (ht : t.size ≤ 140737488351232) (a : Int) : Ev (fun k => impl_ReadShort.f k t a) (readShortM t a) := by
  obtain ⟨K, h1⟩ := implReadVar_ev t ht a
  refine ⟨K, fun k hk => ?_⟩
  have h1 := h1 k hk
  simp only at h1
  have hok := readVar_ok t a
  show impl_ReadShort.f k t a = _
  unfold impl_ReadShort.f readShortM
  rw [h1]
  simp only [Option.bind_some]
  generalize readVarM t a = r at *
  obtain ⟨n, m, b⟩ := r
  simp only at hok ⊢
  cases b
  · simp
  · have hok := hok rfl
    rw [if_pos rfl]
    by_cases h2 : n > 20000
    · rw [if_pos h2, if_neg (by omega)]
    · rw [if_neg h2, w64 (x := (t.size : Int) - m) (by omega) (by omega)]
      by_cases h3 : n > t.size - m
      · rw [if_pos h3, if_neg (by omega)]
      · rw [if_neg h3, w64 (x := m + n) (by omega) (by omega), if_pos (by omega), if_pos (by omega), if_pos (by omega), if_pos (by simp; omega)]


theorem varOf_size (n : Int) : (varOf n).size ≤ 10 := by
  unfold varOf varNums
  rw [strOfNums_size]
  have := varF_length 9 n
  omega

def shortOf (s : ByteArray) : ByteArray := varOf (s.size : Int) ++ s

theorem implShortText_ev (s : ByteArray) (h : s.size ≤ 20000) : Ev (fun k => impl_ShortText.f k s) (shortOf s, true) := by
  obtain ⟨K, h1⟩ := implVarText_ev (s.size : Int) (by omega) (by omega)
  refine ⟨K, fun k hk => ?_⟩
  have h1 := h1 k hk
  simp only at h1
  have hz := varOf_size (s.size : Int)
  show impl_ShortText.f k s = _
  unfold impl_ShortText.f
  rw [if_neg (by omega), h1]
  simp only [Option.bind_some]
  rw [if_pos (by omega)]
  rfl

theorem implShortText_no (s : ByteArray) (h : ¬ s.size ≤ 20000) (k : Nat) : impl_ShortText.f k s = some (⟨#[]⟩, false) := by
  unfold impl_ShortText.f
  rw [if_pos (by omega)]


def figOf (x : Int) : Int := if x < 10 then 48 + x else 87 + x

theorem figOf_range (x : Int) (h0 : 0 ≤ x) (h1 : x < 16) : 48 ≤ figOf x ∧ figOf x ≤ 102 := by unfold figOf; split <;> omega

def hexTab : ByteArray := ⟨#[48, 49, 50, 51, 52, 53, 54, 55, 56, 57, 97, 98, 99, 100, 101, 102]⟩

theorem hexTab_at (x : Int) (h0 : 0 ≤ x) (h1 : x < 16) : bt hexTab x = figOf x := by
  obtain ⟨n, rfl⟩ := Int.eq_ofNat_of_zero_le h0
  have hn : n < 16 := by omega
  have H : ∀ m : Fin 16, bt hexTab ((m.val : Nat) : Int) = figOf ((m.val : Nat) : Int) := by decide +kernel
  exact H ⟨n, hn⟩

def hexFrom (t : ByteArray) : Nat → Int → List Int
  | 0, _ => []
  | d + 1, i => figOf (bt t i / 16) :: figOf (bt t i % 16) :: hexFrom t d (i + 1)

theorem implHex_l0 (t : ByteArray) (ht : t.size ≤ 140737488351232) : ∀ (d : Nat) (k : Nat) (acc : List Int) (i : Int), 0 ≤ i → i + d = t.size → acc.length + 2 * d < 140737488355328 → impl_Hex.l0 (k + d + 1) t acc i = some (strOfNums (acc ++ hexFrom t d i), true)
  | 0, k, acc, i, h0, h, hl => by
    show impl_Hex.l0 (k + 1) t acc i = _
    rw [impl_Hex.l0, if_neg (by omega)]
    simp [hexFrom]
  | d + 1, k, acc, i, h0, h, hl => by
    show impl_Hex.l0 ((k + d + 1) + 1) t acc i = _
    have hb := bt_range t i
    rw [impl_Hex.l0, if_pos (by omega), if_pos h0, tdiv_nn _ hb.1, tmod_nn _ hb.1, if_pos (by omega), if_pos (by omega), if_pos (by omega), if_pos (by omega)]
    have e1 := hexTab_at (bt t i / 16 % 256) (by omega) (by omega)
    have e2 := hexTab_at (bt t i % 16) (by omega) (by omega)
    unfold hexTab at e1 e2
    rw [e1, e2]
    simp only [Option.bind_some, List.length_cons, List.length_nil]
    rw [if_pos (by omega), w64 (x := i + 1) (by omega) (by omega), implHex_l0 t ht d k _ (i + 1) (by omega) (by omega) (by simp; omega)]
    have e3 : bt t i / 16 % 256 = bt t i / 16 := by omega
    simp [hexFrom, e3]

def hexOf (t : ByteArray) : ByteArray := strOfNums (hexFrom t t.size 0)

theorem implHex_ev (t : ByteArray) (ht : t.size ≤ 20000) : Ev (fun k => impl_Hex.f k t) (hexOf t, true) := by
  refine ⟨t.size + 1, fun k hk => ?_⟩
  obtain ⟨m, rfl⟩ : ∃ m, k = m + t.size + 1 := ⟨k - (t.size + 1), by omega⟩
  show impl_Hex.f (m + t.size + 1) t = _
  unfold impl_Hex.f
  rw [if_neg (by omega), implHex_l0 t (by omega) t.size m [] 0 (by omega) (by omega) (by simp; omega)]
  rfl

theorem implHex_no (t : ByteArray) (ht : ¬ t.size ≤ 20000) (k : Nat) : impl_Hex.f k t = some (⟨#[]⟩, false) := by
  unfold impl_Hex.f
  rw [if_pos (by omega)]


theorem rd_mid (P R : List Int) (x : Int) : rd (P ++ x :: R) (P.length : Int) = x := by
  simp [rd]

theorem rd_at (P R : List Int) (x i : Int) (h : (P.length : Int) = i) : rd (P ++ x :: R) i = x := by
  subst h
  exact rd_mid P R x

theorem rv_back (t : ByteArray) (a : Int) (Q : List Int) : ∀ (d j : Nat) (m acc : Int) (P : List Int), j + d = 5 → bytesOf t = P ++ (varF (d + 4) m ++ Q) → (P.length : Int) = a + j → 0 ≤ m → (0 < m ∨ j = 0) → 0 ≤ acc → acc + m * 128 ^ j ≤ 1000000000 →
    rvGo t a d j acc = (acc + m * 128 ^ j, a + j + (varF (d + 4) m).length, true)
  | 0, j, m, acc, P, hj, hb, hP, hm, h0, ha, hx => by
    obtain rfl : j = 5 := by omega
    rw [show (128 : Int) ^ 5 = 34359738368 by decide] at hx
    omega
  | d + 1, j, m, acc, P, hj, hb, hP, hm, h0, ha, hx => by
    have hp := pow128 j (by omega)
    have hz : (t.size : Int) = ((bytesOf t).length : Int) := by
      unfold bytesOf
      rw [List.length_map, ba_size]
    have hv : varF (d + 1 + 4) m = if m > 127 then (m % 128 + 128) :: varF (d + 4) (m / 128) else [m % 256] := by
      show varF ((d + 4) + 1) m = _
      rw [varF]
    have hps : (128 : Int) ^ (j + 1) = 128 ^ j * 128 := Int.pow_succ _ _
    unfold rvGo
    rw [hv] at hb ⊢
    by_cases h : m > 127
    · rw [if_pos h] at hb ⊢
      have hbt : bt t (a + j) = m % 128 + 128 := by
        rw [bt_bytesOf, hb]
        exact rd_at _ _ _ _ hP
      have hlt : a + j < t.size := by
        rw [hz, hb]
        simp
        omega
      have e : m * 128 ^ j = m / 128 * (128 ^ j * 128) + m % 128 * 128 ^ j := by
        have e1 : m / 128 * (128 ^ j * 128) = (m / 128 * 128) * 128 ^ j := by rw [Int.mul_comm (128 ^ j) 128, ← Int.mul_assoc]
        rw [e1, ← Int.add_mul]
        congr 1
        omega
      have g1 : 0 ≤ m % 128 * 128 ^ j := Int.mul_nonneg (by omega) (by omega)
      have ih := rv_back t a Q d (j + 1) (m / 128) (acc + m % 128 * 128 ^ j) (P ++ [m % 128 + 128]) (by omega) (by rw [hb]; simp) (by simp; omega) (by omega) (Or.inl (by omega)) (by omega) (by rw [hps]; omega)
      rw [if_pos hlt, hbt, if_pos (by omega), show (m % 128 + 128) % 128 = m % 128 by omega, ih, hps]
      refine Prod.ext ?_ (Prod.ext ?_ rfl)
      · show acc + m % 128 * 128 ^ j + m / 128 * (128 ^ j * 128) = acc + m * 128 ^ j
        omega
      · simp only [List.length_cons]
        omega
    · rw [if_neg h] at hb ⊢
      have hbt : bt t (a + j) = m := by
        rw [bt_bytesOf, hb, show m % 256 = m by omega]
        exact rd_at _ _ _ _ hP
      have hlt : a + j < t.size := by
        rw [hz, hb]
        simp
        omega
      rw [if_pos hlt, hbt, if_neg h, show m % 128 = m by omega, if_neg (by rintro (q | q) <;> omega)]
      simp

theorem readVar_back (t : ByteArray) (a : Int) (n : Int) (P Q : List Int) (h0 : 0 ≤ n) (h1 : n ≤ 1000000000) (hb : bytesOf t = P ++ (varNums n ++ Q)) (hP : (P.length : Int) = a) : readVarM t a = (n, a + (varOf n).size, true) := by
  have hz : (t.size : Int) = ((bytesOf t).length : Int) := by
    unfold bytesOf
    rw [List.length_map, ba_size]
  unfold readVarM
  rw [if_pos ⟨by omega, by rw [hz, hb]; simp; omega⟩, rv_back t a Q 5 0 n 0 P (by omega) hb (by omega) h0 (Or.inr rfl) (by omega) (by omega)]
  unfold varOf
  rw [strOfNums_size]
  unfold varNums
  simp

theorem readShort_back (s : ByteArray) (h : s.size ≤ 20000) : readShortM (shortOf s) 0 = (s, ((shortOf s).size : Int), true) := by
  have hv := readVar_back (shortOf s) 0 (s.size : Int) [] (bytesOf s) (by omega) (by omega) (by
    unfold shortOf
    rw [bytesOf_append, bytesOf_varOf (by omega)]
    rfl) (by simp)
  have hz : (shortOf s).size = (varOf (s.size : Int)).size + s.size := by
    unfold shortOf
    rw [ba_append_size]
  unfold readShortM
  rw [hv, if_pos ⟨rfl, by simp only; omega, by simp only; omega⟩]
  refine Prod.ext ?_ (Prod.ext ?_ rfl)
  · apply bytesOf_inj
    simp only
    rw [bytesOf_extract]
    unfold shortOf
    rw [bytesOf_append]
    have l1 : (bytesOf (varOf (s.size : Int))).length = (varOf (s.size : Int)).size := by unfold bytesOf; rw [List.length_map, ba_size]
    have l2 : (bytesOf s).length = s.size := by unfold bytesOf; rw [List.length_map, ba_size]
    rw [show (0 + ((varOf (s.size : Int)).size : Int)).toNat = (bytesOf (varOf (s.size : Int))).length by omega, show (0 + ((varOf (s.size : Int)).size : Int) + (s.size : Int)).toNat = (bytesOf (varOf (s.size : Int))).length + (bytesOf s).length by omega]
    rw [List.take_of_length_le (by simp), List.drop_left]
  · simp only
    omega

def hexVal (x : Int) : Int := if 48 ≤ x ∧ x ≤ 57 then x - 48 else if 97 ≤ x ∧ x ≤ 102 then x - 87 else -1

theorem figs_all : ∀ n : Fin 256, Lib.indexByte [48, 49, 50, 51, 52, 53, 54, 55, 56, 57, 97, 98, 99, 100, 101, 102] n.val.toUInt8 = hexVal (n.val : Int) := by decide +kernel

theorem indexByte_eq (x : Int) (h0 : 0 ≤ x) (h1 : x ≤ 255) : strings_IndexByte.f (⟨#[48, 49, 50, 51, 52, 53, 54, 55, 56, 57, 97, 98, 99, 100, 101, 102]⟩ : ByteArray) x = some (hexVal x) := by
  unfold strings_IndexByte.f
  have h := figs_all ⟨x.toNat, by omega⟩
  simp only at h
  rw [Int.toNat_of_nonneg h0] at h
  rw [← h]

theorem hexVal_fig (x : Int) (h0 : 0 ≤ x) (h1 : x < 16) : hexVal (figOf x) = x := by
  unfold hexVal figOf
  split
  · rw [if_pos (by omega)]
    omega
  · rw [if_neg (by omega), if_pos (by omega)]
    omega

theorem hexFrom_length (s : ByteArray) : ∀ (m : Nat) (i : Int), (hexFrom s m i).length = 2 * m
  | 0, i => rfl
  | m + 1, i => by
    simp only [hexFrom, List.length_cons]
    rw [hexFrom_length s m (i + 1)]
    omega

theorem hexFrom_bytes (s : ByteArray) : ∀ (m : Nat) (i : Int), Bytes (hexFrom s m i)
  | 0, i => by
    intro x hx
    simp [hexFrom] at hx
  | m + 1, i => by
    have hb := bt_range s i
    have f1 := figOf_range (bt s i / 16) (by omega) (by omega)
    have f2 := figOf_range (bt s i % 16) (by omega) (by omega)
    intro x hx
    simp only [hexFrom, List.mem_cons] at hx
    rcases hx with rfl | rfl | hx
    · omega
    · omega
    · exact hexFrom_bytes s m (i + 1) x hx

theorem hexOf_size (s : ByteArray) : (hexOf s).size = 2 * s.size := by
  unfold hexOf
  rw [strOfNums_size, hexFrom_length]

theorem unhex_back (s : ByteArray) (hs : s.size ≤ 300) : ∀ (m i : Nat) (P : List Int), i + m = s.size → hexFrom s s.size 0 = P ++ hexFrom s m (i : Int) → P.length = 2 * i →
    Ex (fun k => impl_Unhex.l0 k (hexOf s) ((bytesOf s).take i) (2 * (i : Int))) (fun r => r = (s, true))
  | 0, i, P, h, hL, hP => by
    have hz := hexOf_size s
    refine Ex.shift ?_
    simp only [impl_Unhex.l0]
    refine Ex.neg (by omega) (Ex.now ?_)
    rw [List.take_of_length_le (by unfold bytesOf; rw [List.length_map, ba_size]; omega), strOf_bytesOf]
  | m + 1, i, P, h, hL, hP => by
    have hz := hexOf_size s
    have hb := bt_range s i
    have f1 := figOf_range (bt s i / 16) (by omega) (by omega)
    have f2 := figOf_range (bt s i % 16) (by omega) (by omega)
    simp only [hexFrom] at hL
    have hB := hexFrom_bytes s s.size 0
    have b1 : bt (hexOf s) (2 * (i : Int)) = figOf (bt s i / 16) := by
      unfold hexOf
      rw [bt_strOf hB, hL]
      exact rd_at _ _ _ _ (by omega)
    have b2 : bt (hexOf s) (2 * (i : Int) + 1) = figOf (bt s i % 16) := by
      unfold hexOf
      rw [bt_strOf hB, hL, show P ++ figOf (bt s i / 16) :: figOf (bt s i % 16) :: hexFrom s m ((i : Int) + 1) = (P ++ [figOf (bt s i / 16)]) ++ figOf (bt s i % 16) :: hexFrom s m ((i : Int) + 1) by simp]
      exact rd_at _ _ _ _ (by simp; omega)
    have e1 : wrap64 (2 * (i : Int) + 1) = 2 * (i : Int) + 1 := w64 (by omega) (by omega)
    have e2 : wrap64 (2 * (i : Int) + 2) = 2 * ((i + 1 : Nat) : Int) := by
      rw [w64 (by omega) (by omega)]
      omega
    have v1 := indexByte_eq (figOf (bt s i / 16)) (by omega) (by omega)
    have v2 := indexByte_eq (figOf (bt s i % 16)) (by omega) (by omega)
    rw [hexVal_fig _ (by omega) (by omega)] at v1 v2
    have e3 : (wrap64 (wrap64 (16 * (bt s i / 16)) + bt s i % 16)) % 256 = bt s i := by
      rw [w64 (x := 16 * (bt s i / 16)) (by omega) (by omega), w64 (by omega) (by omega)]
      omega
    have l0 : ((bytesOf s).take i).length ≤ 300 := by
      rw [List.length_take]
      have : (bytesOf s).length = s.size := by unfold bytesOf; rw [List.length_map, ba_size]
      omega
    have hsn : (bytesOf s).take (i + 1) = (bytesOf s).take i ++ [bt s i] := by
      have q := seg_snoc (bytesOf s) 0 i (by unfold bytesOf; rw [List.length_map, ba_size]; omega)
      simp only [List.drop_zero, Nat.zero_add] at q
      rw [q, bt_bytesOf]
      simp [rd]
    have hi : (i : Int) + 1 = ((i + 1 : Nat) : Int) := by omega
    have ih := unhex_back s hs m (i + 1) (P ++ [figOf (bt s i / 16), figOf (bt s i % 16)]) (by omega) (by rw [hL, hi]; simp) (by simp; omega)
    rw [hsn] at ih
    refine Ex.shift ?_
    simp only [impl_Unhex.l0, e1, e2, b1, b2]
    refine Ex.pos (by omega) (Ex.pos (by omega) (Ex.have_ v1 (Ex.pos (by omega) (Ex.pos (by omega) (Ex.have_ v2 (Ex.neg (by omega) (Ex.neg (by omega) (Ex.pos (by omega) ?_))))))))
    rw [e3]
    exact ih

theorem implUnhex_back (s : ByteArray) (hs : s.size ≤ 300) : Ex (fun k => impl_Unhex.f k (hexOf s)) (fun r => r = (s, true)) := by
  have hz := hexOf_size s
  unfold impl_Unhex.f
  refine Ex.pos (by omega) (Ex.shift ?_)
  simp only [impl_Unhex.j0]
  refine Ex.neg (by rw [decide_eq_true_iff]; omega) ?_
  exact unhex_back s hs s.size 0 [] (by omega) rfl rfl

theorem l01Number_ex (l : List Int) (i h : Int) (hl : l.length ≤ 4000000) (hi : Pl i) : ∃ r, spec_l01Number.f l i h = some r := by
  unfold spec_l01Number.f
  obtain ⟨v, i1, h1, e, hv, hi1⟩ := l01Below_ex l i h 4 hl hi
  rw [e, Option.bind_some]
  by_cases c0 : v = 0
  · obtain ⟨v2, i2, h2, e2, hv2, hi2⟩ := l01PickInt_ex l i1 h1 [(-1), 0, 127, 128, 16383, 16384, 1000000000, 1000000001, 9223372036854775807, (-9223372036854775808)] (by decide) hl hi1
    rw [if_pos c0, e2]
    exact ⟨_, rfl⟩
  · by_cases c1 : v = 1
    · obtain ⟨v2, i2, h2, e2, hv2, hi2⟩ := l01Below_ex l i1 h1 1000000000 hl hi1
      rw [if_neg c0, if_pos c1, e2]
      exact ⟨_, rfl⟩
    · obtain ⟨v2, i2, h2, e2, hv2, hi2⟩ := l01Below_ex l i1 h1 400 hl hi1
      rw [if_neg c0, if_neg c1, e2]
      exact ⟨_, rfl⟩

theorem DrawVarText_ex (l : List Int) (hl : l.length ≤ 4000000) : Ex (fun k => spec_DrawVarText.f k l) (fun _ => True) := by
  unfold spec_DrawVarText.f
  refine Ex.bind (l01New_ex l) (fun r hr => ?_)
  obtain ⟨l', i, h⟩ := r
  obtain ⟨rfl, hi⟩ := hr
  obtain ⟨q, hq⟩ := l01Number_ex l' i h hl hi
  exact Ex.have_ hq (Ex.now trivial)

theorem DrawHex_ex (l : List Int) (hl : l.length ≤ 4000000) : Ex (fun k => spec_DrawHex.f k l) (fun _ => True) := by
  unfold spec_DrawHex.f
  refine Ex.bind (l01New_ex l) (fun r hr => ?_)
  obtain ⟨l', i, h⟩ := r
  obtain ⟨rfl, hi⟩ := hr
  obtain ⟨v, i1, h1, e, hi1⟩ := l01Once_ex l' i h 60 hl hi
  refine Ex.have_ e (Ex.ite (fun _ => ?_) (fun _ => ?_))
  · obtain ⟨v2, i2, h2, e2, hv2, hi2⟩ := l01Below_ex l' i1 h1 2 hl hi1
    refine Ex.have_ e2 ?_
    simp only
    rw [w64 (x := 20000 + v2) (by omega) (by omega)]
    exact Ex.bind (l01Long_ex (20000 + v2) 200 (by omega) (by omega)) (fun t _ => Ex.now trivial)
  · obtain ⟨v2, i2, h2, e2, hv2, hi2⟩ := l01Below_ex l' i1 h1 30 hl hi1
    exact Ex.have_ e2 (Ex.bind (l01Text_ex l' i2 h2 v2 hl hi2) (fun t _ => Ex.now trivial))

theorem num_j2 (n : Int) (t : ByteArray) (ht : t.size ≤ 300) : Ex (fun k => laws_FnNumbers.j2 k n (varOf n) true n (1 + ((varOf n).size : Int)) true n true t) (fun r => r = true) := by
  have hv := varOf_size n
  refine Ex.shift ?_
  simp only [laws_FnNumbers.j2]
  refine Ex.go (implShortText_ev t (by omega)) (Ex.go (implReadShort_ev (shortOf t) (by
    unfold shortOf
    have := varOf_size (t.size : Int)
    rw [ba_append_size]
    omega) 0) ?_)
  rw [readShort_back t (by omega)]
  refine Ex.go (implHex_ev t (by omega)) (Ex.bind (implUnhex_back t ht) (fun r hr => ?_))
  subst hr
  refine Ex.pos (by simp) (Ex.pos (by simp) (Ex.pos (by simp) (Ex.pos rfl (Ex.pos rfl (Ex.pos rfl (Ex.pos rfl (Ex.pos (by simp) (Ex.pos (by simp) (Ex.pos ?_ (Ex.pos rfl (Ex.pos rfl (Ex.now ?_))))))))))))
  · rw [w64 (by omega) (by omega)]
    omega
  · exact beq_self_eq_true _

theorem num_j1 (l : List Int) (hl : l.length ≤ 4000000) (n : Int) (h0 : 0 ≤ n) (h1 : n ≤ 1000000000) : Ex (fun k => laws_FnNumbers.j1 k l n) (fun r => r = true) := by
  have hv := varOf_size n
  have hi := itoa_ten n h0 h1
  have z1 : ((⟨#[120]⟩ : ByteArray) ++ varOf n).size = 1 + (varOf n).size := by rw [ba_append_size]; rfl
  have z2 : (((⟨#[120]⟩ : ByteArray) ++ varOf n) ++ (⟨#[121]⟩ : ByteArray)).size = 1 + (varOf n).size + 1 := by rw [ba_append_size, z1]; rfl
  have hr := readVar_back (((⟨#[120]⟩ : ByteArray) ++ varOf n) ++ (⟨#[121]⟩ : ByteArray)) 1 n [120] [121] h0 h1 (by
    rw [bytesOf_append, bytesOf_append, bytesOf_varOf h0]
    simp [bytesOf]) rfl
  have hd : impl_Decimal.f n = some (asB (Lib.itoa n)) := by
    unfold impl_Decimal.f strconv_Itoa.f
    rw [if_pos (by omega)]
    rfl
  refine Ex.shift ?_
  simp only [laws_FnNumbers.j1]
  refine Ex.go (implVarText_ev n h0 h1) (Ex.pos (by show 1 + (varOf n).size ≤ 9223372036854775807; omega) (Ex.pos (by show ((⟨#[120]⟩ : ByteArray) ++ varOf n).size + 1 ≤ 9223372036854775807; omega) (Ex.go (implReadVar_ev (((⟨#[120]⟩ : ByteArray) ++ varOf n) ++ (⟨#[121]⟩ : ByteArray)) (by omega) 1) ?_)))
  rw [hr]
  refine Ex.have_ hd (Ex.have_ (implRd_eq _ (by omega)) ?_)
  rw [rdT_yes ⟨⟨h0, h1⟩, rfl⟩]
  refine Ex.bind (DrawHex_ex l hl) (fun t _ => Ex.ite (fun hg => ?_) (fun hg => ?_))
  · exact num_j2 n _ (by decide)
  · exact num_j2 n t (by omega)

theorem num_j0 (l : List Int) (hl : l.length ≤ 4000000) (n : Int) (c : Bool) (hc : c = false → 0 ≤ n ∧ n ≤ 1000000000) : Ex (fun k => laws_FnNumbers.j0 k l n c) (fun r => r = true) := by
  refine Ex.shift ?_
  simp only [laws_FnNumbers.j0]
  refine Ex.ite (fun h => num_j1 l hl 12345 (by omega) (by omega)) (fun h => ?_)
  have := hc (by simpa using h)
  exact num_j1 l hl n this.1 this.2

theorem FnNumbers : laws_FnNumbers.Pure := by
  intro l _ _ _
  refine Ex.fin ?_
  unfold laws_FnNumbers.f
  refine Ex.have_ (show laws_big.f l = some (decide ((l.length : Int) > 1048576)) from rfl) (Ex.ite (fun _ => Ex.now rfl) (fun hb => ?_))
  have hl : l.length ≤ 4000000 := by
    rw [decide_eq_true_iff] at hb
    omega
  refine Ex.bind (DrawVarText_ex l hl) (fun n _ => Ex.ite (fun h => ?_) (fun h => ?_))
  · exact num_j0 l hl n true (fun q => by cases q)
  · exact num_j0 l hl n _ (fun q => by
      have := of_decide_eq_false q
      omega)

end Go.Proofs.YtgepaoikhfofmacDoor.Pure.FnNumbers
namespace Go.Proofs.YtgepaoikhfofmacDoor.Pure
theorem FnNumbers : Go.Proofs.YtgepaoikhfofmacDoor.PFnNumbers.laws_FnNumbers.Pure := Go.Proofs.YtgepaoikhfofmacDoor.Pure.FnNumbers.FnNumbers
end Go.Proofs.YtgepaoikhfofmacDoor.Pure
