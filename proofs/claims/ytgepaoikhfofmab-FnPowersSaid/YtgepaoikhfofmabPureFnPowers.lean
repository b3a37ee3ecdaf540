/- a power of a sum is a product of powers; powers of Base are in the group, and of a product it is a power of a power. -/
import Derived.Test.YtgepaoikhfofmabPFnPowersx3
import Derived.OpenShut
import Derived.Laws.BitsLemmas
import Derived.Laws.Strings
namespace Go.Proofs.Ytgepaoikhfofmab.Pure.FnPowers
open Go Go.RowKit Go.Proofs.Ytgepaoikhfofmab.PFnPowers Go.Proofs.YtgepaoikhfofmabW.PrintWords Go.Proofs.YtgepaoikhfofmabW.PrintLast Go.Proofs.YtgepaoikhfofmabW.PrintMore
set_option linter.unusedVariables false
set_option linter.unusedSimpArgs false

theorem w64 {x : Int} (h0 : -9223372036854775808 ≤ x) (h1 : x ≤ 9223372036854775807) : wrap64 x = x := by unfold wrap64; omega

theorem wraps64 (n : Int) (h0 : 0 ≤ n) (h1 : n < 2 ^ 63) : IntKind.i64.wrap n = n := by rw [IntKind.wrap_i64]; omega

theorem wraps32 (n : Int) (h0 : 0 ≤ n) (h1 : n < 2 ^ 32) : IntKind.u32.wrap n = n := by rw [IntKind.wrap_u32]; omega

theorem and255 (x : Int) (h0 : 0 ≤ x) (h1 : x < 9223372036854775808) : Go.bits .and .i64 x 255 = x % 256 :=
  bits_mask .i64 63 (by decide) wraps64 8 (by decide) x h0 (by omega)

theorem mask32 (x : Int) (h0 : 0 ≤ x) (h1 : x < 9223372036854775808) : Go.bits .and .i64 x 4294967295 = x % 4294967296 :=
  bits_mask .i64 63 (by decide) wraps64 32 (by decide) x h0 (by omega)

theorem tdiv_nn {a : Int} (b : Int) (h : 0 ≤ a) : Int.tdiv a b = a / b := Int.tdiv_eq_ediv_of_nonneg h

theorem tmod_nn {a : Int} (b : Int) (h : 0 ≤ a) : Int.tmod a b = a % b := Int.tmod_eq_emod_of_nonneg h

theorem bt_nn (s : ByteArray) (i : Int) : 0 ≤ bt s i := (bt_range s i).1

theorem bt_le (s : ByteArray) (i : Int) : bt s i ≤ 255 := (bt_range s i).2

theorem xor_bits (k : IntKind) (j : Nat) (hj : j ≤ k.bits) (hk : ∀ n : Int, 0 ≤ n → n < 2 ^ j → k.wrap n = n) (a b : Nat) (ha : a < 2 ^ j) (hb : b < 2 ^ j) :
    Go.bits .xor k a b = ((a ^^^ b : Nat) : Int) := by
  have hp : 2 ^ j ≤ 2 ^ k.bits := Nat.pow_le_pow_right (by decide) hj
  have ha' : a % 2 ^ k.bits = a := Nat.mod_eq_of_lt (Nat.lt_of_lt_of_le ha hp)
  have hb' : b % 2 ^ k.bits = b := Nat.mod_eq_of_lt (Nat.lt_of_lt_of_le hb hp)
  simp only [Go.bits, BitVec.ofInt_natCast, BitVec.toNat_xor, BitVec.toNat_ofNat, ha', hb']
  exact hk _ (Int.natCast_nonneg _) (by exact_mod_cast Nat.xor_lt_two_pow ha hb)

def X (a b : Int) : Int := ((a.toNat ^^^ b.toNat : Nat) : Int)
def A (a b : Int) : Int := ((a.toNat &&& b.toNat : Nat) : Int)
def In32 (x : Int) : Prop := 0 ≤ x ∧ x ≤ 4294967295

theorem X_in {a b : Int} (ha : In32 a) (hb : In32 b) : In32 (X a b) := by
  unfold In32 at *
  have h := Nat.xor_lt_two_pow (x := a.toNat) (y := b.toNat) (n := 32) (by omega) (by omega)
  unfold X
  omega

theorem A_in {a b : Int} (ha : In32 a) (hb : In32 b) : In32 (A a b) := by
  unfold In32 at *
  have h : a.toNat &&& b.toNat < 2 ^ 32 := Nat.and_lt_two_pow _ (by omega)
  unfold A
  omega

theorem xor64 {a b : Int} (ha : In32 a) (hb : In32 b) : Go.bits .xor .i64 a b = X a b := by
  unfold In32 at *
  have h := xor_bits .i64 63 (by decide) wraps64 a.toNat b.toNat (by omega) (by omega)
  rw [Int.toNat_of_nonneg ha.1, Int.toNat_of_nonneg hb.1] at h
  exact h

theorem xor32 {a b : Int} (ha : In32 a) (hb : In32 b) : Go.bits .xor .u32 a b = X a b := by
  unfold In32 at *
  have h := xor_bits .u32 32 (by decide) wraps32 a.toNat b.toNat (by omega) (by omega)
  rw [Int.toNat_of_nonneg ha.1, Int.toNat_of_nonneg hb.1] at h
  exact h

theorem and64 {a b : Int} (ha : In32 a) (hb : In32 b) : Go.bits .and .i64 a b = A a b := by
  unfold In32 at *
  have h := (bits_nat .i64 63 (by decide) wraps64 a.toNat b.toNat (by omega) (by omega)).1
  rw [Int.toNat_of_nonneg ha.1, Int.toNat_of_nonneg hb.1] at h
  exact h

theorem and32 {a b : Int} (ha : In32 a) (hb : In32 b) : Go.bits .and .u32 a b = A a b := by
  unfold In32 at *
  have h := (bits_nat .u32 32 (by decide) wraps32 a.toNat b.toNat (by omega) (by omega)).1
  rw [Int.toNat_of_nonneg ha.1, Int.toNat_of_nonneg hb.1] at h
  exact h

theorem or_comm64 {a b : Int} (ha : 0 ≤ a ∧ a < 2 ^ 63) (hb : 0 ≤ b ∧ b < 2 ^ 63) : Go.bits .or .i64 a b = Go.bits .or .i64 b a := by
  have h1 := (bits_nat .i64 63 (by decide) wraps64 a.toNat b.toNat (by omega) (by omega)).2
  have h2 := (bits_nat .i64 63 (by decide) wraps64 b.toNat a.toNat (by omega) (by omega)).2
  rw [Int.toNat_of_nonneg ha.1, Int.toNat_of_nonneg hb.1] at h1 h2
  rw [h1, h2, Nat.or_comm]

theorem not64 {a : Int} (ha : In32 a) : Go.bits .xor .i64 4294967295 a = 4294967295 - a := by
  have hc := ha
  unfold In32 at ha
  rw [xor64 (by unfold In32; omega) hc]
  unfold X
  have e : ∀ n : Nat, n < 2 ^ 32 → (2 ^ 32 - 1) ^^^ n = 2 ^ 32 - (n + 1) := by
    intro n hn
    apply Nat.eq_of_testBit_eq
    intro i
    rw [Nat.testBit_xor, Nat.testBit_two_pow_sub_one, Nat.testBit_two_pow_sub_succ hn]
    by_cases hi : i < 32
    · simp [hi]
    · have : n.testBit i = false := Nat.testBit_lt_two_pow (Nat.lt_of_lt_of_le hn (Nat.pow_le_pow_right (by decide) (by omega)))
      simp [hi, this]
  have h := e a.toNat (by omega)
  have e2 : (4294967295 : Int).toNat = 2 ^ 32 - 1 := by decide
  rw [e2, h]
  omega

def rot (x p q : Int) : Int := x / p + x % p * q

theorem rot_parts {x p q : Int} (hx : In32 x) (hp : 0 < p) (hq : 0 < q) (hpq : p * q = 4294967296) : 0 ≤ x / p ∧ x / p < q ∧ 0 ≤ x % p * q ∧ x % p * q ≤ 4294967296 - q := by
  unfold In32 at hx
  refine ⟨Int.ediv_nonneg hx.1 (by omega), Int.ediv_lt_of_lt_mul hp (by rw [Int.mul_comm, hpq]; omega), Int.mul_nonneg (Int.emod_nonneg _ (by omega)) (by omega), ?_⟩
  have h := Int.mul_le_mul_of_nonneg_right (Int.le_sub_one_of_lt (Int.emod_lt_of_pos x hp)) (show 0 ≤ q by omega)
  have e : (p - 1) * q = p * q - q := by rw [Int.sub_mul, Int.one_mul]
  omega

theorem rot_in {x p q : Int} (hx : In32 x) (hp : 0 < p) (hq : 0 < q) (hpq : p * q = 4294967296) : In32 (rot x p q) := by
  have := rot_parts hx hp hq hpq
  unfold In32 rot
  omega


theorem ba_ext {a b : ByteArray} (h : a.data.toList = b.data.toList) : a = b := by
  cases a; cases b
  congr 1
  exact Array.toList_inj.mp h

theorem ba_data_append (a b : ByteArray) : (a ++ b).data.toList = a.data.toList ++ b.data.toList := by
  rw [ByteArray.data_append, Array.toList_append]

theorem ba_size (a : ByteArray) : a.data.toList.length = a.size := data_length a

theorem ba_append_size (a b : ByteArray) : (a ++ b).size = a.size + b.size := ByteArray.size_append

theorem strOf_append (a b : List Int) : strOfNums a ++ strOfNums b = strOfNums (a ++ b) := by
  apply ba_ext
  rw [ba_data_append, strOfNums_data, strOfNums_data, strOfNums_data, List.map_append]

def Bytes (xs : List Int) : Prop := ∀ x ∈ xs, 0 ≤ x ∧ x ≤ 255

theorem bytesOf_bytes (s : ByteArray) : Bytes (bytesOf s) := by
  intro x hx
  unfold bytesOf at hx
  obtain ⟨b, _, rfl⟩ := List.mem_map.mp hx
  have := b.toNat_lt
  omega

theorem bytesOf_strOf {xs : List Int} (h : Bytes xs) : bytesOf (strOfNums xs) = xs := by
  unfold bytesOf
  rw [strOfNums_data, List.map_map]
  conv => rhs; rw [← List.map_id xs]
  apply List.map_congr_left
  intro x hx
  have := h x hx
  simp only [Function.comp, id]
  rw [UInt8.toNat_ofNat_of_lt' (by simp [UInt8.size]; omega)]
  omega

theorem strOf_bytesOf (s : ByteArray) : strOfNums (bytesOf s) = s := by
  apply ba_ext
  rw [strOfNums_data]
  unfold bytesOf
  rw [List.map_map]
  conv => rhs; rw [← List.map_id s.data.toList]
  apply List.map_congr_left
  intro x _
  simp

theorem bytesOf_append (a b : ByteArray) : bytesOf (a ++ b) = bytesOf a ++ bytesOf b := by
  unfold bytesOf
  rw [ba_data_append, List.map_append]

theorem bytesOf_inj {a b : ByteArray} (h : bytesOf a = bytesOf b) : a = b := by
  rw [← strOf_bytesOf a, h, strOf_bytesOf]

theorem ba_toList (a : ByteArray) : a.toList = a.data.toList := by
  exact ByteArray.toList_eq a

theorem toList_inj {a b : ByteArray} (h : a.toList = b.toList) : a = b := by
  rw [ba_toList, ba_toList] at h
  exact ba_ext h

theorem bytesOf_extract (s : ByteArray) (i j : Nat) : bytesOf (s.extract i j) = ((bytesOf s).take j).drop i := by
  unfold bytesOf
  rw [ByteArray.data_extract, Array.toList_extract]
  simp [List.extract_eq_take_drop, List.drop_take, List.map_take, List.map_drop]

theorem bt_bytesOf (s : ByteArray) (i : Int) : bt s i = rd (bytesOf s) i := (rd_bytesOf s i).symm

theorem bt_strOf {xs : List Int} (h : Bytes xs) (i : Int) : bt (strOfNums xs) i = rd xs i := by
  rw [bt_bytesOf, bytesOf_strOf h]

theorem rd_pre (pre : List Int) (x : Int) (post : List Int) : rd (pre ++ x :: post) (pre.length : Int) = x := by
  unfold rd
  simp

def Ex {α : Type} (g : Nat → Option α) (P : α → Prop) : Prop := ∃ r, Ev g r ∧ P r

theorem Ex.mono {α : Type} {g : Nat → Option α} {P Q : α → Prop} (h : Ex g P) (hq : ∀ a, P a → Q a) : Ex g Q := by
  obtain ⟨r, h1, h2⟩ := h
  exact ⟨r, h1, hq r h2⟩
theorem Ex.bind {α β : Type} {g : Nat → Option α} {f : Nat → α → Option β} {P : α → Prop} {Q : β → Prop} (h : Ex g P) (k : ∀ a, P a → Ex (fun n => f n a) Q) : Ex (fun n => (g n).bind (f n)) Q := by
  obtain ⟨a, h1, h2⟩ := h
  obtain ⟨r, h3, h4⟩ := k a h2
  exact ⟨r, h1.bind h3, h4⟩
theorem Ex.ev {α : Type} {g : Nat → Option α} {r : α} {P : α → Prop} (h : Ev g r) (hp : P r) : Ex g P := ⟨r, h, hp⟩
theorem Ex.now {α : Type} {r : α} {P : α → Prop} (hp : P r) : Ex (fun _ => some r) P := ⟨r, Ev.now r, hp⟩
theorem Ex.eq {α : Type} {o : Option α} {r : α} {P : α → Prop} (h : o = some r) (hp : P r) : Ex (fun _ => o) P := by
  subst h
  exact Ex.now hp
theorem Ex.step {α : Type} {g f : Nat → Option α} {P : α → Prop} (h : ∀ k, g (k + 1) = f k) (k : Ex f P) : Ex g P := by
  obtain ⟨r, h1, h2⟩ := k
  exact ⟨r, h1.step h, h2⟩
theorem Ex.shift {α : Type} {g : Nat → Option α} {P : α → Prop} (k : Ex (fun n => g (n + 1)) P) : Ex g P := Ex.step (f := fun n => g (n + 1)) (fun _ => rfl) k
theorem Ex.ite {α : Type} {c : Prop} [Decidable c] {f g : Nat → Option α} {P : α → Prop} (h1 : c → Ex f P) (h2 : ¬ c → Ex g P) : Ex (fun k => if c then f k else g k) P := by
  by_cases h : c
  · simp only [if_pos h]
    exact h1 h
  · simp only [if_neg h]
    exact h2 h
theorem Ex.pos {α : Type} {c : Prop} [Decidable c] {f g : Nat → Option α} {P : α → Prop} (h : c) (h1 : Ex f P) : Ex (fun k => if c then f k else g k) P := by
  simp only [if_pos h]
  exact h1
theorem Ex.neg {α : Type} {c : Prop} [Decidable c] {f g : Nat → Option α} {P : α → Prop} (h : ¬ c) (h1 : Ex g P) : Ex (fun k => if c then f k else g k) P := by
  simp only [if_neg h]
  exact h1

theorem and255_range (x : Int) : 0 ≤ Go.bits .and .i64 x 255 ∧ Go.bits .and .i64 x 255 ≤ 255 := by
  have h : ((BitVec.ofInt IntKind.i64.bits x &&& BitVec.ofInt IntKind.i64.bits 255).toNat) ≤ 255 := by
    rw [BitVec.toNat_and]
    exact Nat.le_trans Nat.and_le_right (by decide)
  have e : Go.bits .and .i64 x 255 = IntKind.i64.wrap ((BitVec.ofInt IntKind.i64.bits x &&& BitVec.ofInt IntKind.i64.bits 255).toNat : Int) := rfl
  rw [e, wraps64 _ (by omega) (by omega)]
  omega

/-- A cursor's place. -/
def Pl (i : Int) : Prop := 0 ≤ i ∧ i ≤ 4611686018427387904

theorem l01Byte_ex (l : List Int) (i h : Int) (hl : l.length ≤ 4000000) (hi : Pl i) : ∃ v i' h', spec_l01Byte.f l i h = some (v, i', h') ∧ (0 ≤ v ∧ v ≤ 255) ∧ Pl i' := by
  unfold Pl at *
  unfold spec_l01Byte.f
  by_cases hc : i < (l.length : Int)
  · rw [if_pos hc, if_pos hi.1]
    exact ⟨_, _, _, rfl, and255_range _, by rw [w64 (by omega) (by omega)]; omega⟩
  · rw [if_neg hc]
    exact ⟨_, _, _, rfl, and255_range _, hi⟩

theorem l01Below_ex (l : List Int) (i h n : Int) (hl : l.length ≤ 4000000) (hi : Pl i) : ∃ v i' h', spec_l01Below.f l i h n = some (v, i', h') ∧ (0 ≤ v ∧ (v < n ∨ v = 0)) ∧ Pl i' := by
  unfold spec_l01Below.f
  by_cases h0 : n ≤ 0
  · rw [if_pos h0]
    exact ⟨_, _, _, rfl, by omega, hi⟩
  rw [if_neg h0]
  by_cases h1 : n ≤ 256
  · obtain ⟨v, i1, h1', e, hv, hi1⟩ := l01Byte_ex l i h hl hi
    rw [if_pos h1, e, Option.bind_some, if_neg (by omega)]
    refine ⟨_, _, _, rfl, ?_, hi1⟩
    simp only
    rw [tmod_nn _ hv.1]
    have := Int.emod_nonneg v (show n ≠ 0 by omega)
    have := Int.emod_lt_of_pos v (show 0 < n by omega)
    omega
  · obtain ⟨v1, i1, g1, e1, hv1, hi1⟩ := l01Byte_ex l i h hl hi
    obtain ⟨v2, i2, g2, e2, hv2, hi2⟩ := l01Byte_ex l i1 g1 hl hi1
    obtain ⟨v3, i3, g3, e3, hv3, hi3⟩ := l01Byte_ex l i2 g2 hl hi2
    obtain ⟨v4, i4, g4, e4, hv4, hi4⟩ := l01Byte_ex l i3 g3 hl hi3
    rw [if_neg h1, e1, Option.bind_some, e2, Option.bind_some, e3, Option.bind_some, e4, Option.bind_some, if_neg (by omega)]
    refine ⟨_, _, _, rfl, ?_, hi4⟩
    simp only
    rw [w64 (x := v1 * 16777216) (by omega) (by omega), w64 (x := v2 * 65536) (by omega) (by omega), w64 (x := v3 * 256) (by omega) (by omega), w64 (x := v1 * 16777216 + v2 * 65536) (by omega) (by omega), w64 (x := v1 * 16777216 + v2 * 65536 + v3 * 256) (by omega) (by omega), w64 (by omega) (by omega), tmod_nn _ (by omega)]
    have := Int.emod_nonneg (v1 * 16777216 + v2 * 65536 + v3 * 256 + v4) (show n ≠ 0 by omega)
    have := Int.emod_lt_of_pos (v1 * 16777216 + v2 * 65536 + v3 * 256 + v4) (show 0 < n by omega)
    omega

theorem l01New_l0 (l : List Int) : ∀ (m : Nat) (h i : Int), 0 ≤ i → 4000 ≤ i + m → i ≤ 4000 → Ex (fun k => spec_l01New.l0 k l h i) (fun r => r.1 = l ∧ Pl r.2.1)
  | 0, h, i, h0, hm, h4 => by
    have hp : Pl 0 := by unfold Pl; omega
    refine Ex.step (f := fun _ => some (l, 0, h)) (fun k => ?_) (Ex.now ⟨rfl, hp⟩)
    rw [spec_l01New.l0]
    by_cases hc : i < (l.length : Int)
    · rw [if_pos hc, if_neg (by omega)]
    · rw [if_neg hc]
  | m + 1, h, i, h0, hm, h4 => by
    have hp : Pl 0 := by unfold Pl; omega
    by_cases hc : i < (l.length : Int) ∧ i < 4000
    · refine Ex.step (f := fun k => spec_l01New.l0 k l (Go.bits .and .i64 (wrap64 ((wrap64 ((wrap64 (h * 131)) + (wrap64 (rd l i)))) + 7)) 1073741823) (i + 1)) (fun k => ?_) ?_
      · rw [spec_l01New.l0, if_pos hc.1, if_pos hc.2, if_pos h0, w64 (x := i + 1) (by omega) (by omega)]
      · exact l01New_l0 l m _ (i + 1) (by omega) (by omega) (by omega)
    · refine Ex.step (f := fun _ => some (l, 0, h)) (fun k => ?_) (Ex.now ⟨rfl, hp⟩)
      rw [spec_l01New.l0]
      by_cases hc1 : i < (l.length : Int)
      · rw [if_pos hc1, if_neg (fun q => hc ⟨hc1, q⟩)]
      · rw [if_neg hc1]

theorem l01New_ex (l : List Int) : Ex (fun k => spec_l01New.f k l) (fun r => r.1 = l ∧ Pl r.2.1) := by
  unfold spec_l01New.f
  exact l01New_l0 l 4000 _ 0 (by omega) (by omega) (by omega)


theorem Ex.go {α β : Type} {g : Nat → Option α} {f : Nat → α → Option β} {a : α} {Q : β → Prop} (h : Ev g a) (k : Ex (fun n => f n a) Q) : Ex (fun n => (g n).bind (f n)) Q :=
  Ex.bind (Ex.ev (P := fun q => q = a) h rfl) (fun q hq => by subst hq; exact k)
theorem Ex.have_ {α β : Type} {o : Option α} {f : Nat → α → Option β} {a : α} {Q : β → Prop} (h : o = some a) (k : Ex (fun n => f n a) Q) : Ex (fun n => o.bind (f n)) Q := by
  subst h
  exact k
theorem Ex.fin {g : Nat → Option Bool} (h : Ex g (fun r => r = true)) : ∃ k, g k = some true := by
  obtain ⟨r, ⟨K, hr⟩, rfl⟩ := h
  exact ⟨K, hr K (Nat.le_refl K)⟩
theorem Ex.toEv {α : Type} {g : Nat → Option α} {v : α} (h : Ex g (fun r => r = v)) : Ev g v := by
  obtain ⟨r, hr, rfl⟩ := h
  exact hr

theorem sameList (a b : ByteArray) : (a.toList == b.toList) = decide (a = b) := by
  by_cases h : a = b
  · rw [h, beq_self_eq_true, decide_eq_true rfl]
  · rw [decide_eq_false h]
    exact beq_eq_false_iff_ne.mpr (fun q => h (toList_inj q))

def PL (p : List Int) (n : Nat) : Prop := p.length = n ∧ ∀ x ∈ p, 0 ≤ x ∧ x ≤ 9999

theorem PL.rd {p : List Int} {n : Nat} (h : PL p n) (i : Int) (h0 : 0 ≤ i) (h1 : i < n) : 0 ≤ rd p i ∧ rd p i ≤ 9999 := by
  obtain ⟨hl, hp⟩ := h
  have hn : i.toNat < p.length := by omega
  have e : Go.Proofs.YtgepaoikhfofmabW.PrintWords.rd p i = p[i.toNat] := by
    show p.getD i.toNat 0 = _
    rw [List.getD_eq_getElem?_getD, List.getElem?_eq_getElem hn]
    rfl
  rw [e]
  exact hp _ (List.getElem_mem hn)

theorem DrawPlaces_l0 (l : List Int) (hl : l.length ≤ 4000000) : ∀ (m : Nat) (acc : List Int) (i ci ch : Int), Pl ci → 0 ≤ i → i + m = 12 → PL acc i.toNat → Ex (fun k => spec_DrawPlaces.l0 k acc i l ci ch) (fun p => PL p 12)
  | 0, acc, i, ci, ch, hp, h0, hm, ha => by
    refine Ex.step (f := fun _ => some acc) (fun k => ?_) (Ex.now ?_)
    · rw [spec_DrawPlaces.l0, if_neg (by omega)]
    · have e : i.toNat = 12 := by omega
      rw [e] at ha
      exact ha
  | m + 1, acc, i, ci, ch, hp, h0, hm, ha => by
    obtain ⟨v, i1, h1, e1, hv, hi1⟩ := l01Below_ex l ci ch 10000 hl hp
    refine Ex.step (f := fun k => spec_DrawPlaces.l0 k (acc ++ [v]) (i + 1) l i1 h1) (fun k => ?_) ?_
    · have hal := ha.1
      rw [spec_DrawPlaces.l0, if_pos (by omega), e1, Option.bind_some, if_pos (by omega), w64 (x := i + 1) (by omega) (by omega)]
    · refine DrawPlaces_l0 l hl m (acc ++ [v]) (i + 1) i1 h1 hi1 (by omega) (by omega) ⟨?_, fun x hx => ?_⟩
      · rw [List.length_append, ha.1]
        simp only [List.length_singleton]
        omega
      · rcases List.mem_append.mp hx with hx | hx
        · exact ha.2 x hx
        · rw [List.mem_singleton] at hx
          omega

theorem DrawPlaces_ex (l : List Int) (hl : l.length ≤ 4000000) : Ex (fun k => spec_DrawPlaces.f k l) (fun p => PL p 12) := by
  unfold spec_DrawPlaces.f
  refine Ex.bind (l01New_ex l) (fun c hc => ?_)
  obtain ⟨hc1, hc2⟩ := hc
  rw [hc1]
  obtain ⟨v, i1, h1, e1, hv, hi1⟩ := l01Byte_ex l c.2.1 c.2.2 hl hc2
  refine Ex.have_ e1 ?_
  exact DrawPlaces_l0 l hl 12 [] 0 i1 h1 hi1 (by omega) (by omega) ⟨rfl, fun x hx => by simp at hx⟩


def modP (a : Int) : Int := a % 2147483579

theorem modP_nn (a : Int) : 0 ≤ modP a := by unfold modP; omega

theorem modP_lt (a : Int) : modP a < 2147483579 := by unfold modP; omega

theorem tmodP (a : Int) : Int.tmod a 2147483579 = modP a ∨ (Int.tmod a 2147483579 < 0 ∧ Int.tmod a 2147483579 + 2147483579 = modP a) := by
  unfold modP
  by_cases h : 0 ≤ a
  · left; exact tmod_nn _ h
  · have h1 : Int.tmod a 2147483579 = -(Int.tmod (-a) 2147483579) := by rw [Int.neg_tmod, Int.neg_neg]
    rw [h1, tmod_nn _ (by omega)]
    omega

theorem l03Mod_eq (a : Int) : spec_l03Mod.f a = some (modP a) := by
  unfold spec_l03Mod.f
  have h1 := modP_nn a
  have h2 := modP_lt a
  rcases tmodP a with h | ⟨h, h'⟩
  · rw [h, if_neg (by omega)]
  · rw [if_pos h, h', w64 (by omega) (by omega)]

theorem inPrime_eq (a : Int) : impl_inPrime.f a = some (modP a) := by
  unfold impl_inPrime.f
  have h1 := modP_nn a
  have h2 := modP_lt a
  rcases tmodP a with h | ⟨h, h'⟩
  · rw [h, w64 (by omega) (by omega), tmod_nn _ (by omega)]; congr 1; omega
  · rw [h', w64 (by omega) (by omega), tmod_nn _ (by omega)]; congr 1; omega

theorem mul_bound {x y : Int} (hx : 0 ≤ x) (hx' : x < 2147483579) (hy : 0 ≤ y) (hy' : y < 2147483579) : 0 ≤ x * y ∧ x * y ≤ 4611685726741798084 := by
  refine ⟨Int.mul_nonneg hx hy, ?_⟩
  have h1 : x * y ≤ 2147483578 * 2147483578 := Int.mul_le_mul (by omega) (by omega) hy (by omega)
  omega

theorem wmul {x y : Int} (hx : 0 ≤ x) (hx' : x < 2147483579) (hy : 0 ≤ y) (hy' : y < 2147483579) : Int.tmod (wrap64 (x * y)) 2147483579 = modP (x * y) := by
  have h := mul_bound hx hx' hy hy'
  rw [w64 (by omega) (by omega), tmod_nn _ h.1]; rfl

theorem specMulP_eq (a b : Int) : spec_MulP.f a b = some (modP (modP a * modP b)) := by
  unfold spec_MulP.f
  rw [l03Mod_eq, l03Mod_eq]
  simp only [Option.bind_some]
  rw [wmul (modP_nn a) (modP_lt a) (modP_nn b) (modP_lt b)]

theorem implMulP_eq (a b : Int) : impl_MulP.f a b = some (modP (modP a * modP b)) := by
  unfold impl_MulP.f
  rw [inPrime_eq, inPrime_eq]
  simp only [Option.bind_some]
  rw [wmul (modP_nn a) (modP_lt a) (modP_nn b) (modP_lt b)]


theorem modP_modP (a : Int) : modP (modP a) = modP a := by unfold modP; omega

theorem modP_id {a : Int} (h0 : 0 ≤ a) (h1 : a < 2147483579) : modP a = a := by unfold modP; omega

theorem modP_mul (a b : Int) : modP (modP a * modP b) = modP (a * b) := by unfold modP; rw [← Int.mul_emod]

theorem modP_mul_l (a b : Int) : modP (modP a * b) = modP (a * b) := by rw [← modP_mul, modP_modP, modP_mul]

theorem modP_mul_r (a b : Int) : modP (a * modP b) = modP (a * b) := by rw [← modP_mul, modP_modP, modP_mul]

def pw (b : Int) (n : Nat) : Int := modP (b ^ n)

theorem pw_nn (b : Int) (n : Nat) : 0 ≤ pw b n := modP_nn _

theorem pw_lt (b : Int) (n : Nat) : pw b n < 2147483579 := modP_lt _

theorem pw_zero (b : Int) : pw b 0 = 1 := by unfold pw; rw [Int.pow_zero]; rfl

theorem pw_succ (b : Int) (n : Nat) : pw b (n + 1) = modP (pw b n * b) := by
  unfold pw
  rw [Int.pow_succ, modP_mul_l]

theorem pw_add (b : Int) (m n : Nat) : modP (pw b m * pw b n) = pw b (m + n) := by
  unfold pw
  rw [modP_mul, ← Int.pow_add]

theorem pw_modP (b : Int) : ∀ n : Nat, pw (modP b) n = pw b n
  | 0 => by rw [pw_zero, pw_zero]
  | n + 1 => by rw [pw_succ, pw_succ, pw_modP b n, modP_mul_r]

theorem pw_mul (b : Int) (m n : Nat) : pw (pw b m) n = pw b (m * n) := by
  have h : pw (pw b m) n = pw (b ^ m) n := pw_modP (b ^ m) n
  rw [h]
  unfold pw
  rw [Int.pow_mul]

theorem pw_one (n : Nat) : pw 1 n = 1 := by
  unfold pw
  rw [Int.one_pow]; rfl

def powLoop : Nat → Int → Int → Int → Int
  | 0, out, _, _ => out
  | f + 1, out, sq, e => if e > 0 then powLoop f (if e % 2 = 1 then modP (out * sq) else out) (modP (sq * sq)) (e / 2) else out

theorem powLoop_eq : ∀ (f : Nat) (out sq e : Int), 0 ≤ e → e < 2 ^ f → modP out = out → powLoop f out sq e = modP (out * sq ^ e.toNat)
  | 0, out, sq, e, h0, h1, ho => by
    have e0 : e = 0 := by simp at h1; omega
    subst e0
    simp [powLoop, ho]
  | f + 1, out, sq, e, h0, h1, ho => by
    unfold powLoop
    by_cases h : e > 0
    · rw [if_pos h]
      have h2 : e / 2 < 2 ^ f := by
        have : (2 : Int) ^ (f + 1) = 2 ^ f * 2 := Int.pow_succ _ _
        omega
      have key : ∀ o : Int, modP (o * (modP (sq * sq)) ^ (e / 2).toNat) = modP (o * sq ^ (2 * (e / 2).toNat)) := by
        intro o
        have h3 : pw (modP (sq * sq)) (e / 2).toNat = pw (sq * sq) (e / 2).toNat := pw_modP _ _
        unfold pw at h3
        rw [← modP_mul_r, h3, modP_mul_r, Int.pow_mul]
        congr 3
        rw [Int.pow_succ, Int.pow_succ, Int.pow_zero, Int.one_mul]
      by_cases hr : e % 2 = 1
      · rw [if_pos hr, powLoop_eq f _ _ _ (by omega) h2 (modP_modP _), key, modP_mul_l]
        have e1 : e.toNat = 2 * (e / 2).toNat + 1 := by omega
        rw [e1, Int.pow_succ]
        congr 1
        rw [Int.mul_assoc, Int.mul_comm sq]
      · rw [if_neg hr, powLoop_eq f _ _ _ (by omega) h2 ho, key]
        have e1 : e.toNat = 2 * (e / 2).toNat := by omega
        rw [e1]
    · have e0 : e = 0 := by omega
      subst e0
      rw [if_neg h]
      simp [ho]

def ordN : Nat := 1073741789

theorem pw_big (e : Nat) (h : e < 2 ^ 31) : pw 4 e = powLoop 31 1 4 (e : Int) := by
  rw [powLoop_eq 31 1 4 e (by omega) (by omega) rfl, Int.one_mul]
  rfl

theorem pw_ord : pw 4 ordN = 1 := by
  rw [pw_big ordN (by unfold ordN; decide)]
  decide +kernel

theorem ord_gcd (a b : Nat) : pw 4 a = 1 → pw 4 b = 1 → pw 4 (Nat.gcd a b) = 1 := by
  refine Nat.gcd.induction (P := fun a b => pw 4 a = 1 → pw 4 b = 1 → pw 4 (Nat.gcd a b) = 1) a b ?_ ?_
  · intro n _ h
    rw [Nat.gcd_zero_left]; exact h
  · intro m n _ ih hm hn
    rw [Nat.gcd_rec]
    refine ih ?_ hm
    have e : pw 4 (m * (n / m) + n % m) = 1 := by rw [Nat.div_add_mod]; exact hn
    rw [← pw_add, ← pw_mul, hm, pw_one, Int.one_mul, modP_id (pw_nn _ _) (pw_lt _ _)] at e
    exact e

def noDiv : Nat → Nat → Bool
  | 0, lo => 1073741789 % lo != 0
  | f + 1, lo => noDiv f lo && noDiv f (lo + 2 ^ f)

theorem noDiv_all : noDiv 15 2 = true := by decide +kernel

theorem noDiv_spec : ∀ (f lo : Nat), noDiv f lo = true → ∀ d, lo ≤ d → d < lo + 2 ^ f → 1073741789 % d ≠ 0
  | 0, lo, h, d, h1, h2 => by
    have : d = lo := by simp at h2; omega
    subst this
    simpa [noDiv] using h
  | f + 1, lo, h, d, h1, h2 => by
    unfold noDiv at h
    rw [Bool.and_eq_true] at h
    have hp : 2 ^ (f + 1) = 2 ^ f * 2 := Nat.pow_succ _ _
    by_cases hd : d < lo + 2 ^ f
    · exact noDiv_spec f lo h.1 d h1 hd
    · exact noDiv_spec f (lo + 2 ^ f) h.2 d (by omega) (by omega)

theorem ord_noDiv (d : Nat) (h1 : 2 ≤ d) (h2 : d < 32770) : ¬ d ∣ ordN := by
  intro h
  have := noDiv_spec 15 2 noDiv_all d h1 (by omega)
  exact this (Nat.mod_eq_zero_of_dvd h)

theorem ord_coprime (a : Nat) (h0 : 0 < a) (h1 : a < ordN) : Nat.gcd a ordN = 1 := by
  have hg : Nat.gcd a ordN ∣ ordN := Nat.gcd_dvd_right _ _
  have hle : Nat.gcd a ordN ≤ a := Nat.le_of_dvd h0 (Nat.gcd_dvd_left _ _)
  have hpos : 0 < Nat.gcd a ordN := Nat.gcd_pos_of_pos_left _ h0
  generalize Nat.gcd a ordN = g at *
  obtain ⟨q, hq⟩ := hg
  have hq2 : q ∣ ordN := ⟨g, by rw [hq, Nat.mul_comm]⟩
  by_cases g1 : g = 1
  · exact g1
  · exfalso
    by_cases gs : g < 32770
    · exact ord_noDiv g (by omega) gs ⟨q, hq⟩
    · by_cases qs : q < 32770
      · refine ord_noDiv q ?_ qs hq2
        rcases q with _ | _ | q
        · simp [ordN] at hq
        · rw [Nat.zero_add, Nat.mul_one] at hq; omega
        · omega
      · have : 32770 * 32770 ≤ g * q := Nat.mul_le_mul (by omega) (by omega)
        unfold ordN at hq
        omega

theorem pw4_ne (a : Nat) (h : Nat.gcd a ordN = 1) : pw 4 a ≠ 1 := by
  intro ha
  have := ord_gcd a ordN ha pw_ord
  rw [h] at this
  revert this
  decide

theorem pw4_group (a : Nat) : pw (pw 4 a) ordN = 1 := by
  rw [pw_mul, Nat.mul_comm, ← pw_mul, pw_ord, pw_one]

theorem pw_zero_base (n : Nat) (h : 0 < n) : pw 0 n = 0 := by
  obtain ⟨m, rfl⟩ : ∃ m, n = m + 1 := ⟨n - 1, by omega⟩
  rw [pw_succ, Int.mul_zero]; rfl

theorem pw4_nz (a : Nat) : pw 4 a ≠ 0 := by
  intro h
  have := pw4_group a
  rw [h, pw_zero_base ordN (by unfold ordN; decide)] at this
  revert this
  decide

theorem pw4_two (a : Nat) (h : Nat.gcd a ordN = 1) : 2 ≤ pw 4 a := by
  have h1 := pw_nn 4 a
  have h2 := pw4_nz a
  have h3 := pw4_ne a h
  omega

theorem l01In_eq (a b c : Int) : spec_l01In.f a b c = some (decide (b ≤ a ∧ a ≤ c)) := by
  unfold spec_l01In.f
  by_cases h : a ≥ b
  · rw [if_pos h]; congr 1; simp; omega
  · rw [if_neg h]; congr 1; simp; omega

theorem within_eq (a b c : Int) : impl_within.f a b c = some (decide (b ≤ a ∧ a ≤ c)) := by
  unfold impl_within.f
  by_cases h : a ≥ b
  · rw [if_pos h]; congr 1; simp; omega
  · rw [if_neg h]; congr 1; simp; omega


theorem implPow_l0 : ∀ (f k : Nat) (e out sq : Int), 0 ≤ e → e < 2 ^ f → e ≤ 2147483579 → 0 ≤ out → out < 2147483579 → 0 ≤ sq → sq < 2147483579 → impl_PowP.l0 (k + f + 1) e out sq = some (powLoop f out sq e)
  | 0, k, e, out, sq, h0, h1, h2, o0, o1, s0, s1 => by
    show impl_PowP.l0 (k + 1) e out sq = _
    have e0 : e = 0 := by simp at h1; omega
    subst e0
    rw [impl_PowP.l0, if_neg (by omega)]
    rfl
  | f + 1, k, e, out, sq, h0, h1, h2, o0, o1, s0, s1 => by
    show impl_PowP.l0 ((k + f + 1) + 1) e out sq = _
    rw [impl_PowP.l0]
    unfold powLoop
    by_cases h : e > 0
    · have hf : e / 2 < 2 ^ f := by
        have : (2 : Int) ^ (f + 1) = 2 ^ f * 2 := Int.pow_succ _ _
        omega
      rw [if_pos h, if_pos h, tmod_nn _ h0, tdiv_nn _ h0, w64 (x := e / 2) (by omega) (by omega), wmul s0 s1 s0 s1]
      by_cases hr : e % 2 = 1
      · rw [if_pos hr, if_pos hr, wmul o0 o1 s0 s1, implPow_l0 f k _ _ _ (by omega) hf (by omega) (modP_nn _) (modP_lt _) (modP_nn _) (modP_lt _)]
      · rw [if_neg hr, if_neg hr, implPow_l0 f k _ _ _ (by omega) hf (by omega) o0 o1 (modP_nn _) (modP_lt _)]
    · rw [if_neg h, if_neg h]

theorem specPow_l0 : ∀ (f k : Nat) (e out sq : Int), 0 ≤ e → e < 2 ^ f → e ≤ 2147483579 → 0 ≤ out → out < 2147483579 → 0 ≤ sq → sq < 2147483579 → spec_PowP.l0 (k + f + 1) sq e out = some (powLoop f out sq e)
  | 0, k, e, out, sq, h0, h1, h2, o0, o1, s0, s1 => by
    show spec_PowP.l0 (k + 1) sq e out = _
    have e0 : e = 0 := by simp at h1; omega
    subst e0
    rw [spec_PowP.l0, if_neg (by omega)]
    rfl
  | f + 1, k, e, out, sq, h0, h1, h2, o0, o1, s0, s1 => by
    show spec_PowP.l0 ((k + f + 1) + 1) sq e out = _
    rw [spec_PowP.l0]
    unfold powLoop
    by_cases h : e > 0
    · have hf : e / 2 < 2 ^ f := by
        have : (2 : Int) ^ (f + 1) = 2 ^ f * 2 := Int.pow_succ _ _
        omega
      rw [if_pos h, if_pos h, tmod_nn _ h0, tdiv_nn _ h0, w64 (x := e / 2) (by omega) (by omega), wmul s0 s1 s0 s1]
      by_cases hr : e % 2 = 1
      · rw [if_pos hr, if_pos hr, wmul o0 o1 s0 s1, specPow_l0 f k _ _ _ (by omega) hf (by omega) (modP_nn _) (modP_lt _) (modP_nn _) (modP_lt _)]
      · rw [if_neg hr, if_neg hr, specPow_l0 f k _ _ _ (by omega) hf (by omega) o0 o1 (modP_nn _) (modP_lt _)]
    · rw [if_neg h, if_neg h]

theorem powLoop_start (b e : Int) (h0 : 0 ≤ e) (h1 : e ≤ 2147483579) : powLoop 31 1 (modP b) e = pw b e.toNat := by
  rw [powLoop_eq 31 1 (modP b) e h0 (by omega) rfl, Int.one_mul]
  exact pw_modP b e.toNat

theorem implPowP_ev (b e : Int) (h0 : 0 ≤ e) (h1 : e ≤ 2147483579) : Ev (fun k => impl_PowP.f k b e) (pw b e.toNat) := by
  refine ⟨32, fun k hk => ?_⟩
  obtain ⟨m, rfl⟩ : ∃ m, k = m + 31 + 1 := ⟨k - 32, by omega⟩
  show impl_PowP.f (m + 31 + 1) b e = _
  unfold impl_PowP.f
  rw [within_eq, decide_eq_true ⟨h0, h1⟩]
  simp only [Option.bind_some, if_true]
  rw [inPrime_eq]
  simp only [Option.bind_some]
  rw [implPow_l0 31 m e 1 (modP b) h0 (by omega) h1 (by omega) (by omega) (modP_nn _) (modP_lt _), powLoop_start b e h0 h1]

theorem implPowP_no (b e : Int) (h : ¬ (0 ≤ e ∧ e ≤ 2147483579)) (k : Nat) : impl_PowP.f k b e = some 0 := by
  unfold impl_PowP.f
  rw [within_eq, decide_eq_false h]
  simp

theorem specPowP_ev (b e : Int) (h0 : 0 ≤ e) (h1 : e ≤ 2147483579) : Ev (fun k => spec_PowP.f k b e) (pw b e.toNat) := by
  refine ⟨32, fun k hk => ?_⟩
  obtain ⟨m, rfl⟩ : ∃ m, k = m + 31 + 1 := ⟨k - 32, by omega⟩
  show spec_PowP.f (m + 31 + 1) b e = _
  unfold spec_PowP.f
  rw [l01In_eq, decide_eq_true ⟨h0, h1⟩]
  simp only [Option.bind_some, if_true]
  rw [l03Mod_eq]
  simp only [Option.bind_some]
  rw [specPow_l0 31 m e 1 (modP b) h0 (by omega) h1 (by omega) (by omega) (modP_nn _) (modP_lt _), powLoop_start b e h0 h1]

theorem specPowP_no (b e : Int) (h : ¬ (0 ≤ e ∧ e ≤ 2147483579)) (k : Nat) : spec_PowP.f k b e = some 0 := by
  unfold spec_PowP.f
  rw [l01In_eq, decide_eq_false h]
  simp


def inGrp (y : Int) : Bool := decide (2 ≤ y ∧ y ≤ 2147483578) && (pw y (1073741789 : Int).toNat == 1)

theorem implInGroup_ev (y : Int) : Ev (fun k => impl_InGroup.f k y) (inGrp y) := by
  obtain ⟨K, h⟩ := implPowP_ev y 1073741789 (by omega) (by omega)
  refine ⟨K, fun k hk => ?_⟩
  have h := h k hk
  simp only at h
  show impl_InGroup.f k y = _
  unfold impl_InGroup.f inGrp
  rw [within_eq, h]
  by_cases hy : 2 ≤ y ∧ y ≤ 2147483578
  · rw [decide_eq_true hy]
    simp only [Option.bind_some, if_true, Bool.true_and]
  · rw [decide_eq_false hy]
    simp only [Option.bind_some, Bool.false_eq_true, if_false, Bool.false_and]


def num4 (a : Int) : ByteArray := strOfNums [a / 16777216 % 256, a / 65536 % 256, a / 256 % 256, a % 256]

theorem num4_size (a : Int) : (num4 a).size = 4 := by unfold num4; rw [strOfNums_size]; rfl

theorem implNumberText_eq (a : Int) (h0 : 0 ≤ a) (h1 : a ≤ 4294967295) : impl_NumberText.f a = some (num4 a) := by
  unfold impl_NumberText.f num4
  rw [within_eq, decide_eq_true (by omega)]
  simp only [Option.bind_some, if_true]
  rw [and255 _ (by omega) (by omega), and255 _ (by omega) (by omega), and255 _ (by omega) (by omega), and255 _ (by omega) (by omega)]
  rw [Int.emod_emod_of_dvd _ (by decide), Int.emod_emod_of_dvd _ (by decide), Int.emod_emod_of_dvd _ (by decide), Int.emod_emod_of_dvd _ (by decide)]

theorem implNumberText_no (a : Int) (h : ¬ (0 ≤ a ∧ a ≤ 4294967295)) : impl_NumberText.f a = some ⟨#[]⟩ := by
  unfold impl_NumberText.f
  rw [within_eq, decide_eq_false h]
  simp


def be (a b c d : Int) : Int := a * 16777216 + b * 65536 + c * 256 + d

theorem orjoin (i : Nat) (x y : Int) (hx0 : 0 ≤ x) (hx : x % 2 ^ i = 0) (hx1 : x < 2 ^ 63) (hy0 : 0 ≤ y) (hy : y < 2 ^ i) (hy1 : y < 2 ^ 63) : Go.bits .or .i64 x y = x + y :=
  bits_join .i64 63 (by decide) wraps64 i x y hx0 hx hx1 hy0 hy hy1

theorem implReadNumber_eq (s : ByteArray) (h : s.size = 4) : impl_ReadNumber.f s = some (be (bt s 0) (bt s 1) (bt s 2) (bt s 3), true) := by
  unfold impl_ReadNumber.f be
  have h0 := bt_range s 0
  have h1 := bt_range s 1
  have h2 := bt_range s 2
  have h3 := bt_range s 3
  rw [if_pos (by omega), if_pos (by omega), if_pos (by omega), if_pos (by omega), if_pos (by omega)]
  generalize bt s 0 = a at *
  generalize bt s 1 = b at *
  generalize bt s 2 = c at *
  generalize bt s 3 = d at *
  rw [w64 (x := a) (by omega) (by omega), w64 (x := b) (by omega) (by omega), w64 (x := c) (by omega) (by omega), w64 (x := d) (by omega) (by omega), w64 (x := a * 16777216) (by omega) (by omega), w64 (x := b * 65536) (by omega) (by omega), w64 (x := c * 256) (by omega) (by omega)]
  rw [orjoin 24 (a * 16777216) (b * 65536) (by omega) (by omega) (by omega) (by omega) (by omega) (by omega)]
  rw [orjoin 16 (a * 16777216 + b * 65536) (c * 256) (by omega) (by omega) (by omega) (by omega) (by omega) (by omega)]
  rw [orjoin 8 (a * 16777216 + b * 65536 + c * 256) d (by omega) (by omega) (by omega) (by omega) (by omega) (by omega)]

theorem implReadNumber_no (s : ByteArray) (h : ¬ s.size = 4) : impl_ReadNumber.f s = some (0, false) := by
  unfold impl_ReadNumber.f
  rw [if_neg (by omega)]


theorem prod_b {x y : Int} (hx : 0 ≤ x ∧ x ≤ 9999) (hy : 0 ≤ y ∧ y ≤ 9999) : 0 ≤ x * y ∧ x * y ≤ 99980001 := by
  refine ⟨Int.mul_nonneg hx.1 hy.1, ?_⟩
  have h : x * y ≤ 9999 * 9999 := Int.mul_le_mul hx.2 hy.2 hy.1 (by omega)
  omega

theorem pwr_grp (a : Int) (h0 : 0 < a) (h1 : a ≤ 1073741788) : inGrp (pw 4 a.toNat) = true := by
  unfold inGrp
  rw [Bool.and_eq_true]
  have h2 := pw4_two a.toNat (ord_coprime a.toNat (by omega) (by unfold ordN; omega))
  have h3 := pw_lt 4 a.toNat
  refine ⟨decide_eq_true (by omega), ?_⟩
  have h4 := pw4_group a.toNat
  unfold ordN at h4
  rw [show (1073741789 : Int).toNat = 1073741789 from rfl, h4]
  rfl

theorem num4_read (e : Int) (h0 : 0 ≤ e) (h1 : e ≤ 4294967295) : impl_ReadNumber.f (num4 e) = some (e, true) := by
  rw [implReadNumber_eq _ (num4_size e)]
  have hb : Bytes [e / 16777216 % 256, e / 65536 % 256, e / 256 % 256, e % 256] := by
    intro y hy
    simp only [List.mem_cons, List.not_mem_nil, or_false] at hy
    omega
  unfold num4 be
  rw [bt_strOf hb, bt_strOf hb, bt_strOf hb, bt_strOf hb]
  congr 2
  show e / 16777216 % 256 * 16777216 + e / 65536 % 256 * 65536 + e / 256 % 256 * 256 + e % 256 = e
  omega

theorem tailPow (x3 : List Int) (m : Int) (hm : 0 ≤ m ∧ m < 2147483579) (F : Nat → Int → Option Bool) :
    Int.tmod (wrap64 (2147483579 - m)) 2147483579 = modP (modP (-1) * modP m) := by
  rw [w64 (by omega) (by omega), tmod_nn _ (by omega)]
  have e1 : modP (-1) = 2147483578 := rfl
  rw [e1, modP_id hm.1 hm.2]
  unfold modP
  omega

theorem powers_j0 (p : List Int) (a : Int) (hp : PL p 12) (h0 : 0 ≤ a ∧ a ≤ 1073741788) : Ex (fun k => laws_FnPowers.j0 k p a (pw 4 a.toNat) false) (fun r => r = true) := by
  have hl := hp.1
  have h6 := hp.rd 6 (by omega) (by omega)
  have h7 := hp.rd 7 (by omega) (by omega)
  have hn := pw_nn 4 a.toNat
  have hx := pw_lt 4 a.toNat
  have m1 := implMulP_eq (wrap64 ((rd p 6) * 7919)) (wrap64 ((rd p 7) * 6007))
  have m2 := specMulP_eq (wrap64 ((rd p 6) * 7919)) (wrap64 ((rd p 7) * 6007))
  obtain ⟨m, hm⟩ : ∃ m, m = modP (modP (wrap64 ((rd p 6) * 7919)) * modP (wrap64 ((rd p 7) * 6007))) := ⟨_, rfl⟩
  rw [← hm] at m1 m2
  have hmb : 0 ≤ m ∧ m < 2147483579 := by rw [hm]; exact ⟨modP_nn _, modP_lt _⟩
  have m3 := implMulP_eq (-1) m
  have m4 := tailPow p m hmb (fun _ _ => none)
  have P1 : Ev (fun k => impl_PowP.f k 4 1073741789) 1 := by
    have h := implPowP_ev 4 1073741789 (by omega) (by omega)
    have e := pw_ord
    unfold ordN at e
    rw [show (1073741789 : Int).toNat = 1073741789 from rfl, e] at h
    exact h
  have P2 : Ev (fun k => impl_PowP.f k 5 (-1)) 0 := ⟨0, fun k _ => implPowP_no 5 (-1) (by omega) k⟩
  have n1 := implNumberText_eq (pw 4 a.toNat) hn (by omega)
  have n2 := num4_read (pw 4 a.toNat) hn (by omega)
  have fin_ : Ex (fun k => (impl_PowP.f k 4 1073741789).bind fun t178 => (if t178 = 1 then ((spec_MulP.f (wrap64 ((rd p 6) * 7919)) (wrap64 ((rd p 7) * 6007))).bind fun t181 => (if m = t181 then ((impl_MulP.f (-1) m).bind fun t182 => (if t182 = (Int.tmod (wrap64 (2147483579 - m)) 2147483579) then ((impl_PowP.f k 5 (-1)).bind fun t183 => (some (t183 == 0))) else (some false))) else (some false))) else (some false))) (fun r => r = true) := by
    refine Ex.go P1 (Ex.pos rfl ?_)
    refine Ex.have_ m2 (Ex.pos rfl ?_)
    refine Ex.have_ m3 (Ex.pos m4.symm ?_)
    exact Ex.go P2 (Ex.now rfl)
  refine Ex.shift ?_
  simp only [laws_FnPowers.j0]
  refine Ex.neg (by decide) ?_
  refine Ex.have_ n1 (Ex.have_ n2 (Ex.pos (by omega) (Ex.pos (by omega) (Ex.have_ m1 (Ex.pos rfl (Ex.pos rfl ?_))))))
  refine Ex.ite (fun hc => fin_) (fun hc => ?_)
  have hne : a ≠ 0 := by
    intro q
    subst q
    exact hc rfl
  have hg := implInGroup_ev (pw 4 a.toNat)
  rw [pwr_grp a (by omega) h0.2] at hg
  exact Ex.go hg (Ex.pos rfl fin_)

theorem FnPowers : laws_FnPowers.Pure := by
  intro l0 hb hl _
  by_cases hbig : (l0.length : Int) > 1048576
  · exact ⟨0, by unfold laws_FnPowers.f laws_big.f; simp [hbig]⟩
  have hB : laws_big.f l0 = some false := by unfold laws_big.f; rw [decide_eq_false hbig]
  refine Ex.fin ?_
  unfold laws_FnPowers.f
  refine Ex.have_ hB (Ex.neg (by decide) ?_)
  refine Ex.bind (DrawPlaces_ex l0 (by omega)) (fun p hp => ?_)
  have hpl := hp.1
  have h0 := hp.rd 0 (by omega) (by omega)
  have h1 := hp.rd 1 (by omega) (by omega)
  have h2 := hp.rd 2 (by omega) (by omega)
  have h3 := hp.rd 3 (by omega) (by omega)
  have h4 := hp.rd 4 (by omega) (by omega)
  have h5 := hp.rd 5 (by omega) (by omega)
  have q1 := prod_b h0 h1
  have q2 := prod_b h3 h4
  obtain ⟨A, hA⟩ : ∃ A, A = rd p 0 * rd p 1 := ⟨_, rfl⟩
  obtain ⟨B, hB2⟩ : ∃ B, B = rd p 3 * rd p 4 := ⟨_, rfl⟩
  rw [← hA] at q1
  rw [← hB2] at q2
  have e1 : wrap64 A = A := w64 (by omega) (by omega)
  have e2 : wrap64 B = B := w64 (by omega) (by omega)
  have e3 : wrap64 (A + rd p 2) = A + rd p 2 := w64 (by omega) (by omega)
  have e4 : wrap64 (B + rd p 5) = B + rd p 5 := w64 (by omega) (by omega)
  have e5 : wrap64 (A + rd p 2 + (B + rd p 5)) = A + rd p 2 + (B + rd p 5) := w64 (by omega) (by omega)
  simp only [← hA, ← hB2, e1, e2, e3, e4, e5]
  have k1 := implPowP_ev 4 (A + rd p 2) (by omega) (by omega)
  have k2 := implPowP_ev 4 (B + rd p 5) (by omega) (by omega)
  have k3 := implPowP_ev 4 (A + rd p 2 + (B + rd p 5)) (by omega) (by omega)
  have k4 := specPowP_ev 4 (A + rd p 2) (by omega) (by omega)
  have k5 := implPowP_ev 4 (rd p 0) (by omega) (by omega)
  have k6 := implPowP_ev (pw 4 (rd p 0).toNat) (rd p 1) (by omega) (by omega)
  have k7 := implPowP_ev 4 A (by omega) (by omega)
  have s1 : modP (modP (pw 4 (A + rd p 2).toNat) * modP (pw 4 (B + rd p 5).toNat)) = pw 4 (A + rd p 2 + (B + rd p 5)).toNat := by
    rw [modP_mul, pw_add]
    congr 1
    omega
  have s2 : pw (pw 4 (rd p 0).toNat) (rd p 1).toNat = pw 4 A.toNat := by
    rw [pw_mul, hA, Int.toNat_mul h0.1 h1.1]
  have j := powers_j0 p (A + rd p 2) hp (by omega)
  refine Ex.pos (by omega) (Ex.pos (by omega) (Ex.pos (by omega) (Ex.pos (by omega) (Ex.pos (by omega) (Ex.pos (by omega) ?_)))))
  refine Ex.go k1 (Ex.go k2 (Ex.have_ (implMulP_eq _ _) (Ex.go k3 (Ex.pos s1 (Ex.go k4 (Ex.pos rfl (Ex.go k5 (Ex.go k6 (Ex.go k7 ?_)))))))))
  have sb : (pw (pw 4 (rd p 0).toNat) (rd p 1).toNat != pw 4 A.toNat) = false := bne_eq_false_iff_eq.mpr s2
  rw [sb]
  exact j

end Go.Proofs.Ytgepaoikhfofmab.Pure.FnPowers
namespace Go.Proofs.Ytgepaoikhfofmab.Pure
theorem FnPowers : Go.Proofs.Ytgepaoikhfofmab.PFnPowers.laws_FnPowers.Pure := Go.Proofs.Ytgepaoikhfofmab.Pure.FnPowers.FnPowers
end Go.Proofs.Ytgepaoikhfofmab.Pure
