/- PartsOf of the program (strings.Split) is PartsOf of the reference, for all texts; the row that it returns is its own. -/
import Derived.Test.YtgepaoikhfofmadDoorPFnExactPartsOfx3
import Derived.OpenShut
import Derived.Laws.BitsLemmas
import Derived.Laws.Strings
import Derived.Lib.ItoaNum
import Derived.Lib.SplitLaws
namespace Go.Proofs.YtgepaoikhfofmadDoor.Pure.FnExactPartsOf
open Go Go.RowKit Go.Proofs.YtgepaoikhfofmadDoor.PFnExactPartsOf Go.Proofs.YtgepaoikhfofmadDoorW.PrintWords Go.Proofs.YtgepaoikhfofmadDoorW.PrintLast Go.Proofs.YtgepaoikhfofmadDoorW.PrintMore
set_option linter.unusedVariables false
set_option linter.unusedSimpArgs false

theorem w64 {x : Int} (h0 : -9223372036854775808 ≤ x) (h1 : x ≤ 9223372036854775807) : wrap64 x = x := by unfold wrap64; omega

theorem wraps64 (n : Int) (h0 : 0 ≤ n) (h1 : n < 2 ^ 63) : IntKind.i64.wrap n = n := by rw [IntKind.wrap_i64]; omega

theorem wraps32 (n : Int) (h0 : 0 ≤ n) (h1 : n < 2 ^ 32) : IntKind.u32.wrap n = n := by rw [IntKind.wrap_u32]; omega

theorem and255 (x : Int) (h0 : 0 ≤ x) (h1 : x < 9223372036854775808) : Go.bits .and .i64 x 255 = x % 256 :=
  bits_mask .i64 63 (by decide) wraps64 8 (by decide) x h0 (by omega)

theorem mask32 (x : Int) (h0 : 0 ≤ x) (h1 : x < 9223372036854775808) : Go.bits .and .i64 x 4294967295 = x % 4294967296 :=
  bits_mask .i64 63 (by decide) wraps64 32 (by decide) x h0 (by omega)

theorem tdiv_nn {a : Int} (b : Int) (h : 0 ≤ a) : Int.tdiv a b = a / b := Int.tdiv_eq_ediv_of_nonneg h

theorem tmod_nn {a : Int} (b : Int) (h : 0 ≤ a) : Int.tmod a b = a % b := Int.tmod_eq_emod_of_nonneg h

theorem bt_nn (s : ByteArray) (i : Int) : 0 ≤ bt s i := (bt_range s i).1

theorem bt_le (s : ByteArray) (i : Int) : bt s i ≤ 255 := (bt_range s i).2

theorem ba_ext {a b : ByteArray} (h : a.data.toList = b.data.toList) : a = b := by
  cases a; cases b
  congr 1
  exact Array.toList_inj.mp h

theorem ba_data_append (a b : ByteArray) : (a ++ b).data.toList = a.data.toList ++ b.data.toList := by
  rw [ByteArray.data_append, Array.toList_append]

theorem ba_size (a : ByteArray) : a.data.toList.length = a.size := data_length a

theorem ba_append_size (a b : ByteArray) : (a ++ b).size = a.size + b.size := ByteArray.size_append

theorem strOf_append (a b : List Int) : strOfNums a ++ strOfNums b = strOfNums (a ++ b) := by
  apply ba_ext
  rw [ba_data_append, strOfNums_data, strOfNums_data, strOfNums_data, List.map_append]

def Bytes (xs : List Int) : Prop := ∀ x ∈ xs, 0 ≤ x ∧ x ≤ 255

theorem bytesOf_bytes (s : ByteArray) : Bytes (bytesOf s) := by
  intro x hx
  unfold bytesOf at hx
  obtain ⟨b, _, rfl⟩ := List.mem_map.mp hx
  have := b.toNat_lt
  omega

theorem bytesOf_strOf {xs : List Int} (h : Bytes xs) : bytesOf (strOfNums xs) = xs := by
  unfold bytesOf
  rw [strOfNums_data, List.map_map]
  conv => rhs; rw [← List.map_id xs]
  apply List.map_congr_left
  intro x hx
  have := h x hx
  simp only [Function.comp, id]
  rw [UInt8.toNat_ofNat_of_lt' (by simp [UInt8.size]; omega)]
  omega

theorem strOf_bytesOf (s : ByteArray) : strOfNums (bytesOf s) = s := by
  apply ba_ext
  rw [strOfNums_data]
  unfold bytesOf
  rw [List.map_map]
  conv => rhs; rw [← List.map_id s.data.toList]
  apply List.map_congr_left
  intro x _
  simp

theorem bytesOf_append (a b : ByteArray) : bytesOf (a ++ b) = bytesOf a ++ bytesOf b := by
  unfold bytesOf
  rw [ba_data_append, List.map_append]

theorem bytesOf_inj {a b : ByteArray} (h : bytesOf a = bytesOf b) : a = b := by
  rw [← strOf_bytesOf a, h, strOf_bytesOf]

theorem ba_toList (a : ByteArray) : a.toList = a.data.toList := by
  exact ByteArray.toList_eq a

theorem toList_inj {a b : ByteArray} (h : a.toList = b.toList) : a = b := by
  rw [ba_toList, ba_toList] at h
  exact ba_ext h

theorem bytesOf_extract (s : ByteArray) (i j : Nat) : bytesOf (s.extract i j) = ((bytesOf s).take j).drop i := by
  unfold bytesOf
  rw [ByteArray.data_extract, Array.toList_extract]
  simp [List.extract_eq_take_drop, List.drop_take, List.map_take, List.map_drop]

theorem bt_bytesOf (s : ByteArray) (i : Int) : bt s i = rd (bytesOf s) i := (rd_bytesOf s i).symm

theorem bt_strOf {xs : List Int} (h : Bytes xs) (i : Int) : bt (strOfNums xs) i = rd xs i := by
  rw [bt_bytesOf, bytesOf_strOf h]

theorem rd_pre (pre : List Int) (x : Int) (post : List Int) : rd (pre ++ x :: post) (pre.length : Int) = x := by
  unfold rd
  simp

theorem xor_bits (k : IntKind) (j : Nat) (hj : j ≤ k.bits) (hk : ∀ n : Int, 0 ≤ n → n < 2 ^ j → k.wrap n = n) (a b : Nat) (ha : a < 2 ^ j) (hb : b < 2 ^ j) :
    Go.bits .xor k a b = ((a ^^^ b : Nat) : Int) := by
  have hp : 2 ^ j ≤ 2 ^ k.bits := Nat.pow_le_pow_right (by decide) hj
  have ha' : a % 2 ^ k.bits = a := Nat.mod_eq_of_lt (Nat.lt_of_lt_of_le ha hp)
  have hb' : b % 2 ^ k.bits = b := Nat.mod_eq_of_lt (Nat.lt_of_lt_of_le hb hp)
  simp only [Go.bits, BitVec.ofInt_natCast, BitVec.toNat_xor, BitVec.toNat_ofNat, ha', hb']
  exact hk _ (Int.natCast_nonneg _) (by exact_mod_cast Nat.xor_lt_two_pow ha hb)

def X (a b : Int) : Int := ((a.toNat ^^^ b.toNat : Nat) : Int)
def A (a b : Int) : Int := ((a.toNat &&& b.toNat : Nat) : Int)
def In32 (x : Int) : Prop := 0 ≤ x ∧ x ≤ 4294967295

theorem X_in {a b : Int} (ha : In32 a) (hb : In32 b) : In32 (X a b) := by
  unfold In32 at *
  have h := Nat.xor_lt_two_pow (x := a.toNat) (y := b.toNat) (n := 32) (by omega) (by omega)
  unfold X
  omega

theorem A_in {a b : Int} (ha : In32 a) (hb : In32 b) : In32 (A a b) := by
  unfold In32 at *
  have h : a.toNat &&& b.toNat < 2 ^ 32 := Nat.and_lt_two_pow _ (by omega)
  unfold A
  omega

theorem xor64 {a b : Int} (ha : In32 a) (hb : In32 b) : Go.bits .xor .i64 a b = X a b := by
  unfold In32 at *
  have h := xor_bits .i64 63 (by decide) wraps64 a.toNat b.toNat (by omega) (by omega)
  rw [Int.toNat_of_nonneg ha.1, Int.toNat_of_nonneg hb.1] at h
  exact h

theorem xor32 {a b : Int} (ha : In32 a) (hb : In32 b) : Go.bits .xor .u32 a b = X a b := by
  unfold In32 at *
  have h := xor_bits .u32 32 (by decide) wraps32 a.toNat b.toNat (by omega) (by omega)
  rw [Int.toNat_of_nonneg ha.1, Int.toNat_of_nonneg hb.1] at h
  exact h

theorem and64 {a b : Int} (ha : In32 a) (hb : In32 b) : Go.bits .and .i64 a b = A a b := by
  unfold In32 at *
  have h := (bits_nat .i64 63 (by decide) wraps64 a.toNat b.toNat (by omega) (by omega)).1
  rw [Int.toNat_of_nonneg ha.1, Int.toNat_of_nonneg hb.1] at h
  exact h

theorem and32 {a b : Int} (ha : In32 a) (hb : In32 b) : Go.bits .and .u32 a b = A a b := by
  unfold In32 at *
  have h := (bits_nat .u32 32 (by decide) wraps32 a.toNat b.toNat (by omega) (by omega)).1
  rw [Int.toNat_of_nonneg ha.1, Int.toNat_of_nonneg hb.1] at h
  exact h

theorem or_comm64 {a b : Int} (ha : 0 ≤ a ∧ a < 2 ^ 63) (hb : 0 ≤ b ∧ b < 2 ^ 63) : Go.bits .or .i64 a b = Go.bits .or .i64 b a := by
  have h1 := (bits_nat .i64 63 (by decide) wraps64 a.toNat b.toNat (by omega) (by omega)).2
  have h2 := (bits_nat .i64 63 (by decide) wraps64 b.toNat a.toNat (by omega) (by omega)).2
  rw [Int.toNat_of_nonneg ha.1, Int.toNat_of_nonneg hb.1] at h1 h2
  rw [h1, h2, Nat.or_comm]

theorem not64 {a : Int} (ha : In32 a) : Go.bits .xor .i64 4294967295 a = 4294967295 - a := by
  have hc := ha
  unfold In32 at ha
  rw [xor64 (by unfold In32; omega) hc]
  unfold X
  have e : ∀ n : Nat, n < 2 ^ 32 → (2 ^ 32 - 1) ^^^ n = 2 ^ 32 - (n + 1) := by
    intro n hn
    apply Nat.eq_of_testBit_eq
    intro i
    rw [Nat.testBit_xor, Nat.testBit_two_pow_sub_one, Nat.testBit_two_pow_sub_succ hn]
    by_cases hi : i < 32
    · simp [hi]
    · have : n.testBit i = false := Nat.testBit_lt_two_pow (Nat.lt_of_lt_of_le hn (Nat.pow_le_pow_right (by decide) (by omega)))
      simp [hi, this]
  have h := e a.toNat (by omega)
  have e2 : (4294967295 : Int).toNat = 2 ^ 32 - 1 := by decide
  rw [e2, h]
  omega

def rot (x p q : Int) : Int := x / p + x % p * q

theorem rot_parts {x p q : Int} (hx : In32 x) (hp : 0 < p) (hq : 0 < q) (hpq : p * q = 4294967296) : 0 ≤ x / p ∧ x / p < q ∧ 0 ≤ x % p * q ∧ x % p * q ≤ 4294967296 - q := by
  unfold In32 at hx
  refine ⟨Int.ediv_nonneg hx.1 (by omega), Int.ediv_lt_of_lt_mul hp (by rw [Int.mul_comm, hpq]; omega), Int.mul_nonneg (Int.emod_nonneg _ (by omega)) (by omega), ?_⟩
  have h := Int.mul_le_mul_of_nonneg_right (Int.le_sub_one_of_lt (Int.emod_lt_of_pos x hp)) (show 0 ≤ q by omega)
  have e : (p - 1) * q = p * q - q := by rw [Int.sub_mul, Int.one_mul]
  omega

theorem rot_in {x p q : Int} (hx : In32 x) (hp : 0 < p) (hq : 0 < q) (hpq : p * q = 4294967296) : In32 (rot x p q) := by
  have := rot_parts hx hp hq hpq
  unfold In32 rot
  omega


def Ex {α : Type} (g : Nat → Option α) (P : α → Prop) : Prop := ∃ r, Ev g r ∧ P r

theorem Ex.mono {α : Type} {g : Nat → Option α} {P Q : α → Prop} (h : Ex g P) (hq : ∀ a, P a → Q a) : Ex g Q := by
  obtain ⟨r, h1, h2⟩ := h
  exact ⟨r, h1, hq r h2⟩
theorem Ex.bind {α β : Type} {g : Nat → Option α} {f : Nat → α → Option β} {P : α → Prop} {Q : β → Prop} (h : Ex g P) (k : ∀ a, P a → Ex (fun n => f n a) Q) : Ex (fun n => (g n).bind (f n)) Q := by
  obtain ⟨a, h1, h2⟩ := h
  obtain ⟨r, h3, h4⟩ := k a h2
  exact ⟨r, h1.bind h3, h4⟩
theorem Ex.ev {α : Type} {g : Nat → Option α} {r : α} {P : α → Prop} (h : Ev g r) (hp : P r) : Ex g P := ⟨r, h, hp⟩
theorem Ex.now {α : Type} {r : α} {P : α → Prop} (hp : P r) : Ex (fun _ => some r) P := ⟨r, Ev.now r, hp⟩
theorem Ex.eq {α : Type} {o : Option α} {r : α} {P : α → Prop} (h : o = some r) (hp : P r) : Ex (fun _ => o) P := by
  subst h
  exact Ex.now hp
theorem Ex.step {α : Type} {g f : Nat → Option α} {P : α → Prop} (h : ∀ k, g (k + 1) = f k) (k : Ex f P) : Ex g P := by
  obtain ⟨r, h1, h2⟩ := k
  exact ⟨r, h1.step h, h2⟩
theorem Ex.shift {α : Type} {g : Nat → Option α} {P : α → Prop} (k : Ex (fun n => g (n + 1)) P) : Ex g P := Ex.step (f := fun n => g (n + 1)) (fun _ => rfl) k
theorem Ex.ite {α : Type} {c : Prop} [Decidable c] {f g : Nat → Option α} {P : α → Prop} (h1 : c → Ex f P) (h2 : ¬ c → Ex g P) : Ex (fun k => if c then f k else g k) P := by
  by_cases h : c
  · simp only [if_pos h]
    exact h1 h
  · simp only [if_neg h]
    exact h2 h
theorem Ex.pos {α : Type} {c : Prop} [Decidable c] {f g : Nat → Option α} {P : α → Prop} (h : c) (h1 : Ex f P) : Ex (fun k => if c then f k else g k) P := by
  simp only [if_pos h]
  exact h1
theorem Ex.neg {α : Type} {c : Prop} [Decidable c] {f g : Nat → Option α} {P : α → Prop} (h : ¬ c) (h1 : Ex g P) : Ex (fun k => if c then f k else g k) P := by
  simp only [if_neg h]
  exact h1

theorem and255_range (x : Int) : 0 ≤ Go.bits .and .i64 x 255 ∧ Go.bits .and .i64 x 255 ≤ 255 := by
  have h : ((BitVec.ofInt IntKind.i64.bits x &&& BitVec.ofInt IntKind.i64.bits 255).toNat) ≤ 255 := by
    rw [BitVec.toNat_and]
    exact Nat.le_trans Nat.and_le_right (by decide)
  have e : Go.bits .and .i64 x 255 = IntKind.i64.wrap ((BitVec.ofInt IntKind.i64.bits x &&& BitVec.ofInt IntKind.i64.bits 255).toNat : Int) := rfl
  rw [e, wraps64 _ (by omega) (by omega)]
  omega

/-- A cursor's place. -/
def Pl (i : Int) : Prop := 0 ≤ i ∧ i ≤ 4611686018427387904


theorem Ex.go {α β : Type} {g : Nat → Option α} {f : Nat → α → Option β} {a : α} {Q : β → Prop} (h : Ev g a) (k : Ex (fun n => f n a) Q) : Ex (fun n => (g n).bind (f n)) Q :=
  Ex.bind (Ex.ev (P := fun q => q = a) h rfl) (fun q hq => by subst hq; exact k)
theorem Ex.have_ {α β : Type} {o : Option α} {f : Nat → α → Option β} {a : α} {Q : β → Prop} (h : o = some a) (k : Ex (fun n => f n a) Q) : Ex (fun n => o.bind (f n)) Q := by
  subst h
  exact k
theorem Ex.fin {g : Nat → Option Bool} (h : Ex g (fun r => r = true)) : ∃ k, g k = some true := by
  obtain ⟨r, ⟨K, hr⟩, rfl⟩ := h
  exact ⟨K, hr K (Nat.le_refl K)⟩
theorem Ex.toEv {α : Type} {g : Nat → Option α} {v : α} (h : Ex g (fun r => r = v)) : Ev g v := by
  obtain ⟨r, hr, rfl⟩ := h
  exact hr

theorem sameList (a b : ByteArray) : (a.toList == b.toList) = decide (a = b) := by
  by_cases h : a = b
  · rw [h, beq_self_eq_true, decide_eq_true rfl]
  · rw [decide_eq_false h]
    exact beq_eq_false_iff_ne.mpr (fun q => h (toList_inj q))

def digs (u : Nat) : List UInt8 := if u = 0 then [] else Lib.decDigits u

theorem digs_step (u : Nat) (h : u ≠ 0) : digs u = digs (u / 10) ++ [UInt8.ofNat (48 + u % 10)] := by
  unfold digs
  rw [if_neg h, Lib.decDigits]
  by_cases h10 : u < 10
  · rw [dif_pos h10, if_pos (show u / 10 = 0 by omega), show u % 10 = u by omega]
    rfl
  · rw [dif_neg h10, if_neg (show ¬ u / 10 = 0 by omega)]

def asB (l : List UInt8) : ByteArray := ⟨l.toArray⟩

theorem asB_append (a b : List UInt8) : asB a ++ asB b = asB (a ++ b) := by
  apply ba_ext
  rw [ba_data_append]
  simp [asB]

theorem asB_size (a : List UInt8) : (asB a).size = a.length := by
  unfold asB
  show (a.toArray).size = _
  simp

theorem asB_self (s : ByteArray) : asB s.data.toList = s := by
  apply ba_ext
  simp [asB]

theorem bt_data (s : ByteArray) (i : Nat) (h : i < s.size) : bt s (i : Int) = ((s.data.toList[i]'(by rw [ba_size]; exact h)).toNat : Int) := by
  unfold bt
  rw [dif_pos (by simpa using h)]
  rfl

theorem asB_one (d : Nat) (h : d ≤ 9) : strOfNums [(48 : Int) + (d : Int)] = asB [UInt8.ofNat (48 + d)] := by
  apply ba_ext
  rw [strOfNums_data]
  simp only [asB, List.map_cons, List.map_nil]
  congr 2

theorem itoa_len (n : Int) (h0 : -9223372036854775808 ≤ n) (h1 : n ≤ 9223372036854775807) : (asB (Lib.itoa n)).size ≤ 100 := by
  rw [asB_size]
  have hd : ∀ (m u : Nat), u < 10 ^ (m + 1) → (Lib.decDigits u).length ≤ m + 1 := by
    intro m
    induction m with
    | zero =>
      intro u hu
      rw [Lib.decDigits, dif_pos (by simpa using hu)]
      simp
    | succ m ih =>
      intro u hu
      rw [Lib.decDigits]
      by_cases h : u < 10
      · rw [dif_pos h]
        simp
      · rw [dif_neg h, List.length_append]
        have : (10 : Nat) ^ (m + 1 + 1) = 10 ^ (m + 1) * 10 := Nat.pow_succ _ _
        have := ih (u / 10) (by omega)
        simp only [List.length_singleton]
        omega
  unfold Lib.itoa
  split
  · have := hd 19 n.natAbs (by omega)
    simp only [List.length_cons]
    omega
  · have := hd 19 n.toNat (by omega)
    omega

/-- The pieces of a row of bytes between the instances of c; 'cur': what stands ahead of the row. -/
def cut (c : UInt8) : List UInt8 → List UInt8 → List (List UInt8)
  | cur, [] => [cur]
  | cur, x :: l => if x = c then cur :: cut c [] l else cut c (cur ++ [x]) l

theorem cut_hit (c x : UInt8) (cur l : List UInt8) (h : x = c) : cut c cur (x :: l) = cur :: cut c [] l := by
  rw [cut, if_pos h]

theorem cut_on (c x : UInt8) (cur l : List UInt8) (h : x ≠ c) : cut c cur (x :: l) = cut c (cur ++ [x]) l := by
  rw [cut, if_neg h]

theorem cut_head (c : UInt8) : ∀ (l cur : List UInt8), ∃ h t, cut c [] l = h :: t ∧ cut c cur l = (cur ++ h) :: t
  | [], cur => ⟨[], [], rfl, by simp [cut]⟩
  | x :: l, cur => by
    by_cases h : x = c
    · exact ⟨[], cut c [] l, by rw [cut_hit c x _ _ h], by rw [cut_hit c x _ _ h, List.append_nil]⟩
    · obtain ⟨h1, t1, e1, e2⟩ := cut_head c l [x]
      obtain ⟨h2, t2, e3, e4⟩ := cut_head c l (cur ++ [x])
      rw [e1] at e3
      obtain ⟨rfl, rfl⟩ := List.cons.inj e3
      refine ⟨[x] ++ h1, t1, ?_, ?_⟩
      · rw [cut_on c x _ _ h]
        exact e2
      · rw [cut_on c x _ _ h, e4]
        simp

theorem cut_le (c : UInt8) : ∀ (l cur p : List UInt8), p ∈ cut c cur l → p.length ≤ cur.length + l.length
  | [], cur, p, h => by
    simp only [cut, List.mem_singleton] at h
    subst h
    simp
  | x :: l, cur, p, h => by
    by_cases hx : x = c
    · rw [cut_hit c x _ _ hx] at h
      rcases List.mem_cons.mp h with rfl | h
      · simp
      · have := cut_le c l [] p h
        simp only [List.length_cons, List.length_nil] at this ⊢
        omega
    · rw [cut_on c x _ _ hx] at h
      have := cut_le c l (cur ++ [x]) p h
      simp only [List.length_append, List.length_cons, List.length_nil] at this ⊢
      omega

theorem cut_length (c : UInt8) : ∀ (l cur : List UInt8), 1 ≤ (cut c cur l).length ∧ (cut c cur l).length ≤ l.length + 1
  | [], cur => by simp [cut]
  | x :: l, cur => by
    by_cases hx : x = c
    · rw [cut_hit c x _ _ hx]
      have := cut_length c l []
      simp only [List.length_cons]
      omega
    · rw [cut_on c x _ _ hx]
      have := cut_length c l (cur ++ [x])
      simp only [List.length_cons]
      omega

theorem splitK_cut (c : UInt8) : ∀ l : List UInt8, Lib.splitK [c] 0 (Lib.count l [c]) l = cut c [] l
  | [] => by
    rw [Lib.count_one]
    rfl
  | x :: l => by
    have ih := splitK_cut c l
    by_cases h : x = c
    · subst h
      have hix : Lib.index (x :: l) [x] = 0 := by rw [Lib.index]; simp [List.isPrefixOf]
      rw [Lib.count_cons_eq, Nat.add_comm, Lib.splitK, hix, if_neg (by decide), cut_hit x x _ _ rfl, ← ih]
      simp
    · have hp : ([c] : List UInt8).isPrefixOf (x :: l) = false := by simp [List.isPrefixOf, Ne.symm h]
      have hix : Lib.index (x :: l) [c] = if Lib.index l [c] == -1 then -1 else Lib.index l [c] + 1 := by rw [Lib.index, hp]; simp
      obtain ⟨h1, t1, e1, e2⟩ := cut_head c l [x]
      rw [Lib.count_cons_ne x c l h, cut_on c x _ _ h, List.nil_append, e2]
      rw [e1] at ih
      generalize Lib.count l [c] = k at ih ⊢
      cases k with
      | zero =>
        simp only [Lib.splitK] at ih ⊢
        obtain ⟨rfl, rfl⟩ := List.cons.inj ih
        rfl
      | succ k =>
        have hge := Lib.index_ge l [c]
        simp only [Lib.splitK] at ih ⊢
        by_cases hm : Lib.index l [c] = -1
        · rw [hm] at ih hix
          rw [hix]
          simp only [beq_self_eq_true, if_true] at ih ⊢
          obtain ⟨rfl, rfl⟩ := List.cons.inj ih
          rfl
        · have hb : (Lib.index l [c] == -1) = false := beq_eq_false_iff_ne.mpr hm
          rw [hb] at ih hix
          rw [hix]
          have hb2 : (Lib.index l [c] + 1 == -1) = false := beq_eq_false_iff_ne.mpr (by omega)
          simp only [Bool.false_eq_true, if_false] at ih ⊢
          rw [hb2]
          simp only [Bool.false_eq_true, if_false]
          obtain ⟨j, hj⟩ : ∃ j : Nat, Lib.index l [c] = j := ⟨(Lib.index l [c]).toNat, by omega⟩
          rw [hj] at ih ⊢
          have ej : ((j : Int) + 1).toNat = j + 1 := by omega
          have ej2 : ((j : Int)).toNat = j := by omega
          rw [ej2] at ih
          rw [ej]
          obtain ⟨rfl, rfl⟩ := List.cons.inj ih
          simp [Nat.add_comm, Nat.add_left_comm]

theorem splitB_cut (t : ByteArray) (c : UInt8) : Lib.splitB ⟨#[c]⟩ 0 (Lib.countB t ⟨#[c]⟩) t = (cut c [] t.data.toList).map asB := by
  have h := Lib.splitB_data ⟨#[c]⟩ 0 (Lib.countB t ⟨#[c]⟩) t
  rw [show Lib.splitK (⟨#[c]⟩ : ByteArray).data.toList 0 (Lib.countB t ⟨#[c]⟩) t.data.toList = cut c [] t.data.toList from splitK_cut c t.data.toList] at h
  rw [← h, List.map_map]
  conv => lhs; rw [← List.map_id (Lib.splitB ⟨#[c]⟩ 0 (Lib.countB t ⟨#[c]⟩) t)]
  exact List.map_congr_left fun x _ => (asB_self x).symm

theorem strings_Split_eq (t : ByteArray) (c : UInt8) (ht : t.size ≤ 2000000) : strings_Split.f t (⟨#[c]⟩ : ByteArray) = some ((cut c [] t.data.toList).map asB) := by
  unfold strings_Split.f
  rw [if_pos ⟨by omega, by show 1 ≤ (⟨#[c]⟩ : ByteArray).size; exact Nat.le_refl 1⟩, splitB_cut]

theorem ext_asB (t : ByteArray) (b i : Nat) : t.extract b i = asB ((t.data.toList.take i).drop b) := by
  apply ba_ext
  rw [ByteArray.data_extract, Array.toList_extract]
  simp [asB, List.extract_eq_take_drop, List.drop_take]

theorem seg_snoc8 (l : List UInt8) (b i : Nat) (hb : b ≤ i) (h : i < l.length) : (l.take (i + 1)).drop b = (l.take i).drop b ++ [l[i]] := by
  rw [List.take_succ_eq_append_getElem h, List.drop_append_of_le_length (by simp; omega)]

theorem seg_none8 (l : List UInt8) (i : Nat) : (l.take i).drop i = [] := List.drop_eq_nil_of_le (by simp; omega)

theorem within_eq (a b c : Int) : impl_within.f a b c = some (decide (b ≤ a ∧ a ≤ c)) := by
  unfold impl_within.f
  by_cases h : a ≥ b
  · rw [if_pos h]; congr 1; simp; omega
  · rw [if_neg h]; congr 1; simp; omega


def ok8 (x : UInt8) : Bool := decide (32 ≤ x.toNat ∧ x.toNat ≤ 126)

def full8 (p : List UInt8) : Bool := decide (p ≠ [])

def fin10 (ps : List ByteArray) : List ByteArray × Bool := if ps.length > 10 then ([], false) else (ps, true)

/-- The parts of a line: the pieces between its spaces that are not empty. -/
def partsM (t : ByteArray) : List ByteArray × Bool :=
  if t.size > 600 then ([], false) else if t.data.toList.all ok8 = true then fin10 (((cut 32 [] t.data.toList).filter full8).map asB) else ([], false)

theorem specPO_l0 (t : ByteArray) (ht : t.size ≤ 600) : ∀ (m i b : Nat) (acc : List ByteArray), i + m = t.size → b ≤ i → acc.length ≤ i →
    Ex (fun k => spec_PartsOf.l0 k t acc (b : Int) (i : Int)) (fun r => r = if (t.data.toList.drop i).all ok8 = true then fin10 (acc ++ ((cut 32 ((t.data.toList.take i).drop b) (t.data.toList.drop i)).filter full8).map asB) else ([], false))
  | 0, i, b, acc, h, hb, ha => by
    have e1 : wrap64 ((i : Int) + 1) = ((i + 1 : Nat) : Int) := by
      rw [w64 (by omega) (by omega)]
      rfl
    rw [List.drop_eq_nil_of_le (show t.data.toList.length ≤ i by rw [ba_size]; omega)]
    have hcl : ((t.data.toList.take i).drop b).length = i - b := by
      rw [List.length_drop, List.length_take, ba_size]
      omega
    refine Ex.shift ?_
    simp only [spec_PartsOf.l0, e1]
    refine Ex.pos (by omega) (Ex.neg (by omega) (Ex.shift ?_))
    simp only [spec_PartsOf.j1, e1]
    refine Ex.neg (by decide) (Ex.neg (by omega) (Ex.shift ?_))
    simp only [spec_PartsOf.j2, e1]
    refine Ex.neg (by decide) ?_
    have fin : ∀ (ac : List ByteArray), Ex (fun k => spec_PartsOf.l0 k t ac ((i + 1 : Nat) : Int) ((i + 1 : Nat) : Int)) (fun r => r = fin10 ac) := by
      intro ac
      refine Ex.shift ?_
      simp only [spec_PartsOf.l0]
      refine Ex.neg (by omega) ?_
      unfold fin10
      refine Ex.ite (fun hg => ?_) (fun hg => ?_)
      · rw [if_pos (by omega)]
        exact Ex.now rfl
      · rw [if_neg (by omega)]
        exact Ex.now rfl
    by_cases hlt : b < i
    · refine Ex.pos (by omega) (Ex.pos (by omega) (Ex.pos (by omega) (Ex.pos (by omega) (Ex.pos (by omega) ?_))))
      refine (fin _).mono (fun r hr => ?_)
      have hf : full8 ((t.data.toList.take i).drop b) = true := by
        unfold full8
        rw [decide_eq_true_iff]
        intro q
        rw [q] at hcl
        simp only [List.length_nil] at hcl
        omega
      rw [hr, show (b : Int).toNat = b from rfl, show (i : Int).toNat = i from rfl, ext_asB]
      simp [cut, hf]
    · refine Ex.neg (by omega) ?_
      refine (fin _).mono (fun r hr => ?_)
      have hf : (t.data.toList.take i).drop b = [] := List.length_eq_zero_iff.mp (by omega)
      rw [hr, hf]
      simp [cut, full8]
  | m + 1, i, b, acc, h, hb, ha => by
    have e1 : wrap64 ((i : Int) + 1) = ((i + 1 : Nat) : Int) := by
      rw [w64 (by omega) (by omega)]
      rfl
    have hl : i < t.data.toList.length := by rw [ba_size]; omega
    have hx := bt_data t i (by omega)
    have hs := seg_snoc8 t.data.toList b i hb hl
    have hcl : ((t.data.toList.take i).drop b).length = i - b := by
      rw [List.length_drop, List.length_take, ba_size]
      omega
    rw [List.drop_eq_getElem_cons hl]
    generalize t.data.toList[i] = x at hx hs
    refine Ex.shift ?_
    simp only [spec_PartsOf.l0, e1, hx]
    refine Ex.pos (by omega) (Ex.pos (by omega) (Ex.pos (by omega) ?_))
    have bad : ok8 x = false → ∀ ac : List ByteArray, Ex (fun k => spec_PartsOf.j1 k t ac (b : Int) (i : Int) true) (fun r => r = if (x :: t.data.toList.drop (i + 1)).all ok8 = true then fin10 (acc ++ ((cut 32 ((t.data.toList.take i).drop b) (x :: t.data.toList.drop (i + 1))).filter full8).map asB) else ([], false)) := by
      intro hk ac
      rw [if_neg (by simp [hk])]
      refine Ex.shift ?_
      simp only [spec_PartsOf.j1]
      exact Ex.pos (by simp) (Ex.now rfl)
    by_cases h1 : (x.toNat : Int) < 32
    · exact Ex.pos h1 (bad (by unfold ok8; rw [decide_eq_false_iff_not]; omega) acc)
    refine Ex.neg h1 ?_
    by_cases h2 : (x.toNat : Int) > 126
    · rw [decide_eq_true h2]
      exact bad (by unfold ok8; rw [decide_eq_false_iff_not]; omega) acc
    rw [decide_eq_false h2]
    have hk : ok8 x = true := by
      unfold ok8
      rw [decide_eq_true_iff]
      omega
    rw [show (x :: t.data.toList.drop (i + 1)).all ok8 = (t.data.toList.drop (i + 1)).all ok8 by simp [hk]]
    refine Ex.shift ?_
    simp only [spec_PartsOf.j1, e1, hx]
    refine Ex.neg (by decide) (Ex.pos (by omega) (Ex.pos (by omega) (Ex.shift ?_)))
    simp only [spec_PartsOf.j2, e1]
    by_cases hc : x = 32
    · subst hc
      refine Ex.neg (by decide) ?_
      by_cases hlt : b < i
      · refine Ex.pos (by omega) (Ex.pos (by omega) (Ex.pos (by omega) (Ex.pos (by omega) (Ex.pos (by omega) ?_))))
        refine (specPO_l0 t ht m (i + 1) (i + 1) _ (by omega) (Nat.le_refl _) (by simp; omega)).mono (fun r hr => ?_)
        have hf : full8 ((t.data.toList.take i).drop b) = true := by
          unfold full8
          rw [decide_eq_true_iff]
          intro q
          rw [q] at hcl
          simp only [List.length_nil] at hcl
          omega
        rw [hr, seg_none8, cut_hit 32 32 _ _ rfl, show (b : Int).toNat = b from rfl, show (i : Int).toNat = i from rfl, ext_asB]
        simp [hf]
      · refine Ex.neg (by omega) ?_
        refine (specPO_l0 t ht m (i + 1) (i + 1) _ (by omega) (Nat.le_refl _) (by omega)).mono (fun r hr => ?_)
        have hf : (t.data.toList.take i).drop b = [] := List.length_eq_zero_iff.mp (by omega)
        rw [hr, seg_none8, cut_hit 32 32 _ _ rfl, hf]
        simp [full8]
    · refine Ex.pos (bne_iff_ne.mpr (fun q => hc (UInt8.toNat_inj.mp (by
        show x.toNat = 32
        omega)))) ?_
      rw [cut_on 32 x _ _ hc, ← hs]
      exact specPO_l0 t ht m (i + 1) b acc (by omega) (by omega) (by omega)

theorem specPO_ev (t : ByteArray) : Ev (fun k => spec_PartsOf.f k t) (partsM t) := by
  refine Ex.toEv ?_
  unfold spec_PartsOf.f partsM
  refine Ex.have_ rfl (Ex.ite (fun h => ?_) (fun h => ?_))
  · rw [if_pos (by omega)]
    exact Ex.now rfl
  · rw [if_neg (by omega)]
    refine (specPO_l0 t (by omega) t.size 0 0 [] (by omega) (by omega) (by simp)).mono (fun r hr => ?_)
    rw [hr]
    simp

theorem rdOf_drop (P : List ByteArray) (i : Nat) (h : i < P.length) : P.drop i = rdOf ByteArray.empty P (i : Int) :: P.drop (i + 1) := by
  rw [List.drop_eq_getElem_cons h]
  congr 1
  unfold rdOf
  simp [List.getD_eq_getElem?_getD, List.getElem?_eq_getElem h]

def fullB (p : ByteArray) : Bool := decide (p.toList ≠ [])

theorem implPO_l1 (P : List ByteArray) (hP : P.length ≤ 2000) : ∀ (m i : Nat) (acc : List ByteArray), i + m = P.length → acc.length ≤ i →
    Ex (fun k => impl_PartsOf.l1 k acc P (P.length : Int) (i : Int)) (fun r => r = fin10 (acc ++ (P.drop i).filter fullB))
  | 0, i, acc, h, ha => by
    rw [List.drop_eq_nil_of_le (by omega)]
    refine Ex.shift ?_
    simp only [impl_PartsOf.l1]
    refine Ex.neg (by omega) ?_
    unfold fin10
    rw [List.filter_nil, List.append_nil]
    refine Ex.ite (fun hg => ?_) (fun hg => ?_)
    · rw [if_pos (by omega)]
      exact Ex.now rfl
    · rw [if_neg (by omega)]
      exact Ex.now rfl
  | m + 1, i, acc, h, ha => by
    rw [rdOf_drop P i (by omega)]
    have e1 : wrap64 ((i : Int) + 1) = ((i + 1 : Nat) : Int) := by
      rw [w64 (by omega) (by omega)]
      rfl
    refine Ex.shift ?_
    simp only [impl_PartsOf.l1, e1]
    generalize rdOf ByteArray.empty P (i : Int) = p
    refine Ex.pos (by omega) (Ex.pos (by omega) (Ex.pos (by omega) (Ex.ite (fun he => ?_) (fun he => ?_))))
    · rw [List.filter_cons_of_neg (by unfold fullB; rw [decide_eq_true_iff]; exact fun q => q he)]
      exact implPO_l1 P hP m (i + 1) acc (by omega) (by omega)
    · rw [List.filter_cons_of_pos (by unfold fullB; rw [decide_eq_true_iff]; exact he)]
      refine Ex.pos (by omega) ?_
      refine (implPO_l1 P hP m (i + 1) (acc ++ [p]) (by omega) (by simp; omega)).mono (fun r hr => ?_)
      rw [hr]
      simp

theorem implPO_l0 (t : ByteArray) (ht : t.size ≤ 600) : ∀ (m i : Nat), i + m = t.size →
    Ex (fun k => impl_PartsOf.l0 k t [] (i : Int)) (fun r => r = if (t.data.toList.drop i).all ok8 = true then fin10 (((cut 32 [] t.data.toList).map asB).filter fullB) else ([], false))
  | 0, i, h => by
    rw [List.drop_eq_nil_of_le (show t.data.toList.length ≤ i by rw [ba_size]; omega)]
    have hc := (cut_length 32 t.data.toList []).2
    rw [ba_size] at hc
    rw [← List.length_map (f := asB)] at hc
    refine Ex.shift ?_
    simp only [impl_PartsOf.l0]
    refine Ex.neg (by omega) (Ex.have_ (strings_Split_eq t 32 (by omega)) ?_)
    generalize (cut 32 [] t.data.toList).map asB = P at hc
    refine (implPO_l1 P (by omega) P.length 0 [] (by omega) (by simp)).mono (fun r hr => ?_)
    rw [hr]
    simp
  | m + 1, i, h => by
    have e1 : wrap64 ((i : Int) + 1) = ((i + 1 : Nat) : Int) := by
      rw [w64 (by omega) (by omega)]
      rfl
    have hl : i < t.data.toList.length := by rw [ba_size]; omega
    have hx := bt_data t i (by omega)
    rw [List.drop_eq_getElem_cons hl]
    generalize t.data.toList[i] = x at hx
    have hxl := x.toNat_lt
    refine Ex.shift ?_
    simp only [impl_PartsOf.l0, e1, hx]
    rw [w64 (x := (x.toNat : Int)) (by omega) (by omega)]
    refine Ex.pos (by omega) (Ex.pos (by omega) (Ex.have_ (within_eq _ _ _) (Ex.ite (fun hk => ?_) (fun hk => ?_))))
    · have hk2 : ok8 x = true := by
        unfold ok8
        rw [decide_eq_true_iff] at hk ⊢
        omega
      rw [show (x :: t.data.toList.drop (i + 1)).all ok8 = (t.data.toList.drop (i + 1)).all ok8 by simp [hk2]]
      exact implPO_l0 t ht m (i + 1) (by omega)
    · have hk2 : ok8 x = false := by
        unfold ok8
        rw [decide_eq_true_iff] at hk
        rw [decide_eq_false_iff_not]
        omega
      rw [if_neg (by simp [hk2])]
      exact Ex.now rfl

theorem filter_asB : ∀ (L : List (List UInt8)), (L.map asB).filter fullB = (L.filter full8).map asB
  | [] => rfl
  | p :: L => by
    have e : fullB (asB p) = full8 p := by
      unfold fullB full8
      rw [ba_toList]
      rfl
    rw [List.map_cons]
    cases hp : full8 p with
    | true => rw [List.filter_cons_of_pos (by rw [e]; exact hp), List.filter_cons_of_pos hp, List.map_cons, filter_asB L]
    | false => rw [List.filter_cons_of_neg (by rw [e, hp]; decide), List.filter_cons_of_neg (by rw [hp]; decide), filter_asB L]

theorem implPO_ev (t : ByteArray) : Ev (fun k => impl_PartsOf.f k t) (partsM t) := by
  refine Ex.toEv ?_
  unfold impl_PartsOf.f partsM
  refine Ex.ite (fun h => ?_) (fun h => ?_)
  · rw [if_pos (by omega)]
    exact Ex.now rfl
  · rw [if_neg (by omega)]
    refine (implPO_l0 t (by omega) t.size 0 (by omega)).mono (fun r hr => ?_)
    rw [hr, List.drop_zero, filter_asB]

theorem partsM_length (t : ByteArray) : (partsM t).1.length ≤ 10 := by
  unfold partsM fin10
  split
  · simp
  · split
    · split
      · simp
      · simp only
        omega
    · simp

theorem eqS_l0 (P : List ByteArray) (hP : P.length ≤ 10) : ∀ (m i : Nat), i + m = P.length → Ex (fun k => laws_eqStringS.l0 k P P (i : Int)) (fun r => r = true)
  | 0, i, h => by
    refine Ex.shift ?_
    simp only [laws_eqStringS.l0]
    exact Ex.neg (by omega) (Ex.now rfl)
  | m + 1, i, h => by
    have e1 : wrap64 ((i : Int) + 1) = ((i + 1 : Nat) : Int) := by
      rw [w64 (by omega) (by omega)]
      rfl
    refine Ex.shift ?_
    simp only [laws_eqStringS.l0, e1]
    exact Ex.pos (by omega) (Ex.pos (by omega) (Ex.pos (by omega) (Ex.pos (by simp) (eqS_l0 P hP m (i + 1) (by omega)))))

theorem eqS_ev (P : List ByteArray) (hP : P.length ≤ 10) : Ev (fun k => laws_eqStringS.f k P P) true := by
  refine Ex.toEv ?_
  unfold laws_eqStringS.f
  exact Ex.pos rfl (eqS_l0 P hP P.length 0 (by omega))

theorem mark_l0 : ∀ (m : Nat) (n : Int) (s : ByteArray) (b : Nat), n < 10 ^ m → n ≤ 1000000000000 → s.size ≤ b → b + m ≤ 1000 → Ex (fun k => laws_markText.l0 k n s) (fun _ => True)
  | m, n, s, b, h1, h2, hs, hb => by
    by_cases hz : n > 0
    · obtain ⟨m, rfl⟩ : ∃ q, m = q + 1 := by
        cases m with
        | zero => simp at h1; omega
        | succ q => exact ⟨q, rfl⟩
      have hp : n / 10 < 10 ^ m := by
        have : (10 : Int) ^ (m + 1) = 10 ^ m * 10 := Int.pow_succ _ _
        omega
      have t2 : Int.tdiv n 10 = n / 10 := tdiv_nn _ (by omega)
      have t3 : wrap64 (n / 10) = n / 10 := w64 (by omega) (by omega)
      refine Ex.shift ?_
      simp only [laws_markText.l0, t2, t3]
      have z1 : ∀ v : Int, (strOfNums [v]).size = 1 := fun v => strOfNums_size _
      refine Ex.pos hz (Ex.have_ rfl (Ex.pos (by rw [z1]; omega) ?_))
      exact mark_l0 m (n / 10) _ (b + 1) hp (by omega) (by rw [ba_append_size, z1]; omega) (by omega)
    · refine Ex.shift ?_
      simp only [laws_markText.l0]
      exact Ex.neg hz (Ex.pos (by omega) (Ex.now trivial))
termination_by m => m

theorem mark_ev (n : Int) (h : n ≤ 1000) : ∃ v, Ev (fun k => laws_markText.f k n) v := by
  have hx : Ex (fun k => laws_markText.f k n) (fun _ => True) := by
    unfold laws_markText.f
    refine Ex.ite (fun _ => Ex.now trivial) (fun hn => ?_)
    refine mark_l0 4 n ⟨#[]⟩ 0 ?_ (by omega) (by decide) (by omega)
    rw [show (10 : Int) ^ 4 = 10000 by decide]
    omega
  obtain ⟨v, hv, _⟩ := hx
  exact ⟨v, hv⟩

/-- From a place on a row bears the marks f n, f (n + 1), .. -/
def Marked (f : Int → ByteArray) (P : List ByteArray) (i : Nat) (n : Int) : Prop := ∀ j, i ≤ j → j < P.length → rdOf ByteArray.empty P (j : Int) = f (n + ((j : Int) - (i : Int)))

theorem rdOf_set (P : List ByteArray) (i j : Nat) (v : ByteArray) : rdOf ByteArray.empty (P.set i v) (j : Int) = if i = j ∧ j < P.length then v else rdOf ByteArray.empty P (j : Int) := by
  unfold rdOf
  simp only [Int.toNat_natCast, List.getD_eq_getElem?_getD, List.getElem?_set]
  by_cases h : i = j
  · subst h
    by_cases hl : i < P.length
    · simp [hl]
    · simp [hl]
  · simp [h]

theorem markS_l0 (f : Int → ByteArray) (hf : ∀ n, n ≤ 1000 → Ev (fun k => laws_markText.f k n) (f n)) (L : Nat) (hL : L ≤ 10) : ∀ (m i : Nat) (n : Int) (P : List ByteArray), P.length = L → i + m = L → 1 ≤ n → n ≤ 1 + i →
    Ex (fun k => laws_markStringS.l0 k P n (i : Int)) (fun r => r.1 = n + m ∧ r.2.length = L ∧ Marked f r.2 i n ∧ ∀ j : Nat, j < i → rdOf ByteArray.empty r.2 (j : Int) = rdOf ByteArray.empty P (j : Int))
  | 0, i, n, P, hP, h, h0, h1 => by
    refine Ex.shift ?_
    simp only [laws_markStringS.l0]
    exact Ex.neg (by omega) (Ex.now ⟨by simp, hP, fun j a b => by
      have b' : j < P.length := b
      omega, fun j _ => rfl⟩)
  | m + 1, i, n, P, hP, h, h0, h1 => by
    have e1 : wrap64 ((i : Int) + 1) = ((i + 1 : Nat) : Int) := by
      rw [w64 (by omega) (by omega)]
      rfl
    have e2 : wrap64 (n + 1) = n + 1 := w64 (by omega) (by omega)
    refine Ex.shift ?_
    simp only [laws_markStringS.l0, e1, e2]
    refine Ex.pos (by omega) (Ex.go (hf n (by omega)) (Ex.pos (by omega) ?_))
    rw [show (i : Int).toNat = i from rfl]
    refine (markS_l0 f hf L hL m (i + 1) (n + 1) (P.set i (f n)) (by rw [List.length_set]; exact hP) (by omega) (by omega) (by omega)).mono (fun r hr => ?_)
    obtain ⟨r1, r2, r3, r4⟩ := hr
    refine ⟨by rw [r1]; omega, r2, fun j a b => ?_, fun j hj => ?_⟩
    · by_cases hij : j = i
      · subst hij
        rw [r4 j (by omega), rdOf_set, if_pos ⟨rfl, by omega⟩]
        congr 1
        omega
      · rw [r3 j (by omega) b]
        congr 1
        omega
    · rw [r4 j (by omega), rdOf_set, if_neg (by omega)]

theorem heldS_l0 (f : Int → ByteArray) (hf : ∀ n, n ≤ 1000 → Ev (fun k => laws_markText.f k n) (f n)) (P : List ByteArray) (hL : P.length ≤ 10) (hM : Marked f P 0 1) : ∀ (m i : Nat) (n : Int), i + m = P.length → n = 1 + i →
    Ex (fun k => laws_heldStringS.l0 k P n (i : Int)) (fun r => r = 1 + (P.length : Int))
  | 0, i, n, h, hn => by
    refine Ex.shift ?_
    simp only [laws_heldStringS.l0]
    exact Ex.neg (by omega) (Ex.now (by omega))
  | m + 1, i, n, h, hn => by
    have e1 : wrap64 ((i : Int) + 1) = ((i + 1 : Nat) : Int) := by
      rw [w64 (by omega) (by omega)]
      rfl
    have e2 : wrap64 (n + 1) = n + 1 := w64 (by omega) (by omega)
    have hr := hM i (by omega) (by omega)
    rw [show (1 : Int) + ((i : Int) - ((0 : Nat) : Int)) = n by omega] at hr
    refine Ex.shift ?_
    simp only [laws_heldStringS.l0, e1, e2, hr]
    exact Ex.pos (by omega) (Ex.pos (by omega) (Ex.go (hf n (by omega)) (Ex.pos rfl (heldS_l0 f hf P hL hM m (i + 1) (n + 1) (by omega) (by omega)))))

theorem heldS_ev (f : Int → ByteArray) (hf : ∀ n, n ≤ 1000 → Ev (fun k => laws_markText.f k n) (f n)) (P : List ByteArray) (hL : P.length ≤ 10) (hM : Marked f P 0 1) : Ev (fun k => laws_heldStringS.f k P 1) (1 + (P.length : Int)) := by
  refine Ex.toEv ?_
  unfold laws_heldStringS.f
  exact heldS_l0 f hf P hL hM P.length 0 1 (by omega) (by omega)

theorem FnExactPartsOf : laws_FnExactPartsOf.Pure := by
  intro t _
  have hm : ∀ n : Int, ∃ v, n ≤ 1000 → Ev (fun k => laws_markText.f k n) v := by
    intro n
    by_cases h : n ≤ 1000
    · obtain ⟨v, hv⟩ := mark_ev n h
      exact ⟨v, fun _ => hv⟩
    · exact ⟨ByteArray.empty, fun q => absurd q h⟩
  obtain ⟨f, hf⟩ := Classical.skolem.mp hm
  have hL := partsM_length t
  have hI := implPO_ev t
  have hE := eqS_ev (partsM t).1 hL
  refine Ex.fin ?_
  unfold laws_FnExactPartsOf.f
  refine Ex.ite (fun _ => Ex.now rfl) (fun h => ?_)
  refine Ex.go (specPO_ev t) (Ex.go hI (Ex.go hE (Ex.pos rfl (Ex.shift ?_))))
  simp only [laws_FnExactPartsOf.j0]
  refine Ex.neg (by simp) ?_
  have hK : Ex (fun k => laws_markStringS.f k (partsM t).1 1) (fun r => r.1 = 1 + ((partsM t).1.length : Int) ∧ r.2.length = (partsM t).1.length ∧ Marked f r.2 0 1) := by
    unfold laws_markStringS.f
    refine (markS_l0 f hf (partsM t).1.length hL (partsM t).1.length 0 1 (partsM t).1 rfl (by omega) (by omega) (by omega)).mono (fun r hr => ?_)
    exact ⟨hr.1, hr.2.1, hr.2.2.1⟩
  refine Ex.bind hK (fun r hr => ?_)
  obtain ⟨n, Q⟩ := r
  obtain ⟨h1, h2, h3⟩ := hr
  simp only at h1 h2 h3
  have hH := heldS_ev f hf Q (by omega) h3
  refine Ex.go hH (Ex.neg (by omega) (Ex.pos (by simp only; omega) (Ex.go hI (Ex.go hE (Ex.pos rfl (Ex.shift ?_))))))
  simp only [laws_FnExactPartsOf.j1]
  refine Ex.neg (by simp) (Ex.go hH (Ex.neg (by omega) (Ex.pos (by omega) (Ex.now rfl))))

end Go.Proofs.YtgepaoikhfofmadDoor.Pure.FnExactPartsOf
namespace Go.Proofs.YtgepaoikhfofmadDoor.Pure
theorem FnExactPartsOf : Go.Proofs.YtgepaoikhfofmadDoor.PFnExactPartsOf.laws_FnExactPartsOf.Pure := Go.Proofs.YtgepaoikhfofmadDoor.Pure.FnExactPartsOf.FnExactPartsOf
end Go.Proofs.YtgepaoikhfofmadDoor.Pure
