/- PrefixText of the program is PrefixText of the reference, for all prefixes, in the numerals that strconv.Itoa tells. -/
import Derived.Test.YtgepaoikhfofmadDoorPFnExactPrefixTextx
import Derived.OpenShut
import Derived.Laws.BitsLemmas
import Derived.Laws.Strings
import Derived.Lib.ItoaNum
namespace Go.Proofs.YtgepaoikhfofmadDoor.Pure.FnExactPrefixText
open Go Go.RowKit Go.Proofs.YtgepaoikhfofmadDoor.PFnExactPrefixText Go.Proofs.YtgepaoikhfofmadDoorW.PrintWords Go.Proofs.YtgepaoikhfofmadDoorW.PrintLast Go.Proofs.YtgepaoikhfofmadDoorW.PrintMore
set_option linter.unusedVariables false
set_option linter.unusedSimpArgs false

theorem w64 {x : Int} (h0 : -9223372036854775808 ≤ x) (h1 : x ≤ 9223372036854775807) : wrap64 x = x := by unfold wrap64; omega

theorem wraps64 (n : Int) (h0 : 0 ≤ n) (h1 : n < 2 ^ 63) : IntKind.i64.wrap n = n := by rw [IntKind.wrap_i64]; omega

theorem wraps32 (n : Int) (h0 : 0 ≤ n) (h1 : n < 2 ^ 32) : IntKind.u32.wrap n = n := by rw [IntKind.wrap_u32]; omega

theorem and255 (x : Int) (h0 : 0 ≤ x) (h1 : x < 9223372036854775808) : Go.bits .and .i64 x 255 = x % 256 :=
  bits_mask .i64 63 (by decide) wraps64 8 (by decide) x h0 (by omega)

theorem mask32 (x : Int) (h0 : 0 ≤ x) (h1 : x < 9223372036854775808) : Go.bits .and .i64 x 4294967295 = x % 4294967296 :=
  bits_mask .i64 63 (by decide) wraps64 32 (by decide) x h0 (by omega)

theorem tdiv_nn {a : Int} (b : Int) (h : 0 ≤ a) : Int.tdiv a b = a / b := Int.tdiv_eq_ediv_of_nonneg h

theorem tmod_nn {a : Int} (b : Int) (h : 0 ≤ a) : Int.tmod a b = a % b := Int.tmod_eq_emod_of_nonneg h

theorem bt_nn (s : ByteArray) (i : Int) : 0 ≤ bt s i := (bt_range s i).1

theorem bt_le (s : ByteArray) (i : Int) : bt s i ≤ 255 := (bt_range s i).2

theorem ba_ext {a b : ByteArray} (h : a.data.toList = b.data.toList) : a = b := by
  cases a; cases b
  congr 1
  exact Array.toList_inj.mp h

theorem ba_data_append (a b : ByteArray) : (a ++ b).data.toList = a.data.toList ++ b.data.toList := by
  rw [ByteArray.data_append, Array.toList_append]

theorem ba_size (a : ByteArray) : a.data.toList.length = a.size := data_length a

theorem ba_append_size (a b : ByteArray) : (a ++ b).size = a.size + b.size := ByteArray.size_append

theorem strOf_append (a b : List Int) : strOfNums a ++ strOfNums b = strOfNums (a ++ b) := by
  apply ba_ext
  rw [ba_data_append, strOfNums_data, strOfNums_data, strOfNums_data, List.map_append]

def Bytes (xs : List Int) : Prop := ∀ x ∈ xs, 0 ≤ x ∧ x ≤ 255

theorem bytesOf_bytes (s : ByteArray) : Bytes (bytesOf s) := by
  intro x hx
  unfold bytesOf at hx
  obtain ⟨b, _, rfl⟩ := List.mem_map.mp hx
  have := b.toNat_lt
  omega

theorem bytesOf_strOf {xs : List Int} (h : Bytes xs) : bytesOf (strOfNums xs) = xs := by
  unfold bytesOf
  rw [strOfNums_data, List.map_map]
  conv => rhs; rw [← List.map_id xs]
  apply List.map_congr_left
  intro x hx
  have := h x hx
  simp only [Function.comp, id]
  rw [UInt8.toNat_ofNat_of_lt' (by simp [UInt8.size]; omega)]
  omega

theorem strOf_bytesOf (s : ByteArray) : strOfNums (bytesOf s) = s := by
  apply ba_ext
  rw [strOfNums_data]
  unfold bytesOf
  rw [List.map_map]
  conv => rhs; rw [← List.map_id s.data.toList]
  apply List.map_congr_left
  intro x _
  simp

theorem bytesOf_append (a b : ByteArray) : bytesOf (a ++ b) = bytesOf a ++ bytesOf b := by
  unfold bytesOf
  rw [ba_data_append, List.map_append]

theorem bytesOf_inj {a b : ByteArray} (h : bytesOf a = bytesOf b) : a = b := by
  rw [← strOf_bytesOf a, h, strOf_bytesOf]

theorem ba_toList (a : ByteArray) : a.toList = a.data.toList := by
  exact ByteArray.toList_eq a

theorem toList_inj {a b : ByteArray} (h : a.toList = b.toList) : a = b := by
  rw [ba_toList, ba_toList] at h
  exact ba_ext h

theorem bytesOf_extract (s : ByteArray) (i j : Nat) : bytesOf (s.extract i j) = ((bytesOf s).take j).drop i := by
  unfold bytesOf
  rw [ByteArray.data_extract, Array.toList_extract]
  simp [List.extract_eq_take_drop, List.drop_take, List.map_take, List.map_drop]

theorem bt_bytesOf (s : ByteArray) (i : Int) : bt s i = rd (bytesOf s) i := (rd_bytesOf s i).symm

theorem bt_strOf {xs : List Int} (h : Bytes xs) (i : Int) : bt (strOfNums xs) i = rd xs i := by
  rw [bt_bytesOf, bytesOf_strOf h]

theorem rd_pre (pre : List Int) (x : Int) (post : List Int) : rd (pre ++ x :: post) (pre.length : Int) = x := by
  unfold rd
  simp

theorem xor_bits (k : IntKind) (j : Nat) (hj : j ≤ k.bits) (hk : ∀ n : Int, 0 ≤ n → n < 2 ^ j → k.wrap n = n) (a b : Nat) (ha : a < 2 ^ j) (hb : b < 2 ^ j) :
    Go.bits .xor k a b = ((a ^^^ b : Nat) : Int) := by
  have hp : 2 ^ j ≤ 2 ^ k.bits := Nat.pow_le_pow_right (by decide) hj
  have ha' : a % 2 ^ k.bits = a := Nat.mod_eq_of_lt (Nat.lt_of_lt_of_le ha hp)
  have hb' : b % 2 ^ k.bits = b := Nat.mod_eq_of_lt (Nat.lt_of_lt_of_le hb hp)
  simp only [Go.bits, BitVec.ofInt_natCast, BitVec.toNat_xor, BitVec.toNat_ofNat, ha', hb']
  exact hk _ (Int.natCast_nonneg _) (by exact_mod_cast Nat.xor_lt_two_pow ha hb)

def X (a b : Int) : Int := ((a.toNat ^^^ b.toNat : Nat) : Int)
def A (a b : Int) : Int := ((a.toNat &&& b.toNat : Nat) : Int)
def In32 (x : Int) : Prop := 0 ≤ x ∧ x ≤ 4294967295

theorem X_in {a b : Int} (ha : In32 a) (hb : In32 b) : In32 (X a b) := by
  unfold In32 at *
  have h := Nat.xor_lt_two_pow (x := a.toNat) (y := b.toNat) (n := 32) (by omega) (by omega)
  unfold X
  omega

theorem A_in {a b : Int} (ha : In32 a) (hb : In32 b) : In32 (A a b) := by
  unfold In32 at *
  have h : a.toNat &&& b.toNat < 2 ^ 32 := Nat.and_lt_two_pow _ (by omega)
  unfold A
  omega

theorem xor64 {a b : Int} (ha : In32 a) (hb : In32 b) : Go.bits .xor .i64 a b = X a b := by
  unfold In32 at *
  have h := xor_bits .i64 63 (by decide) wraps64 a.toNat b.toNat (by omega) (by omega)
  rw [Int.toNat_of_nonneg ha.1, Int.toNat_of_nonneg hb.1] at h
  exact h

theorem xor32 {a b : Int} (ha : In32 a) (hb : In32 b) : Go.bits .xor .u32 a b = X a b := by
  unfold In32 at *
  have h := xor_bits .u32 32 (by decide) wraps32 a.toNat b.toNat (by omega) (by omega)
  rw [Int.toNat_of_nonneg ha.1, Int.toNat_of_nonneg hb.1] at h
  exact h

theorem and64 {a b : Int} (ha : In32 a) (hb : In32 b) : Go.bits .and .i64 a b = A a b := by
  unfold In32 at *
  have h := (bits_nat .i64 63 (by decide) wraps64 a.toNat b.toNat (by omega) (by omega)).1
  rw [Int.toNat_of_nonneg ha.1, Int.toNat_of_nonneg hb.1] at h
  exact h

theorem and32 {a b : Int} (ha : In32 a) (hb : In32 b) : Go.bits .and .u32 a b = A a b := by
  unfold In32 at *
  have h := (bits_nat .u32 32 (by decide) wraps32 a.toNat b.toNat (by omega) (by omega)).1
  rw [Int.toNat_of_nonneg ha.1, Int.toNat_of_nonneg hb.1] at h
  exact h

theorem or_comm64 {a b : Int} (ha : 0 ≤ a ∧ a < 2 ^ 63) (hb : 0 ≤ b ∧ b < 2 ^ 63) : Go.bits .or .i64 a b = Go.bits .or .i64 b a := by
  have h1 := (bits_nat .i64 63 (by decide) wraps64 a.toNat b.toNat (by omega) (by omega)).2
  have h2 := (bits_nat .i64 63 (by decide) wraps64 b.toNat a.toNat (by omega) (by omega)).2
  rw [Int.toNat_of_nonneg ha.1, Int.toNat_of_nonneg hb.1] at h1 h2
  rw [h1, h2, Nat.or_comm]

theorem not64 {a : Int} (ha : In32 a) : Go.bits .xor .i64 4294967295 a = 4294967295 - a := by
  have hc := ha
  unfold In32 at ha
  rw [xor64 (by unfold In32; omega) hc]
  unfold X
  have e : ∀ n : Nat, n < 2 ^ 32 → (2 ^ 32 - 1) ^^^ n = 2 ^ 32 - (n + 1) := by
    intro n hn
    apply Nat.eq_of_testBit_eq
    intro i
    rw [Nat.testBit_xor, Nat.testBit_two_pow_sub_one, Nat.testBit_two_pow_sub_succ hn]
    by_cases hi : i < 32
    · simp [hi]
    · have : n.testBit i = false := Nat.testBit_lt_two_pow (Nat.lt_of_lt_of_le hn (Nat.pow_le_pow_right (by decide) (by omega)))
      simp [hi, this]
  have h := e a.toNat (by omega)
  have e2 : (4294967295 : Int).toNat = 2 ^ 32 - 1 := by decide
  rw [e2, h]
  omega

def rot (x p q : Int) : Int := x / p + x % p * q

theorem rot_parts {x p q : Int} (hx : In32 x) (hp : 0 < p) (hq : 0 < q) (hpq : p * q = 4294967296) : 0 ≤ x / p ∧ x / p < q ∧ 0 ≤ x % p * q ∧ x % p * q ≤ 4294967296 - q := by
  unfold In32 at hx
  refine ⟨Int.ediv_nonneg hx.1 (by omega), Int.ediv_lt_of_lt_mul hp (by rw [Int.mul_comm, hpq]; omega), Int.mul_nonneg (Int.emod_nonneg _ (by omega)) (by omega), ?_⟩
  have h := Int.mul_le_mul_of_nonneg_right (Int.le_sub_one_of_lt (Int.emod_lt_of_pos x hp)) (show 0 ≤ q by omega)
  have e : (p - 1) * q = p * q - q := by rw [Int.sub_mul, Int.one_mul]
  omega

theorem rot_in {x p q : Int} (hx : In32 x) (hp : 0 < p) (hq : 0 < q) (hpq : p * q = 4294967296) : In32 (rot x p q) := by
  have := rot_parts hx hp hq hpq
  unfold In32 rot
  omega


def Ex {α : Type} (g : Nat → Option α) (P : α → Prop) : Prop := ∃ r, Ev g r ∧ P r

theorem Ex.mono {α : Type} {g : Nat → Option α} {P Q : α → Prop} (h : Ex g P) (hq : ∀ a, P a → Q a) : Ex g Q := by
  obtain ⟨r, h1, h2⟩ := h
  exact ⟨r, h1, hq r h2⟩
theorem Ex.bind {α β : Type} {g : Nat → Option α} {f : Nat → α → Option β} {P : α → Prop} {Q : β → Prop} (h : Ex g P) (k : ∀ a, P a → Ex (fun n => f n a) Q) : Ex (fun n => (g n).bind (f n)) Q := by
  obtain ⟨a, h1, h2⟩ := h
  obtain ⟨r, h3, h4⟩ := k a h2
  exact ⟨r, h1.bind h3, h4⟩
theorem Ex.ev {α : Type} {g : Nat → Option α} {r : α} {P : α → Prop} (h : Ev g r) (hp : P r) : Ex g P := ⟨r, h, hp⟩
theorem Ex.now {α : Type} {r : α} {P : α → Prop} (hp : P r) : Ex (fun _ => some r) P := ⟨r, Ev.now r, hp⟩
theorem Ex.eq {α : Type} {o : Option α} {r : α} {P : α → Prop} (h : o = some r) (hp : P r) : Ex (fun _ => o) P := by
  subst h
  exact Ex.now hp
theorem Ex.step {α : Type} {g f : Nat → Option α} {P : α → Prop} (h : ∀ k, g (k + 1) = f k) (k : Ex f P) : Ex g P := by
  obtain ⟨r, h1, h2⟩ := k
  exact ⟨r, h1.step h, h2⟩
theorem Ex.shift {α : Type} {g : Nat → Option α} {P : α → Prop} (k : Ex (fun n => g (n + 1)) P) : Ex g P := Ex.step (f := fun n => g (n + 1)) (fun _ => rfl) k
theorem Ex.ite {α : Type} {c : Prop} [Decidable c] {f g : Nat → Option α} {P : α → Prop} (h1 : c → Ex f P) (h2 : ¬ c → Ex g P) : Ex (fun k => if c then f k else g k) P := by
  by_cases h : c
  · simp only [if_pos h]
    exact h1 h
  · simp only [if_neg h]
    exact h2 h
theorem Ex.pos {α : Type} {c : Prop} [Decidable c] {f g : Nat → Option α} {P : α → Prop} (h : c) (h1 : Ex f P) : Ex (fun k => if c then f k else g k) P := by
  simp only [if_pos h]
  exact h1
theorem Ex.neg {α : Type} {c : Prop} [Decidable c] {f g : Nat → Option α} {P : α → Prop} (h : ¬ c) (h1 : Ex g P) : Ex (fun k => if c then f k else g k) P := by
  simp only [if_neg h]
  exact h1

theorem and255_range (x : Int) : 0 ≤ Go.bits .and .i64 x 255 ∧ Go.bits .and .i64 x 255 ≤ 255 := by
  have h : ((BitVec.ofInt IntKind.i64.bits x &&& BitVec.ofInt IntKind.i64.bits 255).toNat) ≤ 255 := by
    rw [BitVec.toNat_and]
    exact Nat.le_trans Nat.and_le_right (by decide)
  have e : Go.bits .and .i64 x 255 = IntKind.i64.wrap ((BitVec.ofInt IntKind.i64.bits x &&& BitVec.ofInt IntKind.i64.bits 255).toNat : Int) := rfl
  rw [e, wraps64 _ (by omega) (by omega)]
  omega

/-- A cursor's place. -/
def Pl (i : Int) : Prop := 0 ≤ i ∧ i ≤ 4611686018427387904


theorem Ex.go {α β : Type} {g : Nat → Option α} {f : Nat → α → Option β} {a : α} {Q : β → Prop} (h : Ev g a) (k : Ex (fun n => f n a) Q) : Ex (fun n => (g n).bind (f n)) Q :=
  Ex.bind (Ex.ev (P := fun q => q = a) h rfl) (fun q hq => by subst hq; exact k)
theorem Ex.have_ {α β : Type} {o : Option α} {f : Nat → α → Option β} {a : α} {Q : β → Prop} (h : o = some a) (k : Ex (fun n => f n a) Q) : Ex (fun n => o.bind (f n)) Q := by
  subst h
  exact k
theorem Ex.fin {g : Nat → Option Bool} (h : Ex g (fun r => r = true)) : ∃ k, g k = some true := by
  obtain ⟨r, ⟨K, hr⟩, rfl⟩ := h
  exact ⟨K, hr K (Nat.le_refl K)⟩
theorem Ex.toEv {α : Type} {g : Nat → Option α} {v : α} (h : Ex g (fun r => r = v)) : Ev g v := by
  obtain ⟨r, hr, rfl⟩ := h
  exact hr

theorem sameList (a b : ByteArray) : (a.toList == b.toList) = decide (a = b) := by
  by_cases h : a = b
  · rw [h, beq_self_eq_true, decide_eq_true rfl]
  · rw [decide_eq_false h]
    exact beq_eq_false_iff_ne.mpr (fun q => h (toList_inj q))

def digs (u : Nat) : List UInt8 := if u = 0 then [] else Lib.decDigits u

theorem digs_step (u : Nat) (h : u ≠ 0) : digs u = digs (u / 10) ++ [UInt8.ofNat (48 + u % 10)] := by
  unfold digs
  rw [if_neg h, Lib.decDigits]
  by_cases h10 : u < 10
  · rw [dif_pos h10, if_pos (show u / 10 = 0 by omega), show u % 10 = u by omega]
    rfl
  · rw [dif_neg h10, if_neg (show ¬ u / 10 = 0 by omega)]

def asB (l : List UInt8) : ByteArray := ⟨l.toArray⟩

theorem asB_append (a b : List UInt8) : asB a ++ asB b = asB (a ++ b) := by
  apply ba_ext
  rw [ba_data_append]
  simp [asB]

theorem asB_size (a : List UInt8) : (asB a).size = a.length := by
  unfold asB
  show (a.toArray).size = _
  simp

theorem asB_self (s : ByteArray) : asB s.data.toList = s := by
  apply ba_ext
  simp [asB]

theorem asB_one (d : Nat) (h : d ≤ 9) : strOfNums [(48 : Int) + (d : Int)] = asB [UInt8.ofNat (48 + d)] := by
  apply ba_ext
  rw [strOfNums_data]
  simp only [asB, List.map_cons, List.map_nil]
  congr 2

theorem figD (d : Nat) (h : d ≤ 9) : spec_l01Figure.f (d : Int) = some ((48 : Int) + (d : Int)) := by
  unfold spec_l01Figure.f
  rw [if_pos (by omega)]
  congr 1
  unfold wrap64
  omega

theorem dec_pos (neg : Bool) : ∀ (m u : Nat) (l : List UInt8), u < 10 ^ m → u ≤ 9223372036854775808 → l.length + m ≤ 1000 →
    Ex (fun k => spec_Decimal.l0 k (-(u : Int)) neg (asB l)) (fun r => r = asB ((if neg then [45] else []) ++ (digs u ++ l)))
  | m, u, l, hu, hb, hl => by
    have hz := asB_size l
    by_cases h : u = 0
    · subst h
      refine Ex.shift ?_
      simp only [spec_Decimal.l0]
      refine Ex.pos (by omega) (Ex.ite (fun hn => Ex.pos (by omega) (Ex.now ?_)) (fun hn => Ex.now ?_))
      · rw [hn, if_pos rfl, show digs 0 = [] from rfl, List.nil_append]
        exact asB_append [45] l
      · rw [if_neg hn, show digs 0 = [] from rfl, List.nil_append, List.nil_append]
    · obtain ⟨m, rfl⟩ : ∃ q, m = q + 1 := by
        cases m with
        | zero => simp at hu; omega
        | succ q => exact ⟨q, rfl⟩
      have hp : u / 10 < 10 ^ m := by
        have : (10 : Nat) ^ (m + 1) = 10 ^ m * 10 := Nat.pow_succ _ _
        omega
      have t1 : Int.tmod (-(u : Int)) 10 = -((u % 10 : Nat) : Int) := by
        rw [Int.neg_tmod, tmod_nn _ (by omega)]
        omega
      have t2 : Int.tdiv (-(u : Int)) 10 = -((u / 10 : Nat) : Int) := by
        rw [Int.neg_tdiv, tdiv_nn _ (by omega)]
        omega
      have t3 : wrap64 (-((u / 10 : Nat) : Int)) = -((u / 10 : Nat) : Int) := w64 (by omega) (by omega)
      have t4 : wrap64 (-(-((u % 10 : Nat) : Int))) = ((u % 10 : Nat) : Int) := by
        rw [Int.neg_neg]
        exact w64 (by omega) (by omega)
      have ih := dec_pos neg m (u / 10) ([UInt8.ofNat (48 + u % 10)] ++ l) hp (by omega) (by simp; omega)
      rw [← asB_append] at ih
      rw [digs_step u h, List.append_assoc]
      have z1 : (strOfNums [(48 : Int) + ((u % 10 : Nat) : Int)]).size = 1 := strOfNums_size _
      refine Ex.shift ?_
      simp only [spec_Decimal.l0, t1, t2, t3, t4]
      refine Ex.neg (by omega) (Ex.ite (fun hlt => ?_) (fun hge => ?_))
      · refine Ex.have_ (figD _ (by omega)) (Ex.have_ rfl (Ex.pos (by omega) ?_))
        rw [asB_one _ (by omega)]
        exact ih
      · have h0 : u % 10 = 0 := by omega
        rw [h0] at z1 ih ⊢
        refine Ex.have_ (show spec_l01Figure.f (-((0 : Nat) : Int)) = some ((48 : Int) + ((0 : Nat) : Int)) from figD 0 (by omega)) (Ex.have_ rfl (Ex.pos (by omega) ?_))
        rw [asB_one 0 (by omega)]
        exact ih
termination_by m => m

theorem dec_nn (neg : Bool) : ∀ (m u : Nat) (l : List UInt8), u < 10 ^ m → u ≤ 9223372036854775807 → l.length + m ≤ 1000 →
    Ex (fun k => spec_Decimal.l0 k (u : Int) neg (asB l)) (fun r => r = asB ((if neg then [45] else []) ++ (digs u ++ l)))
  | m, u, l, hu, hb, hl => by
    have hz := asB_size l
    by_cases h : u = 0
    · subst h
      refine Ex.shift ?_
      simp only [spec_Decimal.l0]
      refine Ex.pos (by omega) (Ex.ite (fun hn => Ex.pos (by omega) (Ex.now ?_)) (fun hn => Ex.now ?_))
      · rw [hn, if_pos rfl, show digs 0 = [] from rfl, List.nil_append]
        exact asB_append [45] l
      · rw [if_neg hn, show digs 0 = [] from rfl, List.nil_append, List.nil_append]
    · obtain ⟨m, rfl⟩ : ∃ q, m = q + 1 := by
        cases m with
        | zero => simp at hu; omega
        | succ q => exact ⟨q, rfl⟩
      have hp : u / 10 < 10 ^ m := by
        have : (10 : Nat) ^ (m + 1) = 10 ^ m * 10 := Nat.pow_succ _ _
        omega
      have t1 : Int.tmod (u : Int) 10 = ((u % 10 : Nat) : Int) := by
        rw [tmod_nn _ (by omega)]
        omega
      have t2 : Int.tdiv (u : Int) 10 = ((u / 10 : Nat) : Int) := by
        rw [tdiv_nn _ (by omega)]
        omega
      have t3 : wrap64 ((u / 10 : Nat) : Int) = ((u / 10 : Nat) : Int) := w64 (by omega) (by omega)
      have ih := dec_nn neg m (u / 10) ([UInt8.ofNat (48 + u % 10)] ++ l) hp (by omega) (by simp; omega)
      rw [← asB_append] at ih
      rw [digs_step u h, List.append_assoc]
      have z1 : (strOfNums [(48 : Int) + ((u % 10 : Nat) : Int)]).size = 1 := strOfNums_size _
      refine Ex.shift ?_
      simp only [spec_Decimal.l0, t1, t2, t3]
      refine Ex.neg (by omega) (Ex.neg (by omega) ?_)
      refine Ex.have_ (figD _ (by omega)) (Ex.have_ rfl (Ex.pos (by omega) ?_))
      rw [asB_one _ (by omega)]
      exact ih
termination_by m => m

theorem Decimal_ev (n : Int) (h0 : -9223372036854775808 ≤ n) (h1 : n ≤ 9223372036854775807) : Ev (fun k => spec_Decimal.f k n) (asB (Lib.itoa n)) := by
  refine Ex.toEv ?_
  unfold spec_Decimal.f
  by_cases hz : n = 0
  · subst hz
    refine Ex.pos rfl (Ex.now ?_)
    have e : Lib.itoa 0 = [48] := by decide +kernel
    rw [e]
    rfl
  refine Ex.neg hz ?_
  by_cases hn : n < 0
  · obtain ⟨u, rfl⟩ : ∃ u : Nat, n = -(u : Int) := ⟨n.natAbs, by omega⟩
    rw [decide_eq_true hn]
    refine (dec_pos true 20 u [] (by omega) (by omega) (by simp)).mono (fun r hr => ?_)
    rw [hr, if_pos rfl, List.append_nil]
    unfold Lib.itoa digs
    rw [if_pos hn, if_neg (by omega)]
    have e : (-(u : Int)).natAbs = u := by omega
    rw [e]
    rfl
  · obtain ⟨u, rfl⟩ : ∃ u : Nat, n = (u : Int) := ⟨n.toNat, by omega⟩
    rw [decide_eq_false hn]
    refine (dec_nn false 20 u [] (by omega) (by omega) (by simp)).mono (fun r hr => ?_)
    rw [hr, if_neg (by decide), List.append_nil, List.nil_append]
    unfold Lib.itoa digs
    rw [if_neg hn, if_neg (by omega), Int.toNat_natCast]

theorem itoa_len (n : Int) (h0 : -9223372036854775808 ≤ n) (h1 : n ≤ 9223372036854775807) : (asB (Lib.itoa n)).size ≤ 100 := by
  rw [asB_size]
  have hd : ∀ (m u : Nat), u < 10 ^ (m + 1) → (Lib.decDigits u).length ≤ m + 1 := by
    intro m
    induction m with
    | zero =>
      intro u hu
      rw [Lib.decDigits, dif_pos (by simpa using hu)]
      simp
    | succ m ih =>
      intro u hu
      rw [Lib.decDigits]
      by_cases h : u < 10
      · rw [dif_pos h]
        simp
      · rw [dif_neg h, List.length_append]
        have : (10 : Nat) ^ (m + 1 + 1) = 10 ^ (m + 1) * 10 := Nat.pow_succ _ _
        have := ih (u / 10) (by omega)
        simp only [List.length_singleton]
        omega
  unfold Lib.itoa
  split
  · have := hd 19 n.natAbs (by omega)
    simp only [List.length_cons]
    omega
  · have := hd 19 n.toNat (by omega)
    omega

theorem l01In_eq (a b c : Int) : spec_l01In.f a b c = some (decide (b ≤ a ∧ a ≤ c)) := by
  unfold spec_l01In.f
  by_cases h : a ≥ b
  · rw [if_pos h]; congr 1; simp; omega
  · rw [if_neg h]; congr 1; simp; omega

theorem within_eq (a b c : Int) : impl_within.f a b c = some (decide (b ≤ a ∧ a ≤ c)) := by
  unfold impl_within.f
  by_cases h : a ≥ b
  · rw [if_pos h]; congr 1; simp; omega
  · rw [if_neg h]; congr 1; simp; omega


def num (n : Int) : ByteArray := asB (Lib.itoa n)
def addrT (a : Int) : ByteArray := if 0 ≤ a ∧ a ≤ 4294967295 then ((((((num (a / 16777216) ++ (⟨#[46]⟩ : ByteArray)) ++ num (a / 65536 % 256)) ++ (⟨#[46]⟩ : ByteArray)) ++ num (a / 256 % 256)) ++ (⟨#[46]⟩ : ByteArray)) ++ num (a % 256)) else ⟨#[]⟩

theorem num_le (n : Int) (h0 : 0 ≤ n) (h1 : n ≤ 4294967295) : (num n).size ≤ 100 := itoa_len n (by omega) (by omega)

theorem dot_size (t : ByteArray) : (t ++ (⟨#[46]⟩ : ByteArray)).size = t.size + 1 := by
  rw [ba_append_size]
  rfl

theorem AddrText_ev (a : Int) (h0 : -9223372036854775808 ≤ a) (h1 : a ≤ 9223372036854775807) : Ev (fun k => spec_AddrText.f k a) (addrT a) := by
  refine Ex.toEv ?_
  unfold spec_AddrText.f addrT
  have hok : spec_AddrOk.f a = some (decide (0 ≤ a ∧ a ≤ 4294967295)) := by
    unfold spec_AddrOk.f
    rw [l01In_eq]
    rfl
  by_cases h : 0 ≤ a ∧ a ≤ 4294967295
  · rw [decide_eq_true h] at hok
    have e1 : wrap64 (Int.tdiv a 16777216) = a / 16777216 := by rw [tdiv_nn _ h.1, w64 (by omega) (by omega)]
    have e2 : Int.tmod (wrap64 (Int.tdiv a 65536)) 256 = a / 65536 % 256 := by rw [tdiv_nn _ h.1, w64 (by omega) (by omega), tmod_nn _ (by omega)]
    have e3 : Int.tmod (wrap64 (Int.tdiv a 256)) 256 = a / 256 % 256 := by rw [tdiv_nn _ h.1, w64 (by omega) (by omega), tmod_nn _ (by omega)]
    have e4 : Int.tmod a 256 = a % 256 := tmod_nn _ h.1
    rw [if_pos h]
    simp only [e1, e2, e3, e4]
    have n1 := num_le (a / 16777216) (by omega) (by omega)
    have n2 := num_le (a / 65536 % 256) (by omega) (by omega)
    have n3 := num_le (a / 256 % 256) (by omega) (by omega)
    have n4 := num_le (a % 256) (by omega) (by omega)
    have d1 := Decimal_ev (a / 16777216) (by omega) (by omega)
    have d2 := Decimal_ev (a / 65536 % 256) (by omega) (by omega)
    have d3 := Decimal_ev (a / 256 % 256) (by omega) (by omega)
    have d4 := Decimal_ev (a % 256) (by omega) (by omega)
    unfold num at n1 n2 n3 n4 ⊢
    generalize asB (Lib.itoa (a / 16777216)) = t1 at *
    generalize asB (Lib.itoa (a / 65536 % 256)) = t2 at *
    generalize asB (Lib.itoa (a / 256 % 256)) = t3 at *
    generalize asB (Lib.itoa (a % 256)) = t4 at *
    have s1 := dot_size t1
    have s2 : (t1 ++ (⟨#[46]⟩ : ByteArray) ++ t2).size = t1.size + 1 + t2.size := by rw [ba_append_size, s1]
    have s3 := dot_size (t1 ++ (⟨#[46]⟩ : ByteArray) ++ t2)
    have s4 : (t1 ++ (⟨#[46]⟩ : ByteArray) ++ t2 ++ (⟨#[46]⟩ : ByteArray) ++ t3).size = t1.size + 1 + t2.size + 1 + t3.size := by rw [ba_append_size, s3, s2]
    have s5 := dot_size (t1 ++ (⟨#[46]⟩ : ByteArray) ++ t2 ++ (⟨#[46]⟩ : ByteArray) ++ t3)
    refine Ex.have_ hok (Ex.pos rfl (Ex.go d1 (Ex.pos (by omega) (Ex.go d2 (Ex.pos (by omega) (Ex.pos (by omega) (Ex.go d3 (Ex.pos (by omega) (Ex.pos (by omega) (Ex.go d4 (Ex.pos (by omega) (Ex.now rfl))))))))))))
  · rw [decide_eq_false h] at hok
    rw [if_neg h]
    exact Ex.have_ hok (Ex.neg (by decide) (Ex.now rfl))

theorem AddrText_num (a : Int) (h0 : -9223372036854775808 ≤ a) (h1 : a ≤ 9223372036854775807) : ∃ k, spec_AddrText.f k a = some (addrT a) := by
  obtain ⟨K, h⟩ := AddrText_ev a h0 h1
  exact ⟨K, h K (Nat.le_refl K)⟩

def p2 (d : Nat) : Int := 2 ^ d

theorem p2_pos (d : Nat) : 1 ≤ p2 d := by
  unfold p2
  have : 0 < (2 : Int) ^ d := Int.pow_pos (by decide)
  omega

theorem p2_succ (d : Nat) : p2 (d + 1) = p2 d * 2 := by unfold p2; exact Int.pow_succ _ _

theorem p2_le : ∀ (d : Nat), d ≤ 32 → p2 d ≤ 4294967296 := by
  intro d hd
  unfold p2
  have h : 2 ^ d ≤ 2 ^ 32 := Nat.pow_le_pow_right (by decide) hd
  have h2 : ((2 ^ d : Nat) : Int) ≤ ((2 ^ 32 : Nat) : Int) := by exact_mod_cast h
  simpa using h2

theorem l08Size_l0 : ∀ (d : Nat) (k : Nat) (x i : Int), 0 ≤ i → i + d = 32 → 0 ≤ x → x * p2 d ≤ 4294967296 → spec_l08Size.l0 (k + d + 1) x i = some (x * p2 d)
  | 0, k, x, i, h0, h, hx, hb => by
    show spec_l08Size.l0 (k + 1) x i = _
    rw [spec_l08Size.l0, if_neg (by omega)]
    simp [p2]
  | d + 1, k, x, i, h0, h, hx, hb => by
    show spec_l08Size.l0 ((k + d + 1) + 1) x i = _
    have hp := p2_pos d
    rw [p2_succ] at hb
    have hx2 : 2 * x * p2 d ≤ 4294967296 := by
      have : 2 * x * p2 d = x * (p2 d * 2) := by rw [Int.mul_comm 2 x, Int.mul_assoc, Int.mul_comm 2]
      omega
    have hx3 : 2 * x ≤ 4294967296 := by
      have : 2 * x * 1 ≤ 2 * x * p2 d := Int.mul_le_mul_of_nonneg_left hp (by omega)
      omega
    rw [spec_l08Size.l0, if_pos (by omega), w64 (x := 2 * x) (by omega) (by omega), w64 (x := i + 1) (by omega) (by omega), l08Size_l0 d k _ _ (by omega) (by omega) (by omega) hx2, p2_succ]
    congr 1
    rw [Int.mul_comm 2 x, Int.mul_assoc, Int.mul_comm 2]

theorem l08Size_ev (n : Int) (h0 : 0 ≤ n) (h1 : n ≤ 32) : Ev (fun k => spec_l08Size.f k n) (p2 (32 - n).toNat) := by
  refine ⟨34, fun k hk => ?_⟩
  obtain ⟨m, rfl⟩ : ∃ m, k = m + (32 - n).toNat + 1 := ⟨k - (32 - n).toNat - 1, by omega⟩
  have hle := p2_le (32 - n).toNat (by omega)
  have h := l08Size_l0 (32 - n).toNat m 1 n h0 (by omega) (by omega) (by omega)
  rw [Int.one_mul] at h
  exact h

theorem lastBits_eq (n : Int) (h0 : 0 ≤ n) (h1 : n ≤ 32) : impl_lastBits.f n = some (p2 (32 - n).toNat - 1) := by
  unfold impl_lastBits.f
  rw [w64 (x := 32 - n) (by omega) (by omega), if_pos (by omega)]
  have hp := p2_pos (32 - n).toNat
  have hle := p2_le (32 - n).toNat (by omega)
  have e : shl .i64 1 (32 - n) = p2 (32 - n).toNat := by
    unfold shl
    rw [Nat.min_eq_left (by simp [IntKind.bits]; omega), Int.one_mul]
    exact wraps64 _ (by unfold p2 at hp; omega) (by unfold p2 at hle; omega)
  rw [e, w64 (by omega) (by omega)]

theorem andMask (a : Int) (d : Nat) (hd : d ≤ 32) (h0 : 0 ≤ a) (h1 : a ≤ 4294967295) : Go.bits .and .i64 a (p2 d - 1) = a % p2 d :=
  bits_mask .i64 63 (by decide) wraps64 d (by omega) a h0 (by omega)

theorem andNotNat (x d : Nat) (hx : x < 2 ^ 64) (hd : d ≤ 64) : (BitVec.ofNat 64 x &&& ~~~BitVec.ofNat 64 (2 ^ d - 1)).toNat = x - x % 2 ^ d := by
  have hp : 0 < 2 ^ d := Nat.two_pow_pos d
  have hm : 2 ^ d - 1 < 2 ^ 64 := Nat.lt_of_lt_of_le (Nat.sub_lt hp (by decide)) (Nat.pow_le_pow_right (by decide) (by omega))
  have h3 : x - x % 2 ^ d = (x / 2 ^ d) <<< d := by
    have := Nat.div_add_mod x (2 ^ d)
    rw [Nat.shiftLeft_eq, Nat.mul_comm]
    omega
  rw [h3]
  apply Nat.eq_of_testBit_eq
  intro i
  rw [BitVec.testBit_toNat, Nat.testBit_shiftLeft, Nat.testBit_div_two_pow]
  by_cases hi : i < 64
  · rw [BitVec.getLsbD_and, BitVec.getLsbD_not]
    simp only [BitVec.getLsbD_ofNat, hi, decide_true, Bool.true_and, Nat.testBit_two_pow_sub_one]
    by_cases h : d ≤ i
    · have e : i - d + d = i := by omega
      simp [h, Nat.not_lt.mpr h, e]
    · simp [h, Nat.lt_of_not_le h]
  · have hx2 : x.testBit i = false := Nat.testBit_lt_two_pow (Nat.lt_of_lt_of_le hx (Nat.pow_le_pow_right (by decide) (by omega)))
    rw [BitVec.getLsbD_of_ge _ _ (by omega)]
    by_cases h : d ≤ i
    · have e : i - d + d = i := by omega
      simp [e, hx2]
    · simp [h]

theorem andNotMask (a : Int) (d : Nat) (hd : d ≤ 32) (h0 : 0 ≤ a) (h1 : a ≤ 4294967295) : Go.bits .andNot .i64 a (p2 d - 1) = a - a % p2 d := by
  obtain ⟨x, rfl⟩ := Int.eq_ofNat_of_zero_le h0
  have hp : 0 < 2 ^ d := Nat.two_pow_pos d
  have hc : p2 d - 1 = ((2 ^ d - 1 : Nat) : Int) := by
    unfold p2
    rw [Int.natCast_sub hp]; simp
  have hx : x < 2 ^ 64 := by omega
  have hm : x % 2 ^ d ≤ x := Nat.mod_le _ _
  rw [hc]
  simp only [Go.bits, BitVec.ofInt_natCast]
  show IntKind.i64.wrap (((BitVec.ofNat 64 x &&& ~~~BitVec.ofNat 64 (2 ^ d - 1)).toNat : Nat) : Int) = _
  rw [andNotNat x d hx (by omega), wraps64 _ (by omega) (by omega), Int.natCast_sub hm]
  unfold p2
  simp

def pfxOk (a n : Int) : Bool := decide ((0 ≤ a ∧ a ≤ 4294967295) ∧ (0 ≤ n ∧ n ≤ 32) ∧ a % p2 (32 - n).toNat = 0)

theorem specAddrOk_eq (a : Int) : spec_AddrOk.f a = some (decide (0 ≤ a ∧ a ≤ 4294967295)) := by
  unfold spec_AddrOk.f
  rw [l01In_eq]; rfl

theorem implAddrOk_eq (a : Int) : impl_AddrOk.f a = some (decide (0 ≤ a ∧ a ≤ 4294967295)) := by
  unfold impl_AddrOk.f
  rw [within_eq]; rfl

theorem specPrefixOk_ev (a n : Int) : Ev (fun k => spec_PrefixOk.f k a n) (pfxOk a n) := by
  by_cases ha : 0 ≤ a ∧ a ≤ 4294967295
  · by_cases hn : 0 ≤ n ∧ n ≤ 32
    · obtain ⟨K, h⟩ := l08Size_ev n hn.1 hn.2
      refine ⟨K, fun k hk => ?_⟩
      have h := h k hk
      simp only at h
      have hp := p2_pos (32 - n).toNat
      show spec_PrefixOk.f k a n = _
      unfold spec_PrefixOk.f
      rw [specAddrOk_eq, decide_eq_true ha, l01In_eq, decide_eq_true hn, h]
      simp only [Option.bind_some, if_true]
      rw [if_neg (by omega), tmod_nn _ ha.1]
      unfold pfxOk
      simp [ha, hn]
      rfl
    · refine ⟨0, fun k hk => ?_⟩
      show spec_PrefixOk.f k a n = _
      unfold spec_PrefixOk.f
      rw [specAddrOk_eq, decide_eq_true ha, l01In_eq, decide_eq_false hn]
      unfold pfxOk
      rw [decide_eq_false (fun h => hn h.2.1)]
      simp
  · refine ⟨0, fun k hk => ?_⟩
    show spec_PrefixOk.f k a n = _
    unfold spec_PrefixOk.f
    rw [specAddrOk_eq, decide_eq_false ha]
    unfold pfxOk
    rw [decide_eq_false (fun h => ha h.1)]
    simp

theorem implPrefixOk_eq (a n : Int) : impl_PrefixOk.f a n = some (pfxOk a n) := by
  unfold impl_PrefixOk.f
  by_cases ha : 0 ≤ a ∧ a ≤ 4294967295
  · by_cases hn : 0 ≤ n ∧ n ≤ 32
    · rw [implAddrOk_eq, decide_eq_true ha, within_eq, decide_eq_true hn, lastBits_eq n hn.1 hn.2]
      simp only [Option.bind_some, if_true]
      rw [andMask a _ (by omega) ha.1 ha.2]
      unfold pfxOk
      simp [ha, hn]
      rfl
    · rw [implAddrOk_eq, decide_eq_true ha, within_eq, decide_eq_false hn]
      unfold pfxOk
      rw [decide_eq_false (fun h => hn h.2.1)]
      simp
  · rw [implAddrOk_eq, decide_eq_false ha]
    unfold pfxOk
    rw [decide_eq_false (fun h => ha h.1)]
    simp

def pfxT (a n : Int) : ByteArray × Bool := if pfxOk a n = true then ((addrT a ++ (⟨#[47]⟩ : ByteArray)) ++ num n, true) else (⟨#[]⟩, false)

theorem slash_size (t : ByteArray) : (t ++ (⟨#[47]⟩ : ByteArray)).size = t.size + 1 := by
  rw [ba_append_size]
  rfl

theorem pfxOk_in {a n : Int} (h : pfxOk a n = true) : (0 ≤ a ∧ a ≤ 4294967295) ∧ (0 ≤ n ∧ n ≤ 32) := by
  unfold pfxOk at h
  have h := of_decide_eq_true h
  exact ⟨h.1, h.2.1⟩

theorem addrT_le (a : Int) (h : 0 ≤ a ∧ a ≤ 4294967295) : (addrT a).size ≤ 1000 := by
  have n1 := num_le (a / 16777216) (by omega) (by omega)
  have n2 := num_le (a / 65536 % 256) (by omega) (by omega)
  have n3 := num_le (a / 256 % 256) (by omega) (by omega)
  have n4 := num_le (a % 256) (by omega) (by omega)
  unfold addrT
  rw [if_pos h]
  generalize num (a / 16777216) = t1 at *
  generalize num (a / 65536 % 256) = t2 at *
  generalize num (a / 256 % 256) = t3 at *
  generalize num (a % 256) = t4 at *
  rw [ba_append_size, dot_size, ba_append_size, dot_size, ba_append_size, dot_size]
  omega

theorem band (x : Int) (h0 : 0 ≤ x) (h1 : x < 9223372036854775808) : Go.bits .and .i64 x 255 = x % 256 :=
  bits_mask .i64 63 (by decide) (fun n a b => by rw [IntKind.wrap_i64]; omega) 8 (by decide) x h0 (by omega)

theorem implDecimal_num (n : Int) (h0 : -9223372036854775808 ≤ n) (h1 : n ≤ 9223372036854775807) : impl_Decimal.f n = some (num n) := by
  unfold impl_Decimal.f strconv_Itoa.f
  rw [if_pos ⟨h0, h1⟩]
  rfl

theorem implAddrText_num (a : Int) (h : 0 ≤ a ∧ a ≤ 4294967295) : impl_AddrText.f a = some (addrT a) := by
  have n1 := num_le (a / 16777216) (by omega) (by omega)
  have n2 := num_le (a / 65536 % 256) (by omega) (by omega)
  have n3 := num_le (a / 256 % 256) (by omega) (by omega)
  have n4 := num_le (a % 256) (by omega) (by omega)
  unfold impl_AddrText.f addrT
  rw [if_pos h, implAddrOk_eq, decide_eq_true h]
  rw [band (a / 65536) (by omega) (by omega), band (a / 256) (by omega) (by omega), band a (by omega) (by omega)]
  rw [implDecimal_num (a / 16777216) (by omega) (by omega), implDecimal_num (a / 65536 % 256) (by omega) (by omega), implDecimal_num (a / 256 % 256) (by omega) (by omega), implDecimal_num (a % 256) (by omega) (by omega)]
  generalize num (a / 16777216) = t1 at *
  generalize num (a / 65536 % 256) = t2 at *
  generalize num (a / 256 % 256) = t3 at *
  generalize num (a % 256) = t4 at *
  have s1 := dot_size t1
  have s2 : (t1 ++ (⟨#[46]⟩ : ByteArray) ++ t2).size = t1.size + 1 + t2.size := by rw [ba_append_size, s1]
  have s3 := dot_size (t1 ++ (⟨#[46]⟩ : ByteArray) ++ t2)
  have s4 : (t1 ++ (⟨#[46]⟩ : ByteArray) ++ t2 ++ (⟨#[46]⟩ : ByteArray) ++ t3).size = t1.size + 1 + t2.size + 1 + t3.size := by rw [ba_append_size, s3, s2]
  have s5 := dot_size (t1 ++ (⟨#[46]⟩ : ByteArray) ++ t2 ++ (⟨#[46]⟩ : ByteArray) ++ t3)
  simp only [Option.bind_some]
  rw [if_pos trivial, if_pos (by omega), if_pos (by omega), if_pos (by omega), if_pos (by omega), if_pos (by omega), if_pos (by omega)]

theorem implPrefixText_num (a n : Int) : impl_PrefixText.f a n = some (pfxT a n) := by
  unfold impl_PrefixText.f pfxT
  rw [implPrefixOk_eq]
  simp only [Option.bind_some]
  by_cases h : pfxOk a n = true
  · obtain ⟨ha, hn⟩ := pfxOk_in h
    have l1 := addrT_le a ha
    have l2 := num_le n (by omega) (by omega)
    rw [if_pos h, if_pos h, implAddrText_num a ha, implDecimal_num n (by omega) (by omega)]
    generalize addrT a = t1 at *
    generalize num n = t2 at *
    have s1 := slash_size t1
    simp only [Option.bind_some]
    rw [if_pos (by omega), if_pos (by omega)]
  · rw [if_neg h, if_neg h]

theorem specPrefixText_ev (a n : Int) : Ev (fun k => spec_PrefixText.f k a n) (pfxT a n) := by
  refine Ex.toEv ?_
  unfold spec_PrefixText.f pfxT
  refine Ex.go (specPrefixOk_ev a n) (Ex.ite (fun h => ?_) (fun h => ?_))
  · obtain ⟨ha, hn⟩ := pfxOk_in h
    have l1 := addrT_le a ha
    have l2 := num_le n (by omega) (by omega)
    have d1 := AddrText_ev a (by omega) (by omega)
    have d2 := Decimal_ev n (by omega) (by omega)
    rw [if_pos h]
    unfold num at l2 ⊢
    generalize addrT a = t1 at *
    generalize asB (Lib.itoa n) = t2 at *
    have s1 := slash_size t1
    exact Ex.go d1 (Ex.pos (by omega) (Ex.go d2 (Ex.pos (by omega) (Ex.now rfl))))
  · rw [if_neg h]
    exact Ex.now rfl

theorem FnExactPrefixText (a n : Int) (_ : (Lit.int .i64 a).wf = true) (_ : (Lit.int .i64 n).wf = true) : ∃ k, laws_FnExactPrefixText.f k a n = some true := by
  refine Ex.fin ?_
  unfold laws_FnExactPrefixText.f
  refine Ex.have_ (show laws_toPrefix.f a n = some (a, n) from rfl) (Ex.go (specPrefixText_ev a n) (Ex.have_ (show laws_toPrefix.f a n = some (a, n) from rfl) (Ex.have_ (implPrefixText_num a n) ?_)))
  exact Ex.pos rfl (Ex.neg (by simp) (Ex.now rfl))

end Go.Proofs.YtgepaoikhfofmadDoor.Pure.FnExactPrefixText
