/- ReadShort of the program is ReadShort of the reference, for all texts and places. -/
import Derived.Test.YtpdpoegaoomgpaaPFnExactReadShortx2
import Derived.OpenShut
import Derived.Laws.BitsLemmas
import Derived.Laws.Strings
namespace Go.Proofs.Ytpdpoegaoomgpaa.Pure.FnExactReadShort
open Go Go.RowKit Go.Proofs.Ytpdpoegaoomgpaa.PFnExactReadShort Go.Proofs.YtpdpoegaoomgpaaW.PrintWords Go.Proofs.YtpdpoegaoomgpaaW.PrintLast Go.Proofs.YtpdpoegaoomgpaaW.PrintMore
set_option linter.unusedVariables false
set_option linter.unusedSimpArgs false

theorem w64 {x : Int} (h0 : -9223372036854775808 ≤ x) (h1 : x ≤ 9223372036854775807) : wrap64 x = x := by unfold wrap64; omega

theorem wraps64 (n : Int) (h0 : 0 ≤ n) (h1 : n < 2 ^ 63) : IntKind.i64.wrap n = n := by rw [IntKind.wrap_i64]; omega

theorem wraps32 (n : Int) (h0 : 0 ≤ n) (h1 : n < 2 ^ 32) : IntKind.u32.wrap n = n := by rw [IntKind.wrap_u32]; omega

theorem and255 (x : Int) (h0 : 0 ≤ x) (h1 : x < 9223372036854775808) : Go.bits .and .i64 x 255 = x % 256 :=
  bits_mask .i64 63 (by decide) wraps64 8 (by decide) x h0 (by omega)

theorem mask32 (x : Int) (h0 : 0 ≤ x) (h1 : x < 9223372036854775808) : Go.bits .and .i64 x 4294967295 = x % 4294967296 :=
  bits_mask .i64 63 (by decide) wraps64 32 (by decide) x h0 (by omega)

theorem tdiv_nn {a : Int} (b : Int) (h : 0 ≤ a) : Int.tdiv a b = a / b := Int.tdiv_eq_ediv_of_nonneg h

theorem tmod_nn {a : Int} (b : Int) (h : 0 ≤ a) : Int.tmod a b = a % b := Int.tmod_eq_emod_of_nonneg h

theorem bt_nn (s : ByteArray) (i : Int) : 0 ≤ bt s i := (bt_range s i).1

theorem bt_le (s : ByteArray) (i : Int) : bt s i ≤ 255 := (bt_range s i).2

theorem l01In_eq (a b c : Int) : spec_l01In.f a b c = some (decide (b ≤ a ∧ a ≤ c)) := by
  unfold spec_l01In.f
  by_cases h : a ≥ b
  · rw [if_pos h]; congr 1; simp; omega
  · rw [if_neg h]; congr 1; simp; omega

theorem within_eq (a b c : Int) : impl_within.f a b c = some (decide (b ≤ a ∧ a ≤ c)) := by
  unfold impl_within.f
  by_cases h : a ≥ b
  · rw [if_pos h]; congr 1; simp; omega
  · rw [if_neg h]; congr 1; simp; omega


def varF : Nat → Int → List Int
  | 0, n => [n % 256]
  | f + 1, n => if n > 127 then (n % 128 + 128) :: varF f (n / 128) else [n % 256]

theorem varF_length : ∀ (f : Nat) (n : Int), (varF f n).length ≤ f + 1
  | 0, n => by simp [varF]
  | f + 1, n => by
    unfold varF
    split
    · have := varF_length f (n / 128); simp; omega
    · simp

def varNums (n : Int) : List Int := varF 9 n

def varOf (n : Int) : ByteArray := strOfNums (varNums n)

theorem l01Var_l0 : ∀ (f : Nat) (k : Nat) (n : Int) (acc : List Int), 0 ≤ n → n < 128 ^ (f + 1) → n ≤ 9223372036854775807 → acc.length + f < 140737488355328 → spec_l01Var.l0 (k + f + 1) n acc = some (strOfNums (acc ++ varF f n))
  | 0, k, n, acc, h0, h1, h2, hl => by
    show spec_l01Var.l0 (k + 1) n acc = _
    rw [spec_l01Var.l0, if_neg (by omega), if_pos (by omega)]
    rfl
  | f + 1, k, n, acc, h0, h1, h2, hl => by
    show spec_l01Var.l0 ((k + f + 1) + 1) n acc = _
    rw [spec_l01Var.l0]
    by_cases h : n > 127
    · have hp : n / 128 < 128 ^ (f + 1) := by
        have : (128 : Int) ^ (f + 1 + 1) = 128 ^ (f + 1) * 128 := Int.pow_succ _ _
        omega
      rw [if_pos h, if_pos (by omega), tdiv_nn _ h0, tmod_nn _ h0, w64 (x := n / 128) (by omega) (by omega), w64 (x := n % 128 + 128) (by omega) (by omega), l01Var_l0 f k _ _ (by omega) hp (by omega) (by simp; omega)]
      have e : (n % 128 + 128) % 256 = n % 128 + 128 := by omega
      rw [varF, if_pos h, e]
      simp
    · rw [if_neg h, if_pos (by omega), varF, if_neg h]

theorem l01Var_ev (n : Int) (h0 : 0 ≤ n) (h1 : n ≤ 9223372036854775807) : Ev (fun k => spec_l01Var.f k n) (varOf n) := by
  refine ⟨10, fun k hk => ?_⟩
  obtain ⟨m, rfl⟩ : ∃ m, k = m + 9 + 1 := ⟨k - 10, by omega⟩
  exact l01Var_l0 9 m n [] h0 (by omega) h1 (by simp)


theorem ba_ext {a b : ByteArray} (h : a.data.toList = b.data.toList) : a = b := by
  cases a; cases b
  congr 1
  exact Array.toList_inj.mp h

theorem ba_data_append (a b : ByteArray) : (a ++ b).data.toList = a.data.toList ++ b.data.toList := by
  rw [ByteArray.data_append, Array.toList_append]

theorem ba_size (a : ByteArray) : a.data.toList.length = a.size := data_length a

theorem ba_append_size (a b : ByteArray) : (a ++ b).size = a.size + b.size := ByteArray.size_append

theorem strOf_append (a b : List Int) : strOfNums a ++ strOfNums b = strOfNums (a ++ b) := by
  apply ba_ext
  rw [ba_data_append, strOfNums_data, strOfNums_data, strOfNums_data, List.map_append]

def Bytes (xs : List Int) : Prop := ∀ x ∈ xs, 0 ≤ x ∧ x ≤ 255

theorem bytesOf_bytes (s : ByteArray) : Bytes (bytesOf s) := by
  intro x hx
  unfold bytesOf at hx
  obtain ⟨b, _, rfl⟩ := List.mem_map.mp hx
  have := b.toNat_lt
  omega

theorem bytesOf_strOf {xs : List Int} (h : Bytes xs) : bytesOf (strOfNums xs) = xs := by
  unfold bytesOf
  rw [strOfNums_data, List.map_map]
  conv => rhs; rw [← List.map_id xs]
  apply List.map_congr_left
  intro x hx
  have := h x hx
  simp only [Function.comp, id]
  rw [UInt8.toNat_ofNat_of_lt' (by simp [UInt8.size]; omega)]
  omega

theorem strOf_bytesOf (s : ByteArray) : strOfNums (bytesOf s) = s := by
  apply ba_ext
  rw [strOfNums_data]
  unfold bytesOf
  rw [List.map_map]
  conv => rhs; rw [← List.map_id s.data.toList]
  apply List.map_congr_left
  intro x _
  simp

theorem bytesOf_append (a b : ByteArray) : bytesOf (a ++ b) = bytesOf a ++ bytesOf b := by
  unfold bytesOf
  rw [ba_data_append, List.map_append]

theorem bytesOf_inj {a b : ByteArray} (h : bytesOf a = bytesOf b) : a = b := by
  rw [← strOf_bytesOf a, h, strOf_bytesOf]

theorem ba_toList (a : ByteArray) : a.toList = a.data.toList := by
  exact ByteArray.toList_eq a

theorem toList_inj {a b : ByteArray} (h : a.toList = b.toList) : a = b := by
  rw [ba_toList, ba_toList] at h
  exact ba_ext h

theorem bytesOf_extract (s : ByteArray) (i j : Nat) : bytesOf (s.extract i j) = ((bytesOf s).take j).drop i := by
  unfold bytesOf
  rw [ByteArray.data_extract, Array.toList_extract]
  simp [List.extract_eq_take_drop, List.drop_take, List.map_take, List.map_drop]

theorem bt_bytesOf (s : ByteArray) (i : Int) : bt s i = rd (bytesOf s) i := (rd_bytesOf s i).symm

theorem bt_strOf {xs : List Int} (h : Bytes xs) (i : Int) : bt (strOfNums xs) i = rd xs i := by
  rw [bt_bytesOf, bytesOf_strOf h]

theorem rd_pre (pre : List Int) (x : Int) (post : List Int) : rd (pre ++ x :: post) (pre.length : Int) = x := by
  unfold rd
  simp

def rvGo (t : ByteArray) (a : Int) : Nat → Nat → Int → Int × Int × Bool
  | 0, _, _ => (0, 0, false)
  | d + 1, j, n => if a + j < t.size then (if bt t (a + j) > 127 then rvGo t a d (j + 1) (n + bt t (a + j) % 128 * 128 ^ j) else (if (0 < j ∧ bt t (a + j) = 0) ∨ n + bt t (a + j) % 128 * 128 ^ j > 1000000000 then (0, 0, false) else (n + bt t (a + j) % 128 * 128 ^ j, a + j + 1, true))) else (0, 0, false)

def readVarM (t : ByteArray) (a : Int) : Int × Int × Bool := if 0 ≤ a ∧ a ≤ t.size then rvGo t a 5 0 0 else (0, 0, false)

theorem pow128 (j : Nat) (h : j ≤ 5) : (1 : Int) ≤ 128 ^ j ∧ (128 : Int) ^ j ≤ 34359738368 := by
  match j, h with
  | 0, _ => decide
  | 1, _ => decide
  | 2, _ => decide
  | 3, _ => decide
  | 4, _ => decide
  | 5, _ => decide

theorem shl7 (x : Int) (h0 : 0 ≤ x) (h1 : x ≤ 127) (j : Nat) (h : j ≤ 4) : shl .i64 x (7 * (j : Int)) = x * 128 ^ j := by
  unfold shl
  match j, h with
  | 0, _ => simp [IntKind.bits]; exact wraps64 _ (by omega) (by omega)
  | 1, _ => simp [IntKind.bits]; exact wraps64 _ (by omega) (by omega)
  | 2, _ => simp [IntKind.bits]; exact wraps64 _ (by omega) (by omega)
  | 3, _ => simp [IntKind.bits]; exact wraps64 _ (by omega) (by omega)
  | 4, _ => simp [IntKind.bits]; exact wraps64 _ (by omega) (by omega)

theorem step_bound {n b p : Int} (n0 : 0 ≤ n) (n1 : n < p) (b0 : 0 ≤ b) (p1 : 1 ≤ p) : 0 ≤ n + b % 128 * p ∧ n + b % 128 * p < p * 128 := by
  have h1 : 0 ≤ b % 128 * p := Int.mul_nonneg (by omega) (by omega)
  have h2 : b % 128 * p ≤ 127 * p := Int.mul_le_mul_of_nonneg_right (by omega) (by omega)
  omega

theorem implReadVar_l0 (t : ByteArray) (ht : t.size ≤ 140737488351232) (a : Int) (ha : 0 ≤ a) (ha' : a ≤ t.size) : ∀ (d j k : Nat) (n : Int), j + d = 5 → 0 ≤ n → n < 128 ^ j → impl_ReadVar.l0 (k + 2 * d + 2) t a n j = some (rvGo t a d j n)
  | 0, j, k, n, h, n0, n1 => by
    show impl_ReadVar.l0 (k + 1 + 1) t a n j = _
    rw [impl_ReadVar.l0, if_neg (by omega), impl_ReadVar.j1]
    simp [rvGo]
  | d + 1, j, k, n, h, n0, n1 => by
    have e : k + 2 * (d + 1) + 2 = (k + 2 * d + 2) + 1 + 1 := by omega
    have hp := pow128 j (by omega)
    rw [e, impl_ReadVar.l0, if_pos (by omega), impl_ReadVar.j1, w64 (x := a + j) (by omega) (by omega), w64 (x := 7 * (j : Int)) (by omega) (by omega)]
    unfold rvGo
    by_cases hlt : a + j < t.size
    · have hb := bt_range t (a + j)
      have hs := step_bound n0 n1 hb.1 hp.1
      rw [decide_eq_true hlt, if_pos rfl, if_pos (by omega), if_pos hlt, if_pos (by omega), if_pos hlt, w64 (x := bt t (a + j)) (by omega) (by omega), tmod_nn _ hb.1, shl7 _ (by omega) (by omega) j (by omega), w64 (x := n + bt t (a + j) % 128 * 128 ^ j) (by omega) (by omega)]
      by_cases hc : bt t (a + j) > 127
      · rw [if_pos hc, if_pos hc, w64 (x := (j : Int) + 1) (by omega) (by omega)]
        have e2 : (j : Int) + 1 = ((j + 1 : Nat) : Int) := by omega
        have e3 : (128 : Int) ^ (j + 1) = 128 ^ j * 128 := Int.pow_succ _ _
        rw [e2, implReadVar_l0 t ht a ha ha' d (j + 1) k _ (by omega) hs.1 (by omega)]
      · rw [if_neg hc, if_neg hc, w64 (x := a + j + 1) (by omega) (by omega)]
        by_cases hj : 0 < j
        · rw [if_pos (by omega)]
          by_cases hz : bt t (a + j) = 0
          · rw [if_pos hz, if_pos (Or.inl ⟨hj, hz⟩)]
          · rw [if_neg hz]
            by_cases hm : n + bt t (a + j) % 128 * 128 ^ j > 1000000000
            · rw [if_pos hm, if_pos (Or.inr hm)]
            · rw [if_neg hm, if_neg (fun hh => hh.elim (fun x => hz x.2) hm)]
        · rw [if_neg (by omega)]
          by_cases hm : n + bt t (a + j) % 128 * 128 ^ j > 1000000000
          · rw [if_pos hm, if_pos (Or.inr hm)]
          · rw [if_neg hm, if_neg (fun hh => hh.elim (fun x => hj x.1) hm)]
    · rw [decide_eq_false hlt, if_neg (by simp), if_neg hlt]

theorem implReadVar_ev (t : ByteArray) (ht : t.size ≤ 140737488351232) (a : Int) : Ev (fun k => impl_ReadVar.f k t a) (readVarM t a) := by
  refine ⟨12, fun k hk => ?_⟩
  show impl_ReadVar.f k t a = _
  unfold impl_ReadVar.f readVarM
  rw [within_eq]
  by_cases h : 0 ≤ a ∧ a ≤ (t.size : Int)
  · obtain ⟨m, rfl⟩ : ∃ m, k = m + 2 * 5 + 2 := ⟨k - 12, by omega⟩
    rw [decide_eq_true h, if_pos h]
    exact implReadVar_l0 t ht a h.1 h.2 5 0 m 0 (by omega) (by omega) (by decide)
  · rw [decide_eq_false h, if_neg h]
    rfl

def dec : List Int → Int
  | [] => 0
  | b :: bs => b % 128 + 128 * dec bs

theorem dec_snoc : ∀ (bs : List Int) (b : Int), dec (bs ++ [b]) = dec bs + b % 128 * 128 ^ bs.length
  | [], b => by simp [dec]
  | c :: bs, b => by
    rw [List.cons_append, dec, dec, dec_snoc bs b, List.length_cons, Int.pow_succ, Int.mul_add]
    have : 128 * (b % 128 * 128 ^ bs.length) = b % 128 * (128 ^ bs.length * 128) := by
      rw [Int.mul_comm 128, Int.mul_assoc]
    omega

theorem dec_nn : ∀ (bs : List Int), 0 ≤ dec bs
  | [] => by simp [dec]
  | b :: bs => by have := dec_nn bs; unfold dec; omega

theorem dec_lt : ∀ (bs : List Int), dec bs < 128 ^ bs.length
  | [] => by decide
  | b :: bs => by
    have := dec_lt bs
    rw [List.length_cons, Int.pow_succ]
    unfold dec
    omega

def Hi (bs : List Int) : Prop := ∀ x ∈ bs, 128 ≤ x ∧ x ≤ 255

theorem varF_dec : ∀ (bs : List Int) (b : Int) (f : Nat), Hi bs → 0 ≤ b → b ≤ 127 → (bs = [] ∨ b ≠ 0) → bs.length ≤ f → varF f (dec (bs ++ [b])) = bs ++ [b]
  | [], b, f, h, b0, b1, hz, hf => by
    have e : dec ([] ++ [b]) = b := by simp [dec]; omega
    rw [e]
    match f with
    | 0 => simp [varF]; omega
    | f + 1 => rw [varF, if_neg (by omega)]; simp; omega
  | c :: bs, b, f, h, b0, b1, hz, hf => by
    obtain ⟨g, rfl⟩ : ∃ g, f = g + 1 := ⟨f - 1, by simp at hf; omega⟩
    have hb : b ≠ 0 := hz.elim (fun x => by simp at x) id
    have hc := h c (by simp)
    have hd : 1 ≤ dec (bs ++ [b]) := by
      rw [dec_snoc]
      have h1 := dec_nn bs
      have h2 : (1 : Int) ≤ 128 ^ bs.length := by
        have := Int.pow_pos (n := 128) (m := bs.length) (by decide)
        omega
      have h3 : 1 * 1 ≤ b % 128 * 128 ^ bs.length := Int.mul_le_mul (by omega) h2 (by omega) (by omega)
      omega
    have hn := dec_nn (bs ++ [b])
    rw [List.cons_append, dec, varF, if_pos (by omega)]
    have e1 : (c % 128 + 128 * dec (bs ++ [b])) % 128 + 128 = c := by omega
    have e2 : (c % 128 + 128 * dec (bs ++ [b])) / 128 = dec (bs ++ [b]) := by omega
    rw [e1, e2, varF_dec bs b g (fun x hx => h x (by simp [hx])) b0 b1 (Or.inr hb) (by simp at hf; omega)]

theorem varF_short : ∀ (m f : Nat) (n : Int), 0 ≤ n → n < 128 ^ m → 1 ≤ m → (varF f n).length ≤ m
  | m, 0, n, h0, h1, hm => by simp [varF]; omega
  | m, f + 1, n, h0, h1, hm => by
    unfold varF
    by_cases h : n > 127
    · rw [if_pos h]
      obtain ⟨p, rfl⟩ : ∃ p, m = p + 1 := ⟨m - 1, by omega⟩
      have hp : 1 ≤ p := by
        rcases p with _ | p
        · simp at h1; omega
        · omega
      have e : (128 : Int) ^ (p + 1) = 128 ^ p * 128 := Int.pow_succ _ _
      have := varF_short p f (n / 128) (by omega) (by omega) hp
      simp
      omega
    · rw [if_neg h]; simp; omega

theorem varNums_eq {bs : List Int} {b : Int} (h : Hi bs) (b0 : 0 ≤ b) (b1 : b ≤ 127) (hl : bs.length ≤ 4) : varNums (dec (bs ++ [b])) = bs ++ [b] ↔ ¬ (0 < bs.length ∧ b = 0) := by
  unfold varNums
  constructor
  · intro he hh
    have hlen : (varF 9 (dec (bs ++ [b]))).length ≤ bs.length := by
      refine varF_short bs.length 9 _ (dec_nn _) ?_ hh.1
      rw [dec_snoc, hh.2]
      have := dec_lt bs
      simpa using this
    rw [he] at hlen
    simp at hlen
    omega
  · intro hn
    refine varF_dec bs b 9 h b0 b1 ?_ (by omega)
    by_cases hb : b = 0
    · left
      rcases bs with _ | ⟨c, bs⟩
      · rfl
      · exact absurd ⟨by simp, hb⟩ hn
    · exact Or.inr hb

theorem varF_bytes : ∀ (f : Nat) (n : Int), 0 ≤ n → Bytes (varF f n)
  | 0, n, h => by intro x hx; simp [varF] at hx; omega
  | f + 1, n, h => by
    intro x hx
    unfold varF at hx
    split at hx
    · simp only [List.mem_cons] at hx
      rcases hx with rfl | hx
      · omega
      · exact varF_bytes f (n / 128) (by omega) x hx
    · simp at hx; omega

theorem bytesOf_varOf {n : Int} (h : 0 ≤ n) : bytesOf (varOf n) = varNums n := by
  unfold varOf varNums
  exact bytesOf_strOf (varF_bytes 9 n h)

theorem seg_snoc (l : List Int) (a j : Nat) (h : a + j < l.length) : (l.take (a + j + 1)).drop a = (l.take (a + j)).drop a ++ [l.getD (a + j) 0] := by
  rw [List.take_succ_eq_append_getElem h, List.drop_append_of_le_length (by simp; omega)]
  simp [List.getD_eq_getElem?_getD, List.getElem?_eq_getElem h]

theorem specReadVar_l0 (t : ByteArray) (ht : t.size ≤ 140737488351232) (a : Nat) (ha' : a ≤ t.size) : ∀ (d j k : Nat) (n : Int), j + d = 5 → n = dec (((bytesOf t).take (a + j)).drop a) → Hi (((bytesOf t).take (a + j)).drop a) → a + j ≤ t.size → 10 ≤ k → spec_ReadVar.l0 (k + 2 * d + 2) t a n (128 ^ j) (a + j : Nat) = some (rvGo t a d j n)
  | 0, j, k, n, h, hn, hh, hj, hk => by
    have hp := pow128 j (by omega)
    show spec_ReadVar.l0 (k + 1 + 1) t a n (128 ^ j) (a + j : Nat) = _
    rw [spec_ReadVar.l0, w64 (x := (a : Int) + 5) (by omega) (by omega), decide_eq_false (by omega), spec_ReadVar.j1]
    simp [rvGo, ite_self]
  | d + 1, j, k, n, h, hn, hh, hj, hk => by
    have e : k + 2 * (d + 1) + 2 = (k + 2 * d + 2) + 1 + 1 := by omega
    have hp := pow128 j (by omega)
    have hlen : (((bytesOf t).take (a + j)).drop a).length = j := by
      rw [List.length_drop, List.length_take, bytesOf_length]; omega
    have n0 : 0 ≤ n := hn ▸ dec_nn _
    have n1 : n < 128 ^ j := by
      have := dec_lt (((bytesOf t).take (a + j)).drop a)
      rw [hlen] at this
      omega
    have ea : ((a + j : Nat) : Int) = (a : Int) + j := by omega
    rw [e, spec_ReadVar.l0, ea]
    unfold rvGo
    by_cases hlt : (a : Int) + j < t.size
    · have hb := bt_range t ((a : Int) + j)
      have hs := step_bound n0 n1 hb.1 hp.1
      have hsc : bt t ((a : Int) + j) % 128 * 128 ^ j ≤ 127 * 128 ^ j := Int.mul_le_mul_of_nonneg_right (by omega) (by omega)
      have hsc0 : 0 ≤ bt t ((a : Int) + j) % 128 * 128 ^ j := Int.mul_nonneg (by omega) (by omega)
      rw [if_pos hlt, w64 (x := (a : Int) + 5) (by omega) (by omega), decide_eq_true (by omega), spec_ReadVar.j1, if_pos rfl, if_pos (by omega), if_pos hlt, if_pos hlt, w64 (x := bt t ((a : Int) + j)) (by omega) (by omega), tmod_nn _ hb.1, w64 (x := bt t ((a : Int) + j) % 128 * 128 ^ j) (by omega) (by omega), w64 (x := n + bt t ((a : Int) + j) % 128 * 128 ^ j) (by omega) (by omega), w64 (x := (a : Int) + j + 1) (by omega) (by omega), w64 (x := (128 : Int) ^ j * 128) (by omega) (by omega)]
      have hseg := seg_snoc (bytesOf t) a j (by rw [bytesOf_length]; omega)
      have hget : (bytesOf t).getD (a + j) 0 = bt t ((a : Int) + j) := by
        rw [bt_bytesOf]
        unfold rd
        congr 1
      rw [hget] at hseg
      have hdec : n + bt t ((a : Int) + j) % 128 * 128 ^ j = dec (((bytesOf t).take (a + j + 1)).drop a) := by
        rw [hseg, dec_snoc, hlen, ← hn]
      by_cases hc : bt t ((a : Int) + j) > 127
      · have e3 : (128 : Int) ^ (j + 1) = 128 ^ j * 128 := Int.pow_succ _ _
        have e4 : (a : Int) + j + 1 = ((a + (j + 1) : Nat) : Int) := by omega
        rw [if_neg (by omega), if_pos hc, ← e3, e4, specReadVar_l0 t ht a ha' d (j + 1) k _ (by omega) hdec ?_ (by omega) hk]
        have e5 : a + (j + 1) = a + j + 1 := by omega
        rw [e5, hseg]
        intro x hx
        rcases List.mem_append.mp hx with hx | hx
        · exact hh x hx
        · simp at hx; omega
      · rw [if_pos (by omega), if_neg hc]
        by_cases hm : n + bt t ((a : Int) + j) % 128 * 128 ^ j > 1000000000
        · rw [if_pos hm, if_pos (Or.inr hm)]
        · obtain ⟨K, hK⟩ : ∃ K, k + 2 * d + 2 = K + 9 + 1 := ⟨k + 2 * d + 2 - 10, by omega⟩
          have hv : spec_l01Var.f (k + 2 * d + 2) (n + bt t ((a : Int) + j) % 128 * 128 ^ j) = some (varOf (n + bt t ((a : Int) + j) % 128 * 128 ^ j)) := by
            rw [hK]
            exact l01Var_l0 9 K _ [] hs.1 (by omega) (by omega) (by simp)
          rw [if_neg hm, hv]
          simp only [Option.bind_some]
          rw [if_pos (by omega), if_pos (by omega), if_pos (by omega)]
          have e6 : ((a : Int) + j + 1).toNat = a + j + 1 := by omega
          have e7 : (a : Int).toNat = a := by omega
          rw [e6, e7]
          have key : (varOf (n + bt t ((a : Int) + j) % 128 * 128 ^ j)).toList = (t.extract a (a + j + 1)).toList ↔ ¬ (0 < j ∧ bt t ((a : Int) + j) = 0) := by
            have h8 := varNums_eq (bs := ((bytesOf t).take (a + j)).drop a) (b := bt t ((a : Int) + j)) hh hb.1 (by omega) (by omega)
            rw [hlen, ← hseg, ← hdec] at h8
            rw [← h8]
            constructor
            · intro he
              have h9 := congrArg bytesOf (toList_inj he)
              rw [bytesOf_extract, bytesOf_varOf hs.1] at h9
              exact h9
            · intro he
              have : varOf (n + bt t ((a : Int) + j) % 128 * 128 ^ j) = t.extract a (a + j + 1) := by
                apply bytesOf_inj
                rw [bytesOf_varOf hs.1, bytesOf_extract]
                exact he
              rw [this]
          by_cases hz : 0 < j ∧ bt t ((a : Int) + j) = 0
          · rw [if_neg (fun x => key.mp x hz), if_pos (Or.inl hz)]
          · rw [if_pos (key.mpr hz), if_neg (fun x => x.elim hz hm)]
    · rw [if_neg hlt, if_neg hlt, spec_ReadVar.j1]
      simp

theorem specReadVar_ev (t : ByteArray) (ht : t.size ≤ 140737488351232) (a : Int) : Ev (fun k => spec_ReadVar.f k t a) (readVarM t a) := by
  refine ⟨22, fun k hk => ?_⟩
  show spec_ReadVar.f k t a = _
  unfold spec_ReadVar.f readVarM
  rw [l01In_eq]
  by_cases h : 0 ≤ a ∧ a ≤ (t.size : Int)
  · obtain ⟨m, rfl⟩ : ∃ m, k = m + 2 * 5 + 2 := ⟨k - 12, by omega⟩
    obtain ⟨b, rfl⟩ := Int.eq_ofNat_of_zero_le h.1
    rw [decide_eq_true h, if_pos h]
    have e : ((bytesOf t).take (b + 0)).drop b = [] := by
      apply List.drop_eq_nil_of_le
      simp
      omega
    exact specReadVar_l0 t ht b (by omega) 5 0 m 0 (by omega) (by rw [e]; rfl) (by rw [e]; intro x hx; simp at hx) (by omega) (by omega)
  · rw [decide_eq_false h, if_neg h]
    rfl


theorem rvGo_ok (t : ByteArray) (a : Int) : ∀ (d j : Nat) (n : Int), 0 ≤ n → (rvGo t a d j n).2.2 = true → 0 ≤ (rvGo t a d j n).1 ∧ (rvGo t a d j n).1 ≤ 1000000000 ∧ a < (rvGo t a d j n).2.1 ∧ (rvGo t a d j n).2.1 ≤ t.size
  | 0, j, n, h0, h => by simp [rvGo] at h
  | d + 1, j, n, h0, h => by
    have hb := bt_range t (a + j)
    have hp : 0 ≤ bt t (a + j) % 128 * 128 ^ j := Int.mul_nonneg (by omega) (Int.le_of_lt (Int.pow_pos (by decide)))
    unfold rvGo at h ⊢
    by_cases h1 : a + j < t.size
    · rw [if_pos h1] at h ⊢
      by_cases h2 : bt t (a + j) > 127
      · rw [if_pos h2] at h ⊢
        exact rvGo_ok t a d (j + 1) _ (by omega) h
      · rw [if_neg h2] at h ⊢
        by_cases h3 : (0 < j ∧ bt t (a + j) = 0) ∨ n + bt t (a + j) % 128 * 128 ^ j > 1000000000
        · rw [if_pos h3] at h
          simp at h
        · rw [if_neg h3]
          refine ⟨?_, ?_, ?_, ?_⟩
          · show 0 ≤ n + bt t (a + j) % 128 * 128 ^ j
            omega
          · show n + bt t (a + j) % 128 * 128 ^ j ≤ 1000000000
            have : ¬ n + bt t (a + j) % 128 * 128 ^ j > 1000000000 := fun x => h3 (Or.inr x)
            omega
          · show a < a + j + 1
            omega
          · show a + j + 1 ≤ t.size
            omega
    · rw [if_neg h1] at h
      simp at h

theorem readVar_ok (t : ByteArray) (a : Int) (h : (readVarM t a).2.2 = true) : 0 ≤ (readVarM t a).1 ∧ (readVarM t a).1 ≤ 1000000000 ∧ 0 ≤ (readVarM t a).2.1 ∧ (readVarM t a).2.1 ≤ t.size := by
  unfold readVarM at h ⊢
  by_cases h1 : 0 ≤ a ∧ a ≤ t.size
  · rw [if_pos h1] at h ⊢
    have := rvGo_ok t a 5 0 0 (by omega) h
    omega
  · rw [if_neg h1] at h
    simp at h

def readShortM (t : ByteArray) (a : Int) : ByteArray × Int × Bool :=
  if (readVarM t a).2.2 = true ∧ (readVarM t a).1 ≤ 20000 ∧ (readVarM t a).1 ≤ t.size - (readVarM t a).2.1 then (t.extract (readVarM t a).2.1.toNat ((readVarM t a).2.1 + (readVarM t a).1).toNat, (readVarM t a).2.1 + (readVarM t a).1, true) else (⟨#[]⟩, 0, false)

theorem specReadShort_ev (t : ByteArray) (ht : t.size ≤ 140737488351232) (a : Int) : Ev (fun k => spec_ReadShort.f k t a) (readShortM t a) := by
  obtain ⟨K, h1⟩ := specReadVar_ev t ht a
  refine ⟨K, fun k hk => ?_⟩
  have h1 := h1 k hk
  simp only at h1
  have hok := readVar_ok t a
  show spec_ReadShort.f k t a = _
  unfold spec_ReadShort.f readShortM
  rw [h1]
  simp only [Option.bind_some]
  generalize readVarM t a = r at *
  obtain ⟨n, m, b⟩ := r
  simp only at hok ⊢
  cases b
  · simp
  · have hok := hok rfl
    rw [if_pos rfl]
    by_cases h2 : n > 20000
    · rw [if_pos h2, if_neg (by omega)]
    · rw [if_neg h2, w64 (x := (t.size : Int) - m) (by omega) (by omega)]
      by_cases h3 : n > t.size - m
      · rw [if_pos h3, if_neg (by omega)]
      · rw [if_neg h3, w64 (x := m + n) (by omega) (by omega), if_pos (by omega), if_pos (by omega), if_pos (by omega), if_pos (by simp; omega)]

theorem implReadShort_ev (t : ByteArray) (ht : t.size ≤ 140737488351232) (a : Int) : Ev (fun k => impl_ReadShort.f k t a) (readShortM t a) := by
  obtain ⟨K, h1⟩ := implReadVar_ev t ht a
  refine ⟨K, fun k hk => ?_⟩
  have h1 := h1 k hk
  simp only at h1
  have hok := readVar_ok t a
  show impl_ReadShort.f k t a = _
  unfold impl_ReadShort.f readShortM
  rw [h1]
  simp only [Option.bind_some]
  generalize readVarM t a = r at *
  obtain ⟨n, m, b⟩ := r
  simp only at hok ⊢
  cases b
  · simp
  · have hok := hok rfl
    rw [if_pos rfl]
    by_cases h2 : n > 20000
    · rw [if_pos h2, if_neg (by omega)]
    · rw [if_neg h2, w64 (x := (t.size : Int) - m) (by omega) (by omega)]
      by_cases h3 : n > t.size - m
      · rw [if_pos h3, if_neg (by omega)]
      · rw [if_neg h3, w64 (x := m + n) (by omega) (by omega), if_pos (by omega), if_pos (by omega), if_pos (by omega), if_pos (by simp; omega)]


theorem FnExactReadShort : laws_FnExactReadShort.Pure := by
  intro t a ht _
  obtain ⟨K, h1⟩ := specReadShort_ev t ht a
  obtain ⟨K', h2⟩ := implReadShort_ev t ht a
  refine ⟨K + K', ?_⟩
  have h1 := h1 (K + K') (by omega)
  have h2 := h2 (K + K') (by omega)
  simp only at h1 h2
  unfold laws_FnExactReadShort.f
  rw [h1, h2]
  simp

end Go.Proofs.Ytpdpoegaoomgpaa.Pure.FnExactReadShort
namespace Go.Proofs.Ytpdpoegaoomgpaa.Pure
theorem FnExactReadShort : Go.Proofs.Ytpdpoegaoomgpaa.PFnExactReadShort.laws_FnExactReadShort.Pure := Go.Proofs.Ytpdpoegaoomgpaa.Pure.FnExactReadShort.FnExactReadShort
end Go.Proofs.Ytpdpoegaoomgpaa.Pure
