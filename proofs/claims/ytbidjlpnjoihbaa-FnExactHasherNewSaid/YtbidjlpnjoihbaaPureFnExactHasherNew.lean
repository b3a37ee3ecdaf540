/- HasherNew of the program is HasherNew of the reference. -/
import Derived.Test.YtbidjlpnjoihbaaPFnExactHasherNewx1
import Derived.OpenShut
import Derived.Laws.BitsLemmas
import Derived.Laws.Strings
namespace Go.Proofs.Ytbidjlpnjoihbaa.Pure.FnExactHasherNew
open Go Go.RowKit Go.Proofs.Ytbidjlpnjoihbaa.PFnExactHasherNew Go.Proofs.YtbidjlpnjoihbaaW.PrintWords Go.Proofs.YtbidjlpnjoihbaaW.PrintLast Go.Proofs.YtbidjlpnjoihbaaW.PrintMore
set_option linter.unusedVariables false
set_option linter.unusedSimpArgs false

theorem w64 {x : Int} (h0 : -9223372036854775808 ≤ x) (h1 : x ≤ 9223372036854775807) : wrap64 x = x := by unfold wrap64; omega

theorem wraps64 (n : Int) (h0 : 0 ≤ n) (h1 : n < 2 ^ 63) : IntKind.i64.wrap n = n := by rw [IntKind.wrap_i64]; omega

theorem wraps32 (n : Int) (h0 : 0 ≤ n) (h1 : n < 2 ^ 32) : IntKind.u32.wrap n = n := by rw [IntKind.wrap_u32]; omega

theorem and255 (x : Int) (h0 : 0 ≤ x) (h1 : x < 9223372036854775808) : Go.bits .and .i64 x 255 = x % 256 :=
  bits_mask .i64 63 (by decide) wraps64 8 (by decide) x h0 (by omega)

theorem mask32 (x : Int) (h0 : 0 ≤ x) (h1 : x < 9223372036854775808) : Go.bits .and .i64 x 4294967295 = x % 4294967296 :=
  bits_mask .i64 63 (by decide) wraps64 32 (by decide) x h0 (by omega)

theorem tdiv_nn {a : Int} (b : Int) (h : 0 ≤ a) : Int.tdiv a b = a / b := Int.tdiv_eq_ediv_of_nonneg h

theorem tmod_nn {a : Int} (b : Int) (h : 0 ≤ a) : Int.tmod a b = a % b := Int.tmod_eq_emod_of_nonneg h

theorem bt_nn (s : ByteArray) (i : Int) : 0 ≤ bt s i := (bt_range s i).1

theorem bt_le (s : ByteArray) (i : Int) : bt s i ≤ 255 := (bt_range s i).2

theorem ba_ext {a b : ByteArray} (h : a.data.toList = b.data.toList) : a = b := by
  cases a; cases b
  congr 1
  exact Array.toList_inj.mp h

theorem ba_data_append (a b : ByteArray) : (a ++ b).data.toList = a.data.toList ++ b.data.toList := by
  rw [ByteArray.data_append, Array.toList_append]

theorem ba_size (a : ByteArray) : a.data.toList.length = a.size := data_length a

theorem ba_append_size (a b : ByteArray) : (a ++ b).size = a.size + b.size := ByteArray.size_append

theorem strOf_append (a b : List Int) : strOfNums a ++ strOfNums b = strOfNums (a ++ b) := by
  apply ba_ext
  rw [ba_data_append, strOfNums_data, strOfNums_data, strOfNums_data, List.map_append]

def Bytes (xs : List Int) : Prop := ∀ x ∈ xs, 0 ≤ x ∧ x ≤ 255

theorem bytesOf_bytes (s : ByteArray) : Bytes (bytesOf s) := by
  intro x hx
  unfold bytesOf at hx
  obtain ⟨b, _, rfl⟩ := List.mem_map.mp hx
  have := b.toNat_lt
  omega

theorem bytesOf_strOf {xs : List Int} (h : Bytes xs) : bytesOf (strOfNums xs) = xs := by
  unfold bytesOf
  rw [strOfNums_data, List.map_map]
  conv => rhs; rw [← List.map_id xs]
  apply List.map_congr_left
  intro x hx
  have := h x hx
  simp only [Function.comp, id]
  rw [UInt8.toNat_ofNat_of_lt' (by simp [UInt8.size]; omega)]
  omega

theorem strOf_bytesOf (s : ByteArray) : strOfNums (bytesOf s) = s := by
  apply ba_ext
  rw [strOfNums_data]
  unfold bytesOf
  rw [List.map_map]
  conv => rhs; rw [← List.map_id s.data.toList]
  apply List.map_congr_left
  intro x _
  simp

theorem bytesOf_append (a b : ByteArray) : bytesOf (a ++ b) = bytesOf a ++ bytesOf b := by
  unfold bytesOf
  rw [ba_data_append, List.map_append]

theorem bytesOf_inj {a b : ByteArray} (h : bytesOf a = bytesOf b) : a = b := by
  rw [← strOf_bytesOf a, h, strOf_bytesOf]

theorem ba_toList (a : ByteArray) : a.toList = a.data.toList := by
  exact ByteArray.toList_eq a

theorem toList_inj {a b : ByteArray} (h : a.toList = b.toList) : a = b := by
  rw [ba_toList, ba_toList] at h
  exact ba_ext h

theorem bytesOf_extract (s : ByteArray) (i j : Nat) : bytesOf (s.extract i j) = ((bytesOf s).take j).drop i := by
  unfold bytesOf
  rw [ByteArray.data_extract, Array.toList_extract]
  simp [List.extract_eq_take_drop, List.drop_take, List.map_take, List.map_drop]

theorem bt_bytesOf (s : ByteArray) (i : Int) : bt s i = rd (bytesOf s) i := (rd_bytesOf s i).symm

theorem bt_strOf {xs : List Int} (h : Bytes xs) (i : Int) : bt (strOfNums xs) i = rd xs i := by
  rw [bt_bytesOf, bytesOf_strOf h]

theorem rd_pre (pre : List Int) (x : Int) (post : List Int) : rd (pre ++ x :: post) (pre.length : Int) = x := by
  unfold rd
  simp

theorem within_eq (a b c : Int) : impl_within.f a b c = some (decide (b ≤ a ∧ a ≤ c)) := by
  unfold impl_within.f
  by_cases h : a ≥ b
  · rw [if_pos h]; congr 1; simp; omega
  · rw [if_neg h]; congr 1; simp; omega


def num4 (a : Int) : ByteArray := strOfNums [a / 16777216 % 256, a / 65536 % 256, a / 256 % 256, a % 256]

theorem implNumberText_eq (a : Int) (h0 : 0 ≤ a) (h1 : a ≤ 4294967295) : impl_NumberText.f a = some (num4 a) := by
  unfold impl_NumberText.f num4
  rw [within_eq, decide_eq_true (by omega)]
  simp only [Option.bind_some, if_true]
  rw [and255 _ (by omega) (by omega), and255 _ (by omega) (by omega), and255 _ (by omega) (by omega), and255 _ (by omega) (by omega)]
  rw [Int.emod_emod_of_dvd _ (by decide), Int.emod_emod_of_dvd _ (by decide), Int.emod_emod_of_dvd _ (by decide), Int.emod_emod_of_dvd _ (by decide)]

theorem implNumberText_no (a : Int) (h : ¬ (0 ≤ a ∧ a ≤ 4294967295)) : impl_NumberText.f a = some ⟨#[]⟩ := by
  unfold impl_NumberText.f
  rw [within_eq, decide_eq_false h]
  simp


def W32 (ws : List Int) : Prop := ∀ x ∈ ws, 0 ≤ x ∧ x ≤ 4294967295

theorem W32_cons {x : Int} {ws : List Int} : W32 (x :: ws) ↔ (0 ≤ x ∧ x ≤ 4294967295) ∧ W32 ws := by
  unfold W32
  simp

theorem W32_append {a b : List Int} : W32 (a ++ b) ↔ W32 a ∧ W32 b := by
  unfold W32
  simp only [List.mem_append]
  exact ⟨fun h => ⟨fun x hx => h x (Or.inl hx), fun x hx => h x (Or.inr hx)⟩, fun h x hx => hx.elim (h.1 x) (h.2 x)⟩

def wNums : List Int → List Int
  | [] => []
  | x :: ws => x / 16777216 % 256 :: x / 65536 % 256 :: x / 256 % 256 :: x % 256 :: wNums ws

def wText (ws : List Int) : ByteArray := strOfNums (wNums ws)

theorem wNums_length : ∀ ws : List Int, (wNums ws).length = 4 * ws.length
  | [] => rfl
  | x :: ws => by simp [wNums, wNums_length ws]; omega

theorem wNums_append : ∀ (a b : List Int), wNums (a ++ b) = wNums a ++ wNums b
  | [], b => rfl
  | x :: a, b => by simp [wNums, wNums_append a b]

theorem wNums_bytes : ∀ ws : List Int, Bytes (wNums ws)
  | [] => by intro x hx; simp [wNums] at hx
  | y :: ws => by
    intro x hx
    simp only [wNums, List.mem_cons] at hx
    rcases hx with h | h | h | h | h
    · omega
    · omega
    · omega
    · omega
    · exact wNums_bytes ws x h

theorem wText_size (ws : List Int) : (wText ws).size = 4 * ws.length := by unfold wText; rw [strOfNums_size, wNums_length]

theorem l04Bytes_l0 : ∀ (post pre acc : List Int) (k : Nat), W32 post → pre.length + post.length ≤ 1000000 → acc.length + 4 * post.length ≤ 1000000 → spec_l04Bytes.l0 (k + post.length + 1) (pre ++ post) acc pre.length = some (strOfNums (acc ++ wNums post))
  | [], pre, acc, k, hw, hl, ha => by
    show spec_l04Bytes.l0 (k + 1) _ _ _ = _
    rw [spec_l04Bytes.l0, if_neg (by simp)]
    simp [wNums]
  | x :: post, pre, acc, k, hw, hl, ha => by
    have hx := (W32_cons.mp hw).1
    show spec_l04Bytes.l0 ((k + post.length + 1) + 1) _ _ _ = _
    simp only [List.length_cons] at hl ha
    rw [spec_l04Bytes.l0, if_pos (by simp; omega), if_pos (by omega), rd_pre, tdiv_nn _ hx.1, tdiv_nn _ hx.1, tdiv_nn _ hx.1, tmod_nn _ hx.1]
    simp only [Option.bind_some, List.length_cons, List.length_nil]
    rw [if_pos (by omega), w64 (by omega) (by omega)]
    have e1 : x / 16777216 % 4294967296 % 256 = x / 16777216 % 256 := by omega
    have e2 : x / 65536 % 4294967296 % 256 = x / 65536 % 256 := by omega
    have e3 : x / 256 % 4294967296 % 256 = x / 256 % 256 := by omega
    have e4 : x % 256 % 256 = x % 256 := by omega
    have e5 : pre ++ x :: post = (pre ++ [x]) ++ post := by simp
    have e6 : ((pre.length : Int) + 1) = ((pre ++ [x]).length : Int) := by simp
    rw [e1, e2, e3, e4, e5, e6, l04Bytes_l0 post (pre ++ [x]) _ k (W32_cons.mp hw).2 (by simp; omega) (by simp; omega)]
    simp [wNums]

theorem l04Bytes_ev (ws : List Int) (hw : W32 ws) (hl : ws.length ≤ 1000) : Ev (fun k => spec_l04Bytes.f k ws) (wText ws) := by
  refine ⟨ws.length + 1, fun k hk => ?_⟩
  obtain ⟨m, rfl⟩ : ∃ m, k = m + ws.length + 1 := ⟨k - ws.length - 1, by omega⟩
  exact l04Bytes_l0 ws [] [] m hw (by simp; omega) (by simp; omega)

theorem wordsText_l0 : ∀ (post pre : List Int) (acc : List Int) (k : Nat), W32 post → pre.length + post.length ≤ 1000000 → acc.length + 4 * post.length ≤ 1000000 → impl_wordsText.l0 (k + post.length + 1) (strOfNums acc) (pre ++ post) ((pre ++ post).length : Int) pre.length = some (strOfNums (acc ++ wNums post))
  | [], pre, acc, k, hw, hl, ha => by
    show impl_wordsText.l0 (k + 1) _ _ _ _ = _
    rw [impl_wordsText.l0, if_neg (by simp)]
    simp [wNums]
  | x :: post, pre, acc, k, hw, hl, ha => by
    have hx := (W32_cons.mp hw).1
    show impl_wordsText.l0 ((k + post.length + 1) + 1) _ _ _ _ = _
    simp only [List.length_cons] at hl ha
    rw [impl_wordsText.l0, if_pos (by simp; omega), if_pos (by omega), if_pos (by simp; omega), rd_pre, implNumberText_eq x hx.1 hx.2]
    simp only [Option.bind_some]
    rw [strOfNums_size, if_pos (by unfold num4; rw [strOfNums_size]; simp; omega), w64 (by omega) (by omega)]
    have e5 : pre ++ x :: post = (pre ++ [x]) ++ post := by simp
    have e6 : ((pre.length : Int) + 1) = ((pre ++ [x]).length : Int) := by simp
    unfold num4
    rw [strOf_append, e5, e6, wordsText_l0 post (pre ++ [x]) _ k (W32_cons.mp hw).2 (by simp; omega) (by simp; omega)]
    simp [wNums]

theorem wordsText_ev (ws : List Int) (hw : W32 ws) (hl : ws.length ≤ 1000) : Ev (fun k => impl_wordsText.f k ws) (wText ws) := by
  refine ⟨ws.length + 1, fun k hk => ?_⟩
  obtain ⟨m, rfl⟩ : ∃ m, k = m + ws.length + 1 := ⟨k - ws.length - 1, by omega⟩
  exact wordsText_l0 ws [] [] m hw (by simp; omega) (by simp; omega)


def first8 : List Int := [1779033703, 3144134277, 1013904242, 2773480762, 1359893119, 2600822924, 528734635, 1541459225]

theorem first8_W32 : W32 first8 := by
  intro x hx
  simp only [first8, List.mem_cons, List.not_mem_nil, or_false] at hx
  omega

def st0 : ByteArray := wText first8

theorem specHasherNew_ev : Ev (fun k => spec_HasherNew.f k) (st0, ⟨#[]⟩, 0) := by
  obtain ⟨K, h⟩ := l04Bytes_ev first8 first8_W32 (by decide)
  refine ⟨K, fun k hk => ?_⟩
  have h := h k hk
  simp only at h
  show spec_HasherNew.f k = _
  unfold spec_HasherNew.f spec_l04First.f
  simp only [Option.bind_some]
  unfold first8 at h
  rw [h]
  rfl

theorem firstState_ev : Ev (fun k => impl_firstState.f k) st0 := by
  obtain ⟨K, h⟩ := wordsText_ev first8 first8_W32 (by decide)
  refine ⟨K, fun k hk => ?_⟩
  have h := h k hk
  simp only at h
  show impl_firstState.f k = _
  unfold impl_firstState.f
  unfold first8 at h
  rw [h]
  rfl

theorem implHasherNew_ev : Ev (fun k => impl_HasherNew.f k) (st0, ⟨#[]⟩, 0) := by
  obtain ⟨K, h⟩ := firstState_ev
  refine ⟨K, fun k hk => ?_⟩
  have h := h k hk
  simp only at h
  show impl_HasherNew.f k = _
  unfold impl_HasherNew.f
  rw [h]
  rfl


theorem FnExactHasherNew : laws_FnExactHasherNew.Pure := by
  obtain ⟨K, h1⟩ := specHasherNew_ev
  obtain ⟨K', h2⟩ := implHasherNew_ev
  refine ⟨K + K', ?_⟩
  have h1 := h1 (K + K') (by omega)
  have h2 := h2 (K + K') (by omega)
  simp only at h1 h2
  unfold laws_FnExactHasherNew.f
  rw [h1, h2]
  simp [laws_eqHasher.f]

end Go.Proofs.Ytbidjlpnjoihbaa.Pure.FnExactHasherNew
namespace Go.Proofs.Ytbidjlpnjoihbaa.Pure
theorem FnExactHasherNew : Go.Proofs.Ytbidjlpnjoihbaa.PFnExactHasherNew.laws_FnExactHasherNew.Pure := Go.Proofs.Ytbidjlpnjoihbaa.Pure.FnExactHasherNew.FnExactHasherNew
end Go.Proofs.Ytbidjlpnjoihbaa.Pure
