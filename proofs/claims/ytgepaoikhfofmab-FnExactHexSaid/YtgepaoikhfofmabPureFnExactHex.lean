/- Hex of the program is Hex of the reference, for all texts. -/
import Derived.Test.YtgepaoikhfofmabPFnExactHexx1
import Derived.OpenShut
import Derived.Laws.BitsLemmas
namespace Go.Proofs.Ytgepaoikhfofmab.Pure.FnExactHex
open Go Go.RowKit Go.Proofs.Ytgepaoikhfofmab.PFnExactHex Go.Proofs.YtgepaoikhfofmabW.PrintWords Go.Proofs.YtgepaoikhfofmabW.PrintLast Go.Proofs.YtgepaoikhfofmabW.PrintMore
set_option linter.unusedVariables false
set_option linter.unusedSimpArgs false

theorem w64 {x : Int} (h0 : -9223372036854775808 ≤ x) (h1 : x ≤ 9223372036854775807) : wrap64 x = x := by unfold wrap64; omega

theorem wraps64 (n : Int) (h0 : 0 ≤ n) (h1 : n < 2 ^ 63) : IntKind.i64.wrap n = n := by rw [IntKind.wrap_i64]; omega

theorem wraps32 (n : Int) (h0 : 0 ≤ n) (h1 : n < 2 ^ 32) : IntKind.u32.wrap n = n := by rw [IntKind.wrap_u32]; omega

theorem and255 (x : Int) (h0 : 0 ≤ x) (h1 : x < 9223372036854775808) : Go.bits .and .i64 x 255 = x % 256 :=
  bits_mask .i64 63 (by decide) wraps64 8 (by decide) x h0 (by omega)

theorem mask32 (x : Int) (h0 : 0 ≤ x) (h1 : x < 9223372036854775808) : Go.bits .and .i64 x 4294967295 = x % 4294967296 :=
  bits_mask .i64 63 (by decide) wraps64 32 (by decide) x h0 (by omega)

theorem tdiv_nn {a : Int} (b : Int) (h : 0 ≤ a) : Int.tdiv a b = a / b := Int.tdiv_eq_ediv_of_nonneg h

theorem tmod_nn {a : Int} (b : Int) (h : 0 ≤ a) : Int.tmod a b = a % b := Int.tmod_eq_emod_of_nonneg h

theorem bt_nn (s : ByteArray) (i : Int) : 0 ≤ bt s i := (bt_range s i).1

theorem bt_le (s : ByteArray) (i : Int) : bt s i ≤ 255 := (bt_range s i).2

def figOf (x : Int) : Int := if x < 10 then 48 + x else 87 + x

theorem figOf_range (x : Int) (h0 : 0 ≤ x) (h1 : x < 16) : 48 ≤ figOf x ∧ figOf x ≤ 102 := by unfold figOf; split <;> omega

theorem l01Figure_eq (x : Int) (h0 : 0 ≤ x) (h1 : x < 16) : spec_l01Figure.f x = some (figOf x) := by
  unfold spec_l01Figure.f figOf
  split
  · congr 1; unfold wrap64; omega
  · congr 1; unfold wrap64; omega

def hexTab : ByteArray := ⟨#[48, 49, 50, 51, 52, 53, 54, 55, 56, 57, 97, 98, 99, 100, 101, 102]⟩

theorem hexTab_at (x : Int) (h0 : 0 ≤ x) (h1 : x < 16) : bt hexTab x = figOf x := by
  obtain ⟨n, rfl⟩ := Int.eq_ofNat_of_zero_le h0
  have hn : n < 16 := by omega
  have H : ∀ m : Fin 16, bt hexTab ((m.val : Nat) : Int) = figOf ((m.val : Nat) : Int) := by decide +kernel
  exact H ⟨n, hn⟩

def hexFrom (t : ByteArray) : Nat → Int → List Int
  | 0, _ => []
  | d + 1, i => figOf (bt t i / 16) :: figOf (bt t i % 16) :: hexFrom t d (i + 1)

theorem specHex_l0 (t : ByteArray) (ht : t.size ≤ 140737488351232) : ∀ (d : Nat) (k : Nat) (acc : List Int) (i : Int), 0 ≤ i → i + d = t.size → acc.length + 2 * d < 140737488355328 → spec_Hex.l0 (k + d + 1) t acc i = some (strOfNums (acc ++ hexFrom t d i), true)
  | 0, k, acc, i, h0, h, hl => by
    show spec_Hex.l0 (k + 1) t acc i = _
    rw [spec_Hex.l0, if_neg (by omega)]
    simp [hexFrom]
  | d + 1, k, acc, i, h0, h, hl => by
    show spec_Hex.l0 ((k + d + 1) + 1) t acc i = _
    have hb := bt_range t i
    rw [spec_Hex.l0, if_pos (by omega), if_pos h0, w64 (x := bt t i) (by omega) (by omega), tdiv_nn _ hb.1, tmod_nn _ hb.1, w64 (x := bt t i / 16) (by omega) (by omega), l01Figure_eq _ (by omega) (by omega), l01Figure_eq _ (by omega) (by omega)]
    simp only [Option.bind_some, List.length_cons, List.length_nil]
    rw [if_pos (by omega), w64 (x := i + 1) (by omega) (by omega), specHex_l0 t ht d k _ (i + 1) (by omega) (by omega) (by simp; omega)]
    simp [hexFrom]

theorem implHex_l0 (t : ByteArray) (ht : t.size ≤ 140737488351232) : ∀ (d : Nat) (k : Nat) (acc : List Int) (i : Int), 0 ≤ i → i + d = t.size → acc.length + 2 * d < 140737488355328 → impl_Hex.l0 (k + d + 1) t acc i = some (strOfNums (acc ++ hexFrom t d i), true)
  | 0, k, acc, i, h0, h, hl => by
    show impl_Hex.l0 (k + 1) t acc i = _
    rw [impl_Hex.l0, if_neg (by omega)]
    simp [hexFrom]
  | d + 1, k, acc, i, h0, h, hl => by
    show impl_Hex.l0 ((k + d + 1) + 1) t acc i = _
    have hb := bt_range t i
    rw [impl_Hex.l0, if_pos (by omega), if_pos h0, tdiv_nn _ hb.1, tmod_nn _ hb.1, if_pos (by omega), if_pos (by omega), if_pos (by omega), if_pos (by omega)]
    have e1 := hexTab_at (bt t i / 16 % 256) (by omega) (by omega)
    have e2 := hexTab_at (bt t i % 16) (by omega) (by omega)
    unfold hexTab at e1 e2
    rw [e1, e2]
    simp only [Option.bind_some, List.length_cons, List.length_nil]
    rw [if_pos (by omega), w64 (x := i + 1) (by omega) (by omega), implHex_l0 t ht d k _ (i + 1) (by omega) (by omega) (by simp; omega)]
    have e3 : bt t i / 16 % 256 = bt t i / 16 := by omega
    simp [hexFrom, e3]

def hexOf (t : ByteArray) : ByteArray := strOfNums (hexFrom t t.size 0)

theorem specHex_ev (t : ByteArray) (ht : t.size ≤ 20000) : Ev (fun k => spec_Hex.f k t) (hexOf t, true) := by
  refine ⟨t.size + 1, fun k hk => ?_⟩
  obtain ⟨m, rfl⟩ : ∃ m, k = m + t.size + 1 := ⟨k - (t.size + 1), by omega⟩
  show spec_Hex.f (m + t.size + 1) t = _
  unfold spec_Hex.f
  rw [if_neg (by omega), specHex_l0 t (by omega) t.size m [] 0 (by omega) (by omega) (by simp; omega)]
  rfl

theorem specHex_no (t : ByteArray) (ht : ¬ t.size ≤ 20000) (k : Nat) : spec_Hex.f k t = some (⟨#[]⟩, false) := by
  unfold spec_Hex.f
  rw [if_pos (by omega)]

theorem implHex_ev (t : ByteArray) (ht : t.size ≤ 20000) : Ev (fun k => impl_Hex.f k t) (hexOf t, true) := by
  refine ⟨t.size + 1, fun k hk => ?_⟩
  obtain ⟨m, rfl⟩ : ∃ m, k = m + t.size + 1 := ⟨k - (t.size + 1), by omega⟩
  show impl_Hex.f (m + t.size + 1) t = _
  unfold impl_Hex.f
  rw [if_neg (by omega), implHex_l0 t (by omega) t.size m [] 0 (by omega) (by omega) (by simp; omega)]
  rfl

theorem implHex_no (t : ByteArray) (ht : ¬ t.size ≤ 20000) (k : Nat) : impl_Hex.f k t = some (⟨#[]⟩, false) := by
  unfold impl_Hex.f
  rw [if_pos (by omega)]


theorem FnExactHex : laws_FnExactHex.Pure := by
  intro t ht
  by_cases h : t.size ≤ 20000
  · obtain ⟨K, h1⟩ := specHex_ev t h
    obtain ⟨K', h2⟩ := implHex_ev t h
    refine ⟨K + K', ?_⟩
    have h1 := h1 (K + K') (by omega)
    have h2 := h2 (K + K') (by omega)
    simp only at h1 h2
    unfold laws_FnExactHex.f
    rw [h1, h2]
    simp
  · refine ⟨0, ?_⟩
    unfold laws_FnExactHex.f
    rw [specHex_no t h, implHex_no t h]
    simp

end Go.Proofs.Ytgepaoikhfofmab.Pure.FnExactHex
namespace Go.Proofs.Ytgepaoikhfofmab.Pure
theorem FnExactHex : Go.Proofs.Ytgepaoikhfofmab.PFnExactHex.laws_FnExactHex.Pure := Go.Proofs.Ytgepaoikhfofmab.Pure.FnExactHex.FnExactHex
end Go.Proofs.Ytgepaoikhfofmab.Pure
