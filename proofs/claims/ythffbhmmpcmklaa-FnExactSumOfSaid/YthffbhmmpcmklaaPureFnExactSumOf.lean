/- SumOf of the program is SumOf of the reference, for all texts. -/
import Derived.Test.YthffbhmmpcmklaaPFnExactSumOfx1
import Derived.OpenShut
import Derived.Laws.BitsLemmas
namespace Go.Proofs.Ythffbhmmpcmklaa.Pure.FnExactSumOf
open Go Go.RowKit Go.Proofs.Ythffbhmmpcmklaa.PFnExactSumOf Go.Proofs.YthffbhmmpcmklaaW.PrintWords Go.Proofs.YthffbhmmpcmklaaW.PrintLast Go.Proofs.YthffbhmmpcmklaaW.PrintMore
set_option linter.unusedVariables false
set_option linter.unusedSimpArgs false

theorem w64 {x : Int} (h0 : -9223372036854775808 ≤ x) (h1 : x ≤ 9223372036854775807) : wrap64 x = x := by unfold wrap64; omega

theorem wraps64 (n : Int) (h0 : 0 ≤ n) (h1 : n < 2 ^ 63) : IntKind.i64.wrap n = n := by rw [IntKind.wrap_i64]; omega

theorem wraps32 (n : Int) (h0 : 0 ≤ n) (h1 : n < 2 ^ 32) : IntKind.u32.wrap n = n := by rw [IntKind.wrap_u32]; omega

theorem and255 (x : Int) (h0 : 0 ≤ x) (h1 : x < 9223372036854775808) : Go.bits .and .i64 x 255 = x % 256 :=
  bits_mask .i64 63 (by decide) wraps64 8 (by decide) x h0 (by omega)

theorem mask32 (x : Int) (h0 : 0 ≤ x) (h1 : x < 9223372036854775808) : Go.bits .and .i64 x 4294967295 = x % 4294967296 :=
  bits_mask .i64 63 (by decide) wraps64 32 (by decide) x h0 (by omega)

theorem tdiv_nn {a : Int} (b : Int) (h : 0 ≤ a) : Int.tdiv a b = a / b := Int.tdiv_eq_ediv_of_nonneg h

theorem tmod_nn {a : Int} (b : Int) (h : 0 ≤ a) : Int.tmod a b = a % b := Int.tmod_eq_emod_of_nonneg h

theorem bt_nn (s : ByteArray) (i : Int) : 0 ≤ bt s i := (bt_range s i).1

theorem bt_le (s : ByteArray) (i : Int) : bt s i ≤ 255 := (bt_range s i).2

def crcStep (x : Int) : Int := if Int.tmod x 2 = 1 then Go.bits .xor .u32 ((Int.tdiv x 2) % 4294967296) 3558460437 else (Int.tdiv x 2) % 4294967296

def crcIter : Nat → Int → Int
  | 0, x => x
  | d + 1, x => crcIter d (crcStep x)

def crcByte (x b : Int) : Int := crcIter 8 (Go.bits .xor .u32 x (b % 4294967296))

def crcFrom (t : ByteArray) : Nat → Int → Int → Int
  | 0, _, x => x
  | d + 1, i, x => crcFrom t d (i + 1) (crcByte x (bt t i))

theorem specSum_l1 (t : ByteArray) (i : Int) : ∀ (d : Nat) (k : Nat) (x j : Int), 0 ≤ j → j + d = 8 → spec_SumMore.l1 (k + d + 1) x t i j = spec_SumMore.l0 k (crcIter d x) t (wrap64 (i + 1))
  | 0, k, x, j, h0, h => by
    show spec_SumMore.l1 (k + 1) x t i j = _
    rw [spec_SumMore.l1, if_neg (by omega)]; rfl
  | d + 1, k, x, j, h0, h => by
    show spec_SumMore.l1 ((k + d + 1) + 1) x t i j = _
    rw [spec_SumMore.l1, if_pos (by omega), w64 (x := j + 1) (by omega) (by omega), specSum_l1 t i d k _ (j + 1) (by omega) (by omega), specSum_l1 t i d k _ (j + 1) (by omega) (by omega)]
    show _ = spec_SumMore.l0 k (crcIter d (crcStep x)) t (wrap64 (i + 1))
    unfold crcStep
    split <;> rfl

theorem specSum_l0 (t : ByteArray) (ht : t.size ≤ 140737488351232) : ∀ (d : Nat) (k : Nat) (x i : Int), 0 ≤ i → i + d = t.size → spec_SumMore.l0 (k + 10 * d + 1) x t i = some (crcFrom t d i x)
  | 0, k, x, i, h0, h => by
    show spec_SumMore.l0 (k + 1) x t i = _
    rw [spec_SumMore.l0, if_neg (by omega)]; rfl
  | d + 1, k, x, i, h0, h => by
    have e : k + 10 * (d + 1) + 1 = (k + 10 * d + 1) + 8 + 1 + 1 := by omega
    rw [e, spec_SumMore.l0, if_pos (by omega), if_pos h0, specSum_l1 t i 8 _ _ 0 (by omega) (by omega), w64 (x := i + 1) (by omega) (by omega), specSum_l0 t ht d k _ (i + 1) (by omega) (by omega)]
    rfl

theorem specSum_ev (t : ByteArray) (ht : t.size ≤ 140737488351232) (x : Int) : Ev (fun k => spec_SumMore.f k x t) (crcFrom t t.size 0 x) := by
  refine ⟨10 * t.size + 1, fun k hk => ?_⟩
  obtain ⟨m, rfl⟩ : ∃ m, k = m + 10 * t.size + 1 := ⟨k - (10 * t.size + 1), by omega⟩
  exact specSum_l0 t ht t.size m x 0 (by omega) (by omega)

theorem implSum_l1 (t : ByteArray) (i : Int) : ∀ (d : Nat) (k : Nat) (x j : Int), 0 ≤ j → j + d = 8 → impl_SumMore.l1 (k + d + 1) x t i j = impl_SumMore.l0 k (crcIter d x) t (wrap64 (i + 1))
  | 0, k, x, j, h0, h => by
    show impl_SumMore.l1 (k + 1) x t i j = _
    rw [impl_SumMore.l1, if_neg (by omega)]; rfl
  | d + 1, k, x, j, h0, h => by
    show impl_SumMore.l1 ((k + d + 1) + 1) x t i j = _
    rw [impl_SumMore.l1, if_pos (by omega), w64 (x := j + 1) (by omega) (by omega), implSum_l1 t i d k _ (j + 1) (by omega) (by omega), implSum_l1 t i d k _ (j + 1) (by omega) (by omega)]
    show _ = impl_SumMore.l0 k (crcIter d (crcStep x)) t (wrap64 (i + 1))
    unfold crcStep
    split <;> rfl

theorem implSum_l0 (t : ByteArray) (ht : t.size ≤ 140737488351232) : ∀ (d : Nat) (k : Nat) (x i : Int), 0 ≤ i → i + d = t.size → impl_SumMore.l0 (k + 10 * d + 1) x t i = some (crcFrom t d i x)
  | 0, k, x, i, h0, h => by
    show impl_SumMore.l0 (k + 1) x t i = _
    rw [impl_SumMore.l0, if_neg (by omega)]; rfl
  | d + 1, k, x, i, h0, h => by
    have e : k + 10 * (d + 1) + 1 = (k + 10 * d + 1) + 8 + 1 + 1 := by omega
    rw [e, impl_SumMore.l0, if_pos (by omega), if_pos h0, implSum_l1 t i 8 _ _ 0 (by omega) (by omega), w64 (x := i + 1) (by omega) (by omega), implSum_l0 t ht d k _ (i + 1) (by omega) (by omega)]
    rfl

theorem implSum_ev (t : ByteArray) (ht : t.size ≤ 140737488351232) (x : Int) : Ev (fun k => impl_SumMore.f k x t) (crcFrom t t.size 0 x) := by
  refine ⟨10 * t.size + 1, fun k hk => ?_⟩
  obtain ⟨m, rfl⟩ : ∃ m, k = m + 10 * t.size + 1 := ⟨k - (10 * t.size + 1), by omega⟩
  exact implSum_l0 t ht t.size m x 0 (by omega) (by omega)


def crcOf (t : ByteArray) : Int := crcFrom t t.size 0 4294967295

theorem specSumOf_ev (t : ByteArray) (ht : t.size ≤ 140737488351232) : Ev (fun k => spec_SumOf.f k t) (crcOf t) := by
  obtain ⟨K, h⟩ := specSum_ev t ht 4294967295
  refine ⟨K, fun k hk => ?_⟩
  show spec_SumOf.f k t = some (crcOf t)
  have h := h k hk
  simp only at h
  unfold spec_SumOf.f
  rw [h]; rfl

theorem implSumOf_ev (t : ByteArray) (ht : t.size ≤ 140737488351232) : Ev (fun k => impl_SumOf.f k t) (crcOf t) := by
  obtain ⟨K, h⟩ := implSum_ev t ht 4294967295
  refine ⟨K, fun k hk => ?_⟩
  show impl_SumOf.f k t = some (crcOf t)
  have h := h k hk
  simp only at h
  unfold impl_SumOf.f
  rw [h]; rfl


theorem FnExactSumOf : laws_FnExactSumOf.Pure := by
  intro t ht
  obtain ⟨K, h⟩ := specSumOf_ev t ht
  obtain ⟨K', h'⟩ := implSumOf_ev t ht
  refine ⟨K + K', ?_⟩
  have h := h (K + K') (by omega)
  have h' := h' (K + K') (by omega)
  simp only at h h'
  unfold laws_FnExactSumOf.f
  rw [h, h']
  simp

end Go.Proofs.Ythffbhmmpcmklaa.Pure.FnExactSumOf
namespace Go.Proofs.Ythffbhmmpcmklaa.Pure
theorem FnExactSumOf : Go.Proofs.Ythffbhmmpcmklaa.PFnExactSumOf.laws_FnExactSumOf.Pure := Go.Proofs.Ythffbhmmpcmklaa.Pure.FnExactSumOf.FnExactSumOf
end Go.Proofs.Ythffbhmmpcmklaa.Pure
