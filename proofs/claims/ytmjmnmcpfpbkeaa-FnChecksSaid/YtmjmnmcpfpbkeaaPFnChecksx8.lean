-- Written by this session's program wip/myprint.py, after the kit's print.
import Derived.Test.YtmjmnmcpfpbkeaaPFnChecksx0
import Derived.Test.YtmjmnmcpfpbkeaaPFnChecksx4
import Derived.Test.YtmjmnmcpfpbkeaaPFnChecksx5
import Derived.Test.YtmjmnmcpfpbkeaaPFnChecksx6
import Derived.Test.YtmjmnmcpfpbkeaaPFnChecksx7
namespace Go.Proofs.Ytmjmnmcpfpbkeaa.PFnChecks
open Go.RowKit Go.Proofs.YtmjmnmcpfpbkeaaW.PrintWords Go.Proofs.YtmjmnmcpfpbkeaaW.PrintLast Go.Proofs.YtmjmnmcpfpbkeaaW.PrintMore
attribute [local go_sem] max2_int min2_int max_two min_two max_three min_three max_four min_four   -- for this text's walks alone
set_option linter.unusedVariables false
set_option linter.unusedSimpArgs false
def MRow (W : World) (g : Nat) (e : TypeId) (cap : Nat) (xs : List Int) : Prop :=
 ∃ cur fz, W.heap[g]? = some (.cells cur e fz) ∧ cur.size = cap ∧ xs.length ≤ cap ∧ (fz.2 ≤ fz.1 ∨ cap ≤ fz.1) ∧ cur.toList.take xs.length = nums .u8 xs
theorem MRow.same {W W' : World} {g : Nat} {e : TypeId} {cap : Nat} {xs : List Int} (h : MRow W g e cap xs) (hs : W'.heap[g]? = W.heap[g]?) : MRow W' g e cap xs := by
 obtain ⟨cur, fz, hg, rest⟩ := h
 exact ⟨cur, fz, hs.trans hg, rest⟩
theorem MRow.lt {W : World} {g : Nat} {e : TypeId} {cap : Nat} {xs : List Int} (h : MRow W g e cap xs) : g < W.heap.size := by
 obtain ⟨cur, fz, hg, _⟩ := h
 exact (Array.getElem?_eq_some_iff.1 hg).1
theorem MRow.below {W W' : World} {g : Nat} {e : TypeId} {cap : Nat} {xs : List Int} (h : MRow W g e cap xs) (hb : Below W.heap.size W W') : MRow W' g e cap xs := h.same (hb.block g h.lt)
theorem MRow.conv (W : World) (e : TypeId) (s : ByteArray) : MRow (Lib.bytesWorld W e s) W.heap.size e (grownCap W s.size 0 e) (bytesOf s) := by
 have hge := grownCap_ge W s.size 0 e
 refine ⟨_, _, Lib.bytesWorld_at_new W e s, ?_, by rw [bytesOf_length]; exact hge, Or.inr ?_, ?_⟩
 ·
  have hd : s.data.size = s.size := rfl
  simp [Lib.bytesCells]; omega
 ·
  have hd : s.data.size = s.size := rfl
  simp [Lib.bytesCells]; omega
 ·
  rw [bytesOf_length]
  have hl : s.data.toList.length = s.size := data_length s
  unfold Lib.bytesCells nums bytesOf
  rw [Array.toList_append, List.take_append_of_le_length (by simp [hl]), List.take_of_length_le (by simp [hl])]
  simp
theorem MRow.cell {W : World} {g : Nat} {e : TypeId} {cap : Nat} {xs : List Int} (h : MRow W g e cap xs) (i : Int) (h0 : 0 ≤ i) (h1 : i < (xs.length : Int)) :
  W.cell? ⟨g, i.toNat, none⟩ = some (.int .u8 (rd xs i)) ∧ W.frozen? ⟨g, i.toNat, none⟩ = false := by
 obtain ⟨cur, fz, hg, hs, hl, hm, ht⟩ := h
 have hi : i.toNat < xs.length := by omega
 constructor
 ·
  rw [cell_of_row W g i.toNat cur e fz hg]
  have : (cur.toList.take xs.length)[i.toNat]? = (nums .u8 xs)[i.toNat]? := by rw [ht]
  rw [List.getElem?_take_of_lt hi] at this
  rw [← Array.getElem?_toList, this]
  unfold nums rd
  simp [List.getD_eq_getElem?_getD, List.getElem?_eq_getElem hi]
 ·
  obtain ⟨lo, hi'⟩ := fz
  simp only [World.frozen?, hg, Bool.and_eq_false_iff, decide_eq_false_iff_not]
  simp only at hm
  omega
theorem MRow.set {W : World} {g : Nat} {e : TypeId} {cap : Nat} {xs : List Int} (h : MRow W g e cap xs) (i : Nat) (v : Int) : MRow (W.setCell ⟨g, i, none⟩ (.int .u8 v)) g e cap (xs.set i v) := by
 obtain ⟨cur, fz, hg, hs, hl, hm, ht⟩ := h
 refine ⟨cur.setIfInBounds i (.int .u8 v), fz, ?_, by simpa using hs, by simpa using hl, hm, ?_⟩
 ·
  rw [setCell_eq_setRow W g i cur e fz _ hg]
  exact setRow_heap W g cur _ e fz hg
 ·
  rw [Array.toList_setIfInBounds, List.length_set, List.take_set, ht]
  unfold nums
  rw [List.map_set]
theorem MRow.str {P : Program} {W : World} {g : Nat} {e : TypeId} {cap : Nat} {xs : List Int} (h : MRow W g e cap xs) {src dst : TypeId} (hs : P.underlying src = some (.slice e)) (he : P.underlying e = some (.int .u8)) (hd : P.underlying dst = some .string) (c : Nat) :
  (convert src dst (.slice (some ⟨g, 0, none⟩) xs.length c)).run P W = .ok (.string (strOfNums xs)) W := by
 refine run_convert_bytes_arg W src e hs he g 0 xs.length c xs rfl (fun i hi => ?_) dst hd
 have hc := (h.cell (i : Int) (by omega) (by omega)).1
 have e1 : ((i : Int)).toNat = i := by omega
 rw [e1] at hc
 rw [Nat.zero_add, hc]
 unfold rd
 rw [e1]
theorem set_step (T l : List Int) (i : Nat) (hi : i < l.length) (hT : T.length = l.length) : (T.take i ++ l.drop i).set i (T.getD i 0) = T.take (i + 1) ++ l.drop (i + 1) := by
 have hi' : i < T.length := by omega
 rw [List.set_append_right _ _ (by simp; omega), List.length_take, Nat.min_eq_left (by omega), Nat.sub_self, List.drop_eq_getElem_cons hi, List.set_cons_zero, List.take_succ_eq_append_getElem hi', List.append_assoc]
 simp [List.getD_eq_getElem?_getD, List.getElem?_eq_getElem hi']
theorem mid_len (T l : List Int) (i : Nat) (hi : i ≤ l.length) (hT : T.length = l.length) : (T.take i ++ l.drop i).length = l.length := by simp; omega
theorem mid_rd (T l : List Int) (i : Nat) (hi : i < l.length) (hT : T.length = l.length) : rd (T.take i ++ l.drop i) (i : Int) = l.getD i 0 := by
 unfold rd
 have e1 : ((i : Int)).toNat = i := by omega
 rw [e1]
 simp only [List.getD_eq_getElem?_getD]
 rw [List.getElem?_append_right (by simp; omega), List.length_take, Nat.min_eq_left (by omega), Nat.sub_self, List.getElem?_drop, Nat.add_zero]
theorem MRow.strcut {P : Program} {W : World} {g : Nat} {e : TypeId} {cap : Nat} {xs : List Int} (h : MRow W g e cap xs) {src dst : TypeId} (hs : P.underlying src = some (.slice e)) (he : P.underlying e = some (.int .u8)) (hd : P.underlying dst = some .string) (i n c : Nat) (hi : i + n ≤ xs.length) :
  (convert src dst (.slice (some ⟨g, i, none⟩) n c)).run P W = .ok (.string (strOfNums ((xs.take (i + n)).drop i))) W := by
 have hl : ((xs.take (i + n)).drop i).length = n := by
  rw [List.length_drop, List.length_take]
  omega
 refine run_convert_bytes_arg W src e hs he g i n c _ hl (fun j hj => ?_) dst hd
 have hc := (h.cell ((i + j : Nat) : Int) (by omega) (by omega)).1
 rw [Int.toNat_natCast] at hc
 rw [hc]
 unfold rd
 rw [Int.toNat_natCast]
 simp only [List.getD_eq_getElem?_getD]
 rw [List.getElem?_drop, List.getElem?_take_of_lt (by omega)]
theorem MRow.len {W : World} {g : Nat} {e : TypeId} {cap : Nat} {xs : List Int} (h : MRow W g e cap xs) : xs.length ≤ cap := by
 obtain ⟨_, _, _, _, hl, _⟩ := h
 exact hl
theorem MRow.put {W : World} {g : Nat} {e : TypeId} {cap : Nat} {xs : List Int} (h : MRow W g e cap xs) (hr : xs.length + 1 ≤ cap) (v : Int) :
  W.cell? ⟨g, xs.length, none⟩ ≠ none ∧ W.frozen? ⟨g, xs.length, none⟩ = false ∧ MRow (W.setCell ⟨g, xs.length, none⟩ (.int .u8 v)) g e cap (xs ++ [v]) := by
 obtain ⟨cur, fz, hg, hs, hl, hm, ht⟩ := h
 have hi : xs.length < cur.size := by omega
 refine ⟨?_, ?_, cur.setIfInBounds xs.length (.int .u8 v), fz, ?_, by simpa using hs, by simp; omega, hm, ?_⟩
 ·
  rw [cell_of_row W g xs.length cur e fz hg]
  simp [hi]
 ·
  obtain ⟨lo, hi'⟩ := fz
  simp only [World.frozen?, hg, Bool.and_eq_false_iff, decide_eq_false_iff_not]
  simp only at hm
  omega
 ·
  rw [setCell_eq_setRow W g xs.length cur e fz _ hg]
  exact setRow_heap W g cur _ e fz hg
 ·
  rw [Array.toList_setIfInBounds, List.length_append, List.length_singleton]
  have hi2 : xs.length < (cur.toList.set xs.length (Value.int .u8 v)).length := by simpa using hi
  rw [List.take_succ_eq_append_getElem hi2, List.take_set_of_le (Nat.le_refl _), ht]
  simp [nums]
theorem run_append_M {P : Program} (w : World) (t ty e : TypeId) (i : TypeInfo) (ht : P.underlying t = some (.slice e)) (hi : P.info? e = some i) (hz : i.zero = some (.int .u8 0)) (hsz : i.size = 1) (hby : i.bytes = 1)
  (g cap : Nat) (xs : List Int) (HM : MRow w g e cap xs) (a : Addr) (y : Int) (hnew : w.cell? (a.add 0) = some (.int .u8 y)) (hcm : cap ≤ maxLen) (hlen : xs.length + 1 ≤ 140737488355328) :
  ∃ g1 cap1 w1, (Builtin.append_ #[t, t] ty #[.slice (some ⟨g, 0, none⟩) xs.length cap, .slice (some a) 1 1]).run P w = .ok (.slice (some ⟨g1, 0, none⟩) (xs.length + 1) cap1) w1 ∧
   MRow w1 g1 e cap1 (xs ++ [y]) ∧ cap1 ≤ maxLen ∧ (g1 = g ∨ g1 = w.heap.size) ∧ w.grownBy w1 (some g) := by
 have hnews : ∀ j u, [Value.int .u8 y][j]? = some u → w.cell? (a.add j) = some u := by
  intro j u hj
  match j, hj with
  | 0, hj => simp at hj; subst hj; exact hnew
 have hml : (140737488355328 : Nat) ≤ maxLen := by unfold maxLen; decide
 by_cases hroom : xs.length + 1 ≤ cap
 ·
  obtain ⟨hc, hf, hM⟩ := HM.put hroom y
  refine ⟨g, cap, w.setCell ⟨g, xs.length, none⟩ (.int .u8 y), ?_, hM, hcm, Or.inl rfl, ⟨rfl, rfl, rfl, by simp [World.setCell], fun k _ hk => Below.heap_setCell _ _ _ _ (fun e => hk (by simp [e]))⟩⟩
  have hfc := run_firstCells_some (P := P) w i.size 1 a 1 1 [.int .u8 y] (by simp [hsz]) hnews
  have hadd : (⟨g, xs.length, none⟩ : Addr).add 0 = ⟨g, xs.length, none⟩ := by unfold Addr.add; simp
  have hst : (storeCells ⟨g, xs.length, none⟩ [Value.int .u8 y] 0).run P w = .ok () (w.setCell ⟨g, xs.length, none⟩ (.int .u8 y)) := by
   obtain ⟨u, hu⟩ := Option.ne_none_iff_exists'.mp hc
   simp only [storeCells, Sem.run_bind, hadd, run_store P w _ (Value.int .u8 y) _ rfl, hu, hf]
   simp
  rw [hsz] at hfc
  simp [Builtin.append_, run_underlying ht, sizeOf, typeInfo, hi, hsz, Builtin.lenOf, hroom, hfc, Addr.add_lit, hst]
 ·
  obtain ⟨cur, fz, hg, hs, hl, hm, htk⟩ := HM
  have holds : ∀ j u, (nums .u8 xs)[j]? = some u → w.cell? ((⟨g, 0, none⟩ : Addr).add j) = some u := by
   intro j u hu
   have hadd : (⟨g, 0, none⟩ : Addr).add j = ⟨g, j, none⟩ := by unfold Addr.add; split <;> simp_all
   rw [hadd, cell_of_row w g j cur e fz hg]
   rw [← htk, List.getElem?_take] at hu
   split at hu
   ·
    simpa using hu
   ·
    cases hu
  have hr := run_append_grow (P := P) w t ty e i (.int .u8 0) ht hi hz ⟨g, 0, none⟩ xs.length cap (nums .u8 xs) (by simp [nums, hsz]) holds a 1 1 [.int .u8 y] (by simp [hsz]) hnews (by omega) (by unfold maxLen at hml; omega) (growslice_fits (by omega) (by rw [hby]; omega))
  have hge := grownCap_ge w (xs.length + 1) cap e
  refine ⟨w.heap.size, _, _, hr, ⟨_, (0, 0), heap_alloc_new w.drew _, ?_, by simp; omega, Or.inl (Nat.le_refl _), ?_⟩, grownCap_le_maxLen w (xs.length + 1) cap e (by omega), Or.inr rfl, ⟨rfl, rfl, rfl, by simp, fun k hk _ => Below.heap_alloc w.drew _ k hk⟩⟩
  ·
   have hz1 : (Value.int IntKind.u8 0).cells.size = 1 := rfl
   simp only [Array.size_append, List.size_toArray, size_zeroCells, hz1]
   simp [nums]; omega
  ·
   simp only [Array.toList_append, List.append_assoc]
   rw [← List.append_assoc]
   have e1 : nums .u8 xs ++ [Value.int .u8 y] = nums .u8 (xs ++ [y]) := by simp [nums]
   rw [e1]
   have e2 : (xs ++ [y]).length = (nums .u8 (xs ++ [y])).length := by simp [nums]
   rw [e2]
   exact List.take_left
theorem append_M {P : Program} {ops : Array Oper} {rest : List Oper} {o : Oper} {a : Act} {Q : Exit → Act → World → Prop} {W w0 : World} {B : Nat} (hgd : o.guard = none) (s x : Operand) (t e : TypeId)
  (ho : o.op = .call { callee := .builtin .append, args := #[s, x], argTypes := #[t, t] })
  (ht : P.underlying t = some (.slice e)) (hinfo : (P.info? e).map (fun i => (i.zero, i.size, i.bytes)) = some (some (.int .u8 0), 1, 1))
  (g cap n : Nat) (xs : List Int) (y : Int) (hn : n = xs.length) (hs : a.eval s = .slice (some ⟨g, 0, none⟩) n cap) (hx : a.eval x = .slice (some ⟨W.heap.size, 0, none⟩) 1 1)
  (HM : MRow W g e cap xs) (hcm : cap ≤ maxLen) (HB : Below B w0 W) (hg : B ≤ g) (hBW : B ≤ W.heap.size) (hlen : n + 1 ≤ 140737488355328)
  (h : ∀ g1 cap1 w1, MRow w1 g1 e cap1 (xs ++ [y]) → cap1 ≤ maxLen → B ≤ g1 → Below B w0 w1 → (∀ k, k < W.heap.size → k ≠ g → w1.heap[k]? = W.heap[k]?) → (g1 = g ∨ W.heap.size ≤ g1) → wpList P ops Q rest (a.put o.dst (.slice (some ⟨g1, 0, none⟩) (n + 1) cap1)) w1) :
  wpList P ops Q (o :: rest) a (W.alloc (.cells #[.int .u8 y] e)) := by
 subst hn
 obtain ⟨i0, hi, hzz⟩ := Option.map_eq_some_iff.1 hinfo
 simp only [Prod.mk.injEq] at hzz
 obtain ⟨hz0, hz1, hz2⟩ := hzz
 have hM2 : MRow (W.alloc (.cells #[.int .u8 y] e)) g e cap xs := HM.same (Below.heap_alloc W _ g HM.lt)
 have hnew : (W.alloc (.cells #[.int .u8 y] e)).cell? ((⟨W.heap.size, 0, none⟩ : Addr).add 0) = some (.int .u8 y) := cell_one_new W (.int .u8 y) e 0 _ rfl
 obtain ⟨g1, cap1, w1, hr, h1, h2, h3, h4⟩ := run_append_M (P := P) (W.alloc (.cells #[.int .u8 y] e)) t o.type e i0 ht hi hz0 hz1 hz2 g cap xs hM2 ⟨W.heap.size, 0, none⟩ y hnew hcm hlen
 have hsz : (W.alloc (.cells #[.int .u8 y] e)).heap.size = W.heap.size + 1 := by simp
 refine wpList_plain hgd fun K hK => ?_
 unfold Oper.wp execOp
 simp only [ho, resolve, invoke, builtin, Sem.run_bind, Sem.run_pure, Result.andThen_ok, List.map_toArray, List.map_cons, List.map_nil, hs, hx, hr]
 refine hK _ _ (h g1 cap1 w1 h1 h2 ?_ ?_ ?_ ?_)
 ·
  rcases h3 with rfl | rfl
  ·
   exact hg
  ·
   omega
 ·
  exact (HB.alloc hBW _).grown h4 (by omega) (fun k hk => by injection hk with hk; omega)
 ·
  intro k hk hne
  rw [h4.block k (by omega) (by simpa using hne)]
  exact Below.heap_alloc W _ k hk
 ·
  rcases h3 with rfl | rfl
  ·
   exact Or.inl rfl
  ·
   right; omega
theorem print_append_conv {P : Program} {ops : Array Oper} {rest : List Oper} {o : Oper} {a : Act} {Q : Exit → Act → World → Prop} {w0 W : World} (base : Nat) (hgd : o.guard = none) (s x : Operand) (t e : TypeId)
  (ho : o.op = .call { callee := .builtin .append, args := #[s, x], argTypes := #[t, t] })
  (ht : P.underlying t = some (.slice e)) (hinfo : (P.info? e).map (fun i => (i.zero, i.size, i.bytes)) = some (some (.int .u8 0), 1, 1))
  (v : Value) (xs : List Int) (y : ByteArray) (hs : a.eval s = v) (hx : a.eval x = .slice (some ⟨W.heap.size, 0, none⟩) y.size (grownCap W y.size 0 e))
  (HO : W.ownsRow base e 1 v xs.length (nums .u8 xs)) (HB : Below base w0 W) (hbase : base ≤ W.heap.size) (hl : xs.length + y.size ≤ 140737488355328)
  (h : ∀ v1 w1, w1.ownsRow base e 1 v1 (xs ++ bytesOf y).length (nums .u8 (xs ++ bytesOf y)) → Below base w0 w1 → W.grownBy w1 v.ownBlock → wpList P ops Q rest (a.put o.dst v1) w1) :
  wpList P ops Q (o :: rest) a (Lib.bytesWorld W e y) := by
 have hnb : Below W.heap.size W (Lib.bytesWorld W e y) := bytes_below (Below.refl _ _) (Nat.le_refl _) e y
 have hM := MRow.conv W e y
 have hR : ReadsOf (Value.int .u8) 0 (Lib.bytesWorld W e y) (some ⟨W.heap.size, 0, none⟩) y.size (bytesOf y) := by
  refine ⟨bytesOf_length y, by omega, fun hn => ⟨_, rfl, fun j hj => ?_⟩⟩
  have hc := (hM.cell (j : Int) (by omega) (by rw [bytesOf_length]; omega)).1
  rw [Int.toNat_natCast] at hc
  have hadd : (⟨W.heap.size, 0, none⟩ : Addr).add j = ⟨W.heap.size, j, none⟩ := by unfold Addr.add; split <;> simp_all
  rw [hadd, hc]
  unfold rd
  rw [Int.toNat_natCast]
 refine print_append_row_of (w0 := w0) (Value.int .u8) 0 base hgd s x t e (.int .u8 0) 1 ho ht hinfo rfl (by decide) (fun _ => rfl) v xs (bytesOf y) _ y.size _ hs hx (pw_own_below HO hnb) hR (bytes_below HB hbase e y) (by rw [Lib.bytesWorld_size]; omega) (by omega) ?_
 intro v1 w1 hown hb hg hat
 refine h v1 w1 hown hb ⟨hg.os, hg.tape, hg.output, ?_, ?_⟩
 ·
  have := hg.size
  rw [Lib.bytesWorld_size] at this
  omega
 ·
  intro k hk hne
  rw [hg.block k (by rw [Lib.bytesWorld_size]; omega) hne]
  exact Lib.bytesWorld_at_old W e y k hk
def heByte (b : Int) (m : Nat) : Int := b / 256 ^ (7 - m) % 256
def heLen (b : Int) : List Int := (List.range 8).map (heByte b)
def heBase (r : ByteArray) : List Int := bytesOf r ++ [128]
def heTail (r : ByteArray) (c : Int) : List Int := heBase r ++ List.replicate ((119 - r.size) % 64) 0 ++ heLen (8 * c)
def spec_HashEnd.l0 : Nat → List Int → List Int → List Int → Int → Option ByteArray
 | 0, _, _, _, _ => none
 | k + 1, T, st, ks, i => if i < (T.length : Int) then (if 0 ≤ i ∧ i + 64 ≤ (T.length : Int) then ((spec_l04Round.f k st ks (strOfNums ((T.take (i + 64).toNat).drop i.toNat))).bind fun st' => spec_HashEnd.l0 k T st' ks (i + 64)) else none) else (spec_l04Bytes.f k st)
def spec_HashEnd.f (k : Nat) (a0_0 : ByteArray) (a0_1 : ByteArray) (a0_2 : Int) : Option ByteArray :=
 (spec_HasherOk.f a0_0 a0_1 a0_2).bind fun b => if b = true then (if a0_1.size < 64 ∧ 0 ≤ a0_2 ∧ a0_2 ≤ 1000000000 then ((spec_l04Words.f k a0_0).bind fun st => (spec_l04K.f).bind fun ks => spec_HashEnd.l0 k (heTail a0_1 a0_2) st ks 0) else none) else some ⟨#[]⟩
theorem spec_HashEnd.mono_l : ∀ k T st ks i, LeO (spec_HashEnd.l0 k T st ks i) (spec_HashEnd.l0 (k + 1) T st ks i)
 | 0, T, st, ks, i => fun r h => by simp [spec_HashEnd.l0] at h
 | k + 1, T, st, ks, i => by
  rw [spec_HashEnd.l0, spec_HashEnd.l0]
  exact LeO.ite (LeO.ite (LeO.bind (spec_l04Round.mono _ _ _ _) (fun _ => spec_HashEnd.mono_l k _ _ _ _)) (LeO.none _)) (spec_l04Bytes.mono _ _)
theorem spec_HashEnd.mono : ∀ a0 a1 a2 k, LeO (spec_HashEnd.f k a0 a1 a2) (spec_HashEnd.f (k + 1) a0 a1 a2) := by
 intro a0 a1 a2 k
 unfold spec_HashEnd.f
 refine LeO.bind (LeO.refl _) (fun b => LeO.ite (LeO.ite (LeO.bind (spec_l04Words.mono _ _) (fun st => LeO.bind (LeO.refl _) (fun ks => spec_HashEnd.mono_l k _ _ _ _))) (LeO.none _)) (LeO.refl _))
theorem heLen_take (b : Int) (m : Nat) (h : m < 8) : (heLen b).take (m + 1) = (heLen b).take m ++ [heByte b m] := by
 unfold heLen
 rw [List.take_succ_eq_append_getElem (by simpa using h)]
 simp
set_option maxHeartbeats 8000000 in
set_option maxRecDepth 100000 in
theorem spec_HashEnd.calls (k : Nat) (a0_0 : ByteArray) (a0_1 : ByteArray) (a0_2 : Int) (r : ByteArray) (w : World) (h : spec_HashEnd.f k a0_0 a0_1 a0_2 = some r) :
  Calls Try.prog 75 #[.agg #[.string a0_0, .string a0_1, .int .i64 a0_2]] w fun e w' => e = .returned (.string r) ∧ Below w.heap.size w w' := by
 have huT := Try.underlying25
 have HB := Aside0.mk (Below.refl w.heap.size w)
 unfold spec_HashEnd.f at h
 obtain ⟨b, hb0, h⟩ := Option.bind_eq_some_iff.mp h
 have A1 := Aside0.mk hb0
 clear hb0
 cases b
 ·
  simp only [Bool.false_eq_true, if_false] at h
  obtain rfl := Option.some.inj h
  clear h
  go_enter Try.func75, Try.ntmps75
  go_wp2_with (first
   | ((with_reducible refine gate_dst (N := 1) rfl ?_); refine box_event ?hg (N := 1) ?hd (cs := #[.string a0_0, .string a0_1, .int .i64 a0_2]) (t := 25) ?hr ?_; (case hd => rfl); (case hg => rfl); (case hr => first | (go_simp; done) | (go_simp; rfl)); intro gb hg w1 hbox hb; have n0_ := Aside0.mk (below_step HB.out hb); have BK := Aside0.mk hbox; have GE := Aside0.mk (show w.heap.size ≤ gb from by rw [hg]; exact Nat.le_refl _); clear HB hbox hg hb; have HB := n0_; clear n0_; have hz0 := blk_cell BK.out 0; have hz1 := blk_cell BK.out 1; have hz2 := blk_cell BK.out 2; simp only [List.getElem?_toArray, List.getElem?_cons_zero, List.getElem?_cons_succ] at hz0 hz1 hz2)
   | (go_at_call 12; (with_reducible refine (spec_HasherOk.calls a0_0 a0_1 a0_2 false _ A1.out).mono ?_); rintro e w2 ⟨rfl, hb⟩; have n0_ := Aside0.mk (below_step HB.out hb); clear HB; have HB := n0_; clear n0_ hb))
  go_ret
  exact ⟨by first | rfl | (simp; done), HB.out⟩
 ·
  rw [if_pos rfl] at h
  by_cases hb0 : a0_1.size < 64 ∧ 0 ≤ a0_2 ∧ a0_2 ≤ 1000000000
  case neg => rw [if_neg hb0] at h; cases h
  rw [if_pos hb0] at h
  obtain ⟨hb1, hb2, hb3⟩ := hb0
  obtain ⟨st, A20, h⟩ := Option.bind_eq_some_iff.mp h
  obtain ⟨ks, A30, h⟩ := Option.bind_eq_some_iff.mp h
  have A2 := Aside0.mk A20
  have A3 := Aside0.mk A30
  have H := Aside0.mk h
  clear A20 A30 h
  have kb := fun W => print_bytes (P := Try.prog) 9 22 5 Try.underlying9 Try.underlying22 Try.underlying5 a0_1 W
  go_enter Try.func75, Try.ntmps75
  go_wp2_with (first
   | ((with_reducible refine gate_dst (N := 1) rfl ?_); refine box_event ?hg (N := 1) ?hd (cs := #[.string a0_0, .string a0_1, .int .i64 a0_2]) (t := 25) ?hr ?_; (case hd => rfl); (case hg => rfl); (case hr => first | (go_simp; done) | (go_simp; rfl)); intro gb hg w1 hbox hb; have n0_ := Aside0.mk (below_step HB.out hb); have BK := Aside0.mk hbox; have GE := Aside0.mk (show w.heap.size ≤ gb from by rw [hg]; exact Nat.le_refl _); clear HB hbox hg hb; have HB := n0_; clear n0_; have hz0 := blk_cell BK.out 0; have hz1 := blk_cell BK.out 1; have hz2 := blk_cell BK.out 2; simp only [List.getElem?_toArray, List.getElem?_cons_zero, List.getElem?_cons_succ] at hz0 hz1 hz2)
   | (go_at_call 12; (with_reducible refine (spec_HasherOk.calls a0_0 a0_1 a0_2 true _ A1.out).mono ?_); rintro e w2 ⟨rfl, hb⟩; have n0_ := Aside0.mk (below_step HB.out hb); have n1_ := Aside0.mk (blk_below BK.out hb); clear HB BK hz0 hz1 hz2; have HB := n0_; have BK := n1_; clear n0_ n1_ hb; have hz0 := blk_cell BK.out 0; have hz1 := blk_cell BK.out 1; have hz2 := blk_cell BK.out 2; simp only [List.getElem?_toArray, List.getElem?_cons_zero, List.getElem?_cons_succ] at hz0 hz1 hz2)
   | (at_builtin; refine append_M rfl _ _ 22 5 rfl Try.underlying22 (by kernel_rfl) w2.heap.size (grownCap w2 a0_1.size 0 5) a0_1.size (bytesOf a0_1) 128 (bytesOf_length a0_1).symm rfl rfl (MRow.conv w2 5 a0_1) (grownCap_le_maxLen _ _ _ _ (by unfold maxLen; omega)) (bytes_below HB.out HB.out.size 5 a0_1) HB.out.size (by rw [Lib.bytesWorld_size]; have := HB.out.size; omega) (by omega) ?_; intro g cap w3 hM hcap hge hB hk hor; have n1_ := Aside0.mk ((hk gb (by rw [Lib.bytesWorld_size]; have := blk_lt BK.out; omega) (by have := blk_lt BK.out; omega)).trans ((Lib.bytesWorld_at_old w2 5 a0_1 gb (blk_lt BK.out)).trans BK.out)); have n2_ := Aside0.mk (show gb ≠ g from by have := blk_lt BK.out; rw [Lib.bytesWorld_size] at hor; omega); clear hk hor HB BK hz0 hz1 hz2 kb; have HB := Aside0.mk hB; have BK := n1_; have HN := n2_; have HM := Aside0.mk hM; have HC := Aside0.mk hcap; have HG := Aside0.mk hge; clear hB n1_ n2_ hM hcap hge))
  obtain ⟨Z, hZ⟩ : ∃ Z, Z = (119 - a0_1.size) % 64 := ⟨_, rfl⟩
  have hl0 := bytesOf_length a0_1
  go_loopg [3] Z (fun kq v3 w' => ∃ (j g' cap' : Nat), j + kq = Z ∧ v3 = .slice (some ⟨g', 0, none⟩) (a0_1.size + 1 + j) cap' ∧ Aside0 (MRow w' g' 5 cap' (heBase a0_1 ++ List.replicate j 0)) ∧ Aside0 (cap' ≤ maxLen) ∧ Aside0 (w.heap.size ≤ g') ∧ Aside0 (gb ≠ g') ∧ Aside0 (w'.heap[gb]? = some (.cells #[.string a0_0, .string a0_1, .int .i64 a0_2] 25)) ∧ Aside0 (Below w.heap.size w w'))
  case atStart => exact ⟨0, g, cap, by omega, rfl, ⟨by simpa [heBase] using HM.out⟩, HC, HG, HN, BK, HB⟩
  case round =>
   clear HB BK HN HM HC HG
   obtain ⟨j, g', cap', hj, rfl, HM, HC, HG, HN, BK, HB⟩ := hrel
   by_cases hlt : j < Z
   ·
    obtain ⟨k1, rfl⟩ : ∃ k1, gk = k1 + 1 := ⟨gk - 1, by omega⟩
    have hd1 : ((((a0_1.size : Int) + 1 + (j : Int)) % 64) != 56) = true := by
     rw [bne_iff_ne]
     omega
    have hln := Aside0.mk <| show a0_1.size + 1 + j = (heBase a0_1 ++ List.replicate j 0).length from by
     unfold heBase
     simp only [List.length_append, List.length_replicate, List.length_singleton]
     omega
    go_wp2_with (first
     | (at_builtin; refine append_M rfl _ _ 22 5 rfl Try.underlying22 (by kernel_rfl) g' cap' (a0_1.size + 1 + j) (heBase a0_1 ++ List.replicate j 0) 0 hln.out rfl rfl HM.out HC.out HB.out HG.out HB.out.size (by omega) ?_; intro g2 cap2 w4 hM hcap hge hB hk hor; have n1_ := Aside0.mk ((hk gb (blk_lt BK.out) HN.out).trans BK.out); have n2_ := Aside0.mk (show gb ≠ g2 from by have := blk_lt BK.out; have := HN.out; omega); clear hk hor HB BK HM HC HG HN; have HB := Aside0.mk hB; have BK := n1_; have HN := n2_; have HM := Aside0.mk (show MRow w4 g2 5 cap2 (heBase a0_1 ++ List.replicate (j + 1) 0) from by rw [List.replicate_succ', ← List.append_assoc]; exact hM); have HC := Aside0.mk hcap; have HG := Aside0.mk hge; clear hB n1_ n2_ hM hcap hge))
    go_roundg k1
    case measure => omega
    case rel => exact ⟨j + 1, g2, cap2, by omega, rfl, HM, HC, HG, HN, BK, HB⟩
   ·
    have hd1 : ((((a0_1.size : Int) + 1 + (j : Int)) % 64) != 56) = false := by
     rw [bne_eq_false_iff_eq]
     omega
    obtain rfl : j = Z := by omega
    have hz0 := blk_cell BK.out 0; have hz1 := blk_cell BK.out 1; have hz2 := blk_cell BK.out 2; simp only [List.getElem?_toArray, List.getElem?_cons_zero, List.getElem?_cons_succ] at hz0 hz1 hz2
    obtain ⟨L0, hL0⟩ : ∃ L0, L0 = heBase a0_1 ++ List.replicate j 0 := ⟨_, rfl⟩
    have hL0l : L0.length = a0_1.size + 1 + j := by
     rw [hL0]
     unfold heBase
     simp only [List.length_append, List.length_replicate, List.length_singleton]
     omega
    have HL0 := Aside0.mk hL0
    have HL0l := Aside0.mk hL0l
    have HM1 := Aside0.mk (show MRow wr g' 5 cap' L0 from by rw [hL0]; exact HM.out)
    have HJ := Aside0.mk (show a0_1.size + 1 + j ≤ 150 from by omega)
    have HH := Aside0.mk (⟨hb1, hb2, hb3⟩ : a0_1.size < 64 ∧ 0 ≤ a0_2 ∧ a0_2 ≤ 1000000000)
    have HHj := Aside0.mk hZ
    clear HM hL0 hL0l hlt hj hl0 hZ
    go_wp2
    clear hd1
    go_loopg [3, 5] 8 (fun kq v3 v5 w' => ∃ (m g' cap' : Nat), m + kq = 8 ∧ v3 = .slice (some ⟨g', 0, none⟩) (a0_1.size + 1 + j + m) cap' ∧ v5 = .int .i64 (7 - (m : Int)) ∧ Aside0 (MRow w' g' 5 cap' (L0 ++ (heLen (8 * a0_2)).take m)) ∧ Aside0 (cap' ≤ maxLen) ∧ Aside0 (w.heap.size ≤ g') ∧ Aside0 (gb ≠ g') ∧ Aside0 (w'.heap[gb]? = some (.cells #[.string a0_0, .string a0_1, .int .i64 a0_2] 25)) ∧ Aside0 (Below w.heap.size w w'))
    case atStart => exact ⟨0, g', cap', by omega, rfl, rfl, ⟨by simpa using HM1.out⟩, HC, HG, HN, BK, HB⟩
    case round =>
     clear HM1 HC HG HN BK HB hz0 hz1 hz2
     obtain ⟨m, g1, cap1, hm, rfl, rfl, HM, HC, HG, HN, BK, HB⟩ := hrel
     by_cases hlt : m < 8
     ·
      obtain ⟨k1, rfl⟩ : ∃ k1, gk = k1 + 1 := ⟨gk - 1, by omega⟩
      have hd1 : decide ((7 - (m : Int)) ≥ 0) = true := decide_eq_true (by omega)
      go_wp2
      go_loopg [6, 7] (7 - m) (fun kq v6 v7 w' => ∃ q : Nat, q + kq = 7 - m ∧ v6 = .int .i64 (8 * a0_2 / 256 ^ q) ∧ v7 = .int .i64 (q : Int) ∧ w' = wr)
      case atStart => exact ⟨0, by omega, by simp, rfl, rfl⟩
      case round =>
       obtain ⟨q, hq, rfl, rfl, rfl⟩ := hrel
       by_cases hlt2 : q < 7 - m
       ·
        obtain ⟨k2, rfl⟩ : ∃ k2, gk = k2 + 1 := ⟨gk - 1, by omega⟩
        have hd2 : decide ((q : Int) < 7 - (m : Int)) = true := decide_eq_true (by omega)
        have hp : 0 ≤ 8 * a0_2 / 256 ^ q := Int.ediv_nonneg (by have := HH.out; omega) (by exact_mod_cast Nat.zero_le _)
        go_wp2
        go_roundg k2
        case measure => omega
        case rel => exact ⟨q + 1, by omega, by rw [show (8 * a0_2 / 256 ^ (q + 1) : Int) = (8 * a0_2 / 256 ^ q) / 256 from by rw [Int.pow_succ, Int.ediv_ediv_of_nonneg (by exact_mod_cast Nat.zero_le _)]]; first | rfl | (have hu := Int.ediv_le_self (256 ^ q) (show 0 ≤ 8 * a0_2 from by have := HH.out; omega); generalize 8 * a0_2 / 256 ^ q = e at *; have := HH.out; have ht : e.tdiv 256 = e / 256 := Int.tdiv_eq_ediv_of_nonneg hp; have hw : wrap64 (e / 256) = e / 256 := (by unfold wrap64; omega); rw [ht, hw]), by first | rfl | simp, rfl⟩
       ·
        obtain rfl : q = 7 - m := by omega
        have hd2 : decide (((7 - m : Nat) : Int) < 7 - (m : Int)) = false := decide_eq_false (by omega)
        have hp : 0 ≤ 8 * a0_2 / 256 ^ (7 - m) := Int.ediv_nonneg (by have := HH.out; omega) (by exact_mod_cast Nat.zero_le _)
        have hln := Aside0.mk <| show a0_1.size + 1 + j + m = (L0 ++ (heLen (8 * a0_2)).take m).length from by
         rw [List.length_append, HL0l.out, List.length_take]
         unfold heLen
         simp only [List.length_map, List.length_range]
         omega
        have HY := Aside0.mk <| show (8 * a0_2 / 256 ^ (7 - m)).tmod 256 % 256 = heByte (8 * a0_2) m from by
         unfold heByte
         rw [Int.tmod_eq_emod_of_nonneg hp]
         omega
        have HT := Aside0.mk (heLen_take (8 * a0_2) m hlt)
        clear hp
        go_wp2_with (first
         | (at_builtin; refine append_M rfl _ _ 22 5 rfl Try.underlying22 (by kernel_rfl) g1 cap1 (a0_1.size + 1 + j + m) (L0 ++ (heLen (8 * a0_2)).take m) _ hln.out rfl rfl HM.out HC.out HB.out HG.out HB.out.size (by have := HJ.out; omega) ?_; intro g2 cap2 w4 hM hcap hge hB hk hor; have n1_ := Aside0.mk ((hk gb (blk_lt BK.out) HN.out).trans BK.out); have n2_ := Aside0.mk (show gb ≠ g2 from by have := blk_lt BK.out; have := HN.out; omega); clear hk hor HB BK HM HC HG HN; have HB := Aside0.mk hB; have BK := n1_; have HN := n2_; have HM := Aside0.mk (show MRow w4 g2 5 cap2 (L0 ++ (heLen (8 * a0_2)).take (m + 1)) from by rw [HT.out, ← HY.out, ← List.append_assoc]; exact hM); have HC := Aside0.mk hcap; have HG := Aside0.mk hge; clear hB n1_ n2_ hM hcap hge))
        go_roundg k1
        case measure => omega
        case rel => exact ⟨m + 1, g2, cap2, by omega, rfl, by first | rfl | (congr 1; simp; omega) | (simp; omega), HM, HC, HG, HN, BK, HB⟩
     ·
      obtain rfl : m = 8 := by omega
      have hd1 : decide ((7 - ((8 : Nat) : Int)) ≥ 0) = false := by decide
      have hz0 := blk_cell BK.out 0; have hz1 := blk_cell BK.out 1; have hz2 := blk_cell BK.out 2; simp only [List.getElem?_toArray, List.getElem?_cons_zero, List.getElem?_cons_succ] at hz0 hz1 hz2
      have e8 : (heLen (8 * a0_2)).take 8 = heLen (8 * a0_2) := by
       rw [List.take_of_length_le]
       unfold heLen
       simp
      rw [e8] at HM
      clear e8
      have HTT : L0 ++ heLen (8 * a0_2) = heTail a0_1 a0_2 := by
       rw [HL0.out]
       unfold heTail
       rw [← HHj.out]
      rw [HTT] at HM
      have HTL := Aside0.mk <| show (heTail a0_1 a0_2).length = a0_1.size + 1 + j + 8 from by
       rw [← HTT, List.length_append, HL0l.out]
       unfold heLen
       simp
      clear HTT hlt hd1
      go_wp2_with (first
       | (go_at_call 37; (with_reducible refine (spec_l04Words.calls k a0_0 st _ A2.out).mono ?_); rintro e w5 ⟨v5, rfl, hr, hb⟩; have n0_ := Aside0.mk (below_step HB.out hb); have n1_ := Aside0.mk (HM.out.below hb); have n2_ := Aside0.mk (Kd.R_lower hr (below_size HB.out)); clear HB HM BK hz0 hz1 hz2 hr hb; have HB := n0_; have HM := n1_; have HS := n2_; clear n0_ n1_ n2_)
       | (go_at_call 38; (with_reducible refine (spec_l04K.calls ks _ A3.out).mono ?_); rintro e w6 ⟨v6, rfl, hr, hb⟩; have n0_ := Aside0.mk (below_step HB.out hb); have n1_ := Aside0.mk (HM.out.below hb); have n2_ := Aside0.mk (Kd.R_lower hr (below_size HB.out)); have n3_ := Aside0.mk (Kd.R_below HS.out hb); clear HB HM HS hr hb; have HB := n0_; have HM := n1_; have HKs := n2_; have HS := n3_; clear n0_ n1_ n2_ n3_))
      go_loopg [8, 10] k (fun kq v8 v10 w' => ∃ (x8 : List Int) (i : Int), v10 = .int .i64 i ∧ Aside0 (spec_HashEnd.l0 kq (heTail a0_1 a0_2) x8 ks i = some r) ∧ Aside0 (kq ≤ k) ∧ Aside0 (Kd.R (Kd.int .u32) 83 w' w.heap.size (fun _ => True) v8 x8) ∧ Aside0 (Kd.R (Kd.int .u32) 83 w' w.heap.size (fun _ => True) v6 ks) ∧ Aside0 (MRow w' g1 5 cap1 (heTail a0_1 a0_2)) ∧ Aside0 (Below w.heap.size w w'))
      case atStart => exact ⟨st, 0, rfl, H, ⟨Nat.le_refl _⟩, HS, HKs, HM, HB⟩
      case round =>
       clear HS HKs HM HB H
       obtain ⟨x8, i, rfl, HA, HK2, HS, HKs, HM, HB⟩ := hrel
       cases gk with
       | zero => exact absurd HA.out (by simp [spec_HashEnd.l0])
       | succ k2 =>
        have H := HA.out
        clear HA
        rw [spec_HashEnd.l0] at H
        obtain ⟨A0, c0, hv0⟩ := Kd.R_slice HS.out
        obtain ⟨A1, c1, hv1⟩ := Kd.R_slice HKs.out
        subst hv0 hv1
        by_cases hlt : i < ((heTail a0_1 a0_2).length : Int)
        ·
         rw [if_pos hlt] at H
         by_cases hin : 0 ≤ i ∧ i + 64 ≤ ((heTail a0_1 a0_2).length : Int)
         case neg => rw [if_neg hin] at H; cases H
         rw [if_pos hin] at H
         obtain ⟨x8', hx8, H⟩ := Option.bind_eq_some_iff.mp H
         obtain ⟨p, rfl⟩ := Int.eq_ofNat_of_zero_le hin.1
         rw [HTL.out] at hlt hin
         have hd1 : (p : Int) < (a0_1.size : Int) + 1 + (j : Int) + 8 := by omega
         have HIN := Aside0.mk hin
         have H' := Aside0.mk H
         have hcl := HM.out.len
         rw [HTL.out] at hcl
         have hw64 : wrap64 ((p : Int) + 64) = (p : Int) + 64 := by have := HJ.out; unfold wrap64; omega
         have hc0 : (0 : Int) ≤ (p : Int) + 64 := by omega
         have hc1 : (p : Int) + 64 ≤ (cap1 : Int) := by omega
         have hc2 : (p : Int) ≤ (p : Int) + 64 := by omega
         have hne : ¬ cap1 = p := by omega
         obtain ⟨S, hS⟩ : ∃ S, S = strOfNums (((heTail a0_1 a0_2).take (p + 64)).drop p) := ⟨_, rfl⟩
         have kb2 := HM.out.strcut (P := Try.prog) Try.underlying22 Try.underlying5 Try.underlying9 p 64 (cap1 - p) (by rw [HTL.out]; omega)
         have e1 : ((p : Int) + 64).toNat = p + 64 := by omega
         rw [e1, Int.toNat_natCast, ← hS] at hx8
         rw [← hS] at kb2
         have HX := Aside0.mk hx8
         have HR0 := Aside0.mk (Kd.R_reads' HS.out)
         have HR1 := Aside0.mk (Kd.R_reads' HKs.out)
         clear hlt hin hx8 H hcl hS e1
         go_wp2_with (first
          | (go_at_call 39; (with_reducible refine (spec_l04Round.calls k2 A0 c0 x8 A1 c1 ks S x8' _ HR0.out.2.2 HR0.out.2.1 HR1.out.2.2 HR1.out.2.1 HX.out).mono ?_); rintro e w7 ⟨v7, rfl, hr, hb⟩; have n0_ := Aside0.mk (below_step HB.out hb); have n1_ := Aside0.mk (HM.out.below hb); have n2_ := Aside0.mk (Kd.R_lower hr (below_size HB.out)); have n3_ := Aside0.mk (Kd.R_below HKs.out hb); clear HB HM HKs HS HR0 HR1 hr hb kb2; have HB := n0_; have HM := n1_; have HS := n2_; have HKs := n3_; clear n0_ n1_ n2_ n3_))
         go_roundg k2
         case measure => omega
         case rel => exact ⟨x8', (p : Int) + 64, by first | rfl | (simp; done) | (simp [*]; done), H', ⟨by have := HK2.out; omega⟩, HS, HKs, HM, HB⟩
        ·
         rw [if_neg hlt] at H
         rw [HTL.out] at hlt
         have hd1 : ¬ ((i : Int) < (a0_1.size : Int) + 1 + (j : Int) + 8) := by omega
         have hd2 : ((a0_1.size : Int) + 1 + (j : Int) + 8 ≤ i) := by omega
         have HX := Aside0.mk H
         have HR0 := Aside0.mk (Kd.R_reads' HS.out)
         clear hlt H
         go_wp2_with (first
          | (go_at_call 40; (with_reducible refine (spec_l04Bytes.calls k2 A0 c0 x8 r _ HR0.out.2.2 HR0.out.2.1 HX.out).mono ?_); rintro e w7 ⟨rfl, hb⟩; have n0_ := Aside0.mk (below_step HB.out hb); clear HB HM HKs HS HR0 hb; have HB := n0_; clear n0_))
         go_ret
         exact ⟨by first | rfl | (simp; done), HB.out⟩
def spec_DigestOf.f (k : Nat) (a0 : ByteArray) : Option (ByteArray) := (spec_HasherNew.f k).bind fun bt300 => ((spec_HashMore.f k bt300.1 bt300.2.1 bt300.2.2 a0).bind fun bt303 => ((spec_HashEnd.f k bt303.1 bt303.2.1 bt303.2.2).bind fun t306 => (some t306)))
theorem spec_DigestOf.mono : ∀ a0 k, LeO (spec_DigestOf.f k a0) (spec_DigestOf.f (k + 1) a0) := by
 intro a0 k
 unfold spec_DigestOf.f
 repeat' first
   | (with_reducible exact spec_HashEnd.mono _ _ _ _)
   | (with_reducible exact spec_HashMore.mono _ _ _ _ _)
   | (with_reducible exact spec_HasherNew.mono _)
   | (with_reducible exact LeO.refl _)
   | (with_reducible exact LeO.none _)
   | (with_reducible refine LeO.ite ?_ ?_)
   | (with_reducible refine LeO.bind ?_ (fun _ => ?_))
   | exact spec_HashEnd.mono _ _ _ _
   | exact spec_HashMore.mono _ _ _ _ _
   | exact spec_HasherNew.mono _
   | exact LeO.none _
   | refine LeO.ite ?_ ?_
   | refine LeO.bind ?_ (fun _ => ?_)
set_option maxHeartbeats 8000000 in
set_option maxRecDepth 100000 in
theorem spec_DigestOf.calls (k : Nat) (a0 : ByteArray) (r : ByteArray) (w : World) (h : spec_DigestOf.f k a0 = some r) :
  Calls Try.prog 51 #[.string a0] w fun e w' => e = .returned (.string r) ∧ Below w.heap.size w w' := by
 have HB := Aside0.mk (Below.refl w.heap.size w)
 have H : ((spec_HasherNew.f k).bind fun bt300 => ((spec_HashMore.f k bt300.1 bt300.2.1 bt300.2.2 a0).bind fun bt303 => ((spec_HashEnd.f k bt303.1 bt303.2.1 bt303.2.2).bind fun t306 => (some t306)))) = some r := h
 clear h
 replace H := Option.bind_eq_some_iff.mp H
 obtain ⟨⟨t300, t301, t302⟩, A20, H⟩ := H
 try dsimp only at H
 have A2 := Aside0.mk A20
 clear A20
 replace H := Option.bind_eq_some_iff.mp H
 obtain ⟨⟨t303, t304, t305⟩, A30, H⟩ := H
 try dsimp only at H
 have A3 := Aside0.mk A30
 clear A30
 replace H := Option.bind_eq_some_iff.mp H
 obtain ⟨t306, A40, H⟩ := H
 try dsimp only at H
 have A4 := Aside0.mk A40
 clear A40
 obtain rfl := Option.some.inj H
 go_enter Try.func51, Try.ntmps51
 go_wp2_with (first | ((with_reducible refine gate_callee (f := 68) rfl ?_); refine goesL_ (some 3) rfl rfl Try.func68 (by kernel_rfl) rfl #[] rfl (by (try go_simp); first | done | rfl) ?_; (with_reducible refine (spec_HasherNew.calls k  t300 t301 t302 _ A2.out).mono ?_); rintro e w5 ⟨rfl, hb⟩; refine ⟨_, rfl, ?_⟩; have n0_ := Aside0.mk (below_step (by repeat (first | (with_reducible first | exact HB.out | apply below_alloc | apply pw_below_drewN | apply below_drew1) | exact HB.out)) hb); clear HB; have HB := n0_; clear n0_; (try clear hb)) | ((with_reducible refine gate_callee (f := 10) rfl ?_); refine goesL_ (some 5) rfl rfl Try.func10 (by kernel_rfl) rfl #[.agg #[.string t300, .string t301, .int .i64 t302], .string a0] rfl (by (try go_simp); first | done | rfl) ?_; (with_reducible refine (spec_HashMore.calls k t300 t301 t302 a0 t303 t304 t305 _ A3.out).mono ?_); rintro e w6 ⟨rfl, hb⟩; refine ⟨_, rfl, ?_⟩; have n0_ := Aside0.mk (below_step (by repeat (first | (with_reducible first | exact HB.out | apply below_alloc | apply pw_below_drewN | apply below_drew1) | exact HB.out)) hb); clear HB; have HB := n0_; clear n0_; (try clear hb)) | ((with_reducible refine gate_callee (f := 75) rfl ?_); refine goesL_ (some 6) rfl rfl Try.func75 (by kernel_rfl) rfl #[.agg #[.string t303, .string t304, .int .i64 t305]] rfl (by (try go_simp); first | done | rfl) ?_; (with_reducible refine (spec_HashEnd.calls k t303 t304 t305 t306 _ A4.out).mono ?_); rintro e w7 ⟨rfl, hb⟩; refine ⟨_, rfl, ?_⟩; have n0_ := Aside0.mk (below_step (by repeat (first | (with_reducible first | exact HB.out | apply below_alloc | apply pw_below_drewN | apply below_drew1) | exact HB.out)) hb); clear HB; have HB := n0_; clear n0_; (try clear hb)))
 go_ret
 exact ⟨by first | rfl | (simp <;> rfl) | (simp [*] <;> rfl), by repeat (first | (with_reducible first | exact HB.out | apply below_alloc | apply pw_below_drewN | apply below_drew1) | exact HB.out)⟩
def spec_NumberText.f (a0 : Int) : Option (ByteArray) := (spec_l01In.f a0 0 4294967295).bind fun t307 => (if t307 = true then (some (strOfNums (([(wrap64 (Int.tdiv a0 16777216)) % 256, (Int.tmod (wrap64 (Int.tdiv a0 65536)) 256) % 256, (Int.tmod (wrap64 (Int.tdiv a0 256)) 256) % 256, (Int.tmod a0 256) % 256] : List Int)))) else (some (⟨#[]⟩ : ByteArray)))
set_option maxHeartbeats 8000000 in
set_option maxRecDepth 100000 in
theorem spec_NumberText.calls (a0 : Int) (r : ByteArray) (w : World) (h : spec_NumberText.f a0 = some r) :
  Calls Try.prog 67 #[.int .i64 a0] w fun e w' => e = .returned (.string r) ∧ Below w.heap.size w w' := by
 have HB := Aside0.mk (Below.refl w.heap.size w)
 have H : ((spec_l01In.f a0 0 4294967295).bind fun t307 => (if t307 = true then (some (strOfNums (([(wrap64 (Int.tdiv a0 16777216)) % 256, (Int.tmod (wrap64 (Int.tdiv a0 65536)) 256) % 256, (Int.tmod (wrap64 (Int.tdiv a0 256)) 256) % 256, (Int.tmod a0 256) % 256] : List Int)))) else (some (⟨#[]⟩ : ByteArray)))) = some r := h
 clear h
 replace H := Option.bind_eq_some_iff.mp H
 obtain ⟨t307, A20, H⟩ := H
 try dsimp only at H
 have A2 := Aside0.mk A20
 clear A20
 by_cases c3 : t307 = true
 ·
  subst c3
  rw [if_pos rfl] at H
  obtain ⟨y308, hy308⟩ : ∃ y_ : List Int, y_ = (([(wrap64 (Int.tdiv a0 16777216)) % 256, (Int.tmod (wrap64 (Int.tdiv a0 65536)) 256) % 256, (Int.tmod (wrap64 (Int.tdiv a0 256)) 256) % 256, (Int.tmod a0 256) % 256] : List Int)) := ⟨_, rfl⟩
  replace H : (some (strOfNums y308)) = some r := by first | (rw [hy308]; with_reducible exact H) | (have H2_ := (Option.bind_some _ _).symm.trans H; rw [hy308]; with_reducible exact H2_) | (have H2_ := (Option.bind_some _ _).symm.trans H; with_reducible exact H2_) | with_reducible exact H | (rw [hy308]; exact H) | exact H
  have Ny308 := Aside0.mk hy308
  clear hy308
  obtain rfl := Option.some.inj H
  go_enter Try.func67, Try.ntmps67
  go_wp2_with (first | ((with_reducible refine gate_callee (f := 42) rfl ?_); refine goesL_ (some 4) rfl rfl Try.func42 (by kernel_rfl) rfl #[.int .i64 a0, .int .i64 0, .int .i64 4294967295] rfl (by (try go_simp); first | done | rfl) ?_; (with_reducible refine (spec_l01In.calls a0 0 4294967295 true _ A2.out).mono ?_); rintro e w' ⟨rfl, ⟨nd, rfl⟩⟩; refine ⟨_, rfl, ?_⟩) | ((with_reducible refine gate_dst (N := 20) rfl ?_); refine Kd.R_lit (Kd.int .u8) _ 5 ?hg (N := 20) ?hd (xs := ([(wrap64 (Int.tdiv a0 16777216)) % 256, (Int.tmod (wrap64 (Int.tdiv a0 65536)) 256) % 256, (Int.tmod (wrap64 (Int.tdiv a0 256)) 256) % 256, (Int.tmod a0 256) % 256] : List Int)) (inner := [.int .u8 ((wrap64 (Int.tdiv a0 16777216)) % 256), .int .u8 ((Int.tmod (wrap64 (Int.tdiv a0 65536)) 256) % 256), .int .u8 ((Int.tmod (wrap64 (Int.tdiv a0 256)) 256) % 256), .int .u8 ((Int.tmod a0 256) % 256)]) (ok := fun _ => True) (okp := fun _ => True) ?hr ?hp (fun _ hk => hk) trivial (Below.refl _ _) (Nat.le_refl _) (by simp) ?_; (case hd => rfl); (case hg => rfl); (case hr => first | (go_simp; done) | (go_simp; rfl)); (case hp => exact (Reps.one (show Kd.M (Kd.int .u8) _ _ _ ((wrap64 (Int.tdiv a0 16777216)) % 256) [.int .u8 ((wrap64 (Int.tdiv a0 16777216)) % 256)] from rfl) (Reps.one (show Kd.M (Kd.int .u8) _ _ _ ((Int.tmod (wrap64 (Int.tdiv a0 65536)) 256) % 256) [.int .u8 ((Int.tmod (wrap64 (Int.tdiv a0 65536)) 256) % 256)] from rfl) (Reps.one (show Kd.M (Kd.int .u8) _ _ _ ((Int.tmod (wrap64 (Int.tdiv a0 256)) 256) % 256) [.int .u8 ((Int.tmod (wrap64 (Int.tdiv a0 256)) 256) % 256)] from rfl) (Reps.one (show Kd.M (Kd.int .u8) _ _ _ ((Int.tmod a0 256) % 256) [.int .u8 ((Int.tmod a0 256) % 256)] from rfl) (Reps.none _ _)))))); intro v309 w4 ho5 hb hg_ hnew_; clear hg_ hnew_; (first | rw [← Ny308.out] at ho5 | (simp only [Int.reduceToNat] at ho5; rw [← Ny308.out] at ho5)); have n0_ := Aside0.mk (Kd.R_lower ho5 (below_size (by repeat (first | (with_reducible first | exact HB.out | apply below_alloc | apply pw_below_drewN | apply below_drew1) | exact HB.out)))); have n1_ := Aside0.mk (below_step (by repeat (first | (with_reducible first | exact HB.out | apply below_alloc | apply pw_below_drewN | apply below_drew1) | exact HB.out)) hb); clear HB; have HO310 := n0_; have HB := n1_; clear n0_ n1_; clear hb ho5; have hcv6 := own_string (P := Try.prog) Try.underlying22 Try.underlying5 Try.underlying9 (Kd.own_of_R HO310.out)))
  go_ret
  exact ⟨by first | rfl | (simp <;> rfl) | (simp [*] <;> rfl), by repeat (first | (with_reducible first | exact HB.out | apply below_alloc | apply pw_below_drewN | apply below_drew1) | exact HB.out)⟩
 ·
  replace c3 := Bool.eq_false_iff.mpr c3
  subst c3
  rw [if_neg (show ¬ (false = true) by decide)] at H
  obtain rfl := Option.some.inj H
  go_enter Try.func67, Try.ntmps67
  go_wp2_with (first | ((with_reducible refine gate_callee (f := 42) rfl ?_); refine goesL_ (some 4) rfl rfl Try.func42 (by kernel_rfl) rfl #[.int .i64 a0, .int .i64 0, .int .i64 4294967295] rfl (by (try go_simp); first | done | rfl) ?_; (with_reducible refine (spec_l01In.calls a0 0 4294967295 false _ A2.out).mono ?_); rintro e w' ⟨rfl, ⟨nd, rfl⟩⟩; refine ⟨_, rfl, ?_⟩))
  go_ret
  exact ⟨by first | rfl | (simp <;> rfl) | (simp [*] <;> rfl), by repeat (first | (with_reducible first | exact HB.out | apply below_alloc | apply pw_below_drewN | apply below_drew1) | exact HB.out)⟩
def spec_Challenge.j0 : Nat → Int → Int → ByteArray → Bool → Option (Int)
 | 0, _, _, _, _ => none
 | k + 1, x0, x1, x2, x14 => if x14 = true then (some 0) else ((spec_NumberText.f x0).bind fun t313 => ((spec_NumberText.f x1).bind fun t314 => (if t313.size + t314.size ≤ 9223372036854775807 then (if (t313 ++ t314).size + x2.size ≤ 9223372036854775807 then ((spec_DigestOf.f k ((t313 ++ t314) ++ x2)).bind fun t315 => ((spec_l07First.f t315).bind fun t316 => (some (Int.tmod t316 1073741789)))) else (none)) else (none))))
def spec_Challenge.f (k : Nat) (a0 : Int) (a1 : Int) (a2 : ByteArray) : Option (Int) := (spec_l01In.f a0 0 4294967295).bind fun t311 => (if t311 = true then ((spec_l01In.f a1 0 4294967295).bind fun t312 => (spec_Challenge.j0 k a0 a1 a2 (!t312))) else (spec_Challenge.j0 k a0 a1 a2 true))
theorem spec_Challenge.mono_l : ∀ k, (∀ y0 y1 y2 y3, LeO (spec_Challenge.j0 k y0 y1 y2 y3) (spec_Challenge.j0 (k + 1) y0 y1 y2 y3))
 | 0 => fun _ _ _ _ r h => by simp [spec_Challenge.j0] at h
 | k + 1 => by
  have ih0 := spec_Challenge.mono_l k
  ·
   intro y0 y1 y2 y3
   unfold spec_Challenge.j0
   repeat' first
   | (with_reducible exact ih0 _ _ _ _)
   | (with_reducible exact spec_DigestOf.mono _ _)
   | (with_reducible exact LeO.refl _)
   | (with_reducible exact LeO.none _)
   | (with_reducible refine LeO.ite ?_ ?_)
   | (with_reducible refine LeO.bind ?_ (fun _ => ?_))
   | exact ih0 _ _ _ _
   | exact spec_DigestOf.mono _ _
   | exact LeO.none _
   | refine LeO.ite ?_ ?_
   | refine LeO.bind ?_ (fun _ => ?_)
theorem spec_Challenge.mono : ∀ a0 a1 a2 k, LeO (spec_Challenge.f k a0 a1 a2) (spec_Challenge.f (k + 1) a0 a1 a2) := by
 intro a0 a1 a2 k
 have ih0 := spec_Challenge.mono_l k
 unfold spec_Challenge.f
 repeat' first
   | (with_reducible exact ih0 _ _ _ _)
   | (with_reducible exact spec_DigestOf.mono _ _)
   | (with_reducible exact LeO.refl _)
   | (with_reducible exact LeO.none _)
   | (with_reducible refine LeO.ite ?_ ?_)
   | (with_reducible refine LeO.bind ?_ (fun _ => ?_))
   | exact ih0 _ _ _ _
   | exact spec_DigestOf.mono _ _
   | exact LeO.none _
   | refine LeO.ite ?_ ?_
   | refine LeO.bind ?_ (fun _ => ?_)
set_option maxHeartbeats 8000000 in
set_option maxRecDepth 100000 in
theorem spec_Challenge.calls (k : Nat) (a0 : Int) (a1 : Int) (a2 : ByteArray) (r : Int) (w : World) (h : spec_Challenge.f k a0 a1 a2 = some r) :
  Calls Try.prog 30 #[.int .i64 a0, .int .i64 a1, .string a2] w fun e w' => e = .returned (.int .i64 r) ∧ Below w.heap.size w w' := by
 have HB := Aside0.mk (Below.refl w.heap.size w)
 have H : ((spec_l01In.f a0 0 4294967295).bind fun t311 => (if t311 = true then ((spec_l01In.f a1 0 4294967295).bind fun t312 => (spec_Challenge.j0 k a0 a1 a2 (!t312))) else (spec_Challenge.j0 k a0 a1 a2 true))) = some r := h
 clear h
 have HC4 := Aside0.mk H
 clear H
 go_enter Try.func30, Try.ntmps30
 go_upto_region 1 with (fail)
 go_cut [14] (fun v14 wc => ∃ (kq : Nat) (x14_3 : Bool), v14 = .bool x14_3 ∧ Aside0 (spec_Challenge.j0 kq a0 a1 a2 x14_3 = some r) ∧ Aside0 (kq ≤ k) ∧ Aside0 (Below w.heap.size w wc))
 case first =>
  have H := HC4.out
  clear HC4
  replace H := Option.bind_eq_some_iff.mp H
  obtain ⟨t311, A50, H⟩ := H
  try dsimp only at H
  have A5 := Aside0.mk A50
  clear A50
  by_cases c6 : t311 = true
  ·
   subst c6
   rw [if_pos rfl] at H
   replace H := Option.bind_eq_some_iff.mp H
   obtain ⟨t312, A70, H⟩ := H
   try dsimp only at H
   have A7 := Aside0.mk A70
   clear A70
   have H' := Aside0.mk H
   clear H
   go_wp2_with (first | ((with_reducible refine gate_callee (f := 42) rfl ?_); refine goesL_ (some 8) rfl rfl Try.func42 (by kernel_rfl) rfl #[.int .i64 a0, .int .i64 0, .int .i64 4294967295] rfl (by (try go_simp); first | done | rfl) ?_; (with_reducible refine (spec_l01In.calls a0 0 4294967295 true _ A5.out).mono ?_); rintro e w' ⟨rfl, ⟨nd, rfl⟩⟩; refine ⟨_, rfl, ?_⟩) | (go_at_call 42; (with_reducible refine (spec_l01In.calls a1 0 4294967295 t312 _ A7.out).mono ?_); rintro e w' ⟨rfl, ⟨nd, rfl⟩⟩))
   go_meet
   case rel => exact ⟨_, (!t312), (by first | rfl | (simp; done) | (simp [*]; done)), H', ⟨by first | omega | exact Nat.le_refl _⟩, ⟨by repeat (first | (with_reducible first | exact HB.out | apply below_alloc | apply pw_below_drewN | apply below_drew1) | exact HB.out)⟩⟩
  ·
   replace c6 := Bool.eq_false_iff.mpr c6
   subst c6
   rw [if_neg (show ¬ (false = true) by decide)] at H
   have H' := Aside0.mk H
   clear H
   go_wp2_with (first | ((with_reducible refine gate_callee (f := 42) rfl ?_); refine goesL_ (some 8) rfl rfl Try.func42 (by kernel_rfl) rfl #[.int .i64 a0, .int .i64 0, .int .i64 4294967295] rfl (by (try go_simp); first | done | rfl) ?_; (with_reducible refine (spec_l01In.calls a0 0 4294967295 false _ A5.out).mono ?_); rintro e w' ⟨rfl, ⟨nd, rfl⟩⟩; refine ⟨_, rfl, ?_⟩))
   go_meet
   case rel => exact ⟨_, (true), (by first | rfl | (simp; done) | (simp [*]; done)), H', ⟨by first | omega | exact Nat.le_refl _⟩, ⟨by repeat (first | (with_reducible first | exact HB.out | apply below_alloc | apply pw_below_drewN | apply below_drew1) | exact HB.out)⟩⟩
 case rest =>
  clear HC4
  try clear p2; try clear c3; try clear c4; try clear c6
  obtain ⟨kq, x14_3, rfl, HA, HJ3, HB⟩ := hcut
  cases kq with
  | zero => exact absurd HA.out (by simp [spec_Challenge.j0])
  | succ kj3 =>
   have H := HA.out
   clear HA
   simp only [spec_Challenge.j0] at H
   by_cases c8 : x14_3 = true
   ·
    subst c8
    rw [if_pos rfl] at H
    obtain rfl := Option.some.inj H
    go_wp2
    go_ret
    exact ⟨by first | rfl | (simp <;> rfl) | (simp [*] <;> rfl), by repeat (first | (with_reducible first | exact HB.out | apply below_alloc | apply pw_below_drewN | apply below_drew1) | exact HB.out)⟩
   ·
    replace c8 := Bool.eq_false_iff.mpr c8
    subst c8
    rw [if_neg (show ¬ (false = true) by decide)] at H
    replace H := Option.bind_eq_some_iff.mp H
    obtain ⟨t313, A90, H⟩ := H
    try dsimp only at H
    have A9 := Aside0.mk A90
    clear A90
    replace H := Option.bind_eq_some_iff.mp H
    obtain ⟨t314, A100, H⟩ := H
    try dsimp only at H
    have A10 := Aside0.mk A100
    clear A100
    by_cases c11 : t313.size + t314.size ≤ 9223372036854775807
    ·
     rw [if_pos c11] at H
     have c11b0 := eq_true c11
     have c11b1 : decide (t313.size + t314.size ≤ 9223372036854775807) = true := decide_eq_true c11
     try have c11b2 : (9223372036854775807 < t313.size + t314.size) = False := eq_false (Nat.not_lt.2 c11)
     by_cases c12 : (t313 ++ t314).size + a2.size ≤ 9223372036854775807
     ·
      rw [if_pos c12] at H
      have c12b0 := eq_true c12
      have c12b1 : decide ((t313 ++ t314).size + a2.size ≤ 9223372036854775807) = true := decide_eq_true c12
      try (have c12b9 := c12; simp only [ByteArray.size_append] at c12b9; have c12b8 := eq_false (Nat.not_lt.2 c12b9))
      try have c12b2 : (9223372036854775807 < (t313 ++ t314).size + a2.size) = False := eq_false (Nat.not_lt.2 c12)
      replace H := Option.bind_eq_some_iff.mp H
      obtain ⟨t315, A130, H⟩ := H
      try dsimp only at H
      have A13 := Aside0.mk A130
      clear A130
      replace H := Option.bind_eq_some_iff.mp H
      obtain ⟨t316, A140, H⟩ := H
      try dsimp only at H
      have A14 := Aside0.mk A140
      clear A140
      obtain rfl := Option.some.inj H
      go_wp2_with (first | ((with_reducible refine gate_callee (f := 67) rfl ?_); refine goesL_ (some 16) rfl rfl Try.func67 (by kernel_rfl) rfl #[.int .i64 a0] rfl (by (try go_simp); first | done | rfl) ?_; (with_reducible refine (spec_NumberText.calls a0 t313 _ A9.out).mono ?_); rintro e w15 ⟨rfl, hb⟩; refine ⟨_, rfl, ?_⟩; have n0_ := Aside0.mk (below_step (by repeat (first | (with_reducible first | exact HB.out | apply below_alloc | apply pw_below_drewN | apply below_drew1) | exact HB.out)) hb); clear HB; have HB := n0_; clear n0_; (try clear hb)) | ((with_reducible refine gate_callee (f := 67) rfl ?_); refine goesL_ (some 18) rfl rfl Try.func67 (by kernel_rfl) rfl #[.int .i64 a1] rfl (by (try go_simp); first | done | rfl) ?_; (with_reducible refine (spec_NumberText.calls a1 t314 _ A10.out).mono ?_); rintro e w16 ⟨rfl, hb⟩; refine ⟨_, rfl, ?_⟩; have n0_ := Aside0.mk (below_step (by repeat (first | (with_reducible first | exact HB.out | apply below_alloc | apply pw_below_drewN | apply below_drew1) | exact HB.out)) hb); clear HB; have HB := n0_; clear n0_; (try clear hb)) | ((with_reducible refine gate_callee (f := 51) rfl ?_); refine goesL_ (some 22) rfl rfl Try.func51 (by kernel_rfl) rfl #[.string ((t313 ++ t314) ++ a2)] rfl (by (try go_simp); first | done | rfl) ?_; (with_reducible refine (spec_DigestOf.calls kj3 ((t313 ++ t314) ++ a2) t315 _ A13.out).mono ?_); rintro e w17 ⟨rfl, hb⟩; refine ⟨_, rfl, ?_⟩; have n0_ := Aside0.mk (below_step (by repeat (first | (with_reducible first | exact HB.out | apply below_alloc | apply pw_below_drewN | apply below_drew1) | exact HB.out)) hb); clear HB; have HB := n0_; clear n0_; (try clear hb)) | ((with_reducible refine gate_callee (f := 50) rfl ?_); refine goesL_ (some 23) rfl rfl Try.func50 (by kernel_rfl) rfl #[.string t315] rfl (by (try go_simp); first | done | rfl) ?_; (with_reducible refine (spec_l07First.calls t315 t316 _ A14.out).mono ?_); rintro e w' ⟨rfl, ⟨nd, rfl⟩⟩; refine ⟨_, rfl, ?_⟩))
      go_ret
      exact ⟨by first | rfl | (simp <;> rfl) | (simp [*] <;> rfl), by repeat (first | (with_reducible first | exact HB.out | apply below_alloc | apply pw_below_drewN | apply below_drew1) | exact HB.out)⟩
     ·
      rw [if_neg c12] at H
      exact absurd H (by simp)
    ·
     rw [if_neg c11] at H
     exact absurd H (by simp)
def spec_l03Mod.f (a0 : Int) : Option (Int) := if (Int.tmod a0 2147483579) < 0 then (some (wrap64 ((Int.tmod a0 2147483579) + 2147483579))) else (some (Int.tmod a0 2147483579))
set_option maxHeartbeats 8000000 in
set_option maxRecDepth 100000 in
theorem spec_l03Mod.calls (a0 : Int) (r : Int) (w : World) (h : spec_l03Mod.f a0 = some r) :
  Calls Try.prog 76 #[.int .i64 a0] w fun e w' => e = .returned (.int .i64 r) ∧ Drawn0 w w' := by
 have H : (if (Int.tmod a0 2147483579) < 0 then (some (wrap64 ((Int.tmod a0 2147483579) + 2147483579))) else (some (Int.tmod a0 2147483579))) = some r := h
 clear h
 by_cases c2 : (Int.tmod a0 2147483579) < 0
 ·
  rw [if_pos c2] at H
  have c2b0 : decide ((Int.tmod a0 2147483579) < 0) = true := decide_eq_true c2
  clear c2
  obtain rfl := Option.some.inj H
  go_enter Try.func76, Try.ntmps76
  go_wp2
  go_ret
  exact ⟨by first | rfl | (simp; done) | (simp [*]; done), by repeat (first | exact Drawn0.refl _ | apply Drawn0.step)⟩
 ·
  rw [if_neg c2] at H
  have c2b0 : decide ((Int.tmod a0 2147483579) < 0) = false := decide_eq_false c2
  clear c2
  obtain rfl := Option.some.inj H
  go_enter Try.func76, Try.ntmps76
  go_wp2
  go_ret
  exact ⟨by first | rfl | (simp; done) | (simp [*]; done), by repeat (first | exact Drawn0.refl _ | apply Drawn0.step)⟩
def spec_PowP.l0 : Nat → Int → Int → Int → Option (Int)
 | 0, _, _, _ => none
 | k + 1, x0, x1, x5 => if x1 > 0 then (if (Int.tmod x1 2) = 1 then (spec_PowP.l0 k (Int.tmod (wrap64 (x0 * x0)) 2147483579) (wrap64 (Int.tdiv x1 2)) (Int.tmod (wrap64 (x5 * x0)) 2147483579)) else (spec_PowP.l0 k (Int.tmod (wrap64 (x0 * x0)) 2147483579) (wrap64 (Int.tdiv x1 2)) x5)) else (some x5)
def spec_PowP.f (k : Nat) (a0 : Int) (a1 : Int) : Option (Int) := (spec_l01In.f a1 0 2147483579).bind fun t317 => (if t317 = true then ((spec_l03Mod.f a0).bind fun t318 => (spec_PowP.l0 k t318 a1 1)) else (some 0))
theorem spec_PowP.mono_l : ∀ k, (∀ y0 y1 y2, LeO (spec_PowP.l0 k y0 y1 y2) (spec_PowP.l0 (k + 1) y0 y1 y2))
 | 0 => fun _ _ _ r h => by simp [spec_PowP.l0] at h
 | k + 1 => by
  have ih0 := spec_PowP.mono_l k
  ·
   intro y0 y1 y2
   unfold spec_PowP.l0
   repeat' first
   | (with_reducible exact ih0 _ _ _)
   | (with_reducible exact LeO.refl _)
   | (with_reducible exact LeO.none _)
   | (with_reducible refine LeO.ite ?_ ?_)
   | (with_reducible refine LeO.bind ?_ (fun _ => ?_))
   | exact ih0 _ _ _
   | exact LeO.none _
   | refine LeO.ite ?_ ?_
   | refine LeO.bind ?_ (fun _ => ?_)
theorem spec_PowP.mono : ∀ a0 a1 k, LeO (spec_PowP.f k a0 a1) (spec_PowP.f (k + 1) a0 a1) := by
 intro a0 a1 k
 have ih0 := spec_PowP.mono_l k
 unfold spec_PowP.f
 repeat' first
   | (with_reducible exact ih0 _ _ _)
   | (with_reducible exact LeO.refl _)
   | (with_reducible exact LeO.none _)
   | (with_reducible refine LeO.ite ?_ ?_)
   | (with_reducible refine LeO.bind ?_ (fun _ => ?_))
   | exact ih0 _ _ _
   | exact LeO.none _
   | refine LeO.ite ?_ ?_
   | refine LeO.bind ?_ (fun _ => ?_)
set_option maxHeartbeats 8000000 in
set_option maxRecDepth 100000 in
theorem spec_PowP.calls (k : Nat) (a0 : Int) (a1 : Int) (r : Int) (w : World) (h : spec_PowP.f k a0 a1 = some r) :
  Calls Try.prog 55 #[.int .i64 a0, .int .i64 a1] w fun e w' => e = .returned (.int .i64 r) ∧ Drawn0 w w' := by
 have H : ((spec_l01In.f a1 0 2147483579).bind fun t317 => (if t317 = true then ((spec_l03Mod.f a0).bind fun t318 => (spec_PowP.l0 k t318 a1 1)) else (some 0))) = some r := h
 clear h
 replace H := Option.bind_eq_some_iff.mp H
 obtain ⟨t317, A30, H⟩ := H
 try dsimp only at H
 have A3 := Aside0.mk A30
 clear A30
 by_cases c4 : t317 = true
 ·
  subst c4
  rw [if_pos rfl] at H
  replace H := Option.bind_eq_some_iff.mp H
  obtain ⟨t318, A50, H⟩ := H
  try dsimp only at H
  have A5 := Aside0.mk A50
  clear A50
  have H' := Aside0.mk H
  clear H
  go_enter Try.func55, Try.ntmps55
  go_wp2_with (first | ((with_reducible refine gate_callee (f := 42) rfl ?_); refine goesL_ (some 7) rfl rfl Try.func42 (by kernel_rfl) rfl #[.int .i64 a1, .int .i64 0, .int .i64 2147483579] rfl (by (try go_simp); first | done | rfl) ?_; (with_reducible refine (spec_l01In.calls a1 0 2147483579 true _ A3.out).mono ?_); rintro e w' ⟨rfl, ⟨nd, rfl⟩⟩; refine ⟨_, rfl, ?_⟩) | ((with_reducible refine gate_callee (f := 76) rfl ?_); refine goesL_ (some 10) rfl rfl Try.func76 (by kernel_rfl) rfl #[.int .i64 a0] rfl (by (try go_simp); first | done | rfl) ?_; (with_reducible refine (spec_l03Mod.calls a0 t318 _ A5.out).mono ?_); rintro e w' ⟨rfl, ⟨nd, rfl⟩⟩; refine ⟨_, rfl, ?_⟩))
  go_loopg [0, 1, 5] k (fun kq v0 v1 v5 w' => ∃ (x0_1 : Int) (x1_1 : Int) (x5_1 : Int), v0 = .int .i64 x0_1 ∧ v1 = .int .i64 x1_1 ∧ v5 = .int .i64 x5_1 ∧ Aside0 (spec_PowP.l0 kq x0_1 x1_1 x5_1 = some r) ∧ Aside0 (kq ≤ k) ∧ Drawn0 w w')
  case atStart => exact ⟨(t318), (a1), (1), (by first | rfl | (simp; done) | (simp [*]; done)), (by first | rfl | (simp; done) | (simp [*]; done)), (by first | rfl | (simp; done) | (simp [*]; done)), H', ⟨Nat.le_refl _⟩, by repeat (first | exact Drawn0.refl _ | apply Drawn0.step)⟩
  case round =>
   clear H'
   try clear p2; try clear c4; try clear c5
   obtain ⟨x0_1, x1_1, x5_1, rfl, rfl, rfl, HA, HK1, ⟨m1, rfl⟩⟩ := hrel
   cases gk with
   | zero => exact absurd HA.out (by simp [spec_PowP.l0])
   | succ k1 =>
    have H := HA.out
    clear HA
    simp only [spec_PowP.l0] at H
    by_cases c6 : x1_1 > 0
    ·
     rw [if_pos c6] at H
     have c6b0 : decide (0 < x1_1) = true := decide_eq_true c6
     clear c6
     by_cases c7 : (Int.tmod x1_1 2) = 1
     ·
      rw [if_pos c7] at H
      have c7b0 : ((Int.tmod x1_1 2) == 1) = true := beq_iff_eq.mpr c7
      have c7b1 : ((Int.tmod x1_1 2) != 1) = false := bne_eq_false_iff_eq.mpr c7
      clear c7
      have H' := Aside0.mk H
      clear H
      go_wp2
      go_roundg k1
      case measure => have := HK1.out; omega
      case rel => exact ⟨(Int.tmod (wrap64 (x0_1 * x0_1)) 2147483579), (wrap64 (Int.tdiv x1_1 2)), (Int.tmod (wrap64 (x5_1 * x0_1)) 2147483579), (by first | rfl | (simp; done) | (simp [*]; done)), (by first | rfl | (simp; done) | (simp [*]; done)), (by first | rfl | (simp; done) | (simp [*]; done)), H', ⟨by have := HK1.out; omega⟩, by repeat (first | exact Drawn0.refl _ | apply Drawn0.step)⟩
     ·
      rw [if_neg c7] at H
      have c7b0 : ((Int.tmod x1_1 2) == 1) = false := beq_eq_false_iff_ne.mpr c7
      have c7b1 : ((Int.tmod x1_1 2) != 1) = true := bne_iff_ne.mpr c7
      have H' := Aside0.mk H
      clear H
      go_wp2
      go_roundg k1
      case measure => have := HK1.out; omega
      case rel => exact ⟨(Int.tmod (wrap64 (x0_1 * x0_1)) 2147483579), (wrap64 (Int.tdiv x1_1 2)), (x5_1), (by first | rfl | (simp; done) | (simp [*]; done)), (by first | rfl | (simp; done) | (simp [*]; done)), (by first | rfl | (simp; done) | (simp [*]; done)), H', ⟨by have := HK1.out; omega⟩, by repeat (first | exact Drawn0.refl _ | apply Drawn0.step)⟩
    ·
     rw [if_neg c6] at H
     have c6b0 : decide (0 < x1_1) = false := decide_eq_false c6
     clear c6
     obtain rfl := Option.some.inj H
     go_wp2
     go_ret
     exact ⟨by first | rfl | (simp; done) | (simp [*]; done), by repeat (first | exact Drawn0.refl _ | apply Drawn0.step)⟩
 ·
  replace c4 := Bool.eq_false_iff.mpr c4
  subst c4
  rw [if_neg (show ¬ (false = true) by decide)] at H
  obtain rfl := Option.some.inj H
  go_enter Try.func55, Try.ntmps55
  go_wp2_with (first | ((with_reducible refine gate_callee (f := 42) rfl ?_); refine goesL_ (some 7) rfl rfl Try.func42 (by kernel_rfl) rfl #[.int .i64 a1, .int .i64 0, .int .i64 2147483579] rfl (by (try go_simp); first | done | rfl) ?_; (with_reducible refine (spec_l01In.calls a1 0 2147483579 false _ A3.out).mono ?_); rintro e w' ⟨rfl, ⟨nd, rfl⟩⟩; refine ⟨_, rfl, ?_⟩))
  go_ret
  exact ⟨by first | rfl | (simp; done) | (simp [*]; done), by repeat (first | exact Drawn0.refl _ | apply Drawn0.step)⟩
def spec_InGroup.f (k : Nat) (a0 : Int) : Option (Bool) := (spec_l01In.f a0 2 2147483578).bind fun t319 => (if t319 = true then ((spec_PowP.f k a0 1073741789).bind fun t320 => (some (t320 == 1))) else (some false))
theorem spec_InGroup.mono : ∀ a0 k, LeO (spec_InGroup.f k a0) (spec_InGroup.f (k + 1) a0) := by
 intro a0 k
 unfold spec_InGroup.f
 repeat' first
   | (with_reducible exact spec_PowP.mono _ _ _)
   | (with_reducible exact LeO.refl _)
   | (with_reducible exact LeO.none _)
   | (with_reducible refine LeO.ite ?_ ?_)
   | (with_reducible refine LeO.bind ?_ (fun _ => ?_))
   | exact spec_PowP.mono _ _ _
   | exact LeO.none _
   | refine LeO.ite ?_ ?_
   | refine LeO.bind ?_ (fun _ => ?_)
set_option maxHeartbeats 8000000 in
set_option maxRecDepth 100000 in
theorem spec_InGroup.calls (k : Nat) (a0 : Int) (r : Bool) (w : World) (h : spec_InGroup.f k a0 = some r) :
  Calls Try.prog 53 #[.int .i64 a0] w fun e w' => e = .returned (.bool r) ∧ Drawn0 w w' := by
 have H : ((spec_l01In.f a0 2 2147483578).bind fun t319 => (if t319 = true then ((spec_PowP.f k a0 1073741789).bind fun t320 => (some (t320 == 1))) else (some false))) = some r := h
 clear h
 replace H := Option.bind_eq_some_iff.mp H
 obtain ⟨t319, A20, H⟩ := H
 try dsimp only at H
 have A2 := Aside0.mk A20
 clear A20
 by_cases c3 : t319 = true
 ·
  subst c3
  rw [if_pos rfl] at H
  replace H := Option.bind_eq_some_iff.mp H
  obtain ⟨t320, A40, H⟩ := H
  try dsimp only at H
  have A4 := Aside0.mk A40
  clear A40
  obtain rfl := Option.some.inj H
  go_enter Try.func53, Try.ntmps53
  go_wp2_with (first | ((with_reducible refine gate_callee (f := 42) rfl ?_); refine goesL_ (some 4) rfl rfl Try.func42 (by kernel_rfl) rfl #[.int .i64 a0, .int .i64 2, .int .i64 2147483578] rfl (by (try go_simp); first | done | rfl) ?_; (with_reducible refine (spec_l01In.calls a0 2 2147483578 true _ A2.out).mono ?_); rintro e w' ⟨rfl, ⟨nd, rfl⟩⟩; refine ⟨_, rfl, ?_⟩) | (go_at_call 55; (with_reducible refine (spec_PowP.calls k a0 1073741789 t320 _ A4.out).mono ?_); rintro e w' ⟨rfl, ⟨nd, rfl⟩⟩))
  go_ret
  exact ⟨by first | rfl | (simp; done) | (simp [*]; done), by repeat (first | exact Drawn0.refl _ | apply Drawn0.step)⟩
 ·
  replace c3 := Bool.eq_false_iff.mpr c3
  subst c3
  rw [if_neg (show ¬ (false = true) by decide)] at H
  obtain rfl := Option.some.inj H
  go_enter Try.func53, Try.ntmps53
  go_wp2_with (first | ((with_reducible refine gate_callee (f := 42) rfl ?_); refine goesL_ (some 4) rfl rfl Try.func42 (by kernel_rfl) rfl #[.int .i64 a0, .int .i64 2, .int .i64 2147483578] rfl (by (try go_simp); first | done | rfl) ?_; (with_reducible refine (spec_l01In.calls a0 2 2147483578 false _ A2.out).mono ?_); rintro e w' ⟨rfl, ⟨nd, rfl⟩⟩; refine ⟨_, rfl, ?_⟩))
  go_ret
  exact ⟨by first | rfl | (simp; done) | (simp [*]; done), by repeat (first | exact Drawn0.refl _ | apply Drawn0.step)⟩
def spec_MulP.f (a0 : Int) (a1 : Int) : Option (Int) := (spec_l03Mod.f a0).bind fun t321 => ((spec_l03Mod.f a1).bind fun t322 => (some (Int.tmod (wrap64 (t321 * t322)) 2147483579)))
set_option maxHeartbeats 8000000 in
set_option maxRecDepth 100000 in
theorem spec_MulP.calls (a0 : Int) (a1 : Int) (r : Int) (w : World) (h : spec_MulP.f a0 a1 = some r) :
  Calls Try.prog 54 #[.int .i64 a0, .int .i64 a1] w fun e w' => e = .returned (.int .i64 r) ∧ Drawn0 w w' := by
 have H : ((spec_l03Mod.f a0).bind fun t321 => ((spec_l03Mod.f a1).bind fun t322 => (some (Int.tmod (wrap64 (t321 * t322)) 2147483579)))) = some r := h
 clear h
 replace H := Option.bind_eq_some_iff.mp H
 obtain ⟨t321, A30, H⟩ := H
 try dsimp only at H
 have A3 := Aside0.mk A30
 clear A30
 replace H := Option.bind_eq_some_iff.mp H
 obtain ⟨t322, A40, H⟩ := H
 try dsimp only at H
 have A4 := Aside0.mk A40
 clear A40
 obtain rfl := Option.some.inj H
 go_enter Try.func54, Try.ntmps54
 go_wp2_with (first | ((with_reducible refine gate_callee (f := 76) rfl ?_); refine goesL_ (some 6) rfl rfl Try.func76 (by kernel_rfl) rfl #[.int .i64 a0] rfl (by (try go_simp); first | done | rfl) ?_; (with_reducible refine (spec_l03Mod.calls a0 t321 _ A3.out).mono ?_); rintro e w' ⟨rfl, ⟨nd, rfl⟩⟩; refine ⟨_, rfl, ?_⟩) | ((with_reducible refine gate_callee (f := 76) rfl ?_); refine goesL_ (some 8) rfl rfl Try.func76 (by kernel_rfl) rfl #[.int .i64 a1] rfl (by (try go_simp); first | done | rfl) ?_; (with_reducible refine (spec_l03Mod.calls a1 t322 _ A4.out).mono ?_); rintro e w' ⟨rfl, ⟨nd, rfl⟩⟩; refine ⟨_, rfl, ?_⟩))
 go_ret
 exact ⟨by first | rfl | (simp; done) | (simp [*]; done), by repeat (first | exact Drawn0.refl _ | apply Drawn0.step)⟩
end Go.Proofs.Ytmjmnmcpfpbkeaa.PFnChecks
