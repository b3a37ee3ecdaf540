-- Written by hand in this session (wip/hand/turnedlaw.lean): the law's walk.
import Derived.Test.YtgepaoikhfofmaaPFnTurnedx0
import Derived.Test.YtgepaoikhfofmaaPFnTurnedx1
import Derived.Test.YtgepaoikhfofmaaPFnTurnedx2
namespace Go.Proofs.Ytgepaoikhfofmaa.PFnTurned
open Go.RowKit Go.Proofs.YtgepaoikhfofmaaW.PrintWords Go.Proofs.YtgepaoikhfofmaaW.PrintLast Go.Proofs.YtgepaoikhfofmaaW.PrintMore
set_option linter.unusedVariables false
set_option linter.unusedSimpArgs false
/-- A row of bytes in block g: its cells, whatever its mark, so that nothing within the capacity is frozen. -/
def MRow (W : World) (g : Nat) (e : TypeId) (cap : Nat) (xs : List Int) : Prop :=
  ∃ cur fz, W.heap[g]? = some (.cells cur e fz) ∧ cur.size = cap ∧ xs.length ≤ cap ∧ (fz.2 ≤ fz.1 ∨ cap ≤ fz.1) ∧ cur.toList.take xs.length = nums .u8 xs
theorem MRow.same {W W' : World} {g : Nat} {e : TypeId} {cap : Nat} {xs : List Int} (h : MRow W g e cap xs) (hs : W'.heap[g]? = W.heap[g]?) : MRow W' g e cap xs := by
  obtain ⟨cur, fz, hg, rest⟩ := h
  exact ⟨cur, fz, hs.trans hg, rest⟩
theorem MRow.lt {W : World} {g : Nat} {e : TypeId} {cap : Nat} {xs : List Int} (h : MRow W g e cap xs) : g < W.heap.size := by
  obtain ⟨cur, fz, hg, _⟩ := h
  exact (Array.getElem?_eq_some_iff.1 hg).1
theorem MRow.below {W W' : World} {g : Nat} {e : TypeId} {cap : Nat} {xs : List Int} (h : MRow W g e cap xs) (hb : Below W.heap.size W W') : MRow W' g e cap xs := h.same (hb.block g h.lt)
theorem MRow.conv (W : World) (e : TypeId) (s : ByteArray) : MRow (Lib.bytesWorld W e s) W.heap.size e (grownCap W s.size 0 e) (bytesOf s) := by
  have hge := grownCap_ge W s.size 0 e
  refine ⟨_, _, Lib.bytesWorld_at_new W e s, ?_, by rw [bytesOf_length]; exact hge, Or.inr ?_, ?_⟩
  · have hd : s.data.size = s.size := rfl
    simp [Lib.bytesCells]; omega
  · have hd : s.data.size = s.size := rfl
    simp [Lib.bytesCells]; omega
  · rw [bytesOf_length]
    have hl : s.data.toList.length = s.size := data_length s
    unfold Lib.bytesCells nums bytesOf
    rw [Array.toList_append, List.take_append_of_le_length (by simp [hl]), List.take_of_length_le (by simp [hl])]
    simp
theorem MRow.cell {W : World} {g : Nat} {e : TypeId} {cap : Nat} {xs : List Int} (h : MRow W g e cap xs) (i : Int) (h0 : 0 ≤ i) (h1 : i < (xs.length : Int)) :
    W.cell? ⟨g, i.toNat, none⟩ = some (.int .u8 (rd xs i)) ∧ W.frozen? ⟨g, i.toNat, none⟩ = false := by
  obtain ⟨cur, fz, hg, hs, hl, hm, ht⟩ := h
  have hi : i.toNat < xs.length := by omega
  constructor
  · rw [cell_of_row W g i.toNat cur e fz hg]
    have : (cur.toList.take xs.length)[i.toNat]? = (nums .u8 xs)[i.toNat]? := by rw [ht]
    rw [List.getElem?_take_of_lt hi] at this
    rw [← Array.getElem?_toList, this]
    unfold nums rd
    simp [List.getD_eq_getElem?_getD, List.getElem?_eq_getElem hi]
  · obtain ⟨lo, hi'⟩ := fz
    simp only [World.frozen?, hg, Bool.and_eq_false_iff, decide_eq_false_iff_not]
    simp only at hm
    omega
theorem MRow.set {W : World} {g : Nat} {e : TypeId} {cap : Nat} {xs : List Int} (h : MRow W g e cap xs) (i : Nat) (v : Int) : MRow (W.setCell ⟨g, i, none⟩ (.int .u8 v)) g e cap (xs.set i v) := by
  obtain ⟨cur, fz, hg, hs, hl, hm, ht⟩ := h
  refine ⟨cur.setIfInBounds i (.int .u8 v), fz, ?_, by simpa using hs, by simpa using hl, hm, ?_⟩
  · rw [setCell_eq_setRow W g i cur e fz _ hg]
    exact setRow_heap W g cur _ e fz hg
  · rw [Array.toList_setIfInBounds, List.length_set, List.take_set, ht]
    unfold nums
    rw [List.map_set]
theorem MRow.str {P : Program} {W : World} {g : Nat} {e : TypeId} {cap : Nat} {xs : List Int} (h : MRow W g e cap xs) {src dst : TypeId} (hs : P.underlying src = some (.slice e)) (he : P.underlying e = some (.int .u8)) (hd : P.underlying dst = some .string) (c : Nat) :
    (convert src dst (.slice (some ⟨g, 0, none⟩) xs.length c)).run P W = .ok (.string (strOfNums xs)) W := by
  refine run_convert_bytes_arg W src e hs he g 0 xs.length c xs rfl (fun i hi => ?_) dst hd
  have hc := (h.cell (i : Int) (by omega) (by omega)).1
  have e1 : ((i : Int)).toNat = i := by omega
  rw [e1] at hc
  rw [Nat.zero_add, hc]
  unfold rd
  rw [e1]
theorem set_step (T l : List Int) (i : Nat) (hi : i < l.length) (hT : T.length = l.length) : (T.take i ++ l.drop i).set i (T.getD i 0) = T.take (i + 1) ++ l.drop (i + 1) := by
  have hi' : i < T.length := by omega
  rw [List.set_append_right _ _ (by simp; omega), List.length_take, Nat.min_eq_left (by omega), Nat.sub_self, List.drop_eq_getElem_cons hi, List.set_cons_zero, List.take_succ_eq_append_getElem hi', List.append_assoc]
  simp [List.getD_eq_getElem?_getD, List.getElem?_eq_getElem hi']
theorem mid_len (T l : List Int) (i : Nat) (hi : i ≤ l.length) (hT : T.length = l.length) : (T.take i ++ l.drop i).length = l.length := by simp; omega
theorem mid_rd (T l : List Int) (i : Nat) (hi : i < l.length) (hT : T.length = l.length) : rd (T.take i ++ l.drop i) (i : Int) = l.getD i 0 := by
  unfold rd
  have e1 : ((i : Int)).toNat = i := by omega
  rw [e1]
  simp only [List.getD_eq_getElem?_getD]
  rw [List.getElem?_append_right (by simp; omega), List.length_take, Nat.min_eq_left (by omega), Nat.sub_self, List.getElem?_drop, Nat.add_zero]
theorem MRow.strcut {P : Program} {W : World} {g : Nat} {e : TypeId} {cap : Nat} {xs : List Int} (h : MRow W g e cap xs) {src dst : TypeId} (hs : P.underlying src = some (.slice e)) (he : P.underlying e = some (.int .u8)) (hd : P.underlying dst = some .string) (i n c : Nat) (hi : i + n ≤ xs.length) :
    (convert src dst (.slice (some ⟨g, i, none⟩) n c)).run P W = .ok (.string (strOfNums ((xs.take (i + n)).drop i))) W := by
  have hl : ((xs.take (i + n)).drop i).length = n := by
    rw [List.length_drop, List.length_take]
    omega
  refine run_convert_bytes_arg W src e hs he g i n c _ hl (fun j hj => ?_) dst hd
  have hc := (h.cell ((i + j : Nat) : Int) (by omega) (by omega)).1
  rw [Int.toNat_natCast] at hc
  rw [hc]
  unfold rd
  rw [Int.toNat_natCast]
  simp only [List.getD_eq_getElem?_getD]
  rw [List.getElem?_drop, List.getElem?_take_of_lt (by omega)]
theorem MRow.len {W : World} {g : Nat} {e : TypeId} {cap : Nat} {xs : List Int} (h : MRow W g e cap xs) : xs.length ≤ cap := by
  obtain ⟨_, _, _, _, hl, _⟩ := h
  exact hl
def turnedT (t : ByteArray) (p : List Int) : ByteArray := strOfNums ((bytesOf t).set (rd p 0 % (t.size : Int)).toNat (Go.bits .xor .u8 (rd (bytesOf t) (rd p 0 % (t.size : Int))) (1 + rd p 1 % 255)))
/-- What the law tells, told only where it tells true. -/
def laws_FnTurned.f (k : Nat) (l0 : List Int) : Option Bool :=
  (laws_big.f l0).bind fun b => if b = true then some true else
  (spec_DrawSumOf.f k l0).bind fun s => (spec_DrawPlaces.f k l0).bind fun p =>
  (impl_Sealed.f k s).bind fun q => (impl_Unsealed.f k q.1).bind fun u =>
  if q.2 = true ∧ u = (s, true) ∧ q.1.size = s.size + 4 ∧ s.size ≤ 1000 ∧ 2 ≤ p.length ∧ (0 ≤ rd p 0 ∧ 0 ≤ rd p 1 ∧ rd p 1 ≤ 1000000000) then
   (impl_Unsealed.f k (turnedT q.1 p)).bind fun v => if v.2 = false then (impl_SumOf.f k s).bind fun x => (impl_SumMore.f k x (⟨#[120]⟩ : ByteArray)).bind fun y => (impl_SumOf.f k (s ++ (⟨#[120]⟩ : ByteArray))).bind fun z => if y = z then some true else none else none
  else none
set_option maxHeartbeats 8000000 in
set_option maxRecDepth 100000 in
theorem laws_FnTurned.calls (k : Nat) (A0 : Option Addr) (c0 : Nat) (l0 : List Int) (w : World) (hr0 : Kd.C (Kd.int .u8) w A0 l0.length l0) (hc0 : l0.length ≤ c0) (h : laws_FnTurned.f k l0 = some true) :
    Calls Try.prog 6 #[.slice A0 l0.length c0] w fun e w' => e = .returned (.bool true) ∧ Below w.heap.size w w' := by
  have HR0 := Aside0.mk hr0
  have HC0 := Aside0.mk hc0
  clear hr0 hc0
  have HB := Aside0.mk (Below.refl w.heap.size w)
  unfold laws_FnTurned.f at h
  obtain ⟨b, A20, g1⟩ := Option.bind_eq_some_iff.mp h
  clear h
  have A2 := Aside0.mk A20
  clear A20
  cases b
  case true =>
    clear g1
    go_enter Try.func6, Try.ntmps6
    go_wp2_with (first
      | (go_at_call 11; (with_reducible refine (laws_big.calls _ _ l0 true _ ?side1 ?side2 A2.out).mono ?_); (case side1 => repeat (first | exact HR0.out | (with_reducible refine Kd.C_alloc ?_ _) | (with_reducible refine Kd.C_drewN ?_ _) | (with_reducible refine Kd.C_drew ?_))); (case side2 => exact HC0.out); rintro e w' ⟨rfl, ⟨nd, rfl⟩⟩))
    go_ret
    exact ⟨rfl, pw_below_drewN HB.out _⟩
  rw [if_neg (by decide)] at g1
  obtain ⟨s, A30, g2⟩ := Option.bind_eq_some_iff.mp g1
  clear g1
  obtain ⟨p, A40, g3⟩ := Option.bind_eq_some_iff.mp g2
  clear g2
  obtain ⟨⟨q, ok⟩, A50, g4⟩ := Option.bind_eq_some_iff.mp g3
  clear g3
  obtain ⟨⟨u, right⟩, A60, g5⟩ := Option.bind_eq_some_iff.mp g4
  clear g4
  simp only at g5 A60
  by_cases hs : ok = true ∧ (u, right) = (s, true) ∧ q.size = s.size + 4 ∧ s.size ≤ 1000 ∧ 2 ≤ p.length ∧ (0 ≤ rd p 0 ∧ 0 ≤ rd p 1 ∧ rd p 1 ≤ 1000000000)
  case neg => rw [if_neg hs] at g5; cases g5
  rw [if_pos hs] at g5
  obtain ⟨hok, hu, hqs, hsz, hpl, hp0, hp1, hp2⟩ := hs
  injection hu with hu1 hu2
  subst hok
  rw [hu1, hu2] at A60
  clear hu1 hu2
  obtain ⟨⟨v, wrong⟩, A70, g6⟩ := Option.bind_eq_some_iff.mp g5
  clear g5
  simp only at g6
  by_cases hv : wrong = false
  case neg => rw [if_neg hv] at g6; cases g6
  subst hv
  rw [if_pos rfl] at g6
  obtain ⟨x, A80, g7⟩ := Option.bind_eq_some_iff.mp g6
  clear g6
  obtain ⟨y, A90, g8⟩ := Option.bind_eq_some_iff.mp g7
  clear g7
  obtain ⟨z, A100, g9⟩ := Option.bind_eq_some_iff.mp g8
  clear g8
  by_cases hyz : y = z
  case neg => rw [if_neg hyz] at g9; cases g9
  subst hyz
  clear g9
  have A3 := Aside0.mk A30
  have A4 := Aside0.mk A40
  have A5 := Aside0.mk A50
  have A6 := Aside0.mk A60
  have A7 := Aside0.mk A70
  have A8 := Aside0.mk A80
  have A9 := Aside0.mk A90
  have A10 := Aside0.mk A100
  clear A30 A40 A50 A60 A70 A80 A90 A100
  obtain ⟨i, hi⟩ : ∃ i : Nat, (i : Int) = rd p 0 % (q.size : Int) := ⟨(rd p 0 % (q.size : Int)).toNat, Int.toNat_of_nonneg (Int.emod_nonneg _ (by omega))⟩
  have hlt := Int.emod_lt_of_pos (rd p 0) (show 0 < (q.size : Int) by omega)
  rw [← hi] at hlt
  have hb_ : ∃ b, b = rd (bytesOf q) (i : Int) := ⟨_, rfl⟩
  obtain ⟨b, hb⟩ := hb_
  have hT : turnedT q p = strOfNums ((bytesOf q).set i (Go.bits .xor .u8 b (1 + rd p 1 % 255))) := by
    unfold turnedT
    rw [← hi, Int.toNat_natCast, ← hb]
  obtain ⟨T, hT2⟩ : ∃ T, T = turnedT q p := ⟨_, rfl⟩
  rw [← hT2] at A7
  rw [← hT2] at hT
  clear hT2
  have htm : Int.tmod (rd p 0) (q.size : Int) = (i : Int) := by rw [Int.tmod_eq_emod_of_nonneg hp0, hi]
  have hv0 : Int.tmod (rd p 1) 255 = rd p 1 % 255 := Int.tmod_eq_emod_of_nonneg hp1
  have hv1 : wrap64 (1 + rd p 1 % 255) = 1 + rd p 1 % 255 := by unfold wrap64; omega
  have hv2 : IntKind.u8.wrap (1 + rd p 1 % 255) = 1 + rd p 1 % 255 := by rw [IntKind.wrap_u8']; omega
  have hl0 := bytesOf_length q
  have HI := Aside0.mk (show i < q.size by omega)
  have HBb := Aside0.mk hb
  have HT := Aside0.mk hT
  have HL := Aside0.mk hl0
  have HPL := Aside0.mk hpl
  have hz2 : ((q.size : Int) = 0) = False := eq_false (by omega)
  have hz3 : ((q.size : Int) == 0) = false := beq_eq_false_iff_ne.mpr (by omega)
  have g0 : (0 < p.length) = True := eq_true (by omega)
  have g1 : (1 < p.length) = True := eq_true (by omega)
  have g4 : ((0 : Int) < (p.length : Int)) = True := eq_true (by omega)
  have g5 : ((1 : Int) < (p.length : Int)) = True := eq_true (by omega)
  have g2 : (i < q.size) = True := eq_true (by omega)
  have g3 : ((i : Int) < (q.size : Int)) = True := eq_true (by omega)
  have e1 : wrap64 ((s.size : Int) + 4) = (s.size : Int) + 4 := by unfold wrap64; omega
  have e2 : (q.size : Int) = (s.size : Int) + 4 := by omega
  have e3 : ((q.size : Int) != (s.size : Int) + 4) = false := bne_eq_false_iff_eq.mpr e2
  have e4 : ((q.size : Int) = (s.size : Int) + 4) = True := eq_true e2
  have e5 : (9223372036854775807 < s.size + 1) = False := eq_false (Nat.not_lt.2 (Nat.le_trans (Nat.succ_le_succ hsz) (by decide)))
  have hz : ¬ q.size = 0 := fun h_ => Nat.succ_ne_zero (s.size + 3) (hqs.symm.trans h_)
  have hz4 : (q = ByteArray.empty) = False := eq_false (fun h_ => hz (by rw [h_]; rfl))
  clear hi hlt hb hT hl0 hqs hsz hpl hp0 hp1 hp2 e2
  go_enter Try.func6, Try.ntmps6
  go_wp2_with (first
    | (go_at_call 11; (with_reducible refine (laws_big.calls _ _ l0 false _ ?side1 ?side2 A2.out).mono ?_); (case side1 => repeat (first | exact HR0.out | (with_reducible refine Kd.C_alloc ?_ _) | (with_reducible refine Kd.C_drewN ?_ _) | (with_reducible refine Kd.C_drew ?_))); (case side2 => exact HC0.out); rintro e w1 ⟨rfl, hd⟩; have n0_ := Aside0.mk (below_step HB.out hd.below); have n1_ := Aside0.mk (Kd.C_below HR0.out hd.below); clear HB HR0 hd; have HB := n0_; have HR0 := n1_; clear n0_ n1_)
    | (go_at_call 16; (with_reducible refine (spec_DrawSumOf.calls k _ _ l0 s _ ?side1 ?side2 A3.out).mono ?_); (case side1 => exact HR0.out); (case side2 => exact HC0.out); rintro e w2 ⟨rfl, hd⟩; have n0_ := Aside0.mk (below_step HB.out hd); have n1_ := Aside0.mk (Kd.C_below HR0.out hd); clear HB HR0 hd; have HB := n0_; have HR0 := n1_; clear n0_ n1_)
    | (go_at_call 17; (with_reducible refine (spec_DrawPlaces.calls k _ _ l0 p _ ?side1 ?side2 A4.out).mono ?_); (case side1 => exact HR0.out); (case side2 => exact HC0.out); rintro e w3 ⟨vp, rfl, ho0, hd⟩; have n0_ := Aside0.mk (below_step HB.out hd); clear HB HR0 hd; have HB := n0_; clear n0_; obtain ⟨Ap, cp, ep⟩ := Kd.R_slice ho0; subst ep; have HP := Aside0.mk (Kd.R_reads' ho0).2.2; clear ho0)
    | (go_at_call 18; (with_reducible refine (impl_Sealed.calls k s q true _ A5.out).mono ?_); rintro e w4 ⟨rfl, hd⟩; have n0_ := Aside0.mk (below_step HB.out hd); have n1_ := Aside0.mk (Kd.C_below HP.out hd); clear HB HP hd; have HB := n0_; have HP := n1_; clear n0_ n1_)
    | (go_at_call 19; (with_reducible refine (impl_Unsealed.calls k q s true _ A6.out).mono ?_); rintro e w5 ⟨rfl, hd⟩; have n0_ := Aside0.mk (below_step HB.out hd); have n1_ := Aside0.mk (Kd.C_below HP.out hd); clear HB HP hd; have HB := n0_; have HP := n1_; clear n0_ n1_; have HW1_ : ∃ W1, W1 = Lib.bytesWorld w5 5 q := ⟨_, rfl⟩; obtain ⟨W1, hW1⟩ := HW1_; have kb := print_bytes (P := Try.prog) 9 25 5 Try.underlying9 Try.underlying25 Try.underlying5 q w5; have hbel := bytes_below (Below.refl w5.heap.size w5) (Nat.le_refl _) 5 q; have HM := Aside0.mk (MRow.conv w5 5 q); rw [← hW1] at kb hbel HM; clear hW1; have HGE := Aside0.mk (below_size HB.out); have n0_ := Aside0.mk (below_step HB.out hbel); have hC := Kd.C_below HP.out hbel; clear HB HP hbel; have HB := n0_; clear n0_; have hpl_ := HPL.out; obtain ⟨ad, eA, hp0⟩ := Kd.at_int hC 0 (by omega) (by omega); subst eA; obtain ⟨ad1, e1, hp1⟩ := Kd.at_int hC 1 (by omega) (by omega); obtain rfl : ad = ad1 := (by injection e1); clear hC e1 hpl_; (try rw [show ((0 : Int)).toNat = 0 from rfl] at hp0); (try rw [Addr.add_zero'] at hp0); (try simp only [show (1 : Int).toNat = 1 from rfl, Nat.reduceMul, Nat.reduceEqDiff, Go.Addr.add, ↓reduceIte] at hp1); have hcf_ := HM.out.cell (i : Int) (by omega) (by rw [HL.out]; have := HI.out; omega); obtain ⟨hc, hf⟩ := hcf_; rw [Int.toNat_natCast] at hc hf; rw [← HBb.out] at hc; have HB2 := Aside0.mk (below_drew (below_set HB.out HGE.out : Below w.heap.size w (W1.setCell ⟨w5.heap.size, i, none⟩ (.int .u8 (Go.bits .xor .u8 b (1 + rd p 1 % 255)))))); have hset : MRow (W1.setCell ⟨w5.heap.size, i, none⟩ (.int .u8 (Go.bits .xor .u8 b (1 + rd p 1 % 255)))).drew w5.heap.size 5 (grownCap w5 q.size 0 5) ((bytesOf q).set i (Go.bits .xor .u8 b (1 + rd p 1 % 255))) := (HM.out.set i (Go.bits .xor .u8 b (1 + rd p 1 % 255))).same rfl; have hlen : ((bytesOf q).set i (Go.bits .xor .u8 b (1 + rd p 1 % 255))).length = q.size := (by rw [List.length_set, HL.out]); have kb2 := hset.str (P := Try.prog) Try.underlying25 Try.underlying5 Try.underlying9 (grownCap w5 q.size 0 5); rw [hlen, ← HT.out] at kb2; clear hset hlen HM))
  go_region
  all_goals
    go_wp2_with (first
      | (go_at_call 19; (with_reducible refine (impl_Unsealed.calls k T v false _ A7.out).mono ?_); rintro e w6 ⟨rfl, hd⟩; have HB3 := Aside0.mk (below_step HB2.out hd); clear hd)
      | (go_at_call 21; (with_reducible refine (impl_SumOf.calls k s x _ A8.out).mono ?_); rintro e w' ⟨rfl, ⟨nd, rfl⟩⟩)
      | (go_at_call 20; (with_reducible refine (impl_SumMore.calls k x (⟨#[120]⟩ : ByteArray) y _ A9.out).mono ?_); rintro e w' ⟨rfl, ⟨nd, rfl⟩⟩)
      | (go_at_call 21; (with_reducible refine (impl_SumOf.calls k (s ++ (⟨#[120]⟩ : ByteArray)) y _ A10.out).mono ?_); rintro e w' ⟨rfl, ⟨nd, rfl⟩⟩))
    go_ret
    exact ⟨by first | rfl | (simp; done), by repeat (first | (with_reducible first | exact HB3.out | apply pw_below_drewN | apply below_drew1) | exact HB3.out)⟩
/-- THE ONE PURE STATEMENT. -/
def laws_FnTurned.Pure : Prop := ∀ (l0 : List Int), l0.length ≤ maxLen → l0.length * 1 ≤ 140737488351232 → (∀ x ∈ l0, (Lit.int .u8 x).wf = true) → ∃ k, laws_FnTurned.f k l0 = some true
theorem laws_FnTurned.walk (P : laws_FnTurned.Pure) (a0 : Option Addr) (len0 cap0 : Nat) (z0 : List Int) (w : World) (w0 : (a0 = none ∧ len0 = 0 ∧ cap0 = 0 ∧ z0 = []) ∨ ∃ x, a0 = some x ∧ len0 ≤ cap0 ∧ cap0 ≤ maxLen ∧ z0.length = cap0 ∧ (∀ i, i < z0.length → w.cell? (x.add i) = some (.int .u8 (z0.getD i 0))) ∧ ∀ n ∈ z0, (Lit.int .u8 n).wf = true) (y0 : len0 * 1 ≤ 140737488351232) :
    Calls Try.prog 6 #[.slice a0 len0 cap0] w fun e w' => e = .returned (.bool true) ∧ Below w.heap.size w w' := by
  obtain ⟨l0, rfl, hr0, hm0, hw0, hc0⟩ := ReadsInt.ofRowC w0
  obtain ⟨k, h⟩ := P l0 hm0 y0 hw0
  exact laws_FnTurned.calls k _ _ l0 w (Kd.C_of_reads (d := (0 : Int)) (h1 := fun _ => rfl) hr0) hc0 h

end Go.Proofs.Ytgepaoikhfofmaa.PFnTurned
