-- Written by this session's program wip/myprint.py, after the kit's print.
import Derived.Test.YtbmedcifganklaaPFnExactHashEndx0
import Derived.Test.YtbmedcifganklaaPFnExactHashEndx1
import Derived.Test.YtbmedcifganklaaPFnExactHashEndx2
namespace Go.Proofs.Ytbmedcifganklaa.PFnExactHashEnd
open Go.RowKit Go.Proofs.YtbmedcifganklaaW.PrintWords Go.Proofs.YtbmedcifganklaaW.PrintLast Go.Proofs.YtbmedcifganklaaW.PrintMore
attribute [local go_sem] max2_int min2_int max_two min_two max_three min_three max_four min_four   -- for this text's walks alone
set_option linter.unusedVariables false
set_option linter.unusedSimpArgs false

/-! ### spec_l04Bytes: function 44 -/
def spec_l04Bytes.l0 : Nat → List Int → List Int → Int → Option (ByteArray)
  | 0, _, _, _ => none
  | k + 1, x0, x3, x4 => if x4 < (x0.length : Int) then (if 0 ≤ x4 then ((some (([((Int.tdiv (rd x0 x4) 16777216) % 4294967296) % 256, ((Int.tdiv (rd x0 x4) 65536) % 4294967296) % 256, ((Int.tdiv (rd x0 x4) 256) % 4294967296) % 256, (Int.tmod (rd x0 x4) 256) % 256] : List Int) : List Int)).bind fun y167 => (if x3.length + y167.length < 140737488355328 then (spec_l04Bytes.l0 k x0 (x3 ++ y167) (wrap64 (x4 + 1))) else (none))) else (none)) else (some (strOfNums x3))
def spec_l04Bytes.f (k : Nat) (l0 : List Int) : Option (ByteArray) := spec_l04Bytes.l0 k l0 (([] : List Int)) 0
theorem spec_l04Bytes.mono_l : ∀ k, (∀ y0 y1 y2, LeO (spec_l04Bytes.l0 k y0 y1 y2) (spec_l04Bytes.l0 (k + 1) y0 y1 y2))
  | 0 => fun _ _ _ r h => by simp [spec_l04Bytes.l0] at h
  | k + 1 => by
    have ih0 := spec_l04Bytes.mono_l k
    · intro y0 y1 y2
      unfold spec_l04Bytes.l0
      repeat' first
      | (with_reducible exact ih0 _ _ _)
      | (with_reducible exact LeO.refl _)
      | (with_reducible exact LeO.none _)
      | (with_reducible refine LeO.ite ?_ ?_)
      | (with_reducible refine LeO.bind ?_ (fun _ => ?_))
      | exact ih0 _ _ _
      | exact LeO.none _
      | refine LeO.ite ?_ ?_
      | refine LeO.bind ?_ (fun _ => ?_)
theorem spec_l04Bytes.mono : ∀ a0 k, LeO (spec_l04Bytes.f k a0) (spec_l04Bytes.f (k + 1) a0) := by
  intro a0 k
  have ih0 := spec_l04Bytes.mono_l k
  unfold spec_l04Bytes.f
  repeat' first
      | (with_reducible exact ih0 _ _ _)
      | (with_reducible exact LeO.refl _)
      | (with_reducible exact LeO.none _)
      | (with_reducible refine LeO.ite ?_ ?_)
      | (with_reducible refine LeO.bind ?_ (fun _ => ?_))
      | exact ih0 _ _ _
      | exact LeO.none _
      | refine LeO.ite ?_ ?_
      | refine LeO.bind ?_ (fun _ => ?_)
set_option maxHeartbeats 8000000 in
set_option maxRecDepth 100000 in
theorem spec_l04Bytes.calls (k : Nat) (A0 : Option Addr) (c0 : Nat) (l0 : List Int) (r : ByteArray) (w : World) (hr0 : Kd.C (Kd.int .u32) w A0 l0.length l0) (hc0 : l0.length ≤ c0) (h : spec_l04Bytes.f k l0 = some r) :
    Calls Try.prog 44 #[.slice A0 l0.length c0] w fun e w' => e = .returned (.string r) ∧ Below w.heap.size w w' := by
  have HR0 := Aside0.mk hr0
  have HC0 := Aside0.mk hc0
  clear hr0 hc0
  have HB := Aside0.mk (Below.refl w.heap.size w)
  have H : (spec_l04Bytes.l0 k l0 (([] : List Int)) 0) = some r := h
  clear h
  obtain ⟨y163, hy163⟩ : ∃ y_ : List Int, y_ = (([] : List Int)) := ⟨_, rfl⟩
  replace H : (spec_l04Bytes.l0 k l0 y163 0) = some r := by first | (rw [hy163]; with_reducible exact H) | (have H2_ := (Option.bind_some _ _).symm.trans H; rw [hy163]; with_reducible exact H2_) | (have H2_ := (Option.bind_some _ _).symm.trans H; with_reducible exact H2_) | with_reducible exact H | (rw [hy163]; exact H) | exact H
  have Ny163 := Aside0.mk hy163
  clear hy163
  have H' := Aside0.mk H
  clear H
  go_enter Try.func44, Try.ntmps44
  go_wp2_with (first | ((with_reducible refine gate_dst (N := 6) rfl ?_); refine Kd.R_lit (Kd.int .u8) _ 5 ?hg (N := 6) ?hd (xs := ([] : List Int)) (inner := []) (ok := fun _ => True) (okp := fun _ => True) ?hr ?hp (fun _ hk => hk) trivial (Below.refl _ _) (Nat.le_refl _) (by simp) ?_; (case hd => rfl); (case hg => rfl); (case hr => first | (go_simp; done) | (go_simp; rfl)); (case hp => exact (Reps.none _ _)); intro v164 w2 ho3 hb hg_ hnew_; clear hg_ hnew_; (first | rw [← Ny163.out] at ho3 | (simp only [Int.reduceToNat] at ho3; rw [← Ny163.out] at ho3)); have n0_ := Aside0.mk (Kd.R_lower ho3 (below_size (by repeat (first | (with_reducible first | exact HB.out | apply below_alloc | apply pw_below_drewN | apply below_drew1) | exact HB.out)))); have n1_ := Aside0.mk (below_step (by repeat (first | (with_reducible first | exact HB.out | apply below_alloc | apply pw_below_drewN | apply below_drew1) | exact HB.out)) hb); clear HB; have HO165 := n0_; have HB := n1_; clear n0_ n1_; clear hb ho3))
  go_loopg [3, 4] k (fun kq v3 v4 w' => ∃ (x3_1 : List Int) (x4_1 : Int), v4 = .int .i64 x4_1 ∧ Aside0 (spec_l04Bytes.l0 kq l0 x3_1 x4_1 = some r) ∧ Aside0 (kq ≤ k) ∧ Aside0 (Kd.R (Kd.int .u8) 5 w' w.heap.size (fun _ => True) v3 x3_1) ∧ Aside0 (Below w.heap.size w w'))
  case atStart => exact ⟨(y163), (0), (by first | rfl | (simp; done) | (simp [*]; done)), H', ⟨Nat.le_refl _⟩, ⟨by (with_reducible repeat (first | apply Kd.R_alloc | apply Kd.R_drewN | apply Kd.R_drew)); exact HO165.out⟩, ⟨by repeat (first | (with_reducible first | exact HB.out | apply below_alloc | apply pw_below_drewN | apply below_drew1) | exact HB.out)⟩⟩
  case round =>
    clear H'
    try clear p2
    obtain ⟨x3_1, x4_1, rfl, HA, HK1, HO_3, HB⟩ := hrel
    cases gk with
    | zero => exact absurd HA.out (by simp [spec_l04Bytes.l0])
    | succ k1 =>
      have H := HA.out
      clear HA
      simp only [spec_l04Bytes.l0] at H
      by_cases c4 : x4_1 < (l0.length : Int)
      · rw [if_pos c4] at H
        have c4b0 : decide (x4_1 < (l0.length : Int)) = true := decide_eq_true c4
        clear c4
        by_cases c5 : 0 ≤ x4_1
        · rw [if_pos c5] at H
          have c5b0 : decide (0 ≤ x4_1) = true := decide_eq_true c5
          clear c5
          obtain ⟨y167, hy167⟩ : ∃ y_ : List Int, y_ = (([((Int.tdiv (rd l0 x4_1) 16777216) % 4294967296) % 256, ((Int.tdiv (rd l0 x4_1) 65536) % 4294967296) % 256, ((Int.tdiv (rd l0 x4_1) 256) % 4294967296) % 256, (Int.tmod (rd l0 x4_1) 256) % 256] : List Int)) := ⟨_, rfl⟩
          replace H : (if x3_1.length + y167.length < 140737488355328 then (spec_l04Bytes.l0 k1 l0 (x3_1 ++ y167) (wrap64 (x4_1 + 1))) else (none)) = some r := by first | (rw [hy167]; with_reducible exact H) | (have H2_ := (Option.bind_some _ _).symm.trans H; rw [hy167]; with_reducible exact H2_) | (have H2_ := (Option.bind_some _ _).symm.trans H; with_reducible exact H2_) | with_reducible exact H | (rw [hy167]; exact H) | exact H
          have Ny167 := Aside0.mk hy167
          clear hy167
          by_cases c6 : x3_1.length + y167.length < 140737488355328
          · rw [if_pos c6] at H
            have LMc6 := Aside0.mk c6
            clear c6
            obtain ⟨y170, hy170⟩ : ∃ y_ : List Int, y_ = (x3_1 ++ y167) := ⟨_, rfl⟩
            replace H : (spec_l04Bytes.l0 k1 l0 y170 (wrap64 (x4_1 + 1))) = some r := by first | (rw [hy170]; with_reducible exact H) | (have H2_ := (Option.bind_some _ _).symm.trans H; rw [hy170]; with_reducible exact H2_) | (have H2_ := (Option.bind_some _ _).symm.trans H; with_reducible exact H2_) | with_reducible exact H | (rw [hy170]; exact H) | exact H
            have Ny170 := Aside0.mk hy170
            clear hy170
            have H' := Aside0.mk H
            clear H
            have p166 : 0 ≤ (x4_1 : Int) := of_decide_eq_true (by first | (with_reducible assumption) | assumption)
            have q166 : x4_1 < (l0.length : Int) := of_decide_eq_true (by first | (with_reducible assumption) | assumption)
            obtain ⟨ad166, e166, hx166_0⟩ := Kd.at_int HR0.out x4_1 p166 q166
            cases e166
            replace hx166_0 := (HB.out.cell (World.block_lt_of_cell? w _ hx166_0)).trans hx166_0
            replace p166 := eq_true p166
            replace q166 := eq_true q166
            go_wp2_with (first | ((with_reducible refine gate_dst (N := 32) rfl ?_); refine Kd.R_lit (Kd.int .u8) _ 5 ?hg (N := 32) ?hd (xs := ([((Int.tdiv (rd l0 x4_1) 16777216) % 4294967296) % 256, ((Int.tdiv (rd l0 x4_1) 65536) % 4294967296) % 256, ((Int.tdiv (rd l0 x4_1) 256) % 4294967296) % 256, (Int.tmod (rd l0 x4_1) 256) % 256] : List Int)) (inner := [.int .u8 (((Int.tdiv (rd l0 x4_1) 16777216) % 4294967296) % 256), .int .u8 (((Int.tdiv (rd l0 x4_1) 65536) % 4294967296) % 256), .int .u8 (((Int.tdiv (rd l0 x4_1) 256) % 4294967296) % 256), .int .u8 ((Int.tmod (rd l0 x4_1) 256) % 256)]) (ok := fun _ => True) (okp := fun _ => True) ?hr ?hp (fun _ hk => hk) trivial (Below.refl _ _) (Nat.le_refl _) (by simp) ?_; (case hd => rfl); (case hg => rfl); (case hr => first | (go_simp; done) | (go_simp; rfl)); (case hp => exact (Reps.one (show Kd.M (Kd.int .u8) _ _ _ (((Int.tdiv (rd l0 x4_1) 16777216) % 4294967296) % 256) [.int .u8 (((Int.tdiv (rd l0 x4_1) 16777216) % 4294967296) % 256)] from rfl) (Reps.one (show Kd.M (Kd.int .u8) _ _ _ (((Int.tdiv (rd l0 x4_1) 65536) % 4294967296) % 256) [.int .u8 (((Int.tdiv (rd l0 x4_1) 65536) % 4294967296) % 256)] from rfl) (Reps.one (show Kd.M (Kd.int .u8) _ _ _ (((Int.tdiv (rd l0 x4_1) 256) % 4294967296) % 256) [.int .u8 (((Int.tdiv (rd l0 x4_1) 256) % 4294967296) % 256)] from rfl) (Reps.one (show Kd.M (Kd.int .u8) _ _ _ ((Int.tmod (rd l0 x4_1) 256) % 256) [.int .u8 ((Int.tmod (rd l0 x4_1) 256) % 256)] from rfl) (Reps.none _ _)))))); intro v168 w7 ho8 hb hg_ hnew_; clear hg_ hnew_; (first | rw [← Ny167.out] at ho8 | (simp only [Int.reduceToNat] at ho8; rw [← Ny167.out] at ho8)); have n0_ := Aside0.mk (Kd.R_elder' (by (with_reducible repeat (first | apply Kd.R_alloc | apply Kd.R_drewN | apply Kd.R_drew)); exact HO_3.out) (Kd.R_base ho8) hb); have n1_ := Aside0.mk (Kd.R_lower (Kd.R_new' ho8 (Kd.R_lt (by (with_reducible repeat (first | apply Kd.R_alloc | apply Kd.R_drewN | apply Kd.R_drew)); exact HO_3.out))) (below_size (by repeat (first | (with_reducible first | exact HB.out | apply below_alloc | apply pw_below_drewN | apply below_drew1) | exact HB.out)))); have n2_ := Aside0.mk (below_step (by repeat (first | (with_reducible first | exact HB.out | apply below_alloc | apply pw_below_drewN | apply below_drew1) | exact HB.out)) hb); clear HO_3; clear HB; have HO_3 := n0_; have HO169 := n1_; have HB := n2_; clear n0_ n1_ n2_; clear hb ho8; obtain ⟨Ao10, co10, eo10⟩ := Kd.R_slice HO169.out; subst eo10) | ((with_reducible refine gate_builtin (b := .append) (xs := #[.tmp 17, .tmp 32]) rfl ?_); at_builtin; refine Kd.R_append_rows (Kd.int .u8) (w0 := w) w.heap.size rfl (.tmp 17) (.tmp 32) 39 5 (.int .u8 0) 1 rfl Try.underlying39 info5 rfl (by decide) (by omega) u3 x3_1 y167 _ _ _ (fun k_ => some k_ ≠ (.slice Ao10 y167.length co10 : Value).ownBlock) (fun _ => False) rfl rfl ?aO ?aR (fun _ _ h => h) (fun _ h => h.elim) ?aF ?aB ?aS ?aL ?_; (case aR => repeat (first | exact (Kd.R_reads' HO169.out).2.2 | (with_reducible refine Kd.C_alloc ?_ _) | (with_reducible refine Kd.C_drewN ?_ _) | (with_reducible refine Kd.C_drew ?_))); (case aB => exact (by repeat (first | (with_reducible first | exact HB.out | apply below_alloc | apply pw_below_drewN | apply below_drew1) | exact HB.out))); (case aF => exact (fun k_ hk => Kd.fresh' (Kd.R_lt (by (with_reducible repeat (first | apply Kd.R_alloc | apply Kd.R_drewN | apply Kd.R_drew)); exact HO169.out)) k_ hk)); (case aO => exact (by (with_reducible repeat (first | apply Kd.R_alloc | apply Kd.R_drewN | apply Kd.R_drew)); exact Kd.R_mono HO_3.out (fun _ hk => hk.2))); (case aS => exact (below_size (by repeat (first | (with_reducible first | exact HB.out | apply below_alloc | apply pw_below_drewN | apply below_drew1) | exact HB.out)))); (case aL => have := LMc6.out; omega); intro v171 w9 ho hb hg hat; rw [← Ny170.out] at ho; have n0_ := Aside0.mk (Kd.R_after (ok := (fun _ => True)) (by (with_reducible repeat (first | apply Kd.R_alloc | apply Kd.R_drewN | apply Kd.R_drew)); exact HO169.out) hg hat); have n1_ := Aside0.mk (hb); have n2_ := Aside0.mk (ho); clear HO169; clear HB; clear HO_3; have HO169 := n0_; have HB := n1_; have HO172 := n2_; clear n0_ n1_ n2_; clear ho hb hg hat))
            go_roundg k1
            case measure => have := HK1.out; omega
            case rel => exact ⟨(y170), (wrap64 (x4_1 + 1)), (by first | rfl | (simp; done) | (simp [*]; done)), H', ⟨by have := HK1.out; omega⟩, ⟨by (with_reducible repeat (first | apply Kd.R_alloc | apply Kd.R_drewN | apply Kd.R_drew)); exact Kd.R_mono HO172.out (fun _ hk => trivial)⟩, ⟨by repeat (first | (with_reducible first | exact HB.out | apply below_alloc | apply pw_below_drewN | apply below_drew1) | exact HB.out)⟩⟩
          · rw [if_neg c6] at H
            exact absurd H (by simp)
        · rw [if_neg c5] at H
          exact absurd H (by simp)
      · rw [if_neg c4] at H
        have c4b0 : decide (x4_1 < (l0.length : Int)) = false := decide_eq_false c4
        clear c4
        obtain rfl := Option.some.inj H
        have hcv11 := own_string (P := Try.prog) Try.underlying39 Try.underlying5 Try.underlying9 (Kd.own_of_R HO_3.out)
        go_wp2
        go_ret
        exact ⟨by first | rfl | (simp [errW_none, errW_some] <;> rfl) | (simp [*, errW_none, errW_some] <;> rfl), by repeat (first | (with_reducible first | exact HB.out | apply below_alloc | apply pw_below_drewN | apply below_drew1) | exact HB.out)⟩

/-! ### spec_HashEnd: function 14 -/
/-- A row of bytes in block g: its cells, whatever its mark, so that nothing within the capacity is frozen. -/
def MRow (W : World) (g : Nat) (e : TypeId) (cap : Nat) (xs : List Int) : Prop :=
  ∃ cur fz, W.heap[g]? = some (.cells cur e fz) ∧ cur.size = cap ∧ xs.length ≤ cap ∧ (fz.2 ≤ fz.1 ∨ cap ≤ fz.1) ∧ cur.toList.take xs.length = nums .u8 xs
theorem MRow.same {W W' : World} {g : Nat} {e : TypeId} {cap : Nat} {xs : List Int} (h : MRow W g e cap xs) (hs : W'.heap[g]? = W.heap[g]?) : MRow W' g e cap xs := by
  obtain ⟨cur, fz, hg, rest⟩ := h
  exact ⟨cur, fz, hs.trans hg, rest⟩
theorem MRow.lt {W : World} {g : Nat} {e : TypeId} {cap : Nat} {xs : List Int} (h : MRow W g e cap xs) : g < W.heap.size := by
  obtain ⟨cur, fz, hg, _⟩ := h
  exact (Array.getElem?_eq_some_iff.1 hg).1
theorem MRow.below {W W' : World} {g : Nat} {e : TypeId} {cap : Nat} {xs : List Int} (h : MRow W g e cap xs) (hb : Below W.heap.size W W') : MRow W' g e cap xs := h.same (hb.block g h.lt)
theorem MRow.conv (W : World) (e : TypeId) (s : ByteArray) : MRow (Lib.bytesWorld W e s) W.heap.size e (grownCap W s.size 0 e) (bytesOf s) := by
  have hge := grownCap_ge W s.size 0 e
  refine ⟨_, _, Lib.bytesWorld_at_new W e s, ?_, by rw [bytesOf_length]; exact hge, Or.inr ?_, ?_⟩
  · have hd : s.data.size = s.size := rfl
    simp [Lib.bytesCells]; omega
  · have hd : s.data.size = s.size := rfl
    simp [Lib.bytesCells]; omega
  · rw [bytesOf_length]
    have hl : s.data.toList.length = s.size := data_length s
    unfold Lib.bytesCells nums bytesOf
    rw [Array.toList_append, List.take_append_of_le_length (by simp [hl]), List.take_of_length_le (by simp [hl])]
    simp
theorem MRow.cell {W : World} {g : Nat} {e : TypeId} {cap : Nat} {xs : List Int} (h : MRow W g e cap xs) (i : Int) (h0 : 0 ≤ i) (h1 : i < (xs.length : Int)) :
    W.cell? ⟨g, i.toNat, none⟩ = some (.int .u8 (rd xs i)) ∧ W.frozen? ⟨g, i.toNat, none⟩ = false := by
  obtain ⟨cur, fz, hg, hs, hl, hm, ht⟩ := h
  have hi : i.toNat < xs.length := by omega
  constructor
  · rw [cell_of_row W g i.toNat cur e fz hg]
    have : (cur.toList.take xs.length)[i.toNat]? = (nums .u8 xs)[i.toNat]? := by rw [ht]
    rw [List.getElem?_take_of_lt hi] at this
    rw [← Array.getElem?_toList, this]
    unfold nums rd
    simp [List.getD_eq_getElem?_getD, List.getElem?_eq_getElem hi]
  · obtain ⟨lo, hi'⟩ := fz
    simp only [World.frozen?, hg, Bool.and_eq_false_iff, decide_eq_false_iff_not]
    simp only at hm
    omega
theorem MRow.set {W : World} {g : Nat} {e : TypeId} {cap : Nat} {xs : List Int} (h : MRow W g e cap xs) (i : Nat) (v : Int) : MRow (W.setCell ⟨g, i, none⟩ (.int .u8 v)) g e cap (xs.set i v) := by
  obtain ⟨cur, fz, hg, hs, hl, hm, ht⟩ := h
  refine ⟨cur.setIfInBounds i (.int .u8 v), fz, ?_, by simpa using hs, by simpa using hl, hm, ?_⟩
  · rw [setCell_eq_setRow W g i cur e fz _ hg]
    exact setRow_heap W g cur _ e fz hg
  · rw [Array.toList_setIfInBounds, List.length_set, List.take_set, ht]
    unfold nums
    rw [List.map_set]
theorem MRow.str {P : Program} {W : World} {g : Nat} {e : TypeId} {cap : Nat} {xs : List Int} (h : MRow W g e cap xs) {src dst : TypeId} (hs : P.underlying src = some (.slice e)) (he : P.underlying e = some (.int .u8)) (hd : P.underlying dst = some .string) (c : Nat) :
    (convert src dst (.slice (some ⟨g, 0, none⟩) xs.length c)).run P W = .ok (.string (strOfNums xs)) W := by
  refine run_convert_bytes_arg W src e hs he g 0 xs.length c xs rfl (fun i hi => ?_) dst hd
  have hc := (h.cell (i : Int) (by omega) (by omega)).1
  have e1 : ((i : Int)).toNat = i := by omega
  rw [e1] at hc
  rw [Nat.zero_add, hc]
  unfold rd
  rw [e1]
theorem set_step (T l : List Int) (i : Nat) (hi : i < l.length) (hT : T.length = l.length) : (T.take i ++ l.drop i).set i (T.getD i 0) = T.take (i + 1) ++ l.drop (i + 1) := by
  have hi' : i < T.length := by omega
  rw [List.set_append_right _ _ (by simp; omega), List.length_take, Nat.min_eq_left (by omega), Nat.sub_self, List.drop_eq_getElem_cons hi, List.set_cons_zero, List.take_succ_eq_append_getElem hi', List.append_assoc]
  simp [List.getD_eq_getElem?_getD, List.getElem?_eq_getElem hi']
theorem mid_len (T l : List Int) (i : Nat) (hi : i ≤ l.length) (hT : T.length = l.length) : (T.take i ++ l.drop i).length = l.length := by simp; omega
theorem mid_rd (T l : List Int) (i : Nat) (hi : i < l.length) (hT : T.length = l.length) : rd (T.take i ++ l.drop i) (i : Int) = l.getD i 0 := by
  unfold rd
  have e1 : ((i : Int)).toNat = i := by omega
  rw [e1]
  simp only [List.getD_eq_getElem?_getD]
  rw [List.getElem?_append_right (by simp; omega), List.length_take, Nat.min_eq_left (by omega), Nat.sub_self, List.getElem?_drop, Nat.add_zero]
theorem MRow.strcut {P : Program} {W : World} {g : Nat} {e : TypeId} {cap : Nat} {xs : List Int} (h : MRow W g e cap xs) {src dst : TypeId} (hs : P.underlying src = some (.slice e)) (he : P.underlying e = some (.int .u8)) (hd : P.underlying dst = some .string) (i n c : Nat) (hi : i + n ≤ xs.length) :
    (convert src dst (.slice (some ⟨g, i, none⟩) n c)).run P W = .ok (.string (strOfNums ((xs.take (i + n)).drop i))) W := by
  have hl : ((xs.take (i + n)).drop i).length = n := by
    rw [List.length_drop, List.length_take]
    omega
  refine run_convert_bytes_arg W src e hs he g i n c _ hl (fun j hj => ?_) dst hd
  have hc := (h.cell ((i + j : Nat) : Int) (by omega) (by omega)).1
  rw [Int.toNat_natCast] at hc
  rw [hc]
  unfold rd
  rw [Int.toNat_natCast]
  simp only [List.getD_eq_getElem?_getD]
  rw [List.getElem?_drop, List.getElem?_take_of_lt (by omega)]
theorem MRow.len {W : World} {g : Nat} {e : TypeId} {cap : Nat} {xs : List Int} (h : MRow W g e cap xs) : xs.length ≤ cap := by
  obtain ⟨_, _, _, _, hl, _⟩ := h
  exact hl
theorem MRow.put {W : World} {g : Nat} {e : TypeId} {cap : Nat} {xs : List Int} (h : MRow W g e cap xs) (hr : xs.length + 1 ≤ cap) (v : Int) :
    W.cell? ⟨g, xs.length, none⟩ ≠ none ∧ W.frozen? ⟨g, xs.length, none⟩ = false ∧ MRow (W.setCell ⟨g, xs.length, none⟩ (.int .u8 v)) g e cap (xs ++ [v]) := by
  obtain ⟨cur, fz, hg, hs, hl, hm, ht⟩ := h
  have hi : xs.length < cur.size := by omega
  refine ⟨?_, ?_, cur.setIfInBounds xs.length (.int .u8 v), fz, ?_, by simpa using hs, by simp; omega, hm, ?_⟩
  · rw [cell_of_row W g xs.length cur e fz hg]
    simp [hi]
  · obtain ⟨lo, hi'⟩ := fz
    simp only [World.frozen?, hg, Bool.and_eq_false_iff, decide_eq_false_iff_not]
    simp only at hm
    omega
  · rw [setCell_eq_setRow W g xs.length cur e fz _ hg]
    exact setRow_heap W g cur _ e fz hg
  · rw [Array.toList_setIfInBounds, List.length_append, List.length_singleton]
    have hi2 : xs.length < (cur.toList.set xs.length (Value.int .u8 v)).length := by simpa using hi
    rw [List.take_succ_eq_append_getElem hi2, List.take_set_of_le (Nat.le_refl _), ht]
    simp [nums]
theorem run_append_M {P : Program} (w : World) (t ty e : TypeId) (i : TypeInfo) (ht : P.underlying t = some (.slice e)) (hi : P.info? e = some i) (hz : i.zero = some (.int .u8 0)) (hsz : i.size = 1) (hby : i.bytes = 1)
    (g cap : Nat) (xs : List Int) (HM : MRow w g e cap xs) (a : Addr) (y : Int) (hnew : w.cell? (a.add 0) = some (.int .u8 y)) (hcm : cap ≤ maxLen) (hlen : xs.length + 1 ≤ 140737488355328) :
    ∃ g1 cap1 w1, (Builtin.append_ #[t, t] ty #[.slice (some ⟨g, 0, none⟩) xs.length cap, .slice (some a) 1 1]).run P w = .ok (.slice (some ⟨g1, 0, none⟩) (xs.length + 1) cap1) w1 ∧
      MRow w1 g1 e cap1 (xs ++ [y]) ∧ cap1 ≤ maxLen ∧ (g1 = g ∨ g1 = w.heap.size) ∧ w.grownBy w1 (some g) := by
  have hnews : ∀ j u, [Value.int .u8 y][j]? = some u → w.cell? (a.add j) = some u := by
    intro j u hj
    match j, hj with
    | 0, hj => simp at hj; subst hj; exact hnew
  have hml : (140737488355328 : Nat) ≤ maxLen := by unfold maxLen; decide
  by_cases hroom : xs.length + 1 ≤ cap
  · obtain ⟨hc, hf, hM⟩ := HM.put hroom y
    refine ⟨g, cap, w.setCell ⟨g, xs.length, none⟩ (.int .u8 y), ?_, hM, hcm, Or.inl rfl, ⟨rfl, rfl, rfl, by simp [World.setCell], fun k _ hk => Below.heap_setCell _ _ _ _ (fun e => hk (by simp [e]))⟩⟩
    have hfc := run_firstCells_some (P := P) w i.size 1 a 1 1 [.int .u8 y] (by simp [hsz]) hnews
    have hadd : (⟨g, xs.length, none⟩ : Addr).add 0 = ⟨g, xs.length, none⟩ := by unfold Addr.add; simp
    have hst : (storeCells ⟨g, xs.length, none⟩ [Value.int .u8 y] 0).run P w = .ok () (w.setCell ⟨g, xs.length, none⟩ (.int .u8 y)) := by
      obtain ⟨u, hu⟩ := Option.ne_none_iff_exists'.mp hc
      simp only [storeCells, Sem.run_bind, hadd, run_store P w _ (Value.int .u8 y) _ rfl, hu, hf]
      simp
    rw [hsz] at hfc
    simp [Builtin.append_, run_underlying ht, sizeOf, typeInfo, hi, hsz, Builtin.lenOf, hroom, hfc, Addr.add_lit, hst]
  · obtain ⟨cur, fz, hg, hs, hl, hm, htk⟩ := HM
    have holds : ∀ j u, (nums .u8 xs)[j]? = some u → w.cell? ((⟨g, 0, none⟩ : Addr).add j) = some u := by
      intro j u hu
      have hadd : (⟨g, 0, none⟩ : Addr).add j = ⟨g, j, none⟩ := by unfold Addr.add; split <;> simp_all
      rw [hadd, cell_of_row w g j cur e fz hg]
      rw [← htk, List.getElem?_take] at hu
      split at hu
      · simpa using hu
      · cases hu
    have hr := run_append_grow (P := P) w t ty e i (.int .u8 0) ht hi hz ⟨g, 0, none⟩ xs.length cap (nums .u8 xs) (by simp [nums, hsz]) holds a 1 1 [.int .u8 y] (by simp [hsz]) hnews (by omega) (by unfold maxLen at hml; omega) (growslice_fits (by omega) (by rw [hby]; omega))
    have hge := grownCap_ge w (xs.length + 1) cap e
    refine ⟨w.heap.size, _, _, hr, ⟨_, (0, 0), heap_alloc_new w.drew _, ?_, by simp; omega, Or.inl (Nat.le_refl _), ?_⟩, grownCap_le_maxLen w (xs.length + 1) cap e (by omega), Or.inr rfl, ⟨rfl, rfl, rfl, by simp, fun k hk _ => Below.heap_alloc w.drew _ k hk⟩⟩
    · have hz1 : (Value.int IntKind.u8 0).cells.size = 1 := rfl
      simp only [Array.size_append, List.size_toArray, size_zeroCells, hz1]
      simp [nums]; omega
    · simp only [Array.toList_append, List.append_assoc]
      rw [← List.append_assoc]
      have e1 : nums .u8 xs ++ [Value.int .u8 y] = nums .u8 (xs ++ [y]) := by simp [nums]
      rw [e1]
      have e2 : (xs ++ [y]).length = (nums .u8 (xs ++ [y])).length := by simp [nums]
      rw [e2]
      exact List.take_left
/-- append of one byte, for the walk: what is appended lies in a block of its own. -/
theorem append_M {P : Program} {ops : Array Oper} {rest : List Oper} {o : Oper} {a : Act} {Q : Exit → Act → World → Prop} {W w0 : World} {B : Nat} (hgd : o.guard = none) (s x : Operand) (t e : TypeId)
    (ho : o.op = .call { callee := .builtin .append, args := #[s, x], argTypes := #[t, t] })
    (ht : P.underlying t = some (.slice e)) (hinfo : (P.info? e).map (fun i => (i.zero, i.size, i.bytes)) = some (some (.int .u8 0), 1, 1))
    (g cap n : Nat) (xs : List Int) (y : Int) (hn : n = xs.length) (hs : a.eval s = .slice (some ⟨g, 0, none⟩) n cap) (hx : a.eval x = .slice (some ⟨W.heap.size, 0, none⟩) 1 1)
    (HM : MRow W g e cap xs) (hcm : cap ≤ maxLen) (HB : Below B w0 W) (hg : B ≤ g) (hBW : B ≤ W.heap.size) (hlen : n + 1 ≤ 140737488355328)
    (h : ∀ g1 cap1 w1, MRow w1 g1 e cap1 (xs ++ [y]) → cap1 ≤ maxLen → B ≤ g1 → Below B w0 w1 → (∀ k, k < W.heap.size → k ≠ g → w1.heap[k]? = W.heap[k]?) → (g1 = g ∨ W.heap.size ≤ g1) → wpList P ops Q rest (a.put o.dst (.slice (some ⟨g1, 0, none⟩) (n + 1) cap1)) w1) :
    wpList P ops Q (o :: rest) a (W.alloc (.cells #[.int .u8 y] e)) := by
  subst hn
  obtain ⟨i0, hi, hzz⟩ := Option.map_eq_some_iff.1 hinfo
  simp only [Prod.mk.injEq] at hzz
  obtain ⟨hz0, hz1, hz2⟩ := hzz
  have hM2 : MRow (W.alloc (.cells #[.int .u8 y] e)) g e cap xs := HM.same (Below.heap_alloc W _ g HM.lt)
  have hnew : (W.alloc (.cells #[.int .u8 y] e)).cell? ((⟨W.heap.size, 0, none⟩ : Addr).add 0) = some (.int .u8 y) := cell_one_new W (.int .u8 y) e 0 _ rfl
  obtain ⟨g1, cap1, w1, hr, h1, h2, h3, h4⟩ := run_append_M (P := P) (W.alloc (.cells #[.int .u8 y] e)) t o.type e i0 ht hi hz0 hz1 hz2 g cap xs hM2 ⟨W.heap.size, 0, none⟩ y hnew hcm hlen
  have hsz : (W.alloc (.cells #[.int .u8 y] e)).heap.size = W.heap.size + 1 := by simp
  refine wpList_plain hgd fun K hK => ?_
  unfold Oper.wp execOp
  simp only [ho, resolve, invoke, builtin, Sem.run_bind, Sem.run_pure, Result.andThen_ok, List.map_toArray, List.map_cons, List.map_nil, hs, hx, hr]
  refine hK _ _ (h g1 cap1 w1 h1 h2 ?_ ?_ ?_ ?_)
  · rcases h3 with rfl | rfl
    · exact hg
    · omega
  · exact (HB.alloc hBW _).grown h4 (by omega) (fun k hk => by injection hk with hk; omega)
  · intro k hk hne
    rw [h4.block k (by omega) (by simpa using hne)]
    exact Below.heap_alloc W _ k hk
  · rcases h3 with rfl | rfl
    · exact Or.inl rfl
    · right; omega
def heByte (b : Int) (m : Nat) : Int := b / 256 ^ (7 - m) % 256
def heLen (b : Int) : List Int := (List.range 8).map (heByte b)
def heBase (r : ByteArray) : List Int := bytesOf r ++ [128]
def heTail (r : ByteArray) (c : Int) : List Int := heBase r ++ List.replicate ((119 - r.size) % 64) 0 ++ heLen (8 * c)
def spec_HashEnd.l0 : Nat → List Int → List Int → List Int → Int → Option ByteArray
  | 0, _, _, _, _ => none
  | k + 1, T, st, ks, i => if i < (T.length : Int) then (if 0 ≤ i ∧ i + 64 ≤ (T.length : Int) then ((spec_l04Round.f k st ks (strOfNums ((T.take (i + 64).toNat).drop i.toNat))).bind fun st' => spec_HashEnd.l0 k T st' ks (i + 64)) else none) else (spec_l04Bytes.f k st)
def spec_HashEnd.f (k : Nat) (a0_0 : ByteArray) (a0_1 : ByteArray) (a0_2 : Int) : Option ByteArray :=
  (spec_HasherOk.f a0_0 a0_1 a0_2).bind fun b => if b = true then (if a0_1.size < 64 ∧ 0 ≤ a0_2 ∧ a0_2 ≤ 1000000000 then ((spec_l04Words.f k a0_0).bind fun st => (spec_l04K.f).bind fun ks => spec_HashEnd.l0 k (heTail a0_1 a0_2) st ks 0) else none) else some ⟨#[]⟩
theorem spec_HashEnd.mono_l : ∀ k T st ks i, LeO (spec_HashEnd.l0 k T st ks i) (spec_HashEnd.l0 (k + 1) T st ks i)
  | 0, T, st, ks, i => fun r h => by simp [spec_HashEnd.l0] at h
  | k + 1, T, st, ks, i => by
    rw [spec_HashEnd.l0, spec_HashEnd.l0]
    exact LeO.ite (LeO.ite (LeO.bind (spec_l04Round.mono _ _ _ _) (fun _ => spec_HashEnd.mono_l k _ _ _ _)) (LeO.none _)) (spec_l04Bytes.mono _ _)
theorem spec_HashEnd.mono : ∀ a0 a1 a2 k, LeO (spec_HashEnd.f k a0 a1 a2) (spec_HashEnd.f (k + 1) a0 a1 a2) := by
  intro a0 a1 a2 k
  unfold spec_HashEnd.f
  refine LeO.bind (LeO.refl _) (fun b => LeO.ite (LeO.ite (LeO.bind (spec_l04Words.mono _ _) (fun st => LeO.bind (LeO.refl _) (fun ks => spec_HashEnd.mono_l k _ _ _ _))) (LeO.none _)) (LeO.refl _))
theorem heLen_take (b : Int) (m : Nat) (h : m < 8) : (heLen b).take (m + 1) = (heLen b).take m ++ [heByte b m] := by
  unfold heLen
  rw [List.take_succ_eq_append_getElem (by simpa using h)]
  simp
set_option maxHeartbeats 8000000 in
set_option maxRecDepth 100000 in
theorem spec_HashEnd.calls (k : Nat) (a0_0 : ByteArray) (a0_1 : ByteArray) (a0_2 : Int) (r : ByteArray) (w : World) (h : spec_HashEnd.f k a0_0 a0_1 a0_2 = some r) :
    Calls Try.prog 14 #[.agg #[.string a0_0, .string a0_1, .int .i64 a0_2]] w fun e w' => e = .returned (.string r) ∧ Below w.heap.size w w' := by
  have huT := Try.underlying26
  have HB := Aside0.mk (Below.refl w.heap.size w)
  unfold spec_HashEnd.f at h
  obtain ⟨b, hb0, h⟩ := Option.bind_eq_some_iff.mp h
  have A1 := Aside0.mk hb0
  clear hb0
  cases b
  · simp only [Bool.false_eq_true, if_false] at h
    obtain rfl := Option.some.inj h
    clear h
    go_enter Try.func14, Try.ntmps14
    go_wp2_with (first
      | ((with_reducible refine gate_dst (N := 1) rfl ?_); refine box_event ?hg (N := 1) ?hd (cs := #[.string a0_0, .string a0_1, .int .i64 a0_2]) (t := 26) ?hr ?_; (case hd => rfl); (case hg => rfl); (case hr => first | (go_simp; done) | (go_simp; rfl)); intro gb hg w1 hbox hb; have n0_ := Aside0.mk (below_step HB.out hb); have BK := Aside0.mk hbox; have GE := Aside0.mk (show w.heap.size ≤ gb from by rw [hg]; exact Nat.le_refl _); clear HB hbox hg hb; have HB := n0_; clear n0_; have hz0 := blk_cell BK.out 0; have hz1 := blk_cell BK.out 1; have hz2 := blk_cell BK.out 2; simp only [List.getElem?_toArray, List.getElem?_cons_zero, List.getElem?_cons_succ] at hz0 hz1 hz2)
      | (go_at_call 32; (with_reducible refine (spec_HasherOk.calls a0_0 a0_1 a0_2 false _ A1.out).mono ?_); rintro e w2 ⟨rfl, hb⟩; have n0_ := Aside0.mk (below_step HB.out hb); clear HB; have HB := n0_; clear n0_ hb))
    go_ret
    exact ⟨by first | rfl | (simp; done), HB.out⟩
  · rw [if_pos rfl] at h
    by_cases hb0 : a0_1.size < 64 ∧ 0 ≤ a0_2 ∧ a0_2 ≤ 1000000000
    case neg => rw [if_neg hb0] at h; cases h
    rw [if_pos hb0] at h
    obtain ⟨hb1, hb2, hb3⟩ := hb0
    obtain ⟨st, A20, h⟩ := Option.bind_eq_some_iff.mp h
    obtain ⟨ks, A30, h⟩ := Option.bind_eq_some_iff.mp h
    have A2 := Aside0.mk A20
    have A3 := Aside0.mk A30
    have H := Aside0.mk h
    clear A20 A30 h
    have kb := fun W => print_bytes (P := Try.prog) 9 39 5 Try.underlying9 Try.underlying39 Try.underlying5 a0_1 W
    go_enter Try.func14, Try.ntmps14
    go_wp2_with (first
      | ((with_reducible refine gate_dst (N := 1) rfl ?_); refine box_event ?hg (N := 1) ?hd (cs := #[.string a0_0, .string a0_1, .int .i64 a0_2]) (t := 26) ?hr ?_; (case hd => rfl); (case hg => rfl); (case hr => first | (go_simp; done) | (go_simp; rfl)); intro gb hg w1 hbox hb; have n0_ := Aside0.mk (below_step HB.out hb); have BK := Aside0.mk hbox; have GE := Aside0.mk (show w.heap.size ≤ gb from by rw [hg]; exact Nat.le_refl _); clear HB hbox hg hb; have HB := n0_; clear n0_; have hz0 := blk_cell BK.out 0; have hz1 := blk_cell BK.out 1; have hz2 := blk_cell BK.out 2; simp only [List.getElem?_toArray, List.getElem?_cons_zero, List.getElem?_cons_succ] at hz0 hz1 hz2)
      | (go_at_call 32; (with_reducible refine (spec_HasherOk.calls a0_0 a0_1 a0_2 true _ A1.out).mono ?_); rintro e w2 ⟨rfl, hb⟩; have n0_ := Aside0.mk (below_step HB.out hb); have n1_ := Aside0.mk (blk_below BK.out hb); clear HB BK hz0 hz1 hz2; have HB := n0_; have BK := n1_; clear n0_ n1_ hb; have hz0 := blk_cell BK.out 0; have hz1 := blk_cell BK.out 1; have hz2 := blk_cell BK.out 2; simp only [List.getElem?_toArray, List.getElem?_cons_zero, List.getElem?_cons_succ] at hz0 hz1 hz2)
      | (at_builtin; refine append_M rfl _ _ 39 5 rfl Try.underlying39 (by kernel_rfl) w2.heap.size (grownCap w2 a0_1.size 0 5) a0_1.size (bytesOf a0_1) 128 (bytesOf_length a0_1).symm rfl rfl (MRow.conv w2 5 a0_1) (grownCap_le_maxLen _ _ _ _ (by unfold maxLen; omega)) (bytes_below HB.out HB.out.size 5 a0_1) HB.out.size (by rw [Lib.bytesWorld_size]; have := HB.out.size; omega) (by omega) ?_; intro g cap w3 hM hcap hge hB hk hor; have n1_ := Aside0.mk ((hk gb (by rw [Lib.bytesWorld_size]; have := blk_lt BK.out; omega) (by have := blk_lt BK.out; omega)).trans ((Lib.bytesWorld_at_old w2 5 a0_1 gb (blk_lt BK.out)).trans BK.out)); have n2_ := Aside0.mk (show gb ≠ g from by have := blk_lt BK.out; rw [Lib.bytesWorld_size] at hor; omega); clear hk hor HB BK hz0 hz1 hz2 kb; have HB := Aside0.mk hB; have BK := n1_; have HN := n2_; have HM := Aside0.mk hM; have HC := Aside0.mk hcap; have HG := Aside0.mk hge; clear hB n1_ n2_ hM hcap hge))
    obtain ⟨Z, hZ⟩ : ∃ Z, Z = (119 - a0_1.size) % 64 := ⟨_, rfl⟩
    have hl0 := bytesOf_length a0_1
    go_loopg [3] Z (fun kq v3 w' => ∃ (j g' cap' : Nat), j + kq = Z ∧ v3 = .slice (some ⟨g', 0, none⟩) (a0_1.size + 1 + j) cap' ∧ Aside0 (MRow w' g' 5 cap' (heBase a0_1 ++ List.replicate j 0)) ∧ Aside0 (cap' ≤ maxLen) ∧ Aside0 (w.heap.size ≤ g') ∧ Aside0 (gb ≠ g') ∧ Aside0 (w'.heap[gb]? = some (.cells #[.string a0_0, .string a0_1, .int .i64 a0_2] 26)) ∧ Aside0 (Below w.heap.size w w'))
    case atStart => exact ⟨0, g, cap, by omega, rfl, ⟨by simpa [heBase] using HM.out⟩, HC, HG, HN, BK, HB⟩
    case round =>
      clear HB BK HN HM HC HG
      obtain ⟨j, g', cap', hj, rfl, HM, HC, HG, HN, BK, HB⟩ := hrel
      by_cases hlt : j < Z
      · obtain ⟨k1, rfl⟩ : ∃ k1, gk = k1 + 1 := ⟨gk - 1, by omega⟩
        have hd1 : ((((a0_1.size : Int) + 1 + (j : Int)) % 64) != 56) = true := by
          rw [bne_iff_ne]
          omega
        have hln := Aside0.mk <| show a0_1.size + 1 + j = (heBase a0_1 ++ List.replicate j 0).length from by
          unfold heBase
          simp only [List.length_append, List.length_replicate, List.length_singleton]
          omega
        go_wp2_with (first
          | (at_builtin; refine append_M rfl _ _ 39 5 rfl Try.underlying39 (by kernel_rfl) g' cap' (a0_1.size + 1 + j) (heBase a0_1 ++ List.replicate j 0) 0 hln.out rfl rfl HM.out HC.out HB.out HG.out HB.out.size (by omega) ?_; intro g2 cap2 w4 hM hcap hge hB hk hor; have n1_ := Aside0.mk ((hk gb (blk_lt BK.out) HN.out).trans BK.out); have n2_ := Aside0.mk (show gb ≠ g2 from by have := blk_lt BK.out; have := HN.out; omega); clear hk hor HB BK HM HC HG HN; have HB := Aside0.mk hB; have BK := n1_; have HN := n2_; have HM := Aside0.mk (show MRow w4 g2 5 cap2 (heBase a0_1 ++ List.replicate (j + 1) 0) from by rw [List.replicate_succ', ← List.append_assoc]; exact hM); have HC := Aside0.mk hcap; have HG := Aside0.mk hge; clear hB n1_ n2_ hM hcap hge))
        go_roundg k1
        case measure => omega
        case rel => exact ⟨j + 1, g2, cap2, by omega, rfl, HM, HC, HG, HN, BK, HB⟩
      · have hd1 : ((((a0_1.size : Int) + 1 + (j : Int)) % 64) != 56) = false := by
          rw [bne_eq_false_iff_eq]
          omega
        obtain rfl : j = Z := by omega
        have hz0 := blk_cell BK.out 0; have hz1 := blk_cell BK.out 1; have hz2 := blk_cell BK.out 2; simp only [List.getElem?_toArray, List.getElem?_cons_zero, List.getElem?_cons_succ] at hz0 hz1 hz2
        obtain ⟨L0, hL0⟩ : ∃ L0, L0 = heBase a0_1 ++ List.replicate j 0 := ⟨_, rfl⟩
        have hL0l : L0.length = a0_1.size + 1 + j := by
          rw [hL0]
          unfold heBase
          simp only [List.length_append, List.length_replicate, List.length_singleton]
          omega
        have HL0 := Aside0.mk hL0
        have HL0l := Aside0.mk hL0l
        have HM1 := Aside0.mk (show MRow wr g' 5 cap' L0 from by rw [hL0]; exact HM.out)
        have HJ := Aside0.mk (show a0_1.size + 1 + j ≤ 150 from by omega)
        have HH := Aside0.mk (⟨hb1, hb2, hb3⟩ : a0_1.size < 64 ∧ 0 ≤ a0_2 ∧ a0_2 ≤ 1000000000)
        have HHj := Aside0.mk hZ
        clear HM hL0 hL0l hlt hj hl0 hZ
        go_wp2
        clear hd1
        go_loopg [3, 5] 8 (fun kq v3 v5 w' => ∃ (m g' cap' : Nat), m + kq = 8 ∧ v3 = .slice (some ⟨g', 0, none⟩) (a0_1.size + 1 + j + m) cap' ∧ v5 = .int .i64 (7 - (m : Int)) ∧ Aside0 (MRow w' g' 5 cap' (L0 ++ (heLen (8 * a0_2)).take m)) ∧ Aside0 (cap' ≤ maxLen) ∧ Aside0 (w.heap.size ≤ g') ∧ Aside0 (gb ≠ g') ∧ Aside0 (w'.heap[gb]? = some (.cells #[.string a0_0, .string a0_1, .int .i64 a0_2] 26)) ∧ Aside0 (Below w.heap.size w w'))
        case atStart => exact ⟨0, g', cap', by omega, rfl, rfl, ⟨by simpa using HM1.out⟩, HC, HG, HN, BK, HB⟩
        case round =>
          clear HM1 HC HG HN BK HB hz0 hz1 hz2
          obtain ⟨m, g1, cap1, hm, rfl, rfl, HM, HC, HG, HN, BK, HB⟩ := hrel
          by_cases hlt : m < 8
          · obtain ⟨k1, rfl⟩ : ∃ k1, gk = k1 + 1 := ⟨gk - 1, by omega⟩
            have hd1 : decide ((7 - (m : Int)) ≥ 0) = true := decide_eq_true (by omega)
            go_wp2
            go_loopg [6, 7] (7 - m) (fun kq v6 v7 w' => ∃ q : Nat, q + kq = 7 - m ∧ v6 = .int .i64 (8 * a0_2 / 256 ^ q) ∧ v7 = .int .i64 (q : Int) ∧ w' = wr)
            case atStart => exact ⟨0, by omega, by simp, rfl, rfl⟩
            case round =>
              obtain ⟨q, hq, rfl, rfl, rfl⟩ := hrel
              by_cases hlt2 : q < 7 - m
              · obtain ⟨k2, rfl⟩ : ∃ k2, gk = k2 + 1 := ⟨gk - 1, by omega⟩
                have hd2 : decide ((q : Int) < 7 - (m : Int)) = true := decide_eq_true (by omega)
                have hp : 0 ≤ 8 * a0_2 / 256 ^ q := Int.ediv_nonneg (by have := HH.out; omega) (by exact_mod_cast Nat.zero_le _)
                go_wp2
                go_roundg k2
                case measure => omega
                case rel => exact ⟨q + 1, by omega, by rw [show (8 * a0_2 / 256 ^ (q + 1) : Int) = (8 * a0_2 / 256 ^ q) / 256 from by rw [Int.pow_succ, Int.ediv_ediv_of_nonneg (by exact_mod_cast Nat.zero_le _)]]; first | rfl | (have hu := Int.ediv_le_self (256 ^ q) (show 0 ≤ 8 * a0_2 from by have := HH.out; omega); generalize 8 * a0_2 / 256 ^ q = e at *; have := HH.out; have ht : e.tdiv 256 = e / 256 := Int.tdiv_eq_ediv_of_nonneg hp; have hw : wrap64 (e / 256) = e / 256 := (by unfold wrap64; omega); rw [ht, hw]), by first | rfl | simp, rfl⟩
              · obtain rfl : q = 7 - m := by omega
                have hd2 : decide (((7 - m : Nat) : Int) < 7 - (m : Int)) = false := decide_eq_false (by omega)
                have hp : 0 ≤ 8 * a0_2 / 256 ^ (7 - m) := Int.ediv_nonneg (by have := HH.out; omega) (by exact_mod_cast Nat.zero_le _)
                have hln := Aside0.mk <| show a0_1.size + 1 + j + m = (L0 ++ (heLen (8 * a0_2)).take m).length from by
                  rw [List.length_append, HL0l.out, List.length_take]
                  unfold heLen
                  simp only [List.length_map, List.length_range]
                  omega
                have HY := Aside0.mk <| show (8 * a0_2 / 256 ^ (7 - m)).tmod 256 % 256 = heByte (8 * a0_2) m from by
                  unfold heByte
                  rw [Int.tmod_eq_emod_of_nonneg hp]
                  omega
                have HT := Aside0.mk (heLen_take (8 * a0_2) m hlt)
                clear hp
                go_wp2_with (first
                  | (at_builtin; refine append_M rfl _ _ 39 5 rfl Try.underlying39 (by kernel_rfl) g1 cap1 (a0_1.size + 1 + j + m) (L0 ++ (heLen (8 * a0_2)).take m) _ hln.out rfl rfl HM.out HC.out HB.out HG.out HB.out.size (by have := HJ.out; omega) ?_; intro g2 cap2 w4 hM hcap hge hB hk hor; have n1_ := Aside0.mk ((hk gb (blk_lt BK.out) HN.out).trans BK.out); have n2_ := Aside0.mk (show gb ≠ g2 from by have := blk_lt BK.out; have := HN.out; omega); clear hk hor HB BK HM HC HG HN; have HB := Aside0.mk hB; have BK := n1_; have HN := n2_; have HM := Aside0.mk (show MRow w4 g2 5 cap2 (L0 ++ (heLen (8 * a0_2)).take (m + 1)) from by rw [HT.out, ← HY.out, ← List.append_assoc]; exact hM); have HC := Aside0.mk hcap; have HG := Aside0.mk hge; clear hB n1_ n2_ hM hcap hge))
                go_roundg k1
                case measure => omega
                case rel => exact ⟨m + 1, g2, cap2, by omega, rfl, by first | rfl | (congr 1; simp; omega) | (simp; omega), HM, HC, HG, HN, BK, HB⟩
          · obtain rfl : m = 8 := by omega
            have hd1 : decide ((7 - ((8 : Nat) : Int)) ≥ 0) = false := by decide
            have hz0 := blk_cell BK.out 0; have hz1 := blk_cell BK.out 1; have hz2 := blk_cell BK.out 2; simp only [List.getElem?_toArray, List.getElem?_cons_zero, List.getElem?_cons_succ] at hz0 hz1 hz2
            have e8 : (heLen (8 * a0_2)).take 8 = heLen (8 * a0_2) := by
              rw [List.take_of_length_le]
              unfold heLen
              simp
            rw [e8] at HM
            clear e8
            have HTT : L0 ++ heLen (8 * a0_2) = heTail a0_1 a0_2 := by
              rw [HL0.out]
              unfold heTail
              rw [← HHj.out]
            rw [HTT] at HM
            have HTL := Aside0.mk <| show (heTail a0_1 a0_2).length = a0_1.size + 1 + j + 8 from by
              rw [← HTT, List.length_append, HL0l.out]
              unfold heLen
              simp
            clear HTT hlt hd1
            go_wp2_with (first
              | (go_at_call 41; (with_reducible refine (spec_l04Words.calls k a0_0 st _ A2.out).mono ?_); rintro e w5 ⟨v5, rfl, hr, hb⟩; have n0_ := Aside0.mk (below_step HB.out hb); have n1_ := Aside0.mk (HM.out.below hb); have n2_ := Aside0.mk (Kd.R_lower hr (below_size HB.out)); clear HB HM BK hz0 hz1 hz2 hr hb; have HB := n0_; have HM := n1_; have HS := n2_; clear n0_ n1_ n2_)
              | (go_at_call 42; (with_reducible refine (spec_l04K.calls ks _ A3.out).mono ?_); rintro e w6 ⟨v6, rfl, hr, hb⟩; have n0_ := Aside0.mk (below_step HB.out hb); have n1_ := Aside0.mk (HM.out.below hb); have n2_ := Aside0.mk (Kd.R_lower hr (below_size HB.out)); have n3_ := Aside0.mk (Kd.R_below HS.out hb); clear HB HM HS hr hb; have HB := n0_; have HM := n1_; have HKs := n2_; have HS := n3_; clear n0_ n1_ n2_ n3_))
            go_loopg [8, 10] k (fun kq v8 v10 w' => ∃ (x8 : List Int) (i : Int), v10 = .int .i64 i ∧ Aside0 (spec_HashEnd.l0 kq (heTail a0_1 a0_2) x8 ks i = some r) ∧ Aside0 (kq ≤ k) ∧ Aside0 (Kd.R (Kd.int .u32) 81 w' w.heap.size (fun _ => True) v8 x8) ∧ Aside0 (Kd.R (Kd.int .u32) 81 w' w.heap.size (fun _ => True) v6 ks) ∧ Aside0 (MRow w' g1 5 cap1 (heTail a0_1 a0_2)) ∧ Aside0 (Below w.heap.size w w'))
            case atStart => exact ⟨st, 0, rfl, H, ⟨Nat.le_refl _⟩, HS, HKs, HM, HB⟩
            case round =>
              clear HS HKs HM HB H
              obtain ⟨x8, i, rfl, HA, HK2, HS, HKs, HM, HB⟩ := hrel
              cases gk with
              | zero => exact absurd HA.out (by simp [spec_HashEnd.l0])
              | succ k2 =>
                have H := HA.out
                clear HA
                rw [spec_HashEnd.l0] at H
                obtain ⟨A0, c0, hv0⟩ := Kd.R_slice HS.out
                obtain ⟨A1, c1, hv1⟩ := Kd.R_slice HKs.out
                subst hv0 hv1
                by_cases hlt : i < ((heTail a0_1 a0_2).length : Int)
                · rw [if_pos hlt] at H
                  by_cases hin : 0 ≤ i ∧ i + 64 ≤ ((heTail a0_1 a0_2).length : Int)
                  case neg => rw [if_neg hin] at H; cases H
                  rw [if_pos hin] at H
                  obtain ⟨x8', hx8, H⟩ := Option.bind_eq_some_iff.mp H
                  obtain ⟨p, rfl⟩ := Int.eq_ofNat_of_zero_le hin.1
                  rw [HTL.out] at hlt hin
                  have hd1 : (p : Int) < (a0_1.size : Int) + 1 + (j : Int) + 8 := by omega
                  have HIN := Aside0.mk hin
                  have H' := Aside0.mk H
                  have hcl := HM.out.len
                  rw [HTL.out] at hcl
                  have hw64 : wrap64 ((p : Int) + 64) = (p : Int) + 64 := by have := HJ.out; unfold wrap64; omega
                  have hc0 : (0 : Int) ≤ (p : Int) + 64 := by omega
                  have hc1 : (p : Int) + 64 ≤ (cap1 : Int) := by omega
                  have hc2 : (p : Int) ≤ (p : Int) + 64 := by omega
                  have hne : ¬ cap1 = p := by omega
                  obtain ⟨S, hS⟩ : ∃ S, S = strOfNums (((heTail a0_1 a0_2).take (p + 64)).drop p) := ⟨_, rfl⟩
                  have kb2 := HM.out.strcut (P := Try.prog) Try.underlying39 Try.underlying5 Try.underlying9 p 64 (cap1 - p) (by rw [HTL.out]; omega)
                  have e1 : ((p : Int) + 64).toNat = p + 64 := by omega
                  rw [e1, Int.toNat_natCast, ← hS] at hx8
                  rw [← hS] at kb2
                  have HX := Aside0.mk hx8
                  have HR0 := Aside0.mk (Kd.R_reads' HS.out)
                  have HR1 := Aside0.mk (Kd.R_reads' HKs.out)
                  clear hlt hin hx8 H hcl hS e1
                  go_wp2_with (first
                    | (go_at_call 43; (with_reducible refine (spec_l04Round.calls k2 A0 c0 x8 A1 c1 ks S x8' _ HR0.out.2.2 HR0.out.2.1 HR1.out.2.2 HR1.out.2.1 HX.out).mono ?_); rintro e w7 ⟨v7, rfl, hr, hb⟩; have n0_ := Aside0.mk (below_step HB.out hb); have n1_ := Aside0.mk (HM.out.below hb); have n2_ := Aside0.mk (Kd.R_lower hr (below_size HB.out)); have n3_ := Aside0.mk (Kd.R_below HKs.out hb); clear HB HM HKs HS HR0 HR1 hr hb kb2; have HB := n0_; have HM := n1_; have HS := n2_; have HKs := n3_; clear n0_ n1_ n2_ n3_))
                  go_roundg k2
                  case measure => omega
                  case rel => exact ⟨x8', (p : Int) + 64, by first | rfl | (simp; done) | (simp [*]; done), H', ⟨by have := HK2.out; omega⟩, HS, HKs, HM, HB⟩
                · rw [if_neg hlt] at H
                  rw [HTL.out] at hlt
                  have hd1 : ¬ ((i : Int) < (a0_1.size : Int) + 1 + (j : Int) + 8) := by omega
                  have hd2 : ((a0_1.size : Int) + 1 + (j : Int) + 8 ≤ i) := by omega
                  have HX := Aside0.mk H
                  have HR0 := Aside0.mk (Kd.R_reads' HS.out)
                  clear hlt H
                  go_wp2_with (first
                    | (go_at_call 44; (with_reducible refine (spec_l04Bytes.calls k2 A0 c0 x8 r _ HR0.out.2.2 HR0.out.2.1 HX.out).mono ?_); rintro e w7 ⟨rfl, hb⟩; have n0_ := Aside0.mk (below_step HB.out hb); clear HB HM HKs HS HR0 hb; have HB := n0_; clear n0_))
                  go_ret
                  exact ⟨by first | rfl | (simp; done), HB.out⟩

/-! ### laws_toHasher: function 15 -/
def laws_toHasher.f (a0_0 : ByteArray) (a0_1 : ByteArray) (a0_2 : Int) : Option (ByteArray × ByteArray × Int) := some (a0_0, a0_1, a0_2)
set_option maxHeartbeats 8000000 in
set_option maxRecDepth 100000 in
theorem laws_toHasher.calls (a0_0 : ByteArray) (a0_1 : ByteArray) (a0_2 : Int) (r1 : ByteArray) (r2 : ByteArray) (r3 : Int) (w : World) (h : laws_toHasher.f a0_0 a0_1 a0_2 = some (r1, r2, r3)) :
    Calls Try.prog 15 #[.agg #[.string a0_0, .string a0_1, .int .i64 a0_2]] w fun e w' => e = .returned (.agg #[.string r1, .string r2, .int .i64 r3]) ∧ Below w.heap.size w w' := by
  have hu23 := Try.underlying23
  have hu26 := Try.underlying26
  have HB := Aside0.mk (Below.refl w.heap.size w)
  have H : (some (a0_0, a0_1, a0_2)) = some (r1, r2, r3) := h
  clear h
  simp only [Option.some.injEq, Prod.mk.injEq] at H
  obtain ⟨rfl, rfl, rfl⟩ := H
  go_enter Try.func15, Try.ntmps15
  go_wp2_with (first | ((with_reducible refine gate_dst (N := 1) rfl ?_); refine box_event ?hg (N := 1) ?hd (cs := #[.string a0_0, .string a0_1, .int .i64 a0_2]) (t := 23) ?hr ?_; (case hd => rfl); (case hg => rfl); (case hr => first | (go_simp; done) | (go_simp; rfl)); intro gb173 hg w2 hbox hb; have n0_ := Aside0.mk (below_step (by repeat (first | (with_reducible first | exact HB.out | apply below_alloc | apply pw_below_drewN | apply below_drew1) | exact HB.out)) hb); have n1_ := Aside0.mk (hbox); have n2_ := Aside0.mk ((by rw [hg]; exact (below_size (by repeat (first | (with_reducible first | exact HB.out | apply below_alloc | apply pw_below_drewN | apply below_drew1) | exact HB.out))) : w.heap.size ≤ gb173)); have n3_ := Aside0.mk ((by rw [hg]; exact (below_size (by repeat (first | (with_reducible first | exact HB.out | apply below_alloc | apply pw_below_drewN | apply below_drew1) | exact HB.out))) : w.heap.size ≤ gb173)); clear HB; have HB := n0_; have BK173 := n1_; have GW173 := n2_; have GE173 := n3_; clear n0_ n1_ n2_ n3_; clear hb hbox hg) | ((with_reducible refine gate_dst (N := 2) rfl ?_); refine box_event ?hg (N := 2) ?hd (cs := #[.string (⟨#[]⟩ : ByteArray), .string (⟨#[]⟩ : ByteArray), .int .i64 0]) (t := 26) ?hr ?_; (case hd => rfl); (case hg => rfl); (case hr => first | (go_simp; done) | (go_simp; rfl)); intro gb174 hg w3 hbox hb; have n0_ := Aside0.mk (blk_below (g := gb173) (o := .cells #[.string a0_0, .string a0_1, .int .i64 a0_2] 23 (0, 0)) (by (with_reducible repeat (first | refine blk_drewN ?_ _ | refine blk_drew ?_ | refine blk_alloc ?_ _)); exact BK173.out) hb); have n1_ := Aside0.mk (below_step (by repeat (first | (with_reducible first | exact HB.out | apply below_alloc | apply pw_below_drewN | apply below_drew1 | refine below_set ?_ GE173.out) | exact HB.out)) hb); have n2_ := Aside0.mk (hbox); have n3_ := Aside0.mk ((by rw [hg]; exact (below_size (by repeat (first | (with_reducible first | exact HB.out | apply below_alloc | apply pw_below_drewN | apply below_drew1 | refine below_set ?_ GE173.out) | exact HB.out))) : w.heap.size ≤ gb174)); have n4_ := Aside0.mk ((by rw [hg]; exact (below_size (by repeat (first | (with_reducible first | exact HB.out | apply below_alloc | apply pw_below_drewN | apply below_drew1 | refine below_set ?_ GE173.out) | exact HB.out))) : w.heap.size ≤ gb174)); have n5_ := Aside0.mk ((by rw [hg]; exact Nat.ne_of_lt (blk_lt (g := gb173) (o := .cells #[.string a0_0, .string a0_1, .int .i64 a0_2] 23 (0, 0)) (by (with_reducible repeat (first | refine blk_drewN ?_ _ | refine blk_drew ?_ | refine blk_alloc ?_ _)); exact BK173.out)) : gb173 ≠ gb174)); have n6_ := Aside0.mk ((by rw [hg]; exact Nat.ne_of_gt (blk_lt (g := gb173) (o := .cells #[.string a0_0, .string a0_1, .int .i64 a0_2] 23 (0, 0)) (by (with_reducible repeat (first | refine blk_drewN ?_ _ | refine blk_drew ?_ | refine blk_alloc ?_ _)); exact BK173.out)) : gb174 ≠ gb173)); clear BK173; clear HB; have BK173 := n0_; have HB := n1_; have BK174 := n2_; have GW174 := n3_; have GE174 := n4_; have NB173_174 := n5_; have NB174_173 := n6_; clear n0_ n1_ n2_ n3_ n4_ n5_ n6_; clear hb hbox hg) | ((with_reducible refine gate_dst (N := 3) rfl ?_); refine box_event ?hg (N := 3) ?hd (cs := #[.string (⟨#[]⟩ : ByteArray), .string (⟨#[]⟩ : ByteArray), .int .i64 0]) (t := 26) ?hr ?_; (case hd => rfl); (case hg => rfl); (case hr => first | (go_simp; done) | (go_simp; rfl)); intro gb175 hg w4 hbox hb; have n0_ := Aside0.mk (blk_below (g := gb173) (o := .cells #[.string a0_0, .string a0_1, .int .i64 a0_2] 23 (0, 0)) (by (with_reducible repeat (first | refine blk_drewN ?_ _ | refine blk_drew ?_ | refine blk_alloc ?_ _)); exact BK173.out) hb); have n1_ := Aside0.mk (blk_below (g := gb174) (o := .cells #[.string (⟨#[]⟩ : ByteArray), .string (⟨#[]⟩ : ByteArray), .int .i64 0] 26 (0, 0)) (by (with_reducible repeat (first | refine blk_drewN ?_ _ | refine blk_drew ?_ | refine blk_alloc ?_ _)); exact BK174.out) hb); have n2_ := Aside0.mk (below_step (by repeat (first | (with_reducible first | exact HB.out | apply below_alloc | apply pw_below_drewN | apply below_drew1 | refine below_set ?_ GE173.out | refine below_set ?_ GE174.out) | exact HB.out)) hb); have n3_ := Aside0.mk (hbox); have n4_ := Aside0.mk ((by rw [hg]; exact (below_size (by repeat (first | (with_reducible first | exact HB.out | apply below_alloc | apply pw_below_drewN | apply below_drew1 | refine below_set ?_ GE173.out | refine below_set ?_ GE174.out) | exact HB.out))) : w.heap.size ≤ gb175)); have n5_ := Aside0.mk ((by rw [hg]; exact (below_size (by repeat (first | (with_reducible first | exact HB.out | apply below_alloc | apply pw_below_drewN | apply below_drew1 | refine below_set ?_ GE173.out | refine below_set ?_ GE174.out) | exact HB.out))) : w.heap.size ≤ gb175)); have n6_ := Aside0.mk ((by rw [hg]; exact Nat.ne_of_lt (blk_lt (g := gb173) (o := .cells #[.string a0_0, .string a0_1, .int .i64 a0_2] 23 (0, 0)) (by (with_reducible repeat (first | refine blk_drewN ?_ _ | refine blk_drew ?_ | refine blk_alloc ?_ _)); exact BK173.out)) : gb173 ≠ gb175)); have n7_ := Aside0.mk ((by rw [hg]; exact Nat.ne_of_gt (blk_lt (g := gb173) (o := .cells #[.string a0_0, .string a0_1, .int .i64 a0_2] 23 (0, 0)) (by (with_reducible repeat (first | refine blk_drewN ?_ _ | refine blk_drew ?_ | refine blk_alloc ?_ _)); exact BK173.out)) : gb175 ≠ gb173)); have n8_ := Aside0.mk ((by rw [hg]; exact Nat.ne_of_lt (blk_lt (g := gb174) (o := .cells #[.string (⟨#[]⟩ : ByteArray), .string (⟨#[]⟩ : ByteArray), .int .i64 0] 26 (0, 0)) (by (with_reducible repeat (first | refine blk_drewN ?_ _ | refine blk_drew ?_ | refine blk_alloc ?_ _)); exact BK174.out)) : gb174 ≠ gb175)); have n9_ := Aside0.mk ((by rw [hg]; exact Nat.ne_of_gt (blk_lt (g := gb174) (o := .cells #[.string (⟨#[]⟩ : ByteArray), .string (⟨#[]⟩ : ByteArray), .int .i64 0] 26 (0, 0)) (by (with_reducible repeat (first | refine blk_drewN ?_ _ | refine blk_drew ?_ | refine blk_alloc ?_ _)); exact BK174.out)) : gb175 ≠ gb174)); clear BK173; clear BK174; clear HB; have BK173 := n0_; have BK174 := n1_; have HB := n2_; have BK175 := n3_; have GW175 := n4_; have GE175 := n5_; have NB173_175 := n6_; have NB175_173 := n7_; have NB174_175 := n8_; have NB175_174 := n9_; clear n0_ n1_ n2_ n3_ n4_ n5_ n6_ n7_ n8_ n9_; clear hb hbox hg; have hnb5 := NB173_174.out; have hnc5 := NB174_173.out; have hnb6 := NB173_175.out; have hnc6 := NB175_173.out; have hcz7_0 : w4.cell? ⟨gb173, 0, none⟩ = some (.string a0_0) := (blk_cell BK173.out 0).trans rfl; have hcz7_1 : w4.cell? ⟨gb173, 1, none⟩ = some (.string a0_1) := (blk_cell BK173.out 1).trans rfl; have hcz7_2 : w4.cell? ⟨gb173, 2, none⟩ = some (.int .i64 a0_2) := (blk_cell BK173.out 2).trans rfl; have hfz7_0 := blk_frozen BK173.out 0; have hfz7_1 := blk_frozen BK173.out 1; have hfz7_2 := blk_frozen BK173.out 2; have hnb8 := NB175_174.out; have hnc8 := NB174_175.out; have hcz9_0 : w4.cell? ⟨gb175, 0, none⟩ = some (.string (⟨#[]⟩ : ByteArray)) := (blk_cell BK175.out 0).trans rfl; have hcz9_1 : w4.cell? ⟨gb175, 1, none⟩ = some (.string (⟨#[]⟩ : ByteArray)) := (blk_cell BK175.out 1).trans rfl; have hcz9_2 : w4.cell? ⟨gb175, 2, none⟩ = some (.int .i64 0) := (blk_cell BK175.out 2).trans rfl; have hfz9_0 := blk_frozen BK175.out 0; have hfz9_1 := blk_frozen BK175.out 1; have hfz9_2 := blk_frozen BK175.out 2; have hcz10_0 : w4.cell? ⟨gb174, 0, none⟩ = some (.string (⟨#[]⟩ : ByteArray)) := (blk_cell BK174.out 0).trans rfl; have hcz10_1 : w4.cell? ⟨gb174, 1, none⟩ = some (.string (⟨#[]⟩ : ByteArray)) := (blk_cell BK174.out 1).trans rfl; have hcz10_2 : w4.cell? ⟨gb174, 2, none⟩ = some (.int .i64 0) := (blk_cell BK174.out 2).trans rfl; have hfz10_0 := blk_frozen BK174.out 0; have hfz10_1 := blk_frozen BK174.out 1; have hfz10_2 := blk_frozen BK174.out 2))
  refine bodyPost_ret (results_cell_row rfl _ _ gb174 26 #[.string a0_0, .string a0_1, .int .i64 a0_2] (0, 0) _ rfl (by (with_reducible repeat (first | refine blk_drewN ?_ _ | refine blk_drew ?_ | refine blk_alloc ?_ _)); refine blk_put (cs := #[.string a0_0, .string a0_1, .int .i64 0]) ?_ 2 _ rfl; (with_reducible repeat (first | refine blk_drewN ?_ _ | refine blk_drew ?_ | refine blk_alloc ?_ _)); refine blk_put (cs := #[.string a0_0, .string (⟨#[]⟩ : ByteArray), .int .i64 0]) ?_ 1 _ rfl; (with_reducible repeat (first | refine blk_drewN ?_ _ | refine blk_drew ?_ | refine blk_alloc ?_ _)); refine blk_put (cs := #[.string (⟨#[]⟩ : ByteArray), .string (⟨#[]⟩ : ByteArray), .int .i64 0]) ?_ 0 _ rfl; (with_reducible repeat (first | refine blk_drewN ?_ _ | refine blk_drew ?_ | refine blk_alloc ?_ _)); refine blk_far ?_ NB174_175.out _; (with_reducible repeat (first | refine blk_drewN ?_ _ | refine blk_drew ?_ | refine blk_alloc ?_ _)); refine blk_far ?_ NB174_175.out _; (with_reducible repeat (first | refine blk_drewN ?_ _ | refine blk_drew ?_ | refine blk_alloc ?_ _)); refine blk_far ?_ NB174_175.out _; (with_reducible repeat (first | refine blk_drewN ?_ _ | refine blk_drew ?_ | refine blk_alloc ?_ _)); exact BK174.out) Try.underlying26 rfl (by kernel_rfl)) rfl ?_
  exact ⟨by first | rfl | (simp [errW_none, errW_some] <;> rfl) | (simp [*, errW_none, errW_some] <;> rfl), by repeat (first | (with_reducible first | exact HB.out | apply below_alloc | apply pw_below_drewN | apply below_drew1 | refine below_set ?_ GE173.out | refine below_set ?_ GE174.out | refine below_set ?_ GE175.out) | exact HB.out)⟩

/-! ### impl_within: function 56 -/
def impl_within.f (a0 : Int) (a1 : Int) (a2 : Int) : Option (Bool) := if a0 ≥ a1 then (some (decide (a0 ≤ a2))) else (some false)
set_option maxHeartbeats 8000000 in
set_option maxRecDepth 100000 in
theorem impl_within.calls (a0 : Int) (a1 : Int) (a2 : Int) (r : Bool) (w : World) (h : impl_within.f a0 a1 a2 = some r) :
    Calls Try.prog 56 #[.int .i64 a0, .int .i64 a1, .int .i64 a2] w fun e w' => e = .returned (.bool r) ∧ Drawn0 w w' := by
  have H : (if a0 ≥ a1 then (some (decide (a0 ≤ a2))) else (some false)) = some r := h
  clear h
  by_cases c4 : a0 ≥ a1
  · rw [if_pos c4] at H
    have c4b0 : decide (a1 ≤ a0) = true := decide_eq_true c4
    clear c4
    obtain rfl := Option.some.inj H
    go_enter Try.func56, Try.ntmps56
    go_wp2
    go_ret
    exact ⟨by first | rfl | (simp; done) | (simp [*]; done), by repeat (first | exact Drawn0.refl _ | apply Drawn0.step)⟩
  · rw [if_neg c4] at H
    have c4b0 : decide (a1 ≤ a0) = false := decide_eq_false c4
    clear c4
    obtain rfl := Option.some.inj H
    go_enter Try.func56, Try.ntmps56
    go_wp2
    go_ret
    exact ⟨by first | rfl | (simp; done) | (simp [*]; done), by repeat (first | exact Drawn0.refl _ | apply Drawn0.step)⟩

/-! ### impl_HasherOk: function 31 -/
def impl_HasherOk.f (a0_0 : ByteArray) (a0_1 : ByteArray) (a0_2 : Int) : Option (Bool) := if (a0_0.size : Int) = 32 then ((impl_within.f a0_2 0 1000000000).bind fun t177 => (if t177 = true then (some ((a0_1.size : Int) == (Int.tmod a0_2 64))) else (some false))) else (some false)
set_option maxHeartbeats 8000000 in
set_option maxRecDepth 100000 in
theorem impl_HasherOk.calls (a0_0 : ByteArray) (a0_1 : ByteArray) (a0_2 : Int) (r : Bool) (w : World) (h : impl_HasherOk.f a0_0 a0_1 a0_2 = some r) :
    Calls Try.prog 31 #[.agg #[.string a0_0, .string a0_1, .int .i64 a0_2]] w fun e w' => e = .returned (.bool r) ∧ Below w.heap.size w w' := by
  have hu26 := Try.underlying26
  have HB := Aside0.mk (Below.refl w.heap.size w)
  have H : (if (a0_0.size : Int) = 32 then ((impl_within.f a0_2 0 1000000000).bind fun t177 => (if t177 = true then (some ((a0_1.size : Int) == (Int.tmod a0_2 64))) else (some false))) else (some false)) = some r := h
  clear h
  by_cases c2 : (a0_0.size : Int) = 32
  · rw [if_pos c2] at H
    have c2b0 : ((a0_0.size : Int) == 32) = true := beq_iff_eq.mpr c2
    have c2b1 : ((a0_0.size : Int) != 32) = false := bne_eq_false_iff_eq.mpr c2
    clear c2
    replace H := Option.bind_eq_some_iff.mp H
    obtain ⟨t177, A30, H⟩ := H
    replace H : (if t177 = true then (some ((a0_1.size : Int) == (Int.tmod a0_2 64))) else (some false)) = some r := H
    have A3 := Aside0.mk A30
    clear A30
    by_cases c4 : t177 = true
    · subst c4
      have H1 : (some ((a0_1.size : Int) == (Int.tmod a0_2 64))) = some r := by rw [if_pos rfl] at H; exact H
      clear H
      have H := H1
      clear H1
      obtain rfl := Option.some.inj H
      go_enter Try.func31, Try.ntmps31
      go_wp2_with (first | ((with_reducible refine gate_dst (N := 1) rfl ?_); (try (refine gate_guard (by rfl) ?_; dsimp only)); refine box_event ?hg (N := 1) ?hd (cs := #[.string a0_0, .string a0_1, .int .i64 a0_2]) (t := 26) ?hr ?_; (case hd => rfl); (case hg => rfl); (case hr => first | (go_simp; done) | (go_simp; rfl)); intro gb176 hg w5 hbox hb; have n0_ := Aside0.mk (below_step (by repeat (first | (with_reducible first | exact HB.out | apply below_alloc | apply pw_below_drewN | apply below_drew1) | exact HB.out)) hb); have n1_ := Aside0.mk (hbox); have n2_ := Aside0.mk ((by rw [hg]; exact (below_size (by repeat (first | (with_reducible first | exact HB.out | apply below_alloc | apply pw_below_drewN | apply below_drew1) | exact HB.out))) : w.heap.size ≤ gb176)); have n3_ := Aside0.mk ((by rw [hg]; exact (below_size (by repeat (first | (with_reducible first | exact HB.out | apply below_alloc | apply pw_below_drewN | apply below_drew1) | exact HB.out))) : w.heap.size ≤ gb176)); clear HB; have HB := n0_; have BK176 := n1_; have GW176 := n2_; have GE176 := n3_; clear n0_ n1_ n2_ n3_; clear hb hbox hg; have hcz6_0 : w5.cell? ⟨gb176, 0, none⟩ = some (.string a0_0) := (blk_cell BK176.out 0).trans rfl; have hcz6_1 : w5.cell? ⟨gb176, 1, none⟩ = some (.string a0_1) := (blk_cell BK176.out 1).trans rfl; have hcz6_2 : w5.cell? ⟨gb176, 2, none⟩ = some (.int .i64 a0_2) := (blk_cell BK176.out 2).trans rfl; have hfz6_0 := blk_frozen BK176.out 0; have hfz6_1 := blk_frozen BK176.out 1; have hfz6_2 := blk_frozen BK176.out 2) | (go_at_call 56; (with_reducible refine (impl_within.calls a0_2 0 1000000000 true _ A3.out).mono ?_); rintro e w' ⟨rfl, ⟨nd, rfl⟩⟩))
      go_ret
      exact ⟨by first | rfl | (simp [errW_none, errW_some] <;> rfl) | (simp [*, errW_none, errW_some] <;> rfl), by repeat (first | (with_reducible first | exact HB.out | apply below_alloc | apply pw_below_drewN | apply below_drew1 | refine below_set ?_ GE176.out) | exact HB.out)⟩
    · replace c4 := Bool.eq_false_iff.mpr c4
      subst c4
      have H1 : (some false) = some r := by rw [if_neg (show ¬ (false = true) by decide)] at H; exact H
      clear H
      have H := H1
      clear H1
      obtain rfl := Option.some.inj H
      go_enter Try.func31, Try.ntmps31
      go_wp2_with (first | ((with_reducible refine gate_dst (N := 1) rfl ?_); (try (refine gate_guard (by rfl) ?_; dsimp only)); refine box_event ?hg (N := 1) ?hd (cs := #[.string a0_0, .string a0_1, .int .i64 a0_2]) (t := 26) ?hr ?_; (case hd => rfl); (case hg => rfl); (case hr => first | (go_simp; done) | (go_simp; rfl)); intro gb176 hg w7 hbox hb; have n0_ := Aside0.mk (below_step (by repeat (first | (with_reducible first | exact HB.out | apply below_alloc | apply pw_below_drewN | apply below_drew1) | exact HB.out)) hb); have n1_ := Aside0.mk (hbox); have n2_ := Aside0.mk ((by rw [hg]; exact (below_size (by repeat (first | (with_reducible first | exact HB.out | apply below_alloc | apply pw_below_drewN | apply below_drew1) | exact HB.out))) : w.heap.size ≤ gb176)); have n3_ := Aside0.mk ((by rw [hg]; exact (below_size (by repeat (first | (with_reducible first | exact HB.out | apply below_alloc | apply pw_below_drewN | apply below_drew1) | exact HB.out))) : w.heap.size ≤ gb176)); clear HB; have HB := n0_; have BK176 := n1_; have GW176 := n2_; have GE176 := n3_; clear n0_ n1_ n2_ n3_; clear hb hbox hg; have hcz8_0 : w7.cell? ⟨gb176, 0, none⟩ = some (.string a0_0) := (blk_cell BK176.out 0).trans rfl; have hcz8_1 : w7.cell? ⟨gb176, 1, none⟩ = some (.string a0_1) := (blk_cell BK176.out 1).trans rfl; have hcz8_2 : w7.cell? ⟨gb176, 2, none⟩ = some (.int .i64 a0_2) := (blk_cell BK176.out 2).trans rfl; have hfz8_0 := blk_frozen BK176.out 0; have hfz8_1 := blk_frozen BK176.out 1; have hfz8_2 := blk_frozen BK176.out 2) | (go_at_call 56; (with_reducible refine (impl_within.calls a0_2 0 1000000000 false _ A3.out).mono ?_); rintro e w' ⟨rfl, ⟨nd, rfl⟩⟩))
      go_ret
      exact ⟨by first | rfl | (simp [errW_none, errW_some] <;> rfl) | (simp [*, errW_none, errW_some] <;> rfl), by repeat (first | (with_reducible first | exact HB.out | apply below_alloc | apply pw_below_drewN | apply below_drew1 | refine below_set ?_ GE176.out) | exact HB.out)⟩
  · rw [if_neg c2] at H
    have c2b0 : ((a0_0.size : Int) == 32) = false := beq_eq_false_iff_ne.mpr c2
    have c2b1 : ((a0_0.size : Int) != 32) = true := bne_iff_ne.mpr c2
    obtain rfl := Option.some.inj H
    go_enter Try.func31, Try.ntmps31
    go_wp2_with (first | ((with_reducible refine gate_dst (N := 1) rfl ?_); (try (refine gate_guard (by rfl) ?_; dsimp only)); refine box_event ?hg (N := 1) ?hd (cs := #[.string a0_0, .string a0_1, .int .i64 a0_2]) (t := 26) ?hr ?_; (case hd => rfl); (case hg => rfl); (case hr => first | (go_simp; done) | (go_simp; rfl)); intro gb176 hg w9 hbox hb; have n0_ := Aside0.mk (below_step (by repeat (first | (with_reducible first | exact HB.out | apply below_alloc | apply pw_below_drewN | apply below_drew1) | exact HB.out)) hb); have n1_ := Aside0.mk (hbox); have n2_ := Aside0.mk ((by rw [hg]; exact (below_size (by repeat (first | (with_reducible first | exact HB.out | apply below_alloc | apply pw_below_drewN | apply below_drew1) | exact HB.out))) : w.heap.size ≤ gb176)); have n3_ := Aside0.mk ((by rw [hg]; exact (below_size (by repeat (first | (with_reducible first | exact HB.out | apply below_alloc | apply pw_below_drewN | apply below_drew1) | exact HB.out))) : w.heap.size ≤ gb176)); clear HB; have HB := n0_; have BK176 := n1_; have GW176 := n2_; have GE176 := n3_; clear n0_ n1_ n2_ n3_; clear hb hbox hg; have hcz10_0 : w9.cell? ⟨gb176, 0, none⟩ = some (.string a0_0) := (blk_cell BK176.out 0).trans rfl; have hcz10_1 : w9.cell? ⟨gb176, 1, none⟩ = some (.string a0_1) := (blk_cell BK176.out 1).trans rfl; have hcz10_2 : w9.cell? ⟨gb176, 2, none⟩ = some (.int .i64 a0_2) := (blk_cell BK176.out 2).trans rfl; have hfz10_0 := blk_frozen BK176.out 0; have hfz10_1 := blk_frozen BK176.out 1; have hfz10_2 := blk_frozen BK176.out 2))
    go_ret
    exact ⟨by first | rfl | (simp [errW_none, errW_some] <;> rfl) | (simp [*, errW_none, errW_some] <;> rfl), by repeat (first | (with_reducible first | exact HB.out | apply below_alloc | apply pw_below_drewN | apply below_drew1 | refine below_set ?_ GE176.out) | exact HB.out)⟩

/-! ### impl_NumberText: function 57 -/
def impl_NumberText.f (a0 : Int) : Option (ByteArray) := (impl_within.f a0 0 4294967295).bind fun t178 => (if t178 = true then (some (strOfNums (([(Go.bits .and .i64 (a0 / 16777216) 255) % 256, (Go.bits .and .i64 (a0 / 65536) 255) % 256, (Go.bits .and .i64 (a0 / 256) 255) % 256, (Go.bits .and .i64 a0 255) % 256] : List Int)))) else (some (⟨#[]⟩ : ByteArray)))
set_option maxHeartbeats 8000000 in
set_option maxRecDepth 100000 in
theorem impl_NumberText.calls (a0 : Int) (r : ByteArray) (w : World) (h : impl_NumberText.f a0 = some r) :
    Calls Try.prog 57 #[.int .i64 a0] w fun e w' => e = .returned (.string r) ∧ Below w.heap.size w w' := by
  have HB := Aside0.mk (Below.refl w.heap.size w)
  have H : ((impl_within.f a0 0 4294967295).bind fun t178 => (if t178 = true then (some (strOfNums (([(Go.bits .and .i64 (a0 / 16777216) 255) % 256, (Go.bits .and .i64 (a0 / 65536) 255) % 256, (Go.bits .and .i64 (a0 / 256) 255) % 256, (Go.bits .and .i64 a0 255) % 256] : List Int)))) else (some (⟨#[]⟩ : ByteArray)))) = some r := h
  clear h
  replace H := Option.bind_eq_some_iff.mp H
  obtain ⟨t178, A20, H⟩ := H
  replace H : (if t178 = true then (some (strOfNums (([(Go.bits .and .i64 (a0 / 16777216) 255) % 256, (Go.bits .and .i64 (a0 / 65536) 255) % 256, (Go.bits .and .i64 (a0 / 256) 255) % 256, (Go.bits .and .i64 a0 255) % 256] : List Int)))) else (some (⟨#[]⟩ : ByteArray))) = some r := H
  have A2 := Aside0.mk A20
  clear A20
  by_cases c3 : t178 = true
  · subst c3
    have H1 : (some (strOfNums (([(Go.bits .and .i64 (a0 / 16777216) 255) % 256, (Go.bits .and .i64 (a0 / 65536) 255) % 256, (Go.bits .and .i64 (a0 / 256) 255) % 256, (Go.bits .and .i64 a0 255) % 256] : List Int)))) = some r := by rw [if_pos rfl] at H; exact H
    clear H
    have H := H1
    clear H1
    obtain ⟨y179, hy179⟩ : ∃ y_ : List Int, y_ = (([(Go.bits .and .i64 (a0 / 16777216) 255) % 256, (Go.bits .and .i64 (a0 / 65536) 255) % 256, (Go.bits .and .i64 (a0 / 256) 255) % 256, (Go.bits .and .i64 a0 255) % 256] : List Int)) := ⟨_, rfl⟩
    replace H : (some (strOfNums y179)) = some r := by first | (rw [hy179]; with_reducible exact H) | (have H2_ := (Option.bind_some _ _).symm.trans H; rw [hy179]; with_reducible exact H2_) | (have H2_ := (Option.bind_some _ _).symm.trans H; with_reducible exact H2_) | with_reducible exact H | (rw [hy179]; exact H) | exact H
    have Ny179 := Aside0.mk hy179
    clear hy179
    obtain rfl := Option.some.inj H
    go_enter Try.func57, Try.ntmps57
    go_wp2_with (first | ((with_reducible refine gate_callee (f := 56) rfl ?_); refine goesL_ (some 4) rfl rfl Try.func56 (by kernel_rfl) rfl #[.int .i64 a0, .int .i64 0, .int .i64 4294967295] rfl (by (try simp only [List.map_toArray, List.map_cons, List.map_nil]); first | done | rfl | (simp only [List.length_drop, List.length_take]; rfl)) ?_; (with_reducible refine (impl_within.calls a0 0 4294967295 true _ A2.out).mono ?_); rintro e w' ⟨rfl, ⟨nd, rfl⟩⟩; refine ⟨_, rfl, ?_⟩) | ((with_reducible refine gate_dst (N := 21) rfl ?_); refine Kd.R_lit (Kd.int .u8) _ 5 ?hg (N := 21) ?hd (xs := ([(Go.bits .and .i64 (a0 / 16777216) 255) % 256, (Go.bits .and .i64 (a0 / 65536) 255) % 256, (Go.bits .and .i64 (a0 / 256) 255) % 256, (Go.bits .and .i64 a0 255) % 256] : List Int)) (inner := [.int .u8 ((Go.bits .and .i64 (a0 / 16777216) 255) % 256), .int .u8 ((Go.bits .and .i64 (a0 / 65536) 255) % 256), .int .u8 ((Go.bits .and .i64 (a0 / 256) 255) % 256), .int .u8 ((Go.bits .and .i64 a0 255) % 256)]) (ok := fun _ => True) (okp := fun _ => True) ?hr ?hp (fun _ hk => hk) trivial (Below.refl _ _) (Nat.le_refl _) (by simp) ?_; (case hd => rfl); (case hg => rfl); (case hr => first | (go_simp; done) | (go_simp; rfl)); (case hp => exact (Reps.one (show Kd.M (Kd.int .u8) _ _ _ ((Go.bits .and .i64 (a0 / 16777216) 255) % 256) [.int .u8 ((Go.bits .and .i64 (a0 / 16777216) 255) % 256)] from rfl) (Reps.one (show Kd.M (Kd.int .u8) _ _ _ ((Go.bits .and .i64 (a0 / 65536) 255) % 256) [.int .u8 ((Go.bits .and .i64 (a0 / 65536) 255) % 256)] from rfl) (Reps.one (show Kd.M (Kd.int .u8) _ _ _ ((Go.bits .and .i64 (a0 / 256) 255) % 256) [.int .u8 ((Go.bits .and .i64 (a0 / 256) 255) % 256)] from rfl) (Reps.one (show Kd.M (Kd.int .u8) _ _ _ ((Go.bits .and .i64 a0 255) % 256) [.int .u8 ((Go.bits .and .i64 a0 255) % 256)] from rfl) (Reps.none _ _)))))); intro v180 w4 ho5 hb hg_ hnew_; clear hg_ hnew_; (first | rw [← Ny179.out] at ho5 | (simp only [Int.reduceToNat] at ho5; rw [← Ny179.out] at ho5)); have n0_ := Aside0.mk (Kd.R_lower ho5 (below_size (by repeat (first | (with_reducible first | exact HB.out | apply below_alloc | apply pw_below_drewN | apply below_drew1) | exact HB.out)))); have n1_ := Aside0.mk (below_step (by repeat (first | (with_reducible first | exact HB.out | apply below_alloc | apply pw_below_drewN | apply below_drew1) | exact HB.out)) hb); clear HB; have HO181 := n0_; have HB := n1_; clear n0_ n1_; clear hb ho5; have hcv6 := own_string (P := Try.prog) Try.underlying39 Try.underlying5 Try.underlying9 (Kd.own_of_R HO181.out)))
    go_ret
    exact ⟨by first | rfl | (simp [errW_none, errW_some] <;> rfl) | (simp [*, errW_none, errW_some] <;> rfl), by repeat (first | (with_reducible first | exact HB.out | apply below_alloc | apply pw_below_drewN | apply below_drew1) | exact HB.out)⟩
  · replace c3 := Bool.eq_false_iff.mpr c3
    subst c3
    have H1 : (some (⟨#[]⟩ : ByteArray)) = some r := by rw [if_neg (show ¬ (false = true) by decide)] at H; exact H
    clear H
    have H := H1
    clear H1
    obtain rfl := Option.some.inj H
    go_enter Try.func57, Try.ntmps57
    go_wp2_with (first | ((with_reducible refine gate_callee (f := 56) rfl ?_); refine goesL_ (some 4) rfl rfl Try.func56 (by kernel_rfl) rfl #[.int .i64 a0, .int .i64 0, .int .i64 4294967295] rfl (by (try simp only [List.map_toArray, List.map_cons, List.map_nil]); first | done | rfl | (simp only [List.length_drop, List.length_take]; rfl)) ?_; (with_reducible refine (impl_within.calls a0 0 4294967295 false _ A2.out).mono ?_); rintro e w' ⟨rfl, ⟨nd, rfl⟩⟩; refine ⟨_, rfl, ?_⟩))
    go_ret
    exact ⟨by first | rfl | (simp [errW_none, errW_some] <;> rfl) | (simp [*, errW_none, errW_some] <;> rfl), by repeat (first | (with_reducible first | exact HB.out | apply below_alloc | apply pw_below_drewN | apply below_drew1) | exact HB.out)⟩

/-! ### impl_wordsText: function 80 -/
def impl_wordsText.l0 : Nat → ByteArray → List Int → Int → Int → Option (ByteArray)
  | 0, _, _, _, _ => none
  | k + 1, x3, x6, x7, x8 => if x8 < x7 then (if 0 ≤ x8 then (if x8 < (x6.length : Int) then ((impl_NumberText.f (rd x6 x8)).bind fun t183 => (if x3.size + t183.size ≤ 9223372036854775807 then (impl_wordsText.l0 k (x3 ++ t183) x6 x7 (wrap64 (x8 + 1))) else (none))) else (none)) else (none)) else (some x3)
def impl_wordsText.f (k : Nat) (l0 : List Int) : Option (ByteArray) := impl_wordsText.l0 k (⟨#[]⟩ : ByteArray) l0 (l0.length : Int) 0
theorem impl_wordsText.mono_l : ∀ k, (∀ y0 y1 y2 y3, LeO (impl_wordsText.l0 k y0 y1 y2 y3) (impl_wordsText.l0 (k + 1) y0 y1 y2 y3))
  | 0 => fun _ _ _ _ r h => by simp [impl_wordsText.l0] at h
  | k + 1 => by
    have ih0 := impl_wordsText.mono_l k
    · intro y0 y1 y2 y3
      unfold impl_wordsText.l0
      repeat' first
      | (with_reducible exact ih0 _ _ _ _)
      | (with_reducible exact LeO.refl _)
      | (with_reducible exact LeO.none _)
      | (with_reducible refine LeO.ite ?_ ?_)
      | (with_reducible refine LeO.bind ?_ (fun _ => ?_))
      | exact ih0 _ _ _ _
      | exact LeO.none _
      | refine LeO.ite ?_ ?_
      | refine LeO.bind ?_ (fun _ => ?_)
theorem impl_wordsText.mono : ∀ a0 k, LeO (impl_wordsText.f k a0) (impl_wordsText.f (k + 1) a0) := by
  intro a0 k
  have ih0 := impl_wordsText.mono_l k
  unfold impl_wordsText.f
  repeat' first
      | (with_reducible exact ih0 _ _ _ _)
      | (with_reducible exact LeO.refl _)
      | (with_reducible exact LeO.none _)
      | (with_reducible refine LeO.ite ?_ ?_)
      | (with_reducible refine LeO.bind ?_ (fun _ => ?_))
      | exact ih0 _ _ _ _
      | exact LeO.none _
      | refine LeO.ite ?_ ?_
      | refine LeO.bind ?_ (fun _ => ?_)
set_option maxHeartbeats 8000000 in
set_option maxRecDepth 100000 in
theorem impl_wordsText.calls (k : Nat) (A0 : Option Addr) (c0 : Nat) (l0 : List Int) (r : ByteArray) (w : World) (hr0 : Kd.C (Kd.int .i64) w A0 l0.length l0) (hc0 : l0.length ≤ c0) (h : impl_wordsText.f k l0 = some r) :
    Calls Try.prog 80 #[.slice A0 l0.length c0] w fun e w' => e = .returned (.string r) ∧ Below w.heap.size w w' := by
  have HR0 := Aside0.mk hr0
  have HC0 := Aside0.mk hc0
  clear hr0 hc0
  have HB := Aside0.mk (Below.refl w.heap.size w)
  have H : (impl_wordsText.l0 k (⟨#[]⟩ : ByteArray) l0 (l0.length : Int) 0) = some r := h
  clear h
  have H' := Aside0.mk H
  clear H
  go_enter Try.func80, Try.ntmps80
  go_wp2
  go_loopg [3, 8] k (fun kq v3 v8 w' => ∃ (x3_1 : ByteArray) (x8_1 : Int), v3 = .string x3_1 ∧ v8 = .int .i64 x8_1 ∧ Aside0 (impl_wordsText.l0 kq x3_1 l0 (l0.length : Int) x8_1 = some r) ∧ Aside0 (kq ≤ k) ∧ Aside0 (Below w.heap.size w w'))
  case atStart => exact ⟨((⟨#[]⟩ : ByteArray)), (0), (by first | rfl | (simp; done) | (simp [*]; done)), (by first | rfl | (simp; done) | (simp [*]; done)), H', ⟨Nat.le_refl _⟩, ⟨by repeat (first | (with_reducible first | exact HB.out | apply below_alloc | apply pw_below_drewN | apply below_drew1) | exact HB.out)⟩⟩
  case round =>
    clear H'
    obtain ⟨x3_1, x8_1, rfl, rfl, HA, HK1, HB⟩ := hrel
    cases gk with
    | zero => exact absurd HA.out (by simp [impl_wordsText.l0])
    | succ k1 =>
      have H := HA.out
      clear HA
      simp only [impl_wordsText.l0] at H
      by_cases c2 : x8_1 < (l0.length : Int)
      · rw [if_pos c2] at H
        have c2b0 : decide (x8_1 < (l0.length : Int)) = true := decide_eq_true c2
        clear c2
        by_cases c3 : 0 ≤ x8_1
        · rw [if_pos c3] at H
          have c3b0 : decide (0 ≤ x8_1) = true := decide_eq_true c3
          clear c3
          by_cases c4 : x8_1 < (l0.length : Int)
          · rw [if_pos c4] at H
            have c4b0 : decide (x8_1 < (l0.length : Int)) = true := decide_eq_true c4
            clear c4
            replace H := Option.bind_eq_some_iff.mp H
            obtain ⟨t183, A50, H⟩ := H
            replace H : (if x3_1.size + t183.size ≤ 9223372036854775807 then (impl_wordsText.l0 k1 (x3_1 ++ t183) l0 (l0.length : Int) (wrap64 (x8_1 + 1))) else (none)) = some r := H
            have A5 := Aside0.mk A50
            clear A50
            by_cases c6 : x3_1.size + t183.size ≤ 9223372036854775807
            · rw [if_pos c6] at H
              have c6b0 := eq_true c6
              have c6b1 : decide (x3_1.size + t183.size ≤ 9223372036854775807) = true := decide_eq_true c6
              try have c6b2 : (9223372036854775807 < x3_1.size + t183.size) = False := eq_false (Nat.not_lt.2 c6)
              have H' := Aside0.mk H
              clear H
              have p182 : 0 ≤ (x8_1 : Int) := of_decide_eq_true (by first | (with_reducible assumption) | assumption)
              have q182 : x8_1 < (l0.length : Int) := of_decide_eq_true (by first | (with_reducible assumption) | assumption)
              obtain ⟨ad182, e182, hx182_0⟩ := Kd.at_int HR0.out x8_1 p182 q182
              cases e182
              replace hx182_0 := (HB.out.cell (World.block_lt_of_cell? w _ hx182_0)).trans hx182_0
              replace p182 := eq_true p182
              replace q182 := eq_true q182
              go_wp2_with (first | ((with_reducible refine gate_callee (f := 57) rfl ?_); refine goesL_ (some 14) rfl rfl Try.func57 (by kernel_rfl) rfl #[.int .i64 (rd l0 x8_1)] rfl (by (try simp only [List.map_toArray, List.map_cons, List.map_nil]); first | done | rfl | (simp only [List.length_drop, List.length_take]; rfl)) ?_; (with_reducible refine (impl_NumberText.calls (rd l0 x8_1) t183 _ A5.out).mono ?_); rintro e w7 ⟨rfl, hb⟩; refine ⟨_, rfl, ?_⟩; have n0_ := Aside0.mk (below_step (by repeat (first | (with_reducible first | exact HB.out | apply below_alloc | apply pw_below_drewN | apply below_drew1) | exact HB.out)) hb); clear HB; have HB := n0_; clear n0_; (try clear hb); (try clear hb2); (try clear hk); (try clear hi)))
              go_roundg k1
              case measure => have := HK1.out; omega
              case rel => exact ⟨(x3_1 ++ t183), (wrap64 (x8_1 + 1)), (by first | rfl | (simp; done) | (simp [*]; done)), (by first | rfl | (simp; done) | (simp [*]; done)), H', ⟨by have := HK1.out; omega⟩, ⟨by repeat (first | (with_reducible first | exact HB.out | apply below_alloc | apply pw_below_drewN | apply below_drew1) | exact HB.out)⟩⟩
            · rw [if_neg c6] at H
              exact absurd H (by simp)
          · rw [if_neg c4] at H
            exact absurd H (by simp)
        · rw [if_neg c3] at H
          exact absurd H (by simp)
      · rw [if_neg c2] at H
        have c2b0 : decide (x8_1 < (l0.length : Int)) = false := decide_eq_false c2
        clear c2
        obtain rfl := Option.some.inj H
        go_wp2
        go_ret
        exact ⟨by first | rfl | (simp [errW_none, errW_some] <;> rfl) | (simp [*, errW_none, errW_some] <;> rfl), by repeat (first | (with_reducible first | exact HB.out | apply below_alloc | apply pw_below_drewN | apply below_drew1) | exact HB.out)⟩

/-! ### impl_constants: function 94 -/
def kTab : List Int := [1116352408, 1899447441, 3049323471, 3921009573, 961987163, 1508970993, 2453635748, 2870763221, 3624381080, 310598401, 607225278, 1426881987, 1925078388, 2162078206, 2614888103, 3248222580, 3835390401, 4022224774, 264347078, 604807628, 770255983, 1249150122, 1555081692, 1996064986, 2554220882, 2821834349, 2952996808, 3210313671, 3336571891, 3584528711, 113926993, 338241895, 666307205, 773529912, 1294757372, 1396182291, 1695183700, 1986661051, 2177026350, 2456956037, 2730485921, 2820302411, 3259730800, 3345764771, 3516065817, 3600352804, 4094571909, 275423344, 430227734, 506948616, 659060556, 883997877, 958139571, 1322822218, 1537002063, 1747873779, 1955562222, 2024104815, 2227730452, 2361852424, 2428436474, 2756734187, 3204031479, 3329325298]
def kArr : Array Value := (nums .i64 kTab).toArray
def kZero : Array Value := (List.replicate 64 (Value.int .i64 0)).toArray
theorem kArr_one : kArr.all (·.oneCell') = true := by kernel_rfl
theorem kZero_size : kZero.size = kArr.size := by kernel_rfl
theorem kArr_info : (Try.prog.info? 105).map (·.size) = some kArr.size := by kernel_rfl
theorem kTab_cell {W : World} {g : Nat} {t : TypeId} (h : W.heap[g]? = some (.cells kArr t (0, 0))) (i : Int) (h0 : 0 ≤ i) (h1 : i < 64) : W.cell? ⟨g, i.toNat, none⟩ = some (.int .i64 (rd kTab i)) := by
  have hl : i.toNat < kTab.length := by
    have e : kTab.length = 64 := by kernel_rfl
    omega
  rw [cell_of_row W g i.toNat kArr t (0, 0) h]
  unfold kArr rd nums
  simp [List.getD_eq_getElem?_getD, List.getElem?_eq_getElem hl]
theorem store_arr {P : Program} {ops : Array Oper} {rest : List Oper} {o : Oper} {a : Act} {w : World} {Q : Exit → Act → World → Prop} (hgd : o.guard = none) (ty : TypeId) (x y : Operand) (ho : o.op = .store ty x y)
    (g : Nat) (cells : Array Value) (hx : a.eval x = .pointer (some ⟨g, 0, none⟩)) (hy : a.eval y = .agg cells)
    (t : TypeId) (old : Array Value) (hg : w.heap[g]? = some (.cells old t (0, 0))) (hi : (P.info? ty).map (·.size) = some cells.size)
    (hold : old.size = cells.size) (h1 : cells.all (·.oneCell') = true) {B : Nat} {w0 : World} (hB : Below B w0 w) (hge : B ≤ g)
    (h : ∀ w1, w1.heap[g]? = some (.cells cells t (0, 0)) → Below B w0 w1 → wpList P ops Q rest (a.put o.dst undef) w1) : wpList P ops Q (o :: rest) a w := by
  refine wpList_store_row hgd ty x y ho g cells hx hy t old hg hi hold h1 (h _ (setRow_heap w g old cells t (0, 0) hg) ?_)
  exact ⟨hB.os, hB.tape, hB.output, by simpa using hB.size, fun i hi => (setRow_other w g i cells (by omega)).trans (hB.block i hi)⟩
def impl_constants.f : Option Unit := some ()
set_option maxHeartbeats 4000000 in
set_option maxRecDepth 100000 in
theorem impl_constants.calls (w : World) {r : Unit} (h : impl_constants.f = some r) :
    Calls Try.prog 94 #[] w fun e w' => e = .returned (.agg kArr) ∧ Below w.heap.size w w' := by
  have HB := Aside0.mk (Below.refl w.heap.size w)
  have hbuilt : Try.prog.built 105 [(0, .int .i64 1116352408), (1, .int .i64 1899447441), (2, .int .i64 3049323471), (3, .int .i64 3921009573), (4, .int .i64 961987163), (5, .int .i64 1508970993), (6, .int .i64 2453635748), (7, .int .i64 2870763221), (8, .int .i64 3624381080), (9, .int .i64 310598401), (10, .int .i64 607225278), (11, .int .i64 1426881987), (12, .int .i64 1925078388), (13, .int .i64 2162078206), (14, .int .i64 2614888103), (15, .int .i64 3248222580), (16, .int .i64 3835390401), (17, .int .i64 4022224774), (18, .int .i64 264347078), (19, .int .i64 604807628), (20, .int .i64 770255983), (21, .int .i64 1249150122), (22, .int .i64 1555081692), (23, .int .i64 1996064986), (24, .int .i64 2554220882), (25, .int .i64 2821834349), (26, .int .i64 2952996808), (27, .int .i64 3210313671), (28, .int .i64 3336571891), (29, .int .i64 3584528711), (30, .int .i64 113926993), (31, .int .i64 338241895), (32, .int .i64 666307205), (33, .int .i64 773529912), (34, .int .i64 1294757372), (35, .int .i64 1396182291), (36, .int .i64 1695183700), (37, .int .i64 1986661051), (38, .int .i64 2177026350), (39, .int .i64 2456956037), (40, .int .i64 2730485921), (41, .int .i64 2820302411), (42, .int .i64 3259730800), (43, .int .i64 3345764771), (44, .int .i64 3516065817), (45, .int .i64 3600352804), (46, .int .i64 4094571909), (47, .int .i64 275423344), (48, .int .i64 430227734), (49, .int .i64 506948616), (50, .int .i64 659060556), (51, .int .i64 883997877), (52, .int .i64 958139571), (53, .int .i64 1322822218), (54, .int .i64 1537002063), (55, .int .i64 1747873779), (56, .int .i64 1955562222), (57, .int .i64 2024104815), (58, .int .i64 2227730452), (59, .int .i64 2361852424), (60, .int .i64 2428436474), (61, .int .i64 2756734187), (62, .int .i64 3204031479), (63, .int .i64 3329325298)] = some kArr := by kernel_rfl
  go_enter Try.func94, Try.ntmps94
  go_wp2_with (first
    | ((with_reducible refine gate_dst (N := 0) rfl ?_); refine box_event ?hg (N := 0) ?hd (cs := kZero) (t := 105) ?hr ?_; (case hd => rfl); (case hg => rfl); (case hr => first | (go_simp; done) | (go_simp; rfl)); intro gb1 hg w1 hbox hb; have n0_ := Aside0.mk (below_step HB.out hb); have BK := Aside0.mk hbox; have GE := Aside0.mk (show w.heap.size ≤ gb1 from by rw [hg]; exact Nat.le_refl _); clear HB hbox hg hb; have HB := n0_; clear n0_)
    | ((with_reducible refine gate_store (t := 105) (p := 0) rfl ?_); refine wpList_store_row rfl 105 _ _ rfl gb1 kArr rfl rfl 105 kZero BK.out kArr_info kZero_size kArr_one ?_))
  refine bodyPost_ret (results_cell_row rfl _ _ gb1 105 kArr (0, 0) _ rfl (setRow_heap w1 gb1 kZero kArr 105 (0, 0) BK.out) Try.underlying105 rfl (by kernel_rfl)) rfl ⟨rfl, ?_⟩
  exact HB.out.trans ⟨rfl, rfl, rfl, by simp, fun i hi => setRow_other w1 gb1 i kArr (by have := GE.out; omega)⟩

/-! ### impl_ReadNumber: function 82 -/
def impl_ReadNumber.f (a0 : ByteArray) : Option (Int × Bool) := if (a0.size : Int) = 4 then (if 0 < (a0.size : Int) then (if 1 < (a0.size : Int) then (if 2 < (a0.size : Int) then (if 3 < (a0.size : Int) then (some (Go.bits .or .i64 (Go.bits .or .i64 (Go.bits .or .i64 (wrap64 ((wrap64 (bt a0 0)) * 16777216)) (wrap64 ((wrap64 (bt a0 1)) * 65536))) (wrap64 ((wrap64 (bt a0 2)) * 256))) (wrap64 (bt a0 3)), true)) else (none)) else (none)) else (none)) else (none)) else (some (0, false))
set_option maxHeartbeats 8000000 in
set_option maxRecDepth 100000 in
theorem impl_ReadNumber.calls (a0 : ByteArray) (r1 : Int) (r2 : Bool) (w : World) (h : impl_ReadNumber.f a0 = some (r1, r2)) :
    Calls Try.prog 82 #[.string a0] w fun e w' => e = .returned (.tuple #[.int .i64 r1, .bool r2]) ∧ Drawn0 w w' := by
  have H : (if (a0.size : Int) = 4 then (if 0 < (a0.size : Int) then (if 1 < (a0.size : Int) then (if 2 < (a0.size : Int) then (if 3 < (a0.size : Int) then (some (Go.bits .or .i64 (Go.bits .or .i64 (Go.bits .or .i64 (wrap64 ((wrap64 (bt a0 0)) * 16777216)) (wrap64 ((wrap64 (bt a0 1)) * 65536))) (wrap64 ((wrap64 (bt a0 2)) * 256))) (wrap64 (bt a0 3)), true)) else (none)) else (none)) else (none)) else (none)) else (some (0, false))) = some (r1, r2) := h
  clear h
  by_cases c2 : (a0.size : Int) = 4
  · rw [if_pos c2] at H
    have c2b0 : ((a0.size : Int) == 4) = true := beq_iff_eq.mpr c2
    have c2b1 : ((a0.size : Int) != 4) = false := bne_eq_false_iff_eq.mpr c2
    clear c2
    by_cases c3 : 0 < (a0.size : Int)
    · rw [if_pos c3] at H
      have c3b0 : decide (0 < (a0.size : Int)) = true := decide_eq_true c3
      have c3b1 : decide (0 < a0.size) = true := decide_eq_true (by omega)
      clear c3
      by_cases c5 : 1 < (a0.size : Int)
      · rw [if_pos c5] at H
        have c5b0 : decide (1 < (a0.size : Int)) = true := decide_eq_true c5
        have c5b1 : decide (1 < a0.size) = true := decide_eq_true (by omega)
        clear c5
        by_cases c7 : 2 < (a0.size : Int)
        · rw [if_pos c7] at H
          have c7b0 : decide (2 < (a0.size : Int)) = true := decide_eq_true c7
          have c7b1 : decide (2 < a0.size) = true := decide_eq_true (by omega)
          clear c7
          by_cases c9 : 3 < (a0.size : Int)
          · rw [if_pos c9] at H
            have c9b0 : decide (3 < (a0.size : Int)) = true := decide_eq_true c9
            have c9b1 : decide (3 < a0.size) = true := decide_eq_true (by omega)
            clear c9
            simp only [Option.some.injEq, Prod.mk.injEq] at H
            obtain ⟨rfl, rfl⟩ := H
            have p4 : 0 ≤ (0 : Int) := (by omega)
            have q4 : 0 < a0.size := (by have : (0 : Int) < (a0.size : Int) := of_decide_eq_true (by first | (with_reducible assumption) | assumption); omega)
            have hx4 : ∀ h : 0 < a0.size, ((a0[0]'h).toNat : Int) = bt a0 0 := bt_at a0 0
            clear p4
            have qi4 : (0 < (a0.size : Int)) = True := eq_true (of_decide_eq_true (by first | (with_reducible assumption) | assumption))
            replace q4 := eq_true q4
            have p6 : 0 ≤ (1 : Int) := (by omega)
            have q6 : 1 < a0.size := (by have : (1 : Int) < (a0.size : Int) := of_decide_eq_true (by first | (with_reducible assumption) | assumption); omega)
            have hx6 : ∀ h : 1 < a0.size, ((a0[1]'h).toNat : Int) = bt a0 1 := bt_at a0 1
            clear p6
            have qi6 : (1 < (a0.size : Int)) = True := eq_true (of_decide_eq_true (by first | (with_reducible assumption) | assumption))
            replace q6 := eq_true q6
            have p8 : 0 ≤ (2 : Int) := (by omega)
            have q8 : 2 < a0.size := (by have : (2 : Int) < (a0.size : Int) := of_decide_eq_true (by first | (with_reducible assumption) | assumption); omega)
            have hx8 : ∀ h : 2 < a0.size, ((a0[2]'h).toNat : Int) = bt a0 2 := bt_at a0 2
            clear p8
            have qi8 : (2 < (a0.size : Int)) = True := eq_true (of_decide_eq_true (by first | (with_reducible assumption) | assumption))
            replace q8 := eq_true q8
            have p10 : 0 ≤ (3 : Int) := (by omega)
            have q10 : 3 < a0.size := (by have : (3 : Int) < (a0.size : Int) := of_decide_eq_true (by first | (with_reducible assumption) | assumption); omega)
            have hx10 : ∀ h : 3 < a0.size, ((a0[3]'h).toNat : Int) = bt a0 3 := bt_at a0 3
            clear p10
            have qi10 : (3 < (a0.size : Int)) = True := eq_true (of_decide_eq_true (by first | (with_reducible assumption) | assumption))
            replace q10 := eq_true q10
            go_enter Try.func82, Try.ntmps82
            go_wp2
            repeat (go_quiet (fail); try go_wp2)
            go_ret2
            exact ⟨by first | rfl | (simp; done) | (simp [*]; done), by repeat (first | exact Drawn0.refl _ | apply Drawn0.step)⟩
          · rw [if_neg c9] at H
            exact absurd H (by simp)
        · rw [if_neg c7] at H
          exact absurd H (by simp)
      · rw [if_neg c5] at H
        exact absurd H (by simp)
    · rw [if_neg c3] at H
      exact absurd H (by simp)
  · rw [if_neg c2] at H
    have c2b0 : ((a0.size : Int) == 4) = false := beq_eq_false_iff_ne.mpr c2
    have c2b1 : ((a0.size : Int) != 4) = true := bne_iff_ne.mpr c2
    simp only [Option.some.injEq, Prod.mk.injEq] at H
    obtain ⟨rfl, rfl⟩ := H
    go_enter Try.func82, Try.ntmps82
    go_wp2
    repeat (go_quiet (fail); try go_wp2)
    go_ret2
    exact ⟨by first | rfl | (simp; done) | (simp [*]; done), by repeat (first | exact Drawn0.refl _ | apply Drawn0.step)⟩

end Go.Proofs.Ytbmedcifganklaa.PFnExactHashEnd
