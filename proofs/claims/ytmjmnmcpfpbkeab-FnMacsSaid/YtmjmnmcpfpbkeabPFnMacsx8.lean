-- Written by this session's program wip/myprint.py, after the kit's print.
import Derived.Test.YtmjmnmcpfpbkeabPFnMacsx0
import Derived.Test.YtmjmnmcpfpbkeabPFnMacsx4
import Derived.Test.YtmjmnmcpfpbkeabPFnMacsx5
import Derived.Test.YtmjmnmcpfpbkeabPFnMacsx6
import Derived.Test.YtmjmnmcpfpbkeabPFnMacsx7
namespace Go.Proofs.Ytmjmnmcpfpbkeab.PFnMacs
open Go.RowKit Go.Proofs.YtmjmnmcpfpbkeabW.PrintWords Go.Proofs.YtmjmnmcpfpbkeabW.PrintLast Go.Proofs.YtmjmnmcpfpbkeabW.PrintMore
attribute [local go_sem] max2_int min2_int max_two min_two max_three min_three max_four min_four   -- for this text's walks alone
set_option linter.unusedVariables false
set_option linter.unusedSimpArgs false
def spec_l04Bytes.l0 : Nat → List Int → List Int → Int → Option (ByteArray)
 | 0, _, _, _ => none
 | k + 1, x0, x3, x4 => if x4 < (x0.length : Int) then (if 0 ≤ x4 then ((some (([((Int.tdiv (rd x0 x4) 16777216) % 4294967296) % 256, ((Int.tdiv (rd x0 x4) 65536) % 4294967296) % 256, ((Int.tdiv (rd x0 x4) 256) % 4294967296) % 256, (Int.tmod (rd x0 x4) 256) % 256] : List Int) : List Int)).bind fun y338 => (if x3.length + y338.length < 140737488355328 then (spec_l04Bytes.l0 k x0 (x3 ++ y338) (wrap64 (x4 + 1))) else (none))) else (none)) else (some (strOfNums x3))
def spec_l04Bytes.f (k : Nat) (l0 : List Int) : Option (ByteArray) := spec_l04Bytes.l0 k l0 (([] : List Int)) 0
theorem spec_l04Bytes.mono_l : ∀ k, (∀ y0 y1 y2, LeO (spec_l04Bytes.l0 k y0 y1 y2) (spec_l04Bytes.l0 (k + 1) y0 y1 y2))
 | 0 => fun _ _ _ r h => by simp [spec_l04Bytes.l0] at h
 | k + 1 => by
  have ih0 := spec_l04Bytes.mono_l k
  ·
   intro y0 y1 y2
   unfold spec_l04Bytes.l0
   repeat' first
   | (with_reducible exact ih0 _ _ _)
   | (with_reducible exact LeO.refl _)
   | (with_reducible exact LeO.none _)
   | (with_reducible refine LeO.ite ?_ ?_)
   | (with_reducible refine LeO.bind ?_ (fun _ => ?_))
   | exact ih0 _ _ _
   | exact LeO.none _
   | refine LeO.ite ?_ ?_
   | refine LeO.bind ?_ (fun _ => ?_)
theorem spec_l04Bytes.mono : ∀ a0 k, LeO (spec_l04Bytes.f k a0) (spec_l04Bytes.f (k + 1) a0) := by
 intro a0 k
 have ih0 := spec_l04Bytes.mono_l k
 unfold spec_l04Bytes.f
 repeat' first
   | (with_reducible exact ih0 _ _ _)
   | (with_reducible exact LeO.refl _)
   | (with_reducible exact LeO.none _)
   | (with_reducible refine LeO.ite ?_ ?_)
   | (with_reducible refine LeO.bind ?_ (fun _ => ?_))
   | exact ih0 _ _ _
   | exact LeO.none _
   | refine LeO.ite ?_ ?_
   | refine LeO.bind ?_ (fun _ => ?_)
set_option maxHeartbeats 8000000 in
set_option maxRecDepth 100000 in
theorem spec_l04Bytes.calls (k : Nat) (A0 : Option Addr) (c0 : Nat) (l0 : List Int) (r : ByteArray) (w : World) (hr0 : Kd.C (Kd.int .u32) w A0 l0.length l0) (hc0 : l0.length ≤ c0) (h : spec_l04Bytes.f k l0 = some r) :
  Calls Try.prog 62 #[.slice A0 l0.length c0] w fun e w' => e = .returned (.string r) ∧ Below w.heap.size w w' := by
 have HR0 := Aside0.mk hr0
 have HC0 := Aside0.mk hc0
 clear hr0 hc0
 have HB := Aside0.mk (Below.refl w.heap.size w)
 have H : (spec_l04Bytes.l0 k l0 (([] : List Int)) 0) = some r := h
 clear h
 obtain ⟨y334, hy334⟩ : ∃ y_ : List Int, y_ = (([] : List Int)) := ⟨_, rfl⟩
 replace H : (spec_l04Bytes.l0 k l0 y334 0) = some r := by first | (rw [hy334]; with_reducible exact H) | (have H2_ := (Option.bind_some _ _).symm.trans H; rw [hy334]; with_reducible exact H2_) | (have H2_ := (Option.bind_some _ _).symm.trans H; with_reducible exact H2_) | with_reducible exact H | (rw [hy334]; exact H) | exact H
 have Ny334 := Aside0.mk hy334
 clear hy334
 have H' := Aside0.mk H
 clear H
 go_enter Try.func62, Try.ntmps62
 go_wp2_with (first | ((with_reducible refine gate_dst (N := 6) rfl ?_); refine Kd.R_lit (Kd.int .u8) _ 5 ?hg (N := 6) ?hd (xs := ([] : List Int)) (inner := []) (ok := fun _ => True) (okp := fun _ => True) ?hr ?hp (fun _ hk => hk) trivial (Below.refl _ _) (Nat.le_refl _) (by simp) ?_; (case hd => rfl); (case hg => rfl); (case hr => first | (go_simp; done) | (go_simp; rfl)); (case hp => exact (Reps.none _ _)); intro v335 w2 ho3 hb hg_ hnew_; clear hg_ hnew_; (first | rw [← Ny334.out] at ho3 | (simp only [Int.reduceToNat] at ho3; rw [← Ny334.out] at ho3)); have n0_ := Aside0.mk (Kd.R_lower ho3 (below_size (by repeat (first | (with_reducible first | exact HB.out | apply below_alloc | apply pw_below_drewN | apply below_drew1) | exact HB.out)))); have n1_ := Aside0.mk (below_step (by repeat (first | (with_reducible first | exact HB.out | apply below_alloc | apply pw_below_drewN | apply below_drew1) | exact HB.out)) hb); clear HB; have HO336 := n0_; have HB := n1_; clear n0_ n1_; clear hb ho3))
 go_loopg [3, 4] k (fun kq v3 v4 w' => ∃ (x3_1 : List Int) (x4_1 : Int), v4 = .int .i64 x4_1 ∧ Aside0 (spec_l04Bytes.l0 kq l0 x3_1 x4_1 = some r) ∧ Aside0 (kq ≤ k) ∧ Aside0 (Kd.R (Kd.int .u8) 5 w' w.heap.size (fun _ => True) v3 x3_1) ∧ Aside0 (Below w.heap.size w w'))
 case atStart => exact ⟨(y334), (0), (by first | rfl | (simp; done) | (simp [*]; done)), H', ⟨Nat.le_refl _⟩, ⟨by (with_reducible repeat (first | apply Kd.R_alloc | apply Kd.R_drewN | apply Kd.R_drew)); exact HO336.out⟩, ⟨by repeat (first | (with_reducible first | exact HB.out | apply below_alloc | apply pw_below_drewN | apply below_drew1) | exact HB.out)⟩⟩
 case round =>
  clear H'
  try clear p2
  obtain ⟨x3_1, x4_1, rfl, HA, HK1, HO_3, HB⟩ := hrel
  cases gk with
  | zero => exact absurd HA.out (by simp [spec_l04Bytes.l0])
  | succ k1 =>
   have H := HA.out
   clear HA
   simp only [spec_l04Bytes.l0] at H
   by_cases c4 : x4_1 < (l0.length : Int)
   ·
    rw [if_pos c4] at H
    have c4b0 : decide (x4_1 < (l0.length : Int)) = true := decide_eq_true c4
    clear c4
    by_cases c5 : 0 ≤ x4_1
    ·
     rw [if_pos c5] at H
     have c5b0 : decide (0 ≤ x4_1) = true := decide_eq_true c5
     clear c5
     obtain ⟨y338, hy338⟩ : ∃ y_ : List Int, y_ = (([((Int.tdiv (rd l0 x4_1) 16777216) % 4294967296) % 256, ((Int.tdiv (rd l0 x4_1) 65536) % 4294967296) % 256, ((Int.tdiv (rd l0 x4_1) 256) % 4294967296) % 256, (Int.tmod (rd l0 x4_1) 256) % 256] : List Int)) := ⟨_, rfl⟩
     replace H : (if x3_1.length + y338.length < 140737488355328 then (spec_l04Bytes.l0 k1 l0 (x3_1 ++ y338) (wrap64 (x4_1 + 1))) else (none)) = some r := by first | (rw [hy338]; with_reducible exact H) | (have H2_ := (Option.bind_some _ _).symm.trans H; rw [hy338]; with_reducible exact H2_) | (have H2_ := (Option.bind_some _ _).symm.trans H; with_reducible exact H2_) | with_reducible exact H | (rw [hy338]; exact H) | exact H
     have Ny338 := Aside0.mk hy338
     clear hy338
     by_cases c6 : x3_1.length + y338.length < 140737488355328
     ·
      rw [if_pos c6] at H
      have LMc6 := Aside0.mk c6
      clear c6
      obtain ⟨y341, hy341⟩ : ∃ y_ : List Int, y_ = (x3_1 ++ y338) := ⟨_, rfl⟩
      replace H : (spec_l04Bytes.l0 k1 l0 y341 (wrap64 (x4_1 + 1))) = some r := by first | (rw [hy341]; with_reducible exact H) | (have H2_ := (Option.bind_some _ _).symm.trans H; rw [hy341]; with_reducible exact H2_) | (have H2_ := (Option.bind_some _ _).symm.trans H; with_reducible exact H2_) | with_reducible exact H | (rw [hy341]; exact H) | exact H
      have Ny341 := Aside0.mk hy341
      clear hy341
      have H' := Aside0.mk H
      clear H
      have p337 : 0 ≤ (x4_1 : Int) := of_decide_eq_true (by first | (with_reducible assumption) | assumption)
      have q337 : x4_1 < (l0.length : Int) := of_decide_eq_true (by first | (with_reducible assumption) | assumption)
      obtain ⟨ad337, e337, hx337_0⟩ := Kd.at_int HR0.out x4_1 p337 q337
      cases e337
      replace hx337_0 := (HB.out.cell (World.block_lt_of_cell? w _ hx337_0)).trans hx337_0
      replace p337 := eq_true p337
      replace q337 := eq_true q337
      go_wp2_with (first | ((with_reducible refine gate_dst (N := 32) rfl ?_); refine Kd.R_lit (Kd.int .u8) _ 5 ?hg (N := 32) ?hd (xs := ([((Int.tdiv (rd l0 x4_1) 16777216) % 4294967296) % 256, ((Int.tdiv (rd l0 x4_1) 65536) % 4294967296) % 256, ((Int.tdiv (rd l0 x4_1) 256) % 4294967296) % 256, (Int.tmod (rd l0 x4_1) 256) % 256] : List Int)) (inner := [.int .u8 (((Int.tdiv (rd l0 x4_1) 16777216) % 4294967296) % 256), .int .u8 (((Int.tdiv (rd l0 x4_1) 65536) % 4294967296) % 256), .int .u8 (((Int.tdiv (rd l0 x4_1) 256) % 4294967296) % 256), .int .u8 ((Int.tmod (rd l0 x4_1) 256) % 256)]) (ok := fun _ => True) (okp := fun _ => True) ?hr ?hp (fun _ hk => hk) trivial (Below.refl _ _) (Nat.le_refl _) (by simp) ?_; (case hd => rfl); (case hg => rfl); (case hr => first | (go_simp; done) | (go_simp; rfl)); (case hp => exact (Reps.one (show Kd.M (Kd.int .u8) _ _ _ (((Int.tdiv (rd l0 x4_1) 16777216) % 4294967296) % 256) [.int .u8 (((Int.tdiv (rd l0 x4_1) 16777216) % 4294967296) % 256)] from rfl) (Reps.one (show Kd.M (Kd.int .u8) _ _ _ (((Int.tdiv (rd l0 x4_1) 65536) % 4294967296) % 256) [.int .u8 (((Int.tdiv (rd l0 x4_1) 65536) % 4294967296) % 256)] from rfl) (Reps.one (show Kd.M (Kd.int .u8) _ _ _ (((Int.tdiv (rd l0 x4_1) 256) % 4294967296) % 256) [.int .u8 (((Int.tdiv (rd l0 x4_1) 256) % 4294967296) % 256)] from rfl) (Reps.one (show Kd.M (Kd.int .u8) _ _ _ ((Int.tmod (rd l0 x4_1) 256) % 256) [.int .u8 ((Int.tmod (rd l0 x4_1) 256) % 256)] from rfl) (Reps.none _ _)))))); intro v339 w7 ho8 hb hg_ hnew_; clear hg_ hnew_; (first | rw [← Ny338.out] at ho8 | (simp only [Int.reduceToNat] at ho8; rw [← Ny338.out] at ho8)); have n0_ := Aside0.mk (Kd.R_elder' (by (with_reducible repeat (first | apply Kd.R_alloc | apply Kd.R_drewN | apply Kd.R_drew)); exact HO_3.out) (Kd.R_base ho8) hb); have n1_ := Aside0.mk (Kd.R_lower (Kd.R_new' ho8 (Kd.R_lt (by (with_reducible repeat (first | apply Kd.R_alloc | apply Kd.R_drewN | apply Kd.R_drew)); exact HO_3.out))) (below_size (by repeat (first | (with_reducible first | exact HB.out | apply below_alloc | apply pw_below_drewN | apply below_drew1) | exact HB.out)))); have n2_ := Aside0.mk (below_step (by repeat (first | (with_reducible first | exact HB.out | apply below_alloc | apply pw_below_drewN | apply below_drew1) | exact HB.out)) hb); clear HO_3; clear HB; have HO_3 := n0_; have HO340 := n1_; have HB := n2_; clear n0_ n1_ n2_; clear hb ho8; obtain ⟨Ao10, co10, eo10⟩ := Kd.R_slice HO340.out; subst eo10) | ((with_reducible refine gate_builtin (b := .append) (xs := #[.tmp 17, .tmp 32]) rfl ?_); at_builtin; refine Kd.R_append_rows (Kd.int .u8) (w0 := w) w.heap.size rfl (.tmp 17) (.tmp 32) 27 5 (.int .u8 0) 1 rfl Try.underlying27 info5 rfl (by decide) (by omega) u3 x3_1 y338 _ _ _ (fun k_ => some k_ ≠ (.slice Ao10 y338.length co10 : Value).ownBlock) (fun _ => False) rfl rfl ?aO ?aR (fun _ _ h => h) (fun _ h => h.elim) ?aF ?aB ?aS ?aL ?_; (case aR => repeat (first | exact (Kd.R_reads' HO340.out).2.2 | (with_reducible refine Kd.C_alloc ?_ _) | (with_reducible refine Kd.C_drewN ?_ _) | (with_reducible refine Kd.C_drew ?_))); (case aB => exact (by repeat (first | (with_reducible first | exact HB.out | apply below_alloc | apply pw_below_drewN | apply below_drew1) | exact HB.out))); (case aF => exact (fun k_ hk => Kd.fresh' (Kd.R_lt (by (with_reducible repeat (first | apply Kd.R_alloc | apply Kd.R_drewN | apply Kd.R_drew)); exact HO340.out)) k_ hk)); (case aO => exact (by (with_reducible repeat (first | apply Kd.R_alloc | apply Kd.R_drewN | apply Kd.R_drew)); exact Kd.R_mono HO_3.out (fun _ hk => hk.2))); (case aS => exact (below_size (by repeat (first | (with_reducible first | exact HB.out | apply below_alloc | apply pw_below_drewN | apply below_drew1) | exact HB.out)))); (case aL => have := LMc6.out; omega); intro v342 w9 ho hb hg hat; rw [← Ny341.out] at ho; have n0_ := Aside0.mk (Kd.R_after (ok := (fun _ => True)) (by (with_reducible repeat (first | apply Kd.R_alloc | apply Kd.R_drewN | apply Kd.R_drew)); exact HO340.out) hg hat); have n1_ := Aside0.mk (hb); have n2_ := Aside0.mk (ho); clear HO340; clear HB; clear HO_3; have HO340 := n0_; have HB := n1_; have HO343 := n2_; clear n0_ n1_ n2_; clear ho hb hg hat))
      go_roundg k1
      case measure => have := HK1.out; omega
      case rel => exact ⟨(y341), (wrap64 (x4_1 + 1)), (by first | rfl | (simp; done) | (simp [*]; done)), H', ⟨by have := HK1.out; omega⟩, ⟨by (with_reducible repeat (first | apply Kd.R_alloc | apply Kd.R_drewN | apply Kd.R_drew)); exact Kd.R_mono HO343.out (fun _ hk => trivial)⟩, ⟨by repeat (first | (with_reducible first | exact HB.out | apply below_alloc | apply pw_below_drewN | apply below_drew1) | exact HB.out)⟩⟩
     ·
      rw [if_neg c6] at H
      exact absurd H (by simp)
    ·
     rw [if_neg c5] at H
     exact absurd H (by simp)
   ·
    rw [if_neg c4] at H
    have c4b0 : decide (x4_1 < (l0.length : Int)) = false := decide_eq_false c4
    clear c4
    obtain rfl := Option.some.inj H
    have hcv11 := own_string (P := Try.prog) Try.underlying27 Try.underlying5 Try.underlying9 (Kd.own_of_R HO_3.out)
    go_wp2
    go_ret
    exact ⟨by first | rfl | (simp [errW_none, errW_some] <;> rfl) | (simp [*, errW_none, errW_some] <;> rfl), by repeat (first | (with_reducible first | exact HB.out | apply below_alloc | apply pw_below_drewN | apply below_drew1) | exact HB.out)⟩
def heByte (b : Int) (m : Nat) : Int := b / 256 ^ (7 - m) % 256
def heLen (b : Int) : List Int := (List.range 8).map (heByte b)
def heBase (r : ByteArray) : List Int := bytesOf r ++ [128]
def heTail (r : ByteArray) (c : Int) : List Int := heBase r ++ List.replicate ((119 - r.size) % 64) 0 ++ heLen (8 * c)
def spec_HashEnd.l0 : Nat → List Int → List Int → List Int → Int → Option ByteArray
 | 0, _, _, _, _ => none
 | k + 1, T, st, ks, i => if i < (T.length : Int) then (if 0 ≤ i ∧ i + 64 ≤ (T.length : Int) then ((spec_l04Round.f k st ks (strOfNums ((T.take (i + 64).toNat).drop i.toNat))).bind fun st' => spec_HashEnd.l0 k T st' ks (i + 64)) else none) else (spec_l04Bytes.f k st)
def spec_HashEnd.f (k : Nat) (a0_0 : ByteArray) (a0_1 : ByteArray) (a0_2 : Int) : Option ByteArray :=
 (spec_HasherOk.f a0_0 a0_1 a0_2).bind fun b => if b = true then (if a0_1.size < 64 ∧ 0 ≤ a0_2 ∧ a0_2 ≤ 1000000000 then ((spec_l04Words.f k a0_0).bind fun st => (spec_l04K.f).bind fun ks => spec_HashEnd.l0 k (heTail a0_1 a0_2) st ks 0) else none) else some ⟨#[]⟩
theorem spec_HashEnd.mono_l : ∀ k T st ks i, LeO (spec_HashEnd.l0 k T st ks i) (spec_HashEnd.l0 (k + 1) T st ks i)
 | 0, T, st, ks, i => fun r h => by simp [spec_HashEnd.l0] at h
 | k + 1, T, st, ks, i => by
  rw [spec_HashEnd.l0, spec_HashEnd.l0]
  exact LeO.ite (LeO.ite (LeO.bind (spec_l04Round.mono _ _ _ _) (fun _ => spec_HashEnd.mono_l k _ _ _ _)) (LeO.none _)) (spec_l04Bytes.mono _ _)
theorem spec_HashEnd.mono : ∀ a0 a1 a2 k, LeO (spec_HashEnd.f k a0 a1 a2) (spec_HashEnd.f (k + 1) a0 a1 a2) := by
 intro a0 a1 a2 k
 unfold spec_HashEnd.f
 refine LeO.bind (LeO.refl _) (fun b => LeO.ite (LeO.ite (LeO.bind (spec_l04Words.mono _ _) (fun st => LeO.bind (LeO.refl _) (fun ks => spec_HashEnd.mono_l k _ _ _ _))) (LeO.none _)) (LeO.refl _))
theorem heLen_take (b : Int) (m : Nat) (h : m < 8) : (heLen b).take (m + 1) = (heLen b).take m ++ [heByte b m] := by
 unfold heLen
 rw [List.take_succ_eq_append_getElem (by simpa using h)]
 simp
set_option maxHeartbeats 8000000 in
set_option maxRecDepth 100000 in
theorem spec_HashEnd.calls (k : Nat) (a0_0 : ByteArray) (a0_1 : ByteArray) (a0_2 : Int) (r : ByteArray) (w : World) (h : spec_HashEnd.f k a0_0 a0_1 a0_2 = some r) :
  Calls Try.prog 43 #[.agg #[.string a0_0, .string a0_1, .int .i64 a0_2]] w fun e w' => e = .returned (.string r) ∧ Below w.heap.size w w' := by
 have huT := Try.underlying39
 have HB := Aside0.mk (Below.refl w.heap.size w)
 unfold spec_HashEnd.f at h
 obtain ⟨b, hb0, h⟩ := Option.bind_eq_some_iff.mp h
 have A1 := Aside0.mk hb0
 clear hb0
 cases b
 ·
  simp only [Bool.false_eq_true, if_false] at h
  obtain rfl := Option.some.inj h
  clear h
  go_enter Try.func43, Try.ntmps43
  go_wp2_with (first
   | ((with_reducible refine gate_dst (N := 1) rfl ?_); refine box_event ?hg (N := 1) ?hd (cs := #[.string a0_0, .string a0_1, .int .i64 a0_2]) (t := 39) ?hr ?_; (case hd => rfl); (case hg => rfl); (case hr => first | (go_simp; done) | (go_simp; rfl)); intro gb hg w1 hbox hb; have n0_ := Aside0.mk (below_step HB.out hb); have BK := Aside0.mk hbox; have GE := Aside0.mk (show w.heap.size ≤ gb from by rw [hg]; exact Nat.le_refl _); clear HB hbox hg hb; have HB := n0_; clear n0_; have hz0 := blk_cell BK.out 0; have hz1 := blk_cell BK.out 1; have hz2 := blk_cell BK.out 2; simp only [List.getElem?_toArray, List.getElem?_cons_zero, List.getElem?_cons_succ] at hz0 hz1 hz2)
   | (go_at_call 58; (with_reducible refine (spec_HasherOk.calls a0_0 a0_1 a0_2 false _ A1.out).mono ?_); rintro e w2 ⟨rfl, hb⟩; have n0_ := Aside0.mk (below_step HB.out hb); clear HB; have HB := n0_; clear n0_ hb))
  go_ret
  exact ⟨by first | rfl | (simp; done), HB.out⟩
 ·
  rw [if_pos rfl] at h
  by_cases hb0 : a0_1.size < 64 ∧ 0 ≤ a0_2 ∧ a0_2 ≤ 1000000000
  case neg => rw [if_neg hb0] at h; cases h
  rw [if_pos hb0] at h
  obtain ⟨hb1, hb2, hb3⟩ := hb0
  obtain ⟨st, A20, h⟩ := Option.bind_eq_some_iff.mp h
  obtain ⟨ks, A30, h⟩ := Option.bind_eq_some_iff.mp h
  have A2 := Aside0.mk A20
  have A3 := Aside0.mk A30
  have H := Aside0.mk h
  clear A20 A30 h
  have kb := fun W => print_bytes (P := Try.prog) 9 27 5 Try.underlying9 Try.underlying27 Try.underlying5 a0_1 W
  go_enter Try.func43, Try.ntmps43
  go_wp2_with (first
   | ((with_reducible refine gate_dst (N := 1) rfl ?_); refine box_event ?hg (N := 1) ?hd (cs := #[.string a0_0, .string a0_1, .int .i64 a0_2]) (t := 39) ?hr ?_; (case hd => rfl); (case hg => rfl); (case hr => first | (go_simp; done) | (go_simp; rfl)); intro gb hg w1 hbox hb; have n0_ := Aside0.mk (below_step HB.out hb); have BK := Aside0.mk hbox; have GE := Aside0.mk (show w.heap.size ≤ gb from by rw [hg]; exact Nat.le_refl _); clear HB hbox hg hb; have HB := n0_; clear n0_; have hz0 := blk_cell BK.out 0; have hz1 := blk_cell BK.out 1; have hz2 := blk_cell BK.out 2; simp only [List.getElem?_toArray, List.getElem?_cons_zero, List.getElem?_cons_succ] at hz0 hz1 hz2)
   | (go_at_call 58; (with_reducible refine (spec_HasherOk.calls a0_0 a0_1 a0_2 true _ A1.out).mono ?_); rintro e w2 ⟨rfl, hb⟩; have n0_ := Aside0.mk (below_step HB.out hb); have n1_ := Aside0.mk (blk_below BK.out hb); clear HB BK hz0 hz1 hz2; have HB := n0_; have BK := n1_; clear n0_ n1_ hb; have hz0 := blk_cell BK.out 0; have hz1 := blk_cell BK.out 1; have hz2 := blk_cell BK.out 2; simp only [List.getElem?_toArray, List.getElem?_cons_zero, List.getElem?_cons_succ] at hz0 hz1 hz2)
   | (at_builtin; refine append_M rfl _ _ 27 5 rfl Try.underlying27 (by kernel_rfl) w2.heap.size (grownCap w2 a0_1.size 0 5) a0_1.size (bytesOf a0_1) 128 (bytesOf_length a0_1).symm rfl rfl (MRow.conv w2 5 a0_1) (grownCap_le_maxLen _ _ _ _ (by unfold maxLen; omega)) (bytes_below HB.out HB.out.size 5 a0_1) HB.out.size (by rw [Lib.bytesWorld_size]; have := HB.out.size; omega) (by omega) ?_; intro g cap w3 hM hcap hge hB hk hor; have n1_ := Aside0.mk ((hk gb (by rw [Lib.bytesWorld_size]; have := blk_lt BK.out; omega) (by have := blk_lt BK.out; omega)).trans ((Lib.bytesWorld_at_old w2 5 a0_1 gb (blk_lt BK.out)).trans BK.out)); have n2_ := Aside0.mk (show gb ≠ g from by have := blk_lt BK.out; rw [Lib.bytesWorld_size] at hor; omega); clear hk hor HB BK hz0 hz1 hz2 kb; have HB := Aside0.mk hB; have BK := n1_; have HN := n2_; have HM := Aside0.mk hM; have HC := Aside0.mk hcap; have HG := Aside0.mk hge; clear hB n1_ n2_ hM hcap hge))
  obtain ⟨Z, hZ⟩ : ∃ Z, Z = (119 - a0_1.size) % 64 := ⟨_, rfl⟩
  have hl0 := bytesOf_length a0_1
  go_loopg [3] Z (fun kq v3 w' => ∃ (j g' cap' : Nat), j + kq = Z ∧ v3 = .slice (some ⟨g', 0, none⟩) (a0_1.size + 1 + j) cap' ∧ Aside0 (MRow w' g' 5 cap' (heBase a0_1 ++ List.replicate j 0)) ∧ Aside0 (cap' ≤ maxLen) ∧ Aside0 (w.heap.size ≤ g') ∧ Aside0 (gb ≠ g') ∧ Aside0 (w'.heap[gb]? = some (.cells #[.string a0_0, .string a0_1, .int .i64 a0_2] 39)) ∧ Aside0 (Below w.heap.size w w'))
  case atStart => exact ⟨0, g, cap, by omega, rfl, ⟨by simpa [heBase] using HM.out⟩, HC, HG, HN, BK, HB⟩
  case round =>
   clear HB BK HN HM HC HG
   obtain ⟨j, g', cap', hj, rfl, HM, HC, HG, HN, BK, HB⟩ := hrel
   by_cases hlt : j < Z
   ·
    obtain ⟨k1, rfl⟩ : ∃ k1, gk = k1 + 1 := ⟨gk - 1, by omega⟩
    have hd1 : ((((a0_1.size : Int) + 1 + (j : Int)) % 64) != 56) = true := by
     rw [bne_iff_ne]
     omega
    have hln := Aside0.mk <| show a0_1.size + 1 + j = (heBase a0_1 ++ List.replicate j 0).length from by
     unfold heBase
     simp only [List.length_append, List.length_replicate, List.length_singleton]
     omega
    go_wp2_with (first
     | (at_builtin; refine append_M rfl _ _ 27 5 rfl Try.underlying27 (by kernel_rfl) g' cap' (a0_1.size + 1 + j) (heBase a0_1 ++ List.replicate j 0) 0 hln.out rfl rfl HM.out HC.out HB.out HG.out HB.out.size (by omega) ?_; intro g2 cap2 w4 hM hcap hge hB hk hor; have n1_ := Aside0.mk ((hk gb (blk_lt BK.out) HN.out).trans BK.out); have n2_ := Aside0.mk (show gb ≠ g2 from by have := blk_lt BK.out; have := HN.out; omega); clear hk hor HB BK HM HC HG HN; have HB := Aside0.mk hB; have BK := n1_; have HN := n2_; have HM := Aside0.mk (show MRow w4 g2 5 cap2 (heBase a0_1 ++ List.replicate (j + 1) 0) from by rw [List.replicate_succ', ← List.append_assoc]; exact hM); have HC := Aside0.mk hcap; have HG := Aside0.mk hge; clear hB n1_ n2_ hM hcap hge))
    go_roundg k1
    case measure => omega
    case rel => exact ⟨j + 1, g2, cap2, by omega, rfl, HM, HC, HG, HN, BK, HB⟩
   ·
    have hd1 : ((((a0_1.size : Int) + 1 + (j : Int)) % 64) != 56) = false := by
     rw [bne_eq_false_iff_eq]
     omega
    obtain rfl : j = Z := by omega
    have hz0 := blk_cell BK.out 0; have hz1 := blk_cell BK.out 1; have hz2 := blk_cell BK.out 2; simp only [List.getElem?_toArray, List.getElem?_cons_zero, List.getElem?_cons_succ] at hz0 hz1 hz2
    obtain ⟨L0, hL0⟩ : ∃ L0, L0 = heBase a0_1 ++ List.replicate j 0 := ⟨_, rfl⟩
    have hL0l : L0.length = a0_1.size + 1 + j := by
     rw [hL0]
     unfold heBase
     simp only [List.length_append, List.length_replicate, List.length_singleton]
     omega
    have HL0 := Aside0.mk hL0
    have HL0l := Aside0.mk hL0l
    have HM1 := Aside0.mk (show MRow wr g' 5 cap' L0 from by rw [hL0]; exact HM.out)
    have HJ := Aside0.mk (show a0_1.size + 1 + j ≤ 150 from by omega)
    have HH := Aside0.mk (⟨hb1, hb2, hb3⟩ : a0_1.size < 64 ∧ 0 ≤ a0_2 ∧ a0_2 ≤ 1000000000)
    have HHj := Aside0.mk hZ
    clear HM hL0 hL0l hlt hj hl0 hZ
    go_wp2
    clear hd1
    go_loopg [3, 5] 8 (fun kq v3 v5 w' => ∃ (m g' cap' : Nat), m + kq = 8 ∧ v3 = .slice (some ⟨g', 0, none⟩) (a0_1.size + 1 + j + m) cap' ∧ v5 = .int .i64 (7 - (m : Int)) ∧ Aside0 (MRow w' g' 5 cap' (L0 ++ (heLen (8 * a0_2)).take m)) ∧ Aside0 (cap' ≤ maxLen) ∧ Aside0 (w.heap.size ≤ g') ∧ Aside0 (gb ≠ g') ∧ Aside0 (w'.heap[gb]? = some (.cells #[.string a0_0, .string a0_1, .int .i64 a0_2] 39)) ∧ Aside0 (Below w.heap.size w w'))
    case atStart => exact ⟨0, g', cap', by omega, rfl, rfl, ⟨by simpa using HM1.out⟩, HC, HG, HN, BK, HB⟩
    case round =>
     clear HM1 HC HG HN BK HB hz0 hz1 hz2
     obtain ⟨m, g1, cap1, hm, rfl, rfl, HM, HC, HG, HN, BK, HB⟩ := hrel
     by_cases hlt : m < 8
     ·
      obtain ⟨k1, rfl⟩ : ∃ k1, gk = k1 + 1 := ⟨gk - 1, by omega⟩
      have hd1 : decide ((7 - (m : Int)) ≥ 0) = true := decide_eq_true (by omega)
      go_wp2
      go_loopg [6, 7] (7 - m) (fun kq v6 v7 w' => ∃ q : Nat, q + kq = 7 - m ∧ v6 = .int .i64 (8 * a0_2 / 256 ^ q) ∧ v7 = .int .i64 (q : Int) ∧ w' = wr)
      case atStart => exact ⟨0, by omega, by simp, rfl, rfl⟩
      case round =>
       obtain ⟨q, hq, rfl, rfl, rfl⟩ := hrel
       by_cases hlt2 : q < 7 - m
       ·
        obtain ⟨k2, rfl⟩ : ∃ k2, gk = k2 + 1 := ⟨gk - 1, by omega⟩
        have hd2 : decide ((q : Int) < 7 - (m : Int)) = true := decide_eq_true (by omega)
        have hp : 0 ≤ 8 * a0_2 / 256 ^ q := Int.ediv_nonneg (by have := HH.out; omega) (by exact_mod_cast Nat.zero_le _)
        go_wp2
        go_roundg k2
        case measure => omega
        case rel => exact ⟨q + 1, by omega, by rw [show (8 * a0_2 / 256 ^ (q + 1) : Int) = (8 * a0_2 / 256 ^ q) / 256 from by rw [Int.pow_succ, Int.ediv_ediv_of_nonneg (by exact_mod_cast Nat.zero_le _)]]; first | rfl | (have hu := Int.ediv_le_self (256 ^ q) (show 0 ≤ 8 * a0_2 from by have := HH.out; omega); generalize 8 * a0_2 / 256 ^ q = e at *; have := HH.out; have ht : e.tdiv 256 = e / 256 := Int.tdiv_eq_ediv_of_nonneg hp; have hw : wrap64 (e / 256) = e / 256 := (by unfold wrap64; omega); rw [ht, hw]), by first | rfl | simp, rfl⟩
       ·
        obtain rfl : q = 7 - m := by omega
        have hd2 : decide (((7 - m : Nat) : Int) < 7 - (m : Int)) = false := decide_eq_false (by omega)
        have hp : 0 ≤ 8 * a0_2 / 256 ^ (7 - m) := Int.ediv_nonneg (by have := HH.out; omega) (by exact_mod_cast Nat.zero_le _)
        have hln := Aside0.mk <| show a0_1.size + 1 + j + m = (L0 ++ (heLen (8 * a0_2)).take m).length from by
         rw [List.length_append, HL0l.out, List.length_take]
         unfold heLen
         simp only [List.length_map, List.length_range]
         omega
        have HY := Aside0.mk <| show (8 * a0_2 / 256 ^ (7 - m)).tmod 256 % 256 = heByte (8 * a0_2) m from by
         unfold heByte
         rw [Int.tmod_eq_emod_of_nonneg hp]
         omega
        have HT := Aside0.mk (heLen_take (8 * a0_2) m hlt)
        clear hp
        go_wp2_with (first
         | (at_builtin; refine append_M rfl _ _ 27 5 rfl Try.underlying27 (by kernel_rfl) g1 cap1 (a0_1.size + 1 + j + m) (L0 ++ (heLen (8 * a0_2)).take m) _ hln.out rfl rfl HM.out HC.out HB.out HG.out HB.out.size (by have := HJ.out; omega) ?_; intro g2 cap2 w4 hM hcap hge hB hk hor; have n1_ := Aside0.mk ((hk gb (blk_lt BK.out) HN.out).trans BK.out); have n2_ := Aside0.mk (show gb ≠ g2 from by have := blk_lt BK.out; have := HN.out; omega); clear hk hor HB BK HM HC HG HN; have HB := Aside0.mk hB; have BK := n1_; have HN := n2_; have HM := Aside0.mk (show MRow w4 g2 5 cap2 (L0 ++ (heLen (8 * a0_2)).take (m + 1)) from by rw [HT.out, ← HY.out, ← List.append_assoc]; exact hM); have HC := Aside0.mk hcap; have HG := Aside0.mk hge; clear hB n1_ n2_ hM hcap hge))
        go_roundg k1
        case measure => omega
        case rel => exact ⟨m + 1, g2, cap2, by omega, rfl, by first | rfl | (congr 1; simp; omega) | (simp; omega), HM, HC, HG, HN, BK, HB⟩
     ·
      obtain rfl : m = 8 := by omega
      have hd1 : decide ((7 - ((8 : Nat) : Int)) ≥ 0) = false := by decide
      have hz0 := blk_cell BK.out 0; have hz1 := blk_cell BK.out 1; have hz2 := blk_cell BK.out 2; simp only [List.getElem?_toArray, List.getElem?_cons_zero, List.getElem?_cons_succ] at hz0 hz1 hz2
      have e8 : (heLen (8 * a0_2)).take 8 = heLen (8 * a0_2) := by
       rw [List.take_of_length_le]
       unfold heLen
       simp
      rw [e8] at HM
      clear e8
      have HTT : L0 ++ heLen (8 * a0_2) = heTail a0_1 a0_2 := by
       rw [HL0.out]
       unfold heTail
       rw [← HHj.out]
      rw [HTT] at HM
      have HTL := Aside0.mk <| show (heTail a0_1 a0_2).length = a0_1.size + 1 + j + 8 from by
       rw [← HTT, List.length_append, HL0l.out]
       unfold heLen
       simp
      clear HTT hlt hd1
      go_wp2_with (first
       | (go_at_call 59; (with_reducible refine (spec_l04Words.calls k a0_0 st _ A2.out).mono ?_); rintro e w5 ⟨v5, rfl, hr, hb⟩; have n0_ := Aside0.mk (below_step HB.out hb); have n1_ := Aside0.mk (HM.out.below hb); have n2_ := Aside0.mk (Kd.R_lower hr (below_size HB.out)); clear HB HM BK hz0 hz1 hz2 hr hb; have HB := n0_; have HM := n1_; have HS := n2_; clear n0_ n1_ n2_)
       | (go_at_call 60; (with_reducible refine (spec_l04K.calls ks _ A3.out).mono ?_); rintro e w6 ⟨v6, rfl, hr, hb⟩; have n0_ := Aside0.mk (below_step HB.out hb); have n1_ := Aside0.mk (HM.out.below hb); have n2_ := Aside0.mk (Kd.R_lower hr (below_size HB.out)); have n3_ := Aside0.mk (Kd.R_below HS.out hb); clear HB HM HS hr hb; have HB := n0_; have HM := n1_; have HKs := n2_; have HS := n3_; clear n0_ n1_ n2_ n3_))
      go_loopg [8, 10] k (fun kq v8 v10 w' => ∃ (x8 : List Int) (i : Int), v10 = .int .i64 i ∧ Aside0 (spec_HashEnd.l0 kq (heTail a0_1 a0_2) x8 ks i = some r) ∧ Aside0 (kq ≤ k) ∧ Aside0 (Kd.R (Kd.int .u32) 79 w' w.heap.size (fun _ => True) v8 x8) ∧ Aside0 (Kd.R (Kd.int .u32) 79 w' w.heap.size (fun _ => True) v6 ks) ∧ Aside0 (MRow w' g1 5 cap1 (heTail a0_1 a0_2)) ∧ Aside0 (Below w.heap.size w w'))
      case atStart => exact ⟨st, 0, rfl, H, ⟨Nat.le_refl _⟩, HS, HKs, HM, HB⟩
      case round =>
       clear HS HKs HM HB H
       obtain ⟨x8, i, rfl, HA, HK2, HS, HKs, HM, HB⟩ := hrel
       cases gk with
       | zero => exact absurd HA.out (by simp [spec_HashEnd.l0])
       | succ k2 =>
        have H := HA.out
        clear HA
        rw [spec_HashEnd.l0] at H
        obtain ⟨A0, c0, hv0⟩ := Kd.R_slice HS.out
        obtain ⟨A1, c1, hv1⟩ := Kd.R_slice HKs.out
        subst hv0 hv1
        by_cases hlt : i < ((heTail a0_1 a0_2).length : Int)
        ·
         rw [if_pos hlt] at H
         by_cases hin : 0 ≤ i ∧ i + 64 ≤ ((heTail a0_1 a0_2).length : Int)
         case neg => rw [if_neg hin] at H; cases H
         rw [if_pos hin] at H
         obtain ⟨x8', hx8, H⟩ := Option.bind_eq_some_iff.mp H
         obtain ⟨p, rfl⟩ := Int.eq_ofNat_of_zero_le hin.1
         rw [HTL.out] at hlt hin
         have hd1 : (p : Int) < (a0_1.size : Int) + 1 + (j : Int) + 8 := by omega
         have HIN := Aside0.mk hin
         have H' := Aside0.mk H
         have hcl := HM.out.len
         rw [HTL.out] at hcl
         have hw64 : wrap64 ((p : Int) + 64) = (p : Int) + 64 := by have := HJ.out; unfold wrap64; omega
         have hc0 : (0 : Int) ≤ (p : Int) + 64 := by omega
         have hc1 : (p : Int) + 64 ≤ (cap1 : Int) := by omega
         have hc2 : (p : Int) ≤ (p : Int) + 64 := by omega
         have hne : ¬ cap1 = p := by omega
         obtain ⟨S, hS⟩ : ∃ S, S = strOfNums (((heTail a0_1 a0_2).take (p + 64)).drop p) := ⟨_, rfl⟩
         have kb2 := HM.out.strcut (P := Try.prog) Try.underlying27 Try.underlying5 Try.underlying9 p 64 (cap1 - p) (by rw [HTL.out]; omega)
         have e1 : ((p : Int) + 64).toNat = p + 64 := by omega
         rw [e1, Int.toNat_natCast, ← hS] at hx8
         rw [← hS] at kb2
         have HX := Aside0.mk hx8
         have HR0 := Aside0.mk (Kd.R_reads' HS.out)
         have HR1 := Aside0.mk (Kd.R_reads' HKs.out)
         clear hlt hin hx8 H hcl hS e1
         go_wp2_with (first
          | (go_at_call 61; (with_reducible refine (spec_l04Round.calls k2 A0 c0 x8 A1 c1 ks S x8' _ HR0.out.2.2 HR0.out.2.1 HR1.out.2.2 HR1.out.2.1 HX.out).mono ?_); rintro e w7 ⟨v7, rfl, hr, hb⟩; have n0_ := Aside0.mk (below_step HB.out hb); have n1_ := Aside0.mk (HM.out.below hb); have n2_ := Aside0.mk (Kd.R_lower hr (below_size HB.out)); have n3_ := Aside0.mk (Kd.R_below HKs.out hb); clear HB HM HKs HS HR0 HR1 hr hb kb2; have HB := n0_; have HM := n1_; have HS := n2_; have HKs := n3_; clear n0_ n1_ n2_ n3_))
         go_roundg k2
         case measure => omega
         case rel => exact ⟨x8', (p : Int) + 64, by first | rfl | (simp; done) | (simp [*]; done), H', ⟨by have := HK2.out; omega⟩, HS, HKs, HM, HB⟩
        ·
         rw [if_neg hlt] at H
         rw [HTL.out] at hlt
         have hd1 : ¬ ((i : Int) < (a0_1.size : Int) + 1 + (j : Int) + 8) := by omega
         have hd2 : ((a0_1.size : Int) + 1 + (j : Int) + 8 ≤ i) := by omega
         have HX := Aside0.mk H
         have HR0 := Aside0.mk (Kd.R_reads' HS.out)
         clear hlt H
         go_wp2_with (first
          | (go_at_call 62; (with_reducible refine (spec_l04Bytes.calls k2 A0 c0 x8 r _ HR0.out.2.2 HR0.out.2.1 HX.out).mono ?_); rintro e w7 ⟨rfl, hb⟩; have n0_ := Aside0.mk (below_step HB.out hb); clear HB HM HKs HS HR0 hb; have HB := n0_; clear n0_))
         go_ret
         exact ⟨by first | rfl | (simp; done), HB.out⟩
mutual
def spec_HashMore.j0 : Nat → ByteArray → Bool → ByteArray → ByteArray → Int → Option (ByteArray × ByteArray × Int)
 | 0, _, _, _, _, _ => none
 | k + 1, x1, x19, x345000, x345001, x345002 => if x19 = true then (some (x345000, x345001, x345002)) else ((spec_l04Words.f k x345000).bind fun t347 => ((spec_l04K.f).bind fun t350 => (if x345001.size + x1.size ≤ 9223372036854775807 then (spec_HashMore.l0 k x1 t347 t350 (x345001 ++ x1) 0 x345000 x345001 x345002) else (none))))
def spec_HashMore.l0 : Nat → ByteArray → List Int → List Int → ByteArray → Int → ByteArray → ByteArray → Int → Option (ByteArray × ByteArray × Int)
 | 0, _, _, _, _, _, _, _, _ => none
 | k + 1, x1, x5, x6, x7, x8, x345000, x345001, x345002 => if (wrap64 (x8 + 64)) ≤ (x7.size : Int) then (if 0 ≤ x8 then (if x8 ≤ (wrap64 (x8 + 64)) then ((spec_l04Round.f k x5 x6 (x7.extract (x8 : Int).toNat ((wrap64 (x8 + 64)) : Int).toNat)).bind fun t354 => (spec_HashMore.l0 k x1 t354 x6 x7 (wrap64 (x8 + 64)) x345000 x345001 x345002)) else (none)) else (none)) else ((spec_l04Bytes.f k x5).bind fun t357 => (if 0 ≤ x8 then (if x8 ≤ (x7.size : Int) then (some (t357, x7.extract (x8 : Int).toNat x7.size, wrap64 (x345002 + (x1.size : Int)))) else (none)) else (none)))
end
def spec_HashMore.f (k : Nat) (a0_0 : ByteArray) (a0_1 : ByteArray) (a0_2 : Int) (a1 : ByteArray) : Option (ByteArray × ByteArray × Int) := (spec_HasherOk.f a0_0 a0_1 a0_2).bind fun t346 => (if t346 = true then (spec_HashMore.j0 k a1 (decide ((wrap64 (a0_2 + (a1.size : Int))) > 1000000000)) a0_0 a0_1 a0_2) else (spec_HashMore.j0 k a1 true a0_0 a0_1 a0_2))
theorem spec_HashMore.mono_l : ∀ k, (∀ y0 y1 y2 y3 y4, LeO (spec_HashMore.j0 k y0 y1 y2 y3 y4) (spec_HashMore.j0 (k + 1) y0 y1 y2 y3 y4)) ∧ (∀ y0 y1 y2 y3 y4 y5 y6 y7, LeO (spec_HashMore.l0 k y0 y1 y2 y3 y4 y5 y6 y7) (spec_HashMore.l0 (k + 1) y0 y1 y2 y3 y4 y5 y6 y7))
 | 0 => ⟨fun _ _ _ _ _ r h => by simp [spec_HashMore.j0] at h, fun _ _ _ _ _ _ _ _ r h => by simp [spec_HashMore.l0] at h⟩
 | k + 1 => by
  obtain ⟨ih0, ih1⟩ := spec_HashMore.mono_l k
  refine ⟨?_, ?_⟩
  ·
   intro y0 y1 y2 y3 y4
   unfold spec_HashMore.j0
   repeat' first
   | (with_reducible exact ih0 _ _ _ _ _)
   | (with_reducible exact ih1 _ _ _ _ _ _ _ _)
   | (with_reducible exact spec_l04Bytes.mono _ _)
   | (with_reducible exact spec_l04Round.mono _ _ _ _)
   | (with_reducible exact spec_l04Words.mono _ _)
   | (with_reducible exact LeO.refl _)
   | (with_reducible exact LeO.none _)
   | (with_reducible refine LeO.ite ?_ ?_)
   | (with_reducible refine LeO.bind ?_ (fun _ => ?_))
   | exact ih0 _ _ _ _ _
   | exact ih1 _ _ _ _ _ _ _ _
   | exact spec_l04Bytes.mono _ _
   | exact spec_l04Round.mono _ _ _ _
   | exact spec_l04Words.mono _ _
   | exact LeO.none _
   | refine LeO.ite ?_ ?_
   | refine LeO.bind ?_ (fun _ => ?_)
  ·
   intro y0 y1 y2 y3 y4 y5 y6 y7
   unfold spec_HashMore.l0
   repeat' first
   | (with_reducible exact ih0 _ _ _ _ _)
   | (with_reducible exact ih1 _ _ _ _ _ _ _ _)
   | (with_reducible exact spec_l04Bytes.mono _ _)
   | (with_reducible exact spec_l04Round.mono _ _ _ _)
   | (with_reducible exact spec_l04Words.mono _ _)
   | (with_reducible exact LeO.refl _)
   | (with_reducible exact LeO.none _)
   | (with_reducible refine LeO.ite ?_ ?_)
   | (with_reducible refine LeO.bind ?_ (fun _ => ?_))
   | exact ih0 _ _ _ _ _
   | exact ih1 _ _ _ _ _ _ _ _
   | exact spec_l04Bytes.mono _ _
   | exact spec_l04Round.mono _ _ _ _
   | exact spec_l04Words.mono _ _
   | exact LeO.none _
   | refine LeO.ite ?_ ?_
   | refine LeO.bind ?_ (fun _ => ?_)
theorem spec_HashMore.mono : ∀ a0 a1 a2 a3 k, LeO (spec_HashMore.f k a0 a1 a2 a3) (spec_HashMore.f (k + 1) a0 a1 a2 a3) := by
 intro a0 a1 a2 a3 k
 obtain ⟨ih0, ih1⟩ := spec_HashMore.mono_l k
 unfold spec_HashMore.f
 repeat' first
   | (with_reducible exact ih0 _ _ _ _ _)
   | (with_reducible exact ih1 _ _ _ _ _ _ _ _)
   | (with_reducible exact spec_l04Bytes.mono _ _)
   | (with_reducible exact spec_l04Round.mono _ _ _ _)
   | (with_reducible exact spec_l04Words.mono _ _)
   | (with_reducible exact LeO.refl _)
   | (with_reducible exact LeO.none _)
   | (with_reducible refine LeO.ite ?_ ?_)
   | (with_reducible refine LeO.bind ?_ (fun _ => ?_))
   | exact ih0 _ _ _ _ _
   | exact ih1 _ _ _ _ _ _ _ _
   | exact spec_l04Bytes.mono _ _
   | exact spec_l04Round.mono _ _ _ _
   | exact spec_l04Words.mono _ _
   | exact LeO.none _
   | refine LeO.ite ?_ ?_
   | refine LeO.bind ?_ (fun _ => ?_)
def spec_HashMore.T10 : Bool × List (List Nat × List Nat) := (true, [([], []), ([0], [0]), ([], []), ([], []), ([2, 3], [2, 3]), ([], []), ([5], [5]), ([], []), ([7], [7]), ([6, 8], [6, 8]), ([1, 4, 9], [1, 4, 9]), ([10, 1, 0, 1, 2, 3, 4, 5, 6, 7, 8, 9, 10], [10])])
def spec_HashMore.B10 : List Nat := [0, 1, 0, 0, 12, 0, 32, 0, 128, 480, 1023, 2047]
theorem spec_HashMore.tab10 : rtab .any (opsOf Try.f44 10) = spec_HashMore.T10 := by kernel_rfl
theorem spec_HashMore.bits10 : waitsOk spec_HashMore.T10.2 spec_HashMore.B10 = true := by kernel_rfl
set_option maxHeartbeats 8000000 in
set_option maxRecDepth 100000 in
theorem spec_HashMore.calls (k : Nat) (a0_0 : ByteArray) (a0_1 : ByteArray) (a0_2 : Int) (a1 : ByteArray) (r1 : ByteArray) (r2 : ByteArray) (r3 : Int) (w : World) (h : spec_HashMore.f k a0_0 a0_1 a0_2 a1 = some (r1, r2, r3)) :
  Calls Try.prog 44 #[.agg #[.string a0_0, .string a0_1, .int .i64 a0_2], .string a1] w fun e w' => e = .returned (.agg #[.string r1, .string r2, .int .i64 r3]) ∧ Below w.heap.size w w' := by
 have hu39 := Try.underlying39
 have HB := Aside0.mk (Below.refl w.heap.size w)
 have H : ((spec_HasherOk.f a0_0 a0_1 a0_2).bind fun t346 => (if t346 = true then (spec_HashMore.j0 k a1 (decide ((wrap64 (a0_2 + (a1.size : Int))) > 1000000000)) a0_0 a0_1 a0_2) else (spec_HashMore.j0 k a1 true a0_0 a0_1 a0_2))) = some (r1, r2, r3) := h
 clear h
 have HC3 := Aside0.mk H
 clear H
 go_enter Try.func44, Try.ntmps44
 go_upto_region 1 with (first | ((with_reducible refine gate_dst (N := 2) rfl ?_); (try (refine gate_guard (by rfl) ?_; dsimp only)); refine box_event ?hg (N := 2) ?hd (cs := #[.string a0_0, .string a0_1, .int .i64 a0_2]) (t := 39) ?hr ?_; (case hd => rfl); (case hg => rfl); (case hr => first | (go_simp; done) | (go_simp; rfl)); intro gb344 hg w4 hbox hb; have n0_ := Aside0.mk (below_step (by repeat (first | (with_reducible first | exact HB.out | apply below_alloc | apply pw_below_drewN | apply below_drew1) | exact HB.out)) hb); have n1_ := Aside0.mk (hbox); have n2_ := Aside0.mk ((by rw [hg]; exact (below_size (by repeat (first | (with_reducible first | exact HB.out | apply below_alloc | apply pw_below_drewN | apply below_drew1) | exact HB.out))) : w.heap.size ≤ gb344)); have n3_ := Aside0.mk ((by rw [hg]; exact (below_size (by repeat (first | (with_reducible first | exact HB.out | apply below_alloc | apply pw_below_drewN | apply below_drew1) | exact HB.out))) : w.heap.size ≤ gb344)); clear HB; have HB := n0_; have BK344 := n1_; have GW344 := n2_; have GE344 := n3_; clear n0_ n1_ n2_ n3_; clear hb hbox hg) | ((with_reducible refine gate_dst (N := 4) rfl ?_); (try (refine gate_guard (by rfl) ?_; dsimp only)); refine box_event ?hg (N := 4) ?hd (cs := #[.string (⟨#[]⟩ : ByteArray), .string (⟨#[]⟩ : ByteArray), .int .i64 0]) (t := 39) ?hr ?_; (case hd => rfl); (case hg => rfl); (case hr => first | (go_simp; done) | (go_simp; rfl)); intro gb345 hg w5 hbox hb; have n0_ := Aside0.mk (blk_below (g := gb344) (o := .cells #[.string a0_0, .string a0_1, .int .i64 a0_2] 39 (0, 0)) (by (with_reducible repeat (first | refine blk_drewN ?_ _ | refine blk_drew ?_ | refine blk_alloc ?_ _)); exact BK344.out) hb); have n1_ := Aside0.mk (below_step (by repeat (first | (with_reducible first | exact HB.out | apply below_alloc | apply pw_below_drewN | apply below_drew1 | refine below_set ?_ GE344.out) | exact HB.out)) hb); have n2_ := Aside0.mk (hbox); have n3_ := Aside0.mk ((by rw [hg]; exact (below_size (by repeat (first | (with_reducible first | exact HB.out | apply below_alloc | apply pw_below_drewN | apply below_drew1 | refine below_set ?_ GE344.out) | exact HB.out))) : w.heap.size ≤ gb345)); have n4_ := Aside0.mk ((by rw [hg]; exact (below_size (by repeat (first | (with_reducible first | exact HB.out | apply below_alloc | apply pw_below_drewN | apply below_drew1 | refine below_set ?_ GE344.out) | exact HB.out))) : w.heap.size ≤ gb345)); have n5_ := Aside0.mk ((by rw [hg]; exact Nat.ne_of_lt (blk_lt (g := gb344) (o := .cells #[.string a0_0, .string a0_1, .int .i64 a0_2] 39 (0, 0)) (by (with_reducible repeat (first | refine blk_drewN ?_ _ | refine blk_drew ?_ | refine blk_alloc ?_ _)); exact BK344.out)) : gb344 ≠ gb345)); have n6_ := Aside0.mk ((by rw [hg]; exact Nat.ne_of_gt (blk_lt (g := gb344) (o := .cells #[.string a0_0, .string a0_1, .int .i64 a0_2] 39 (0, 0)) (by (with_reducible repeat (first | refine blk_drewN ?_ _ | refine blk_drew ?_ | refine blk_alloc ?_ _)); exact BK344.out)) : gb345 ≠ gb344)); clear BK344; clear HB; have BK344 := n0_; have HB := n1_; have BK345 := n2_; have GW345 := n3_; have GE345 := n4_; have NB344_345 := n5_; have NB345_344 := n6_; clear n0_ n1_ n2_ n3_ n4_ n5_ n6_; clear hb hbox hg))
 (try simp only [Act.put, List.setIfInBounds_toArray, List.set_cons_zero, List.set_cons_succ])
 go_cut [19] (fun v19 wc => ∃ (kq : Nat) (x19_2 : Bool), v19 = .bool x19_2 ∧ Aside0 (spec_HashMore.j0 kq a1 x19_2 a0_0 a0_1 a0_2 = some (r1, r2, r3)) ∧ Aside0 (kq ≤ k) ∧ Aside0 (wc.heap[gb344]? = some (.cells #[.string a0_0, .string a0_1, .int .i64 a0_2] 39 (0, 0))) ∧ Aside0 (wc.heap[gb345]? = some (.cells #[.string (⟨#[]⟩ : ByteArray), .string (⟨#[]⟩ : ByteArray), .int .i64 0] 39 (0, 0))) ∧ Aside0 (Below w.heap.size w wc))
 case first =>
  have H := HC3.out
  clear HC3
  replace H := Option.bind_eq_some_iff.mp H
  obtain ⟨t346, A60, H⟩ := H
  replace H : (if t346 = true then (spec_HashMore.j0 k a1 (decide ((wrap64 (a0_2 + (a1.size : Int))) > 1000000000)) a0_0 a0_1 a0_2) else (spec_HashMore.j0 k a1 true a0_0 a0_1 a0_2)) = some (r1, r2, r3) := H
  have A6 := Aside0.mk A60
  clear A60
  by_cases c7 : t346 = true
  ·
   subst c7
   have H1 : (spec_HashMore.j0 k a1 (decide ((wrap64 (a0_2 + (a1.size : Int))) > 1000000000)) a0_0 a0_1 a0_2) = some (r1, r2, r3) := by rw [if_pos rfl] at H; exact H
   clear H
   have H := H1
   clear H1
   have H' := Aside0.mk H
   clear H
   have hnb8 := NB344_345.out
   have hnc8 := NB345_344.out
   have hcz9_0 : w5.cell? ⟨gb344, 0, none⟩ = some (.string a0_0) := (blk_cell BK344.out 0).trans rfl
   have hcz9_1 : w5.cell? ⟨gb344, 1, none⟩ = some (.string a0_1) := (blk_cell BK344.out 1).trans rfl
   have hcz9_2 : w5.cell? ⟨gb344, 2, none⟩ = some (.int .i64 a0_2) := (blk_cell BK344.out 2).trans rfl
   have hfz9_0 := blk_frozen BK344.out 0
   have hfz9_1 := blk_frozen BK344.out 1
   have hfz9_2 := blk_frozen BK344.out 2
   go_wp2_with (first | ((with_reducible refine gate_callee (f := 58) rfl ?_); refine goesL_ (some 10) rfl rfl Try.func58 (by kernel_rfl) rfl #[.agg #[.string a0_0, .string a0_1, .int .i64 a0_2]] rfl (by (try simp only [List.map_toArray, List.map_cons, List.map_nil]); first | done | rfl | (simp only [List.length_drop, List.length_take]; rfl)) ?_; (with_reducible refine (spec_HasherOk.calls a0_0 a0_1 a0_2 true _ A6.out).mono ?_); rintro e w10 ⟨rfl, hb⟩; refine ⟨_, rfl, ?_⟩; have n0_ := Aside0.mk (blk_below (g := gb344) (o := .cells #[.string a0_0, .string a0_1, .int .i64 a0_2] 39 (0, 0)) (by (with_reducible repeat (first | refine blk_drewN ?_ _ | refine blk_drew ?_ | refine blk_alloc ?_ _)); exact BK344.out) hb); have n1_ := Aside0.mk (blk_below (g := gb345) (o := .cells #[.string (⟨#[]⟩ : ByteArray), .string (⟨#[]⟩ : ByteArray), .int .i64 0] 39 (0, 0)) (by (with_reducible repeat (first | refine blk_drewN ?_ _ | refine blk_drew ?_ | refine blk_alloc ?_ _)); exact BK345.out) hb); have n2_ := Aside0.mk (below_step (by repeat (first | (with_reducible first | exact HB.out | apply below_alloc | apply pw_below_drewN | apply below_drew1 | refine below_set ?_ GE344.out | refine below_set ?_ GE345.out) | exact HB.out)) hb); clear BK344; clear BK345; clear HB; have BK344 := n0_; have BK345 := n1_; have HB := n2_; clear n0_ n1_ n2_; (try clear hb); (try clear hb2); (try clear hk); (try clear hi); have hcz11_0 : w10.cell? ⟨gb344, 0, none⟩ = some (.string a0_0) := (blk_cell BK344.out 0).trans rfl; have hcz11_1 : w10.cell? ⟨gb344, 1, none⟩ = some (.string a0_1) := (blk_cell BK344.out 1).trans rfl; have hcz11_2 : w10.cell? ⟨gb344, 2, none⟩ = some (.int .i64 a0_2) := (blk_cell BK344.out 2).trans rfl; have hfz11_0 := blk_frozen BK344.out 0; have hfz11_1 := blk_frozen BK344.out 1; have hfz11_2 := blk_frozen BK344.out 2))
   go_meet
   case rel => exact ⟨_, (decide ((wrap64 (a0_2 + (a1.size : Int))) > 1000000000)), (by first | rfl | (simp; done) | (simp [*]; done)), H', ⟨by first | omega | exact Nat.le_refl _⟩, ⟨by (with_reducible repeat (first | refine blk_drewN ?_ _ | refine blk_drew ?_ | refine blk_alloc ?_ _)); exact BK344.out⟩, ⟨by (with_reducible repeat (first | refine blk_drewN ?_ _ | refine blk_drew ?_ | refine blk_alloc ?_ _)); exact BK345.out⟩, ⟨by repeat (first | (with_reducible first | exact HB.out | apply below_alloc | apply pw_below_drewN | apply below_drew1 | refine below_set ?_ GE344.out | refine below_set ?_ GE345.out) | exact HB.out)⟩⟩
  ·
   replace c7 := Bool.eq_false_iff.mpr c7
   subst c7
   have H1 : (spec_HashMore.j0 k a1 true a0_0 a0_1 a0_2) = some (r1, r2, r3) := by rw [if_neg (show ¬ (false = true) by decide)] at H; exact H
   clear H
   have H := H1
   clear H1
   have H' := Aside0.mk H
   clear H
   have hnb12 := NB344_345.out
   have hnc12 := NB345_344.out
   have hcz13_0 : w5.cell? ⟨gb344, 0, none⟩ = some (.string a0_0) := (blk_cell BK344.out 0).trans rfl
   have hcz13_1 : w5.cell? ⟨gb344, 1, none⟩ = some (.string a0_1) := (blk_cell BK344.out 1).trans rfl
   have hcz13_2 : w5.cell? ⟨gb344, 2, none⟩ = some (.int .i64 a0_2) := (blk_cell BK344.out 2).trans rfl
   have hfz13_0 := blk_frozen BK344.out 0
   have hfz13_1 := blk_frozen BK344.out 1
   have hfz13_2 := blk_frozen BK344.out 2
   go_wp2_with (first | ((with_reducible refine gate_callee (f := 58) rfl ?_); refine goesL_ (some 10) rfl rfl Try.func58 (by kernel_rfl) rfl #[.agg #[.string a0_0, .string a0_1, .int .i64 a0_2]] rfl (by (try simp only [List.map_toArray, List.map_cons, List.map_nil]); first | done | rfl | (simp only [List.length_drop, List.length_take]; rfl)) ?_; (with_reducible refine (spec_HasherOk.calls a0_0 a0_1 a0_2 false _ A6.out).mono ?_); rintro e w14 ⟨rfl, hb⟩; refine ⟨_, rfl, ?_⟩; have n0_ := Aside0.mk (blk_below (g := gb344) (o := .cells #[.string a0_0, .string a0_1, .int .i64 a0_2] 39 (0, 0)) (by (with_reducible repeat (first | refine blk_drewN ?_ _ | refine blk_drew ?_ | refine blk_alloc ?_ _)); exact BK344.out) hb); have n1_ := Aside0.mk (blk_below (g := gb345) (o := .cells #[.string (⟨#[]⟩ : ByteArray), .string (⟨#[]⟩ : ByteArray), .int .i64 0] 39 (0, 0)) (by (with_reducible repeat (first | refine blk_drewN ?_ _ | refine blk_drew ?_ | refine blk_alloc ?_ _)); exact BK345.out) hb); have n2_ := Aside0.mk (below_step (by repeat (first | (with_reducible first | exact HB.out | apply below_alloc | apply pw_below_drewN | apply below_drew1 | refine below_set ?_ GE344.out | refine below_set ?_ GE345.out) | exact HB.out)) hb); clear BK344; clear BK345; clear HB; have BK344 := n0_; have BK345 := n1_; have HB := n2_; clear n0_ n1_ n2_; (try clear hb); (try clear hb2); (try clear hk); (try clear hi)))
   go_meet
   case rel => exact ⟨_, (true), (by first | rfl | (simp; done) | (simp [*]; done)), H', ⟨by first | omega | exact Nat.le_refl _⟩, ⟨by (with_reducible repeat (first | refine blk_drewN ?_ _ | refine blk_drew ?_ | refine blk_alloc ?_ _)); exact BK344.out⟩, ⟨by (with_reducible repeat (first | refine blk_drewN ?_ _ | refine blk_drew ?_ | refine blk_alloc ?_ _)); exact BK345.out⟩, ⟨by repeat (first | (with_reducible first | exact HB.out | apply below_alloc | apply pw_below_drewN | apply below_drew1 | refine below_set ?_ GE344.out | refine below_set ?_ GE345.out) | exact HB.out)⟩⟩
 case rest =>
  clear HC3
  try clear c1; try clear p2; try clear c4; try clear c5; try clear p6; try clear c7; try clear c8; try clear c12; try clear hcz11_0; try clear hcz11_1; try clear hcz11_2; try clear hcz13_0; try clear hcz13_1; try clear hcz13_2; try clear hcz9_0; try clear hcz9_1; try clear hcz9_2; try clear hfz11_0; try clear hfz11_1; try clear hfz11_2; try clear hfz13_0; try clear hfz13_1; try clear hfz13_2; try clear hfz9_0; try clear hfz9_1; try clear hfz9_2
  obtain ⟨kq, x19_2, rfl, HA, HJ2, BK344, BK345, HB⟩ := hcut
  cases kq with
  | zero => exact absurd HA.out (by simp [spec_HashMore.j0])
  | succ kj2 =>
   have H := HA.out
   clear HA
   simp only [spec_HashMore.j0] at H
   by_cases c15 : x19_2 = true
   ·
    subst c15
    have H1 : (some (a0_0, a0_1, a0_2)) = some (r1, r2, r3) := by rw [if_pos rfl] at H; exact H
    clear H
    have H := H1
    clear H1
    simp only [Option.some.injEq, Prod.mk.injEq] at H
    obtain ⟨rfl, rfl, rfl⟩ := H
    have hnb16 := NB344_345.out
    have hnc16 := NB345_344.out
    have hcz17_0 : wc.cell? ⟨gb344, 0, none⟩ = some (.string a0_0) := (blk_cell BK344.out 0).trans rfl
    have hcz17_1 : wc.cell? ⟨gb344, 1, none⟩ = some (.string a0_1) := (blk_cell BK344.out 1).trans rfl
    have hcz17_2 : wc.cell? ⟨gb344, 2, none⟩ = some (.int .i64 a0_2) := (blk_cell BK344.out 2).trans rfl
    have hfz17_0 := blk_frozen BK344.out 0
    have hfz17_1 := blk_frozen BK344.out 1
    have hfz17_2 := blk_frozen BK344.out 2
    have hcz18_0 : wc.cell? ⟨gb345, 0, none⟩ = some (.string (⟨#[]⟩ : ByteArray)) := (blk_cell BK345.out 0).trans rfl
    have hcz18_1 : wc.cell? ⟨gb345, 1, none⟩ = some (.string (⟨#[]⟩ : ByteArray)) := (blk_cell BK345.out 1).trans rfl
    have hcz18_2 : wc.cell? ⟨gb345, 2, none⟩ = some (.int .i64 0) := (blk_cell BK345.out 2).trans rfl
    have hfz18_0 := blk_frozen BK345.out 0
    have hfz18_1 := blk_frozen BK345.out 1
    have hfz18_2 := blk_frozen BK345.out 2
    go_wp2
    refine bodyPost_ret (results_cell_row rfl _ _ gb345 39 #[.string a0_0, .string a0_1, .int .i64 a0_2] (0, 0) _ rfl (by (with_reducible repeat (first | refine blk_drewN ?_ _ | refine blk_drew ?_ | refine blk_alloc ?_ _)); refine blk_put (cs := #[.string a0_0, .string a0_1, .int .i64 0]) ?_ 2 _ rfl; (with_reducible repeat (first | refine blk_drewN ?_ _ | refine blk_drew ?_ | refine blk_alloc ?_ _)); refine blk_put (cs := #[.string a0_0, .string (⟨#[]⟩ : ByteArray), .int .i64 0]) ?_ 1 _ rfl; (with_reducible repeat (first | refine blk_drewN ?_ _ | refine blk_drew ?_ | refine blk_alloc ?_ _)); refine blk_put (cs := #[.string (⟨#[]⟩ : ByteArray), .string (⟨#[]⟩ : ByteArray), .int .i64 0]) ?_ 0 _ rfl; (with_reducible repeat (first | refine blk_drewN ?_ _ | refine blk_drew ?_ | refine blk_alloc ?_ _)); exact BK345.out) Try.underlying39 rfl (by kernel_rfl)) rfl ?_
    exact ⟨by first | rfl | (simp [errW_none, errW_some] <;> rfl) | (simp [*, errW_none, errW_some] <;> rfl), by repeat (first | (with_reducible first | exact HB.out | apply below_alloc | apply pw_below_drewN | apply below_drew1 | refine below_set ?_ GE344.out | refine below_set ?_ GE345.out) | exact HB.out)⟩
   ·
    replace c15 := Bool.eq_false_iff.mpr c15
    subst c15
    have H1 : ((spec_l04Words.f kj2 a0_0).bind fun t347 => ((spec_l04K.f).bind fun t350 => (if a0_1.size + a1.size ≤ 9223372036854775807 then (spec_HashMore.l0 kj2 a1 t347 t350 (a0_1 ++ a1) 0 a0_0 a0_1 a0_2) else (none)))) = some (r1, r2, r3) := by rw [if_neg (show ¬ (false = true) by decide)] at H; exact H
    clear H
    have H := H1
    clear H1
    replace H := Option.bind_eq_some_iff.mp H
    obtain ⟨t347, A190, H⟩ := H
    replace H : ((spec_l04K.f).bind fun t350 => (if a0_1.size + a1.size ≤ 9223372036854775807 then (spec_HashMore.l0 kj2 a1 t347 t350 (a0_1 ++ a1) 0 a0_0 a0_1 a0_2) else (none))) = some (r1, r2, r3) := H
    have A19 := Aside0.mk A190
    clear A190
    replace H := Option.bind_eq_some_iff.mp H
    obtain ⟨t350, A200, H⟩ := H
    replace H : (if a0_1.size + a1.size ≤ 9223372036854775807 then (spec_HashMore.l0 kj2 a1 t347 t350 (a0_1 ++ a1) 0 a0_0 a0_1 a0_2) else (none)) = some (r1, r2, r3) := H
    have A20 := Aside0.mk A200
    clear A200
    by_cases c21 : a0_1.size + a1.size ≤ 9223372036854775807
    ·
     rw [if_pos c21] at H
     have c21b0 := eq_true c21
     have c21b1 : decide (a0_1.size + a1.size ≤ 9223372036854775807) = true := decide_eq_true c21
     try have c21b2 : (9223372036854775807 < a0_1.size + a1.size) = False := eq_false (Nat.not_lt.2 c21)
     obtain ⟨y353, hy353⟩ : ∃ y_ : ByteArray, y_ = (a0_1 ++ a1) := ⟨_, rfl⟩
     replace H : (spec_HashMore.l0 kj2 a1 t347 t350 y353 0 a0_0 a0_1 a0_2) = some (r1, r2, r3) := by first | (rw [hy353]; with_reducible exact H) | (have H2_ := (Option.bind_some _ _).symm.trans H; rw [hy353]; with_reducible exact H2_) | (have H2_ := (Option.bind_some _ _).symm.trans H; with_reducible exact H2_) | with_reducible exact H | (rw [hy353]; exact H) | exact H
     have Ny353 := Aside0.mk hy353
     clear hy353
     have hcat_y353 := Ny353.out.symm
     have H' := Aside0.mk H
     clear H
     have hnb22 := NB344_345.out
     have hnc22 := NB345_344.out
     have hcz23_0 : wc.cell? ⟨gb344, 0, none⟩ = some (.string a0_0) := (blk_cell BK344.out 0).trans rfl
     have hcz23_1 : wc.cell? ⟨gb344, 1, none⟩ = some (.string a0_1) := (blk_cell BK344.out 1).trans rfl
     have hcz23_2 : wc.cell? ⟨gb344, 2, none⟩ = some (.int .i64 a0_2) := (blk_cell BK344.out 2).trans rfl
     have hfz23_0 := blk_frozen BK344.out 0
     have hfz23_1 := blk_frozen BK344.out 1
     have hfz23_2 := blk_frozen BK344.out 2
     go_wp2_with (first | ((with_reducible refine gate_callee (f := 59) rfl ?_); refine goesL_ (some 23) rfl rfl Try.func59 (by kernel_rfl) rfl #[.string a0_0] rfl (by (try simp only [List.map_toArray, List.map_cons, List.map_nil]); first | done | rfl | (simp only [List.length_drop, List.length_take]; rfl)) ?_; (with_reducible refine (spec_l04Words.calls kj2 a0_0 t347 _ A19.out).mono ?_); rintro e w24 ⟨v348, rfl, ho0, hb⟩; refine ⟨_, rfl, ?_⟩; have n0_ := Aside0.mk (Kd.R_lower ho0 (below_size (by repeat (first | (with_reducible first | exact HB.out | apply below_alloc | apply pw_below_drewN | apply below_drew1 | refine below_set ?_ GE344.out | refine below_set ?_ GE345.out) | exact HB.out)))); have n1_ := Aside0.mk (blk_below (g := gb344) (o := .cells #[.string a0_0, .string a0_1, .int .i64 a0_2] 39 (0, 0)) (by (with_reducible repeat (first | refine blk_drewN ?_ _ | refine blk_drew ?_ | refine blk_alloc ?_ _)); exact BK344.out) hb); have n2_ := Aside0.mk (blk_below (g := gb345) (o := .cells #[.string (⟨#[]⟩ : ByteArray), .string (⟨#[]⟩ : ByteArray), .int .i64 0] 39 (0, 0)) (by (with_reducible repeat (first | refine blk_drewN ?_ _ | refine blk_drew ?_ | refine blk_alloc ?_ _)); exact BK345.out) hb); have n3_ := Aside0.mk (below_step (by repeat (first | (with_reducible first | exact HB.out | apply below_alloc | apply pw_below_drewN | apply below_drew1 | refine below_set ?_ GE344.out | refine below_set ?_ GE345.out) | exact HB.out)) hb); clear BK344; clear BK345; clear HB; have HO349 := n0_; have BK344 := n1_; have BK345 := n2_; have HB := n3_; clear n0_ n1_ n2_ n3_; (try clear hb); (try clear hb2); (try clear hk); (try clear hi); (try clear ho0)) | ((with_reducible refine gate_callee (f := 60) rfl ?_); refine goesL_ (some 24) rfl rfl Try.func60 (by kernel_rfl) rfl #[] rfl (by (try simp only [List.map_toArray, List.map_cons, List.map_nil]); first | done | rfl | (simp only [List.length_drop, List.length_take]; rfl)) ?_; (with_reducible refine (spec_l04K.calls  t350 _ A20.out).mono ?_); rintro e w25 ⟨v351, rfl, ho0, hb⟩; refine ⟨_, rfl, ?_⟩; have n0_ := Aside0.mk (Kd.R_elder' (by (with_reducible repeat (first | apply Kd.R_alloc | apply Kd.R_drewN | apply Kd.R_drew)); exact HO349.out) (Kd.R_base ho0) hb); have n1_ := Aside0.mk (Kd.R_lower (Kd.R_new' ho0 (Kd.R_lt (by (with_reducible repeat (first | apply Kd.R_alloc | apply Kd.R_drewN | apply Kd.R_drew)); exact HO349.out))) (below_size (by repeat (first | (with_reducible first | exact HB.out | apply below_alloc | apply pw_below_drewN | apply below_drew1 | refine below_set ?_ GE344.out | refine below_set ?_ GE345.out) | exact HB.out)))); have n2_ := Aside0.mk (blk_below (g := gb344) (o := .cells #[.string a0_0, .string a0_1, .int .i64 a0_2] 39 (0, 0)) (by (with_reducible repeat (first | refine blk_drewN ?_ _ | refine blk_drew ?_ | refine blk_alloc ?_ _)); exact BK344.out) hb); have n3_ := Aside0.mk (blk_below (g := gb345) (o := .cells #[.string (⟨#[]⟩ : ByteArray), .string (⟨#[]⟩ : ByteArray), .int .i64 0] 39 (0, 0)) (by (with_reducible repeat (first | refine blk_drewN ?_ _ | refine blk_drew ?_ | refine blk_alloc ?_ _)); exact BK345.out) hb); have n4_ := Aside0.mk (below_step (by repeat (first | (with_reducible first | exact HB.out | apply below_alloc | apply pw_below_drewN | apply below_drew1 | refine below_set ?_ GE344.out | refine below_set ?_ GE345.out) | exact HB.out)) hb); clear HO349; clear BK344; clear BK345; clear HB; have HO349 := n0_; have HO352 := n1_; have BK344 := n2_; have BK345 := n3_; have HB := n4_; clear n0_ n1_ n2_ n3_ n4_; (try clear hb); (try clear hb2); (try clear hk); (try clear hi); (try clear ho0); have hcz26_0 : w25.cell? ⟨gb344, 0, none⟩ = some (.string a0_0) := (blk_cell BK344.out 0).trans rfl; have hcz26_1 : w25.cell? ⟨gb344, 1, none⟩ = some (.string a0_1) := (blk_cell BK344.out 1).trans rfl; have hcz26_2 : w25.cell? ⟨gb344, 2, none⟩ = some (.int .i64 a0_2) := (blk_cell BK344.out 2).trans rfl; have hfz26_0 := blk_frozen BK344.out 0; have hfz26_1 := blk_frozen BK344.out 1; have hfz26_2 := blk_frozen BK344.out 2))
     go_loopg [5, 8] kj2 (fun kq v5 v8 w' => ∃ (x5_2 : List Int) (x8_2 : Int), v8 = .int .i64 x8_2 ∧ Aside0 (spec_HashMore.l0 kq a1 x5_2 t350 y353 x8_2 a0_0 a0_1 a0_2 = some (r1, r2, r3)) ∧ Aside0 (kq ≤ kj2) ∧ Aside0 (Kd.R (Kd.int .u32) 79 w' w.heap.size (fun k_ => some k_ ≠ (v351 : Value).ownBlock) v5 x5_2) ∧ Aside0 (Kd.R (Kd.int .u32) 79 w' w.heap.size (fun k_ => some k_ ≠ (v5 : Value).ownBlock) v351 t350) ∧ Aside0 (w'.heap[gb344]? = some (.cells #[.string a0_0, .string a0_1, .int .i64 a0_2] 39 (0, 0))) ∧ Aside0 (w'.heap[gb345]? = some (.cells #[.string (⟨#[]⟩ : ByteArray), .string (⟨#[]⟩ : ByteArray), .int .i64 0] 39 (0, 0))) ∧ Aside0 (Below w.heap.size w w'))
     case atStart => exact ⟨(t347), (0), (by first | rfl | (simp; done) | (simp [*]; done)), H', ⟨Nat.le_refl _⟩, ⟨by (with_reducible repeat (first | apply Kd.R_alloc | apply Kd.R_drewN | apply Kd.R_drew)); exact Kd.R_mono HO349.out (fun _ hk => hk.2)⟩, ⟨by (with_reducible repeat (first | apply Kd.R_alloc | apply Kd.R_drewN | apply Kd.R_drew)); exact Kd.R_mono HO352.out (fun _ hk => hk.2)⟩, ⟨by (with_reducible repeat (first | refine blk_drewN ?_ _ | refine blk_drew ?_ | refine blk_alloc ?_ _)); exact BK344.out⟩, ⟨by (with_reducible repeat (first | refine blk_drewN ?_ _ | refine blk_drew ?_ | refine blk_alloc ?_ _)); exact BK345.out⟩, ⟨by repeat (first | (with_reducible first | exact HB.out | apply below_alloc | apply pw_below_drewN | apply below_drew1 | refine below_set ?_ GE344.out | refine below_set ?_ GE345.out) | exact HB.out)⟩⟩
     case round =>
      clear H'
      try clear c1; try clear c2; try clear p2; try clear c4; try clear c5; try clear c6; try clear p6; try clear c7; try clear c8; try clear c12; try clear c15; try clear c16; try clear c21; try clear c21b0; try clear c21b1; try clear c21b2; try clear c22; try clear hcz11_0; try clear hcz11_1; try clear hcz11_2; try clear hcz13_0; try clear hcz13_1; try clear hcz13_2; try clear hcz17_0; try clear hcz17_1; try clear hcz17_2; try clear hcz18_0; try clear hcz18_1; try clear hcz18_2; try clear hcz23_0; try clear hcz23_1; try clear hcz23_2; try clear hcz26_0; try clear hcz26_1; try clear hcz26_2; try clear hcz9_0; try clear hcz9_1; try clear hcz9_2; try clear hfz11_0; try clear hfz11_1; try clear hfz11_2; try clear hfz13_0; try clear hfz13_1; try clear hfz13_2; try clear hfz17_0; try clear hfz17_1; try clear hfz17_2; try clear hfz18_0; try clear hfz18_1; try clear hfz18_2; try clear hfz23_0; try clear hfz23_1; try clear hfz23_2; try clear hfz26_0; try clear hfz26_1; try clear hfz26_2; try clear hfz9_0; try clear hfz9_1; try clear hfz9_2; try clear p2; try clear p6
      obtain ⟨x5_2, x8_2, rfl, HA, HK2, HO_5, HO_6, BK344, BK345, HB⟩ := hrel
      cases gk with
      | zero => exact absurd HA.out (by simp [spec_HashMore.l0])
      | succ k2 =>
       have H := HA.out
       clear HA
       simp only [spec_HashMore.l0] at H
       by_cases c27 : (wrap64 (x8_2 + 64)) ≤ (y353.size : Int)
       ·
        rw [if_pos c27] at H
        have c27b0 : decide ((wrap64 (x8_2 + 64)) ≤ (y353.size : Int)) = true := decide_eq_true c27
        clear c27
        by_cases c28 : 0 ≤ x8_2
        ·
         rw [if_pos c28] at H
         have c28b0 := eq_true c28
         have c28b1 : decide (0 ≤ x8_2) = true := decide_eq_true c28
         clear c28
         by_cases c29 : x8_2 ≤ (wrap64 (x8_2 + 64))
         ·
          rw [if_pos c29] at H
          have c29b0 := eq_true c29
          have c29b1 : decide (x8_2 ≤ (wrap64 (x8_2 + 64))) = true := decide_eq_true c29
          have c30b0 := eq_true (of_decide_eq_true (by first | (with_reducible assumption) | assumption) : (wrap64 (x8_2 + 64)) ≤ (y353.size : Int))
          replace H := Option.bind_eq_some_iff.mp H
          obtain ⟨t354, A310, H⟩ := H
          replace H : (spec_HashMore.l0 k2 a1 t354 t350 y353 (wrap64 (x8_2 + 64)) a0_0 a0_1 a0_2) = some (r1, r2, r3) := H
          have A31 := Aside0.mk A310
          clear A310
          have H' := Aside0.mk H
          clear H
          obtain ⟨Ao32, co32, eo32⟩ := Kd.R_slice HO_5.out
          subst eo32
          obtain ⟨Ao33, co33, eo33⟩ := Kd.R_slice HO_6.out
          subst eo33
          go_wp2_with (first | ((with_reducible refine gate_callee (f := 61) rfl ?_); refine goesL_ (some 41) rfl rfl Try.func61 (by kernel_rfl) rfl #[.slice Ao32 x5_2.length co32, .slice Ao33 t350.length co33, .string (y353.extract (x8_2 : Int).toNat ((wrap64 (x8_2 + 64)) : Int).toNat)] rfl (by (try simp only [List.map_toArray, List.map_cons, List.map_nil]); first | done | rfl | (simp only [List.length_drop, List.length_take]; rfl)) ?_; (with_reducible refine (spec_l04Round.calls k2 _ _ x5_2 _ _ t350 (y353.extract (x8_2 : Int).toNat ((wrap64 (x8_2 + 64)) : Int).toNat) t354 _ ?side1 ?side2 ?side3 ?side4 A31.out).mono ?_); (case side1 => repeat (first | exact (Kd.R_reads' HO_5.out).2.2 | (with_reducible refine Kd.C_alloc ?_ _) | (with_reducible refine Kd.C_drewN ?_ _) | (with_reducible refine Kd.C_drew ?_))); (case side2 => exact (Kd.R_reads' HO_5.out).2.1); (case side3 => repeat (first | exact (Kd.R_reads' HO_6.out).2.2 | (with_reducible refine Kd.C_alloc ?_ _) | (with_reducible refine Kd.C_drewN ?_ _) | (with_reducible refine Kd.C_drew ?_))); (case side4 => exact (Kd.R_reads' HO_6.out).2.1); rintro e w34 ⟨v355, rfl, ho0, hb⟩; refine ⟨_, rfl, ?_⟩; have n0_ := Aside0.mk (Kd.R_elder' (by (with_reducible repeat (first | apply Kd.R_alloc | apply Kd.R_drewN | apply Kd.R_drew)); exact HO_5.out) (Kd.R_base ho0) hb); have n1_ := Aside0.mk (Kd.R_elder' (by (with_reducible repeat (first | apply Kd.R_alloc | apply Kd.R_drewN | apply Kd.R_drew)); exact HO_6.out) (Kd.R_base ho0) hb); have n2_ := Aside0.mk (Kd.R_lower (Kd.R_new' (Kd.R_new' ho0 (Kd.R_lt (by (with_reducible repeat (first | apply Kd.R_alloc | apply Kd.R_drewN | apply Kd.R_drew)); exact HO_5.out))) (Kd.R_lt (by (with_reducible repeat (first | apply Kd.R_alloc | apply Kd.R_drewN | apply Kd.R_drew)); exact HO_6.out))) (below_size (by repeat (first | (with_reducible first | exact HB.out | apply below_alloc | apply pw_below_drewN | apply below_drew1 | refine below_set ?_ GE344.out | refine below_set ?_ GE345.out) | exact HB.out)))); have n3_ := Aside0.mk (blk_below (g := gb344) (o := .cells #[.string a0_0, .string a0_1, .int .i64 a0_2] 39 (0, 0)) (by (with_reducible repeat (first | refine blk_drewN ?_ _ | refine blk_drew ?_ | refine blk_alloc ?_ _)); exact BK344.out) hb); have n4_ := Aside0.mk (blk_below (g := gb345) (o := .cells #[.string (⟨#[]⟩ : ByteArray), .string (⟨#[]⟩ : ByteArray), .int .i64 0] 39 (0, 0)) (by (with_reducible repeat (first | refine blk_drewN ?_ _ | refine blk_drew ?_ | refine blk_alloc ?_ _)); exact BK345.out) hb); have n5_ := Aside0.mk (below_step (by repeat (first | (with_reducible first | exact HB.out | apply below_alloc | apply pw_below_drewN | apply below_drew1 | refine below_set ?_ GE344.out | refine below_set ?_ GE345.out) | exact HB.out)) hb); clear HO_5; clear HO_6; clear BK344; clear BK345; clear HB; have HO_5 := n0_; have HO_6 := n1_; have HO356 := n2_; have BK344 := n3_; have BK345 := n4_; have HB := n5_; clear n0_ n1_ n2_ n3_ n4_ n5_; (try clear hb); (try clear hb2); (try clear hk); (try clear hi); (try clear ho0)))
          go_roundg k2
          case measure => have := HJ2.out; have := HK2.out; omega
          case rel => exact ⟨(t354), (wrap64 (x8_2 + 64)), (by first | rfl | (simp; done) | (simp [*]; done)), H', ⟨by have := HJ2.out; have := HK2.out; omega⟩, ⟨by (with_reducible repeat (first | apply Kd.R_alloc | apply Kd.R_drewN | apply Kd.R_drew)); exact Kd.R_mono HO356.out (fun _ hk => hk.2)⟩, ⟨by (with_reducible repeat (first | apply Kd.R_alloc | apply Kd.R_drewN | apply Kd.R_drew)); exact Kd.R_mono HO_6.out (fun _ hk => hk.2)⟩, ⟨by (with_reducible repeat (first | refine blk_drewN ?_ _ | refine blk_drew ?_ | refine blk_alloc ?_ _)); exact BK344.out⟩, ⟨by (with_reducible repeat (first | refine blk_drewN ?_ _ | refine blk_drew ?_ | refine blk_alloc ?_ _)); exact BK345.out⟩, ⟨by repeat (first | (with_reducible first | exact HB.out | apply below_alloc | apply pw_below_drewN | apply below_drew1 | refine below_set ?_ GE344.out | refine below_set ?_ GE345.out) | exact HB.out)⟩⟩
         ·
          rw [if_neg c29] at H
          exact absurd H (by simp)
        ·
         rw [if_neg c28] at H
         exact absurd H (by simp)
       ·
        rw [if_neg c27] at H
        have c27b0 : decide ((wrap64 (x8_2 + 64)) ≤ (y353.size : Int)) = false := decide_eq_false c27
        clear c27
        replace H := Option.bind_eq_some_iff.mp H
        obtain ⟨t357, A350, H⟩ := H
        replace H : (if 0 ≤ x8_2 then (if x8_2 ≤ (y353.size : Int) then (some (t357, y353.extract (x8_2 : Int).toNat y353.size, wrap64 (a0_2 + (a1.size : Int)))) else (none)) else (none)) = some (r1, r2, r3) := H
        have A35 := Aside0.mk A350
        clear A350
        by_cases c36 : 0 ≤ x8_2
        ·
         rw [if_pos c36] at H
         have c36b0 := eq_true c36
         have c36b1 : decide (0 ≤ x8_2) = true := decide_eq_true c36
         clear c36
         by_cases c37 : x8_2 ≤ (y353.size : Int)
         ·
          rw [if_pos c37] at H
          have c37b0 := eq_true c37
          have c37b1 : decide (x8_2 ≤ (y353.size : Int)) = true := decide_eq_true c37
          clear c37
          simp only [Option.some.injEq, Prod.mk.injEq] at H
          obtain ⟨rfl, rfl, rfl⟩ := H
          try go_wp2
          have n0_ := Aside0.mk (Kd.R_drew HO_5.out)
          have n1_ := Aside0.mk (Kd.R_drew HO_6.out)
          have n2_ := Aside0.mk (blk_drew BK344.out)
          have n3_ := Aside0.mk (blk_drew BK345.out)
          have n4_ := Aside0.mk (below_drew1 HB.out)
          clear HO_5
          clear HO_6
          clear BK344
          clear BK345
          clear HB
          have HO_5 := n0_
          have HO_6 := n1_
          have BK344 := n2_
          have BK345 := n3_
          have HB := n4_
          clear n0_ n1_ n2_ n3_ n4_
          obtain ⟨Ao39, co39, eo39⟩ := Kd.R_slice HO_5.out
          (first | subst eo39 | (injection eo39 with f1_ f2_ f3_; have f4_ := f1_.symm; have f5_ := f3_.symm; clear f1_ f2_ f3_; subst f4_; subst f5_))
          refine start_ (n := 12) (S := fun w' => w'.cell? ⟨gb344, 0, none⟩ = some (.string a0_0) ∧ w'.cell? ⟨gb344, 1, none⟩ = some (.string a0_1) ∧ w'.cell? ⟨gb344, 2, none⟩ = some (.int .i64 a0_2)) (ds := []) #[false, false, false, false, false, false, false, false, false, false, false, false] (by kernel_rfl) rfl rfl ⟨(blk_cell BK344.out 0).trans rfl, (blk_cell BK344.out 1).trans rfl, (blk_cell BK344.out 2).trans rfl⟩ (fun hHeld => ?_); refine with_tabW spec_HashMore.tab10 spec_HashMore.bits10 (fun HT_ HW_ => ?_)
          generalize wr.drew = w38 at HO_5 HO_6 BK344 BK345 HB hHeld ⊢
          refine pure_ (i := 0) (N := some 44) (v := ?_) (a' := ?_) #[true, false, false, false, false, false, false, false, false, false, false, false] rfl rfl (any_of HT_.out (by kernel_rfl)) (fun _ _ _ h => h) (Or.inl ⟨by rfl, ?_⟩) ?_ ?_
          rotate_left
          ·
           intro w'
           go_simp
           with_reducible rfl
          rotate_left
          ·
           simp only [Act.put, List.setIfInBounds_toArray, List.set_cons_zero, List.set_cons_succ, i64_w, i32_w]
           rfl
          refine pure_ (i := 2) (N := some 46) (v := ?_) (a' := ?_) #[true, false, true, false, false, false, false, false, false, false, false, false] rfl rfl (any_of HT_.out (by kernel_rfl)) (fun _ _ _ h => h) (Or.inl ⟨by rfl, ?_⟩) ?_ ?_
          rotate_left
          ·
           intro w'
           go_simp
           with_reducible rfl
          rotate_left
          ·
           simp only [Act.put, List.setIfInBounds_toArray, List.set_cons_zero, List.set_cons_succ, i64_w, i32_w]
           rfl
          refine pure_ (i := 3) (N := some 47) (v := ?_) (a' := ?_) #[true, false, true, true, false, false, false, false, false, false, false, false] rfl rfl (any_of HT_.out (by kernel_rfl)) (fun _ _ _ h => h) (Or.inl ⟨by rfl, ?_⟩) ?_ ?_
          rotate_left
          ·
           intro w'
           go_simp
           with_reducible rfl
          rotate_left
          ·
           simp only [Act.put, List.setIfInBounds_toArray, List.set_cons_zero, List.set_cons_succ, i64_w, i32_w]
           rfl
          refine pure_ (i := 4) (N := some 48) (v := ?_) (a' := ?_) #[true, false, true, true, true, false, false, false, false, false, false, false] rfl rfl (any_of HT_.out (by kernel_rfl)) (fun _ _ _ h => h) (Or.inl ⟨by rfl, ?_⟩) ?_ ?_
          rotate_left
          ·
           intro w'
           go_simp
           with_reducible rfl
          rotate_left
          ·
           simp only [Act.put, List.setIfInBounds_toArray, List.set_cons_zero, List.set_cons_succ, i64_w, i32_w]
           rfl
          refine pure_ (i := 5) (N := some 49) (v := ?_) (a' := ?_) #[true, false, true, true, true, true, false, false, false, false, false, false] rfl rfl (any_of HT_.out (by kernel_rfl)) (fun _ _ _ h => h) (Or.inl ⟨by rfl, ?_⟩) ?_ ?_
          rotate_left
          ·
           intro w'
           go_simp
           with_reducible rfl
          rotate_left
          ·
           simp only [Act.put, List.setIfInBounds_toArray, List.set_cons_zero, List.set_cons_succ, i64_w, i32_w]
           rfl
          refine pure_ (i := 7) (N := some 51) (v := ?_) (a' := ?_) #[true, false, true, true, true, true, false, true, false, false, false, false] rfl rfl (any_of HT_.out (by kernel_rfl)) (fun _ _ _ h => h) (Or.inl ⟨by rfl, ?_⟩) ?_ ?_
          rotate_left
          ·
           intro w'
           go_simp
           with_reducible rfl
          rotate_left
          ·
           simp only [Act.put, List.setIfInBounds_toArray, List.set_cons_zero, List.set_cons_succ, i64_w, i32_w]
           rfl
          refine pure_ (i := 8) (N := some 52) (v := ?_) (a' := ?_) #[true, false, true, true, true, true, false, true, true, false, false, false] rfl rfl (any_of HT_.out (by kernel_rfl)) (fun _ _ _ h => h) (Or.inl ⟨by rfl, ?_⟩) ?_ ?_
          rotate_left
          ·
           intro w'
           go_simp
           with_reducible rfl
          rotate_left
          ·
           simp only [Act.put, List.setIfInBounds_toArray, List.set_cons_zero, List.set_cons_succ, i64_w, i32_w]
           rfl
          refine take_ (i := 6) (N := some 50) (v := ?_) (a' := ?_) #[true, false, true, true, true, true, true, true, true, false, false, false] rfl rfl (take_ofW HT_.out HW_.out (by kernel_rfl)) (fun _ _ _ h => h) (Or.inl ⟨by rfl, ?_⟩) hHeld ?_ ?_
          rotate_left
          ·
           rintro w' ⟨s0, s1, s2⟩
           go_simp
           with_reducible rfl
          rotate_left
          ·
           simp only [Act.put, List.setIfInBounds_toArray, List.set_cons_zero, List.set_cons_succ, i64_w, i32_w]
           rfl
          refine pure_ (i := 9) (N := some 53) (v := ?_) (a' := ?_) #[true, false, true, true, true, true, true, true, true, true, false, false] rfl rfl (any_of HT_.out (by kernel_rfl)) (fun _ _ _ h => h) (Or.inl ⟨by rfl, ?_⟩) ?_ ?_
          rotate_left
          ·
           intro w'
           go_simp
           with_reducible rfl
          rotate_left
          ·
           simp only [Act.put, List.setIfInBounds_toArray, List.set_cons_zero, List.set_cons_succ, i64_w, i32_w]
           rfl
          refine one_ (i := 1) (N := some 45) #[true, true, true, true, true, true, true, true, true, true, false, false] rfl rfl (one_of HT_.out (by kernel_rfl)) (by decide) (fun K hK => ?_)
          refine goes_ Try.func62 (by kernel_rfl) rfl #[.slice Ao39 x5_2.length co39] (by rfl) rfl rfl (by (try simp only [List.map_toArray, List.map_cons, List.map_nil]); first | done | rfl | (simp only [List.length_drop, List.length_take]; rfl)) ?_
          with_reducible refine (spec_l04Bytes.calls k2 _ _ x5_2 t357 _ ?side1 ?side2 A35.out).mono ?_
          (case side1 => repeat (first | exact (Kd.R_reads' HO_5.out).2.2 | (with_reducible refine Kd.C_alloc ?_ _) | (with_reducible refine Kd.C_drewN ?_ _) | (with_reducible refine Kd.C_drew ?_)))
          (case side2 => exact (Kd.R_reads' HO_5.out).2.1)
          rintro e w40 ⟨rfl, hb⟩
          refine ⟨_, rfl, ?_⟩
          have n0_ := Aside0.mk (Kd.R_below (by (with_reducible repeat (first | apply Kd.R_alloc | apply Kd.R_drewN | apply Kd.R_drew)); exact HO_5.out) hb)
          have n1_ := Aside0.mk (Kd.R_below (by (with_reducible repeat (first | apply Kd.R_alloc | apply Kd.R_drewN | apply Kd.R_drew)); exact HO_6.out) hb)
          have n2_ := Aside0.mk (blk_below (g := gb344) (o := .cells #[.string a0_0, .string a0_1, .int .i64 a0_2] 39 (0, 0)) (by (with_reducible repeat (first | refine blk_drewN ?_ _ | refine blk_drew ?_ | refine blk_alloc ?_ _)); exact BK344.out) hb)
          have n3_ := Aside0.mk (blk_below (g := gb345) (o := .cells #[.string (⟨#[]⟩ : ByteArray), .string (⟨#[]⟩ : ByteArray), .int .i64 0] 39 (0, 0)) (by (with_reducible repeat (first | refine blk_drewN ?_ _ | refine blk_drew ?_ | refine blk_alloc ?_ _)); exact BK345.out) hb)
          have n4_ := Aside0.mk (below_step (by repeat (first | (with_reducible first | exact HB.out | apply below_alloc | apply pw_below_drewN | apply below_drew1 | refine below_set ?_ GE344.out | refine below_set ?_ GE345.out) | exact HB.out)) hb)
          clear HO_5
          clear HO_6
          clear BK344
          clear BK345
          clear HB
          have HO_5 := n0_
          have HO_6 := n1_
          have BK344 := n2_
          have BK345 := n3_
          have HB := n4_
          clear n0_ n1_ n2_ n3_ n4_
          (try clear hb)
          (try clear hb2)
          (try clear hk)
          (try clear hi)
          refine hK.out _ _ ⟨(blk_cell BK344.out 0).trans rfl, (blk_cell BK344.out 1).trans rfl, (blk_cell BK344.out 2).trans rfl⟩ (fun hHeld => ?_)
          clear hK K
          refine norm_ (a' := ?_) ?_ ?_
          rotate_left
          ·
           show Act.put _ (some 45) _ = _
           simp only [Act.put, List.setIfInBounds_toArray, List.set_cons_zero, List.set_cons_succ, i64_w, i32_w]
           rfl
          refine pure_ (i := 10) (N := some 54) (v := ?_) (a' := ?_) #[true, true, true, true, true, true, true, true, true, true, true, false] rfl rfl (any_of HT_.out (by kernel_rfl)) (fun _ _ _ h => h) (Or.inl ⟨by rfl, ?_⟩) ?_ ?_
          rotate_left
          ·
           intro w'
           go_simp
           with_reducible rfl
          rotate_left
          ·
           simp only [Act.put, List.setIfInBounds_toArray, List.set_cons_zero, List.set_cons_succ, i64_w, i32_w]
           rfl
          refine one_ (i := 11) (N := none) #[true, true, true, true, true, true, true, true, true, true, true, true] rfl rfl (one_of HT_.out (by kernel_rfl)) (by decide) (fun K hK => ?_)
          have hs41 : w40.cell? ⟨gb345, 0, none⟩ = some (.string (⟨#[]⟩ : ByteArray)) := (blk_cell BK345.out 0).trans rfl
          have hfs41 := blk_frozen BK345.out 0
          have hns41_0 := NB344_345.out
          have hms41_0 := NB345_344.out
          have hs42 : w40.cell? ⟨gb345, 1, none⟩ = some (.string (⟨#[]⟩ : ByteArray)) := (blk_cell BK345.out 1).trans rfl
          have hfs42 := blk_frozen BK345.out 1
          have hns42_0 := NB344_345.out
          have hms42_0 := NB345_344.out
          have hs43 : w40.cell? ⟨gb345, 2, none⟩ = some (.int .i64 0) := (blk_cell BK345.out 2).trans rfl
          have hfs43 := blk_frozen BK345.out 2
          have hns43_0 := NB344_345.out
          have hms43_0 := NB345_344.out
          refine skip_ (w1 := ?_) (by rfl) rfl ?_ ?_
          rotate_left
          ·
           go_simp
           rfl
          refine hK.out _ _ ⟨((cell_far (p := ⟨gb345, _, none⟩) NB344_345.out _).trans (((cell_far (p := ⟨gb345, _, none⟩) NB344_345.out _).trans (((cell_far (p := ⟨gb345, _, none⟩) NB344_345.out _).trans (hHeld.1)))))), ((cell_far (p := ⟨gb345, _, none⟩) NB344_345.out _).trans (((cell_far (p := ⟨gb345, _, none⟩) NB344_345.out _).trans (((cell_far (p := ⟨gb345, _, none⟩) NB344_345.out _).trans (hHeld.2.1)))))), ((cell_far (p := ⟨gb345, _, none⟩) NB344_345.out _).trans (((cell_far (p := ⟨gb345, _, none⟩) NB344_345.out _).trans (((cell_far (p := ⟨gb345, _, none⟩) NB344_345.out _).trans (hHeld.2.2))))))⟩ (fun hHeld => ?_)
          clear hK K
          refine done_ (done_of HT_.out (by kernel_rfl)) ?_
          try go_wp2
          refine bodyPost_ret (results_cell_row rfl _ _ gb345 39 #[.string t357, .string (y353.extract (x8_2 : Int).toNat y353.size), .int .i64 (wrap64 (a0_2 + (a1.size : Int)))] (0, 0) _ rfl (by (with_reducible repeat (first | refine blk_drewN ?_ _ | refine blk_drew ?_ | refine blk_alloc ?_ _)); refine blk_put (cs := #[.string t357, .string (y353.extract (x8_2 : Int).toNat y353.size), .int .i64 0]) ?_ 2 _ rfl; (with_reducible repeat (first | refine blk_drewN ?_ _ | refine blk_drew ?_ | refine blk_alloc ?_ _)); refine blk_put (cs := #[.string t357, .string (⟨#[]⟩ : ByteArray), .int .i64 0]) ?_ 1 _ rfl; (with_reducible repeat (first | refine blk_drewN ?_ _ | refine blk_drew ?_ | refine blk_alloc ?_ _)); refine blk_put (cs := #[.string (⟨#[]⟩ : ByteArray), .string (⟨#[]⟩ : ByteArray), .int .i64 0]) ?_ 0 _ rfl; (with_reducible repeat (first | refine blk_drewN ?_ _ | refine blk_drew ?_ | refine blk_alloc ?_ _)); exact BK345.out) Try.underlying39 rfl (by kernel_rfl)) rfl ?_
          exact ⟨by first | rfl | (simp [errW_none, errW_some] <;> rfl) | (simp [*, errW_none, errW_some] <;> rfl), by repeat (first | (with_reducible first | exact HB.out | apply below_alloc | apply pw_below_drewN | apply below_drew1 | refine below_set ?_ GE344.out | refine below_set ?_ GE345.out) | exact HB.out)⟩
         ·
          rw [if_neg c37] at H
          exact absurd H (by simp)
        ·
         rw [if_neg c36] at H
         exact absurd H (by simp)
    ·
     rw [if_neg c21] at H
     exact absurd H (by simp)
def spec_l04First.f  : Option (List Int) := some (([1779033703, 3144134277, 1013904242, 2773480762, 1359893119, 2600822924, 528734635, 1541459225] : List Int))
set_option maxHeartbeats 8000000 in
set_option maxRecDepth 100000 in
theorem spec_l04First.calls  (r : List Int) (w : World) (h : spec_l04First.f  = some r) :
  Calls Try.prog 63 #[] w fun e w' => ∃ v0_ : Value, e = .returned (v0_) ∧ Kd.R (Kd.int .u32) 79 w' w.heap.size (fun _ => True) v0_ r ∧ Below w.heap.size w w' := by
 have HB := Aside0.mk (Below.refl w.heap.size w)
 have H : (some (([1779033703, 3144134277, 1013904242, 2773480762, 1359893119, 2600822924, 528734635, 1541459225] : List Int))) = some r := h
 clear h
 obtain ⟨y358, hy358⟩ : ∃ y_ : List Int, y_ = (([1779033703, 3144134277, 1013904242, 2773480762, 1359893119, 2600822924, 528734635, 1541459225] : List Int)) := ⟨_, rfl⟩
 replace H : (some y358) = some r := by first | (rw [hy358]; with_reducible exact H) | (have H2_ := (Option.bind_some _ _).symm.trans H; rw [hy358]; with_reducible exact H2_) | (have H2_ := (Option.bind_some _ _).symm.trans H; with_reducible exact H2_) | with_reducible exact H | (rw [hy358]; exact H) | exact H
 have Ny358 := Aside0.mk hy358
 clear hy358
 obtain rfl := Option.some.inj H
 go_enter Try.func63, Try.ntmps63
 go_wp2_with (first | ((with_reducible refine gate_dst (N := 1) rfl ?_); refine Kd.R_lit (Kd.int .u32) _ 79 ?hg (N := 1) ?hd (xs := ([1779033703, 3144134277, 1013904242, 2773480762, 1359893119, 2600822924, 528734635, 1541459225] : List Int)) (inner := [.int .u32 1779033703, .int .u32 3144134277, .int .u32 1013904242, .int .u32 2773480762, .int .u32 1359893119, .int .u32 2600822924, .int .u32 528734635, .int .u32 1541459225]) (ok := fun _ => True) (okp := fun _ => True) ?hr ?hp (fun _ hk => hk) trivial (Below.refl _ _) (Nat.le_refl _) (by simp) ?_; (case hd => rfl); (case hg => rfl); (case hr => first | (go_simp; done) | (go_simp; rfl)); (case hp => exact (Reps.one (show Kd.M (Kd.int .u32) _ _ _ 1779033703 [.int .u32 1779033703] from rfl) (Reps.one (show Kd.M (Kd.int .u32) _ _ _ 3144134277 [.int .u32 3144134277] from rfl) (Reps.one (show Kd.M (Kd.int .u32) _ _ _ 1013904242 [.int .u32 1013904242] from rfl) (Reps.one (show Kd.M (Kd.int .u32) _ _ _ 2773480762 [.int .u32 2773480762] from rfl) (Reps.one (show Kd.M (Kd.int .u32) _ _ _ 1359893119 [.int .u32 1359893119] from rfl) (Reps.one (show Kd.M (Kd.int .u32) _ _ _ 2600822924 [.int .u32 2600822924] from rfl) (Reps.one (show Kd.M (Kd.int .u32) _ _ _ 528734635 [.int .u32 528734635] from rfl) (Reps.one (show Kd.M (Kd.int .u32) _ _ _ 1541459225 [.int .u32 1541459225] from rfl) (Reps.none _ _)))))))))); intro v359 w1 ho2 hb hg_ hnew_; clear hg_ hnew_; (first | rw [← Ny358.out] at ho2 | (simp only [Int.reduceToNat] at ho2; rw [← Ny358.out] at ho2)); have n0_ := Aside0.mk (Kd.R_lower ho2 (below_size (by repeat (first | (with_reducible first | exact HB.out | apply below_alloc | apply pw_below_drewN | apply below_drew1) | exact HB.out)))); have n1_ := Aside0.mk (below_step (by repeat (first | (with_reducible first | exact HB.out | apply below_alloc | apply pw_below_drewN | apply below_drew1) | exact HB.out)) hb); clear HB; have HO360 := n0_; have HB := n1_; clear n0_ n1_; clear hb ho2))
 go_ret
 exact ⟨_, by first | rfl | (simp [errW_none, errW_some] <;> rfl) | (simp [*, errW_none, errW_some] <;> rfl), by (with_reducible repeat (first | apply Kd.R_alloc | apply Kd.R_drewN | apply Kd.R_drew)); exact HO360.out, by repeat (first | (with_reducible first | exact HB.out | apply below_alloc | apply pw_below_drewN | apply below_drew1) | exact HB.out)⟩
end Go.Proofs.Ytmjmnmcpfpbkeab.PFnMacs
