-- Written by this session's program wip/myprint.py, after the kit's print.
import Derived.Test.YtgepaoikhfofmaaPFnLocksx0
import Derived.Test.YtgepaoikhfofmaaPFnLocksx3
import Derived.Test.YtgepaoikhfofmaaPFnLocksx5
import Derived.Test.YtgepaoikhfofmaaPFnLocksx6
namespace Go.Proofs.Ytgepaoikhfofmaa.PFnLocks
open Go.RowKit Go.Proofs.YtgepaoikhfofmaaW.PrintWords Go.Proofs.YtgepaoikhfofmaaW.PrintLast Go.Proofs.YtgepaoikhfofmaaW.PrintMore
attribute [local go_sem] max2_int min2_int max_two min_two max_three min_three max_four min_four   -- for this text's walks alone
set_option linter.unusedVariables false
set_option linter.unusedSimpArgs false
mutual
def impl_round.l0 : Nat → List Int → List Int → Int → Int → Int → Int → Int → Int → Int → Int → Int → Option (ByteArray)
 | 0, _, _, _, _, _, _, _, _, _, _, _ => none
 | k + 1, x6, x7, x8, x9, x10, x11, x12, x13, x14, x15, x52 => if x52 < 64 then ((impl_turnRight.f x12 6).bind fun t303 => ((impl_turnRight.f x12 11).bind fun t304 => ((impl_turnRight.f x12 25).bind fun t305 => (if 0 ≤ x52 then (if x52 < (x6.length : Int) then ((impl_turnRight.f x8 2).bind fun t307 => ((impl_turnRight.f x8 13).bind fun t308 => ((impl_turnRight.f x8 22).bind fun t309 => (impl_round.l0 k x6 x7 (Go.bits .and .i64 (wrap64 ((wrap64 ((wrap64 ((wrap64 ((wrap64 (x15 + (Go.bits .xor .i64 (Go.bits .xor .i64 t303 t304) t305))) + (Go.bits .xor .i64 (Go.bits .and .i64 x12 x13) (Go.bits .and .i64 (Go.bits .xor .i64 4294967295 x12) x14)))) + (rd kTab x52))) + (rd x6 x52))) + (wrap64 ((Go.bits .xor .i64 (Go.bits .xor .i64 t307 t308) t309) + (Go.bits .xor .i64 (Go.bits .xor .i64 (Go.bits .and .i64 x8 x9) (Go.bits .and .i64 x8 x10)) (Go.bits .and .i64 x9 x10)))))) 4294967295) x8 x9 x10 (Go.bits .and .i64 (wrap64 (x11 + (wrap64 ((wrap64 ((wrap64 ((wrap64 (x15 + (Go.bits .xor .i64 (Go.bits .xor .i64 t303 t304) t305))) + (Go.bits .xor .i64 (Go.bits .and .i64 x12 x13) (Go.bits .and .i64 (Go.bits .xor .i64 4294967295 x12) x14)))) + (rd kTab x52))) + (rd x6 x52))))) 4294967295) x12 x13 x14 (wrap64 (x52 + 1)))))) else (none)) else (none))))) else ((some (([x8, x9, x10, x11, x12, x13, x14, x15] : List Int) : List Int)).bind fun y310 => (impl_round.l1 k x7 y310 (y310.length : Int) 0))
def impl_round.l1 : Nat → List Int → List Int → Int → Int → Option (ByteArray)
 | 0, _, _, _, _ => none
 | k + 1, x7, x128, x129, x130 => if x130 < x129 then (if 0 ≤ x130 then (if x130 < (x128.length : Int) then (if x130 < (x7.length : Int) then (impl_round.l1 k (x7.set (x130 : Int).toNat (Go.bits .and .i64 (wrap64 ((rd x7 x130) + (rd x128 x130))) 4294967295)) x128 x129 (wrap64 (x130 + 1))) else (none)) else (none)) else (none)) else ((impl_wordsText.f k x7).bind fun t316 => (some t316))
end
def impl_round.f (k : Nat) (a0 : ByteArray) (a1 : ByteArray) : Option (ByteArray) := (impl_constants.f).bind fun _ => ((impl_expanded.f k a1).bind fun t289 => ((impl_wordsOf.f k a0).bind fun t292 => (if 0 < (t292.length : Int) then (if 1 < (t292.length : Int) then (if 2 < (t292.length : Int) then (if 3 < (t292.length : Int) then (if 4 < (t292.length : Int) then (if 5 < (t292.length : Int) then (if 6 < (t292.length : Int) then (if 7 < (t292.length : Int) then (impl_round.l0 k t289 t292 (rd t292 0) (rd t292 1) (rd t292 2) (rd t292 3) (rd t292 4) (rd t292 5) (rd t292 6) (rd t292 7) 0) else (none)) else (none)) else (none)) else (none)) else (none)) else (none)) else (none)) else (none))))
theorem impl_round.mono_l : ∀ k, (∀ y0 y1 y2 y3 y4 y5 y6 y7 y8 y9 y10, LeO (impl_round.l0 k y0 y1 y2 y3 y4 y5 y6 y7 y8 y9 y10) (impl_round.l0 (k + 1) y0 y1 y2 y3 y4 y5 y6 y7 y8 y9 y10)) ∧ (∀ y0 y1 y2 y3, LeO (impl_round.l1 k y0 y1 y2 y3) (impl_round.l1 (k + 1) y0 y1 y2 y3))
 | 0 => ⟨fun _ _ _ _ _ _ _ _ _ _ _ r h => by simp [impl_round.l0] at h, fun _ _ _ _ r h => by simp [impl_round.l1] at h⟩
 | k + 1 => by
  obtain ⟨ih0, ih1⟩ := impl_round.mono_l k
  refine ⟨?_, ?_⟩
  ·
   intro y0 y1 y2 y3 y4 y5 y6 y7 y8 y9 y10
   unfold impl_round.l0
   repeat' first
   | (with_reducible exact ih0 _ _ _ _ _ _ _ _ _ _ _)
   | (with_reducible exact ih1 _ _ _ _)
   | (with_reducible exact impl_expanded.mono _ _)
   | (with_reducible exact impl_wordsOf.mono _ _)
   | (with_reducible exact impl_wordsText.mono _ _)
   | (with_reducible exact LeO.refl _)
   | (with_reducible exact LeO.none _)
   | (with_reducible refine LeO.ite ?_ ?_)
   | (with_reducible refine LeO.bind ?_ (fun _ => ?_))
   | exact ih0 _ _ _ _ _ _ _ _ _ _ _
   | exact ih1 _ _ _ _
   | exact impl_expanded.mono _ _
   | exact impl_wordsOf.mono _ _
   | exact impl_wordsText.mono _ _
   | exact LeO.none _
   | refine LeO.ite ?_ ?_
   | refine LeO.bind ?_ (fun _ => ?_)
  ·
   intro y0 y1 y2 y3
   unfold impl_round.l1
   repeat' first
   | (with_reducible exact ih0 _ _ _ _ _ _ _ _ _ _ _)
   | (with_reducible exact ih1 _ _ _ _)
   | (with_reducible exact impl_expanded.mono _ _)
   | (with_reducible exact impl_wordsOf.mono _ _)
   | (with_reducible exact impl_wordsText.mono _ _)
   | (with_reducible exact LeO.refl _)
   | (with_reducible exact LeO.none _)
   | (with_reducible refine LeO.ite ?_ ?_)
   | (with_reducible refine LeO.bind ?_ (fun _ => ?_))
   | exact ih0 _ _ _ _ _ _ _ _ _ _ _
   | exact ih1 _ _ _ _
   | exact impl_expanded.mono _ _
   | exact impl_wordsOf.mono _ _
   | exact impl_wordsText.mono _ _
   | exact LeO.none _
   | refine LeO.ite ?_ ?_
   | refine LeO.bind ?_ (fun _ => ?_)
theorem impl_round.mono : ∀ a0 a1 k, LeO (impl_round.f k a0 a1) (impl_round.f (k + 1) a0 a1) := by
 intro a0 a1 k
 obtain ⟨ih0, ih1⟩ := impl_round.mono_l k
 unfold impl_round.f
 repeat' first
   | (with_reducible exact ih0 _ _ _ _ _ _ _ _ _ _ _)
   | (with_reducible exact ih1 _ _ _ _)
   | (with_reducible exact impl_expanded.mono _ _)
   | (with_reducible exact impl_wordsOf.mono _ _)
   | (with_reducible exact impl_wordsText.mono _ _)
   | (with_reducible exact LeO.refl _)
   | (with_reducible exact LeO.none _)
   | (with_reducible refine LeO.ite ?_ ?_)
   | (with_reducible refine LeO.bind ?_ (fun _ => ?_))
   | exact ih0 _ _ _ _ _ _ _ _ _ _ _
   | exact ih1 _ _ _ _
   | exact impl_expanded.mono _ _
   | exact impl_wordsOf.mono _ _
   | exact impl_wordsText.mono _ _
   | exact LeO.none _
   | refine LeO.ite ?_ ?_
   | refine LeO.bind ?_ (fun _ => ?_)
set_option maxHeartbeats 8000000 in
set_option maxRecDepth 100000 in
theorem impl_round.calls (k : Nat) (a0 : ByteArray) (a1 : ByteArray) (r : ByteArray) (w : World) (h : impl_round.f k a0 a1 = some r) :
  Calls Try.prog 66 #[.string a0, .string a1] w fun e w' => e = .returned (.string r) ∧ Below w.heap.size w w' := by
 have hu92 := Try.underlying92
 have HB := Aside0.mk (Below.refl w.heap.size w)
 have H : ((impl_constants.f).bind fun _ => ((impl_expanded.f k a1).bind fun t289 => ((impl_wordsOf.f k a0).bind fun t292 => (if 0 < (t292.length : Int) then (if 1 < (t292.length : Int) then (if 2 < (t292.length : Int) then (if 3 < (t292.length : Int) then (if 4 < (t292.length : Int) then (if 5 < (t292.length : Int) then (if 6 < (t292.length : Int) then (if 7 < (t292.length : Int) then (impl_round.l0 k t289 t292 (rd t292 0) (rd t292 1) (rd t292 2) (rd t292 3) (rd t292 4) (rd t292 5) (rd t292 6) (rd t292 7) 0) else (none)) else (none)) else (none)) else (none)) else (none)) else (none)) else (none)) else (none))))) = some r := h
 clear h
 replace H := Option.bind_eq_some_iff.mp H
 obtain ⟨_, A30, H⟩ := H
 replace H : ((impl_expanded.f k a1).bind fun t289 => ((impl_wordsOf.f k a0).bind fun t292 => (if 0 < (t292.length : Int) then (if 1 < (t292.length : Int) then (if 2 < (t292.length : Int) then (if 3 < (t292.length : Int) then (if 4 < (t292.length : Int) then (if 5 < (t292.length : Int) then (if 6 < (t292.length : Int) then (if 7 < (t292.length : Int) then (impl_round.l0 k t289 t292 (rd t292 0) (rd t292 1) (rd t292 2) (rd t292 3) (rd t292 4) (rd t292 5) (rd t292 6) (rd t292 7) 0) else (none)) else (none)) else (none)) else (none)) else (none)) else (none)) else (none)) else (none)))) = some r := H
 have A3 := Aside0.mk A30
 clear A30
 replace H := Option.bind_eq_some_iff.mp H
 obtain ⟨t289, A40, H⟩ := H
 replace H : ((impl_wordsOf.f k a0).bind fun t292 => (if 0 < (t292.length : Int) then (if 1 < (t292.length : Int) then (if 2 < (t292.length : Int) then (if 3 < (t292.length : Int) then (if 4 < (t292.length : Int) then (if 5 < (t292.length : Int) then (if 6 < (t292.length : Int) then (if 7 < (t292.length : Int) then (impl_round.l0 k t289 t292 (rd t292 0) (rd t292 1) (rd t292 2) (rd t292 3) (rd t292 4) (rd t292 5) (rd t292 6) (rd t292 7) 0) else (none)) else (none)) else (none)) else (none)) else (none)) else (none)) else (none)) else (none))) = some r := H
 have A4 := Aside0.mk A40
 clear A40
 replace H := Option.bind_eq_some_iff.mp H
 obtain ⟨t292, A50, H⟩ := H
 replace H : (if 0 < (t292.length : Int) then (if 1 < (t292.length : Int) then (if 2 < (t292.length : Int) then (if 3 < (t292.length : Int) then (if 4 < (t292.length : Int) then (if 5 < (t292.length : Int) then (if 6 < (t292.length : Int) then (if 7 < (t292.length : Int) then (impl_round.l0 k t289 t292 (rd t292 0) (rd t292 1) (rd t292 2) (rd t292 3) (rd t292 4) (rd t292 5) (rd t292 6) (rd t292 7) 0) else (none)) else (none)) else (none)) else (none)) else (none)) else (none)) else (none)) else (none)) = some r := H
 have A5 := Aside0.mk A50
 clear A50
 by_cases c6 : 0 < (t292.length : Int)
 ·
  rw [if_pos c6] at H
  have c6b0 : decide (0 < (t292.length : Int)) = true := decide_eq_true c6
  have c6b1 : decide (0 < t292.length) = true := decide_eq_true (by omega)
  clear c6
  by_cases c7 : 1 < (t292.length : Int)
  ·
   rw [if_pos c7] at H
   have c7b0 : decide (1 < (t292.length : Int)) = true := decide_eq_true c7
   have c7b1 : decide (1 < t292.length) = true := decide_eq_true (by omega)
   clear c7
   by_cases c8 : 2 < (t292.length : Int)
   ·
    rw [if_pos c8] at H
    have c8b0 : decide (2 < (t292.length : Int)) = true := decide_eq_true c8
    have c8b1 : decide (2 < t292.length) = true := decide_eq_true (by omega)
    clear c8
    by_cases c9 : 3 < (t292.length : Int)
    ·
     rw [if_pos c9] at H
     have c9b0 : decide (3 < (t292.length : Int)) = true := decide_eq_true c9
     have c9b1 : decide (3 < t292.length) = true := decide_eq_true (by omega)
     clear c9
     by_cases c10 : 4 < (t292.length : Int)
     ·
      rw [if_pos c10] at H
      have c10b0 : decide (4 < (t292.length : Int)) = true := decide_eq_true c10
      have c10b1 : decide (4 < t292.length) = true := decide_eq_true (by omega)
      clear c10
      by_cases c11 : 5 < (t292.length : Int)
      ·
       rw [if_pos c11] at H
       have c11b0 : decide (5 < (t292.length : Int)) = true := decide_eq_true c11
       have c11b1 : decide (5 < t292.length) = true := decide_eq_true (by omega)
       clear c11
       by_cases c12 : 6 < (t292.length : Int)
       ·
        rw [if_pos c12] at H
        have c12b0 : decide (6 < (t292.length : Int)) = true := decide_eq_true c12
        have c12b1 : decide (6 < t292.length) = true := decide_eq_true (by omega)
        clear c12
        by_cases c13 : 7 < (t292.length : Int)
        ·
         rw [if_pos c13] at H
         have c13b0 : decide (7 < (t292.length : Int)) = true := decide_eq_true c13
         have c13b1 : decide (7 < t292.length) = true := decide_eq_true (by omega)
         clear c13
         have H' := Aside0.mk H
         clear H
         go_enter Try.func66, Try.ntmps66
         go_wp2_with (first | (go_at_call 80; (with_reducible refine (impl_constants.calls   _ A3.out).mono ?_); rintro e w14 ⟨rfl, hb⟩; have n0_ := Aside0.mk (below_step (by repeat (first | (with_reducible first | exact HB.out | apply below_alloc | apply pw_below_drewN | apply below_drew1) | exact HB.out)) hb); clear HB; have HB := n0_; clear n0_; (try clear hb); (try clear hb2); (try clear hk); (try clear hi)) | ((with_reducible refine gate_dst (N := 5) rfl ?_); refine box_event ?hg (N := 5) ?hd (cs := kZero) (t := 92) ?hr ?_; (case hd => rfl); (case hg => rfl); (case hr => first | (go_simp; done) | (go_simp; rfl)); intro gb288 hg w15 hbox hb; have n0_ := Aside0.mk (below_step (by repeat (first | (with_reducible first | exact HB.out | apply below_alloc | apply pw_below_drewN | apply below_drew1) | exact HB.out)) hb); have n1_ := Aside0.mk (hbox); have n2_ := Aside0.mk ((by rw [hg]; exact (below_size (by repeat (first | (with_reducible first | exact HB.out | apply below_alloc | apply pw_below_drewN | apply below_drew1) | exact HB.out))) : w.heap.size ≤ gb288)); have n3_ := Aside0.mk ((by rw [hg]; exact (below_size (by repeat (first | (with_reducible first | exact HB.out | apply below_alloc | apply pw_below_drewN | apply below_drew1) | exact HB.out))) : w.heap.size ≤ gb288)); clear HB; have HB := n0_; have BK288 := n1_; have GW288 := n2_; have GE288 := n3_; clear n0_ n1_ n2_ n3_; clear hb hbox hg) | ((with_reducible refine gate_store (t := 92) (p := 5) rfl ?_); refine store_arr rfl 92 _ _ rfl gb288 kArr rfl rfl 92 kZero BK288.out kArr_info kZero_size kArr_one HB.out GE288.out ?_; intro w9_ hbox hb; have n0_ := Aside0.mk hb; have n1_ := Aside0.mk hbox; clear HB; clear BK288; have HB := n0_; have BK288 := n1_; clear n0_ n1_ hb hbox) | (go_at_call 81; (with_reducible refine (impl_expanded.calls k a1 t289 _ A4.out).mono ?_); rintro e w16 ⟨v290, rfl, ho0, hb⟩; have n0_ := Aside0.mk (Kd.R_lower ho0 (below_size (by repeat (first | (with_reducible first | exact HB.out | apply below_alloc | apply pw_below_drewN | apply below_drew1 | refine below_set ?_ GE288.out) | exact HB.out)))); have n1_ := Aside0.mk (blk_below (g := gb288) (o := .cells kArr 92 (0, 0)) (by (with_reducible repeat (first | refine blk_drewN ?_ _ | refine blk_drew ?_ | refine blk_alloc ?_ _)); exact BK288.out) hb); have n2_ := Aside0.mk (below_step (by repeat (first | (with_reducible first | exact HB.out | apply below_alloc | apply pw_below_drewN | apply below_drew1 | refine below_set ?_ GE288.out) | exact HB.out)) hb); clear BK288; clear HB; have HO291 := n0_; have BK288 := n1_; have HB := n2_; clear n0_ n1_ n2_; (try clear hb); (try clear hb2); (try clear hk); (try clear hi); (try clear ho0)) | (go_at_call 82; (with_reducible refine (impl_wordsOf.calls k a0 t292 _ A5.out).mono ?_); rintro e w17 ⟨v293, rfl, ho0, hb⟩; have n0_ := Aside0.mk (Kd.R_elder' (by (with_reducible repeat (first | apply Kd.R_alloc | apply Kd.R_drewN | apply Kd.R_drew)); exact HO291.out) (Kd.R_base ho0) hb); have n1_ := Aside0.mk (Kd.R_lower (Kd.R_new' ho0 (Kd.R_lt (by (with_reducible repeat (first | apply Kd.R_alloc | apply Kd.R_drewN | apply Kd.R_drew)); exact HO291.out))) (below_size (by repeat (first | (with_reducible first | exact HB.out | apply below_alloc | apply pw_below_drewN | apply below_drew1 | refine below_set ?_ GE288.out) | exact HB.out)))); have n2_ := Aside0.mk (blk_below (g := gb288) (o := .cells kArr 92 (0, 0)) (by (with_reducible repeat (first | refine blk_drewN ?_ _ | refine blk_drew ?_ | refine blk_alloc ?_ _)); exact BK288.out) hb); have n3_ := Aside0.mk (below_step (by repeat (first | (with_reducible first | exact HB.out | apply below_alloc | apply pw_below_drewN | apply below_drew1 | refine below_set ?_ GE288.out) | exact HB.out)) hb); clear HO291; clear BK288; clear HB; have HO291 := n0_; have HO294 := n1_; have BK288 := n2_; have HB := n3_; clear n0_ n1_ n2_ n3_; (try clear hb); (try clear hb2); (try clear hk); (try clear hi); (try clear ho0); obtain ⟨Ao18, co18, eo18⟩ := Kd.R_slice HO294.out; subst eo18; have p295 : 0 ≤ (0 : Int) := (by omega); have q295 : 0 < (t292.length : Int) := of_decide_eq_true (by first | (with_reducible assumption) | assumption); obtain ⟨ad295, e295, hx295_0⟩ := Kd.at_int (Kd.R_reads' HO294.out).2.2 0 p295 q295; cases e295; have qi295 : (0 < t292.length) = True := eq_true (by omega); (try rw [show ((0 : Int)).toNat = 0 from rfl] at hx295_0); (try rw [Addr.add_zero'] at hx295_0); replace p295 := eq_true p295; replace q295 := eq_true q295; have p296 : 0 ≤ (1 : Int) := (by omega); have q296 : 1 < (t292.length : Int) := of_decide_eq_true (by first | (with_reducible assumption) | assumption); obtain ⟨ad296, e296, hx296_0⟩ := Kd.at_int (Kd.R_reads' HO294.out).2.2 1 p296 q296; obtain rfl : ad295 = ad296 := (by injection e296); (try simp only [show (1 : Int).toNat = 1 from rfl, Nat.reduceMul, Nat.reduceEqDiff, Go.Addr.add, ↓reduceIte] at hx296_0); have qi296 : (1 < t292.length) = True := eq_true (by omega); (try rw [show ((1 : Int)).toNat = 1 from rfl] at hx296_0); replace p296 := eq_true p296; replace q296 := eq_true q296; have p297 : 0 ≤ (2 : Int) := (by omega); have q297 : 2 < (t292.length : Int) := of_decide_eq_true (by first | (with_reducible assumption) | assumption); obtain ⟨ad297, e297, hx297_0⟩ := Kd.at_int (Kd.R_reads' HO294.out).2.2 2 p297 q297; obtain rfl : ad295 = ad297 := (by injection e297); (try simp only [show (2 : Int).toNat = 2 from rfl, Nat.reduceMul, Nat.reduceEqDiff, Go.Addr.add, ↓reduceIte] at hx297_0); have qi297 : (2 < t292.length) = True := eq_true (by omega); (try rw [show ((2 : Int)).toNat = 2 from rfl] at hx297_0); replace p297 := eq_true p297; replace q297 := eq_true q297; have p298 : 0 ≤ (3 : Int) := (by omega); have q298 : 3 < (t292.length : Int) := of_decide_eq_true (by first | (with_reducible assumption) | assumption); obtain ⟨ad298, e298, hx298_0⟩ := Kd.at_int (Kd.R_reads' HO294.out).2.2 3 p298 q298; obtain rfl : ad295 = ad298 := (by injection e298); (try simp only [show (3 : Int).toNat = 3 from rfl, Nat.reduceMul, Nat.reduceEqDiff, Go.Addr.add, ↓reduceIte] at hx298_0); have qi298 : (3 < t292.length) = True := eq_true (by omega); (try rw [show ((3 : Int)).toNat = 3 from rfl] at hx298_0); replace p298 := eq_true p298; replace q298 := eq_true q298; have p299 : 0 ≤ (4 : Int) := (by omega); have q299 : 4 < (t292.length : Int) := of_decide_eq_true (by first | (with_reducible assumption) | assumption); obtain ⟨ad299, e299, hx299_0⟩ := Kd.at_int (Kd.R_reads' HO294.out).2.2 4 p299 q299; obtain rfl : ad295 = ad299 := (by injection e299); (try simp only [show (4 : Int).toNat = 4 from rfl, Nat.reduceMul, Nat.reduceEqDiff, Go.Addr.add, ↓reduceIte] at hx299_0); have qi299 : (4 < t292.length) = True := eq_true (by omega); (try rw [show ((4 : Int)).toNat = 4 from rfl] at hx299_0); replace p299 := eq_true p299; replace q299 := eq_true q299; have p300 : 0 ≤ (5 : Int) := (by omega); have q300 : 5 < (t292.length : Int) := of_decide_eq_true (by first | (with_reducible assumption) | assumption); obtain ⟨ad300, e300, hx300_0⟩ := Kd.at_int (Kd.R_reads' HO294.out).2.2 5 p300 q300; obtain rfl : ad295 = ad300 := (by injection e300); (try simp only [show (5 : Int).toNat = 5 from rfl, Nat.reduceMul, Nat.reduceEqDiff, Go.Addr.add, ↓reduceIte] at hx300_0); have qi300 : (5 < t292.length) = True := eq_true (by omega); (try rw [show ((5 : Int)).toNat = 5 from rfl] at hx300_0); replace p300 := eq_true p300; replace q300 := eq_true q300; have p301 : 0 ≤ (6 : Int) := (by omega); have q301 : 6 < (t292.length : Int) := of_decide_eq_true (by first | (with_reducible assumption) | assumption); obtain ⟨ad301, e301, hx301_0⟩ := Kd.at_int (Kd.R_reads' HO294.out).2.2 6 p301 q301; obtain rfl : ad295 = ad301 := (by injection e301); (try simp only [show (6 : Int).toNat = 6 from rfl, Nat.reduceMul, Nat.reduceEqDiff, Go.Addr.add, ↓reduceIte] at hx301_0); have qi301 : (6 < t292.length) = True := eq_true (by omega); (try rw [show ((6 : Int)).toNat = 6 from rfl] at hx301_0); replace p301 := eq_true p301; replace q301 := eq_true q301; have p302 : 0 ≤ (7 : Int) := (by omega); have q302 : 7 < (t292.length : Int) := of_decide_eq_true (by first | (with_reducible assumption) | assumption); obtain ⟨ad302, e302, hx302_0⟩ := Kd.at_int (Kd.R_reads' HO294.out).2.2 7 p302 q302; obtain rfl : ad295 = ad302 := (by injection e302); (try simp only [show (7 : Int).toNat = 7 from rfl, Nat.reduceMul, Nat.reduceEqDiff, Go.Addr.add, ↓reduceIte] at hx302_0); have qi302 : (7 < t292.length) = True := eq_true (by omega); (try rw [show ((7 : Int)).toNat = 7 from rfl] at hx302_0); replace p302 := eq_true p302; replace q302 := eq_true q302))
         repeat (go_quiet (first | (go_at_call 80; (with_reducible refine (impl_constants.calls   _ A3.out).mono ?_); rintro e w14 ⟨rfl, hb⟩; have n0_ := Aside0.mk (below_step (by repeat (first | (with_reducible first | exact HB.out | apply below_alloc | apply pw_below_drewN | apply below_drew1) | exact HB.out)) hb); clear HB; have HB := n0_; clear n0_; (try clear hb); (try clear hb2); (try clear hk); (try clear hi)) | ((with_reducible refine gate_dst (N := 5) rfl ?_); refine box_event ?hg (N := 5) ?hd (cs := kZero) (t := 92) ?hr ?_; (case hd => rfl); (case hg => rfl); (case hr => first | (go_simp; done) | (go_simp; rfl)); intro gb288 hg w15 hbox hb; have n0_ := Aside0.mk (below_step (by repeat (first | (with_reducible first | exact HB.out | apply below_alloc | apply pw_below_drewN | apply below_drew1) | exact HB.out)) hb); have n1_ := Aside0.mk (hbox); have n2_ := Aside0.mk ((by rw [hg]; exact (below_size (by repeat (first | (with_reducible first | exact HB.out | apply below_alloc | apply pw_below_drewN | apply below_drew1) | exact HB.out))) : w.heap.size ≤ gb288)); have n3_ := Aside0.mk ((by rw [hg]; exact (below_size (by repeat (first | (with_reducible first | exact HB.out | apply below_alloc | apply pw_below_drewN | apply below_drew1) | exact HB.out))) : w.heap.size ≤ gb288)); clear HB; have HB := n0_; have BK288 := n1_; have GW288 := n2_; have GE288 := n3_; clear n0_ n1_ n2_ n3_; clear hb hbox hg) | ((with_reducible refine gate_store (t := 92) (p := 5) rfl ?_); refine store_arr rfl 92 _ _ rfl gb288 kArr rfl rfl 92 kZero BK288.out kArr_info kZero_size kArr_one HB.out GE288.out ?_; intro w9_ hbox hb; have n0_ := Aside0.mk hb; have n1_ := Aside0.mk hbox; clear HB; clear BK288; have HB := n0_; have BK288 := n1_; clear n0_ n1_ hb hbox) | (go_at_call 81; (with_reducible refine (impl_expanded.calls k a1 t289 _ A4.out).mono ?_); rintro e w16 ⟨v290, rfl, ho0, hb⟩; have n0_ := Aside0.mk (Kd.R_lower ho0 (below_size (by repeat (first | (with_reducible first | exact HB.out | apply below_alloc | apply pw_below_drewN | apply below_drew1 | refine below_set ?_ GE288.out) | exact HB.out)))); have n1_ := Aside0.mk (blk_below (g := gb288) (o := .cells kArr 92 (0, 0)) (by (with_reducible repeat (first | refine blk_drewN ?_ _ | refine blk_drew ?_ | refine blk_alloc ?_ _)); exact BK288.out) hb); have n2_ := Aside0.mk (below_step (by repeat (first | (with_reducible first | exact HB.out | apply below_alloc | apply pw_below_drewN | apply below_drew1 | refine below_set ?_ GE288.out) | exact HB.out)) hb); clear BK288; clear HB; have HO291 := n0_; have BK288 := n1_; have HB := n2_; clear n0_ n1_ n2_; (try clear hb); (try clear hb2); (try clear hk); (try clear hi); (try clear ho0)) | (go_at_call 82; (with_reducible refine (impl_wordsOf.calls k a0 t292 _ A5.out).mono ?_); rintro e w17 ⟨v293, rfl, ho0, hb⟩; have n0_ := Aside0.mk (Kd.R_elder' (by (with_reducible repeat (first | apply Kd.R_alloc | apply Kd.R_drewN | apply Kd.R_drew)); exact HO291.out) (Kd.R_base ho0) hb); have n1_ := Aside0.mk (Kd.R_lower (Kd.R_new' ho0 (Kd.R_lt (by (with_reducible repeat (first | apply Kd.R_alloc | apply Kd.R_drewN | apply Kd.R_drew)); exact HO291.out))) (below_size (by repeat (first | (with_reducible first | exact HB.out | apply below_alloc | apply pw_below_drewN | apply below_drew1 | refine below_set ?_ GE288.out) | exact HB.out)))); have n2_ := Aside0.mk (blk_below (g := gb288) (o := .cells kArr 92 (0, 0)) (by (with_reducible repeat (first | refine blk_drewN ?_ _ | refine blk_drew ?_ | refine blk_alloc ?_ _)); exact BK288.out) hb); have n3_ := Aside0.mk (below_step (by repeat (first | (with_reducible first | exact HB.out | apply below_alloc | apply pw_below_drewN | apply below_drew1 | refine below_set ?_ GE288.out) | exact HB.out)) hb); clear HO291; clear BK288; clear HB; have HO291 := n0_; have HO294 := n1_; have BK288 := n2_; have HB := n3_; clear n0_ n1_ n2_ n3_; (try clear hb); (try clear hb2); (try clear hk); (try clear hi); (try clear ho0); obtain ⟨Ao18, co18, eo18⟩ := Kd.R_slice HO294.out; subst eo18; have p295 : 0 ≤ (0 : Int) := (by omega); have q295 : 0 < (t292.length : Int) := of_decide_eq_true (by first | (with_reducible assumption) | assumption); obtain ⟨ad295, e295, hx295_0⟩ := Kd.at_int (Kd.R_reads' HO294.out).2.2 0 p295 q295; cases e295; have qi295 : (0 < t292.length) = True := eq_true (by omega); (try rw [show ((0 : Int)).toNat = 0 from rfl] at hx295_0); (try rw [Addr.add_zero'] at hx295_0); replace p295 := eq_true p295; replace q295 := eq_true q295; have p296 : 0 ≤ (1 : Int) := (by omega); have q296 : 1 < (t292.length : Int) := of_decide_eq_true (by first | (with_reducible assumption) | assumption); obtain ⟨ad296, e296, hx296_0⟩ := Kd.at_int (Kd.R_reads' HO294.out).2.2 1 p296 q296; obtain rfl : ad295 = ad296 := (by injection e296); (try simp only [show (1 : Int).toNat = 1 from rfl, Nat.reduceMul, Nat.reduceEqDiff, Go.Addr.add, ↓reduceIte] at hx296_0); have qi296 : (1 < t292.length) = True := eq_true (by omega); (try rw [show ((1 : Int)).toNat = 1 from rfl] at hx296_0); replace p296 := eq_true p296; replace q296 := eq_true q296; have p297 : 0 ≤ (2 : Int) := (by omega); have q297 : 2 < (t292.length : Int) := of_decide_eq_true (by first | (with_reducible assumption) | assumption); obtain ⟨ad297, e297, hx297_0⟩ := Kd.at_int (Kd.R_reads' HO294.out).2.2 2 p297 q297; obtain rfl : ad295 = ad297 := (by injection e297); (try simp only [show (2 : Int).toNat = 2 from rfl, Nat.reduceMul, Nat.reduceEqDiff, Go.Addr.add, ↓reduceIte] at hx297_0); have qi297 : (2 < t292.length) = True := eq_true (by omega); (try rw [show ((2 : Int)).toNat = 2 from rfl] at hx297_0); replace p297 := eq_true p297; replace q297 := eq_true q297; have p298 : 0 ≤ (3 : Int) := (by omega); have q298 : 3 < (t292.length : Int) := of_decide_eq_true (by first | (with_reducible assumption) | assumption); obtain ⟨ad298, e298, hx298_0⟩ := Kd.at_int (Kd.R_reads' HO294.out).2.2 3 p298 q298; obtain rfl : ad295 = ad298 := (by injection e298); (try simp only [show (3 : Int).toNat = 3 from rfl, Nat.reduceMul, Nat.reduceEqDiff, Go.Addr.add, ↓reduceIte] at hx298_0); have qi298 : (3 < t292.length) = True := eq_true (by omega); (try rw [show ((3 : Int)).toNat = 3 from rfl] at hx298_0); replace p298 := eq_true p298; replace q298 := eq_true q298; have p299 : 0 ≤ (4 : Int) := (by omega); have q299 : 4 < (t292.length : Int) := of_decide_eq_true (by first | (with_reducible assumption) | assumption); obtain ⟨ad299, e299, hx299_0⟩ := Kd.at_int (Kd.R_reads' HO294.out).2.2 4 p299 q299; obtain rfl : ad295 = ad299 := (by injection e299); (try simp only [show (4 : Int).toNat = 4 from rfl, Nat.reduceMul, Nat.reduceEqDiff, Go.Addr.add, ↓reduceIte] at hx299_0); have qi299 : (4 < t292.length) = True := eq_true (by omega); (try rw [show ((4 : Int)).toNat = 4 from rfl] at hx299_0); replace p299 := eq_true p299; replace q299 := eq_true q299; have p300 : 0 ≤ (5 : Int) := (by omega); have q300 : 5 < (t292.length : Int) := of_decide_eq_true (by first | (with_reducible assumption) | assumption); obtain ⟨ad300, e300, hx300_0⟩ := Kd.at_int (Kd.R_reads' HO294.out).2.2 5 p300 q300; obtain rfl : ad295 = ad300 := (by injection e300); (try simp only [show (5 : Int).toNat = 5 from rfl, Nat.reduceMul, Nat.reduceEqDiff, Go.Addr.add, ↓reduceIte] at hx300_0); have qi300 : (5 < t292.length) = True := eq_true (by omega); (try rw [show ((5 : Int)).toNat = 5 from rfl] at hx300_0); replace p300 := eq_true p300; replace q300 := eq_true q300; have p301 : 0 ≤ (6 : Int) := (by omega); have q301 : 6 < (t292.length : Int) := of_decide_eq_true (by first | (with_reducible assumption) | assumption); obtain ⟨ad301, e301, hx301_0⟩ := Kd.at_int (Kd.R_reads' HO294.out).2.2 6 p301 q301; obtain rfl : ad295 = ad301 := (by injection e301); (try simp only [show (6 : Int).toNat = 6 from rfl, Nat.reduceMul, Nat.reduceEqDiff, Go.Addr.add, ↓reduceIte] at hx301_0); have qi301 : (6 < t292.length) = True := eq_true (by omega); (try rw [show ((6 : Int)).toNat = 6 from rfl] at hx301_0); replace p301 := eq_true p301; replace q301 := eq_true q301; have p302 : 0 ≤ (7 : Int) := (by omega); have q302 : 7 < (t292.length : Int) := of_decide_eq_true (by first | (with_reducible assumption) | assumption); obtain ⟨ad302, e302, hx302_0⟩ := Kd.at_int (Kd.R_reads' HO294.out).2.2 7 p302 q302; obtain rfl : ad295 = ad302 := (by injection e302); (try simp only [show (7 : Int).toNat = 7 from rfl, Nat.reduceMul, Nat.reduceEqDiff, Go.Addr.add, ↓reduceIte] at hx302_0); have qi302 : (7 < t292.length) = True := eq_true (by omega); (try rw [show ((7 : Int)).toNat = 7 from rfl] at hx302_0); replace p302 := eq_true p302; replace q302 := eq_true q302)); try go_wp2_with (first | (go_at_call 80; (with_reducible refine (impl_constants.calls   _ A3.out).mono ?_); rintro e w14 ⟨rfl, hb⟩; have n0_ := Aside0.mk (below_step (by repeat (first | (with_reducible first | exact HB.out | apply below_alloc | apply pw_below_drewN | apply below_drew1) | exact HB.out)) hb); clear HB; have HB := n0_; clear n0_; (try clear hb); (try clear hb2); (try clear hk); (try clear hi)) | ((with_reducible refine gate_dst (N := 5) rfl ?_); refine box_event ?hg (N := 5) ?hd (cs := kZero) (t := 92) ?hr ?_; (case hd => rfl); (case hg => rfl); (case hr => first | (go_simp; done) | (go_simp; rfl)); intro gb288 hg w15 hbox hb; have n0_ := Aside0.mk (below_step (by repeat (first | (with_reducible first | exact HB.out | apply below_alloc | apply pw_below_drewN | apply below_drew1) | exact HB.out)) hb); have n1_ := Aside0.mk (hbox); have n2_ := Aside0.mk ((by rw [hg]; exact (below_size (by repeat (first | (with_reducible first | exact HB.out | apply below_alloc | apply pw_below_drewN | apply below_drew1) | exact HB.out))) : w.heap.size ≤ gb288)); have n3_ := Aside0.mk ((by rw [hg]; exact (below_size (by repeat (first | (with_reducible first | exact HB.out | apply below_alloc | apply pw_below_drewN | apply below_drew1) | exact HB.out))) : w.heap.size ≤ gb288)); clear HB; have HB := n0_; have BK288 := n1_; have GW288 := n2_; have GE288 := n3_; clear n0_ n1_ n2_ n3_; clear hb hbox hg) | ((with_reducible refine gate_store (t := 92) (p := 5) rfl ?_); refine store_arr rfl 92 _ _ rfl gb288 kArr rfl rfl 92 kZero BK288.out kArr_info kZero_size kArr_one HB.out GE288.out ?_; intro w9_ hbox hb; have n0_ := Aside0.mk hb; have n1_ := Aside0.mk hbox; clear HB; clear BK288; have HB := n0_; have BK288 := n1_; clear n0_ n1_ hb hbox) | (go_at_call 81; (with_reducible refine (impl_expanded.calls k a1 t289 _ A4.out).mono ?_); rintro e w16 ⟨v290, rfl, ho0, hb⟩; have n0_ := Aside0.mk (Kd.R_lower ho0 (below_size (by repeat (first | (with_reducible first | exact HB.out | apply below_alloc | apply pw_below_drewN | apply below_drew1 | refine below_set ?_ GE288.out) | exact HB.out)))); have n1_ := Aside0.mk (blk_below (g := gb288) (o := .cells kArr 92 (0, 0)) (by (with_reducible repeat (first | refine blk_drewN ?_ _ | refine blk_drew ?_ | refine blk_alloc ?_ _)); exact BK288.out) hb); have n2_ := Aside0.mk (below_step (by repeat (first | (with_reducible first | exact HB.out | apply below_alloc | apply pw_below_drewN | apply below_drew1 | refine below_set ?_ GE288.out) | exact HB.out)) hb); clear BK288; clear HB; have HO291 := n0_; have BK288 := n1_; have HB := n2_; clear n0_ n1_ n2_; (try clear hb); (try clear hb2); (try clear hk); (try clear hi); (try clear ho0)) | (go_at_call 82; (with_reducible refine (impl_wordsOf.calls k a0 t292 _ A5.out).mono ?_); rintro e w17 ⟨v293, rfl, ho0, hb⟩; have n0_ := Aside0.mk (Kd.R_elder' (by (with_reducible repeat (first | apply Kd.R_alloc | apply Kd.R_drewN | apply Kd.R_drew)); exact HO291.out) (Kd.R_base ho0) hb); have n1_ := Aside0.mk (Kd.R_lower (Kd.R_new' ho0 (Kd.R_lt (by (with_reducible repeat (first | apply Kd.R_alloc | apply Kd.R_drewN | apply Kd.R_drew)); exact HO291.out))) (below_size (by repeat (first | (with_reducible first | exact HB.out | apply below_alloc | apply pw_below_drewN | apply below_drew1 | refine below_set ?_ GE288.out) | exact HB.out)))); have n2_ := Aside0.mk (blk_below (g := gb288) (o := .cells kArr 92 (0, 0)) (by (with_reducible repeat (first | refine blk_drewN ?_ _ | refine blk_drew ?_ | refine blk_alloc ?_ _)); exact BK288.out) hb); have n3_ := Aside0.mk (below_step (by repeat (first | (with_reducible first | exact HB.out | apply below_alloc | apply pw_below_drewN | apply below_drew1 | refine below_set ?_ GE288.out) | exact HB.out)) hb); clear HO291; clear BK288; clear HB; have HO291 := n0_; have HO294 := n1_; have BK288 := n2_; have HB := n3_; clear n0_ n1_ n2_ n3_; (try clear hb); (try clear hb2); (try clear hk); (try clear hi); (try clear ho0); obtain ⟨Ao18, co18, eo18⟩ := Kd.R_slice HO294.out; subst eo18; have p295 : 0 ≤ (0 : Int) := (by omega); have q295 : 0 < (t292.length : Int) := of_decide_eq_true (by first | (with_reducible assumption) | assumption); obtain ⟨ad295, e295, hx295_0⟩ := Kd.at_int (Kd.R_reads' HO294.out).2.2 0 p295 q295; cases e295; have qi295 : (0 < t292.length) = True := eq_true (by omega); (try rw [show ((0 : Int)).toNat = 0 from rfl] at hx295_0); (try rw [Addr.add_zero'] at hx295_0); replace p295 := eq_true p295; replace q295 := eq_true q295; have p296 : 0 ≤ (1 : Int) := (by omega); have q296 : 1 < (t292.length : Int) := of_decide_eq_true (by first | (with_reducible assumption) | assumption); obtain ⟨ad296, e296, hx296_0⟩ := Kd.at_int (Kd.R_reads' HO294.out).2.2 1 p296 q296; obtain rfl : ad295 = ad296 := (by injection e296); (try simp only [show (1 : Int).toNat = 1 from rfl, Nat.reduceMul, Nat.reduceEqDiff, Go.Addr.add, ↓reduceIte] at hx296_0); have qi296 : (1 < t292.length) = True := eq_true (by omega); (try rw [show ((1 : Int)).toNat = 1 from rfl] at hx296_0); replace p296 := eq_true p296; replace q296 := eq_true q296; have p297 : 0 ≤ (2 : Int) := (by omega); have q297 : 2 < (t292.length : Int) := of_decide_eq_true (by first | (with_reducible assumption) | assumption); obtain ⟨ad297, e297, hx297_0⟩ := Kd.at_int (Kd.R_reads' HO294.out).2.2 2 p297 q297; obtain rfl : ad295 = ad297 := (by injection e297); (try simp only [show (2 : Int).toNat = 2 from rfl, Nat.reduceMul, Nat.reduceEqDiff, Go.Addr.add, ↓reduceIte] at hx297_0); have qi297 : (2 < t292.length) = True := eq_true (by omega); (try rw [show ((2 : Int)).toNat = 2 from rfl] at hx297_0); replace p297 := eq_true p297; replace q297 := eq_true q297; have p298 : 0 ≤ (3 : Int) := (by omega); have q298 : 3 < (t292.length : Int) := of_decide_eq_true (by first | (with_reducible assumption) | assumption); obtain ⟨ad298, e298, hx298_0⟩ := Kd.at_int (Kd.R_reads' HO294.out).2.2 3 p298 q298; obtain rfl : ad295 = ad298 := (by injection e298); (try simp only [show (3 : Int).toNat = 3 from rfl, Nat.reduceMul, Nat.reduceEqDiff, Go.Addr.add, ↓reduceIte] at hx298_0); have qi298 : (3 < t292.length) = True := eq_true (by omega); (try rw [show ((3 : Int)).toNat = 3 from rfl] at hx298_0); replace p298 := eq_true p298; replace q298 := eq_true q298; have p299 : 0 ≤ (4 : Int) := (by omega); have q299 : 4 < (t292.length : Int) := of_decide_eq_true (by first | (with_reducible assumption) | assumption); obtain ⟨ad299, e299, hx299_0⟩ := Kd.at_int (Kd.R_reads' HO294.out).2.2 4 p299 q299; obtain rfl : ad295 = ad299 := (by injection e299); (try simp only [show (4 : Int).toNat = 4 from rfl, Nat.reduceMul, Nat.reduceEqDiff, Go.Addr.add, ↓reduceIte] at hx299_0); have qi299 : (4 < t292.length) = True := eq_true (by omega); (try rw [show ((4 : Int)).toNat = 4 from rfl] at hx299_0); replace p299 := eq_true p299; replace q299 := eq_true q299; have p300 : 0 ≤ (5 : Int) := (by omega); have q300 : 5 < (t292.length : Int) := of_decide_eq_true (by first | (with_reducible assumption) | assumption); obtain ⟨ad300, e300, hx300_0⟩ := Kd.at_int (Kd.R_reads' HO294.out).2.2 5 p300 q300; obtain rfl : ad295 = ad300 := (by injection e300); (try simp only [show (5 : Int).toNat = 5 from rfl, Nat.reduceMul, Nat.reduceEqDiff, Go.Addr.add, ↓reduceIte] at hx300_0); have qi300 : (5 < t292.length) = True := eq_true (by omega); (try rw [show ((5 : Int)).toNat = 5 from rfl] at hx300_0); replace p300 := eq_true p300; replace q300 := eq_true q300; have p301 : 0 ≤ (6 : Int) := (by omega); have q301 : 6 < (t292.length : Int) := of_decide_eq_true (by first | (with_reducible assumption) | assumption); obtain ⟨ad301, e301, hx301_0⟩ := Kd.at_int (Kd.R_reads' HO294.out).2.2 6 p301 q301; obtain rfl : ad295 = ad301 := (by injection e301); (try simp only [show (6 : Int).toNat = 6 from rfl, Nat.reduceMul, Nat.reduceEqDiff, Go.Addr.add, ↓reduceIte] at hx301_0); have qi301 : (6 < t292.length) = True := eq_true (by omega); (try rw [show ((6 : Int)).toNat = 6 from rfl] at hx301_0); replace p301 := eq_true p301; replace q301 := eq_true q301; have p302 : 0 ≤ (7 : Int) := (by omega); have q302 : 7 < (t292.length : Int) := of_decide_eq_true (by first | (with_reducible assumption) | assumption); obtain ⟨ad302, e302, hx302_0⟩ := Kd.at_int (Kd.R_reads' HO294.out).2.2 7 p302 q302; obtain rfl : ad295 = ad302 := (by injection e302); (try simp only [show (7 : Int).toNat = 7 from rfl, Nat.reduceMul, Nat.reduceEqDiff, Go.Addr.add, ↓reduceIte] at hx302_0); have qi302 : (7 < t292.length) = True := eq_true (by omega); (try rw [show ((7 : Int)).toNat = 7 from rfl] at hx302_0); replace p302 := eq_true p302; replace q302 := eq_true q302)))
         go_loopg [8, 9, 10, 11, 12, 13, 14, 15, 52] k (fun kq v8 v9 v10 v11 v12 v13 v14 v15 v52 w' => ∃ (x8_1 : Int) (x9_1 : Int) (x10_1 : Int) (x11_1 : Int) (x12_1 : Int) (x13_1 : Int) (x14_1 : Int) (x15_1 : Int) (x52_1 : Int), v8 = .int .i64 x8_1 ∧ v9 = .int .i64 x9_1 ∧ v10 = .int .i64 x10_1 ∧ v11 = .int .i64 x11_1 ∧ v12 = .int .i64 x12_1 ∧ v13 = .int .i64 x13_1 ∧ v14 = .int .i64 x14_1 ∧ v15 = .int .i64 x15_1 ∧ v52 = .int .i64 x52_1 ∧ Aside0 (impl_round.l0 kq t289 t292 x8_1 x9_1 x10_1 x11_1 x12_1 x13_1 x14_1 x15_1 x52_1 = some r) ∧ Aside0 (kq ≤ k) ∧ Aside0 (Kd.R (Kd.int .i64) 3 w' w.heap.size (fun k_ => some k_ ≠ ((.slice (some ad295) t292.length co18) : Value).ownBlock) v290 t289) ∧ Aside0 (Kd.R (Kd.int .i64) 3 w' w.heap.size (fun k_ => some k_ ≠ (v290 : Value).ownBlock) (.slice (some ad295) t292.length co18) t292) ∧ Aside0 (w'.heap[gb288]? = some (.cells kArr 92 (0, 0))) ∧ Aside0 (Below w.heap.size w w'))
         case atStart => exact ⟨(rd t292 0), (rd t292 1), (rd t292 2), (rd t292 3), (rd t292 4), (rd t292 5), (rd t292 6), (rd t292 7), (0), (by first | rfl | (simp; done) | (simp [*]; done)), (by first | rfl | (simp; done) | (simp [*]; done)), (by first | rfl | (simp; done) | (simp [*]; done)), (by first | rfl | (simp; done) | (simp [*]; done)), (by first | rfl | (simp; done) | (simp [*]; done)), (by first | rfl | (simp; done) | (simp [*]; done)), (by first | rfl | (simp; done) | (simp [*]; done)), (by first | rfl | (simp; done) | (simp [*]; done)), (by first | rfl | (simp; done) | (simp [*]; done)), H', ⟨Nat.le_refl _⟩, ⟨by (with_reducible repeat (first | apply Kd.R_alloc | apply Kd.R_drewN | apply Kd.R_drew)); exact Kd.R_mono HO291.out (fun _ hk => hk.2)⟩, ⟨by (with_reducible repeat (first | apply Kd.R_alloc | apply Kd.R_drewN | apply Kd.R_drew)); exact Kd.R_mono HO294.out (fun _ hk => hk.2)⟩, ⟨by (with_reducible repeat (first | refine blk_drewN ?_ _ | refine blk_drew ?_ | refine blk_alloc ?_ _)); exact BK288.out⟩, ⟨by repeat (first | (with_reducible first | exact HB.out | apply below_alloc | apply pw_below_drewN | apply below_drew1 | refine below_set ?_ GE288.out) | exact HB.out)⟩⟩
         case round =>
          clear H'
          try clear c1; try clear p2; try clear q2; try clear hx2; try clear qi2; try clear p3; try clear q3; try clear hx3; try clear qi3; try clear c6; try clear c6b0; try clear c6b1; try clear c7; try clear c7b0; try clear c7b1; try clear c8; try clear c8b0; try clear c8b1; try clear c9; try clear c9b0; try clear c9b1; try clear c10; try clear c10b0; try clear c10b1; try clear c11; try clear c11b0; try clear c11b1; try clear c12; try clear c12b0; try clear c12b1; try clear c13; try clear c13b0; try clear c13b1; try clear hx295_0; try clear hx296_0; try clear hx297_0; try clear hx298_0; try clear hx299_0; try clear hx300_0; try clear hx301_0; try clear hx302_0; try clear p295; try clear p296; try clear p297; try clear p298; try clear p299; try clear p300; try clear p301; try clear p302; try clear q295; try clear q296; try clear q297; try clear q298; try clear q299; try clear q300; try clear q301; try clear q302
          obtain ⟨x8_1, x9_1, x10_1, x11_1, x12_1, x13_1, x14_1, x15_1, x52_1, rfl, rfl, rfl, rfl, rfl, rfl, rfl, rfl, rfl, HA, HK1, HO_6, HO_7, BK288, HB⟩ := hrel
          cases gk with
          | zero => exact absurd HA.out (by simp [impl_round.l0])
          | succ k1 =>
           have H := HA.out
           clear HA
           simp only [impl_round.l0] at H
           by_cases c19 : x52_1 < 64
           ·
            rw [if_pos c19] at H
            have c19b0 : decide (x52_1 < 64) = true := decide_eq_true c19
            clear c19
            replace H := Option.bind_eq_some_iff.mp H
            obtain ⟨t303, A200, H⟩ := H
            replace H : ((impl_turnRight.f x12_1 11).bind fun t304 => ((impl_turnRight.f x12_1 25).bind fun t305 => (if 0 ≤ x52_1 then (if x52_1 < (t289.length : Int) then ((impl_turnRight.f x8_1 2).bind fun t307 => ((impl_turnRight.f x8_1 13).bind fun t308 => ((impl_turnRight.f x8_1 22).bind fun t309 => (impl_round.l0 k1 t289 t292 (Go.bits .and .i64 (wrap64 ((wrap64 ((wrap64 ((wrap64 ((wrap64 (x15_1 + (Go.bits .xor .i64 (Go.bits .xor .i64 t303 t304) t305))) + (Go.bits .xor .i64 (Go.bits .and .i64 x12_1 x13_1) (Go.bits .and .i64 (Go.bits .xor .i64 4294967295 x12_1) x14_1)))) + (rd kTab x52_1))) + (rd t289 x52_1))) + (wrap64 ((Go.bits .xor .i64 (Go.bits .xor .i64 t307 t308) t309) + (Go.bits .xor .i64 (Go.bits .xor .i64 (Go.bits .and .i64 x8_1 x9_1) (Go.bits .and .i64 x8_1 x10_1)) (Go.bits .and .i64 x9_1 x10_1)))))) 4294967295) x8_1 x9_1 x10_1 (Go.bits .and .i64 (wrap64 (x11_1 + (wrap64 ((wrap64 ((wrap64 ((wrap64 (x15_1 + (Go.bits .xor .i64 (Go.bits .xor .i64 t303 t304) t305))) + (Go.bits .xor .i64 (Go.bits .and .i64 x12_1 x13_1) (Go.bits .and .i64 (Go.bits .xor .i64 4294967295 x12_1) x14_1)))) + (rd kTab x52_1))) + (rd t289 x52_1))))) 4294967295) x12_1 x13_1 x14_1 (wrap64 (x52_1 + 1)))))) else (none)) else (none)))) = some r := H
            have A20 := Aside0.mk A200
            clear A200
            replace H := Option.bind_eq_some_iff.mp H
            obtain ⟨t304, A210, H⟩ := H
            replace H : ((impl_turnRight.f x12_1 25).bind fun t305 => (if 0 ≤ x52_1 then (if x52_1 < (t289.length : Int) then ((impl_turnRight.f x8_1 2).bind fun t307 => ((impl_turnRight.f x8_1 13).bind fun t308 => ((impl_turnRight.f x8_1 22).bind fun t309 => (impl_round.l0 k1 t289 t292 (Go.bits .and .i64 (wrap64 ((wrap64 ((wrap64 ((wrap64 ((wrap64 (x15_1 + (Go.bits .xor .i64 (Go.bits .xor .i64 t303 t304) t305))) + (Go.bits .xor .i64 (Go.bits .and .i64 x12_1 x13_1) (Go.bits .and .i64 (Go.bits .xor .i64 4294967295 x12_1) x14_1)))) + (rd kTab x52_1))) + (rd t289 x52_1))) + (wrap64 ((Go.bits .xor .i64 (Go.bits .xor .i64 t307 t308) t309) + (Go.bits .xor .i64 (Go.bits .xor .i64 (Go.bits .and .i64 x8_1 x9_1) (Go.bits .and .i64 x8_1 x10_1)) (Go.bits .and .i64 x9_1 x10_1)))))) 4294967295) x8_1 x9_1 x10_1 (Go.bits .and .i64 (wrap64 (x11_1 + (wrap64 ((wrap64 ((wrap64 ((wrap64 (x15_1 + (Go.bits .xor .i64 (Go.bits .xor .i64 t303 t304) t305))) + (Go.bits .xor .i64 (Go.bits .and .i64 x12_1 x13_1) (Go.bits .and .i64 (Go.bits .xor .i64 4294967295 x12_1) x14_1)))) + (rd kTab x52_1))) + (rd t289 x52_1))))) 4294967295) x12_1 x13_1 x14_1 (wrap64 (x52_1 + 1)))))) else (none)) else (none))) = some r := H
            have A21 := Aside0.mk A210
            clear A210
            replace H := Option.bind_eq_some_iff.mp H
            obtain ⟨t305, A220, H⟩ := H
            replace H : (if 0 ≤ x52_1 then (if x52_1 < (t289.length : Int) then ((impl_turnRight.f x8_1 2).bind fun t307 => ((impl_turnRight.f x8_1 13).bind fun t308 => ((impl_turnRight.f x8_1 22).bind fun t309 => (impl_round.l0 k1 t289 t292 (Go.bits .and .i64 (wrap64 ((wrap64 ((wrap64 ((wrap64 ((wrap64 (x15_1 + (Go.bits .xor .i64 (Go.bits .xor .i64 t303 t304) t305))) + (Go.bits .xor .i64 (Go.bits .and .i64 x12_1 x13_1) (Go.bits .and .i64 (Go.bits .xor .i64 4294967295 x12_1) x14_1)))) + (rd kTab x52_1))) + (rd t289 x52_1))) + (wrap64 ((Go.bits .xor .i64 (Go.bits .xor .i64 t307 t308) t309) + (Go.bits .xor .i64 (Go.bits .xor .i64 (Go.bits .and .i64 x8_1 x9_1) (Go.bits .and .i64 x8_1 x10_1)) (Go.bits .and .i64 x9_1 x10_1)))))) 4294967295) x8_1 x9_1 x10_1 (Go.bits .and .i64 (wrap64 (x11_1 + (wrap64 ((wrap64 ((wrap64 ((wrap64 (x15_1 + (Go.bits .xor .i64 (Go.bits .xor .i64 t303 t304) t305))) + (Go.bits .xor .i64 (Go.bits .and .i64 x12_1 x13_1) (Go.bits .and .i64 (Go.bits .xor .i64 4294967295 x12_1) x14_1)))) + (rd kTab x52_1))) + (rd t289 x52_1))))) 4294967295) x12_1 x13_1 x14_1 (wrap64 (x52_1 + 1)))))) else (none)) else (none)) = some r := H
            have A22 := Aside0.mk A220
            clear A220
            by_cases c23 : 0 ≤ x52_1
            ·
             rw [if_pos c23] at H
             have c23b0 : decide (0 ≤ x52_1) = true := decide_eq_true c23
             clear c23
             have hk76_ := kTab_cell BK288.out x52_1 (of_decide_eq_true (by first | (with_reducible assumption) | assumption)) (of_decide_eq_true (by first | (with_reducible assumption) | assumption)); have pk76_ := eq_true (of_decide_eq_true (by first | (with_reducible assumption) | assumption) : 0 ≤ x52_1); have qk76_ := eq_true (of_decide_eq_true (by first | (with_reducible assumption) | assumption) : x52_1 < 64)
             by_cases c24 : x52_1 < (t289.length : Int)
             ·
              rw [if_pos c24] at H
              have c24b0 : decide (x52_1 < (t289.length : Int)) = true := decide_eq_true c24
              clear c24
              replace H := Option.bind_eq_some_iff.mp H
              obtain ⟨t307, A250, H⟩ := H
              replace H : ((impl_turnRight.f x8_1 13).bind fun t308 => ((impl_turnRight.f x8_1 22).bind fun t309 => (impl_round.l0 k1 t289 t292 (Go.bits .and .i64 (wrap64 ((wrap64 ((wrap64 ((wrap64 ((wrap64 (x15_1 + (Go.bits .xor .i64 (Go.bits .xor .i64 t303 t304) t305))) + (Go.bits .xor .i64 (Go.bits .and .i64 x12_1 x13_1) (Go.bits .and .i64 (Go.bits .xor .i64 4294967295 x12_1) x14_1)))) + (rd kTab x52_1))) + (rd t289 x52_1))) + (wrap64 ((Go.bits .xor .i64 (Go.bits .xor .i64 t307 t308) t309) + (Go.bits .xor .i64 (Go.bits .xor .i64 (Go.bits .and .i64 x8_1 x9_1) (Go.bits .and .i64 x8_1 x10_1)) (Go.bits .and .i64 x9_1 x10_1)))))) 4294967295) x8_1 x9_1 x10_1 (Go.bits .and .i64 (wrap64 (x11_1 + (wrap64 ((wrap64 ((wrap64 ((wrap64 (x15_1 + (Go.bits .xor .i64 (Go.bits .xor .i64 t303 t304) t305))) + (Go.bits .xor .i64 (Go.bits .and .i64 x12_1 x13_1) (Go.bits .and .i64 (Go.bits .xor .i64 4294967295 x12_1) x14_1)))) + (rd kTab x52_1))) + (rd t289 x52_1))))) 4294967295) x12_1 x13_1 x14_1 (wrap64 (x52_1 + 1))))) = some r := H
              have A25 := Aside0.mk A250
              clear A250
              replace H := Option.bind_eq_some_iff.mp H
              obtain ⟨t308, A260, H⟩ := H
              replace H : ((impl_turnRight.f x8_1 22).bind fun t309 => (impl_round.l0 k1 t289 t292 (Go.bits .and .i64 (wrap64 ((wrap64 ((wrap64 ((wrap64 ((wrap64 (x15_1 + (Go.bits .xor .i64 (Go.bits .xor .i64 t303 t304) t305))) + (Go.bits .xor .i64 (Go.bits .and .i64 x12_1 x13_1) (Go.bits .and .i64 (Go.bits .xor .i64 4294967295 x12_1) x14_1)))) + (rd kTab x52_1))) + (rd t289 x52_1))) + (wrap64 ((Go.bits .xor .i64 (Go.bits .xor .i64 t307 t308) t309) + (Go.bits .xor .i64 (Go.bits .xor .i64 (Go.bits .and .i64 x8_1 x9_1) (Go.bits .and .i64 x8_1 x10_1)) (Go.bits .and .i64 x9_1 x10_1)))))) 4294967295) x8_1 x9_1 x10_1 (Go.bits .and .i64 (wrap64 (x11_1 + (wrap64 ((wrap64 ((wrap64 ((wrap64 (x15_1 + (Go.bits .xor .i64 (Go.bits .xor .i64 t303 t304) t305))) + (Go.bits .xor .i64 (Go.bits .and .i64 x12_1 x13_1) (Go.bits .and .i64 (Go.bits .xor .i64 4294967295 x12_1) x14_1)))) + (rd kTab x52_1))) + (rd t289 x52_1))))) 4294967295) x12_1 x13_1 x14_1 (wrap64 (x52_1 + 1)))) = some r := H
              have A26 := Aside0.mk A260
              clear A260
              replace H := Option.bind_eq_some_iff.mp H
              obtain ⟨t309, A270, H⟩ := H
              replace H : (impl_round.l0 k1 t289 t292 (Go.bits .and .i64 (wrap64 ((wrap64 ((wrap64 ((wrap64 ((wrap64 (x15_1 + (Go.bits .xor .i64 (Go.bits .xor .i64 t303 t304) t305))) + (Go.bits .xor .i64 (Go.bits .and .i64 x12_1 x13_1) (Go.bits .and .i64 (Go.bits .xor .i64 4294967295 x12_1) x14_1)))) + (rd kTab x52_1))) + (rd t289 x52_1))) + (wrap64 ((Go.bits .xor .i64 (Go.bits .xor .i64 t307 t308) t309) + (Go.bits .xor .i64 (Go.bits .xor .i64 (Go.bits .and .i64 x8_1 x9_1) (Go.bits .and .i64 x8_1 x10_1)) (Go.bits .and .i64 x9_1 x10_1)))))) 4294967295) x8_1 x9_1 x10_1 (Go.bits .and .i64 (wrap64 (x11_1 + (wrap64 ((wrap64 ((wrap64 ((wrap64 (x15_1 + (Go.bits .xor .i64 (Go.bits .xor .i64 t303 t304) t305))) + (Go.bits .xor .i64 (Go.bits .and .i64 x12_1 x13_1) (Go.bits .and .i64 (Go.bits .xor .i64 4294967295 x12_1) x14_1)))) + (rd kTab x52_1))) + (rd t289 x52_1))))) 4294967295) x12_1 x13_1 x14_1 (wrap64 (x52_1 + 1))) = some r := H
              have A27 := Aside0.mk A270
              clear A270
              have H' := Aside0.mk H
              clear H
              go_wp2_with (first | (go_at_call 83; (with_reducible refine (impl_turnRight.calls x12_1 6 t303 _ A20.out).mono ?_); rintro e w' ⟨rfl, ⟨nd, rfl⟩⟩; (try first | exact ⟨rfl, _, World.drewN_drewN _ _ _⟩ | exact ⟨rfl, _, Eq.trans (World.drewN_drewN _ _ _) (congrArg (World.drewN _) (Nat.add_assoc _ _ _))⟩)) | (go_at_call 83; (with_reducible refine (impl_turnRight.calls x12_1 11 t304 _ A21.out).mono ?_); rintro e w' ⟨rfl, ⟨nd, rfl⟩⟩; (try first | exact ⟨rfl, _, World.drewN_drewN _ _ _⟩ | exact ⟨rfl, _, Eq.trans (World.drewN_drewN _ _ _) (congrArg (World.drewN _) (Nat.add_assoc _ _ _))⟩)) | (go_at_call 83; (with_reducible refine (impl_turnRight.calls x12_1 25 t305 _ A22.out).mono ?_); rintro e w' ⟨rfl, ⟨nd, rfl⟩⟩; (try first | exact ⟨rfl, _, World.drewN_drewN _ _ _⟩ | exact ⟨rfl, _, Eq.trans (World.drewN_drewN _ _ _) (congrArg (World.drewN _) (Nat.add_assoc _ _ _))⟩); obtain ⟨Ao28, co28, eo28⟩ := Kd.R_slice HO_6.out; subst eo28; have p306 : 0 ≤ (x52_1 : Int) := of_decide_eq_true (by first | (with_reducible assumption) | assumption); have q306 : x52_1 < (t289.length : Int) := of_decide_eq_true (by first | (with_reducible assumption) | assumption); obtain ⟨ad306, e306, hx306_0⟩ := Kd.at_int (Kd.R_reads' HO_6.out).2.2 x52_1 p306 q306; cases e306; replace p306 := eq_true p306; replace q306 := eq_true q306) | (go_at_call 83; (with_reducible refine (impl_turnRight.calls x8_1 2 t307 _ A25.out).mono ?_); rintro e w' ⟨rfl, ⟨nd, rfl⟩⟩; (try first | exact ⟨rfl, _, World.drewN_drewN _ _ _⟩ | exact ⟨rfl, _, Eq.trans (World.drewN_drewN _ _ _) (congrArg (World.drewN _) (Nat.add_assoc _ _ _))⟩)) | (go_at_call 83; (with_reducible refine (impl_turnRight.calls x8_1 13 t308 _ A26.out).mono ?_); rintro e w' ⟨rfl, ⟨nd, rfl⟩⟩; (try first | exact ⟨rfl, _, World.drewN_drewN _ _ _⟩ | exact ⟨rfl, _, Eq.trans (World.drewN_drewN _ _ _) (congrArg (World.drewN _) (Nat.add_assoc _ _ _))⟩)) | (go_at_call 83; (with_reducible refine (impl_turnRight.calls x8_1 22 t309 _ A27.out).mono ?_); rintro e w' ⟨rfl, ⟨nd, rfl⟩⟩; (try first | exact ⟨rfl, _, World.drewN_drewN _ _ _⟩ | exact ⟨rfl, _, Eq.trans (World.drewN_drewN _ _ _) (congrArg (World.drewN _) (Nat.add_assoc _ _ _))⟩)))
              repeat (go_quiet (first | (go_at_call 83; (with_reducible refine (impl_turnRight.calls x12_1 6 t303 _ A20.out).mono ?_); rintro e w' ⟨rfl, ⟨nd, rfl⟩⟩; (try first | exact ⟨rfl, _, World.drewN_drewN _ _ _⟩ | exact ⟨rfl, _, Eq.trans (World.drewN_drewN _ _ _) (congrArg (World.drewN _) (Nat.add_assoc _ _ _))⟩)) | (go_at_call 83; (with_reducible refine (impl_turnRight.calls x12_1 11 t304 _ A21.out).mono ?_); rintro e w' ⟨rfl, ⟨nd, rfl⟩⟩; (try first | exact ⟨rfl, _, World.drewN_drewN _ _ _⟩ | exact ⟨rfl, _, Eq.trans (World.drewN_drewN _ _ _) (congrArg (World.drewN _) (Nat.add_assoc _ _ _))⟩)) | (go_at_call 83; (with_reducible refine (impl_turnRight.calls x12_1 25 t305 _ A22.out).mono ?_); rintro e w' ⟨rfl, ⟨nd, rfl⟩⟩; (try first | exact ⟨rfl, _, World.drewN_drewN _ _ _⟩ | exact ⟨rfl, _, Eq.trans (World.drewN_drewN _ _ _) (congrArg (World.drewN _) (Nat.add_assoc _ _ _))⟩); obtain ⟨Ao28, co28, eo28⟩ := Kd.R_slice HO_6.out; subst eo28; have p306 : 0 ≤ (x52_1 : Int) := of_decide_eq_true (by first | (with_reducible assumption) | assumption); have q306 : x52_1 < (t289.length : Int) := of_decide_eq_true (by first | (with_reducible assumption) | assumption); obtain ⟨ad306, e306, hx306_0⟩ := Kd.at_int (Kd.R_reads' HO_6.out).2.2 x52_1 p306 q306; cases e306; replace p306 := eq_true p306; replace q306 := eq_true q306) | (go_at_call 83; (with_reducible refine (impl_turnRight.calls x8_1 2 t307 _ A25.out).mono ?_); rintro e w' ⟨rfl, ⟨nd, rfl⟩⟩; (try first | exact ⟨rfl, _, World.drewN_drewN _ _ _⟩ | exact ⟨rfl, _, Eq.trans (World.drewN_drewN _ _ _) (congrArg (World.drewN _) (Nat.add_assoc _ _ _))⟩)) | (go_at_call 83; (with_reducible refine (impl_turnRight.calls x8_1 13 t308 _ A26.out).mono ?_); rintro e w' ⟨rfl, ⟨nd, rfl⟩⟩; (try first | exact ⟨rfl, _, World.drewN_drewN _ _ _⟩ | exact ⟨rfl, _, Eq.trans (World.drewN_drewN _ _ _) (congrArg (World.drewN _) (Nat.add_assoc _ _ _))⟩)) | (go_at_call 83; (with_reducible refine (impl_turnRight.calls x8_1 22 t309 _ A27.out).mono ?_); rintro e w' ⟨rfl, ⟨nd, rfl⟩⟩; (try first | exact ⟨rfl, _, World.drewN_drewN _ _ _⟩ | exact ⟨rfl, _, Eq.trans (World.drewN_drewN _ _ _) (congrArg (World.drewN _) (Nat.add_assoc _ _ _))⟩))); try go_wp2_with (first | (go_at_call 83; (with_reducible refine (impl_turnRight.calls x12_1 6 t303 _ A20.out).mono ?_); rintro e w' ⟨rfl, ⟨nd, rfl⟩⟩; (try first | exact ⟨rfl, _, World.drewN_drewN _ _ _⟩ | exact ⟨rfl, _, Eq.trans (World.drewN_drewN _ _ _) (congrArg (World.drewN _) (Nat.add_assoc _ _ _))⟩)) | (go_at_call 83; (with_reducible refine (impl_turnRight.calls x12_1 11 t304 _ A21.out).mono ?_); rintro e w' ⟨rfl, ⟨nd, rfl⟩⟩; (try first | exact ⟨rfl, _, World.drewN_drewN _ _ _⟩ | exact ⟨rfl, _, Eq.trans (World.drewN_drewN _ _ _) (congrArg (World.drewN _) (Nat.add_assoc _ _ _))⟩)) | (go_at_call 83; (with_reducible refine (impl_turnRight.calls x12_1 25 t305 _ A22.out).mono ?_); rintro e w' ⟨rfl, ⟨nd, rfl⟩⟩; (try first | exact ⟨rfl, _, World.drewN_drewN _ _ _⟩ | exact ⟨rfl, _, Eq.trans (World.drewN_drewN _ _ _) (congrArg (World.drewN _) (Nat.add_assoc _ _ _))⟩); obtain ⟨Ao28, co28, eo28⟩ := Kd.R_slice HO_6.out; subst eo28; have p306 : 0 ≤ (x52_1 : Int) := of_decide_eq_true (by first | (with_reducible assumption) | assumption); have q306 : x52_1 < (t289.length : Int) := of_decide_eq_true (by first | (with_reducible assumption) | assumption); obtain ⟨ad306, e306, hx306_0⟩ := Kd.at_int (Kd.R_reads' HO_6.out).2.2 x52_1 p306 q306; cases e306; replace p306 := eq_true p306; replace q306 := eq_true q306) | (go_at_call 83; (with_reducible refine (impl_turnRight.calls x8_1 2 t307 _ A25.out).mono ?_); rintro e w' ⟨rfl, ⟨nd, rfl⟩⟩; (try first | exact ⟨rfl, _, World.drewN_drewN _ _ _⟩ | exact ⟨rfl, _, Eq.trans (World.drewN_drewN _ _ _) (congrArg (World.drewN _) (Nat.add_assoc _ _ _))⟩)) | (go_at_call 83; (with_reducible refine (impl_turnRight.calls x8_1 13 t308 _ A26.out).mono ?_); rintro e w' ⟨rfl, ⟨nd, rfl⟩⟩; (try first | exact ⟨rfl, _, World.drewN_drewN _ _ _⟩ | exact ⟨rfl, _, Eq.trans (World.drewN_drewN _ _ _) (congrArg (World.drewN _) (Nat.add_assoc _ _ _))⟩)) | (go_at_call 83; (with_reducible refine (impl_turnRight.calls x8_1 22 t309 _ A27.out).mono ?_); rintro e w' ⟨rfl, ⟨nd, rfl⟩⟩; (try first | exact ⟨rfl, _, World.drewN_drewN _ _ _⟩ | exact ⟨rfl, _, Eq.trans (World.drewN_drewN _ _ _) (congrArg (World.drewN _) (Nat.add_assoc _ _ _))⟩))))
              go_roundg k1
              case measure => have := HK1.out; omega
              case rel => exact ⟨(Go.bits .and .i64 (wrap64 ((wrap64 ((wrap64 ((wrap64 ((wrap64 (x15_1 + (Go.bits .xor .i64 (Go.bits .xor .i64 t303 t304) t305))) + (Go.bits .xor .i64 (Go.bits .and .i64 x12_1 x13_1) (Go.bits .and .i64 (Go.bits .xor .i64 4294967295 x12_1) x14_1)))) + (rd kTab x52_1))) + (rd t289 x52_1))) + (wrap64 ((Go.bits .xor .i64 (Go.bits .xor .i64 t307 t308) t309) + (Go.bits .xor .i64 (Go.bits .xor .i64 (Go.bits .and .i64 x8_1 x9_1) (Go.bits .and .i64 x8_1 x10_1)) (Go.bits .and .i64 x9_1 x10_1)))))) 4294967295), (x8_1), (x9_1), (x10_1), (Go.bits .and .i64 (wrap64 (x11_1 + (wrap64 ((wrap64 ((wrap64 ((wrap64 (x15_1 + (Go.bits .xor .i64 (Go.bits .xor .i64 t303 t304) t305))) + (Go.bits .xor .i64 (Go.bits .and .i64 x12_1 x13_1) (Go.bits .and .i64 (Go.bits .xor .i64 4294967295 x12_1) x14_1)))) + (rd kTab x52_1))) + (rd t289 x52_1))))) 4294967295), (x12_1), (x13_1), (x14_1), (wrap64 (x52_1 + 1)), (by first | rfl | (simp; done) | (simp [*]; done)), (by first | rfl | (simp; done) | (simp [*]; done)), (by first | rfl | (simp; done) | (simp [*]; done)), (by first | rfl | (simp; done) | (simp [*]; done)), (by first | rfl | (simp; done) | (simp [*]; done)), (by first | rfl | (simp; done) | (simp [*]; done)), (by first | rfl | (simp; done) | (simp [*]; done)), (by first | rfl | (simp; done) | (simp [*]; done)), (by first | rfl | (simp; done) | (simp [*]; done)), H', ⟨by have := HK1.out; omega⟩, ⟨by (with_reducible repeat (first | apply Kd.R_alloc | apply Kd.R_drewN | apply Kd.R_drew)); exact HO_6.out⟩, ⟨by (with_reducible repeat (first | apply Kd.R_alloc | apply Kd.R_drewN | apply Kd.R_drew)); exact HO_7.out⟩, ⟨by (with_reducible repeat (first | refine blk_drewN ?_ _ | refine blk_drew ?_ | refine blk_alloc ?_ _)); exact BK288.out⟩, ⟨by repeat (first | (with_reducible first | exact HB.out | apply below_alloc | apply pw_below_drewN | apply below_drew1 | refine below_set ?_ GE288.out) | exact HB.out)⟩⟩
             ·
              rw [if_neg c24] at H
              exact absurd H (by simp)
            ·
             rw [if_neg c23] at H
             exact absurd H (by simp)
           ·
            rw [if_neg c19] at H
            have c19b0 : decide (x52_1 < 64) = false := decide_eq_false c19
            clear c19
            obtain ⟨y310, hy310⟩ : ∃ y_ : List Int, y_ = (([x8_1, x9_1, x10_1, x11_1, x12_1, x13_1, x14_1, x15_1] : List Int)) := ⟨_, rfl⟩
            replace H : (impl_round.l1 k1 t292 y310 (y310.length : Int) 0) = some r := by first | (rw [hy310]; with_reducible exact H) | (have H2_ := (Option.bind_some _ _).symm.trans H; rw [hy310]; with_reducible exact H2_) | (have H2_ := (Option.bind_some _ _).symm.trans H; with_reducible exact H2_) | with_reducible exact H | (rw [hy310]; exact H) | exact H
            have Ny310 := Aside0.mk hy310
            clear hy310
            have H' := Aside0.mk H
            clear H
            go_wp2_with (first | ((with_reducible refine gate_dst (N := 128) rfl ?_); refine Kd.R_lit (Kd.int .i64) _ 3 ?hg (N := 128) ?hd (xs := ([x8_1, x9_1, x10_1, x11_1, x12_1, x13_1, x14_1, x15_1] : List Int)) (inner := [.int .i64 x8_1, .int .i64 x9_1, .int .i64 x10_1, .int .i64 x11_1, .int .i64 x12_1, .int .i64 x13_1, .int .i64 x14_1, .int .i64 x15_1]) (ok := fun _ => True) (okp := fun _ => True) ?hr ?hp (fun _ hk => hk) trivial (Below.refl _ _) (Nat.le_refl _) (by simp) ?_; (case hd => rfl); (case hg => rfl); (case hr => first | (go_simp; done) | (go_simp; rfl)); (case hp => exact (Reps.one (show Kd.M (Kd.int .i64) _ _ _ x8_1 [.int .i64 x8_1] from rfl) (Reps.one (show Kd.M (Kd.int .i64) _ _ _ x9_1 [.int .i64 x9_1] from rfl) (Reps.one (show Kd.M (Kd.int .i64) _ _ _ x10_1 [.int .i64 x10_1] from rfl) (Reps.one (show Kd.M (Kd.int .i64) _ _ _ x11_1 [.int .i64 x11_1] from rfl) (Reps.one (show Kd.M (Kd.int .i64) _ _ _ x12_1 [.int .i64 x12_1] from rfl) (Reps.one (show Kd.M (Kd.int .i64) _ _ _ x13_1 [.int .i64 x13_1] from rfl) (Reps.one (show Kd.M (Kd.int .i64) _ _ _ x14_1 [.int .i64 x14_1] from rfl) (Reps.one (show Kd.M (Kd.int .i64) _ _ _ x15_1 [.int .i64 x15_1] from rfl) (Reps.none _ _)))))))))); intro v311 w29 ho30 hb hg_ hnew_; clear hg_ hnew_; (first | rw [← Ny310.out] at ho30 | (simp only [Int.reduceToNat] at ho30; rw [← Ny310.out] at ho30)); have n0_ := Aside0.mk (Kd.R_elder' (by (with_reducible repeat (first | apply Kd.R_alloc | apply Kd.R_drewN | apply Kd.R_drew)); exact HO_6.out) (Kd.R_base ho30) hb); have n1_ := Aside0.mk (Kd.R_elder' (by (with_reducible repeat (first | apply Kd.R_alloc | apply Kd.R_drewN | apply Kd.R_drew)); exact HO_7.out) (Kd.R_base ho30) hb); have n2_ := Aside0.mk (Kd.R_lower (Kd.R_new' (Kd.R_new' ho30 (Kd.R_lt (by (with_reducible repeat (first | apply Kd.R_alloc | apply Kd.R_drewN | apply Kd.R_drew)); exact HO_6.out))) (Kd.R_lt (by (with_reducible repeat (first | apply Kd.R_alloc | apply Kd.R_drewN | apply Kd.R_drew)); exact HO_7.out))) (below_size (by repeat (first | (with_reducible first | exact HB.out | apply below_alloc | apply pw_below_drewN | apply below_drew1 | refine below_set ?_ GE288.out) | exact HB.out)))); have n3_ := Aside0.mk (blk_below (g := gb288) (o := .cells kArr 92 (0, 0)) (by (with_reducible repeat (first | refine blk_drewN ?_ _ | refine blk_drew ?_ | refine blk_alloc ?_ _)); exact BK288.out) hb); have n4_ := Aside0.mk (below_step (by repeat (first | (with_reducible first | exact HB.out | apply below_alloc | apply pw_below_drewN | apply below_drew1 | refine below_set ?_ GE288.out) | exact HB.out)) hb); clear HO_6; clear HO_7; clear BK288; clear HB; have HO_6 := n0_; have HO_7 := n1_; have HO312 := n2_; have BK288 := n3_; have HB := n4_; clear n0_ n1_ n2_ n3_ n4_; clear hb ho30; obtain ⟨Ao31, co31, eo31⟩ := Kd.R_slice HO312.out; subst eo31))
            repeat (go_quiet (first | ((with_reducible refine gate_dst (N := 128) rfl ?_); refine Kd.R_lit (Kd.int .i64) _ 3 ?hg (N := 128) ?hd (xs := ([x8_1, x9_1, x10_1, x11_1, x12_1, x13_1, x14_1, x15_1] : List Int)) (inner := [.int .i64 x8_1, .int .i64 x9_1, .int .i64 x10_1, .int .i64 x11_1, .int .i64 x12_1, .int .i64 x13_1, .int .i64 x14_1, .int .i64 x15_1]) (ok := fun _ => True) (okp := fun _ => True) ?hr ?hp (fun _ hk => hk) trivial (Below.refl _ _) (Nat.le_refl _) (by simp) ?_; (case hd => rfl); (case hg => rfl); (case hr => first | (go_simp; done) | (go_simp; rfl)); (case hp => exact (Reps.one (show Kd.M (Kd.int .i64) _ _ _ x8_1 [.int .i64 x8_1] from rfl) (Reps.one (show Kd.M (Kd.int .i64) _ _ _ x9_1 [.int .i64 x9_1] from rfl) (Reps.one (show Kd.M (Kd.int .i64) _ _ _ x10_1 [.int .i64 x10_1] from rfl) (Reps.one (show Kd.M (Kd.int .i64) _ _ _ x11_1 [.int .i64 x11_1] from rfl) (Reps.one (show Kd.M (Kd.int .i64) _ _ _ x12_1 [.int .i64 x12_1] from rfl) (Reps.one (show Kd.M (Kd.int .i64) _ _ _ x13_1 [.int .i64 x13_1] from rfl) (Reps.one (show Kd.M (Kd.int .i64) _ _ _ x14_1 [.int .i64 x14_1] from rfl) (Reps.one (show Kd.M (Kd.int .i64) _ _ _ x15_1 [.int .i64 x15_1] from rfl) (Reps.none _ _)))))))))); intro v311 w29 ho30 hb hg_ hnew_; clear hg_ hnew_; (first | rw [← Ny310.out] at ho30 | (simp only [Int.reduceToNat] at ho30; rw [← Ny310.out] at ho30)); have n0_ := Aside0.mk (Kd.R_elder' (by (with_reducible repeat (first | apply Kd.R_alloc | apply Kd.R_drewN | apply Kd.R_drew)); exact HO_6.out) (Kd.R_base ho30) hb); have n1_ := Aside0.mk (Kd.R_elder' (by (with_reducible repeat (first | apply Kd.R_alloc | apply Kd.R_drewN | apply Kd.R_drew)); exact HO_7.out) (Kd.R_base ho30) hb); have n2_ := Aside0.mk (Kd.R_lower (Kd.R_new' (Kd.R_new' ho30 (Kd.R_lt (by (with_reducible repeat (first | apply Kd.R_alloc | apply Kd.R_drewN | apply Kd.R_drew)); exact HO_6.out))) (Kd.R_lt (by (with_reducible repeat (first | apply Kd.R_alloc | apply Kd.R_drewN | apply Kd.R_drew)); exact HO_7.out))) (below_size (by repeat (first | (with_reducible first | exact HB.out | apply below_alloc | apply pw_below_drewN | apply below_drew1 | refine below_set ?_ GE288.out) | exact HB.out)))); have n3_ := Aside0.mk (blk_below (g := gb288) (o := .cells kArr 92 (0, 0)) (by (with_reducible repeat (first | refine blk_drewN ?_ _ | refine blk_drew ?_ | refine blk_alloc ?_ _)); exact BK288.out) hb); have n4_ := Aside0.mk (below_step (by repeat (first | (with_reducible first | exact HB.out | apply below_alloc | apply pw_below_drewN | apply below_drew1 | refine below_set ?_ GE288.out) | exact HB.out)) hb); clear HO_6; clear HO_7; clear BK288; clear HB; have HO_6 := n0_; have HO_7 := n1_; have HO312 := n2_; have BK288 := n3_; have HB := n4_; clear n0_ n1_ n2_ n3_ n4_; clear hb ho30; obtain ⟨Ao31, co31, eo31⟩ := Kd.R_slice HO312.out; subst eo31)); try go_wp2_with (first | ((with_reducible refine gate_dst (N := 128) rfl ?_); refine Kd.R_lit (Kd.int .i64) _ 3 ?hg (N := 128) ?hd (xs := ([x8_1, x9_1, x10_1, x11_1, x12_1, x13_1, x14_1, x15_1] : List Int)) (inner := [.int .i64 x8_1, .int .i64 x9_1, .int .i64 x10_1, .int .i64 x11_1, .int .i64 x12_1, .int .i64 x13_1, .int .i64 x14_1, .int .i64 x15_1]) (ok := fun _ => True) (okp := fun _ => True) ?hr ?hp (fun _ hk => hk) trivial (Below.refl _ _) (Nat.le_refl _) (by simp) ?_; (case hd => rfl); (case hg => rfl); (case hr => first | (go_simp; done) | (go_simp; rfl)); (case hp => exact (Reps.one (show Kd.M (Kd.int .i64) _ _ _ x8_1 [.int .i64 x8_1] from rfl) (Reps.one (show Kd.M (Kd.int .i64) _ _ _ x9_1 [.int .i64 x9_1] from rfl) (Reps.one (show Kd.M (Kd.int .i64) _ _ _ x10_1 [.int .i64 x10_1] from rfl) (Reps.one (show Kd.M (Kd.int .i64) _ _ _ x11_1 [.int .i64 x11_1] from rfl) (Reps.one (show Kd.M (Kd.int .i64) _ _ _ x12_1 [.int .i64 x12_1] from rfl) (Reps.one (show Kd.M (Kd.int .i64) _ _ _ x13_1 [.int .i64 x13_1] from rfl) (Reps.one (show Kd.M (Kd.int .i64) _ _ _ x14_1 [.int .i64 x14_1] from rfl) (Reps.one (show Kd.M (Kd.int .i64) _ _ _ x15_1 [.int .i64 x15_1] from rfl) (Reps.none _ _)))))))))); intro v311 w29 ho30 hb hg_ hnew_; clear hg_ hnew_; (first | rw [← Ny310.out] at ho30 | (simp only [Int.reduceToNat] at ho30; rw [← Ny310.out] at ho30)); have n0_ := Aside0.mk (Kd.R_elder' (by (with_reducible repeat (first | apply Kd.R_alloc | apply Kd.R_drewN | apply Kd.R_drew)); exact HO_6.out) (Kd.R_base ho30) hb); have n1_ := Aside0.mk (Kd.R_elder' (by (with_reducible repeat (first | apply Kd.R_alloc | apply Kd.R_drewN | apply Kd.R_drew)); exact HO_7.out) (Kd.R_base ho30) hb); have n2_ := Aside0.mk (Kd.R_lower (Kd.R_new' (Kd.R_new' ho30 (Kd.R_lt (by (with_reducible repeat (first | apply Kd.R_alloc | apply Kd.R_drewN | apply Kd.R_drew)); exact HO_6.out))) (Kd.R_lt (by (with_reducible repeat (first | apply Kd.R_alloc | apply Kd.R_drewN | apply Kd.R_drew)); exact HO_7.out))) (below_size (by repeat (first | (with_reducible first | exact HB.out | apply below_alloc | apply pw_below_drewN | apply below_drew1 | refine below_set ?_ GE288.out) | exact HB.out)))); have n3_ := Aside0.mk (blk_below (g := gb288) (o := .cells kArr 92 (0, 0)) (by (with_reducible repeat (first | refine blk_drewN ?_ _ | refine blk_drew ?_ | refine blk_alloc ?_ _)); exact BK288.out) hb); have n4_ := Aside0.mk (below_step (by repeat (first | (with_reducible first | exact HB.out | apply below_alloc | apply pw_below_drewN | apply below_drew1 | refine below_set ?_ GE288.out) | exact HB.out)) hb); clear HO_6; clear HO_7; clear BK288; clear HB; have HO_6 := n0_; have HO_7 := n1_; have HO312 := n2_; have BK288 := n3_; have HB := n4_; clear n0_ n1_ n2_ n3_ n4_; clear hb ho30; obtain ⟨Ao31, co31, eo31⟩ := Kd.R_slice HO312.out; subst eo31)))
            go_loopg [130] k1 (fun kq v130 w' => ∃ (x7_2 : List Int) (x130_2 : Int), v130 = .int .i64 x130_2 ∧ Aside0 (impl_round.l1 kq x7_2 y310 (y310.length : Int) x130_2 = some r) ∧ Aside0 (kq ≤ k1) ∧ Aside0 (Kd.R (Kd.int .i64) 3 w' w.heap.size (fun k_ => some k_ ≠ ((.slice Ao31 y310.length co31) : Value).ownBlock) (.slice (some ad295) t292.length co18) x7_2) ∧ Aside0 (Kd.R (Kd.int .i64) 3 w' w.heap.size (fun k_ => some k_ ≠ ((.slice (some ad295) t292.length co18) : Value).ownBlock) (.slice Ao31 y310.length co31) y310) ∧ Aside0 (w'.heap[gb288]? = some (.cells kArr 92 (0, 0))) ∧ Aside0 (Below w.heap.size w w'))
            case atStart => exact ⟨(t292), (0), (by first | rfl | (simp; done) | (simp [*]; done)), H', ⟨Nat.le_refl _⟩, ⟨by (with_reducible repeat (first | apply Kd.R_alloc | apply Kd.R_drewN | apply Kd.R_drew)); exact Kd.R_mono HO_7.out (fun _ hk => hk.2)⟩, ⟨by (with_reducible repeat (first | apply Kd.R_alloc | apply Kd.R_drewN | apply Kd.R_drew)); exact Kd.R_mono HO312.out (fun _ hk => hk.2)⟩, ⟨by (with_reducible repeat (first | refine blk_drewN ?_ _ | refine blk_drew ?_ | refine blk_alloc ?_ _)); exact BK288.out⟩, ⟨by repeat (first | (with_reducible first | exact HB.out | apply below_alloc | apply pw_below_drewN | apply below_drew1 | refine below_set ?_ GE288.out) | exact HB.out)⟩⟩
            case round =>
             clear H'
             try clear c1; try clear c2; try clear p2; try clear q2; try clear hx2; try clear qi2; try clear p3; try clear q3; try clear hx3; try clear qi3; try clear c6; try clear c6b0; try clear c6b1; try clear p6; try clear c7; try clear c7b0; try clear c7b1; try clear c8; try clear c8b0; try clear c8b1; try clear c9; try clear c9b0; try clear c9b1; try clear c10; try clear c10b0; try clear c10b1; try clear c11; try clear c11b0; try clear c11b1; try clear c12; try clear c12b0; try clear c12b1; try clear c13; try clear c13b0; try clear c13b1; try clear c19; try clear c19b0; try clear c23; try clear c23b0; try clear c24; try clear c24b0; try clear p29; try clear q29; try clear hx29; try clear qi29; try clear p30; try clear q30; try clear hx30; try clear qi30; try clear hx295_0; try clear hx296_0; try clear hx297_0; try clear hx298_0; try clear hx299_0; try clear hx300_0; try clear hx301_0; try clear hx302_0; try clear hx306_0; try clear p2; try clear p295; try clear p296; try clear p297; try clear p298; try clear p299; try clear p3; try clear p300; try clear p301; try clear p302; try clear p306; try clear q2; try clear q295; try clear q296; try clear q297; try clear q298; try clear q299; try clear q3; try clear q300; try clear q301; try clear q302; try clear q306
             obtain ⟨x7_2, x130_2, rfl, HA, HK2, HO_7, HO_128, BK288, HB⟩ := hrel
             have hl7_2 := (Kd.R_reads' HO_7.out).1
             rw [hl7_2] at HO_7
             (try simp only [hl7_2])
             (try simp only [hl7_2] at BK288)
             (try simp only [hl7_2] at HO_128)
             cases gk with
             | zero => exact absurd HA.out (by simp [impl_round.l1])
             | succ k2 =>
              have H := HA.out
              clear HA
              simp only [impl_round.l1] at H
              by_cases c32 : x130_2 < (y310.length : Int)
              ·
               rw [if_pos c32] at H
               have c32b0 : decide (x130_2 < (y310.length : Int)) = true := decide_eq_true c32
               clear c32
               by_cases c33 : 0 ≤ x130_2
               ·
                rw [if_pos c33] at H
                have c33b0 : decide (0 ≤ x130_2) = true := decide_eq_true c33
                clear c33
                by_cases c34 : x130_2 < (y310.length : Int)
                ·
                 rw [if_pos c34] at H
                 have c34b0 : decide (x130_2 < (y310.length : Int)) = true := decide_eq_true c34
                 clear c34
                 by_cases c35 : x130_2 < (x7_2.length : Int)
                 ·
                  rw [if_pos c35] at H
                  have c35b0 : decide (x130_2 < (x7_2.length : Int)) = true := decide_eq_true c35
                  clear c35
                  obtain ⟨y315, hy315⟩ : ∃ y_ : List Int, y_ = (x7_2.set (x130_2 : Int).toNat (Go.bits .and .i64 (wrap64 ((rd x7_2 x130_2) + (rd y310 x130_2))) 4294967295)) := ⟨_, rfl⟩
                  replace H : (impl_round.l1 k2 y315 y310 (y310.length : Int) (wrap64 (x130_2 + 1))) = some r := by first | (rw [hy315]; with_reducible exact H) | (have H2_ := (Option.bind_some _ _).symm.trans H; rw [hy315]; with_reducible exact H2_) | (have H2_ := (Option.bind_some _ _).symm.trans H; with_reducible exact H2_) | with_reducible exact H | (rw [hy315]; exact H) | exact H
                  have Ny315 := Aside0.mk hy315
                  clear hy315
                  have H' := Aside0.mk H
                  clear H
                  have p313 : 0 ≤ (x130_2 : Int) := of_decide_eq_true (by first | (with_reducible assumption) | assumption)
                  have q313 : x130_2 < (y310.length : Int) := of_decide_eq_true (by first | (with_reducible assumption) | assumption)
                  obtain ⟨ad313, e313, hx313_0⟩ := Kd.at_int (Kd.R_reads' HO_128.out).2.2 x130_2 p313 q313
                  cases e313
                  replace p313 := eq_true p313
                  replace q313 := eq_true q313
                  have p314 : 0 ≤ (x130_2 : Int) := of_decide_eq_true (by first | (with_reducible assumption) | assumption)
                  have q314 : x130_2 < (x7_2.length : Int) := of_decide_eq_true (by first | (with_reducible assumption) | assumption)
                  obtain ⟨ad314, e314, hx314_0⟩ := Kd.at_int (Kd.R_reads' HO_7.out).2.2 x130_2 p314 q314
                  obtain rfl : ad295 = ad314 := (by injection e314)
                  replace p314 := eq_true p314
                  replace q314 := eq_true q314
                  have p36 : 0 ≤ (x130_2 : Int) := of_decide_eq_true (by first | (with_reducible assumption) | assumption)
                  have q36 : (x130_2 : Int) < ((x7_2.length : Int) : Int) := of_decide_eq_true (by first | (with_reducible assumption) | assumption)
                  obtain ⟨go36, co36, eo36, gb36, gl36, cl36, HG36⟩ := Kd.R_form HO_7.out (by omega)
                  (first | cases eo36 | (injection eo36 with ea_ en_ ec_; (first | subst ea_ | (injection ea_ with ea_; subst ea_)); subst ec_; clear en_))
                  have GB36 := Aside0.mk gb36
                  have GG36 := Aside0.mk HG36
                  clear gb36 gl36 HG36
                  (first | simp only [add_plain] at hx295_0 | skip)
                  (first | simp only [add_plain] at hx296_0 | skip)
                  (first | simp only [add_plain] at hx297_0 | skip)
                  (first | simp only [add_plain] at hx298_0 | skip)
                  (first | simp only [add_plain] at hx299_0 | skip)
                  (first | simp only [add_plain] at hx300_0 | skip)
                  (first | simp only [add_plain] at hx301_0 | skip)
                  (first | simp only [add_plain] at hx302_0 | skip)
                  (first | simp only [add_plain] at hx314_0 | skip)
                  obtain ⟨hx36_0, hf36_0⟩ := Kd.R_celln 0 HO_7.out (x130_2 : Int) p36 q36
                  replace p36 := eq_true p36
                  replace q36 := eq_true q36
                  have HP37 := Kd.R_putg HO_7.out (x130_2 : Int) (Go.bits .and .i64 (wrap64 ((rd x7_2 x130_2) + (rd y310 x130_2))) 4294967295)
                  go_wp2_with (first | ((with_reducible refine gate_store (t := 3) (p := 144) rfl ?_); (try (rw [drewN_self wr]; generalize hq_ : World.drewN wr _ = wr; have n0_ := Aside0.mk (Kd.R_at hq_ HO_7.out); have n1_ := Aside0.mk (Kd.R_at hq_ HO_128.out); have n2_ := Aside0.mk (blk_at hq_ BK288.out); have n3_ := Aside0.mk (below_at hq_ HB.out); clear hq_ HO_7 HO_128 BK288 HB; have HO_7 := n0_; have HO_128 := n1_; have BK288 := n2_; have HB := n3_; clear n0_ n1_ n2_ n3_; (try (have HP37 := Kd.R_putg HO_7.out (x130_2 : Int) (Go.bits .and .i64 (wrap64 ((rd x7_2 x130_2) + (rd y310 x130_2))) 4294967295))))); refine store_event (t := 3) (p := 144) (v := ?vo_w38) (w1 := (wr.setCell ⟨go36, (x130_2 : Int).toNat, none⟩ (.int .i64 (Go.bits .and .i64 (wrap64 ((rd x7_2 x130_2) + (rd y310 x130_2))) 4294967295)))) ?hg ?ho ?hn ?hr ?_; (case ho => rfl); (case hg => rfl); (case hn => rfl); (case hr => first | (go_simp; done) | (go_simp; rfl)); intro w38 hw; have hg : wr.grownBy w38 (some go36) := (by rw [hw]; exact HP37.2); have hp_ : Kd.R (Kd.int .i64) 3 w38 w.heap.size (fun k_ => some k_ ≠ (.slice (some ad313) y310.length co31 : Value).ownBlock) (.slice (some ⟨go36, 0, none⟩) x7_2.length co18) y315 := (by rw [hw, Ny315.out]; exact HP37.1); clear HP37; have n0_ := Aside0.mk (hp_); have n1_ := Aside0.mk (Kd.R_after (v := (.slice (some ⟨go36, 0, none⟩) x7_2.length co18)) (v1 := (.slice (some ⟨go36, 0, none⟩) x7_2.length co18)) (ok := (fun _ => True)) (by (with_reducible repeat (first | apply Kd.R_alloc | apply Kd.R_drewN | apply Kd.R_drew)); exact Kd.R_mono HO_128.out (fun _ hk => ⟨trivial, hk⟩)) hg (.inl rfl)); have n2_ := Aside0.mk (blk_grown (g := gb288) (o := .cells kArr 92 (0, 0)) (by (with_reducible repeat (first | refine blk_drewN ?_ _ | refine blk_drew ?_ | refine blk_alloc ?_ _)); exact BK288.out) hg (Kd.R_ne HO_7.out BK288.out (by decide))); have n3_ := Aside0.mk ((by rw [hw]; exact below_set (HB.out) GB36.out : Below w.heap.size w w38)); clear HO_7; clear HO_128; clear BK288; clear HB; have HO_7 := n0_; have HO_128 := n1_; have BK288 := n2_; have HB := n3_; clear n0_ n1_ n2_ n3_; clear hg hw hp_))
                  repeat (go_quiet (first | ((with_reducible refine gate_store (t := 3) (p := 144) rfl ?_); (try (rw [drewN_self wr]; generalize hq_ : World.drewN wr _ = wr; have n0_ := Aside0.mk (Kd.R_at hq_ HO_7.out); have n1_ := Aside0.mk (Kd.R_at hq_ HO_128.out); have n2_ := Aside0.mk (blk_at hq_ BK288.out); have n3_ := Aside0.mk (below_at hq_ HB.out); clear hq_ HO_7 HO_128 BK288 HB; have HO_7 := n0_; have HO_128 := n1_; have BK288 := n2_; have HB := n3_; clear n0_ n1_ n2_ n3_; (try (have HP37 := Kd.R_putg HO_7.out (x130_2 : Int) (Go.bits .and .i64 (wrap64 ((rd x7_2 x130_2) + (rd y310 x130_2))) 4294967295))))); refine store_event (t := 3) (p := 144) (v := ?vo_w38) (w1 := (wr.setCell ⟨go36, (x130_2 : Int).toNat, none⟩ (.int .i64 (Go.bits .and .i64 (wrap64 ((rd x7_2 x130_2) + (rd y310 x130_2))) 4294967295)))) ?hg ?ho ?hn ?hr ?_; (case ho => rfl); (case hg => rfl); (case hn => rfl); (case hr => first | (go_simp; done) | (go_simp; rfl)); intro w38 hw; have hg : wr.grownBy w38 (some go36) := (by rw [hw]; exact HP37.2); have hp_ : Kd.R (Kd.int .i64) 3 w38 w.heap.size (fun k_ => some k_ ≠ (.slice (some ad313) y310.length co31 : Value).ownBlock) (.slice (some ⟨go36, 0, none⟩) x7_2.length co18) y315 := (by rw [hw, Ny315.out]; exact HP37.1); clear HP37; have n0_ := Aside0.mk (hp_); have n1_ := Aside0.mk (Kd.R_after (v := (.slice (some ⟨go36, 0, none⟩) x7_2.length co18)) (v1 := (.slice (some ⟨go36, 0, none⟩) x7_2.length co18)) (ok := (fun _ => True)) (by (with_reducible repeat (first | apply Kd.R_alloc | apply Kd.R_drewN | apply Kd.R_drew)); exact Kd.R_mono HO_128.out (fun _ hk => ⟨trivial, hk⟩)) hg (.inl rfl)); have n2_ := Aside0.mk (blk_grown (g := gb288) (o := .cells kArr 92 (0, 0)) (by (with_reducible repeat (first | refine blk_drewN ?_ _ | refine blk_drew ?_ | refine blk_alloc ?_ _)); exact BK288.out) hg (Kd.R_ne HO_7.out BK288.out (by decide))); have n3_ := Aside0.mk ((by rw [hw]; exact below_set (HB.out) GB36.out : Below w.heap.size w w38)); clear HO_7; clear HO_128; clear BK288; clear HB; have HO_7 := n0_; have HO_128 := n1_; have BK288 := n2_; have HB := n3_; clear n0_ n1_ n2_ n3_; clear hg hw hp_)); try go_wp2_with (first | ((with_reducible refine gate_store (t := 3) (p := 144) rfl ?_); (try (rw [drewN_self wr]; generalize hq_ : World.drewN wr _ = wr; have n0_ := Aside0.mk (Kd.R_at hq_ HO_7.out); have n1_ := Aside0.mk (Kd.R_at hq_ HO_128.out); have n2_ := Aside0.mk (blk_at hq_ BK288.out); have n3_ := Aside0.mk (below_at hq_ HB.out); clear hq_ HO_7 HO_128 BK288 HB; have HO_7 := n0_; have HO_128 := n1_; have BK288 := n2_; have HB := n3_; clear n0_ n1_ n2_ n3_; (try (have HP37 := Kd.R_putg HO_7.out (x130_2 : Int) (Go.bits .and .i64 (wrap64 ((rd x7_2 x130_2) + (rd y310 x130_2))) 4294967295))))); refine store_event (t := 3) (p := 144) (v := ?vo_w38) (w1 := (wr.setCell ⟨go36, (x130_2 : Int).toNat, none⟩ (.int .i64 (Go.bits .and .i64 (wrap64 ((rd x7_2 x130_2) + (rd y310 x130_2))) 4294967295)))) ?hg ?ho ?hn ?hr ?_; (case ho => rfl); (case hg => rfl); (case hn => rfl); (case hr => first | (go_simp; done) | (go_simp; rfl)); intro w38 hw; have hg : wr.grownBy w38 (some go36) := (by rw [hw]; exact HP37.2); have hp_ : Kd.R (Kd.int .i64) 3 w38 w.heap.size (fun k_ => some k_ ≠ (.slice (some ad313) y310.length co31 : Value).ownBlock) (.slice (some ⟨go36, 0, none⟩) x7_2.length co18) y315 := (by rw [hw, Ny315.out]; exact HP37.1); clear HP37; have n0_ := Aside0.mk (hp_); have n1_ := Aside0.mk (Kd.R_after (v := (.slice (some ⟨go36, 0, none⟩) x7_2.length co18)) (v1 := (.slice (some ⟨go36, 0, none⟩) x7_2.length co18)) (ok := (fun _ => True)) (by (with_reducible repeat (first | apply Kd.R_alloc | apply Kd.R_drewN | apply Kd.R_drew)); exact Kd.R_mono HO_128.out (fun _ hk => ⟨trivial, hk⟩)) hg (.inl rfl)); have n2_ := Aside0.mk (blk_grown (g := gb288) (o := .cells kArr 92 (0, 0)) (by (with_reducible repeat (first | refine blk_drewN ?_ _ | refine blk_drew ?_ | refine blk_alloc ?_ _)); exact BK288.out) hg (Kd.R_ne HO_7.out BK288.out (by decide))); have n3_ := Aside0.mk ((by rw [hw]; exact below_set (HB.out) GB36.out : Below w.heap.size w w38)); clear HO_7; clear HO_128; clear BK288; clear HB; have HO_7 := n0_; have HO_128 := n1_; have BK288 := n2_; have HB := n3_; clear n0_ n1_ n2_ n3_; clear hg hw hp_)))
                  (try simp only [← hl7_2])
                  go_roundg k2
                  case measure => have := HK1.out; have := HK2.out; omega
                  case rel => exact ⟨(y315), (wrap64 (x130_2 + 1)), (by first | rfl | (simp; done) | (simp [*]; done)), H', ⟨by have := HK1.out; have := HK2.out; omega⟩, ⟨by (try simp only [hl7_2]); (with_reducible repeat (first | apply Kd.R_alloc | apply Kd.R_drewN | apply Kd.R_drew)); exact HO_7.out⟩, ⟨by (try simp only [hl7_2]); (with_reducible repeat (first | apply Kd.R_alloc | apply Kd.R_drewN | apply Kd.R_drew)); exact Kd.R_mono HO_128.out (fun _ hk => hk.2)⟩, ⟨by (try simp only [hl7_2]); (with_reducible repeat (first | refine blk_drewN ?_ _ | refine blk_drew ?_ | refine blk_alloc ?_ _)); exact BK288.out⟩, ⟨by repeat (first | (with_reducible first | exact HB.out | apply below_alloc | apply pw_below_drewN | apply below_drew1 | refine below_set ?_ GE288.out) | exact HB.out)⟩⟩
                 ·
                  rw [if_neg c35] at H
                  exact absurd H (by simp)
                ·
                 rw [if_neg c34] at H
                 exact absurd H (by simp)
               ·
                rw [if_neg c33] at H
                exact absurd H (by simp)
              ·
               rw [if_neg c32] at H
               have c32b0 : decide (x130_2 < (y310.length : Int)) = false := decide_eq_false c32
               clear c32
               replace H := Option.bind_eq_some_iff.mp H
               obtain ⟨t316, A390, H⟩ := H
               replace H : (some t316) = some r := H
               have A39 := Aside0.mk A390
               clear A390
               obtain rfl := Option.some.inj H
               go_wp2_with (first | (go_at_call 67; (with_reducible refine (impl_wordsText.calls k2 _ _ x7_2 t316 _ ?side1 ?side2 A39.out).mono ?_); (case side1 => repeat (first | exact (Kd.R_reads' HO_7.out).2.2 | (with_reducible refine Kd.C_alloc ?_ _) | (with_reducible refine Kd.C_drewN ?_ _) | (with_reducible refine Kd.C_drew ?_))); (case side2 => exact (Kd.R_reads' HO_7.out).2.1); rintro e w40 ⟨rfl, hb⟩; have n0_ := Aside0.mk (Kd.R_below (by (with_reducible repeat (first | apply Kd.R_alloc | apply Kd.R_drewN | apply Kd.R_drew)); exact HO_7.out) hb); have n1_ := Aside0.mk (Kd.R_below (by (with_reducible repeat (first | apply Kd.R_alloc | apply Kd.R_drewN | apply Kd.R_drew)); exact HO_128.out) hb); have n2_ := Aside0.mk (blk_below (g := gb288) (o := .cells kArr 92 (0, 0)) (by (with_reducible repeat (first | refine blk_drewN ?_ _ | refine blk_drew ?_ | refine blk_alloc ?_ _)); exact BK288.out) hb); have n3_ := Aside0.mk (below_step (by repeat (first | (with_reducible first | exact HB.out | apply below_alloc | apply pw_below_drewN | apply below_drew1 | refine below_set ?_ GE288.out) | exact HB.out)) hb); clear HO_7; clear HO_128; clear BK288; clear HB; have HO_7 := n0_; have HO_128 := n1_; have BK288 := n2_; have HB := n3_; clear n0_ n1_ n2_ n3_; (try clear hb); (try clear hb2); (try clear hk); (try clear hi)))
               repeat (go_quiet (first | (go_at_call 67; (with_reducible refine (impl_wordsText.calls k2 _ _ x7_2 t316 _ ?side1 ?side2 A39.out).mono ?_); (case side1 => repeat (first | exact (Kd.R_reads' HO_7.out).2.2 | (with_reducible refine Kd.C_alloc ?_ _) | (with_reducible refine Kd.C_drewN ?_ _) | (with_reducible refine Kd.C_drew ?_))); (case side2 => exact (Kd.R_reads' HO_7.out).2.1); rintro e w40 ⟨rfl, hb⟩; have n0_ := Aside0.mk (Kd.R_below (by (with_reducible repeat (first | apply Kd.R_alloc | apply Kd.R_drewN | apply Kd.R_drew)); exact HO_7.out) hb); have n1_ := Aside0.mk (Kd.R_below (by (with_reducible repeat (first | apply Kd.R_alloc | apply Kd.R_drewN | apply Kd.R_drew)); exact HO_128.out) hb); have n2_ := Aside0.mk (blk_below (g := gb288) (o := .cells kArr 92 (0, 0)) (by (with_reducible repeat (first | refine blk_drewN ?_ _ | refine blk_drew ?_ | refine blk_alloc ?_ _)); exact BK288.out) hb); have n3_ := Aside0.mk (below_step (by repeat (first | (with_reducible first | exact HB.out | apply below_alloc | apply pw_below_drewN | apply below_drew1 | refine below_set ?_ GE288.out) | exact HB.out)) hb); clear HO_7; clear HO_128; clear BK288; clear HB; have HO_7 := n0_; have HO_128 := n1_; have BK288 := n2_; have HB := n3_; clear n0_ n1_ n2_ n3_; (try clear hb); (try clear hb2); (try clear hk); (try clear hi))); try go_wp2_with (first | (go_at_call 67; (with_reducible refine (impl_wordsText.calls k2 _ _ x7_2 t316 _ ?side1 ?side2 A39.out).mono ?_); (case side1 => repeat (first | exact (Kd.R_reads' HO_7.out).2.2 | (with_reducible refine Kd.C_alloc ?_ _) | (with_reducible refine Kd.C_drewN ?_ _) | (with_reducible refine Kd.C_drew ?_))); (case side2 => exact (Kd.R_reads' HO_7.out).2.1); rintro e w40 ⟨rfl, hb⟩; have n0_ := Aside0.mk (Kd.R_below (by (with_reducible repeat (first | apply Kd.R_alloc | apply Kd.R_drewN | apply Kd.R_drew)); exact HO_7.out) hb); have n1_ := Aside0.mk (Kd.R_below (by (with_reducible repeat (first | apply Kd.R_alloc | apply Kd.R_drewN | apply Kd.R_drew)); exact HO_128.out) hb); have n2_ := Aside0.mk (blk_below (g := gb288) (o := .cells kArr 92 (0, 0)) (by (with_reducible repeat (first | refine blk_drewN ?_ _ | refine blk_drew ?_ | refine blk_alloc ?_ _)); exact BK288.out) hb); have n3_ := Aside0.mk (below_step (by repeat (first | (with_reducible first | exact HB.out | apply below_alloc | apply pw_below_drewN | apply below_drew1 | refine below_set ?_ GE288.out) | exact HB.out)) hb); clear HO_7; clear HO_128; clear BK288; clear HB; have HO_7 := n0_; have HO_128 := n1_; have BK288 := n2_; have HB := n3_; clear n0_ n1_ n2_ n3_; (try clear hb); (try clear hb2); (try clear hk); (try clear hi))))
               go_ret
               exact ⟨by first | rfl | (simp [errW_none, errW_some] <;> rfl) | (simp [*, errW_none, errW_some] <;> rfl), by repeat (first | (with_reducible first | exact HB.out | apply below_alloc | apply pw_below_drewN | apply below_drew1 | refine below_set ?_ GE288.out) | exact HB.out)⟩
        ·
         rw [if_neg c13] at H
         exact absurd H (by simp)
       ·
        rw [if_neg c12] at H
        exact absurd H (by simp)
      ·
       rw [if_neg c11] at H
       exact absurd H (by simp)
     ·
      rw [if_neg c10] at H
      exact absurd H (by simp)
    ·
     rw [if_neg c9] at H
     exact absurd H (by simp)
   ·
    rw [if_neg c8] at H
    exact absurd H (by simp)
  ·
   rw [if_neg c7] at H
   exact absurd H (by simp)
 ·
  rw [if_neg c6] at H
  exact absurd H (by simp)
def impl_rounds.l0 : Nat → ByteArray → ByteArray → Option (ByteArray × ByteArray)
 | 0, _, _ => none
 | k + 1, x0, x1 => if (x1.size : Int) ≥ 64 then (if 0 ≤ 64 then (if 64 ≤ (x1.size : Int) then ((impl_round.f k x0 (x1.extract 0 64)).bind fun t317 => (impl_rounds.l0 k t317 (x1.extract 64 x1.size))) else (none)) else (none)) else (some (x0, x1))
def impl_rounds.f (k : Nat) (a0 : ByteArray) (a1 : ByteArray) : Option (ByteArray × ByteArray) := impl_rounds.l0 k a0 a1
theorem impl_rounds.mono_l : ∀ k, (∀ y0 y1, LeO (impl_rounds.l0 k y0 y1) (impl_rounds.l0 (k + 1) y0 y1))
 | 0 => fun _ _ r h => by simp [impl_rounds.l0] at h
 | k + 1 => by
  have ih0 := impl_rounds.mono_l k
  ·
   intro y0 y1
   unfold impl_rounds.l0
   repeat' first
   | (with_reducible exact ih0 _ _)
   | (with_reducible exact impl_round.mono _ _ _)
   | (with_reducible exact LeO.refl _)
   | (with_reducible exact LeO.none _)
   | (with_reducible refine LeO.ite ?_ ?_)
   | (with_reducible refine LeO.bind ?_ (fun _ => ?_))
   | exact ih0 _ _
   | exact impl_round.mono _ _ _
   | exact LeO.none _
   | refine LeO.ite ?_ ?_
   | refine LeO.bind ?_ (fun _ => ?_)
theorem impl_rounds.mono : ∀ a0 a1 k, LeO (impl_rounds.f k a0 a1) (impl_rounds.f (k + 1) a0 a1) := by
 intro a0 a1 k
 have ih0 := impl_rounds.mono_l k
 unfold impl_rounds.f
 repeat' first
   | (with_reducible exact ih0 _ _)
   | (with_reducible exact impl_round.mono _ _ _)
   | (with_reducible exact LeO.refl _)
   | (with_reducible exact LeO.none _)
   | (with_reducible refine LeO.ite ?_ ?_)
   | (with_reducible refine LeO.bind ?_ (fun _ => ?_))
   | exact ih0 _ _
   | exact impl_round.mono _ _ _
   | exact LeO.none _
   | refine LeO.ite ?_ ?_
   | refine LeO.bind ?_ (fun _ => ?_)
set_option maxHeartbeats 8000000 in
set_option maxRecDepth 100000 in
theorem impl_rounds.calls (k : Nat) (a0 : ByteArray) (a1 : ByteArray) (r1 : ByteArray) (r2 : ByteArray) (w : World) (h : impl_rounds.f k a0 a1 = some (r1, r2)) :
  Calls Try.prog 54 #[.string a0, .string a1] w fun e w' => e = .returned (.tuple #[.string r1, .string r2]) ∧ Below w.heap.size w w' := by
 have HB := Aside0.mk (Below.refl w.heap.size w)
 have H : (impl_rounds.l0 k a0 a1) = some (r1, r2) := h
 clear h
 have H' := Aside0.mk H
 clear H
 go_enter Try.func54, Try.ntmps54
 go_wp2
 go_loopg [0, 1] k (fun kq v0 v1 w' => ∃ (x0_1 : ByteArray) (x1_1 : ByteArray), v0 = .string x0_1 ∧ v1 = .string x1_1 ∧ Aside0 (impl_rounds.l0 kq x0_1 x1_1 = some (r1, r2)) ∧ Aside0 (kq ≤ k) ∧ Aside0 (Below w.heap.size w w'))
 case atStart => exact ⟨(a0), (a1), (by first | rfl | (simp; done) | (simp [*]; done)), (by first | rfl | (simp; done) | (simp [*]; done)), H', ⟨Nat.le_refl _⟩, ⟨by repeat (first | (with_reducible first | exact HB.out | apply below_alloc | apply pw_below_drewN | apply below_drew1) | exact HB.out)⟩⟩
 case round =>
  clear H'
  try clear p2
  obtain ⟨x0_1, x1_1, rfl, rfl, HA, HK1, HB⟩ := hrel
  cases gk with
  | zero => exact absurd HA.out (by simp [impl_rounds.l0])
  | succ k1 =>
   have H := HA.out
   clear HA
   simp only [impl_rounds.l0] at H
   by_cases c3 : (x1_1.size : Int) ≥ 64
   ·
    rw [if_pos c3] at H
    have c3b0 : decide (64 ≤ (x1_1.size : Int)) = true := decide_eq_true c3
    have c3b1 : decide (64 ≤ x1_1.size) = true := decide_eq_true (by omega)
    clear c3
    by_cases c4 : 0 ≤ 64
    ·
     rw [if_pos c4] at H
     have c4b0 := eq_true c4
     have c4b1 : decide (0 ≤ 64) = true := decide_eq_true c4
     clear c4
     by_cases c5 : 64 ≤ (x1_1.size : Int)
     ·
      rw [if_pos c5] at H
      have c5b0 := eq_true c5
      have c5b1 : decide (64 ≤ (x1_1.size : Int)) = true := decide_eq_true c5
      clear c5
      replace H := Option.bind_eq_some_iff.mp H
      obtain ⟨t317, A60, H⟩ := H
      replace H : (impl_rounds.l0 k1 t317 (x1_1.extract 64 x1_1.size)) = some (r1, r2) := H
      have A6 := Aside0.mk A60
      clear A60
      have c7b0 := eq_true (of_decide_eq_true (by first | (with_reducible assumption) | assumption) : 64 ≤ (x1_1.size : Int))
      have H' := Aside0.mk H
      clear H
      go_wp2_with (first | ((with_reducible refine gate_callee (f := 66) rfl ?_); refine goesL_ (some 12) rfl rfl Try.func66 (by kernel_rfl) rfl #[.string x0_1, .string (x1_1.extract 0 64)] rfl (by (try simp only [List.map_toArray, List.map_cons, List.map_nil]); first | done | rfl | (simp only [List.length_drop, List.length_take]; rfl)) ?_; (with_reducible refine (impl_round.calls k1 x0_1 (x1_1.extract 0 64) t317 _ A6.out).mono ?_); rintro e w8 ⟨rfl, hb⟩; refine ⟨_, rfl, ?_⟩; have n0_ := Aside0.mk (below_step (by repeat (first | (with_reducible first | exact HB.out | apply below_alloc | apply pw_below_drewN | apply below_drew1) | exact HB.out)) hb); clear HB; have HB := n0_; clear n0_; (try clear hb); (try clear hb2); (try clear hk); (try clear hi)))
      go_roundg k1
      case measure => have := HK1.out; omega
      case rel => exact ⟨(t317), (x1_1.extract 64 x1_1.size), (by first | rfl | (simp; done) | (simp [*]; done)), (by first | rfl | (simp; done) | (simp [*]; done)), H', ⟨by have := HK1.out; omega⟩, ⟨by repeat (first | (with_reducible first | exact HB.out | apply below_alloc | apply pw_below_drewN | apply below_drew1) | exact HB.out)⟩⟩
     ·
      rw [if_neg c5] at H
      exact absurd H (by simp)
    ·
     rw [if_neg c4] at H
     exact absurd H (by simp)
   ·
    rw [if_neg c3] at H
    have c3b0 : decide (64 ≤ (x1_1.size : Int)) = false := decide_eq_false c3
    have c3b1 : decide (64 ≤ x1_1.size) = false := decide_eq_false (by omega)
    clear c3
    simp only [Option.some.injEq, Prod.mk.injEq] at H
    obtain ⟨rfl, rfl⟩ := H
    go_wp2
    go_ret2
    exact ⟨by first | rfl | (simp [errW_none, errW_some] <;> rfl) | (simp [*, errW_none, errW_some] <;> rfl), by repeat (first | (with_reducible first | exact HB.out | apply below_alloc | apply pw_below_drewN | apply below_drew1) | exact HB.out)⟩
def impl_firstState.f (k : Nat)  : Option (ByteArray) := (impl_wordsText.f k (([1779033703, 3144134277, 1013904242, 2773480762, 1359893119, 2600822924, 528734635, 1541459225] : List Int))).bind fun t321 => (some t321)
theorem impl_firstState.mono : ∀ k, LeO (impl_firstState.f k ) (impl_firstState.f (k + 1) ) := by
 intro  k
 unfold impl_firstState.f
 repeat' first
   | (with_reducible exact impl_wordsText.mono _ _)
   | (with_reducible exact LeO.refl _)
   | (with_reducible exact LeO.none _)
   | (with_reducible refine LeO.ite ?_ ?_)
   | (with_reducible refine LeO.bind ?_ (fun _ => ?_))
   | exact impl_wordsText.mono _ _
   | exact LeO.none _
   | refine LeO.ite ?_ ?_
   | refine LeO.bind ?_ (fun _ => ?_)
set_option maxHeartbeats 8000000 in
set_option maxRecDepth 100000 in
theorem impl_firstState.calls (k : Nat)  (r : ByteArray) (w : World) (h : impl_firstState.f k  = some r) :
  Calls Try.prog 55 #[] w fun e w' => e = .returned (.string r) ∧ Below w.heap.size w w' := by
 have HB := Aside0.mk (Below.refl w.heap.size w)
 have H : ((impl_wordsText.f k (([1779033703, 3144134277, 1013904242, 2773480762, 1359893119, 2600822924, 528734635, 1541459225] : List Int))).bind fun t321 => (some t321)) = some r := h
 clear h
 obtain ⟨y318, hy318⟩ : ∃ y_ : List Int, y_ = (([1779033703, 3144134277, 1013904242, 2773480762, 1359893119, 2600822924, 528734635, 1541459225] : List Int)) := ⟨_, rfl⟩
 replace H : ((impl_wordsText.f k y318).bind fun t321 => (some t321)) = some r := by first | (rw [hy318]; with_reducible exact H) | (have H2_ := (Option.bind_some _ _).symm.trans H; rw [hy318]; with_reducible exact H2_) | (have H2_ := (Option.bind_some _ _).symm.trans H; with_reducible exact H2_) | with_reducible exact H | (rw [hy318]; exact H) | exact H
 have Ny318 := Aside0.mk hy318
 clear hy318
 replace H := Option.bind_eq_some_iff.mp H
 obtain ⟨t321, A10, H⟩ := H
 replace H : (some t321) = some r := H
 have A1 := Aside0.mk A10
 clear A10
 obtain rfl := Option.some.inj H
 go_enter Try.func55, Try.ntmps55
 go_wp2_with (first | ((with_reducible refine gate_dst (N := 1) rfl ?_); refine Kd.R_lit (Kd.int .i64) _ 3 ?hg (N := 1) ?hd (xs := ([1779033703, 3144134277, 1013904242, 2773480762, 1359893119, 2600822924, 528734635, 1541459225] : List Int)) (inner := [.int .i64 1779033703, .int .i64 3144134277, .int .i64 1013904242, .int .i64 2773480762, .int .i64 1359893119, .int .i64 2600822924, .int .i64 528734635, .int .i64 1541459225]) (ok := fun _ => True) (okp := fun _ => True) ?hr ?hp (fun _ hk => hk) trivial (Below.refl _ _) (Nat.le_refl _) (by simp) ?_; (case hd => rfl); (case hg => rfl); (case hr => first | (go_simp; done) | (go_simp; rfl)); (case hp => exact (Reps.one (show Kd.M (Kd.int .i64) _ _ _ 1779033703 [.int .i64 1779033703] from rfl) (Reps.one (show Kd.M (Kd.int .i64) _ _ _ 3144134277 [.int .i64 3144134277] from rfl) (Reps.one (show Kd.M (Kd.int .i64) _ _ _ 1013904242 [.int .i64 1013904242] from rfl) (Reps.one (show Kd.M (Kd.int .i64) _ _ _ 2773480762 [.int .i64 2773480762] from rfl) (Reps.one (show Kd.M (Kd.int .i64) _ _ _ 1359893119 [.int .i64 1359893119] from rfl) (Reps.one (show Kd.M (Kd.int .i64) _ _ _ 2600822924 [.int .i64 2600822924] from rfl) (Reps.one (show Kd.M (Kd.int .i64) _ _ _ 528734635 [.int .i64 528734635] from rfl) (Reps.one (show Kd.M (Kd.int .i64) _ _ _ 1541459225 [.int .i64 1541459225] from rfl) (Reps.none _ _)))))))))); intro v319 w2 ho3 hb hg_ hnew_; clear hg_ hnew_; (first | rw [← Ny318.out] at ho3 | (simp only [Int.reduceToNat] at ho3; rw [← Ny318.out] at ho3)); have n0_ := Aside0.mk (Kd.R_lower ho3 (below_size (by repeat (first | (with_reducible first | exact HB.out | apply below_alloc | apply pw_below_drewN | apply below_drew1) | exact HB.out)))); have n1_ := Aside0.mk (below_step (by repeat (first | (with_reducible first | exact HB.out | apply below_alloc | apply pw_below_drewN | apply below_drew1) | exact HB.out)) hb); clear HB; have HO320 := n0_; have HB := n1_; clear n0_ n1_; clear hb ho3; obtain ⟨Ao4, co4, eo4⟩ := Kd.R_slice HO320.out; subst eo4) | ((with_reducible refine gate_callee (f := 67) rfl ?_); refine goesL_ (some 2) rfl rfl Try.func67 (by kernel_rfl) rfl #[.slice Ao4 y318.length co4] rfl (by (try simp only [List.map_toArray, List.map_cons, List.map_nil]); first | done | rfl | (simp only [List.length_drop, List.length_take]; rfl)) ?_; (with_reducible refine (impl_wordsText.calls k _ _ y318 t321 _ ?side1 ?side2 A1.out).mono ?_); (case side1 => repeat (first | exact (Kd.R_reads' HO320.out).2.2 | (with_reducible refine Kd.C_alloc ?_ _) | (with_reducible refine Kd.C_drewN ?_ _) | (with_reducible refine Kd.C_drew ?_))); (case side2 => exact (Kd.R_reads' HO320.out).2.1); rintro e w5 ⟨rfl, hb⟩; refine ⟨_, rfl, ?_⟩; have n0_ := Aside0.mk (Kd.R_below (by (with_reducible repeat (first | apply Kd.R_alloc | apply Kd.R_drewN | apply Kd.R_drew)); exact HO320.out) hb); have n1_ := Aside0.mk (below_step (by repeat (first | (with_reducible first | exact HB.out | apply below_alloc | apply pw_below_drewN | apply below_drew1) | exact HB.out)) hb); clear HO320; clear HB; have HO320 := n0_; have HB := n1_; clear n0_ n1_; (try clear hb); (try clear hb2); (try clear hk); (try clear hi)))
 go_ret
 exact ⟨by first | rfl | (simp [errW_none, errW_some] <;> rfl) | (simp [*, errW_none, errW_some] <;> rfl), by repeat (first | (with_reducible first | exact HB.out | apply below_alloc | apply pw_below_drewN | apply below_drew1) | exact HB.out)⟩
def strings_Repeat.f (a0 : ByteArray) (a1 : Int) : Option ByteArray := if 0 ≤ a1 ∧ a1 ≤ 9223372036854775807 ∧ a0.size * a1.toNat ≤ 140737488355328 then some ⟨(Lib.repeatL a0.data.toList a1.toNat).toArray⟩ else none
theorem strings_Repeat.calls (a0 : ByteArray) (a1 : Int) (r : ByteArray) (w : World) (h : strings_Repeat.f a0 a1 = some r) :
  Calls Try.prog 50 #[.string a0, .int .i64 a1] w fun e w' => e = .returned (.string r) ∧ Below w.heap.size w w' := by
 unfold strings_Repeat.f at h
 by_cases hc : 0 ≤ a1 ∧ a1 ≤ 9223372036854775807 ∧ a0.size * a1.toNat ≤ 140737488355328
 case neg => rw [if_neg hc] at h; cases h
 rw [if_pos hc] at h
 obtain rfl := Option.some.inj h
 obtain ⟨c, rfl⟩ := Int.eq_ofNat_of_zero_le hc.1
 rw [Int.toNat_natCast] at hc ⊢
 exact Try.strings_Repeat a0 c w (by omega) hc.2.2
def impl_padding.f (a0 : Int) : Option (ByteArray) := (strings_Repeat.f (⟨#[0]⟩ : ByteArray) (Int.tmod (wrap64 (119 - (Int.tmod a0 64))) 64)).bind fun t322 => (if 1 + t322.size ≤ 9223372036854775807 then ((impl_NumberText.f ((wrap64 (8 * a0)) / 4294967296)).bind fun t323 => (if ((⟨#[128]⟩ : ByteArray) ++ t322).size + t323.size ≤ 9223372036854775807 then ((impl_NumberText.f (Go.bits .and .i64 (wrap64 (8 * a0)) 4294967295)).bind fun t324 => (if (((⟨#[128]⟩ : ByteArray) ++ t322) ++ t323).size + t324.size ≤ 9223372036854775807 then (some ((((⟨#[128]⟩ : ByteArray) ++ t322) ++ t323) ++ t324)) else (none))) else (none))) else (none))
set_option maxHeartbeats 8000000 in
set_option maxRecDepth 100000 in
theorem impl_padding.calls (a0 : Int) (r : ByteArray) (w : World) (h : impl_padding.f a0 = some r) :
  Calls Try.prog 56 #[.int .i64 a0] w fun e w' => e = .returned (.string r) ∧ Below w.heap.size w w' := by
 have HB := Aside0.mk (Below.refl w.heap.size w)
 have H : ((strings_Repeat.f (⟨#[0]⟩ : ByteArray) (Int.tmod (wrap64 (119 - (Int.tmod a0 64))) 64)).bind fun t322 => (if 1 + t322.size ≤ 9223372036854775807 then ((impl_NumberText.f ((wrap64 (8 * a0)) / 4294967296)).bind fun t323 => (if ((⟨#[128]⟩ : ByteArray) ++ t322).size + t323.size ≤ 9223372036854775807 then ((impl_NumberText.f (Go.bits .and .i64 (wrap64 (8 * a0)) 4294967295)).bind fun t324 => (if (((⟨#[128]⟩ : ByteArray) ++ t322) ++ t323).size + t324.size ≤ 9223372036854775807 then (some ((((⟨#[128]⟩ : ByteArray) ++ t322) ++ t323) ++ t324)) else (none))) else (none))) else (none))) = some r := h
 clear h
 replace H := Option.bind_eq_some_iff.mp H
 obtain ⟨t322, A20, H⟩ := H
 replace H : (if 1 + t322.size ≤ 9223372036854775807 then ((impl_NumberText.f ((wrap64 (8 * a0)) / 4294967296)).bind fun t323 => (if ((⟨#[128]⟩ : ByteArray) ++ t322).size + t323.size ≤ 9223372036854775807 then ((impl_NumberText.f (Go.bits .and .i64 (wrap64 (8 * a0)) 4294967295)).bind fun t324 => (if (((⟨#[128]⟩ : ByteArray) ++ t322) ++ t323).size + t324.size ≤ 9223372036854775807 then (some ((((⟨#[128]⟩ : ByteArray) ++ t322) ++ t323) ++ t324)) else (none))) else (none))) else (none)) = some r := H
 have A2 := Aside0.mk A20
 clear A20
 by_cases c3 : 1 + t322.size ≤ 9223372036854775807
 ·
  rw [if_pos c3] at H
  have c3b0 := eq_true c3
  have c3b1 : decide (1 + t322.size ≤ 9223372036854775807) = true := decide_eq_true c3
  try have c3b2 : (9223372036854775807 < 1 + t322.size) = False := eq_false (Nat.not_lt.2 c3)
  replace H := Option.bind_eq_some_iff.mp H
  obtain ⟨t323, A40, H⟩ := H
  replace H : (if ((⟨#[128]⟩ : ByteArray) ++ t322).size + t323.size ≤ 9223372036854775807 then ((impl_NumberText.f (Go.bits .and .i64 (wrap64 (8 * a0)) 4294967295)).bind fun t324 => (if (((⟨#[128]⟩ : ByteArray) ++ t322) ++ t323).size + t324.size ≤ 9223372036854775807 then (some ((((⟨#[128]⟩ : ByteArray) ++ t322) ++ t323) ++ t324)) else (none))) else (none)) = some r := H
  have A4 := Aside0.mk A40
  clear A40
  by_cases c5 : ((⟨#[128]⟩ : ByteArray) ++ t322).size + t323.size ≤ 9223372036854775807
  ·
   rw [if_pos c5] at H
   have c5b0 := eq_true c5
   have c5b1 : decide (((⟨#[128]⟩ : ByteArray) ++ t322).size + t323.size ≤ 9223372036854775807) = true := decide_eq_true c5
   try (have c5b9 := c5; simp only [ByteArray.size_append, (show (⟨#[128]⟩ : ByteArray).size = 1 from rfl)] at c5b9; have c5b8 := eq_false (Nat.not_lt.2 c5b9))
   try have c5b2 : (9223372036854775807 < ((⟨#[128]⟩ : ByteArray) ++ t322).size + t323.size) = False := eq_false (Nat.not_lt.2 c5)
   replace H := Option.bind_eq_some_iff.mp H
   obtain ⟨t324, A60, H⟩ := H
   replace H : (if (((⟨#[128]⟩ : ByteArray) ++ t322) ++ t323).size + t324.size ≤ 9223372036854775807 then (some ((((⟨#[128]⟩ : ByteArray) ++ t322) ++ t323) ++ t324)) else (none)) = some r := H
   have A6 := Aside0.mk A60
   clear A60
   by_cases c7 : (((⟨#[128]⟩ : ByteArray) ++ t322) ++ t323).size + t324.size ≤ 9223372036854775807
   ·
    rw [if_pos c7] at H
    have c7b0 := eq_true c7
    have c7b1 : decide ((((⟨#[128]⟩ : ByteArray) ++ t322) ++ t323).size + t324.size ≤ 9223372036854775807) = true := decide_eq_true c7
    try (have c7b9 := c7; simp only [ByteArray.size_append, (show (⟨#[128]⟩ : ByteArray).size = 1 from rfl)] at c7b9; have c7b8 := eq_false (Nat.not_lt.2 c7b9))
    try have c7b2 : (9223372036854775807 < (((⟨#[128]⟩ : ByteArray) ++ t322) ++ t323).size + t324.size) = False := eq_false (Nat.not_lt.2 c7)
    obtain rfl := Option.some.inj H
    go_enter Try.func56, Try.ntmps56
    go_wp2_with (first | ((with_reducible refine gate_callee (f := 50) rfl ?_); refine goesL_ (some 9) rfl rfl Try.func50 (by kernel_rfl) rfl #[.string (⟨#[0]⟩ : ByteArray), .int .i64 (Int.tmod (wrap64 (119 - (Int.tmod a0 64))) 64)] rfl (by (try simp only [List.map_toArray, List.map_cons, List.map_nil]); first | done | rfl | (simp only [List.length_drop, List.length_take]; rfl)) ?_; (with_reducible refine (strings_Repeat.calls (⟨#[0]⟩ : ByteArray) (Int.tmod (wrap64 (119 - (Int.tmod a0 64))) 64) t322 _ A2.out).mono ?_); rintro e w8 ⟨rfl, hb⟩; refine ⟨_, rfl, ?_⟩; have n0_ := Aside0.mk (below_step (by repeat (first | (with_reducible first | exact HB.out | apply below_alloc | apply pw_below_drewN | apply below_drew1) | exact HB.out)) hb); clear HB; have HB := n0_; clear n0_; (try clear hb); (try clear hb2); (try clear hk); (try clear hi)) | ((with_reducible refine gate_callee (f := 68) rfl ?_); refine goesL_ (some 14) rfl rfl Try.func68 (by kernel_rfl) rfl #[.int .i64 ((wrap64 (8 * a0)) / 4294967296)] rfl (by (try simp only [List.map_toArray, List.map_cons, List.map_nil]); first | done | rfl | (simp only [List.length_drop, List.length_take]; rfl)) ?_; (with_reducible refine (impl_NumberText.calls ((wrap64 (8 * a0)) / 4294967296) t323 _ A4.out).mono ?_); rintro e w9 ⟨rfl, hb⟩; refine ⟨_, rfl, ?_⟩; have n0_ := Aside0.mk (below_step (by repeat (first | (with_reducible first | exact HB.out | apply below_alloc | apply pw_below_drewN | apply below_drew1) | exact HB.out)) hb); clear HB; have HB := n0_; clear n0_; (try clear hb); (try clear hb2); (try clear hk); (try clear hi)) | ((with_reducible refine gate_callee (f := 68) rfl ?_); refine goesL_ (some 19) rfl rfl Try.func68 (by kernel_rfl) rfl #[.int .i64 (Go.bits .and .i64 (wrap64 (8 * a0)) 4294967295)] rfl (by (try simp only [List.map_toArray, List.map_cons, List.map_nil]); first | done | rfl | (simp only [List.length_drop, List.length_take]; rfl)) ?_; (with_reducible refine (impl_NumberText.calls (Go.bits .and .i64 (wrap64 (8 * a0)) 4294967295) t324 _ A6.out).mono ?_); rintro e w10 ⟨rfl, hb⟩; refine ⟨_, rfl, ?_⟩; have n0_ := Aside0.mk (below_step (by repeat (first | (with_reducible first | exact HB.out | apply below_alloc | apply pw_below_drewN | apply below_drew1) | exact HB.out)) hb); clear HB; have HB := n0_; clear n0_; (try clear hb); (try clear hb2); (try clear hk); (try clear hi)))
    go_ret
    exact ⟨by first | rfl | (simp [errW_none, errW_some] <;> rfl) | (simp [*, errW_none, errW_some] <;> rfl), by repeat (first | (with_reducible first | exact HB.out | apply below_alloc | apply pw_below_drewN | apply below_drew1) | exact HB.out)⟩
   ·
    rw [if_neg c7] at H
    exact absurd H (by simp)
  ·
   rw [if_neg c5] at H
   exact absurd H (by simp)
 ·
  rw [if_neg c3] at H
  exact absurd H (by simp)
def impl_DigestOf.f (k : Nat) (a0 : ByteArray) : Option (ByteArray) := (impl_firstState.f k).bind fun t325 => ((impl_padding.f (a0.size : Int)).bind fun t326 => (if a0.size + t326.size ≤ 9223372036854775807 then ((impl_rounds.f k t325 (a0 ++ t326)).bind fun bt327 => (some bt327.1)) else (none)))
theorem impl_DigestOf.mono : ∀ a0 k, LeO (impl_DigestOf.f k a0) (impl_DigestOf.f (k + 1) a0) := by
 intro a0 k
 unfold impl_DigestOf.f
 repeat' first
   | (with_reducible exact impl_firstState.mono _)
   | (with_reducible exact impl_rounds.mono _ _ _)
   | (with_reducible exact LeO.refl _)
   | (with_reducible exact LeO.none _)
   | (with_reducible refine LeO.ite ?_ ?_)
   | (with_reducible refine LeO.bind ?_ (fun _ => ?_))
   | exact impl_firstState.mono _
   | exact impl_rounds.mono _ _ _
   | exact LeO.none _
   | refine LeO.ite ?_ ?_
   | refine LeO.bind ?_ (fun _ => ?_)
set_option maxHeartbeats 8000000 in
set_option maxRecDepth 100000 in
theorem impl_DigestOf.calls (k : Nat) (a0 : ByteArray) (r : ByteArray) (w : World) (h : impl_DigestOf.f k a0 = some r) :
  Calls Try.prog 49 #[.string a0] w fun e w' => e = .returned (.string r) ∧ Below w.heap.size w w' := by
 have HB := Aside0.mk (Below.refl w.heap.size w)
 have H : ((impl_firstState.f k).bind fun t325 => ((impl_padding.f (a0.size : Int)).bind fun t326 => (if a0.size + t326.size ≤ 9223372036854775807 then ((impl_rounds.f k t325 (a0 ++ t326)).bind fun bt327 => (some bt327.1)) else (none)))) = some r := h
 clear h
 replace H := Option.bind_eq_some_iff.mp H
 obtain ⟨t325, A20, H⟩ := H
 replace H : ((impl_padding.f (a0.size : Int)).bind fun t326 => (if a0.size + t326.size ≤ 9223372036854775807 then ((impl_rounds.f k t325 (a0 ++ t326)).bind fun bt327 => (some bt327.1)) else (none))) = some r := H
 have A2 := Aside0.mk A20
 clear A20
 replace H := Option.bind_eq_some_iff.mp H
 obtain ⟨t326, A30, H⟩ := H
 replace H : (if a0.size + t326.size ≤ 9223372036854775807 then ((impl_rounds.f k t325 (a0 ++ t326)).bind fun bt327 => (some bt327.1)) else (none)) = some r := H
 have A3 := Aside0.mk A30
 clear A30
 by_cases c4 : a0.size + t326.size ≤ 9223372036854775807
 ·
  rw [if_pos c4] at H
  have c4b0 := eq_true c4
  have c4b1 : decide (a0.size + t326.size ≤ 9223372036854775807) = true := decide_eq_true c4
  try have c4b2 : (9223372036854775807 < a0.size + t326.size) = False := eq_false (Nat.not_lt.2 c4)
  replace H := Option.bind_eq_some_iff.mp H
  obtain ⟨⟨t327, t328⟩, A50, H⟩ := H
  replace H : (some t327) = some r := H
  have A5 := Aside0.mk A50
  clear A50
  obtain rfl := Option.some.inj H
  go_enter Try.func49, Try.ntmps49
  go_wp2_with (first | ((with_reducible refine gate_callee (f := 55) rfl ?_); refine goesL_ (some 6) rfl rfl Try.func55 (by kernel_rfl) rfl #[] rfl (by (try simp only [List.map_toArray, List.map_cons, List.map_nil]); first | done | rfl | (simp only [List.length_drop, List.length_take]; rfl)) ?_; (with_reducible refine (impl_firstState.calls k  t325 _ A2.out).mono ?_); rintro e w6 ⟨rfl, hb⟩; refine ⟨_, rfl, ?_⟩; have n0_ := Aside0.mk (below_step (by repeat (first | (with_reducible first | exact HB.out | apply below_alloc | apply pw_below_drewN | apply below_drew1) | exact HB.out)) hb); clear HB; have HB := n0_; clear n0_; (try clear hb); (try clear hb2); (try clear hk); (try clear hi)) | ((with_reducible refine gate_callee (f := 56) rfl ?_); refine goesL_ (some 10) rfl rfl Try.func56 (by kernel_rfl) rfl #[.int .i64 (a0.size : Int)] rfl (by (try simp only [List.map_toArray, List.map_cons, List.map_nil]); first | done | rfl | (simp only [List.length_drop, List.length_take]; rfl)) ?_; (with_reducible refine (impl_padding.calls (a0.size : Int) t326 _ A3.out).mono ?_); rintro e w7 ⟨rfl, hb⟩; refine ⟨_, rfl, ?_⟩; have n0_ := Aside0.mk (below_step (by repeat (first | (with_reducible first | exact HB.out | apply below_alloc | apply pw_below_drewN | apply below_drew1) | exact HB.out)) hb); clear HB; have HB := n0_; clear n0_; (try clear hb); (try clear hb2); (try clear hk); (try clear hi)) | ((with_reducible refine gate_callee (f := 54) rfl ?_); refine goesL_ (some 12) rfl rfl Try.func54 (by kernel_rfl) rfl #[.string t325, .string (a0 ++ t326)] rfl (by (try simp only [List.map_toArray, List.map_cons, List.map_nil]); first | done | rfl | (simp only [List.length_drop, List.length_take]; rfl)) ?_; (with_reducible refine (impl_rounds.calls k t325 (a0 ++ t326) t327 t328 _ A5.out).mono ?_); rintro e w8 ⟨rfl, hb⟩; refine ⟨_, rfl, ?_⟩; have n0_ := Aside0.mk (below_step (by repeat (first | (with_reducible first | exact HB.out | apply below_alloc | apply pw_below_drewN | apply below_drew1) | exact HB.out)) hb); clear HB; have HB := n0_; clear n0_; (try clear hb); (try clear hb2); (try clear hk); (try clear hi)))
  go_ret
  exact ⟨by first | rfl | (simp [errW_none, errW_some] <;> rfl) | (simp [*, errW_none, errW_some] <;> rfl), by repeat (first | (with_reducible first | exact HB.out | apply below_alloc | apply pw_below_drewN | apply below_drew1) | exact HB.out)⟩
 ·
  rw [if_neg c4] at H
  exact absurd H (by simp)
def impl_masked.f (a0 : ByteArray) (a1 : Int) : Option ByteArray := if a0.size ≤ 140737488351232 then some (strOfNums ((bytesOf a0).map fun b => Go.bits .xor .u8 b a1)) else none
set_option maxHeartbeats 4000000 in
set_option maxRecDepth 100000 in
theorem impl_masked.calls (a0 : ByteArray) (a1 : Int) (r : ByteArray) (w : World) (h : impl_masked.f a0 a1 = some r) :
  Calls Try.prog 51 #[.string a0, .int .u8 a1] w fun e w' => e = .returned (.string r) ∧ Below w.heap.size w w' := by
 unfold impl_masked.f at h
 by_cases hs : a0.size ≤ 140737488351232
 case neg => rw [if_neg hs] at h; cases h
 rw [if_pos hs] at h
 have Hr := Aside0.mk (Option.some.inj h).symm
 clear h
 have hl0 := bytesOf_length a0
 obtain ⟨T, hT⟩ : ∃ T, T = (bytesOf a0).map fun b => Go.bits .xor .u8 b a1 := ⟨_, rfl⟩
 have hTl : T.length = (bytesOf a0).length := by rw [hT, List.length_map]
 have HT := Aside0.mk hT
 have HTl := Aside0.mk hTl
 have HL := Aside0.mk hl0
 clear hT hTl hl0
 have kb := fun W => print_bytes (P := Try.prog) 9 25 5 Try.underlying9 Try.underlying25 Try.underlying5 a0 W
 go_enter Try.func51, Try.ntmps51
 go_wp2
 go_loopg [11] a0.size (fun kq v11 w' => ∃ i : Nat, i + kq = a0.size ∧ v11 = .int .i64 i ∧ Aside0 (MRow w' w.heap.size 5 (grownCap w a0.size 0 5) (T.take i ++ (bytesOf a0).drop i)) ∧ Aside0 (Below w.heap.size w w'))
 case atStart => exact ⟨0, by omega, rfl, ⟨by simpa using MRow.conv w 5 a0⟩, ⟨bytes_below (Below.refl _ _) (Nat.le_refl _) 5 a0⟩⟩
 case round =>
  obtain ⟨i, hi, rfl, HM, HB⟩ := hrel
  clear kb
  have hTl := HTl.out
  have hl0 := HL.out
  by_cases hlt : i < a0.size
  ·
   obtain ⟨k1, rfl⟩ : ∃ k1, gk = k1 + 1 := ⟨gk - 1, by omega⟩
   have hml := mid_len T (bytesOf a0) i (by omega) hTl
   obtain ⟨b, hb⟩ : ∃ b, b = (bytesOf a0).getD i 0 := ⟨_, rfl⟩
   have hmr := mid_rd T (bytesOf a0) i (by omega) hTl
   rw [← hb] at hmr
   obtain ⟨hc, hf⟩ := HM.out.cell (i : Int) (by omega) (by rw [hml]; omega)
   rw [hmr, Int.toNat_natCast] at hc
   rw [Int.toNat_natCast] at hf
   have hst := set_step T (bytesOf a0) i (by omega) hTl
   have hTi : T.getD i 0 = Go.bits .xor .u8 b a1 := by
    rw [HT.out, hb]
    simp [List.getD_eq_getElem?_getD, List.getElem?_map, List.getElem?_eq_getElem (show i < (bytesOf a0).length by omega)]
   rw [hTi] at hst
   have HM2 := Aside0.mk (hst ▸ HM.out.set i (Go.bits .xor .u8 b a1))
   have HB2 := Aside0.mk (below_set (HB.out) (Nat.le_refl w.heap.size) : Below w.heap.size w (wr.setCell ⟨w.heap.size, i, none⟩ (.int .u8 (Go.bits .xor .u8 b a1))))
   clear hst hTi hmr hb hml hTl hl0 HM HB
   go_wp2
   go_roundg k1
   case measure => omega
   case rel => exact ⟨i + 1, by omega, by simp, HM2, HB2⟩
  ·
   have hi2 : i = a0.size := by omega
   have hd : decide (i < a0.size) = false := decide_eq_false hlt
   have e1 : T.take i ++ (bytesOf a0).drop i = T := by
    rw [List.take_of_length_le (by omega), List.drop_eq_nil_of_le (by omega), List.append_nil]
   have HM2 := HM.out
   rw [e1] at HM2
   have kb2 := HM2.str (P := Try.prog) Try.underlying25 Try.underlying5 Try.underlying9 (grownCap w a0.size 0 5)
   have e2 : T.length = a0.size := by omega
   rw [e2] at kb2
   have Hr2 := Aside0.mk (show strOfNums T = r from by rw [HT.out]; exact Hr.out.symm)
   clear HM2 e1 e2 hTl hl0 HM hi hlt hi2
   go_wp2
   go_ret
   exact ⟨by first | rfl | (simp; done) | (rw [Hr2.out]; rfl) | (simp [Hr2.out]; done), HB.out⟩
end Go.Proofs.Ytgepaoikhfofmaa.PFnLocks
