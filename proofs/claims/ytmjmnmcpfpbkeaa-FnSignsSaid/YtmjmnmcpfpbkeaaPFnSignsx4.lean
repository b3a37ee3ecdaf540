-- Written by this session's program wip/myprint.py, after the kit's print.
import Derived.Test.YtmjmnmcpfpbkeaaPFnSignsx0
import Derived.Test.YtmjmnmcpfpbkeaaPFnSignsx2
import Derived.Test.YtmjmnmcpfpbkeaaPFnSignsx3
namespace Go.Proofs.Ytmjmnmcpfpbkeaa.PFnSigns
open Go.RowKit Go.Proofs.YtmjmnmcpfpbkeaaW.PrintWords Go.Proofs.YtmjmnmcpfpbkeaaW.PrintLast Go.Proofs.YtmjmnmcpfpbkeaaW.PrintMore
attribute [local go_sem] max2_int min2_int max_two min_two max_three min_three max_four min_four   -- for this text's walks alone
set_option linter.unusedVariables false
set_option linter.unusedSimpArgs false
mutual
def impl_round.l0 : Nat → List Int → List Int → Int → Int → Int → Int → Int → Int → Int → Int → Int → Option (ByteArray)
 | 0, _, _, _, _, _, _, _, _, _, _, _ => none
 | k + 1, x6, x7, x8, x9, x10, x11, x12, x13, x14, x15, x52 => if x52 < 64 then ((impl_turnRight.f x12 6).bind fun t203 => ((impl_turnRight.f x12 11).bind fun t204 => ((impl_turnRight.f x12 25).bind fun t205 => (if 0 ≤ x52 then (if x52 < (x6.length : Int) then ((impl_turnRight.f x8 2).bind fun t207 => ((impl_turnRight.f x8 13).bind fun t208 => ((impl_turnRight.f x8 22).bind fun t209 => (impl_round.l0 k x6 x7 (Go.bits .and .i64 (wrap64 ((wrap64 ((wrap64 ((wrap64 ((wrap64 (x15 + (Go.bits .xor .i64 (Go.bits .xor .i64 t203 t204) t205))) + (Go.bits .xor .i64 (Go.bits .and .i64 x12 x13) (Go.bits .and .i64 (Go.bits .xor .i64 4294967295 x12) x14)))) + (rd kTab x52))) + (rd x6 x52))) + (wrap64 ((Go.bits .xor .i64 (Go.bits .xor .i64 t207 t208) t209) + (Go.bits .xor .i64 (Go.bits .xor .i64 (Go.bits .and .i64 x8 x9) (Go.bits .and .i64 x8 x10)) (Go.bits .and .i64 x9 x10)))))) 4294967295) x8 x9 x10 (Go.bits .and .i64 (wrap64 (x11 + (wrap64 ((wrap64 ((wrap64 ((wrap64 (x15 + (Go.bits .xor .i64 (Go.bits .xor .i64 t203 t204) t205))) + (Go.bits .xor .i64 (Go.bits .and .i64 x12 x13) (Go.bits .and .i64 (Go.bits .xor .i64 4294967295 x12) x14)))) + (rd kTab x52))) + (rd x6 x52))))) 4294967295) x12 x13 x14 (wrap64 (x52 + 1)))))) else (none)) else (none))))) else ((some (([x8, x9, x10, x11, x12, x13, x14, x15] : List Int) : List Int)).bind fun y210 => (impl_round.l1 k x7 y210 (y210.length : Int) 0))
def impl_round.l1 : Nat → List Int → List Int → Int → Int → Option (ByteArray)
 | 0, _, _, _, _ => none
 | k + 1, x7, x128, x129, x130 => if x130 < x129 then (if 0 ≤ x130 then (if x130 < (x128.length : Int) then (if x130 < (x7.length : Int) then (impl_round.l1 k (x7.set (x130 : Int).toNat (Go.bits .and .i64 (wrap64 ((rd x7 x130) + (rd x128 x130))) 4294967295)) x128 x129 (wrap64 (x130 + 1))) else (none)) else (none)) else (none)) else ((impl_wordsText.f k x7).bind fun t216 => (some t216))
end
def impl_round.f (k : Nat) (a0 : ByteArray) (a1 : ByteArray) : Option (ByteArray) := (impl_constants.f).bind fun _ => ((impl_expanded.f k a1).bind fun t189 => ((impl_wordsOf.f k a0).bind fun t192 => (if 0 < (t192.length : Int) then (if 1 < (t192.length : Int) then (if 2 < (t192.length : Int) then (if 3 < (t192.length : Int) then (if 4 < (t192.length : Int) then (if 5 < (t192.length : Int) then (if 6 < (t192.length : Int) then (if 7 < (t192.length : Int) then (impl_round.l0 k t189 t192 (rd t192 0) (rd t192 1) (rd t192 2) (rd t192 3) (rd t192 4) (rd t192 5) (rd t192 6) (rd t192 7) 0) else (none)) else (none)) else (none)) else (none)) else (none)) else (none)) else (none)) else (none))))
theorem impl_round.mono_l : ∀ k, (∀ y0 y1 y2 y3 y4 y5 y6 y7 y8 y9 y10, LeO (impl_round.l0 k y0 y1 y2 y3 y4 y5 y6 y7 y8 y9 y10) (impl_round.l0 (k + 1) y0 y1 y2 y3 y4 y5 y6 y7 y8 y9 y10)) ∧ (∀ y0 y1 y2 y3, LeO (impl_round.l1 k y0 y1 y2 y3) (impl_round.l1 (k + 1) y0 y1 y2 y3))
 | 0 => ⟨fun _ _ _ _ _ _ _ _ _ _ _ r h => by simp [impl_round.l0] at h, fun _ _ _ _ r h => by simp [impl_round.l1] at h⟩
 | k + 1 => by
  obtain ⟨ih0, ih1⟩ := impl_round.mono_l k
  refine ⟨?_, ?_⟩
  ·
   intro y0 y1 y2 y3 y4 y5 y6 y7 y8 y9 y10
   unfold impl_round.l0
   repeat' first
   | (with_reducible exact ih0 _ _ _ _ _ _ _ _ _ _ _)
   | (with_reducible exact ih1 _ _ _ _)
   | (with_reducible exact impl_expanded.mono _ _)
   | (with_reducible exact impl_wordsOf.mono _ _)
   | (with_reducible exact impl_wordsText.mono _ _)
   | (with_reducible exact LeO.refl _)
   | (with_reducible exact LeO.none _)
   | (with_reducible refine LeO.ite ?_ ?_)
   | (with_reducible refine LeO.bind ?_ (fun _ => ?_))
   | exact ih0 _ _ _ _ _ _ _ _ _ _ _
   | exact ih1 _ _ _ _
   | exact impl_expanded.mono _ _
   | exact impl_wordsOf.mono _ _
   | exact impl_wordsText.mono _ _
   | exact LeO.none _
   | refine LeO.ite ?_ ?_
   | refine LeO.bind ?_ (fun _ => ?_)
  ·
   intro y0 y1 y2 y3
   unfold impl_round.l1
   repeat' first
   | (with_reducible exact ih0 _ _ _ _ _ _ _ _ _ _ _)
   | (with_reducible exact ih1 _ _ _ _)
   | (with_reducible exact impl_expanded.mono _ _)
   | (with_reducible exact impl_wordsOf.mono _ _)
   | (with_reducible exact impl_wordsText.mono _ _)
   | (with_reducible exact LeO.refl _)
   | (with_reducible exact LeO.none _)
   | (with_reducible refine LeO.ite ?_ ?_)
   | (with_reducible refine LeO.bind ?_ (fun _ => ?_))
   | exact ih0 _ _ _ _ _ _ _ _ _ _ _
   | exact ih1 _ _ _ _
   | exact impl_expanded.mono _ _
   | exact impl_wordsOf.mono _ _
   | exact impl_wordsText.mono _ _
   | exact LeO.none _
   | refine LeO.ite ?_ ?_
   | refine LeO.bind ?_ (fun _ => ?_)
theorem impl_round.mono : ∀ a0 a1 k, LeO (impl_round.f k a0 a1) (impl_round.f (k + 1) a0 a1) := by
 intro a0 a1 k
 obtain ⟨ih0, ih1⟩ := impl_round.mono_l k
 unfold impl_round.f
 repeat' first
   | (with_reducible exact ih0 _ _ _ _ _ _ _ _ _ _ _)
   | (with_reducible exact ih1 _ _ _ _)
   | (with_reducible exact impl_expanded.mono _ _)
   | (with_reducible exact impl_wordsOf.mono _ _)
   | (with_reducible exact impl_wordsText.mono _ _)
   | (with_reducible exact LeO.refl _)
   | (with_reducible exact LeO.none _)
   | (with_reducible refine LeO.ite ?_ ?_)
   | (with_reducible refine LeO.bind ?_ (fun _ => ?_))
   | exact ih0 _ _ _ _ _ _ _ _ _ _ _
   | exact ih1 _ _ _ _
   | exact impl_expanded.mono _ _
   | exact impl_wordsOf.mono _ _
   | exact impl_wordsText.mono _ _
   | exact LeO.none _
   | refine LeO.ite ?_ ?_
   | refine LeO.bind ?_ (fun _ => ?_)
set_option maxHeartbeats 8000000 in
set_option maxRecDepth 100000 in
theorem impl_round.calls (k : Nat) (a0 : ByteArray) (a1 : ByteArray) (r : ByteArray) (w : World) (h : impl_round.f k a0 a1 = some r) :
  Calls Try.prog 69 #[.string a0, .string a1] w fun e w' => e = .returned (.string r) ∧ Below w.heap.size w w' := by
 have hu88 := Try.underlying88
 have HB := Aside0.mk (Below.refl w.heap.size w)
 have H : ((impl_constants.f).bind fun _ => ((impl_expanded.f k a1).bind fun t189 => ((impl_wordsOf.f k a0).bind fun t192 => (if 0 < (t192.length : Int) then (if 1 < (t192.length : Int) then (if 2 < (t192.length : Int) then (if 3 < (t192.length : Int) then (if 4 < (t192.length : Int) then (if 5 < (t192.length : Int) then (if 6 < (t192.length : Int) then (if 7 < (t192.length : Int) then (impl_round.l0 k t189 t192 (rd t192 0) (rd t192 1) (rd t192 2) (rd t192 3) (rd t192 4) (rd t192 5) (rd t192 6) (rd t192 7) 0) else (none)) else (none)) else (none)) else (none)) else (none)) else (none)) else (none)) else (none))))) = some r := h
 clear h
 replace H := Option.bind_eq_some_iff.mp H
 obtain ⟨_, A30, H⟩ := H
 replace H : ((impl_expanded.f k a1).bind fun t189 => ((impl_wordsOf.f k a0).bind fun t192 => (if 0 < (t192.length : Int) then (if 1 < (t192.length : Int) then (if 2 < (t192.length : Int) then (if 3 < (t192.length : Int) then (if 4 < (t192.length : Int) then (if 5 < (t192.length : Int) then (if 6 < (t192.length : Int) then (if 7 < (t192.length : Int) then (impl_round.l0 k t189 t192 (rd t192 0) (rd t192 1) (rd t192 2) (rd t192 3) (rd t192 4) (rd t192 5) (rd t192 6) (rd t192 7) 0) else (none)) else (none)) else (none)) else (none)) else (none)) else (none)) else (none)) else (none)))) = some r := H
 have A3 := Aside0.mk A30
 clear A30
 replace H := Option.bind_eq_some_iff.mp H
 obtain ⟨t189, A40, H⟩ := H
 replace H : ((impl_wordsOf.f k a0).bind fun t192 => (if 0 < (t192.length : Int) then (if 1 < (t192.length : Int) then (if 2 < (t192.length : Int) then (if 3 < (t192.length : Int) then (if 4 < (t192.length : Int) then (if 5 < (t192.length : Int) then (if 6 < (t192.length : Int) then (if 7 < (t192.length : Int) then (impl_round.l0 k t189 t192 (rd t192 0) (rd t192 1) (rd t192 2) (rd t192 3) (rd t192 4) (rd t192 5) (rd t192 6) (rd t192 7) 0) else (none)) else (none)) else (none)) else (none)) else (none)) else (none)) else (none)) else (none))) = some r := H
 have A4 := Aside0.mk A40
 clear A40
 replace H := Option.bind_eq_some_iff.mp H
 obtain ⟨t192, A50, H⟩ := H
 replace H : (if 0 < (t192.length : Int) then (if 1 < (t192.length : Int) then (if 2 < (t192.length : Int) then (if 3 < (t192.length : Int) then (if 4 < (t192.length : Int) then (if 5 < (t192.length : Int) then (if 6 < (t192.length : Int) then (if 7 < (t192.length : Int) then (impl_round.l0 k t189 t192 (rd t192 0) (rd t192 1) (rd t192 2) (rd t192 3) (rd t192 4) (rd t192 5) (rd t192 6) (rd t192 7) 0) else (none)) else (none)) else (none)) else (none)) else (none)) else (none)) else (none)) else (none)) = some r := H
 have A5 := Aside0.mk A50
 clear A50
 by_cases c6 : 0 < (t192.length : Int)
 ·
  rw [if_pos c6] at H
  have c6b0 : decide (0 < (t192.length : Int)) = true := decide_eq_true c6
  have c6b1 : decide (0 < t192.length) = true := decide_eq_true (by omega)
  clear c6
  by_cases c7 : 1 < (t192.length : Int)
  ·
   rw [if_pos c7] at H
   have c7b0 : decide (1 < (t192.length : Int)) = true := decide_eq_true c7
   have c7b1 : decide (1 < t192.length) = true := decide_eq_true (by omega)
   clear c7
   by_cases c8 : 2 < (t192.length : Int)
   ·
    rw [if_pos c8] at H
    have c8b0 : decide (2 < (t192.length : Int)) = true := decide_eq_true c8
    have c8b1 : decide (2 < t192.length) = true := decide_eq_true (by omega)
    clear c8
    by_cases c9 : 3 < (t192.length : Int)
    ·
     rw [if_pos c9] at H
     have c9b0 : decide (3 < (t192.length : Int)) = true := decide_eq_true c9
     have c9b1 : decide (3 < t192.length) = true := decide_eq_true (by omega)
     clear c9
     by_cases c10 : 4 < (t192.length : Int)
     ·
      rw [if_pos c10] at H
      have c10b0 : decide (4 < (t192.length : Int)) = true := decide_eq_true c10
      have c10b1 : decide (4 < t192.length) = true := decide_eq_true (by omega)
      clear c10
      by_cases c11 : 5 < (t192.length : Int)
      ·
       rw [if_pos c11] at H
       have c11b0 : decide (5 < (t192.length : Int)) = true := decide_eq_true c11
       have c11b1 : decide (5 < t192.length) = true := decide_eq_true (by omega)
       clear c11
       by_cases c12 : 6 < (t192.length : Int)
       ·
        rw [if_pos c12] at H
        have c12b0 : decide (6 < (t192.length : Int)) = true := decide_eq_true c12
        have c12b1 : decide (6 < t192.length) = true := decide_eq_true (by omega)
        clear c12
        by_cases c13 : 7 < (t192.length : Int)
        ·
         rw [if_pos c13] at H
         have c13b0 : decide (7 < (t192.length : Int)) = true := decide_eq_true c13
         have c13b1 : decide (7 < t192.length) = true := decide_eq_true (by omega)
         clear c13
         have H' := Aside0.mk H
         clear H
         go_enter Try.func69, Try.ntmps69
         go_wp2_with (first | (go_at_call 79; (with_reducible refine (impl_constants.calls   _ A3.out).mono ?_); rintro e w14 ⟨rfl, hb⟩; have n0_ := Aside0.mk (below_step (by repeat (first | (with_reducible first | exact HB.out | apply below_alloc | apply pw_below_drewN | apply below_drew1) | exact HB.out)) hb); clear HB; have HB := n0_; clear n0_; (try clear hb); (try clear hb2); (try clear hk); (try clear hi)) | ((with_reducible refine gate_dst (N := 5) rfl ?_); refine box_event ?hg (N := 5) ?hd (cs := kZero) (t := 88) ?hr ?_; (case hd => rfl); (case hg => rfl); (case hr => first | (go_simp; done) | (go_simp; rfl)); intro gb188 hg w15 hbox hb; have n0_ := Aside0.mk (below_step (by repeat (first | (with_reducible first | exact HB.out | apply below_alloc | apply pw_below_drewN | apply below_drew1) | exact HB.out)) hb); have n1_ := Aside0.mk (hbox); have n2_ := Aside0.mk ((by rw [hg]; exact (below_size (by repeat (first | (with_reducible first | exact HB.out | apply below_alloc | apply pw_below_drewN | apply below_drew1) | exact HB.out))) : w.heap.size ≤ gb188)); have n3_ := Aside0.mk ((by rw [hg]; exact (below_size (by repeat (first | (with_reducible first | exact HB.out | apply below_alloc | apply pw_below_drewN | apply below_drew1) | exact HB.out))) : w.heap.size ≤ gb188)); clear HB; have HB := n0_; have BK188 := n1_; have GW188 := n2_; have GE188 := n3_; clear n0_ n1_ n2_ n3_; clear hb hbox hg) | ((with_reducible refine gate_store (t := 88) (p := 5) rfl ?_); refine store_arr rfl 88 _ _ rfl gb188 kArr rfl rfl 88 kZero BK188.out kArr_info kZero_size kArr_one HB.out GE188.out ?_; intro w9_ hbox hb; have n0_ := Aside0.mk hb; have n1_ := Aside0.mk hbox; clear HB; clear BK188; have HB := n0_; have BK188 := n1_; clear n0_ n1_ hb hbox) | (go_at_call 80; (with_reducible refine (impl_expanded.calls k a1 t189 _ A4.out).mono ?_); rintro e w16 ⟨v190, rfl, ho0, hb⟩; have n0_ := Aside0.mk (Kd.R_lower ho0 (below_size (by repeat (first | (with_reducible first | exact HB.out | apply below_alloc | apply pw_below_drewN | apply below_drew1 | refine below_set ?_ GE188.out) | exact HB.out)))); have n1_ := Aside0.mk (blk_below (g := gb188) (o := .cells kArr 88 (0, 0)) (by (with_reducible repeat (first | refine blk_drewN ?_ _ | refine blk_drew ?_ | refine blk_alloc ?_ _)); exact BK188.out) hb); have n2_ := Aside0.mk (below_step (by repeat (first | (with_reducible first | exact HB.out | apply below_alloc | apply pw_below_drewN | apply below_drew1 | refine below_set ?_ GE188.out) | exact HB.out)) hb); clear BK188; clear HB; have HO191 := n0_; have BK188 := n1_; have HB := n2_; clear n0_ n1_ n2_; (try clear hb); (try clear hb2); (try clear hk); (try clear hi); (try clear ho0)) | (go_at_call 81; (with_reducible refine (impl_wordsOf.calls k a0 t192 _ A5.out).mono ?_); rintro e w17 ⟨v193, rfl, ho0, hb⟩; have n0_ := Aside0.mk (Kd.R_elder' (by (with_reducible repeat (first | apply Kd.R_alloc | apply Kd.R_drewN | apply Kd.R_drew)); exact HO191.out) (Kd.R_base ho0) hb); have n1_ := Aside0.mk (Kd.R_lower (Kd.R_new' ho0 (Kd.R_lt (by (with_reducible repeat (first | apply Kd.R_alloc | apply Kd.R_drewN | apply Kd.R_drew)); exact HO191.out))) (below_size (by repeat (first | (with_reducible first | exact HB.out | apply below_alloc | apply pw_below_drewN | apply below_drew1 | refine below_set ?_ GE188.out) | exact HB.out)))); have n2_ := Aside0.mk (blk_below (g := gb188) (o := .cells kArr 88 (0, 0)) (by (with_reducible repeat (first | refine blk_drewN ?_ _ | refine blk_drew ?_ | refine blk_alloc ?_ _)); exact BK188.out) hb); have n3_ := Aside0.mk (below_step (by repeat (first | (with_reducible first | exact HB.out | apply below_alloc | apply pw_below_drewN | apply below_drew1 | refine below_set ?_ GE188.out) | exact HB.out)) hb); clear HO191; clear BK188; clear HB; have HO191 := n0_; have HO194 := n1_; have BK188 := n2_; have HB := n3_; clear n0_ n1_ n2_ n3_; (try clear hb); (try clear hb2); (try clear hk); (try clear hi); (try clear ho0); obtain ⟨Ao18, co18, eo18⟩ := Kd.R_slice HO194.out; subst eo18; have p195 : 0 ≤ (0 : Int) := (by omega); have q195 : 0 < (t192.length : Int) := of_decide_eq_true (by first | (with_reducible assumption) | assumption); obtain ⟨ad195, e195, hx195_0⟩ := Kd.at_int (Kd.R_reads' HO194.out).2.2 0 p195 q195; cases e195; have qi195 : (0 < t192.length) = True := eq_true (by omega); (try rw [show ((0 : Int)).toNat = 0 from rfl] at hx195_0); (try rw [Addr.add_zero'] at hx195_0); replace p195 := eq_true p195; replace q195 := eq_true q195; have p196 : 0 ≤ (1 : Int) := (by omega); have q196 : 1 < (t192.length : Int) := of_decide_eq_true (by first | (with_reducible assumption) | assumption); obtain ⟨ad196, e196, hx196_0⟩ := Kd.at_int (Kd.R_reads' HO194.out).2.2 1 p196 q196; obtain rfl : ad195 = ad196 := (by injection e196); (try simp only [show (1 : Int).toNat = 1 from rfl, Nat.reduceMul, Nat.reduceEqDiff, Go.Addr.add, ↓reduceIte] at hx196_0); have qi196 : (1 < t192.length) = True := eq_true (by omega); (try rw [show ((1 : Int)).toNat = 1 from rfl] at hx196_0); replace p196 := eq_true p196; replace q196 := eq_true q196; have p197 : 0 ≤ (2 : Int) := (by omega); have q197 : 2 < (t192.length : Int) := of_decide_eq_true (by first | (with_reducible assumption) | assumption); obtain ⟨ad197, e197, hx197_0⟩ := Kd.at_int (Kd.R_reads' HO194.out).2.2 2 p197 q197; obtain rfl : ad195 = ad197 := (by injection e197); (try simp only [show (2 : Int).toNat = 2 from rfl, Nat.reduceMul, Nat.reduceEqDiff, Go.Addr.add, ↓reduceIte] at hx197_0); have qi197 : (2 < t192.length) = True := eq_true (by omega); (try rw [show ((2 : Int)).toNat = 2 from rfl] at hx197_0); replace p197 := eq_true p197; replace q197 := eq_true q197; have p198 : 0 ≤ (3 : Int) := (by omega); have q198 : 3 < (t192.length : Int) := of_decide_eq_true (by first | (with_reducible assumption) | assumption); obtain ⟨ad198, e198, hx198_0⟩ := Kd.at_int (Kd.R_reads' HO194.out).2.2 3 p198 q198; obtain rfl : ad195 = ad198 := (by injection e198); (try simp only [show (3 : Int).toNat = 3 from rfl, Nat.reduceMul, Nat.reduceEqDiff, Go.Addr.add, ↓reduceIte] at hx198_0); have qi198 : (3 < t192.length) = True := eq_true (by omega); (try rw [show ((3 : Int)).toNat = 3 from rfl] at hx198_0); replace p198 := eq_true p198; replace q198 := eq_true q198; have p199 : 0 ≤ (4 : Int) := (by omega); have q199 : 4 < (t192.length : Int) := of_decide_eq_true (by first | (with_reducible assumption) | assumption); obtain ⟨ad199, e199, hx199_0⟩ := Kd.at_int (Kd.R_reads' HO194.out).2.2 4 p199 q199; obtain rfl : ad195 = ad199 := (by injection e199); (try simp only [show (4 : Int).toNat = 4 from rfl, Nat.reduceMul, Nat.reduceEqDiff, Go.Addr.add, ↓reduceIte] at hx199_0); have qi199 : (4 < t192.length) = True := eq_true (by omega); (try rw [show ((4 : Int)).toNat = 4 from rfl] at hx199_0); replace p199 := eq_true p199; replace q199 := eq_true q199; have p200 : 0 ≤ (5 : Int) := (by omega); have q200 : 5 < (t192.length : Int) := of_decide_eq_true (by first | (with_reducible assumption) | assumption); obtain ⟨ad200, e200, hx200_0⟩ := Kd.at_int (Kd.R_reads' HO194.out).2.2 5 p200 q200; obtain rfl : ad195 = ad200 := (by injection e200); (try simp only [show (5 : Int).toNat = 5 from rfl, Nat.reduceMul, Nat.reduceEqDiff, Go.Addr.add, ↓reduceIte] at hx200_0); have qi200 : (5 < t192.length) = True := eq_true (by omega); (try rw [show ((5 : Int)).toNat = 5 from rfl] at hx200_0); replace p200 := eq_true p200; replace q200 := eq_true q200; have p201 : 0 ≤ (6 : Int) := (by omega); have q201 : 6 < (t192.length : Int) := of_decide_eq_true (by first | (with_reducible assumption) | assumption); obtain ⟨ad201, e201, hx201_0⟩ := Kd.at_int (Kd.R_reads' HO194.out).2.2 6 p201 q201; obtain rfl : ad195 = ad201 := (by injection e201); (try simp only [show (6 : Int).toNat = 6 from rfl, Nat.reduceMul, Nat.reduceEqDiff, Go.Addr.add, ↓reduceIte] at hx201_0); have qi201 : (6 < t192.length) = True := eq_true (by omega); (try rw [show ((6 : Int)).toNat = 6 from rfl] at hx201_0); replace p201 := eq_true p201; replace q201 := eq_true q201; have p202 : 0 ≤ (7 : Int) := (by omega); have q202 : 7 < (t192.length : Int) := of_decide_eq_true (by first | (with_reducible assumption) | assumption); obtain ⟨ad202, e202, hx202_0⟩ := Kd.at_int (Kd.R_reads' HO194.out).2.2 7 p202 q202; obtain rfl : ad195 = ad202 := (by injection e202); (try simp only [show (7 : Int).toNat = 7 from rfl, Nat.reduceMul, Nat.reduceEqDiff, Go.Addr.add, ↓reduceIte] at hx202_0); have qi202 : (7 < t192.length) = True := eq_true (by omega); (try rw [show ((7 : Int)).toNat = 7 from rfl] at hx202_0); replace p202 := eq_true p202; replace q202 := eq_true q202))
         repeat (go_quiet (first | (go_at_call 79; (with_reducible refine (impl_constants.calls   _ A3.out).mono ?_); rintro e w14 ⟨rfl, hb⟩; have n0_ := Aside0.mk (below_step (by repeat (first | (with_reducible first | exact HB.out | apply below_alloc | apply pw_below_drewN | apply below_drew1) | exact HB.out)) hb); clear HB; have HB := n0_; clear n0_; (try clear hb); (try clear hb2); (try clear hk); (try clear hi)) | ((with_reducible refine gate_dst (N := 5) rfl ?_); refine box_event ?hg (N := 5) ?hd (cs := kZero) (t := 88) ?hr ?_; (case hd => rfl); (case hg => rfl); (case hr => first | (go_simp; done) | (go_simp; rfl)); intro gb188 hg w15 hbox hb; have n0_ := Aside0.mk (below_step (by repeat (first | (with_reducible first | exact HB.out | apply below_alloc | apply pw_below_drewN | apply below_drew1) | exact HB.out)) hb); have n1_ := Aside0.mk (hbox); have n2_ := Aside0.mk ((by rw [hg]; exact (below_size (by repeat (first | (with_reducible first | exact HB.out | apply below_alloc | apply pw_below_drewN | apply below_drew1) | exact HB.out))) : w.heap.size ≤ gb188)); have n3_ := Aside0.mk ((by rw [hg]; exact (below_size (by repeat (first | (with_reducible first | exact HB.out | apply below_alloc | apply pw_below_drewN | apply below_drew1) | exact HB.out))) : w.heap.size ≤ gb188)); clear HB; have HB := n0_; have BK188 := n1_; have GW188 := n2_; have GE188 := n3_; clear n0_ n1_ n2_ n3_; clear hb hbox hg) | ((with_reducible refine gate_store (t := 88) (p := 5) rfl ?_); refine store_arr rfl 88 _ _ rfl gb188 kArr rfl rfl 88 kZero BK188.out kArr_info kZero_size kArr_one HB.out GE188.out ?_; intro w9_ hbox hb; have n0_ := Aside0.mk hb; have n1_ := Aside0.mk hbox; clear HB; clear BK188; have HB := n0_; have BK188 := n1_; clear n0_ n1_ hb hbox) | (go_at_call 80; (with_reducible refine (impl_expanded.calls k a1 t189 _ A4.out).mono ?_); rintro e w16 ⟨v190, rfl, ho0, hb⟩; have n0_ := Aside0.mk (Kd.R_lower ho0 (below_size (by repeat (first | (with_reducible first | exact HB.out | apply below_alloc | apply pw_below_drewN | apply below_drew1 | refine below_set ?_ GE188.out) | exact HB.out)))); have n1_ := Aside0.mk (blk_below (g := gb188) (o := .cells kArr 88 (0, 0)) (by (with_reducible repeat (first | refine blk_drewN ?_ _ | refine blk_drew ?_ | refine blk_alloc ?_ _)); exact BK188.out) hb); have n2_ := Aside0.mk (below_step (by repeat (first | (with_reducible first | exact HB.out | apply below_alloc | apply pw_below_drewN | apply below_drew1 | refine below_set ?_ GE188.out) | exact HB.out)) hb); clear BK188; clear HB; have HO191 := n0_; have BK188 := n1_; have HB := n2_; clear n0_ n1_ n2_; (try clear hb); (try clear hb2); (try clear hk); (try clear hi); (try clear ho0)) | (go_at_call 81; (with_reducible refine (impl_wordsOf.calls k a0 t192 _ A5.out).mono ?_); rintro e w17 ⟨v193, rfl, ho0, hb⟩; have n0_ := Aside0.mk (Kd.R_elder' (by (with_reducible repeat (first | apply Kd.R_alloc | apply Kd.R_drewN | apply Kd.R_drew)); exact HO191.out) (Kd.R_base ho0) hb); have n1_ := Aside0.mk (Kd.R_lower (Kd.R_new' ho0 (Kd.R_lt (by (with_reducible repeat (first | apply Kd.R_alloc | apply Kd.R_drewN | apply Kd.R_drew)); exact HO191.out))) (below_size (by repeat (first | (with_reducible first | exact HB.out | apply below_alloc | apply pw_below_drewN | apply below_drew1 | refine below_set ?_ GE188.out) | exact HB.out)))); have n2_ := Aside0.mk (blk_below (g := gb188) (o := .cells kArr 88 (0, 0)) (by (with_reducible repeat (first | refine blk_drewN ?_ _ | refine blk_drew ?_ | refine blk_alloc ?_ _)); exact BK188.out) hb); have n3_ := Aside0.mk (below_step (by repeat (first | (with_reducible first | exact HB.out | apply below_alloc | apply pw_below_drewN | apply below_drew1 | refine below_set ?_ GE188.out) | exact HB.out)) hb); clear HO191; clear BK188; clear HB; have HO191 := n0_; have HO194 := n1_; have BK188 := n2_; have HB := n3_; clear n0_ n1_ n2_ n3_; (try clear hb); (try clear hb2); (try clear hk); (try clear hi); (try clear ho0); obtain ⟨Ao18, co18, eo18⟩ := Kd.R_slice HO194.out; subst eo18; have p195 : 0 ≤ (0 : Int) := (by omega); have q195 : 0 < (t192.length : Int) := of_decide_eq_true (by first | (with_reducible assumption) | assumption); obtain ⟨ad195, e195, hx195_0⟩ := Kd.at_int (Kd.R_reads' HO194.out).2.2 0 p195 q195; cases e195; have qi195 : (0 < t192.length) = True := eq_true (by omega); (try rw [show ((0 : Int)).toNat = 0 from rfl] at hx195_0); (try rw [Addr.add_zero'] at hx195_0); replace p195 := eq_true p195; replace q195 := eq_true q195; have p196 : 0 ≤ (1 : Int) := (by omega); have q196 : 1 < (t192.length : Int) := of_decide_eq_true (by first | (with_reducible assumption) | assumption); obtain ⟨ad196, e196, hx196_0⟩ := Kd.at_int (Kd.R_reads' HO194.out).2.2 1 p196 q196; obtain rfl : ad195 = ad196 := (by injection e196); (try simp only [show (1 : Int).toNat = 1 from rfl, Nat.reduceMul, Nat.reduceEqDiff, Go.Addr.add, ↓reduceIte] at hx196_0); have qi196 : (1 < t192.length) = True := eq_true (by omega); (try rw [show ((1 : Int)).toNat = 1 from rfl] at hx196_0); replace p196 := eq_true p196; replace q196 := eq_true q196; have p197 : 0 ≤ (2 : Int) := (by omega); have q197 : 2 < (t192.length : Int) := of_decide_eq_true (by first | (with_reducible assumption) | assumption); obtain ⟨ad197, e197, hx197_0⟩ := Kd.at_int (Kd.R_reads' HO194.out).2.2 2 p197 q197; obtain rfl : ad195 = ad197 := (by injection e197); (try simp only [show (2 : Int).toNat = 2 from rfl, Nat.reduceMul, Nat.reduceEqDiff, Go.Addr.add, ↓reduceIte] at hx197_0); have qi197 : (2 < t192.length) = True := eq_true (by omega); (try rw [show ((2 : Int)).toNat = 2 from rfl] at hx197_0); replace p197 := eq_true p197; replace q197 := eq_true q197; have p198 : 0 ≤ (3 : Int) := (by omega); have q198 : 3 < (t192.length : Int) := of_decide_eq_true (by first | (with_reducible assumption) | assumption); obtain ⟨ad198, e198, hx198_0⟩ := Kd.at_int (Kd.R_reads' HO194.out).2.2 3 p198 q198; obtain rfl : ad195 = ad198 := (by injection e198); (try simp only [show (3 : Int).toNat = 3 from rfl, Nat.reduceMul, Nat.reduceEqDiff, Go.Addr.add, ↓reduceIte] at hx198_0); have qi198 : (3 < t192.length) = True := eq_true (by omega); (try rw [show ((3 : Int)).toNat = 3 from rfl] at hx198_0); replace p198 := eq_true p198; replace q198 := eq_true q198; have p199 : 0 ≤ (4 : Int) := (by omega); have q199 : 4 < (t192.length : Int) := of_decide_eq_true (by first | (with_reducible assumption) | assumption); obtain ⟨ad199, e199, hx199_0⟩ := Kd.at_int (Kd.R_reads' HO194.out).2.2 4 p199 q199; obtain rfl : ad195 = ad199 := (by injection e199); (try simp only [show (4 : Int).toNat = 4 from rfl, Nat.reduceMul, Nat.reduceEqDiff, Go.Addr.add, ↓reduceIte] at hx199_0); have qi199 : (4 < t192.length) = True := eq_true (by omega); (try rw [show ((4 : Int)).toNat = 4 from rfl] at hx199_0); replace p199 := eq_true p199; replace q199 := eq_true q199; have p200 : 0 ≤ (5 : Int) := (by omega); have q200 : 5 < (t192.length : Int) := of_decide_eq_true (by first | (with_reducible assumption) | assumption); obtain ⟨ad200, e200, hx200_0⟩ := Kd.at_int (Kd.R_reads' HO194.out).2.2 5 p200 q200; obtain rfl : ad195 = ad200 := (by injection e200); (try simp only [show (5 : Int).toNat = 5 from rfl, Nat.reduceMul, Nat.reduceEqDiff, Go.Addr.add, ↓reduceIte] at hx200_0); have qi200 : (5 < t192.length) = True := eq_true (by omega); (try rw [show ((5 : Int)).toNat = 5 from rfl] at hx200_0); replace p200 := eq_true p200; replace q200 := eq_true q200; have p201 : 0 ≤ (6 : Int) := (by omega); have q201 : 6 < (t192.length : Int) := of_decide_eq_true (by first | (with_reducible assumption) | assumption); obtain ⟨ad201, e201, hx201_0⟩ := Kd.at_int (Kd.R_reads' HO194.out).2.2 6 p201 q201; obtain rfl : ad195 = ad201 := (by injection e201); (try simp only [show (6 : Int).toNat = 6 from rfl, Nat.reduceMul, Nat.reduceEqDiff, Go.Addr.add, ↓reduceIte] at hx201_0); have qi201 : (6 < t192.length) = True := eq_true (by omega); (try rw [show ((6 : Int)).toNat = 6 from rfl] at hx201_0); replace p201 := eq_true p201; replace q201 := eq_true q201; have p202 : 0 ≤ (7 : Int) := (by omega); have q202 : 7 < (t192.length : Int) := of_decide_eq_true (by first | (with_reducible assumption) | assumption); obtain ⟨ad202, e202, hx202_0⟩ := Kd.at_int (Kd.R_reads' HO194.out).2.2 7 p202 q202; obtain rfl : ad195 = ad202 := (by injection e202); (try simp only [show (7 : Int).toNat = 7 from rfl, Nat.reduceMul, Nat.reduceEqDiff, Go.Addr.add, ↓reduceIte] at hx202_0); have qi202 : (7 < t192.length) = True := eq_true (by omega); (try rw [show ((7 : Int)).toNat = 7 from rfl] at hx202_0); replace p202 := eq_true p202; replace q202 := eq_true q202)); try go_wp2_with (first | (go_at_call 79; (with_reducible refine (impl_constants.calls   _ A3.out).mono ?_); rintro e w14 ⟨rfl, hb⟩; have n0_ := Aside0.mk (below_step (by repeat (first | (with_reducible first | exact HB.out | apply below_alloc | apply pw_below_drewN | apply below_drew1) | exact HB.out)) hb); clear HB; have HB := n0_; clear n0_; (try clear hb); (try clear hb2); (try clear hk); (try clear hi)) | ((with_reducible refine gate_dst (N := 5) rfl ?_); refine box_event ?hg (N := 5) ?hd (cs := kZero) (t := 88) ?hr ?_; (case hd => rfl); (case hg => rfl); (case hr => first | (go_simp; done) | (go_simp; rfl)); intro gb188 hg w15 hbox hb; have n0_ := Aside0.mk (below_step (by repeat (first | (with_reducible first | exact HB.out | apply below_alloc | apply pw_below_drewN | apply below_drew1) | exact HB.out)) hb); have n1_ := Aside0.mk (hbox); have n2_ := Aside0.mk ((by rw [hg]; exact (below_size (by repeat (first | (with_reducible first | exact HB.out | apply below_alloc | apply pw_below_drewN | apply below_drew1) | exact HB.out))) : w.heap.size ≤ gb188)); have n3_ := Aside0.mk ((by rw [hg]; exact (below_size (by repeat (first | (with_reducible first | exact HB.out | apply below_alloc | apply pw_below_drewN | apply below_drew1) | exact HB.out))) : w.heap.size ≤ gb188)); clear HB; have HB := n0_; have BK188 := n1_; have GW188 := n2_; have GE188 := n3_; clear n0_ n1_ n2_ n3_; clear hb hbox hg) | ((with_reducible refine gate_store (t := 88) (p := 5) rfl ?_); refine store_arr rfl 88 _ _ rfl gb188 kArr rfl rfl 88 kZero BK188.out kArr_info kZero_size kArr_one HB.out GE188.out ?_; intro w9_ hbox hb; have n0_ := Aside0.mk hb; have n1_ := Aside0.mk hbox; clear HB; clear BK188; have HB := n0_; have BK188 := n1_; clear n0_ n1_ hb hbox) | (go_at_call 80; (with_reducible refine (impl_expanded.calls k a1 t189 _ A4.out).mono ?_); rintro e w16 ⟨v190, rfl, ho0, hb⟩; have n0_ := Aside0.mk (Kd.R_lower ho0 (below_size (by repeat (first | (with_reducible first | exact HB.out | apply below_alloc | apply pw_below_drewN | apply below_drew1 | refine below_set ?_ GE188.out) | exact HB.out)))); have n1_ := Aside0.mk (blk_below (g := gb188) (o := .cells kArr 88 (0, 0)) (by (with_reducible repeat (first | refine blk_drewN ?_ _ | refine blk_drew ?_ | refine blk_alloc ?_ _)); exact BK188.out) hb); have n2_ := Aside0.mk (below_step (by repeat (first | (with_reducible first | exact HB.out | apply below_alloc | apply pw_below_drewN | apply below_drew1 | refine below_set ?_ GE188.out) | exact HB.out)) hb); clear BK188; clear HB; have HO191 := n0_; have BK188 := n1_; have HB := n2_; clear n0_ n1_ n2_; (try clear hb); (try clear hb2); (try clear hk); (try clear hi); (try clear ho0)) | (go_at_call 81; (with_reducible refine (impl_wordsOf.calls k a0 t192 _ A5.out).mono ?_); rintro e w17 ⟨v193, rfl, ho0, hb⟩; have n0_ := Aside0.mk (Kd.R_elder' (by (with_reducible repeat (first | apply Kd.R_alloc | apply Kd.R_drewN | apply Kd.R_drew)); exact HO191.out) (Kd.R_base ho0) hb); have n1_ := Aside0.mk (Kd.R_lower (Kd.R_new' ho0 (Kd.R_lt (by (with_reducible repeat (first | apply Kd.R_alloc | apply Kd.R_drewN | apply Kd.R_drew)); exact HO191.out))) (below_size (by repeat (first | (with_reducible first | exact HB.out | apply below_alloc | apply pw_below_drewN | apply below_drew1 | refine below_set ?_ GE188.out) | exact HB.out)))); have n2_ := Aside0.mk (blk_below (g := gb188) (o := .cells kArr 88 (0, 0)) (by (with_reducible repeat (first | refine blk_drewN ?_ _ | refine blk_drew ?_ | refine blk_alloc ?_ _)); exact BK188.out) hb); have n3_ := Aside0.mk (below_step (by repeat (first | (with_reducible first | exact HB.out | apply below_alloc | apply pw_below_drewN | apply below_drew1 | refine below_set ?_ GE188.out) | exact HB.out)) hb); clear HO191; clear BK188; clear HB; have HO191 := n0_; have HO194 := n1_; have BK188 := n2_; have HB := n3_; clear n0_ n1_ n2_ n3_; (try clear hb); (try clear hb2); (try clear hk); (try clear hi); (try clear ho0); obtain ⟨Ao18, co18, eo18⟩ := Kd.R_slice HO194.out; subst eo18; have p195 : 0 ≤ (0 : Int) := (by omega); have q195 : 0 < (t192.length : Int) := of_decide_eq_true (by first | (with_reducible assumption) | assumption); obtain ⟨ad195, e195, hx195_0⟩ := Kd.at_int (Kd.R_reads' HO194.out).2.2 0 p195 q195; cases e195; have qi195 : (0 < t192.length) = True := eq_true (by omega); (try rw [show ((0 : Int)).toNat = 0 from rfl] at hx195_0); (try rw [Addr.add_zero'] at hx195_0); replace p195 := eq_true p195; replace q195 := eq_true q195; have p196 : 0 ≤ (1 : Int) := (by omega); have q196 : 1 < (t192.length : Int) := of_decide_eq_true (by first | (with_reducible assumption) | assumption); obtain ⟨ad196, e196, hx196_0⟩ := Kd.at_int (Kd.R_reads' HO194.out).2.2 1 p196 q196; obtain rfl : ad195 = ad196 := (by injection e196); (try simp only [show (1 : Int).toNat = 1 from rfl, Nat.reduceMul, Nat.reduceEqDiff, Go.Addr.add, ↓reduceIte] at hx196_0); have qi196 : (1 < t192.length) = True := eq_true (by omega); (try rw [show ((1 : Int)).toNat = 1 from rfl] at hx196_0); replace p196 := eq_true p196; replace q196 := eq_true q196; have p197 : 0 ≤ (2 : Int) := (by omega); have q197 : 2 < (t192.length : Int) := of_decide_eq_true (by first | (with_reducible assumption) | assumption); obtain ⟨ad197, e197, hx197_0⟩ := Kd.at_int (Kd.R_reads' HO194.out).2.2 2 p197 q197; obtain rfl : ad195 = ad197 := (by injection e197); (try simp only [show (2 : Int).toNat = 2 from rfl, Nat.reduceMul, Nat.reduceEqDiff, Go.Addr.add, ↓reduceIte] at hx197_0); have qi197 : (2 < t192.length) = True := eq_true (by omega); (try rw [show ((2 : Int)).toNat = 2 from rfl] at hx197_0); replace p197 := eq_true p197; replace q197 := eq_true q197; have p198 : 0 ≤ (3 : Int) := (by omega); have q198 : 3 < (t192.length : Int) := of_decide_eq_true (by first | (with_reducible assumption) | assumption); obtain ⟨ad198, e198, hx198_0⟩ := Kd.at_int (Kd.R_reads' HO194.out).2.2 3 p198 q198; obtain rfl : ad195 = ad198 := (by injection e198); (try simp only [show (3 : Int).toNat = 3 from rfl, Nat.reduceMul, Nat.reduceEqDiff, Go.Addr.add, ↓reduceIte] at hx198_0); have qi198 : (3 < t192.length) = True := eq_true (by omega); (try rw [show ((3 : Int)).toNat = 3 from rfl] at hx198_0); replace p198 := eq_true p198; replace q198 := eq_true q198; have p199 : 0 ≤ (4 : Int) := (by omega); have q199 : 4 < (t192.length : Int) := of_decide_eq_true (by first | (with_reducible assumption) | assumption); obtain ⟨ad199, e199, hx199_0⟩ := Kd.at_int (Kd.R_reads' HO194.out).2.2 4 p199 q199; obtain rfl : ad195 = ad199 := (by injection e199); (try simp only [show (4 : Int).toNat = 4 from rfl, Nat.reduceMul, Nat.reduceEqDiff, Go.Addr.add, ↓reduceIte] at hx199_0); have qi199 : (4 < t192.length) = True := eq_true (by omega); (try rw [show ((4 : Int)).toNat = 4 from rfl] at hx199_0); replace p199 := eq_true p199; replace q199 := eq_true q199; have p200 : 0 ≤ (5 : Int) := (by omega); have q200 : 5 < (t192.length : Int) := of_decide_eq_true (by first | (with_reducible assumption) | assumption); obtain ⟨ad200, e200, hx200_0⟩ := Kd.at_int (Kd.R_reads' HO194.out).2.2 5 p200 q200; obtain rfl : ad195 = ad200 := (by injection e200); (try simp only [show (5 : Int).toNat = 5 from rfl, Nat.reduceMul, Nat.reduceEqDiff, Go.Addr.add, ↓reduceIte] at hx200_0); have qi200 : (5 < t192.length) = True := eq_true (by omega); (try rw [show ((5 : Int)).toNat = 5 from rfl] at hx200_0); replace p200 := eq_true p200; replace q200 := eq_true q200; have p201 : 0 ≤ (6 : Int) := (by omega); have q201 : 6 < (t192.length : Int) := of_decide_eq_true (by first | (with_reducible assumption) | assumption); obtain ⟨ad201, e201, hx201_0⟩ := Kd.at_int (Kd.R_reads' HO194.out).2.2 6 p201 q201; obtain rfl : ad195 = ad201 := (by injection e201); (try simp only [show (6 : Int).toNat = 6 from rfl, Nat.reduceMul, Nat.reduceEqDiff, Go.Addr.add, ↓reduceIte] at hx201_0); have qi201 : (6 < t192.length) = True := eq_true (by omega); (try rw [show ((6 : Int)).toNat = 6 from rfl] at hx201_0); replace p201 := eq_true p201; replace q201 := eq_true q201; have p202 : 0 ≤ (7 : Int) := (by omega); have q202 : 7 < (t192.length : Int) := of_decide_eq_true (by first | (with_reducible assumption) | assumption); obtain ⟨ad202, e202, hx202_0⟩ := Kd.at_int (Kd.R_reads' HO194.out).2.2 7 p202 q202; obtain rfl : ad195 = ad202 := (by injection e202); (try simp only [show (7 : Int).toNat = 7 from rfl, Nat.reduceMul, Nat.reduceEqDiff, Go.Addr.add, ↓reduceIte] at hx202_0); have qi202 : (7 < t192.length) = True := eq_true (by omega); (try rw [show ((7 : Int)).toNat = 7 from rfl] at hx202_0); replace p202 := eq_true p202; replace q202 := eq_true q202)))
         go_loopg [8, 9, 10, 11, 12, 13, 14, 15, 52] k (fun kq v8 v9 v10 v11 v12 v13 v14 v15 v52 w' => ∃ (x8_1 : Int) (x9_1 : Int) (x10_1 : Int) (x11_1 : Int) (x12_1 : Int) (x13_1 : Int) (x14_1 : Int) (x15_1 : Int) (x52_1 : Int), v8 = .int .i64 x8_1 ∧ v9 = .int .i64 x9_1 ∧ v10 = .int .i64 x10_1 ∧ v11 = .int .i64 x11_1 ∧ v12 = .int .i64 x12_1 ∧ v13 = .int .i64 x13_1 ∧ v14 = .int .i64 x14_1 ∧ v15 = .int .i64 x15_1 ∧ v52 = .int .i64 x52_1 ∧ Aside0 (impl_round.l0 kq t189 t192 x8_1 x9_1 x10_1 x11_1 x12_1 x13_1 x14_1 x15_1 x52_1 = some r) ∧ Aside0 (kq ≤ k) ∧ Aside0 (Kd.R (Kd.int .i64) 3 w' w.heap.size (fun k_ => some k_ ≠ ((.slice (some ad195) t192.length co18) : Value).ownBlock) v190 t189) ∧ Aside0 (Kd.R (Kd.int .i64) 3 w' w.heap.size (fun k_ => some k_ ≠ (v190 : Value).ownBlock) (.slice (some ad195) t192.length co18) t192) ∧ Aside0 (w'.heap[gb188]? = some (.cells kArr 88 (0, 0))) ∧ Aside0 (Below w.heap.size w w'))
         case atStart => exact ⟨(rd t192 0), (rd t192 1), (rd t192 2), (rd t192 3), (rd t192 4), (rd t192 5), (rd t192 6), (rd t192 7), (0), (by first | rfl | (simp; done) | (simp [*]; done)), (by first | rfl | (simp; done) | (simp [*]; done)), (by first | rfl | (simp; done) | (simp [*]; done)), (by first | rfl | (simp; done) | (simp [*]; done)), (by first | rfl | (simp; done) | (simp [*]; done)), (by first | rfl | (simp; done) | (simp [*]; done)), (by first | rfl | (simp; done) | (simp [*]; done)), (by first | rfl | (simp; done) | (simp [*]; done)), (by first | rfl | (simp; done) | (simp [*]; done)), H', ⟨Nat.le_refl _⟩, ⟨by (with_reducible repeat (first | apply Kd.R_alloc | apply Kd.R_drewN | apply Kd.R_drew)); exact Kd.R_mono HO191.out (fun _ hk => hk.2)⟩, ⟨by (with_reducible repeat (first | apply Kd.R_alloc | apply Kd.R_drewN | apply Kd.R_drew)); exact Kd.R_mono HO194.out (fun _ hk => hk.2)⟩, ⟨by (with_reducible repeat (first | refine blk_drewN ?_ _ | refine blk_drew ?_ | refine blk_alloc ?_ _)); exact BK188.out⟩, ⟨by repeat (first | (with_reducible first | exact HB.out | apply below_alloc | apply pw_below_drewN | apply below_drew1 | refine below_set ?_ GE188.out) | exact HB.out)⟩⟩
         case round =>
          clear H'
          try clear c1; try clear p1; try clear q1; try clear hx1; try clear qi1; try clear p2; try clear q2; try clear hx2; try clear qi2; try clear c6; try clear c6b0; try clear c6b1; try clear c7; try clear c7b0; try clear c7b1; try clear c8; try clear c8b0; try clear c8b1; try clear c9; try clear c9b0; try clear c9b1; try clear c10; try clear c10b0; try clear c10b1; try clear c11; try clear c11b0; try clear c11b1; try clear c12; try clear c12b0; try clear c12b1; try clear c13; try clear c13b0; try clear c13b1; try clear hx195_0; try clear hx196_0; try clear hx197_0; try clear hx198_0; try clear hx199_0; try clear hx200_0; try clear hx201_0; try clear hx202_0; try clear p195; try clear p196; try clear p197; try clear p198; try clear p199; try clear p200; try clear p201; try clear p202; try clear q195; try clear q196; try clear q197; try clear q198; try clear q199; try clear q200; try clear q201; try clear q202
          obtain ⟨x8_1, x9_1, x10_1, x11_1, x12_1, x13_1, x14_1, x15_1, x52_1, rfl, rfl, rfl, rfl, rfl, rfl, rfl, rfl, rfl, HA, HK1, HO_6, HO_7, BK188, HB⟩ := hrel
          cases gk with
          | zero => exact absurd HA.out (by simp [impl_round.l0])
          | succ k1 =>
           have H := HA.out
           clear HA
           simp only [impl_round.l0] at H
           by_cases c19 : x52_1 < 64
           ·
            rw [if_pos c19] at H
            have c19b0 : decide (x52_1 < 64) = true := decide_eq_true c19
            clear c19
            replace H := Option.bind_eq_some_iff.mp H
            obtain ⟨t203, A200, H⟩ := H
            replace H : ((impl_turnRight.f x12_1 11).bind fun t204 => ((impl_turnRight.f x12_1 25).bind fun t205 => (if 0 ≤ x52_1 then (if x52_1 < (t189.length : Int) then ((impl_turnRight.f x8_1 2).bind fun t207 => ((impl_turnRight.f x8_1 13).bind fun t208 => ((impl_turnRight.f x8_1 22).bind fun t209 => (impl_round.l0 k1 t189 t192 (Go.bits .and .i64 (wrap64 ((wrap64 ((wrap64 ((wrap64 ((wrap64 (x15_1 + (Go.bits .xor .i64 (Go.bits .xor .i64 t203 t204) t205))) + (Go.bits .xor .i64 (Go.bits .and .i64 x12_1 x13_1) (Go.bits .and .i64 (Go.bits .xor .i64 4294967295 x12_1) x14_1)))) + (rd kTab x52_1))) + (rd t189 x52_1))) + (wrap64 ((Go.bits .xor .i64 (Go.bits .xor .i64 t207 t208) t209) + (Go.bits .xor .i64 (Go.bits .xor .i64 (Go.bits .and .i64 x8_1 x9_1) (Go.bits .and .i64 x8_1 x10_1)) (Go.bits .and .i64 x9_1 x10_1)))))) 4294967295) x8_1 x9_1 x10_1 (Go.bits .and .i64 (wrap64 (x11_1 + (wrap64 ((wrap64 ((wrap64 ((wrap64 (x15_1 + (Go.bits .xor .i64 (Go.bits .xor .i64 t203 t204) t205))) + (Go.bits .xor .i64 (Go.bits .and .i64 x12_1 x13_1) (Go.bits .and .i64 (Go.bits .xor .i64 4294967295 x12_1) x14_1)))) + (rd kTab x52_1))) + (rd t189 x52_1))))) 4294967295) x12_1 x13_1 x14_1 (wrap64 (x52_1 + 1)))))) else (none)) else (none)))) = some r := H
            have A20 := Aside0.mk A200
            clear A200
            replace H := Option.bind_eq_some_iff.mp H
            obtain ⟨t204, A210, H⟩ := H
            replace H : ((impl_turnRight.f x12_1 25).bind fun t205 => (if 0 ≤ x52_1 then (if x52_1 < (t189.length : Int) then ((impl_turnRight.f x8_1 2).bind fun t207 => ((impl_turnRight.f x8_1 13).bind fun t208 => ((impl_turnRight.f x8_1 22).bind fun t209 => (impl_round.l0 k1 t189 t192 (Go.bits .and .i64 (wrap64 ((wrap64 ((wrap64 ((wrap64 ((wrap64 (x15_1 + (Go.bits .xor .i64 (Go.bits .xor .i64 t203 t204) t205))) + (Go.bits .xor .i64 (Go.bits .and .i64 x12_1 x13_1) (Go.bits .and .i64 (Go.bits .xor .i64 4294967295 x12_1) x14_1)))) + (rd kTab x52_1))) + (rd t189 x52_1))) + (wrap64 ((Go.bits .xor .i64 (Go.bits .xor .i64 t207 t208) t209) + (Go.bits .xor .i64 (Go.bits .xor .i64 (Go.bits .and .i64 x8_1 x9_1) (Go.bits .and .i64 x8_1 x10_1)) (Go.bits .and .i64 x9_1 x10_1)))))) 4294967295) x8_1 x9_1 x10_1 (Go.bits .and .i64 (wrap64 (x11_1 + (wrap64 ((wrap64 ((wrap64 ((wrap64 (x15_1 + (Go.bits .xor .i64 (Go.bits .xor .i64 t203 t204) t205))) + (Go.bits .xor .i64 (Go.bits .and .i64 x12_1 x13_1) (Go.bits .and .i64 (Go.bits .xor .i64 4294967295 x12_1) x14_1)))) + (rd kTab x52_1))) + (rd t189 x52_1))))) 4294967295) x12_1 x13_1 x14_1 (wrap64 (x52_1 + 1)))))) else (none)) else (none))) = some r := H
            have A21 := Aside0.mk A210
            clear A210
            replace H := Option.bind_eq_some_iff.mp H
            obtain ⟨t205, A220, H⟩ := H
            replace H : (if 0 ≤ x52_1 then (if x52_1 < (t189.length : Int) then ((impl_turnRight.f x8_1 2).bind fun t207 => ((impl_turnRight.f x8_1 13).bind fun t208 => ((impl_turnRight.f x8_1 22).bind fun t209 => (impl_round.l0 k1 t189 t192 (Go.bits .and .i64 (wrap64 ((wrap64 ((wrap64 ((wrap64 ((wrap64 (x15_1 + (Go.bits .xor .i64 (Go.bits .xor .i64 t203 t204) t205))) + (Go.bits .xor .i64 (Go.bits .and .i64 x12_1 x13_1) (Go.bits .and .i64 (Go.bits .xor .i64 4294967295 x12_1) x14_1)))) + (rd kTab x52_1))) + (rd t189 x52_1))) + (wrap64 ((Go.bits .xor .i64 (Go.bits .xor .i64 t207 t208) t209) + (Go.bits .xor .i64 (Go.bits .xor .i64 (Go.bits .and .i64 x8_1 x9_1) (Go.bits .and .i64 x8_1 x10_1)) (Go.bits .and .i64 x9_1 x10_1)))))) 4294967295) x8_1 x9_1 x10_1 (Go.bits .and .i64 (wrap64 (x11_1 + (wrap64 ((wrap64 ((wrap64 ((wrap64 (x15_1 + (Go.bits .xor .i64 (Go.bits .xor .i64 t203 t204) t205))) + (Go.bits .xor .i64 (Go.bits .and .i64 x12_1 x13_1) (Go.bits .and .i64 (Go.bits .xor .i64 4294967295 x12_1) x14_1)))) + (rd kTab x52_1))) + (rd t189 x52_1))))) 4294967295) x12_1 x13_1 x14_1 (wrap64 (x52_1 + 1)))))) else (none)) else (none)) = some r := H
            have A22 := Aside0.mk A220
            clear A220
            by_cases c23 : 0 ≤ x52_1
            ·
             rw [if_pos c23] at H
             have c23b0 : decide (0 ≤ x52_1) = true := decide_eq_true c23
             clear c23
             have hk76_ := kTab_cell BK188.out x52_1 (of_decide_eq_true (by first | (with_reducible assumption) | assumption)) (of_decide_eq_true (by first | (with_reducible assumption) | assumption)); have pk76_ := eq_true (of_decide_eq_true (by first | (with_reducible assumption) | assumption) : 0 ≤ x52_1); have qk76_ := eq_true (of_decide_eq_true (by first | (with_reducible assumption) | assumption) : x52_1 < 64)
             by_cases c24 : x52_1 < (t189.length : Int)
             ·
              rw [if_pos c24] at H
              have c24b0 : decide (x52_1 < (t189.length : Int)) = true := decide_eq_true c24
              clear c24
              replace H := Option.bind_eq_some_iff.mp H
              obtain ⟨t207, A250, H⟩ := H
              replace H : ((impl_turnRight.f x8_1 13).bind fun t208 => ((impl_turnRight.f x8_1 22).bind fun t209 => (impl_round.l0 k1 t189 t192 (Go.bits .and .i64 (wrap64 ((wrap64 ((wrap64 ((wrap64 ((wrap64 (x15_1 + (Go.bits .xor .i64 (Go.bits .xor .i64 t203 t204) t205))) + (Go.bits .xor .i64 (Go.bits .and .i64 x12_1 x13_1) (Go.bits .and .i64 (Go.bits .xor .i64 4294967295 x12_1) x14_1)))) + (rd kTab x52_1))) + (rd t189 x52_1))) + (wrap64 ((Go.bits .xor .i64 (Go.bits .xor .i64 t207 t208) t209) + (Go.bits .xor .i64 (Go.bits .xor .i64 (Go.bits .and .i64 x8_1 x9_1) (Go.bits .and .i64 x8_1 x10_1)) (Go.bits .and .i64 x9_1 x10_1)))))) 4294967295) x8_1 x9_1 x10_1 (Go.bits .and .i64 (wrap64 (x11_1 + (wrap64 ((wrap64 ((wrap64 ((wrap64 (x15_1 + (Go.bits .xor .i64 (Go.bits .xor .i64 t203 t204) t205))) + (Go.bits .xor .i64 (Go.bits .and .i64 x12_1 x13_1) (Go.bits .and .i64 (Go.bits .xor .i64 4294967295 x12_1) x14_1)))) + (rd kTab x52_1))) + (rd t189 x52_1))))) 4294967295) x12_1 x13_1 x14_1 (wrap64 (x52_1 + 1))))) = some r := H
              have A25 := Aside0.mk A250
              clear A250
              replace H := Option.bind_eq_some_iff.mp H
              obtain ⟨t208, A260, H⟩ := H
              replace H : ((impl_turnRight.f x8_1 22).bind fun t209 => (impl_round.l0 k1 t189 t192 (Go.bits .and .i64 (wrap64 ((wrap64 ((wrap64 ((wrap64 ((wrap64 (x15_1 + (Go.bits .xor .i64 (Go.bits .xor .i64 t203 t204) t205))) + (Go.bits .xor .i64 (Go.bits .and .i64 x12_1 x13_1) (Go.bits .and .i64 (Go.bits .xor .i64 4294967295 x12_1) x14_1)))) + (rd kTab x52_1))) + (rd t189 x52_1))) + (wrap64 ((Go.bits .xor .i64 (Go.bits .xor .i64 t207 t208) t209) + (Go.bits .xor .i64 (Go.bits .xor .i64 (Go.bits .and .i64 x8_1 x9_1) (Go.bits .and .i64 x8_1 x10_1)) (Go.bits .and .i64 x9_1 x10_1)))))) 4294967295) x8_1 x9_1 x10_1 (Go.bits .and .i64 (wrap64 (x11_1 + (wrap64 ((wrap64 ((wrap64 ((wrap64 (x15_1 + (Go.bits .xor .i64 (Go.bits .xor .i64 t203 t204) t205))) + (Go.bits .xor .i64 (Go.bits .and .i64 x12_1 x13_1) (Go.bits .and .i64 (Go.bits .xor .i64 4294967295 x12_1) x14_1)))) + (rd kTab x52_1))) + (rd t189 x52_1))))) 4294967295) x12_1 x13_1 x14_1 (wrap64 (x52_1 + 1)))) = some r := H
              have A26 := Aside0.mk A260
              clear A260
              replace H := Option.bind_eq_some_iff.mp H
              obtain ⟨t209, A270, H⟩ := H
              replace H : (impl_round.l0 k1 t189 t192 (Go.bits .and .i64 (wrap64 ((wrap64 ((wrap64 ((wrap64 ((wrap64 (x15_1 + (Go.bits .xor .i64 (Go.bits .xor .i64 t203 t204) t205))) + (Go.bits .xor .i64 (Go.bits .and .i64 x12_1 x13_1) (Go.bits .and .i64 (Go.bits .xor .i64 4294967295 x12_1) x14_1)))) + (rd kTab x52_1))) + (rd t189 x52_1))) + (wrap64 ((Go.bits .xor .i64 (Go.bits .xor .i64 t207 t208) t209) + (Go.bits .xor .i64 (Go.bits .xor .i64 (Go.bits .and .i64 x8_1 x9_1) (Go.bits .and .i64 x8_1 x10_1)) (Go.bits .and .i64 x9_1 x10_1)))))) 4294967295) x8_1 x9_1 x10_1 (Go.bits .and .i64 (wrap64 (x11_1 + (wrap64 ((wrap64 ((wrap64 ((wrap64 (x15_1 + (Go.bits .xor .i64 (Go.bits .xor .i64 t203 t204) t205))) + (Go.bits .xor .i64 (Go.bits .and .i64 x12_1 x13_1) (Go.bits .and .i64 (Go.bits .xor .i64 4294967295 x12_1) x14_1)))) + (rd kTab x52_1))) + (rd t189 x52_1))))) 4294967295) x12_1 x13_1 x14_1 (wrap64 (x52_1 + 1))) = some r := H
              have A27 := Aside0.mk A270
              clear A270
              have H' := Aside0.mk H
              clear H
              go_wp2_with (first | (go_at_call 82; (with_reducible refine (impl_turnRight.calls x12_1 6 t203 _ A20.out).mono ?_); rintro e w' ⟨rfl, ⟨nd, rfl⟩⟩; (try first | exact ⟨rfl, _, World.drewN_drewN _ _ _⟩ | exact ⟨rfl, _, Eq.trans (World.drewN_drewN _ _ _) (congrArg (World.drewN _) (Nat.add_assoc _ _ _))⟩)) | (go_at_call 82; (with_reducible refine (impl_turnRight.calls x12_1 11 t204 _ A21.out).mono ?_); rintro e w' ⟨rfl, ⟨nd, rfl⟩⟩; (try first | exact ⟨rfl, _, World.drewN_drewN _ _ _⟩ | exact ⟨rfl, _, Eq.trans (World.drewN_drewN _ _ _) (congrArg (World.drewN _) (Nat.add_assoc _ _ _))⟩)) | (go_at_call 82; (with_reducible refine (impl_turnRight.calls x12_1 25 t205 _ A22.out).mono ?_); rintro e w' ⟨rfl, ⟨nd, rfl⟩⟩; (try first | exact ⟨rfl, _, World.drewN_drewN _ _ _⟩ | exact ⟨rfl, _, Eq.trans (World.drewN_drewN _ _ _) (congrArg (World.drewN _) (Nat.add_assoc _ _ _))⟩); obtain ⟨Ao28, co28, eo28⟩ := Kd.R_slice HO_6.out; subst eo28; have p206 : 0 ≤ (x52_1 : Int) := of_decide_eq_true (by first | (with_reducible assumption) | assumption); have q206 : x52_1 < (t189.length : Int) := of_decide_eq_true (by first | (with_reducible assumption) | assumption); obtain ⟨ad206, e206, hx206_0⟩ := Kd.at_int (Kd.R_reads' HO_6.out).2.2 x52_1 p206 q206; cases e206; replace p206 := eq_true p206; replace q206 := eq_true q206) | (go_at_call 82; (with_reducible refine (impl_turnRight.calls x8_1 2 t207 _ A25.out).mono ?_); rintro e w' ⟨rfl, ⟨nd, rfl⟩⟩; (try first | exact ⟨rfl, _, World.drewN_drewN _ _ _⟩ | exact ⟨rfl, _, Eq.trans (World.drewN_drewN _ _ _) (congrArg (World.drewN _) (Nat.add_assoc _ _ _))⟩)) | (go_at_call 82; (with_reducible refine (impl_turnRight.calls x8_1 13 t208 _ A26.out).mono ?_); rintro e w' ⟨rfl, ⟨nd, rfl⟩⟩; (try first | exact ⟨rfl, _, World.drewN_drewN _ _ _⟩ | exact ⟨rfl, _, Eq.trans (World.drewN_drewN _ _ _) (congrArg (World.drewN _) (Nat.add_assoc _ _ _))⟩)) | (go_at_call 82; (with_reducible refine (impl_turnRight.calls x8_1 22 t209 _ A27.out).mono ?_); rintro e w' ⟨rfl, ⟨nd, rfl⟩⟩; (try first | exact ⟨rfl, _, World.drewN_drewN _ _ _⟩ | exact ⟨rfl, _, Eq.trans (World.drewN_drewN _ _ _) (congrArg (World.drewN _) (Nat.add_assoc _ _ _))⟩)))
              repeat (go_quiet (first | (go_at_call 82; (with_reducible refine (impl_turnRight.calls x12_1 6 t203 _ A20.out).mono ?_); rintro e w' ⟨rfl, ⟨nd, rfl⟩⟩; (try first | exact ⟨rfl, _, World.drewN_drewN _ _ _⟩ | exact ⟨rfl, _, Eq.trans (World.drewN_drewN _ _ _) (congrArg (World.drewN _) (Nat.add_assoc _ _ _))⟩)) | (go_at_call 82; (with_reducible refine (impl_turnRight.calls x12_1 11 t204 _ A21.out).mono ?_); rintro e w' ⟨rfl, ⟨nd, rfl⟩⟩; (try first | exact ⟨rfl, _, World.drewN_drewN _ _ _⟩ | exact ⟨rfl, _, Eq.trans (World.drewN_drewN _ _ _) (congrArg (World.drewN _) (Nat.add_assoc _ _ _))⟩)) | (go_at_call 82; (with_reducible refine (impl_turnRight.calls x12_1 25 t205 _ A22.out).mono ?_); rintro e w' ⟨rfl, ⟨nd, rfl⟩⟩; (try first | exact ⟨rfl, _, World.drewN_drewN _ _ _⟩ | exact ⟨rfl, _, Eq.trans (World.drewN_drewN _ _ _) (congrArg (World.drewN _) (Nat.add_assoc _ _ _))⟩); obtain ⟨Ao28, co28, eo28⟩ := Kd.R_slice HO_6.out; subst eo28; have p206 : 0 ≤ (x52_1 : Int) := of_decide_eq_true (by first | (with_reducible assumption) | assumption); have q206 : x52_1 < (t189.length : Int) := of_decide_eq_true (by first | (with_reducible assumption) | assumption); obtain ⟨ad206, e206, hx206_0⟩ := Kd.at_int (Kd.R_reads' HO_6.out).2.2 x52_1 p206 q206; cases e206; replace p206 := eq_true p206; replace q206 := eq_true q206) | (go_at_call 82; (with_reducible refine (impl_turnRight.calls x8_1 2 t207 _ A25.out).mono ?_); rintro e w' ⟨rfl, ⟨nd, rfl⟩⟩; (try first | exact ⟨rfl, _, World.drewN_drewN _ _ _⟩ | exact ⟨rfl, _, Eq.trans (World.drewN_drewN _ _ _) (congrArg (World.drewN _) (Nat.add_assoc _ _ _))⟩)) | (go_at_call 82; (with_reducible refine (impl_turnRight.calls x8_1 13 t208 _ A26.out).mono ?_); rintro e w' ⟨rfl, ⟨nd, rfl⟩⟩; (try first | exact ⟨rfl, _, World.drewN_drewN _ _ _⟩ | exact ⟨rfl, _, Eq.trans (World.drewN_drewN _ _ _) (congrArg (World.drewN _) (Nat.add_assoc _ _ _))⟩)) | (go_at_call 82; (with_reducible refine (impl_turnRight.calls x8_1 22 t209 _ A27.out).mono ?_); rintro e w' ⟨rfl, ⟨nd, rfl⟩⟩; (try first | exact ⟨rfl, _, World.drewN_drewN _ _ _⟩ | exact ⟨rfl, _, Eq.trans (World.drewN_drewN _ _ _) (congrArg (World.drewN _) (Nat.add_assoc _ _ _))⟩))); try go_wp2_with (first | (go_at_call 82; (with_reducible refine (impl_turnRight.calls x12_1 6 t203 _ A20.out).mono ?_); rintro e w' ⟨rfl, ⟨nd, rfl⟩⟩; (try first | exact ⟨rfl, _, World.drewN_drewN _ _ _⟩ | exact ⟨rfl, _, Eq.trans (World.drewN_drewN _ _ _) (congrArg (World.drewN _) (Nat.add_assoc _ _ _))⟩)) | (go_at_call 82; (with_reducible refine (impl_turnRight.calls x12_1 11 t204 _ A21.out).mono ?_); rintro e w' ⟨rfl, ⟨nd, rfl⟩⟩; (try first | exact ⟨rfl, _, World.drewN_drewN _ _ _⟩ | exact ⟨rfl, _, Eq.trans (World.drewN_drewN _ _ _) (congrArg (World.drewN _) (Nat.add_assoc _ _ _))⟩)) | (go_at_call 82; (with_reducible refine (impl_turnRight.calls x12_1 25 t205 _ A22.out).mono ?_); rintro e w' ⟨rfl, ⟨nd, rfl⟩⟩; (try first | exact ⟨rfl, _, World.drewN_drewN _ _ _⟩ | exact ⟨rfl, _, Eq.trans (World.drewN_drewN _ _ _) (congrArg (World.drewN _) (Nat.add_assoc _ _ _))⟩); obtain ⟨Ao28, co28, eo28⟩ := Kd.R_slice HO_6.out; subst eo28; have p206 : 0 ≤ (x52_1 : Int) := of_decide_eq_true (by first | (with_reducible assumption) | assumption); have q206 : x52_1 < (t189.length : Int) := of_decide_eq_true (by first | (with_reducible assumption) | assumption); obtain ⟨ad206, e206, hx206_0⟩ := Kd.at_int (Kd.R_reads' HO_6.out).2.2 x52_1 p206 q206; cases e206; replace p206 := eq_true p206; replace q206 := eq_true q206) | (go_at_call 82; (with_reducible refine (impl_turnRight.calls x8_1 2 t207 _ A25.out).mono ?_); rintro e w' ⟨rfl, ⟨nd, rfl⟩⟩; (try first | exact ⟨rfl, _, World.drewN_drewN _ _ _⟩ | exact ⟨rfl, _, Eq.trans (World.drewN_drewN _ _ _) (congrArg (World.drewN _) (Nat.add_assoc _ _ _))⟩)) | (go_at_call 82; (with_reducible refine (impl_turnRight.calls x8_1 13 t208 _ A26.out).mono ?_); rintro e w' ⟨rfl, ⟨nd, rfl⟩⟩; (try first | exact ⟨rfl, _, World.drewN_drewN _ _ _⟩ | exact ⟨rfl, _, Eq.trans (World.drewN_drewN _ _ _) (congrArg (World.drewN _) (Nat.add_assoc _ _ _))⟩)) | (go_at_call 82; (with_reducible refine (impl_turnRight.calls x8_1 22 t209 _ A27.out).mono ?_); rintro e w' ⟨rfl, ⟨nd, rfl⟩⟩; (try first | exact ⟨rfl, _, World.drewN_drewN _ _ _⟩ | exact ⟨rfl, _, Eq.trans (World.drewN_drewN _ _ _) (congrArg (World.drewN _) (Nat.add_assoc _ _ _))⟩))))
              go_roundg k1
              case measure => have := HK1.out; omega
              case rel => exact ⟨(Go.bits .and .i64 (wrap64 ((wrap64 ((wrap64 ((wrap64 ((wrap64 (x15_1 + (Go.bits .xor .i64 (Go.bits .xor .i64 t203 t204) t205))) + (Go.bits .xor .i64 (Go.bits .and .i64 x12_1 x13_1) (Go.bits .and .i64 (Go.bits .xor .i64 4294967295 x12_1) x14_1)))) + (rd kTab x52_1))) + (rd t189 x52_1))) + (wrap64 ((Go.bits .xor .i64 (Go.bits .xor .i64 t207 t208) t209) + (Go.bits .xor .i64 (Go.bits .xor .i64 (Go.bits .and .i64 x8_1 x9_1) (Go.bits .and .i64 x8_1 x10_1)) (Go.bits .and .i64 x9_1 x10_1)))))) 4294967295), (x8_1), (x9_1), (x10_1), (Go.bits .and .i64 (wrap64 (x11_1 + (wrap64 ((wrap64 ((wrap64 ((wrap64 (x15_1 + (Go.bits .xor .i64 (Go.bits .xor .i64 t203 t204) t205))) + (Go.bits .xor .i64 (Go.bits .and .i64 x12_1 x13_1) (Go.bits .and .i64 (Go.bits .xor .i64 4294967295 x12_1) x14_1)))) + (rd kTab x52_1))) + (rd t189 x52_1))))) 4294967295), (x12_1), (x13_1), (x14_1), (wrap64 (x52_1 + 1)), (by first | rfl | (simp; done) | (simp [*]; done)), (by first | rfl | (simp; done) | (simp [*]; done)), (by first | rfl | (simp; done) | (simp [*]; done)), (by first | rfl | (simp; done) | (simp [*]; done)), (by first | rfl | (simp; done) | (simp [*]; done)), (by first | rfl | (simp; done) | (simp [*]; done)), (by first | rfl | (simp; done) | (simp [*]; done)), (by first | rfl | (simp; done) | (simp [*]; done)), (by first | rfl | (simp; done) | (simp [*]; done)), H', ⟨by have := HK1.out; omega⟩, ⟨by (with_reducible repeat (first | apply Kd.R_alloc | apply Kd.R_drewN | apply Kd.R_drew)); exact HO_6.out⟩, ⟨by (with_reducible repeat (first | apply Kd.R_alloc | apply Kd.R_drewN | apply Kd.R_drew)); exact HO_7.out⟩, ⟨by (with_reducible repeat (first | refine blk_drewN ?_ _ | refine blk_drew ?_ | refine blk_alloc ?_ _)); exact BK188.out⟩, ⟨by repeat (first | (with_reducible first | exact HB.out | apply below_alloc | apply pw_below_drewN | apply below_drew1 | refine below_set ?_ GE188.out) | exact HB.out)⟩⟩
             ·
              rw [if_neg c24] at H
              exact absurd H (by simp)
            ·
             rw [if_neg c23] at H
             exact absurd H (by simp)
           ·
            rw [if_neg c19] at H
            have c19b0 : decide (x52_1 < 64) = false := decide_eq_false c19
            clear c19
            obtain ⟨y210, hy210⟩ : ∃ y_ : List Int, y_ = (([x8_1, x9_1, x10_1, x11_1, x12_1, x13_1, x14_1, x15_1] : List Int)) := ⟨_, rfl⟩
            replace H : (impl_round.l1 k1 t192 y210 (y210.length : Int) 0) = some r := by first | (rw [hy210]; with_reducible exact H) | (have H2_ := (Option.bind_some _ _).symm.trans H; rw [hy210]; with_reducible exact H2_) | (have H2_ := (Option.bind_some _ _).symm.trans H; with_reducible exact H2_) | with_reducible exact H | (rw [hy210]; exact H) | exact H
            have Ny210 := Aside0.mk hy210
            clear hy210
            have H' := Aside0.mk H
            clear H
            go_wp2_with (first | ((with_reducible refine gate_dst (N := 128) rfl ?_); refine Kd.R_lit (Kd.int .i64) _ 3 ?hg (N := 128) ?hd (xs := ([x8_1, x9_1, x10_1, x11_1, x12_1, x13_1, x14_1, x15_1] : List Int)) (inner := [.int .i64 x8_1, .int .i64 x9_1, .int .i64 x10_1, .int .i64 x11_1, .int .i64 x12_1, .int .i64 x13_1, .int .i64 x14_1, .int .i64 x15_1]) (ok := fun _ => True) (okp := fun _ => True) ?hr ?hp (fun _ hk => hk) trivial (Below.refl _ _) (Nat.le_refl _) (by simp) ?_; (case hd => rfl); (case hg => rfl); (case hr => first | (go_simp; done) | (go_simp; rfl)); (case hp => exact (Reps.one (show Kd.M (Kd.int .i64) _ _ _ x8_1 [.int .i64 x8_1] from rfl) (Reps.one (show Kd.M (Kd.int .i64) _ _ _ x9_1 [.int .i64 x9_1] from rfl) (Reps.one (show Kd.M (Kd.int .i64) _ _ _ x10_1 [.int .i64 x10_1] from rfl) (Reps.one (show Kd.M (Kd.int .i64) _ _ _ x11_1 [.int .i64 x11_1] from rfl) (Reps.one (show Kd.M (Kd.int .i64) _ _ _ x12_1 [.int .i64 x12_1] from rfl) (Reps.one (show Kd.M (Kd.int .i64) _ _ _ x13_1 [.int .i64 x13_1] from rfl) (Reps.one (show Kd.M (Kd.int .i64) _ _ _ x14_1 [.int .i64 x14_1] from rfl) (Reps.one (show Kd.M (Kd.int .i64) _ _ _ x15_1 [.int .i64 x15_1] from rfl) (Reps.none _ _)))))))))); intro v211 w29 ho30 hb hg_ hnew_; clear hg_ hnew_; (first | rw [← Ny210.out] at ho30 | (simp only [Int.reduceToNat] at ho30; rw [← Ny210.out] at ho30)); have n0_ := Aside0.mk (Kd.R_elder' (by (with_reducible repeat (first | apply Kd.R_alloc | apply Kd.R_drewN | apply Kd.R_drew)); exact HO_6.out) (Kd.R_base ho30) hb); have n1_ := Aside0.mk (Kd.R_elder' (by (with_reducible repeat (first | apply Kd.R_alloc | apply Kd.R_drewN | apply Kd.R_drew)); exact HO_7.out) (Kd.R_base ho30) hb); have n2_ := Aside0.mk (Kd.R_lower (Kd.R_new' (Kd.R_new' ho30 (Kd.R_lt (by (with_reducible repeat (first | apply Kd.R_alloc | apply Kd.R_drewN | apply Kd.R_drew)); exact HO_6.out))) (Kd.R_lt (by (with_reducible repeat (first | apply Kd.R_alloc | apply Kd.R_drewN | apply Kd.R_drew)); exact HO_7.out))) (below_size (by repeat (first | (with_reducible first | exact HB.out | apply below_alloc | apply pw_below_drewN | apply below_drew1 | refine below_set ?_ GE188.out) | exact HB.out)))); have n3_ := Aside0.mk (blk_below (g := gb188) (o := .cells kArr 88 (0, 0)) (by (with_reducible repeat (first | refine blk_drewN ?_ _ | refine blk_drew ?_ | refine blk_alloc ?_ _)); exact BK188.out) hb); have n4_ := Aside0.mk (below_step (by repeat (first | (with_reducible first | exact HB.out | apply below_alloc | apply pw_below_drewN | apply below_drew1 | refine below_set ?_ GE188.out) | exact HB.out)) hb); clear HO_6; clear HO_7; clear BK188; clear HB; have HO_6 := n0_; have HO_7 := n1_; have HO212 := n2_; have BK188 := n3_; have HB := n4_; clear n0_ n1_ n2_ n3_ n4_; clear hb ho30; obtain ⟨Ao31, co31, eo31⟩ := Kd.R_slice HO212.out; subst eo31))
            repeat (go_quiet (first | ((with_reducible refine gate_dst (N := 128) rfl ?_); refine Kd.R_lit (Kd.int .i64) _ 3 ?hg (N := 128) ?hd (xs := ([x8_1, x9_1, x10_1, x11_1, x12_1, x13_1, x14_1, x15_1] : List Int)) (inner := [.int .i64 x8_1, .int .i64 x9_1, .int .i64 x10_1, .int .i64 x11_1, .int .i64 x12_1, .int .i64 x13_1, .int .i64 x14_1, .int .i64 x15_1]) (ok := fun _ => True) (okp := fun _ => True) ?hr ?hp (fun _ hk => hk) trivial (Below.refl _ _) (Nat.le_refl _) (by simp) ?_; (case hd => rfl); (case hg => rfl); (case hr => first | (go_simp; done) | (go_simp; rfl)); (case hp => exact (Reps.one (show Kd.M (Kd.int .i64) _ _ _ x8_1 [.int .i64 x8_1] from rfl) (Reps.one (show Kd.M (Kd.int .i64) _ _ _ x9_1 [.int .i64 x9_1] from rfl) (Reps.one (show Kd.M (Kd.int .i64) _ _ _ x10_1 [.int .i64 x10_1] from rfl) (Reps.one (show Kd.M (Kd.int .i64) _ _ _ x11_1 [.int .i64 x11_1] from rfl) (Reps.one (show Kd.M (Kd.int .i64) _ _ _ x12_1 [.int .i64 x12_1] from rfl) (Reps.one (show Kd.M (Kd.int .i64) _ _ _ x13_1 [.int .i64 x13_1] from rfl) (Reps.one (show Kd.M (Kd.int .i64) _ _ _ x14_1 [.int .i64 x14_1] from rfl) (Reps.one (show Kd.M (Kd.int .i64) _ _ _ x15_1 [.int .i64 x15_1] from rfl) (Reps.none _ _)))))))))); intro v211 w29 ho30 hb hg_ hnew_; clear hg_ hnew_; (first | rw [← Ny210.out] at ho30 | (simp only [Int.reduceToNat] at ho30; rw [← Ny210.out] at ho30)); have n0_ := Aside0.mk (Kd.R_elder' (by (with_reducible repeat (first | apply Kd.R_alloc | apply Kd.R_drewN | apply Kd.R_drew)); exact HO_6.out) (Kd.R_base ho30) hb); have n1_ := Aside0.mk (Kd.R_elder' (by (with_reducible repeat (first | apply Kd.R_alloc | apply Kd.R_drewN | apply Kd.R_drew)); exact HO_7.out) (Kd.R_base ho30) hb); have n2_ := Aside0.mk (Kd.R_lower (Kd.R_new' (Kd.R_new' ho30 (Kd.R_lt (by (with_reducible repeat (first | apply Kd.R_alloc | apply Kd.R_drewN | apply Kd.R_drew)); exact HO_6.out))) (Kd.R_lt (by (with_reducible repeat (first | apply Kd.R_alloc | apply Kd.R_drewN | apply Kd.R_drew)); exact HO_7.out))) (below_size (by repeat (first | (with_reducible first | exact HB.out | apply below_alloc | apply pw_below_drewN | apply below_drew1 | refine below_set ?_ GE188.out) | exact HB.out)))); have n3_ := Aside0.mk (blk_below (g := gb188) (o := .cells kArr 88 (0, 0)) (by (with_reducible repeat (first | refine blk_drewN ?_ _ | refine blk_drew ?_ | refine blk_alloc ?_ _)); exact BK188.out) hb); have n4_ := Aside0.mk (below_step (by repeat (first | (with_reducible first | exact HB.out | apply below_alloc | apply pw_below_drewN | apply below_drew1 | refine below_set ?_ GE188.out) | exact HB.out)) hb); clear HO_6; clear HO_7; clear BK188; clear HB; have HO_6 := n0_; have HO_7 := n1_; have HO212 := n2_; have BK188 := n3_; have HB := n4_; clear n0_ n1_ n2_ n3_ n4_; clear hb ho30; obtain ⟨Ao31, co31, eo31⟩ := Kd.R_slice HO212.out; subst eo31)); try go_wp2_with (first | ((with_reducible refine gate_dst (N := 128) rfl ?_); refine Kd.R_lit (Kd.int .i64) _ 3 ?hg (N := 128) ?hd (xs := ([x8_1, x9_1, x10_1, x11_1, x12_1, x13_1, x14_1, x15_1] : List Int)) (inner := [.int .i64 x8_1, .int .i64 x9_1, .int .i64 x10_1, .int .i64 x11_1, .int .i64 x12_1, .int .i64 x13_1, .int .i64 x14_1, .int .i64 x15_1]) (ok := fun _ => True) (okp := fun _ => True) ?hr ?hp (fun _ hk => hk) trivial (Below.refl _ _) (Nat.le_refl _) (by simp) ?_; (case hd => rfl); (case hg => rfl); (case hr => first | (go_simp; done) | (go_simp; rfl)); (case hp => exact (Reps.one (show Kd.M (Kd.int .i64) _ _ _ x8_1 [.int .i64 x8_1] from rfl) (Reps.one (show Kd.M (Kd.int .i64) _ _ _ x9_1 [.int .i64 x9_1] from rfl) (Reps.one (show Kd.M (Kd.int .i64) _ _ _ x10_1 [.int .i64 x10_1] from rfl) (Reps.one (show Kd.M (Kd.int .i64) _ _ _ x11_1 [.int .i64 x11_1] from rfl) (Reps.one (show Kd.M (Kd.int .i64) _ _ _ x12_1 [.int .i64 x12_1] from rfl) (Reps.one (show Kd.M (Kd.int .i64) _ _ _ x13_1 [.int .i64 x13_1] from rfl) (Reps.one (show Kd.M (Kd.int .i64) _ _ _ x14_1 [.int .i64 x14_1] from rfl) (Reps.one (show Kd.M (Kd.int .i64) _ _ _ x15_1 [.int .i64 x15_1] from rfl) (Reps.none _ _)))))))))); intro v211 w29 ho30 hb hg_ hnew_; clear hg_ hnew_; (first | rw [← Ny210.out] at ho30 | (simp only [Int.reduceToNat] at ho30; rw [← Ny210.out] at ho30)); have n0_ := Aside0.mk (Kd.R_elder' (by (with_reducible repeat (first | apply Kd.R_alloc | apply Kd.R_drewN | apply Kd.R_drew)); exact HO_6.out) (Kd.R_base ho30) hb); have n1_ := Aside0.mk (Kd.R_elder' (by (with_reducible repeat (first | apply Kd.R_alloc | apply Kd.R_drewN | apply Kd.R_drew)); exact HO_7.out) (Kd.R_base ho30) hb); have n2_ := Aside0.mk (Kd.R_lower (Kd.R_new' (Kd.R_new' ho30 (Kd.R_lt (by (with_reducible repeat (first | apply Kd.R_alloc | apply Kd.R_drewN | apply Kd.R_drew)); exact HO_6.out))) (Kd.R_lt (by (with_reducible repeat (first | apply Kd.R_alloc | apply Kd.R_drewN | apply Kd.R_drew)); exact HO_7.out))) (below_size (by repeat (first | (with_reducible first | exact HB.out | apply below_alloc | apply pw_below_drewN | apply below_drew1 | refine below_set ?_ GE188.out) | exact HB.out)))); have n3_ := Aside0.mk (blk_below (g := gb188) (o := .cells kArr 88 (0, 0)) (by (with_reducible repeat (first | refine blk_drewN ?_ _ | refine blk_drew ?_ | refine blk_alloc ?_ _)); exact BK188.out) hb); have n4_ := Aside0.mk (below_step (by repeat (first | (with_reducible first | exact HB.out | apply below_alloc | apply pw_below_drewN | apply below_drew1 | refine below_set ?_ GE188.out) | exact HB.out)) hb); clear HO_6; clear HO_7; clear BK188; clear HB; have HO_6 := n0_; have HO_7 := n1_; have HO212 := n2_; have BK188 := n3_; have HB := n4_; clear n0_ n1_ n2_ n3_ n4_; clear hb ho30; obtain ⟨Ao31, co31, eo31⟩ := Kd.R_slice HO212.out; subst eo31)))
            go_loopg [130] k1 (fun kq v130 w' => ∃ (x7_2 : List Int) (x130_2 : Int), v130 = .int .i64 x130_2 ∧ Aside0 (impl_round.l1 kq x7_2 y210 (y210.length : Int) x130_2 = some r) ∧ Aside0 (kq ≤ k1) ∧ Aside0 (Kd.R (Kd.int .i64) 3 w' w.heap.size (fun k_ => some k_ ≠ ((.slice Ao31 y210.length co31) : Value).ownBlock) (.slice (some ad195) t192.length co18) x7_2) ∧ Aside0 (Kd.R (Kd.int .i64) 3 w' w.heap.size (fun k_ => some k_ ≠ ((.slice (some ad195) t192.length co18) : Value).ownBlock) (.slice Ao31 y210.length co31) y210) ∧ Aside0 (w'.heap[gb188]? = some (.cells kArr 88 (0, 0))) ∧ Aside0 (Below w.heap.size w w'))
            case atStart => exact ⟨(t192), (0), (by first | rfl | (simp; done) | (simp [*]; done)), H', ⟨Nat.le_refl _⟩, ⟨by (with_reducible repeat (first | apply Kd.R_alloc | apply Kd.R_drewN | apply Kd.R_drew)); exact Kd.R_mono HO_7.out (fun _ hk => hk.2)⟩, ⟨by (with_reducible repeat (first | apply Kd.R_alloc | apply Kd.R_drewN | apply Kd.R_drew)); exact Kd.R_mono HO212.out (fun _ hk => hk.2)⟩, ⟨by (with_reducible repeat (first | refine blk_drewN ?_ _ | refine blk_drew ?_ | refine blk_alloc ?_ _)); exact BK188.out⟩, ⟨by repeat (first | (with_reducible first | exact HB.out | apply below_alloc | apply pw_below_drewN | apply below_drew1 | refine below_set ?_ GE188.out) | exact HB.out)⟩⟩
            case round =>
             clear H'
             try clear c1; try clear p1; try clear q1; try clear hx1; try clear qi1; try clear c2; try clear p2; try clear q2; try clear hx2; try clear qi2; try clear c6; try clear c6b0; try clear c6b1; try clear p6; try clear c7; try clear c7b0; try clear c7b1; try clear c8; try clear c8b0; try clear c8b1; try clear c9; try clear c9b0; try clear c9b1; try clear c10; try clear c10b0; try clear c10b1; try clear c11; try clear c11b0; try clear c11b1; try clear c12; try clear c12b0; try clear c12b1; try clear c13; try clear c13b0; try clear c13b1; try clear c19; try clear c19b0; try clear p19; try clear q19; try clear hx19; try clear qi19; try clear p20; try clear q20; try clear hx20; try clear qi20; try clear c23; try clear c23b0; try clear c24; try clear c24b0; try clear hx195_0; try clear hx196_0; try clear hx197_0; try clear hx198_0; try clear hx199_0; try clear hx200_0; try clear hx201_0; try clear hx202_0; try clear hx206_0; try clear p1; try clear p195; try clear p196; try clear p197; try clear p198; try clear p199; try clear p2; try clear p200; try clear p201; try clear p202; try clear p206; try clear q1; try clear q195; try clear q196; try clear q197; try clear q198; try clear q199; try clear q2; try clear q200; try clear q201; try clear q202; try clear q206
             obtain ⟨x7_2, x130_2, rfl, HA, HK2, HO_7, HO_128, BK188, HB⟩ := hrel
             have hl7_2 := (Kd.R_reads' HO_7.out).1
             rw [hl7_2] at HO_7
             (try simp only [hl7_2])
             (try simp only [hl7_2] at BK188)
             (try simp only [hl7_2] at HO_128)
             cases gk with
             | zero => exact absurd HA.out (by simp [impl_round.l1])
             | succ k2 =>
              have H := HA.out
              clear HA
              simp only [impl_round.l1] at H
              by_cases c32 : x130_2 < (y210.length : Int)
              ·
               rw [if_pos c32] at H
               have c32b0 : decide (x130_2 < (y210.length : Int)) = true := decide_eq_true c32
               clear c32
               by_cases c33 : 0 ≤ x130_2
               ·
                rw [if_pos c33] at H
                have c33b0 : decide (0 ≤ x130_2) = true := decide_eq_true c33
                clear c33
                by_cases c34 : x130_2 < (y210.length : Int)
                ·
                 rw [if_pos c34] at H
                 have c34b0 : decide (x130_2 < (y210.length : Int)) = true := decide_eq_true c34
                 clear c34
                 by_cases c35 : x130_2 < (x7_2.length : Int)
                 ·
                  rw [if_pos c35] at H
                  have c35b0 : decide (x130_2 < (x7_2.length : Int)) = true := decide_eq_true c35
                  clear c35
                  obtain ⟨y215, hy215⟩ : ∃ y_ : List Int, y_ = (x7_2.set (x130_2 : Int).toNat (Go.bits .and .i64 (wrap64 ((rd x7_2 x130_2) + (rd y210 x130_2))) 4294967295)) := ⟨_, rfl⟩
                  replace H : (impl_round.l1 k2 y215 y210 (y210.length : Int) (wrap64 (x130_2 + 1))) = some r := by first | (rw [hy215]; with_reducible exact H) | (have H2_ := (Option.bind_some _ _).symm.trans H; rw [hy215]; with_reducible exact H2_) | (have H2_ := (Option.bind_some _ _).symm.trans H; with_reducible exact H2_) | with_reducible exact H | (rw [hy215]; exact H) | exact H
                  have Ny215 := Aside0.mk hy215
                  clear hy215
                  have H' := Aside0.mk H
                  clear H
                  have p213 : 0 ≤ (x130_2 : Int) := of_decide_eq_true (by first | (with_reducible assumption) | assumption)
                  have q213 : x130_2 < (y210.length : Int) := of_decide_eq_true (by first | (with_reducible assumption) | assumption)
                  obtain ⟨ad213, e213, hx213_0⟩ := Kd.at_int (Kd.R_reads' HO_128.out).2.2 x130_2 p213 q213
                  cases e213
                  replace p213 := eq_true p213
                  replace q213 := eq_true q213
                  have p214 : 0 ≤ (x130_2 : Int) := of_decide_eq_true (by first | (with_reducible assumption) | assumption)
                  have q214 : x130_2 < (x7_2.length : Int) := of_decide_eq_true (by first | (with_reducible assumption) | assumption)
                  obtain ⟨ad214, e214, hx214_0⟩ := Kd.at_int (Kd.R_reads' HO_7.out).2.2 x130_2 p214 q214
                  obtain rfl : ad195 = ad214 := (by injection e214)
                  replace p214 := eq_true p214
                  replace q214 := eq_true q214
                  have p36 : 0 ≤ (x130_2 : Int) := of_decide_eq_true (by first | (with_reducible assumption) | assumption)
                  have q36 : (x130_2 : Int) < ((x7_2.length : Int) : Int) := of_decide_eq_true (by first | (with_reducible assumption) | assumption)
                  obtain ⟨go36, co36, eo36, gb36, gl36, cl36, HG36⟩ := Kd.R_form HO_7.out (by omega)
                  (first | cases eo36 | (injection eo36 with ea_ en_ ec_; (first | subst ea_ | (injection ea_ with ea_; subst ea_)); subst ec_; clear en_))
                  have GB36 := Aside0.mk gb36
                  have GG36 := Aside0.mk HG36
                  clear gb36 gl36 HG36
                  (first | simp only [add_plain] at hx195_0 | skip)
                  (first | simp only [add_plain] at hx196_0 | skip)
                  (first | simp only [add_plain] at hx197_0 | skip)
                  (first | simp only [add_plain] at hx198_0 | skip)
                  (first | simp only [add_plain] at hx199_0 | skip)
                  (first | simp only [add_plain] at hx200_0 | skip)
                  (first | simp only [add_plain] at hx201_0 | skip)
                  (first | simp only [add_plain] at hx202_0 | skip)
                  (first | simp only [add_plain] at hx214_0 | skip)
                  obtain ⟨hx36_0, hf36_0⟩ := Kd.R_celln 0 HO_7.out (x130_2 : Int) p36 q36
                  replace p36 := eq_true p36
                  replace q36 := eq_true q36
                  have HP37 := Kd.R_putg HO_7.out (x130_2 : Int) (Go.bits .and .i64 (wrap64 ((rd x7_2 x130_2) + (rd y210 x130_2))) 4294967295)
                  go_wp2_with (first | ((with_reducible refine gate_store (t := 3) (p := 144) rfl ?_); (try (rw [drewN_self wr]; generalize hq_ : World.drewN wr _ = wr; have n0_ := Aside0.mk (Kd.R_at hq_ HO_7.out); have n1_ := Aside0.mk (Kd.R_at hq_ HO_128.out); have n2_ := Aside0.mk (blk_at hq_ BK188.out); have n3_ := Aside0.mk (below_at hq_ HB.out); clear hq_ HO_7 HO_128 BK188 HB; have HO_7 := n0_; have HO_128 := n1_; have BK188 := n2_; have HB := n3_; clear n0_ n1_ n2_ n3_; (try (have HP37 := Kd.R_putg HO_7.out (x130_2 : Int) (Go.bits .and .i64 (wrap64 ((rd x7_2 x130_2) + (rd y210 x130_2))) 4294967295))))); refine store_event (t := 3) (p := 144) (v := ?vo_w38) (w1 := (wr.setCell ⟨go36, (x130_2 : Int).toNat, none⟩ (.int .i64 (Go.bits .and .i64 (wrap64 ((rd x7_2 x130_2) + (rd y210 x130_2))) 4294967295)))) ?hg ?ho ?hn ?hr ?_; (case ho => rfl); (case hg => rfl); (case hn => rfl); (case hr => first | (go_simp; done) | (go_simp; rfl)); intro w38 hw; have hg : wr.grownBy w38 (some go36) := (by rw [hw]; exact HP37.2); have hp_ : Kd.R (Kd.int .i64) 3 w38 w.heap.size (fun k_ => some k_ ≠ (.slice (some ad213) y210.length co31 : Value).ownBlock) (.slice (some ⟨go36, 0, none⟩) x7_2.length co18) y215 := (by rw [hw, Ny215.out]; exact HP37.1); clear HP37; have n0_ := Aside0.mk (hp_); have n1_ := Aside0.mk (Kd.R_after (v := (.slice (some ⟨go36, 0, none⟩) x7_2.length co18)) (v1 := (.slice (some ⟨go36, 0, none⟩) x7_2.length co18)) (ok := (fun _ => True)) (by (with_reducible repeat (first | apply Kd.R_alloc | apply Kd.R_drewN | apply Kd.R_drew)); exact Kd.R_mono HO_128.out (fun _ hk => ⟨trivial, hk⟩)) hg (.inl rfl)); have n2_ := Aside0.mk (blk_grown (g := gb188) (o := .cells kArr 88 (0, 0)) (by (with_reducible repeat (first | refine blk_drewN ?_ _ | refine blk_drew ?_ | refine blk_alloc ?_ _)); exact BK188.out) hg (Kd.R_ne HO_7.out BK188.out (by decide))); have n3_ := Aside0.mk ((by rw [hw]; exact below_set (HB.out) GB36.out : Below w.heap.size w w38)); clear HO_7; clear HO_128; clear BK188; clear HB; have HO_7 := n0_; have HO_128 := n1_; have BK188 := n2_; have HB := n3_; clear n0_ n1_ n2_ n3_; clear hg hw hp_))
                  repeat (go_quiet (first | ((with_reducible refine gate_store (t := 3) (p := 144) rfl ?_); (try (rw [drewN_self wr]; generalize hq_ : World.drewN wr _ = wr; have n0_ := Aside0.mk (Kd.R_at hq_ HO_7.out); have n1_ := Aside0.mk (Kd.R_at hq_ HO_128.out); have n2_ := Aside0.mk (blk_at hq_ BK188.out); have n3_ := Aside0.mk (below_at hq_ HB.out); clear hq_ HO_7 HO_128 BK188 HB; have HO_7 := n0_; have HO_128 := n1_; have BK188 := n2_; have HB := n3_; clear n0_ n1_ n2_ n3_; (try (have HP37 := Kd.R_putg HO_7.out (x130_2 : Int) (Go.bits .and .i64 (wrap64 ((rd x7_2 x130_2) + (rd y210 x130_2))) 4294967295))))); refine store_event (t := 3) (p := 144) (v := ?vo_w38) (w1 := (wr.setCell ⟨go36, (x130_2 : Int).toNat, none⟩ (.int .i64 (Go.bits .and .i64 (wrap64 ((rd x7_2 x130_2) + (rd y210 x130_2))) 4294967295)))) ?hg ?ho ?hn ?hr ?_; (case ho => rfl); (case hg => rfl); (case hn => rfl); (case hr => first | (go_simp; done) | (go_simp; rfl)); intro w38 hw; have hg : wr.grownBy w38 (some go36) := (by rw [hw]; exact HP37.2); have hp_ : Kd.R (Kd.int .i64) 3 w38 w.heap.size (fun k_ => some k_ ≠ (.slice (some ad213) y210.length co31 : Value).ownBlock) (.slice (some ⟨go36, 0, none⟩) x7_2.length co18) y215 := (by rw [hw, Ny215.out]; exact HP37.1); clear HP37; have n0_ := Aside0.mk (hp_); have n1_ := Aside0.mk (Kd.R_after (v := (.slice (some ⟨go36, 0, none⟩) x7_2.length co18)) (v1 := (.slice (some ⟨go36, 0, none⟩) x7_2.length co18)) (ok := (fun _ => True)) (by (with_reducible repeat (first | apply Kd.R_alloc | apply Kd.R_drewN | apply Kd.R_drew)); exact Kd.R_mono HO_128.out (fun _ hk => ⟨trivial, hk⟩)) hg (.inl rfl)); have n2_ := Aside0.mk (blk_grown (g := gb188) (o := .cells kArr 88 (0, 0)) (by (with_reducible repeat (first | refine blk_drewN ?_ _ | refine blk_drew ?_ | refine blk_alloc ?_ _)); exact BK188.out) hg (Kd.R_ne HO_7.out BK188.out (by decide))); have n3_ := Aside0.mk ((by rw [hw]; exact below_set (HB.out) GB36.out : Below w.heap.size w w38)); clear HO_7; clear HO_128; clear BK188; clear HB; have HO_7 := n0_; have HO_128 := n1_; have BK188 := n2_; have HB := n3_; clear n0_ n1_ n2_ n3_; clear hg hw hp_)); try go_wp2_with (first | ((with_reducible refine gate_store (t := 3) (p := 144) rfl ?_); (try (rw [drewN_self wr]; generalize hq_ : World.drewN wr _ = wr; have n0_ := Aside0.mk (Kd.R_at hq_ HO_7.out); have n1_ := Aside0.mk (Kd.R_at hq_ HO_128.out); have n2_ := Aside0.mk (blk_at hq_ BK188.out); have n3_ := Aside0.mk (below_at hq_ HB.out); clear hq_ HO_7 HO_128 BK188 HB; have HO_7 := n0_; have HO_128 := n1_; have BK188 := n2_; have HB := n3_; clear n0_ n1_ n2_ n3_; (try (have HP37 := Kd.R_putg HO_7.out (x130_2 : Int) (Go.bits .and .i64 (wrap64 ((rd x7_2 x130_2) + (rd y210 x130_2))) 4294967295))))); refine store_event (t := 3) (p := 144) (v := ?vo_w38) (w1 := (wr.setCell ⟨go36, (x130_2 : Int).toNat, none⟩ (.int .i64 (Go.bits .and .i64 (wrap64 ((rd x7_2 x130_2) + (rd y210 x130_2))) 4294967295)))) ?hg ?ho ?hn ?hr ?_; (case ho => rfl); (case hg => rfl); (case hn => rfl); (case hr => first | (go_simp; done) | (go_simp; rfl)); intro w38 hw; have hg : wr.grownBy w38 (some go36) := (by rw [hw]; exact HP37.2); have hp_ : Kd.R (Kd.int .i64) 3 w38 w.heap.size (fun k_ => some k_ ≠ (.slice (some ad213) y210.length co31 : Value).ownBlock) (.slice (some ⟨go36, 0, none⟩) x7_2.length co18) y215 := (by rw [hw, Ny215.out]; exact HP37.1); clear HP37; have n0_ := Aside0.mk (hp_); have n1_ := Aside0.mk (Kd.R_after (v := (.slice (some ⟨go36, 0, none⟩) x7_2.length co18)) (v1 := (.slice (some ⟨go36, 0, none⟩) x7_2.length co18)) (ok := (fun _ => True)) (by (with_reducible repeat (first | apply Kd.R_alloc | apply Kd.R_drewN | apply Kd.R_drew)); exact Kd.R_mono HO_128.out (fun _ hk => ⟨trivial, hk⟩)) hg (.inl rfl)); have n2_ := Aside0.mk (blk_grown (g := gb188) (o := .cells kArr 88 (0, 0)) (by (with_reducible repeat (first | refine blk_drewN ?_ _ | refine blk_drew ?_ | refine blk_alloc ?_ _)); exact BK188.out) hg (Kd.R_ne HO_7.out BK188.out (by decide))); have n3_ := Aside0.mk ((by rw [hw]; exact below_set (HB.out) GB36.out : Below w.heap.size w w38)); clear HO_7; clear HO_128; clear BK188; clear HB; have HO_7 := n0_; have HO_128 := n1_; have BK188 := n2_; have HB := n3_; clear n0_ n1_ n2_ n3_; clear hg hw hp_)))
                  (try simp only [← hl7_2])
                  go_roundg k2
                  case measure => have := HK1.out; have := HK2.out; omega
                  case rel => exact ⟨(y215), (wrap64 (x130_2 + 1)), (by first | rfl | (simp; done) | (simp [*]; done)), H', ⟨by have := HK1.out; have := HK2.out; omega⟩, ⟨by (try simp only [hl7_2]); (with_reducible repeat (first | apply Kd.R_alloc | apply Kd.R_drewN | apply Kd.R_drew)); exact HO_7.out⟩, ⟨by (try simp only [hl7_2]); (with_reducible repeat (first | apply Kd.R_alloc | apply Kd.R_drewN | apply Kd.R_drew)); exact Kd.R_mono HO_128.out (fun _ hk => hk.2)⟩, ⟨by (try simp only [hl7_2]); (with_reducible repeat (first | refine blk_drewN ?_ _ | refine blk_drew ?_ | refine blk_alloc ?_ _)); exact BK188.out⟩, ⟨by repeat (first | (with_reducible first | exact HB.out | apply below_alloc | apply pw_below_drewN | apply below_drew1 | refine below_set ?_ GE188.out) | exact HB.out)⟩⟩
                 ·
                  rw [if_neg c35] at H
                  exact absurd H (by simp)
                ·
                 rw [if_neg c34] at H
                 exact absurd H (by simp)
               ·
                rw [if_neg c33] at H
                exact absurd H (by simp)
              ·
               rw [if_neg c32] at H
               have c32b0 : decide (x130_2 < (y210.length : Int)) = false := decide_eq_false c32
               clear c32
               replace H := Option.bind_eq_some_iff.mp H
               obtain ⟨t216, A390, H⟩ := H
               replace H : (some t216) = some r := H
               have A39 := Aside0.mk A390
               clear A390
               obtain rfl := Option.some.inj H
               go_wp2_with (first | (go_at_call 83; (with_reducible refine (impl_wordsText.calls k2 _ _ x7_2 t216 _ ?side1 ?side2 A39.out).mono ?_); (case side1 => repeat (first | exact (Kd.R_reads' HO_7.out).2.2 | (with_reducible refine Kd.C_alloc ?_ _) | (with_reducible refine Kd.C_drewN ?_ _) | (with_reducible refine Kd.C_drew ?_))); (case side2 => exact (Kd.R_reads' HO_7.out).2.1); rintro e w40 ⟨rfl, hb⟩; have n0_ := Aside0.mk (Kd.R_below (by (with_reducible repeat (first | apply Kd.R_alloc | apply Kd.R_drewN | apply Kd.R_drew)); exact HO_7.out) hb); have n1_ := Aside0.mk (Kd.R_below (by (with_reducible repeat (first | apply Kd.R_alloc | apply Kd.R_drewN | apply Kd.R_drew)); exact HO_128.out) hb); have n2_ := Aside0.mk (blk_below (g := gb188) (o := .cells kArr 88 (0, 0)) (by (with_reducible repeat (first | refine blk_drewN ?_ _ | refine blk_drew ?_ | refine blk_alloc ?_ _)); exact BK188.out) hb); have n3_ := Aside0.mk (below_step (by repeat (first | (with_reducible first | exact HB.out | apply below_alloc | apply pw_below_drewN | apply below_drew1 | refine below_set ?_ GE188.out) | exact HB.out)) hb); clear HO_7; clear HO_128; clear BK188; clear HB; have HO_7 := n0_; have HO_128 := n1_; have BK188 := n2_; have HB := n3_; clear n0_ n1_ n2_ n3_; (try clear hb); (try clear hb2); (try clear hk); (try clear hi)))
               repeat (go_quiet (first | (go_at_call 83; (with_reducible refine (impl_wordsText.calls k2 _ _ x7_2 t216 _ ?side1 ?side2 A39.out).mono ?_); (case side1 => repeat (first | exact (Kd.R_reads' HO_7.out).2.2 | (with_reducible refine Kd.C_alloc ?_ _) | (with_reducible refine Kd.C_drewN ?_ _) | (with_reducible refine Kd.C_drew ?_))); (case side2 => exact (Kd.R_reads' HO_7.out).2.1); rintro e w40 ⟨rfl, hb⟩; have n0_ := Aside0.mk (Kd.R_below (by (with_reducible repeat (first | apply Kd.R_alloc | apply Kd.R_drewN | apply Kd.R_drew)); exact HO_7.out) hb); have n1_ := Aside0.mk (Kd.R_below (by (with_reducible repeat (first | apply Kd.R_alloc | apply Kd.R_drewN | apply Kd.R_drew)); exact HO_128.out) hb); have n2_ := Aside0.mk (blk_below (g := gb188) (o := .cells kArr 88 (0, 0)) (by (with_reducible repeat (first | refine blk_drewN ?_ _ | refine blk_drew ?_ | refine blk_alloc ?_ _)); exact BK188.out) hb); have n3_ := Aside0.mk (below_step (by repeat (first | (with_reducible first | exact HB.out | apply below_alloc | apply pw_below_drewN | apply below_drew1 | refine below_set ?_ GE188.out) | exact HB.out)) hb); clear HO_7; clear HO_128; clear BK188; clear HB; have HO_7 := n0_; have HO_128 := n1_; have BK188 := n2_; have HB := n3_; clear n0_ n1_ n2_ n3_; (try clear hb); (try clear hb2); (try clear hk); (try clear hi))); try go_wp2_with (first | (go_at_call 83; (with_reducible refine (impl_wordsText.calls k2 _ _ x7_2 t216 _ ?side1 ?side2 A39.out).mono ?_); (case side1 => repeat (first | exact (Kd.R_reads' HO_7.out).2.2 | (with_reducible refine Kd.C_alloc ?_ _) | (with_reducible refine Kd.C_drewN ?_ _) | (with_reducible refine Kd.C_drew ?_))); (case side2 => exact (Kd.R_reads' HO_7.out).2.1); rintro e w40 ⟨rfl, hb⟩; have n0_ := Aside0.mk (Kd.R_below (by (with_reducible repeat (first | apply Kd.R_alloc | apply Kd.R_drewN | apply Kd.R_drew)); exact HO_7.out) hb); have n1_ := Aside0.mk (Kd.R_below (by (with_reducible repeat (first | apply Kd.R_alloc | apply Kd.R_drewN | apply Kd.R_drew)); exact HO_128.out) hb); have n2_ := Aside0.mk (blk_below (g := gb188) (o := .cells kArr 88 (0, 0)) (by (with_reducible repeat (first | refine blk_drewN ?_ _ | refine blk_drew ?_ | refine blk_alloc ?_ _)); exact BK188.out) hb); have n3_ := Aside0.mk (below_step (by repeat (first | (with_reducible first | exact HB.out | apply below_alloc | apply pw_below_drewN | apply below_drew1 | refine below_set ?_ GE188.out) | exact HB.out)) hb); clear HO_7; clear HO_128; clear BK188; clear HB; have HO_7 := n0_; have HO_128 := n1_; have BK188 := n2_; have HB := n3_; clear n0_ n1_ n2_ n3_; (try clear hb); (try clear hb2); (try clear hk); (try clear hi))))
               go_ret
               exact ⟨by first | rfl | (simp [errW_none, errW_some] <;> rfl) | (simp [*, errW_none, errW_some] <;> rfl), by repeat (first | (with_reducible first | exact HB.out | apply below_alloc | apply pw_below_drewN | apply below_drew1 | refine below_set ?_ GE188.out) | exact HB.out)⟩
        ·
         rw [if_neg c13] at H
         exact absurd H (by simp)
       ·
        rw [if_neg c12] at H
        exact absurd H (by simp)
      ·
       rw [if_neg c11] at H
       exact absurd H (by simp)
     ·
      rw [if_neg c10] at H
      exact absurd H (by simp)
    ·
     rw [if_neg c9] at H
     exact absurd H (by simp)
   ·
    rw [if_neg c8] at H
    exact absurd H (by simp)
  ·
   rw [if_neg c7] at H
   exact absurd H (by simp)
 ·
  rw [if_neg c6] at H
  exact absurd H (by simp)
def impl_rounds.l0 : Nat → ByteArray → ByteArray → Option (ByteArray × ByteArray)
 | 0, _, _ => none
 | k + 1, x0, x1 => if (x1.size : Int) ≥ 64 then (if 0 ≤ 64 then (if 64 ≤ (x1.size : Int) then ((impl_round.f k x0 (x1.extract 0 64)).bind fun t217 => (impl_rounds.l0 k t217 (x1.extract 64 x1.size))) else (none)) else (none)) else (some (x0, x1))
def impl_rounds.f (k : Nat) (a0 : ByteArray) (a1 : ByteArray) : Option (ByteArray × ByteArray) := impl_rounds.l0 k a0 a1
theorem impl_rounds.mono_l : ∀ k, (∀ y0 y1, LeO (impl_rounds.l0 k y0 y1) (impl_rounds.l0 (k + 1) y0 y1))
 | 0 => fun _ _ r h => by simp [impl_rounds.l0] at h
 | k + 1 => by
  have ih0 := impl_rounds.mono_l k
  ·
   intro y0 y1
   unfold impl_rounds.l0
   repeat' first
   | (with_reducible exact ih0 _ _)
   | (with_reducible exact impl_round.mono _ _ _)
   | (with_reducible exact LeO.refl _)
   | (with_reducible exact LeO.none _)
   | (with_reducible refine LeO.ite ?_ ?_)
   | (with_reducible refine LeO.bind ?_ (fun _ => ?_))
   | exact ih0 _ _
   | exact impl_round.mono _ _ _
   | exact LeO.none _
   | refine LeO.ite ?_ ?_
   | refine LeO.bind ?_ (fun _ => ?_)
theorem impl_rounds.mono : ∀ a0 a1 k, LeO (impl_rounds.f k a0 a1) (impl_rounds.f (k + 1) a0 a1) := by
 intro a0 a1 k
 have ih0 := impl_rounds.mono_l k
 unfold impl_rounds.f
 repeat' first
   | (with_reducible exact ih0 _ _)
   | (with_reducible exact impl_round.mono _ _ _)
   | (with_reducible exact LeO.refl _)
   | (with_reducible exact LeO.none _)
   | (with_reducible refine LeO.ite ?_ ?_)
   | (with_reducible refine LeO.bind ?_ (fun _ => ?_))
   | exact ih0 _ _
   | exact impl_round.mono _ _ _
   | exact LeO.none _
   | refine LeO.ite ?_ ?_
   | refine LeO.bind ?_ (fun _ => ?_)
set_option maxHeartbeats 8000000 in
set_option maxRecDepth 100000 in
theorem impl_rounds.calls (k : Nat) (a0 : ByteArray) (a1 : ByteArray) (r1 : ByteArray) (r2 : ByteArray) (w : World) (h : impl_rounds.f k a0 a1 = some (r1, r2)) :
  Calls Try.prog 36 #[.string a0, .string a1] w fun e w' => e = .returned (.tuple #[.string r1, .string r2]) ∧ Below w.heap.size w w' := by
 have HB := Aside0.mk (Below.refl w.heap.size w)
 have H : (impl_rounds.l0 k a0 a1) = some (r1, r2) := h
 clear h
 have H' := Aside0.mk H
 clear H
 go_enter Try.func36, Try.ntmps36
 go_wp2
 go_loopg [0, 1] k (fun kq v0 v1 w' => ∃ (x0_1 : ByteArray) (x1_1 : ByteArray), v0 = .string x0_1 ∧ v1 = .string x1_1 ∧ Aside0 (impl_rounds.l0 kq x0_1 x1_1 = some (r1, r2)) ∧ Aside0 (kq ≤ k) ∧ Aside0 (Below w.heap.size w w'))
 case atStart => exact ⟨(a0), (a1), (by first | rfl | (simp; done) | (simp [*]; done)), (by first | rfl | (simp; done) | (simp [*]; done)), H', ⟨Nat.le_refl _⟩, ⟨by repeat (first | (with_reducible first | exact HB.out | apply below_alloc | apply pw_below_drewN | apply below_drew1) | exact HB.out)⟩⟩
 case round =>
  clear H'
  try clear p2
  obtain ⟨x0_1, x1_1, rfl, rfl, HA, HK1, HB⟩ := hrel
  cases gk with
  | zero => exact absurd HA.out (by simp [impl_rounds.l0])
  | succ k1 =>
   have H := HA.out
   clear HA
   simp only [impl_rounds.l0] at H
   by_cases c3 : (x1_1.size : Int) ≥ 64
   ·
    rw [if_pos c3] at H
    have c3b0 : decide (64 ≤ (x1_1.size : Int)) = true := decide_eq_true c3
    have c3b1 : decide (64 ≤ x1_1.size) = true := decide_eq_true (by omega)
    clear c3
    by_cases c4 : 0 ≤ 64
    ·
     rw [if_pos c4] at H
     have c4b0 := eq_true c4
     have c4b1 : decide (0 ≤ 64) = true := decide_eq_true c4
     clear c4
     by_cases c5 : 64 ≤ (x1_1.size : Int)
     ·
      rw [if_pos c5] at H
      have c5b0 := eq_true c5
      have c5b1 : decide (64 ≤ (x1_1.size : Int)) = true := decide_eq_true c5
      clear c5
      replace H := Option.bind_eq_some_iff.mp H
      obtain ⟨t217, A60, H⟩ := H
      replace H : (impl_rounds.l0 k1 t217 (x1_1.extract 64 x1_1.size)) = some (r1, r2) := H
      have A6 := Aside0.mk A60
      clear A60
      have c7b0 := eq_true (of_decide_eq_true (by first | (with_reducible assumption) | assumption) : 64 ≤ (x1_1.size : Int))
      have H' := Aside0.mk H
      clear H
      go_wp2_with (first | ((with_reducible refine gate_callee (f := 69) rfl ?_); refine goesL_ (some 12) rfl rfl Try.func69 (by kernel_rfl) rfl #[.string x0_1, .string (x1_1.extract 0 64)] rfl (by (try simp only [List.map_toArray, List.map_cons, List.map_nil]); first | done | rfl | (simp only [List.length_drop, List.length_take]; rfl)) ?_; (with_reducible refine (impl_round.calls k1 x0_1 (x1_1.extract 0 64) t217 _ A6.out).mono ?_); rintro e w8 ⟨rfl, hb⟩; refine ⟨_, rfl, ?_⟩; have n0_ := Aside0.mk (below_step (by repeat (first | (with_reducible first | exact HB.out | apply below_alloc | apply pw_below_drewN | apply below_drew1) | exact HB.out)) hb); clear HB; have HB := n0_; clear n0_; (try clear hb); (try clear hb2); (try clear hk); (try clear hi)))
      go_roundg k1
      case measure => have := HK1.out; omega
      case rel => exact ⟨(t217), (x1_1.extract 64 x1_1.size), (by first | rfl | (simp; done) | (simp [*]; done)), (by first | rfl | (simp; done) | (simp [*]; done)), H', ⟨by have := HK1.out; omega⟩, ⟨by repeat (first | (with_reducible first | exact HB.out | apply below_alloc | apply pw_below_drewN | apply below_drew1) | exact HB.out)⟩⟩
     ·
      rw [if_neg c5] at H
      exact absurd H (by simp)
    ·
     rw [if_neg c4] at H
     exact absurd H (by simp)
   ·
    rw [if_neg c3] at H
    have c3b0 : decide (64 ≤ (x1_1.size : Int)) = false := decide_eq_false c3
    have c3b1 : decide (64 ≤ x1_1.size) = false := decide_eq_false (by omega)
    clear c3
    simp only [Option.some.injEq, Prod.mk.injEq] at H
    obtain ⟨rfl, rfl⟩ := H
    go_wp2
    go_ret2
    exact ⟨by first | rfl | (simp [errW_none, errW_some] <;> rfl) | (simp [*, errW_none, errW_some] <;> rfl), by repeat (first | (with_reducible first | exact HB.out | apply below_alloc | apply pw_below_drewN | apply below_drew1) | exact HB.out)⟩
def strings_Repeat.f (a0 : ByteArray) (a1 : Int) : Option ByteArray := if 0 ≤ a1 ∧ a1 ≤ 9223372036854775807 ∧ a0.size * a1.toNat ≤ 140737488355328 then some ⟨(Lib.repeatL a0.data.toList a1.toNat).toArray⟩ else none
theorem strings_Repeat.calls (a0 : ByteArray) (a1 : Int) (r : ByteArray) (w : World) (h : strings_Repeat.f a0 a1 = some r) :
  Calls Try.prog 72 #[.string a0, .int .i64 a1] w fun e w' => e = .returned (.string r) ∧ Below w.heap.size w w' := by
 unfold strings_Repeat.f at h
 by_cases hc : 0 ≤ a1 ∧ a1 ≤ 9223372036854775807 ∧ a0.size * a1.toNat ≤ 140737488355328
 case neg => rw [if_neg hc] at h; cases h
 rw [if_pos hc] at h
 obtain rfl := Option.some.inj h
 obtain ⟨c, rfl⟩ := Int.eq_ofNat_of_zero_le hc.1
 rw [Int.toNat_natCast] at hc ⊢
 exact Try.strings_Repeat a0 c w (by omega) hc.2.2
def impl_padding.f (a0 : Int) : Option (ByteArray) := (strings_Repeat.f (⟨#[0]⟩ : ByteArray) (Int.tmod (wrap64 (119 - (Int.tmod a0 64))) 64)).bind fun t218 => (if 1 + t218.size ≤ 9223372036854775807 then ((impl_NumberText.f ((wrap64 (8 * a0)) / 4294967296)).bind fun t219 => (if ((⟨#[128]⟩ : ByteArray) ++ t218).size + t219.size ≤ 9223372036854775807 then ((impl_NumberText.f (Go.bits .and .i64 (wrap64 (8 * a0)) 4294967295)).bind fun t220 => (if (((⟨#[128]⟩ : ByteArray) ++ t218) ++ t219).size + t220.size ≤ 9223372036854775807 then (some ((((⟨#[128]⟩ : ByteArray) ++ t218) ++ t219) ++ t220)) else (none))) else (none))) else (none))
set_option maxHeartbeats 8000000 in
set_option maxRecDepth 100000 in
theorem impl_padding.calls (a0 : Int) (r : ByteArray) (w : World) (h : impl_padding.f a0 = some r) :
  Calls Try.prog 43 #[.int .i64 a0] w fun e w' => e = .returned (.string r) ∧ Below w.heap.size w w' := by
 have HB := Aside0.mk (Below.refl w.heap.size w)
 have H : ((strings_Repeat.f (⟨#[0]⟩ : ByteArray) (Int.tmod (wrap64 (119 - (Int.tmod a0 64))) 64)).bind fun t218 => (if 1 + t218.size ≤ 9223372036854775807 then ((impl_NumberText.f ((wrap64 (8 * a0)) / 4294967296)).bind fun t219 => (if ((⟨#[128]⟩ : ByteArray) ++ t218).size + t219.size ≤ 9223372036854775807 then ((impl_NumberText.f (Go.bits .and .i64 (wrap64 (8 * a0)) 4294967295)).bind fun t220 => (if (((⟨#[128]⟩ : ByteArray) ++ t218) ++ t219).size + t220.size ≤ 9223372036854775807 then (some ((((⟨#[128]⟩ : ByteArray) ++ t218) ++ t219) ++ t220)) else (none))) else (none))) else (none))) = some r := h
 clear h
 replace H := Option.bind_eq_some_iff.mp H
 obtain ⟨t218, A20, H⟩ := H
 replace H : (if 1 + t218.size ≤ 9223372036854775807 then ((impl_NumberText.f ((wrap64 (8 * a0)) / 4294967296)).bind fun t219 => (if ((⟨#[128]⟩ : ByteArray) ++ t218).size + t219.size ≤ 9223372036854775807 then ((impl_NumberText.f (Go.bits .and .i64 (wrap64 (8 * a0)) 4294967295)).bind fun t220 => (if (((⟨#[128]⟩ : ByteArray) ++ t218) ++ t219).size + t220.size ≤ 9223372036854775807 then (some ((((⟨#[128]⟩ : ByteArray) ++ t218) ++ t219) ++ t220)) else (none))) else (none))) else (none)) = some r := H
 have A2 := Aside0.mk A20
 clear A20
 by_cases c3 : 1 + t218.size ≤ 9223372036854775807
 ·
  rw [if_pos c3] at H
  have c3b0 := eq_true c3
  have c3b1 : decide (1 + t218.size ≤ 9223372036854775807) = true := decide_eq_true c3
  try have c3b2 : (9223372036854775807 < 1 + t218.size) = False := eq_false (Nat.not_lt.2 c3)
  replace H := Option.bind_eq_some_iff.mp H
  obtain ⟨t219, A40, H⟩ := H
  replace H : (if ((⟨#[128]⟩ : ByteArray) ++ t218).size + t219.size ≤ 9223372036854775807 then ((impl_NumberText.f (Go.bits .and .i64 (wrap64 (8 * a0)) 4294967295)).bind fun t220 => (if (((⟨#[128]⟩ : ByteArray) ++ t218) ++ t219).size + t220.size ≤ 9223372036854775807 then (some ((((⟨#[128]⟩ : ByteArray) ++ t218) ++ t219) ++ t220)) else (none))) else (none)) = some r := H
  have A4 := Aside0.mk A40
  clear A40
  by_cases c5 : ((⟨#[128]⟩ : ByteArray) ++ t218).size + t219.size ≤ 9223372036854775807
  ·
   rw [if_pos c5] at H
   have c5b0 := eq_true c5
   have c5b1 : decide (((⟨#[128]⟩ : ByteArray) ++ t218).size + t219.size ≤ 9223372036854775807) = true := decide_eq_true c5
   try (have c5b9 := c5; simp only [ByteArray.size_append, (show (⟨#[128]⟩ : ByteArray).size = 1 from rfl)] at c5b9; have c5b8 := eq_false (Nat.not_lt.2 c5b9))
   try have c5b2 : (9223372036854775807 < ((⟨#[128]⟩ : ByteArray) ++ t218).size + t219.size) = False := eq_false (Nat.not_lt.2 c5)
   replace H := Option.bind_eq_some_iff.mp H
   obtain ⟨t220, A60, H⟩ := H
   replace H : (if (((⟨#[128]⟩ : ByteArray) ++ t218) ++ t219).size + t220.size ≤ 9223372036854775807 then (some ((((⟨#[128]⟩ : ByteArray) ++ t218) ++ t219) ++ t220)) else (none)) = some r := H
   have A6 := Aside0.mk A60
   clear A60
   by_cases c7 : (((⟨#[128]⟩ : ByteArray) ++ t218) ++ t219).size + t220.size ≤ 9223372036854775807
   ·
    rw [if_pos c7] at H
    have c7b0 := eq_true c7
    have c7b1 : decide ((((⟨#[128]⟩ : ByteArray) ++ t218) ++ t219).size + t220.size ≤ 9223372036854775807) = true := decide_eq_true c7
    try (have c7b9 := c7; simp only [ByteArray.size_append, (show (⟨#[128]⟩ : ByteArray).size = 1 from rfl)] at c7b9; have c7b8 := eq_false (Nat.not_lt.2 c7b9))
    try have c7b2 : (9223372036854775807 < (((⟨#[128]⟩ : ByteArray) ++ t218) ++ t219).size + t220.size) = False := eq_false (Nat.not_lt.2 c7)
    obtain rfl := Option.some.inj H
    go_enter Try.func43, Try.ntmps43
    go_wp2_with (first | ((with_reducible refine gate_callee (f := 72) rfl ?_); refine goesL_ (some 9) rfl rfl Try.func72 (by kernel_rfl) rfl #[.string (⟨#[0]⟩ : ByteArray), .int .i64 (Int.tmod (wrap64 (119 - (Int.tmod a0 64))) 64)] rfl (by (try simp only [List.map_toArray, List.map_cons, List.map_nil]); first | done | rfl | (simp only [List.length_drop, List.length_take]; rfl)) ?_; (with_reducible refine (strings_Repeat.calls (⟨#[0]⟩ : ByteArray) (Int.tmod (wrap64 (119 - (Int.tmod a0 64))) 64) t218 _ A2.out).mono ?_); rintro e w8 ⟨rfl, hb⟩; refine ⟨_, rfl, ?_⟩; have n0_ := Aside0.mk (below_step (by repeat (first | (with_reducible first | exact HB.out | apply below_alloc | apply pw_below_drewN | apply below_drew1) | exact HB.out)) hb); clear HB; have HB := n0_; clear n0_; (try clear hb); (try clear hb2); (try clear hk); (try clear hi)) | ((with_reducible refine gate_callee (f := 47) rfl ?_); refine goesL_ (some 14) rfl rfl Try.func47 (by kernel_rfl) rfl #[.int .i64 ((wrap64 (8 * a0)) / 4294967296)] rfl (by (try simp only [List.map_toArray, List.map_cons, List.map_nil]); first | done | rfl | (simp only [List.length_drop, List.length_take]; rfl)) ?_; (with_reducible refine (impl_NumberText.calls ((wrap64 (8 * a0)) / 4294967296) t219 _ A4.out).mono ?_); rintro e w9 ⟨rfl, hb⟩; refine ⟨_, rfl, ?_⟩; have n0_ := Aside0.mk (below_step (by repeat (first | (with_reducible first | exact HB.out | apply below_alloc | apply pw_below_drewN | apply below_drew1) | exact HB.out)) hb); clear HB; have HB := n0_; clear n0_; (try clear hb); (try clear hb2); (try clear hk); (try clear hi)) | ((with_reducible refine gate_callee (f := 47) rfl ?_); refine goesL_ (some 19) rfl rfl Try.func47 (by kernel_rfl) rfl #[.int .i64 (Go.bits .and .i64 (wrap64 (8 * a0)) 4294967295)] rfl (by (try simp only [List.map_toArray, List.map_cons, List.map_nil]); first | done | rfl | (simp only [List.length_drop, List.length_take]; rfl)) ?_; (with_reducible refine (impl_NumberText.calls (Go.bits .and .i64 (wrap64 (8 * a0)) 4294967295) t220 _ A6.out).mono ?_); rintro e w10 ⟨rfl, hb⟩; refine ⟨_, rfl, ?_⟩; have n0_ := Aside0.mk (below_step (by repeat (first | (with_reducible first | exact HB.out | apply below_alloc | apply pw_below_drewN | apply below_drew1) | exact HB.out)) hb); clear HB; have HB := n0_; clear n0_; (try clear hb); (try clear hb2); (try clear hk); (try clear hi)))
    go_ret
    exact ⟨by first | rfl | (simp [errW_none, errW_some] <;> rfl) | (simp [*, errW_none, errW_some] <;> rfl), by repeat (first | (with_reducible first | exact HB.out | apply below_alloc | apply pw_below_drewN | apply below_drew1) | exact HB.out)⟩
   ·
    rw [if_neg c7] at H
    exact absurd H (by simp)
  ·
   rw [if_neg c5] at H
   exact absurd H (by simp)
 ·
  rw [if_neg c3] at H
  exact absurd H (by simp)
def impl_firstState.f (k : Nat)  : Option (ByteArray) := (impl_wordsText.f k (([1779033703, 3144134277, 1013904242, 2773480762, 1359893119, 2600822924, 528734635, 1541459225] : List Int))).bind fun t224 => (some t224)
theorem impl_firstState.mono : ∀ k, LeO (impl_firstState.f k ) (impl_firstState.f (k + 1) ) := by
 intro  k
 unfold impl_firstState.f
 repeat' first
   | (with_reducible exact impl_wordsText.mono _ _)
   | (with_reducible exact LeO.refl _)
   | (with_reducible exact LeO.none _)
   | (with_reducible refine LeO.ite ?_ ?_)
   | (with_reducible refine LeO.bind ?_ (fun _ => ?_))
   | exact impl_wordsText.mono _ _
   | exact LeO.none _
   | refine LeO.ite ?_ ?_
   | refine LeO.bind ?_ (fun _ => ?_)
set_option maxHeartbeats 8000000 in
set_option maxRecDepth 100000 in
theorem impl_firstState.calls (k : Nat)  (r : ByteArray) (w : World) (h : impl_firstState.f k  = some r) :
  Calls Try.prog 91 #[] w fun e w' => e = .returned (.string r) ∧ Below w.heap.size w w' := by
 have HB := Aside0.mk (Below.refl w.heap.size w)
 have H : ((impl_wordsText.f k (([1779033703, 3144134277, 1013904242, 2773480762, 1359893119, 2600822924, 528734635, 1541459225] : List Int))).bind fun t224 => (some t224)) = some r := h
 clear h
 obtain ⟨y221, hy221⟩ : ∃ y_ : List Int, y_ = (([1779033703, 3144134277, 1013904242, 2773480762, 1359893119, 2600822924, 528734635, 1541459225] : List Int)) := ⟨_, rfl⟩
 replace H : ((impl_wordsText.f k y221).bind fun t224 => (some t224)) = some r := by first | (rw [hy221]; with_reducible exact H) | (have H2_ := (Option.bind_some _ _).symm.trans H; rw [hy221]; with_reducible exact H2_) | (have H2_ := (Option.bind_some _ _).symm.trans H; with_reducible exact H2_) | with_reducible exact H | (rw [hy221]; exact H) | exact H
 have Ny221 := Aside0.mk hy221
 clear hy221
 replace H := Option.bind_eq_some_iff.mp H
 obtain ⟨t224, A10, H⟩ := H
 replace H : (some t224) = some r := H
 have A1 := Aside0.mk A10
 clear A10
 obtain rfl := Option.some.inj H
 go_enter Try.func91, Try.ntmps91
 go_wp2_with (first | ((with_reducible refine gate_dst (N := 1) rfl ?_); refine Kd.R_lit (Kd.int .i64) _ 3 ?hg (N := 1) ?hd (xs := ([1779033703, 3144134277, 1013904242, 2773480762, 1359893119, 2600822924, 528734635, 1541459225] : List Int)) (inner := [.int .i64 1779033703, .int .i64 3144134277, .int .i64 1013904242, .int .i64 2773480762, .int .i64 1359893119, .int .i64 2600822924, .int .i64 528734635, .int .i64 1541459225]) (ok := fun _ => True) (okp := fun _ => True) ?hr ?hp (fun _ hk => hk) trivial (Below.refl _ _) (Nat.le_refl _) (by simp) ?_; (case hd => rfl); (case hg => rfl); (case hr => first | (go_simp; done) | (go_simp; rfl)); (case hp => exact (Reps.one (show Kd.M (Kd.int .i64) _ _ _ 1779033703 [.int .i64 1779033703] from rfl) (Reps.one (show Kd.M (Kd.int .i64) _ _ _ 3144134277 [.int .i64 3144134277] from rfl) (Reps.one (show Kd.M (Kd.int .i64) _ _ _ 1013904242 [.int .i64 1013904242] from rfl) (Reps.one (show Kd.M (Kd.int .i64) _ _ _ 2773480762 [.int .i64 2773480762] from rfl) (Reps.one (show Kd.M (Kd.int .i64) _ _ _ 1359893119 [.int .i64 1359893119] from rfl) (Reps.one (show Kd.M (Kd.int .i64) _ _ _ 2600822924 [.int .i64 2600822924] from rfl) (Reps.one (show Kd.M (Kd.int .i64) _ _ _ 528734635 [.int .i64 528734635] from rfl) (Reps.one (show Kd.M (Kd.int .i64) _ _ _ 1541459225 [.int .i64 1541459225] from rfl) (Reps.none _ _)))))))))); intro v222 w2 ho3 hb hg_ hnew_; clear hg_ hnew_; (first | rw [← Ny221.out] at ho3 | (simp only [Int.reduceToNat] at ho3; rw [← Ny221.out] at ho3)); have n0_ := Aside0.mk (Kd.R_lower ho3 (below_size (by repeat (first | (with_reducible first | exact HB.out | apply below_alloc | apply pw_below_drewN | apply below_drew1) | exact HB.out)))); have n1_ := Aside0.mk (below_step (by repeat (first | (with_reducible first | exact HB.out | apply below_alloc | apply pw_below_drewN | apply below_drew1) | exact HB.out)) hb); clear HB; have HO223 := n0_; have HB := n1_; clear n0_ n1_; clear hb ho3; obtain ⟨Ao4, co4, eo4⟩ := Kd.R_slice HO223.out; subst eo4) | ((with_reducible refine gate_callee (f := 83) rfl ?_); refine goesL_ (some 2) rfl rfl Try.func83 (by kernel_rfl) rfl #[.slice Ao4 y221.length co4] rfl (by (try simp only [List.map_toArray, List.map_cons, List.map_nil]); first | done | rfl | (simp only [List.length_drop, List.length_take]; rfl)) ?_; (with_reducible refine (impl_wordsText.calls k _ _ y221 t224 _ ?side1 ?side2 A1.out).mono ?_); (case side1 => repeat (first | exact (Kd.R_reads' HO223.out).2.2 | (with_reducible refine Kd.C_alloc ?_ _) | (with_reducible refine Kd.C_drewN ?_ _) | (with_reducible refine Kd.C_drew ?_))); (case side2 => exact (Kd.R_reads' HO223.out).2.1); rintro e w5 ⟨rfl, hb⟩; refine ⟨_, rfl, ?_⟩; have n0_ := Aside0.mk (Kd.R_below (by (with_reducible repeat (first | apply Kd.R_alloc | apply Kd.R_drewN | apply Kd.R_drew)); exact HO223.out) hb); have n1_ := Aside0.mk (below_step (by repeat (first | (with_reducible first | exact HB.out | apply below_alloc | apply pw_below_drewN | apply below_drew1) | exact HB.out)) hb); clear HO223; clear HB; have HO223 := n0_; have HB := n1_; clear n0_ n1_; (try clear hb); (try clear hb2); (try clear hk); (try clear hi)))
 go_ret
 exact ⟨by first | rfl | (simp [errW_none, errW_some] <;> rfl) | (simp [*, errW_none, errW_some] <;> rfl), by repeat (first | (with_reducible first | exact HB.out | apply below_alloc | apply pw_below_drewN | apply below_drew1) | exact HB.out)⟩
def impl_DigestOf.f (k : Nat) (a0 : ByteArray) : Option (ByteArray) := (impl_firstState.f k).bind fun t225 => ((impl_padding.f (a0.size : Int)).bind fun t226 => (if a0.size + t226.size ≤ 9223372036854775807 then ((impl_rounds.f k t225 (a0 ++ t226)).bind fun bt227 => (some bt227.1)) else (none)))
theorem impl_DigestOf.mono : ∀ a0 k, LeO (impl_DigestOf.f k a0) (impl_DigestOf.f (k + 1) a0) := by
 intro a0 k
 unfold impl_DigestOf.f
 repeat' first
   | (with_reducible exact impl_firstState.mono _)
   | (with_reducible exact impl_rounds.mono _ _ _)
   | (with_reducible exact LeO.refl _)
   | (with_reducible exact LeO.none _)
   | (with_reducible refine LeO.ite ?_ ?_)
   | (with_reducible refine LeO.bind ?_ (fun _ => ?_))
   | exact impl_firstState.mono _
   | exact impl_rounds.mono _ _ _
   | exact LeO.none _
   | refine LeO.ite ?_ ?_
   | refine LeO.bind ?_ (fun _ => ?_)
set_option maxHeartbeats 8000000 in
set_option maxRecDepth 100000 in
theorem impl_DigestOf.calls (k : Nat) (a0 : ByteArray) (r : ByteArray) (w : World) (h : impl_DigestOf.f k a0 = some r) :
  Calls Try.prog 73 #[.string a0] w fun e w' => e = .returned (.string r) ∧ Below w.heap.size w w' := by
 have HB := Aside0.mk (Below.refl w.heap.size w)
 have H : ((impl_firstState.f k).bind fun t225 => ((impl_padding.f (a0.size : Int)).bind fun t226 => (if a0.size + t226.size ≤ 9223372036854775807 then ((impl_rounds.f k t225 (a0 ++ t226)).bind fun bt227 => (some bt227.1)) else (none)))) = some r := h
 clear h
 replace H := Option.bind_eq_some_iff.mp H
 obtain ⟨t225, A20, H⟩ := H
 replace H : ((impl_padding.f (a0.size : Int)).bind fun t226 => (if a0.size + t226.size ≤ 9223372036854775807 then ((impl_rounds.f k t225 (a0 ++ t226)).bind fun bt227 => (some bt227.1)) else (none))) = some r := H
 have A2 := Aside0.mk A20
 clear A20
 replace H := Option.bind_eq_some_iff.mp H
 obtain ⟨t226, A30, H⟩ := H
 replace H : (if a0.size + t226.size ≤ 9223372036854775807 then ((impl_rounds.f k t225 (a0 ++ t226)).bind fun bt227 => (some bt227.1)) else (none)) = some r := H
 have A3 := Aside0.mk A30
 clear A30
 by_cases c4 : a0.size + t226.size ≤ 9223372036854775807
 ·
  rw [if_pos c4] at H
  have c4b0 := eq_true c4
  have c4b1 : decide (a0.size + t226.size ≤ 9223372036854775807) = true := decide_eq_true c4
  try have c4b2 : (9223372036854775807 < a0.size + t226.size) = False := eq_false (Nat.not_lt.2 c4)
  replace H := Option.bind_eq_some_iff.mp H
  obtain ⟨⟨t227, t228⟩, A50, H⟩ := H
  replace H : (some t227) = some r := H
  have A5 := Aside0.mk A50
  clear A50
  obtain rfl := Option.some.inj H
  go_enter Try.func73, Try.ntmps73
  go_wp2_with (first | ((with_reducible refine gate_callee (f := 91) rfl ?_); refine goesL_ (some 6) rfl rfl Try.func91 (by kernel_rfl) rfl #[] rfl (by (try simp only [List.map_toArray, List.map_cons, List.map_nil]); first | done | rfl | (simp only [List.length_drop, List.length_take]; rfl)) ?_; (with_reducible refine (impl_firstState.calls k  t225 _ A2.out).mono ?_); rintro e w6 ⟨rfl, hb⟩; refine ⟨_, rfl, ?_⟩; have n0_ := Aside0.mk (below_step (by repeat (first | (with_reducible first | exact HB.out | apply below_alloc | apply pw_below_drewN | apply below_drew1) | exact HB.out)) hb); clear HB; have HB := n0_; clear n0_; (try clear hb); (try clear hb2); (try clear hk); (try clear hi)) | ((with_reducible refine gate_callee (f := 43) rfl ?_); refine goesL_ (some 10) rfl rfl Try.func43 (by kernel_rfl) rfl #[.int .i64 (a0.size : Int)] rfl (by (try simp only [List.map_toArray, List.map_cons, List.map_nil]); first | done | rfl | (simp only [List.length_drop, List.length_take]; rfl)) ?_; (with_reducible refine (impl_padding.calls (a0.size : Int) t226 _ A3.out).mono ?_); rintro e w7 ⟨rfl, hb⟩; refine ⟨_, rfl, ?_⟩; have n0_ := Aside0.mk (below_step (by repeat (first | (with_reducible first | exact HB.out | apply below_alloc | apply pw_below_drewN | apply below_drew1) | exact HB.out)) hb); clear HB; have HB := n0_; clear n0_; (try clear hb); (try clear hb2); (try clear hk); (try clear hi)) | ((with_reducible refine gate_callee (f := 36) rfl ?_); refine goesL_ (some 12) rfl rfl Try.func36 (by kernel_rfl) rfl #[.string t225, .string (a0 ++ t226)] rfl (by (try simp only [List.map_toArray, List.map_cons, List.map_nil]); first | done | rfl | (simp only [List.length_drop, List.length_take]; rfl)) ?_; (with_reducible refine (impl_rounds.calls k t225 (a0 ++ t226) t227 t228 _ A5.out).mono ?_); rintro e w8 ⟨rfl, hb⟩; refine ⟨_, rfl, ?_⟩; have n0_ := Aside0.mk (below_step (by repeat (first | (with_reducible first | exact HB.out | apply below_alloc | apply pw_below_drewN | apply below_drew1) | exact HB.out)) hb); clear HB; have HB := n0_; clear n0_; (try clear hb); (try clear hb2); (try clear hk); (try clear hi)))
  go_ret
  exact ⟨by first | rfl | (simp [errW_none, errW_some] <;> rfl) | (simp [*, errW_none, errW_some] <;> rfl), by repeat (first | (with_reducible first | exact HB.out | apply below_alloc | apply pw_below_drewN | apply below_drew1) | exact HB.out)⟩
 ·
  rw [if_neg c4] at H
  exact absurd H (by simp)
def impl_digestNumber.f (k : Nat) (a0 : ByteArray) : Option (Int) := (impl_DigestOf.f k a0).bind fun t229 => (if 0 ≤ 4 then (if 4 ≤ (t229.size : Int) then ((impl_ReadNumber.f (t229.extract 0 4)).bind fun bt230 => (some bt230.1)) else (none)) else (none))
theorem impl_digestNumber.mono : ∀ a0 k, LeO (impl_digestNumber.f k a0) (impl_digestNumber.f (k + 1) a0) := by
 intro a0 k
 unfold impl_digestNumber.f
 repeat' first
   | (with_reducible exact impl_DigestOf.mono _ _)
   | (with_reducible exact LeO.refl _)
   | (with_reducible exact LeO.none _)
   | (with_reducible refine LeO.ite ?_ ?_)
   | (with_reducible refine LeO.bind ?_ (fun _ => ?_))
   | exact impl_DigestOf.mono _ _
   | exact LeO.none _
   | refine LeO.ite ?_ ?_
   | refine LeO.bind ?_ (fun _ => ?_)
set_option maxHeartbeats 8000000 in
set_option maxRecDepth 100000 in
theorem impl_digestNumber.calls (k : Nat) (a0 : ByteArray) (r : Int) (w : World) (h : impl_digestNumber.f k a0 = some r) :
  Calls Try.prog 44 #[.string a0] w fun e w' => e = .returned (.int .i64 r) ∧ Below w.heap.size w w' := by
 have HB := Aside0.mk (Below.refl w.heap.size w)
 have H : ((impl_DigestOf.f k a0).bind fun t229 => (if 0 ≤ 4 then (if 4 ≤ (t229.size : Int) then ((impl_ReadNumber.f (t229.extract 0 4)).bind fun bt230 => (some bt230.1)) else (none)) else (none))) = some r := h
 clear h
 replace H := Option.bind_eq_some_iff.mp H
 obtain ⟨t229, A20, H⟩ := H
 replace H : (if 0 ≤ 4 then (if 4 ≤ (t229.size : Int) then ((impl_ReadNumber.f (t229.extract 0 4)).bind fun bt230 => (some bt230.1)) else (none)) else (none)) = some r := H
 have A2 := Aside0.mk A20
 clear A20
 by_cases c3 : 0 ≤ 4
 ·
  rw [if_pos c3] at H
  have c3b0 := eq_true c3
  have c3b1 : decide (0 ≤ 4) = true := decide_eq_true c3
  clear c3
  by_cases c4 : 4 ≤ (t229.size : Int)
  ·
   rw [if_pos c4] at H
   have c4b0 := eq_true c4
   have c4b1 : decide (4 ≤ (t229.size : Int)) = true := decide_eq_true c4
   clear c4
   replace H := Option.bind_eq_some_iff.mp H
   obtain ⟨⟨t230, t231⟩, A50, H⟩ := H
   replace H : (some t230) = some r := H
   have A5 := Aside0.mk A50
   clear A50
   obtain rfl := Option.some.inj H
   go_enter Try.func44, Try.ntmps44
   go_wp2_with (first | ((with_reducible refine gate_callee (f := 73) rfl ?_); refine goesL_ (some 7) rfl rfl Try.func73 (by kernel_rfl) rfl #[.string a0] rfl (by (try simp only [List.map_toArray, List.map_cons, List.map_nil]); first | done | rfl | (simp only [List.length_drop, List.length_take]; rfl)) ?_; (with_reducible refine (impl_DigestOf.calls k a0 t229 _ A2.out).mono ?_); rintro e w6 ⟨rfl, hb⟩; refine ⟨_, rfl, ?_⟩; have n0_ := Aside0.mk (below_step (by repeat (first | (with_reducible first | exact HB.out | apply below_alloc | apply pw_below_drewN | apply below_drew1) | exact HB.out)) hb); clear HB; have HB := n0_; clear n0_; (try clear hb); (try clear hb2); (try clear hk); (try clear hi)) | ((with_reducible refine gate_callee (f := 49) rfl ?_); refine goesL_ (some 9) rfl rfl Try.func49 (by kernel_rfl) rfl #[.string (t229.extract 0 4)] rfl (by (try simp only [List.map_toArray, List.map_cons, List.map_nil]); first | done | rfl | (simp only [List.length_drop, List.length_take]; rfl)) ?_; (with_reducible refine (impl_ReadNumber.calls (t229.extract 0 4) t230 t231 _ A5.out).mono ?_); rintro e w' ⟨rfl, ⟨nd, rfl⟩⟩; refine ⟨_, rfl, ?_⟩))
   go_ret
   exact ⟨by first | rfl | (simp [errW_none, errW_some] <;> rfl) | (simp [*, errW_none, errW_some] <;> rfl), by repeat (first | (with_reducible first | exact HB.out | apply below_alloc | apply pw_below_drewN | apply below_drew1) | exact HB.out)⟩
  ·
   rw [if_neg c4] at H
   exact absurd H (by simp)
 ·
  rw [if_neg c3] at H
  exact absurd H (by simp)
def impl_SecretOf.f (k : Nat) (a0 : ByteArray) : Option (Int) := if a0.size + 1 ≤ 9223372036854775807 then ((impl_digestNumber.f k (a0 ++ (⟨#[115]⟩ : ByteArray))).bind fun t232 => (some (wrap64 (1 + (Int.tmod t232 1073741788))))) else (none)
theorem impl_SecretOf.mono : ∀ a0 k, LeO (impl_SecretOf.f k a0) (impl_SecretOf.f (k + 1) a0) := by
 intro a0 k
 unfold impl_SecretOf.f
 repeat' first
   | (with_reducible exact impl_digestNumber.mono _ _)
   | (with_reducible exact LeO.refl _)
   | (with_reducible exact LeO.none _)
   | (with_reducible refine LeO.ite ?_ ?_)
   | (with_reducible refine LeO.bind ?_ (fun _ => ?_))
   | exact impl_digestNumber.mono _ _
   | exact LeO.none _
   | refine LeO.ite ?_ ?_
   | refine LeO.bind ?_ (fun _ => ?_)
set_option maxHeartbeats 8000000 in
set_option maxRecDepth 100000 in
theorem impl_SecretOf.calls (k : Nat) (a0 : ByteArray) (r : Int) (w : World) (h : impl_SecretOf.f k a0 = some r) :
  Calls Try.prog 15 #[.string a0] w fun e w' => e = .returned (.int .i64 r) ∧ Below w.heap.size w w' := by
 have HB := Aside0.mk (Below.refl w.heap.size w)
 have H : (if a0.size + 1 ≤ 9223372036854775807 then ((impl_digestNumber.f k (a0 ++ (⟨#[115]⟩ : ByteArray))).bind fun t232 => (some (wrap64 (1 + (Int.tmod t232 1073741788))))) else (none)) = some r := h
 clear h
 by_cases c2 : a0.size + 1 ≤ 9223372036854775807
 ·
  rw [if_pos c2] at H
  have c2b0 := eq_true c2
  have c2b1 : decide (a0.size + 1 ≤ 9223372036854775807) = true := decide_eq_true c2
  try have c2b2 : (9223372036854775807 < a0.size + 1) = False := eq_false (Nat.not_lt.2 c2)
  replace H := Option.bind_eq_some_iff.mp H
  obtain ⟨t232, A30, H⟩ := H
  replace H : (some (wrap64 (1 + (Int.tmod t232 1073741788)))) = some r := H
  have A3 := Aside0.mk A30
  clear A30
  obtain rfl := Option.some.inj H
  go_enter Try.func15, Try.ntmps15
  go_wp2_with (first | ((with_reducible refine gate_callee (f := 44) rfl ?_); refine goesL_ (some 5) rfl rfl Try.func44 (by kernel_rfl) rfl #[.string (a0 ++ (⟨#[115]⟩ : ByteArray))] rfl (by (try simp only [List.map_toArray, List.map_cons, List.map_nil]); first | done | rfl | (simp only [List.length_drop, List.length_take]; rfl)) ?_; (with_reducible refine (impl_digestNumber.calls k (a0 ++ (⟨#[115]⟩ : ByteArray)) t232 _ A3.out).mono ?_); rintro e w4 ⟨rfl, hb⟩; refine ⟨_, rfl, ?_⟩; have n0_ := Aside0.mk (below_step (by repeat (first | (with_reducible first | exact HB.out | apply below_alloc | apply pw_below_drewN | apply below_drew1) | exact HB.out)) hb); clear HB; have HB := n0_; clear n0_; (try clear hb); (try clear hb2); (try clear hk); (try clear hi)))
  go_ret
  exact ⟨by first | rfl | (simp [errW_none, errW_some] <;> rfl) | (simp [*, errW_none, errW_some] <;> rfl), by repeat (first | (with_reducible first | exact HB.out | apply below_alloc | apply pw_below_drewN | apply below_drew1) | exact HB.out)⟩
 ·
  rw [if_neg c2] at H
  exact absurd H (by simp)
def impl_secretOk.f (a0 : Int) : Option (Bool) := (impl_within.f a0 1 1073741788).bind fun t233 => (some t233)
set_option maxHeartbeats 8000000 in
set_option maxRecDepth 100000 in
theorem impl_secretOk.calls (a0 : Int) (r : Bool) (w : World) (h : impl_secretOk.f a0 = some r) :
  Calls Try.prog 45 #[.int .i64 a0] w fun e w' => e = .returned (.bool r) ∧ Drawn0 w w' := by
 have H : ((impl_within.f a0 1 1073741788).bind fun t233 => (some t233)) = some r := h
 clear h
 replace H := Option.bind_eq_some_iff.mp H
 obtain ⟨t233, A20, H⟩ := H
 replace H : (some t233) = some r := H
 have A2 := Aside0.mk A20
 clear A20
 obtain rfl := Option.some.inj H
 go_enter Try.func45, Try.ntmps45
 go_wp2_with (first | ((with_reducible refine gate_callee (f := 41) rfl ?_); refine goesL_ (some 4) rfl rfl Try.func41 (by kernel_rfl) rfl #[.int .i64 a0, .int .i64 1, .int .i64 1073741788] rfl (by (try simp only [List.map_toArray, List.map_cons, List.map_nil]); first | done | rfl | (simp only [List.length_drop, List.length_take]; rfl)) ?_; (with_reducible refine (impl_within.calls a0 1 1073741788 t233 _ A2.out).mono ?_); rintro e w' ⟨rfl, ⟨nd, rfl⟩⟩; refine ⟨_, rfl, ?_⟩))
 go_ret
 exact ⟨by first | rfl | (simp; done) | (simp [*]; done), by repeat (first | exact Drawn0.refl _ | apply Drawn0.step)⟩
def impl_inPrime.f (a0 : Int) : Option (Int) := some (Int.tmod (wrap64 ((Int.tmod a0 2147483579) + 2147483579)) 2147483579)
set_option maxHeartbeats 8000000 in
set_option maxRecDepth 100000 in
theorem impl_inPrime.calls (a0 : Int) (r : Int) (w : World) (h : impl_inPrime.f a0 = some r) :
  Calls Try.prog 74 #[.int .i64 a0] w fun e w' => e = .returned (.int .i64 r) ∧ Drawn0 w w' := by
 have H : (some (Int.tmod (wrap64 ((Int.tmod a0 2147483579) + 2147483579)) 2147483579)) = some r := h
 clear h
 obtain rfl := Option.some.inj H
 go_enter Try.func74, Try.ntmps74
 go_wp2
 go_ret
 exact ⟨by first | rfl | (simp; done) | (simp [*]; done), by repeat (first | exact Drawn0.refl _ | apply Drawn0.step)⟩
end Go.Proofs.Ytmjmnmcpfpbkeaa.PFnSigns
