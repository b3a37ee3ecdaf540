-- Written by this session's program wip/myprint.py, after the kit's print.
import Derived.Test.YtgepaoikhfofmaaPFnLocksx0
import Derived.Test.YtgepaoikhfofmaaPFnLocksx5
import Derived.Test.YtgepaoikhfofmaaPFnLocksx8
import Derived.Test.YtgepaoikhfofmaaPFnLocksx9
import Derived.Test.YtgepaoikhfofmaaPFnLocksx10
import Derived.Test.YtgepaoikhfofmaaPFnLocksx11
import Derived.Test.YtgepaoikhfofmaaPFnLocksx12
namespace Go.Proofs.Ytgepaoikhfofmaa.PFnLocks
open Go.RowKit Go.Proofs.YtgepaoikhfofmaaW.PrintWords Go.Proofs.YtgepaoikhfofmaaW.PrintLast Go.Proofs.YtgepaoikhfofmaaW.PrintMore
attribute [local go_sem] max2_int min2_int max_two min_two max_three min_three max_four min_four   -- for this text's walks alone
set_option linter.unusedVariables false
set_option linter.unusedSimpArgs false
def laws_FnLocks.j0 : Nat → List Int → ByteArray → Bool → Option (Bool)
 | 0, _, _, _ => none
 | k + 1, x0, x3, x76 => if x76 = true then (some false) else ((spec_DrawOpenText.f k x0).bind fun bt505 => ((impl_OpenText.f k bt505.1 bt505.2.1 bt505.2.2).bind fun bt508 => ((spec_OpenText.f k bt505.1 bt505.2.1 bt505.2.2).bind fun bt510 => ((impl_LockText.f k bt505.1 bt505.2.1 bt508.1).bind fun bt512 => ((impl_Mask.f k x3 3 40).bind fun bt514 => ((impl_Mask.f k x3 3 70).bind fun bt516 => (if (bt508.2 == bt510.2) = true then (if bt508.2 = true then (if bt512.1.toList = bt505.2.2.toList then (if bt514.2 = true then (if bt516.2 = true then ((laws_begins.f bt514.1 bt516.1).bind fun t518 => (if t518 = true then (some ((bt516.1.size : Int) == 70)) else (some false))) else (some false)) else (some false)) else (some false)) else (if bt514.2 = true then (if bt516.2 = true then ((laws_begins.f bt514.1 bt516.1).bind fun t519 => (if t519 = true then (some ((bt516.1.size : Int) == 70)) else (some false))) else (some false)) else (some false))) else (some false))))))))
def laws_FnLocks.f (k : Nat) (l0 : List Int) : Option (Bool) := (laws_big.f l0).bind fun t495 => (if t495 = true then (some true) else ((spec_DrawLockText.f k l0).bind fun bt496 => ((impl_LockText.f k bt496.1 bt496.2.1 bt496.2.2).bind fun bt499 => ((impl_OpenText.f k bt496.1 bt496.2.1 bt499.1).bind fun bt501 => ((spec_LockText.f k bt496.1 bt496.2.1 bt496.2.2).bind fun bt503 => (if (bt499.2 != bt503.2) = true then (laws_FnLocks.j0 k l0 bt496.1 true) else (if bt499.2 = true then (if bt501.2 = true then (if bt501.1.toList = bt496.2.2.toList then (laws_FnLocks.j0 k l0 bt496.1 ((bt499.1.size : Int) != (wrap64 ((bt496.2.2.size : Int) + 16)))) else (laws_FnLocks.j0 k l0 bt496.1 true)) else (laws_FnLocks.j0 k l0 bt496.1 true)) else (laws_FnLocks.j0 k l0 bt496.1 false))))))))
theorem laws_FnLocks.mono_l : ∀ k, (∀ y0 y1 y2, LeO (laws_FnLocks.j0 k y0 y1 y2) (laws_FnLocks.j0 (k + 1) y0 y1 y2))
 | 0 => fun _ _ _ r h => by simp [laws_FnLocks.j0] at h
 | k + 1 => by
  have ih0 := laws_FnLocks.mono_l k
  ·
   intro y0 y1 y2
   unfold laws_FnLocks.j0
   repeat' first
   | (with_reducible exact ih0 _ _ _)
   | (with_reducible exact impl_LockText.mono _ _ _ _)
   | (with_reducible exact impl_Mask.mono _ _ _ _)
   | (with_reducible exact impl_OpenText.mono _ _ _ _)
   | (with_reducible exact spec_DrawLockText.mono _ _)
   | (with_reducible exact spec_DrawOpenText.mono _ _)
   | (with_reducible exact spec_LockText.mono _ _ _ _)
   | (with_reducible exact spec_OpenText.mono _ _ _ _)
   | (with_reducible exact LeO.refl _)
   | (with_reducible exact LeO.none _)
   | (with_reducible refine LeO.ite ?_ ?_)
   | (with_reducible refine LeO.bind ?_ (fun _ => ?_))
   | exact ih0 _ _ _
   | exact impl_LockText.mono _ _ _ _
   | exact impl_Mask.mono _ _ _ _
   | exact impl_OpenText.mono _ _ _ _
   | exact spec_DrawLockText.mono _ _
   | exact spec_DrawOpenText.mono _ _
   | exact spec_LockText.mono _ _ _ _
   | exact spec_OpenText.mono _ _ _ _
   | exact LeO.none _
   | refine LeO.ite ?_ ?_
   | refine LeO.bind ?_ (fun _ => ?_)
theorem laws_FnLocks.mono : ∀ a0 k, LeO (laws_FnLocks.f k a0) (laws_FnLocks.f (k + 1) a0) := by
 intro a0 k
 have ih0 := laws_FnLocks.mono_l k
 unfold laws_FnLocks.f
 repeat' first
   | (with_reducible exact ih0 _ _ _)
   | (with_reducible exact impl_LockText.mono _ _ _ _)
   | (with_reducible exact impl_Mask.mono _ _ _ _)
   | (with_reducible exact impl_OpenText.mono _ _ _ _)
   | (with_reducible exact spec_DrawLockText.mono _ _)
   | (with_reducible exact spec_DrawOpenText.mono _ _)
   | (with_reducible exact spec_LockText.mono _ _ _ _)
   | (with_reducible exact spec_OpenText.mono _ _ _ _)
   | (with_reducible exact LeO.refl _)
   | (with_reducible exact LeO.none _)
   | (with_reducible refine LeO.ite ?_ ?_)
   | (with_reducible refine LeO.bind ?_ (fun _ => ?_))
   | exact ih0 _ _ _
   | exact impl_LockText.mono _ _ _ _
   | exact impl_Mask.mono _ _ _ _
   | exact impl_OpenText.mono _ _ _ _
   | exact spec_DrawLockText.mono _ _
   | exact spec_DrawOpenText.mono _ _
   | exact spec_LockText.mono _ _ _ _
   | exact spec_OpenText.mono _ _ _ _
   | exact LeO.none _
   | refine LeO.ite ?_ ?_
   | refine LeO.bind ?_ (fun _ => ?_)
set_option maxHeartbeats 8000000 in
set_option maxRecDepth 100000 in
theorem laws_FnLocks.calls (k : Nat) (A0 : Option Addr) (c0 : Nat) (l0 : List Int) (r : Bool) (w : World) (hr0 : Kd.C (Kd.int .u8) w A0 l0.length l0) (hc0 : l0.length ≤ c0) (h : laws_FnLocks.f k l0 = some r) (hr_ : Aside0 (r = true)) :
  Calls Try.prog 5 #[.slice A0 l0.length c0] w fun e w' => e = .returned (.bool r) ∧ Below w.heap.size w w' := by
 have HR0 := Aside0.mk hr0
 have HC0 := Aside0.mk hc0
 clear hr0 hc0
 have HB := Aside0.mk (Below.refl w.heap.size w)
 have H : ((laws_big.f l0).bind fun t495 => (if t495 = true then (some true) else ((spec_DrawLockText.f k l0).bind fun bt496 => ((impl_LockText.f k bt496.1 bt496.2.1 bt496.2.2).bind fun bt499 => ((impl_OpenText.f k bt496.1 bt496.2.1 bt499.1).bind fun bt501 => ((spec_LockText.f k bt496.1 bt496.2.1 bt496.2.2).bind fun bt503 => (if (bt499.2 != bt503.2) = true then (laws_FnLocks.j0 k l0 bt496.1 true) else (if bt499.2 = true then (if bt501.2 = true then (if bt501.1.toList = bt496.2.2.toList then (laws_FnLocks.j0 k l0 bt496.1 ((bt499.1.size : Int) != (wrap64 ((bt496.2.2.size : Int) + 16)))) else (laws_FnLocks.j0 k l0 bt496.1 true)) else (laws_FnLocks.j0 k l0 bt496.1 true)) else (laws_FnLocks.j0 k l0 bt496.1 false))))))))) = some r := h
 clear h
 replace H := Option.bind_eq_some_iff.mp H
 obtain ⟨t495, A20, H⟩ := H
 replace H : (if t495 = true then (some true) else ((spec_DrawLockText.f k l0).bind fun bt496 => ((impl_LockText.f k bt496.1 bt496.2.1 bt496.2.2).bind fun bt499 => ((impl_OpenText.f k bt496.1 bt496.2.1 bt499.1).bind fun bt501 => ((spec_LockText.f k bt496.1 bt496.2.1 bt496.2.2).bind fun bt503 => (if (bt499.2 != bt503.2) = true then (laws_FnLocks.j0 k l0 bt496.1 true) else (if bt499.2 = true then (if bt501.2 = true then (if bt501.1.toList = bt496.2.2.toList then (laws_FnLocks.j0 k l0 bt496.1 ((bt499.1.size : Int) != (wrap64 ((bt496.2.2.size : Int) + 16)))) else (laws_FnLocks.j0 k l0 bt496.1 true)) else (laws_FnLocks.j0 k l0 bt496.1 true)) else (laws_FnLocks.j0 k l0 bt496.1 false)))))))) = some r := H
 have A2 := Aside0.mk A20
 clear A20
 by_cases c3 : t495 = true
 ·
  subst c3
  have H1 : (some true) = some r := by rw [if_pos rfl] at H; exact H
  clear H
  have H := H1
  clear H1
  obtain rfl := Option.some.inj H
  go_enter Try.func5, Try.ntmps5
  go_wp2_with (first | ((with_reducible refine gate_callee (f := 11) rfl ?_); refine goesL_ (some 26) rfl rfl Try.func11 (by kernel_rfl) rfl #[.slice A0 l0.length c0] rfl (by (try simp only [List.map_toArray, List.map_cons, List.map_nil]); first | done | rfl | (simp only [List.length_drop, List.length_take]; rfl)) ?_; (with_reducible refine (laws_big.calls _ _ l0 true _ ?side1 ?side2 A2.out).mono ?_); (case side1 => repeat (first | exact HR0.out | (with_reducible refine Kd.C_alloc ?_ _) | (with_reducible refine Kd.C_drewN ?_ _) | (with_reducible refine Kd.C_drew ?_))); (case side2 => exact HC0.out); rintro e w' ⟨rfl, ⟨nd, rfl⟩⟩; refine ⟨_, rfl, ?_⟩))
  go_ret
  exact ⟨by first | rfl | (simp [errW_none, errW_some] <;> rfl) | (simp [*, errW_none, errW_some] <;> rfl), by repeat (first | (with_reducible first | exact HB.out | apply below_alloc | apply pw_below_drewN | apply below_drew1) | exact HB.out)⟩
 ·
  replace c3 := Bool.eq_false_iff.mpr c3
  subst c3
  have H1 : ((spec_DrawLockText.f k l0).bind fun bt496 => ((impl_LockText.f k bt496.1 bt496.2.1 bt496.2.2).bind fun bt499 => ((impl_OpenText.f k bt496.1 bt496.2.1 bt499.1).bind fun bt501 => ((spec_LockText.f k bt496.1 bt496.2.1 bt496.2.2).bind fun bt503 => (if (bt499.2 != bt503.2) = true then (laws_FnLocks.j0 k l0 bt496.1 true) else (if bt499.2 = true then (if bt501.2 = true then (if bt501.1.toList = bt496.2.2.toList then (laws_FnLocks.j0 k l0 bt496.1 ((bt499.1.size : Int) != (wrap64 ((bt496.2.2.size : Int) + 16)))) else (laws_FnLocks.j0 k l0 bt496.1 true)) else (laws_FnLocks.j0 k l0 bt496.1 true)) else (laws_FnLocks.j0 k l0 bt496.1 false))))))) = some r := by rw [if_neg (show ¬ (false = true) by decide)] at H; exact H
  clear H
  have H := H1
  clear H1
  replace H := Option.bind_eq_some_iff.mp H
  obtain ⟨⟨t496, t497, t498⟩, A40, H⟩ := H
  replace H : ((impl_LockText.f k t496 t497 t498).bind fun bt499 => ((impl_OpenText.f k t496 t497 bt499.1).bind fun bt501 => ((spec_LockText.f k t496 t497 t498).bind fun bt503 => (if (bt499.2 != bt503.2) = true then (laws_FnLocks.j0 k l0 t496 true) else (if bt499.2 = true then (if bt501.2 = true then (if bt501.1.toList = t498.toList then (laws_FnLocks.j0 k l0 t496 ((bt499.1.size : Int) != (wrap64 ((t498.size : Int) + 16)))) else (laws_FnLocks.j0 k l0 t496 true)) else (laws_FnLocks.j0 k l0 t496 true)) else (laws_FnLocks.j0 k l0 t496 false)))))) = some r := H
  have A4 := Aside0.mk A40
  clear A40
  replace H := Option.bind_eq_some_iff.mp H
  obtain ⟨⟨t499, t500⟩, A50, H⟩ := H
  replace H : ((impl_OpenText.f k t496 t497 t499).bind fun bt501 => ((spec_LockText.f k t496 t497 t498).bind fun bt503 => (if (t500 != bt503.2) = true then (laws_FnLocks.j0 k l0 t496 true) else (if t500 = true then (if bt501.2 = true then (if bt501.1.toList = t498.toList then (laws_FnLocks.j0 k l0 t496 ((t499.size : Int) != (wrap64 ((t498.size : Int) + 16)))) else (laws_FnLocks.j0 k l0 t496 true)) else (laws_FnLocks.j0 k l0 t496 true)) else (laws_FnLocks.j0 k l0 t496 false))))) = some r := H
  have A5 := Aside0.mk A50
  clear A50
  replace H := Option.bind_eq_some_iff.mp H
  obtain ⟨⟨t501, t502⟩, A60, H⟩ := H
  replace H : ((spec_LockText.f k t496 t497 t498).bind fun bt503 => (if (t500 != bt503.2) = true then (laws_FnLocks.j0 k l0 t496 true) else (if t500 = true then (if t502 = true then (if t501.toList = t498.toList then (laws_FnLocks.j0 k l0 t496 ((t499.size : Int) != (wrap64 ((t498.size : Int) + 16)))) else (laws_FnLocks.j0 k l0 t496 true)) else (laws_FnLocks.j0 k l0 t496 true)) else (laws_FnLocks.j0 k l0 t496 false)))) = some r := H
  have A6 := Aside0.mk A60
  clear A60
  replace H := Option.bind_eq_some_iff.mp H
  obtain ⟨⟨t503, t504⟩, A70, H⟩ := H
  replace H : (if (t500 != t504) = true then (laws_FnLocks.j0 k l0 t496 true) else (if t500 = true then (if t502 = true then (if t501.toList = t498.toList then (laws_FnLocks.j0 k l0 t496 ((t499.size : Int) != (wrap64 ((t498.size : Int) + 16)))) else (laws_FnLocks.j0 k l0 t496 true)) else (laws_FnLocks.j0 k l0 t496 true)) else (laws_FnLocks.j0 k l0 t496 false))) = some r := H
  have A7 := Aside0.mk A70
  clear A70
  have HC8 := Aside0.mk H
  clear H
  go_enter Try.func5, Try.ntmps5
  go_upto_region 7 with (first | ((with_reducible refine gate_callee (f := 11) rfl ?_); refine goesL_ (some 26) rfl rfl Try.func11 (by kernel_rfl) rfl #[.slice A0 l0.length c0] rfl (by (try simp only [List.map_toArray, List.map_cons, List.map_nil]); first | done | rfl | (simp only [List.length_drop, List.length_take]; rfl)) ?_; (with_reducible refine (laws_big.calls _ _ l0 false _ ?side1 ?side2 A2.out).mono ?_); (case side1 => repeat (first | exact HR0.out | (with_reducible refine Kd.C_alloc ?_ _) | (with_reducible refine Kd.C_drewN ?_ _) | (with_reducible refine Kd.C_drew ?_))); (case side2 => exact HC0.out); rintro e w' ⟨rfl, ⟨nd, rfl⟩⟩; refine ⟨_, rfl, ?_⟩) | ((with_reducible refine gate_callee (f := 12) rfl ?_); refine goesL_ (some 29) rfl rfl Try.func12 (by kernel_rfl) rfl #[.slice A0 l0.length c0] rfl (by (try simp only [List.map_toArray, List.map_cons, List.map_nil]); first | done | rfl | (simp only [List.length_drop, List.length_take]; rfl)) ?_; (with_reducible refine (spec_DrawLockText.calls k _ _ l0 t496 t497 t498 _ ?side1 ?side2 A4.out).mono ?_); (case side1 => repeat (first | exact HR0.out | (with_reducible refine Kd.C_alloc ?_ _) | (with_reducible refine Kd.C_drewN ?_ _) | (with_reducible refine Kd.C_drew ?_))); (case side2 => exact HC0.out); rintro e w9 ⟨rfl, hb⟩; refine ⟨_, rfl, ?_⟩; have n0_ := Aside0.mk (below_step (by repeat (first | (with_reducible first | exact HB.out | apply below_alloc | apply pw_below_drewN | apply below_drew1) | exact HB.out)) hb); clear HB; have HB := n0_; clear n0_; (try clear hb); (try clear hb2); (try clear hk); (try clear hi)) | ((with_reducible refine gate_callee (f := 8) rfl ?_); refine goesL_ (some 37) rfl rfl Try.func8 (by kernel_rfl) rfl #[.string t496, .int .i64 t497, .string t498] rfl (by (try simp only [List.map_toArray, List.map_cons, List.map_nil]); first | done | rfl | (simp only [List.length_drop, List.length_take]; rfl)) ?_; (with_reducible refine (impl_LockText.calls k t496 t497 t498 t499 t500 _ A5.out).mono ?_); rintro e w10 ⟨rfl, hb⟩; refine ⟨_, rfl, ?_⟩; have n0_ := Aside0.mk (below_step (by repeat (first | (with_reducible first | exact HB.out | apply below_alloc | apply pw_below_drewN | apply below_drew1) | exact HB.out)) hb); clear HB; have HB := n0_; clear n0_; (try clear hb); (try clear hb2); (try clear hk); (try clear hi)) | ((with_reducible refine gate_callee (f := 10) rfl ?_); refine goesL_ (some 44) rfl rfl Try.func10 (by kernel_rfl) rfl #[.string t496, .int .i64 t497, .string t499] rfl (by (try simp only [List.map_toArray, List.map_cons, List.map_nil]); first | done | rfl | (simp only [List.length_drop, List.length_take]; rfl)) ?_; (with_reducible refine (impl_OpenText.calls k t496 t497 t499 t501 t502 _ A6.out).mono ?_); rintro e w11 ⟨rfl, hb⟩; refine ⟨_, rfl, ?_⟩; have n0_ := Aside0.mk (below_step (by repeat (first | (with_reducible first | exact HB.out | apply below_alloc | apply pw_below_drewN | apply below_drew1) | exact HB.out)) hb); clear HB; have HB := n0_; clear n0_; (try clear hb); (try clear hb2); (try clear hk); (try clear hi)) | ((with_reducible refine gate_callee (f := 7) rfl ?_); refine goesL_ (some 51) rfl rfl Try.func7 (by kernel_rfl) rfl #[.string t496, .int .i64 t497, .string t498] rfl (by (try simp only [List.map_toArray, List.map_cons, List.map_nil]); first | done | rfl | (simp only [List.length_drop, List.length_take]; rfl)) ?_; (with_reducible refine (spec_LockText.calls k t496 t497 t498 t503 t504 _ A7.out).mono ?_); rintro e w12 ⟨rfl, hb⟩; refine ⟨_, rfl, ?_⟩; have n0_ := Aside0.mk (below_step (by repeat (first | (with_reducible first | exact HB.out | apply below_alloc | apply pw_below_drewN | apply below_drew1) | exact HB.out)) hb); clear HB; have HB := n0_; clear n0_; (try clear hb); (try clear hb2); (try clear hk); (try clear hi)))
  (try simp only [Act.put, List.setIfInBounds_toArray, List.set_cons_zero, List.set_cons_succ])
  go_cut [76] (fun v76 wc => ∃ (kq : Nat) (x76_7 : Bool), v76 = .bool x76_7 ∧ Aside0 (laws_FnLocks.j0 kq l0 t496 x76_7 = some r) ∧ Aside0 (kq ≤ k) ∧ Aside0 (Below w.heap.size w wc))
  case first =>
   have H := HC8.out
   clear HC8
   by_cases c13 : (t500 != t504) = true
   ·
    rw [if_pos c13] at H
    have c13b0 : (t500 != t504) = true := c13
    (try (have c13b1 : decide (t500 = t504) = false := by simpa using c13))
    (try (have c13b2 : (t500 == t504) = false := by simpa using c13))
    (try (have c13b3 : ¬ (t500 = t504) := by simpa using c13))
    clear c13
    (first | rw [c13b0] | (simp only [i64_w, i32_w]; rw [c13b0]) | skip)
    have H' := Aside0.mk H
    clear H
    go_wp2
    go_meet
    case rel => exact ⟨_, (true), (by first | rfl | (simp; done) | (simp [*]; done)), H', ⟨by first | omega | exact Nat.le_refl _⟩, ⟨by repeat (first | (with_reducible first | exact HB.out | apply below_alloc | apply pw_below_drewN | apply below_drew1) | exact HB.out)⟩⟩
   ·
    rw [if_neg c13] at H
    have c13b0 : (t500 != t504) = false := by simpa using c13
    (try (have c13b1 : decide (t500 = t504) = true := by simpa using c13))
    (try (have c13b2 : (t500 == t504) = true := by simpa using c13))
    clear c13
    (first | rw [c13b0] | (simp only [i64_w, i32_w]; rw [c13b0]) | skip)
    by_cases c14 : t500 = true
    ·
     subst c14
     have H1 : (if t502 = true then (if t501.toList = t498.toList then (laws_FnLocks.j0 k l0 t496 ((t499.size : Int) != (wrap64 ((t498.size : Int) + 16)))) else (laws_FnLocks.j0 k l0 t496 true)) else (laws_FnLocks.j0 k l0 t496 true)) = some r := by rw [if_pos rfl] at H; exact H
     clear H
     have H := H1
     clear H1
     by_cases c15 : t502 = true
     ·
      subst c15
      have H1 : (if t501.toList = t498.toList then (laws_FnLocks.j0 k l0 t496 ((t499.size : Int) != (wrap64 ((t498.size : Int) + 16)))) else (laws_FnLocks.j0 k l0 t496 true)) = some r := by rw [if_pos rfl] at H; exact H
      clear H
      have H := H1
      clear H1
      by_cases c16 : t501.toList = t498.toList
      ·
       rw [if_pos c16] at H
       have c16b0 : (t501.toList == t498.toList) = true := beq_iff_eq.mpr c16
       have c16b1 : (t501.toList != t498.toList) = false := bne_eq_false_iff_eq.mpr c16
       clear c16
       have H' := Aside0.mk H
       clear H
       go_wp2
       go_meet
       case rel => exact ⟨_, (((t499.size : Int) != (wrap64 ((t498.size : Int) + 16)))), (by first | rfl | (simp; done) | (simp [*]; done)), H', ⟨by first | omega | exact Nat.le_refl _⟩, ⟨by repeat (first | (with_reducible first | exact HB.out | apply below_alloc | apply pw_below_drewN | apply below_drew1) | exact HB.out)⟩⟩
      ·
       rw [if_neg c16] at H
       have c16b0 : (t501.toList == t498.toList) = false := beq_eq_false_iff_ne.mpr c16
       have c16b1 : (t501.toList != t498.toList) = true := bne_iff_ne.mpr c16
       have H' := Aside0.mk H
       clear H
       go_wp2
       go_meet
       case rel => exact ⟨_, (true), (by first | rfl | (simp; done) | (simp [*]; done)), H', ⟨by first | omega | exact Nat.le_refl _⟩, ⟨by repeat (first | (with_reducible first | exact HB.out | apply below_alloc | apply pw_below_drewN | apply below_drew1) | exact HB.out)⟩⟩
     ·
      replace c15 := Bool.eq_false_iff.mpr c15
      subst c15
      have H1 : (laws_FnLocks.j0 k l0 t496 true) = some r := by rw [if_neg (show ¬ (false = true) by decide)] at H; exact H
      clear H
      have H := H1
      clear H1
      have H' := Aside0.mk H
      clear H
      go_wp2
      go_meet
      case rel => exact ⟨_, (true), (by first | rfl | (simp; done) | (simp [*]; done)), H', ⟨by first | omega | exact Nat.le_refl _⟩, ⟨by repeat (first | (with_reducible first | exact HB.out | apply below_alloc | apply pw_below_drewN | apply below_drew1) | exact HB.out)⟩⟩
    ·
     replace c14 := Bool.eq_false_iff.mpr c14
     subst c14
     have H1 : (laws_FnLocks.j0 k l0 t496 false) = some r := by rw [if_neg (show ¬ (false = true) by decide)] at H; exact H
     clear H
     have H := H1
     clear H1
     have H' := Aside0.mk H
     clear H
     go_wp2
     go_meet
     case rel => exact ⟨_, (false), (by first | rfl | (simp; done) | (simp [*]; done)), H', ⟨by first | omega | exact Nat.le_refl _⟩, ⟨by repeat (first | (with_reducible first | exact HB.out | apply below_alloc | apply pw_below_drewN | apply below_drew1) | exact HB.out)⟩⟩
  case rest =>
   clear HC8
   try clear c1; try clear p2; try clear c3; try clear c5; try clear p6; try clear c7; try clear c8; try clear c10; try clear c11; try clear c12; try clear c13; try clear c13b0; try clear c13b1; try clear c13b2; try clear c14; try clear c15; try clear c16; try clear c16b0; try clear c16b1
   obtain ⟨kq, x76_7, rfl, HA, HJ7, HB⟩ := hcut
   cases kq with
   | zero => exact absurd HA.out (by simp [laws_FnLocks.j0])
   | succ kj7 =>
    have H := HA.out
    clear HA
    simp only [laws_FnLocks.j0] at H
    by_cases c17 : x76_7 = true
    ·
     subst c17
     have H1 : (some false) = some r := by rw [if_pos rfl] at H; exact H
     clear H
     have H := H1
     clear H1
     obtain rfl := Option.some.inj H
     exact absurd hr_.out (by decide)
    ·
     replace c17 := Bool.eq_false_iff.mpr c17
     subst c17
     have H1 : ((spec_DrawOpenText.f kj7 l0).bind fun bt505 => ((impl_OpenText.f kj7 bt505.1 bt505.2.1 bt505.2.2).bind fun bt508 => ((spec_OpenText.f kj7 bt505.1 bt505.2.1 bt505.2.2).bind fun bt510 => ((impl_LockText.f kj7 bt505.1 bt505.2.1 bt508.1).bind fun bt512 => ((impl_Mask.f kj7 t496 3 40).bind fun bt514 => ((impl_Mask.f kj7 t496 3 70).bind fun bt516 => (if (bt508.2 == bt510.2) = true then (if bt508.2 = true then (if bt512.1.toList = bt505.2.2.toList then (if bt514.2 = true then (if bt516.2 = true then ((laws_begins.f bt514.1 bt516.1).bind fun t518 => (if t518 = true then (some ((bt516.1.size : Int) == 70)) else (some false))) else (some false)) else (some false)) else (some false)) else (if bt514.2 = true then (if bt516.2 = true then ((laws_begins.f bt514.1 bt516.1).bind fun t519 => (if t519 = true then (some ((bt516.1.size : Int) == 70)) else (some false))) else (some false)) else (some false))) else (some false)))))))) = some r := by rw [if_neg (show ¬ (false = true) by decide)] at H; exact H
     clear H
     have H := H1
     clear H1
     replace H := Option.bind_eq_some_iff.mp H
     obtain ⟨⟨t505, t506, t507⟩, A180, H⟩ := H
     replace H : ((impl_OpenText.f kj7 t505 t506 t507).bind fun bt508 => ((spec_OpenText.f kj7 t505 t506 t507).bind fun bt510 => ((impl_LockText.f kj7 t505 t506 bt508.1).bind fun bt512 => ((impl_Mask.f kj7 t496 3 40).bind fun bt514 => ((impl_Mask.f kj7 t496 3 70).bind fun bt516 => (if (bt508.2 == bt510.2) = true then (if bt508.2 = true then (if bt512.1.toList = t507.toList then (if bt514.2 = true then (if bt516.2 = true then ((laws_begins.f bt514.1 bt516.1).bind fun t518 => (if t518 = true then (some ((bt516.1.size : Int) == 70)) else (some false))) else (some false)) else (some false)) else (some false)) else (if bt514.2 = true then (if bt516.2 = true then ((laws_begins.f bt514.1 bt516.1).bind fun t519 => (if t519 = true then (some ((bt516.1.size : Int) == 70)) else (some false))) else (some false)) else (some false))) else (some false))))))) = some r := H
     have A18 := Aside0.mk A180
     clear A180
     replace H := Option.bind_eq_some_iff.mp H
     obtain ⟨⟨t508, t509⟩, A190, H⟩ := H
     replace H : ((spec_OpenText.f kj7 t505 t506 t507).bind fun bt510 => ((impl_LockText.f kj7 t505 t506 t508).bind fun bt512 => ((impl_Mask.f kj7 t496 3 40).bind fun bt514 => ((impl_Mask.f kj7 t496 3 70).bind fun bt516 => (if (t509 == bt510.2) = true then (if t509 = true then (if bt512.1.toList = t507.toList then (if bt514.2 = true then (if bt516.2 = true then ((laws_begins.f bt514.1 bt516.1).bind fun t518 => (if t518 = true then (some ((bt516.1.size : Int) == 70)) else (some false))) else (some false)) else (some false)) else (some false)) else (if bt514.2 = true then (if bt516.2 = true then ((laws_begins.f bt514.1 bt516.1).bind fun t519 => (if t519 = true then (some ((bt516.1.size : Int) == 70)) else (some false))) else (some false)) else (some false))) else (some false)))))) = some r := H
     have A19 := Aside0.mk A190
     clear A190
     replace H := Option.bind_eq_some_iff.mp H
     obtain ⟨⟨t510, t511⟩, A200, H⟩ := H
     replace H : ((impl_LockText.f kj7 t505 t506 t508).bind fun bt512 => ((impl_Mask.f kj7 t496 3 40).bind fun bt514 => ((impl_Mask.f kj7 t496 3 70).bind fun bt516 => (if (t509 == t511) = true then (if t509 = true then (if bt512.1.toList = t507.toList then (if bt514.2 = true then (if bt516.2 = true then ((laws_begins.f bt514.1 bt516.1).bind fun t518 => (if t518 = true then (some ((bt516.1.size : Int) == 70)) else (some false))) else (some false)) else (some false)) else (some false)) else (if bt514.2 = true then (if bt516.2 = true then ((laws_begins.f bt514.1 bt516.1).bind fun t519 => (if t519 = true then (some ((bt516.1.size : Int) == 70)) else (some false))) else (some false)) else (some false))) else (some false))))) = some r := H
     have A20 := Aside0.mk A200
     clear A200
     replace H := Option.bind_eq_some_iff.mp H
     obtain ⟨⟨t512, t513⟩, A210, H⟩ := H
     replace H : ((impl_Mask.f kj7 t496 3 40).bind fun bt514 => ((impl_Mask.f kj7 t496 3 70).bind fun bt516 => (if (t509 == t511) = true then (if t509 = true then (if t512.toList = t507.toList then (if bt514.2 = true then (if bt516.2 = true then ((laws_begins.f bt514.1 bt516.1).bind fun t518 => (if t518 = true then (some ((bt516.1.size : Int) == 70)) else (some false))) else (some false)) else (some false)) else (some false)) else (if bt514.2 = true then (if bt516.2 = true then ((laws_begins.f bt514.1 bt516.1).bind fun t519 => (if t519 = true then (some ((bt516.1.size : Int) == 70)) else (some false))) else (some false)) else (some false))) else (some false)))) = some r := H
     have A21 := Aside0.mk A210
     clear A210
     replace H := Option.bind_eq_some_iff.mp H
     obtain ⟨⟨t514, t515⟩, A220, H⟩ := H
     replace H : ((impl_Mask.f kj7 t496 3 70).bind fun bt516 => (if (t509 == t511) = true then (if t509 = true then (if t512.toList = t507.toList then (if t515 = true then (if bt516.2 = true then ((laws_begins.f t514 bt516.1).bind fun t518 => (if t518 = true then (some ((bt516.1.size : Int) == 70)) else (some false))) else (some false)) else (some false)) else (some false)) else (if t515 = true then (if bt516.2 = true then ((laws_begins.f t514 bt516.1).bind fun t519 => (if t519 = true then (some ((bt516.1.size : Int) == 70)) else (some false))) else (some false)) else (some false))) else (some false))) = some r := H
     have A22 := Aside0.mk A220
     clear A220
     replace H := Option.bind_eq_some_iff.mp H
     obtain ⟨⟨t516, t517⟩, A230, H⟩ := H
     replace H : (if (t509 == t511) = true then (if t509 = true then (if t512.toList = t507.toList then (if t515 = true then (if t517 = true then ((laws_begins.f t514 t516).bind fun t518 => (if t518 = true then (some ((t516.size : Int) == 70)) else (some false))) else (some false)) else (some false)) else (some false)) else (if t515 = true then (if t517 = true then ((laws_begins.f t514 t516).bind fun t519 => (if t519 = true then (some ((t516.size : Int) == 70)) else (some false))) else (some false)) else (some false))) else (some false)) = some r := H
     have A23 := Aside0.mk A230
     clear A230
     by_cases c24 : (t509 == t511) = true
     ·
      rw [if_pos c24] at H
      have c24b0 : (t509 == t511) = true := c24
      (try (have c24b1 : decide (t509 = t511) = true := by simpa using c24))
      (try (have c24b2 : (t509 == t511) = true := by simpa using c24))
      clear c24
      by_cases c25 : t509 = true
      ·
       subst c25
       have H1 : (if t512.toList = t507.toList then (if t515 = true then (if t517 = true then ((laws_begins.f t514 t516).bind fun t518 => (if t518 = true then (some ((t516.size : Int) == 70)) else (some false))) else (some false)) else (some false)) else (some false)) = some r := by rw [if_pos rfl] at H; exact H
       clear H
       have H := H1
       clear H1
       by_cases c26 : t512.toList = t507.toList
       ·
        rw [if_pos c26] at H
        have c26b0 : (t512.toList == t507.toList) = true := beq_iff_eq.mpr c26
        have c26b1 : (t512.toList != t507.toList) = false := bne_eq_false_iff_eq.mpr c26
        clear c26
        by_cases c27 : t515 = true
        ·
         subst c27
         have H1 : (if t517 = true then ((laws_begins.f t514 t516).bind fun t518 => (if t518 = true then (some ((t516.size : Int) == 70)) else (some false))) else (some false)) = some r := by rw [if_pos rfl] at H; exact H
         clear H
         have H := H1
         clear H1
         by_cases c28 : t517 = true
         ·
          subst c28
          have H1 : ((laws_begins.f t514 t516).bind fun t518 => (if t518 = true then (some ((t516.size : Int) == 70)) else (some false))) = some r := by rw [if_pos rfl] at H; exact H
          clear H
          have H := H1
          clear H1
          replace H := Option.bind_eq_some_iff.mp H
          obtain ⟨t518, A290, H⟩ := H
          replace H : (if t518 = true then (some ((t516.size : Int) == 70)) else (some false)) = some r := H
          have A29 := Aside0.mk A290
          clear A290
          by_cases c30 : t518 = true
          ·
           subst c30
           have H1 : (some ((t516.size : Int) == 70)) = some r := by rw [if_pos rfl] at H; exact H
           clear H
           have H := H1
           clear H1
           obtain rfl := Option.some.inj H
           go_wp2_with (first | ((with_reducible refine gate_callee (f := 13) rfl ?_); refine goesL_ (some 79) rfl rfl Try.func13 (by kernel_rfl) rfl #[.slice A0 l0.length c0] rfl (by (try simp only [List.map_toArray, List.map_cons, List.map_nil]); first | done | rfl | (simp only [List.length_drop, List.length_take]; rfl)) ?_; (with_reducible refine (spec_DrawOpenText.calls kj7 _ _ l0 t505 t506 t507 _ ?side1 ?side2 A18.out).mono ?_); (case side1 => repeat (first | exact (Kd.C_below HR0.out HB.out) | (with_reducible refine Kd.C_alloc ?_ _) | (with_reducible refine Kd.C_drewN ?_ _) | (with_reducible refine Kd.C_drew ?_))); (case side2 => exact HC0.out); rintro e w31 ⟨rfl, hb⟩; refine ⟨_, rfl, ?_⟩; have n0_ := Aside0.mk (below_step (by repeat (first | (with_reducible first | exact HB.out | apply below_alloc | apply pw_below_drewN | apply below_drew1) | exact HB.out)) hb); clear HB; have HB := n0_; clear n0_; (try clear hb); (try clear hb2); (try clear hk); (try clear hi)) | ((with_reducible refine gate_callee (f := 10) rfl ?_); refine goesL_ (some 87) rfl rfl Try.func10 (by kernel_rfl) rfl #[.string t505, .int .i64 t506, .string t507] rfl (by (try simp only [List.map_toArray, List.map_cons, List.map_nil]); first | done | rfl | (simp only [List.length_drop, List.length_take]; rfl)) ?_; (with_reducible refine (impl_OpenText.calls kj7 t505 t506 t507 t508 true _ A19.out).mono ?_); rintro e w32 ⟨rfl, hb⟩; refine ⟨_, rfl, ?_⟩; have n0_ := Aside0.mk (below_step (by repeat (first | (with_reducible first | exact HB.out | apply below_alloc | apply pw_below_drewN | apply below_drew1) | exact HB.out)) hb); clear HB; have HB := n0_; clear n0_; (try clear hb); (try clear hb2); (try clear hk); (try clear hi)) | ((with_reducible refine gate_callee (f := 9) rfl ?_); refine goesL_ (some 94) rfl rfl Try.func9 (by kernel_rfl) rfl #[.string t505, .int .i64 t506, .string t507] rfl (by (try simp only [List.map_toArray, List.map_cons, List.map_nil]); first | done | rfl | (simp only [List.length_drop, List.length_take]; rfl)) ?_; (with_reducible refine (spec_OpenText.calls kj7 t505 t506 t507 t510 t511 _ A20.out).mono ?_); rintro e w33 ⟨rfl, hb⟩; refine ⟨_, rfl, ?_⟩; have n0_ := Aside0.mk (below_step (by repeat (first | (with_reducible first | exact HB.out | apply below_alloc | apply pw_below_drewN | apply below_drew1) | exact HB.out)) hb); clear HB; have HB := n0_; clear n0_; (try clear hb); (try clear hb2); (try clear hk); (try clear hi)) | ((with_reducible refine gate_callee (f := 8) rfl ?_); refine goesL_ (some 101) rfl rfl Try.func8 (by kernel_rfl) rfl #[.string t505, .int .i64 t506, .string t508] rfl (by (try simp only [List.map_toArray, List.map_cons, List.map_nil]); first | done | rfl | (simp only [List.length_drop, List.length_take]; rfl)) ?_; (with_reducible refine (impl_LockText.calls kj7 t505 t506 t508 t512 t513 _ A21.out).mono ?_); rintro e w34 ⟨rfl, hb⟩; refine ⟨_, rfl, ?_⟩; have n0_ := Aside0.mk (below_step (by repeat (first | (with_reducible first | exact HB.out | apply below_alloc | apply pw_below_drewN | apply below_drew1) | exact HB.out)) hb); clear HB; have HB := n0_; clear n0_; (try clear hb); (try clear hb2); (try clear hk); (try clear hi)) | ((with_reducible refine gate_callee (f := 14) rfl ?_); refine goesL_ (some 106) rfl rfl Try.func14 (by kernel_rfl) rfl #[.string t496, .int .i64 3, .int .i64 40] rfl (by (try simp only [List.map_toArray, List.map_cons, List.map_nil]); first | done | rfl | (simp only [List.length_drop, List.length_take]; rfl)) ?_; (with_reducible refine (impl_Mask.calls kj7 t496 3 40 t514 true _ A22.out).mono ?_); rintro e w35 ⟨rfl, hb⟩; refine ⟨_, rfl, ?_⟩; have n0_ := Aside0.mk (below_step (by repeat (first | (with_reducible first | exact HB.out | apply below_alloc | apply pw_below_drewN | apply below_drew1) | exact HB.out)) hb); clear HB; have HB := n0_; clear n0_; (try clear hb); (try clear hb2); (try clear hk); (try clear hi)) | ((with_reducible refine gate_callee (f := 14) rfl ?_); refine goesL_ (some 111) rfl rfl Try.func14 (by kernel_rfl) rfl #[.string t496, .int .i64 3, .int .i64 70] rfl (by (try simp only [List.map_toArray, List.map_cons, List.map_nil]); first | done | rfl | (simp only [List.length_drop, List.length_take]; rfl)) ?_; (with_reducible refine (impl_Mask.calls kj7 t496 3 70 t516 true _ A23.out).mono ?_); rintro e w36 ⟨rfl, hb⟩; refine ⟨_, rfl, ?_⟩; have n0_ := Aside0.mk (below_step (by repeat (first | (with_reducible first | exact HB.out | apply below_alloc | apply pw_below_drewN | apply below_drew1) | exact HB.out)) hb); clear HB; have HB := n0_; clear n0_; (try clear hb); (try clear hb2); (try clear hk); (try clear hi)) | (go_at_call 15; (with_reducible refine (laws_begins.calls t514 t516 true _ A29.out).mono ?_); rintro e w' ⟨rfl, ⟨nd, rfl⟩⟩))
           go_ret
           exact ⟨by first | rfl | (simp [errW_none, errW_some] <;> rfl) | (simp [*, errW_none, errW_some] <;> rfl), by repeat (first | (with_reducible first | exact HB.out | apply below_alloc | apply pw_below_drewN | apply below_drew1) | exact HB.out)⟩
          ·
           replace c30 := Bool.eq_false_iff.mpr c30
           subst c30
           have H1 : (some false) = some r := by rw [if_neg (show ¬ (false = true) by decide)] at H; exact H
           clear H
           have H := H1
           clear H1
           obtain rfl := Option.some.inj H
           exact absurd hr_.out (by decide)
         ·
          replace c28 := Bool.eq_false_iff.mpr c28
          subst c28
          have H1 : (some false) = some r := by rw [if_neg (show ¬ (false = true) by decide)] at H; exact H
          clear H
          have H := H1
          clear H1
          obtain rfl := Option.some.inj H
          exact absurd hr_.out (by decide)
        ·
         replace c27 := Bool.eq_false_iff.mpr c27
         subst c27
         have H1 : (some false) = some r := by rw [if_neg (show ¬ (false = true) by decide)] at H; exact H
         clear H
         have H := H1
         clear H1
         obtain rfl := Option.some.inj H
         exact absurd hr_.out (by decide)
       ·
        rw [if_neg c26] at H
        have c26b0 : (t512.toList == t507.toList) = false := beq_eq_false_iff_ne.mpr c26
        have c26b1 : (t512.toList != t507.toList) = true := bne_iff_ne.mpr c26
        obtain rfl := Option.some.inj H
        exact absurd hr_.out (by decide)
      ·
       replace c25 := Bool.eq_false_iff.mpr c25
       subst c25
       have H1 : (if t515 = true then (if t517 = true then ((laws_begins.f t514 t516).bind fun t519 => (if t519 = true then (some ((t516.size : Int) == 70)) else (some false))) else (some false)) else (some false)) = some r := by rw [if_neg (show ¬ (false = true) by decide)] at H; exact H
       clear H
       have H := H1
       clear H1
       by_cases c61 : t515 = true
       ·
        subst c61
        have H1 : (if t517 = true then ((laws_begins.f t514 t516).bind fun t519 => (if t519 = true then (some ((t516.size : Int) == 70)) else (some false))) else (some false)) = some r := by rw [if_pos rfl] at H; exact H
        clear H
        have H := H1
        clear H1
        by_cases c62 : t517 = true
        ·
         subst c62
         have H1 : ((laws_begins.f t514 t516).bind fun t519 => (if t519 = true then (some ((t516.size : Int) == 70)) else (some false))) = some r := by rw [if_pos rfl] at H; exact H
         clear H
         have H := H1
         clear H1
         replace H := Option.bind_eq_some_iff.mp H
         obtain ⟨t519, A630, H⟩ := H
         replace H : (if t519 = true then (some ((t516.size : Int) == 70)) else (some false)) = some r := H
         have A63 := Aside0.mk A630
         clear A630
         by_cases c64 : t519 = true
         ·
          subst c64
          have H1 : (some ((t516.size : Int) == 70)) = some r := by rw [if_pos rfl] at H; exact H
          clear H
          have H := H1
          clear H1
          obtain rfl := Option.some.inj H
          go_wp2_with (first | ((with_reducible refine gate_callee (f := 13) rfl ?_); refine goesL_ (some 79) rfl rfl Try.func13 (by kernel_rfl) rfl #[.slice A0 l0.length c0] rfl (by (try simp only [List.map_toArray, List.map_cons, List.map_nil]); first | done | rfl | (simp only [List.length_drop, List.length_take]; rfl)) ?_; (with_reducible refine (spec_DrawOpenText.calls kj7 _ _ l0 t505 t506 t507 _ ?side1 ?side2 A18.out).mono ?_); (case side1 => repeat (first | exact (Kd.C_below HR0.out HB.out) | (with_reducible refine Kd.C_alloc ?_ _) | (with_reducible refine Kd.C_drewN ?_ _) | (with_reducible refine Kd.C_drew ?_))); (case side2 => exact HC0.out); rintro e w65 ⟨rfl, hb⟩; refine ⟨_, rfl, ?_⟩; have n0_ := Aside0.mk (below_step (by repeat (first | (with_reducible first | exact HB.out | apply below_alloc | apply pw_below_drewN | apply below_drew1) | exact HB.out)) hb); clear HB; have HB := n0_; clear n0_; (try clear hb); (try clear hb2); (try clear hk); (try clear hi)) | ((with_reducible refine gate_callee (f := 10) rfl ?_); refine goesL_ (some 87) rfl rfl Try.func10 (by kernel_rfl) rfl #[.string t505, .int .i64 t506, .string t507] rfl (by (try simp only [List.map_toArray, List.map_cons, List.map_nil]); first | done | rfl | (simp only [List.length_drop, List.length_take]; rfl)) ?_; (with_reducible refine (impl_OpenText.calls kj7 t505 t506 t507 t508 false _ A19.out).mono ?_); rintro e w66 ⟨rfl, hb⟩; refine ⟨_, rfl, ?_⟩; have n0_ := Aside0.mk (below_step (by repeat (first | (with_reducible first | exact HB.out | apply below_alloc | apply pw_below_drewN | apply below_drew1) | exact HB.out)) hb); clear HB; have HB := n0_; clear n0_; (try clear hb); (try clear hb2); (try clear hk); (try clear hi)) | ((with_reducible refine gate_callee (f := 9) rfl ?_); refine goesL_ (some 94) rfl rfl Try.func9 (by kernel_rfl) rfl #[.string t505, .int .i64 t506, .string t507] rfl (by (try simp only [List.map_toArray, List.map_cons, List.map_nil]); first | done | rfl | (simp only [List.length_drop, List.length_take]; rfl)) ?_; (with_reducible refine (spec_OpenText.calls kj7 t505 t506 t507 t510 t511 _ A20.out).mono ?_); rintro e w67 ⟨rfl, hb⟩; refine ⟨_, rfl, ?_⟩; have n0_ := Aside0.mk (below_step (by repeat (first | (with_reducible first | exact HB.out | apply below_alloc | apply pw_below_drewN | apply below_drew1) | exact HB.out)) hb); clear HB; have HB := n0_; clear n0_; (try clear hb); (try clear hb2); (try clear hk); (try clear hi)) | ((with_reducible refine gate_callee (f := 8) rfl ?_); refine goesL_ (some 101) rfl rfl Try.func8 (by kernel_rfl) rfl #[.string t505, .int .i64 t506, .string t508] rfl (by (try simp only [List.map_toArray, List.map_cons, List.map_nil]); first | done | rfl | (simp only [List.length_drop, List.length_take]; rfl)) ?_; (with_reducible refine (impl_LockText.calls kj7 t505 t506 t508 t512 t513 _ A21.out).mono ?_); rintro e w68 ⟨rfl, hb⟩; refine ⟨_, rfl, ?_⟩; have n0_ := Aside0.mk (below_step (by repeat (first | (with_reducible first | exact HB.out | apply below_alloc | apply pw_below_drewN | apply below_drew1) | exact HB.out)) hb); clear HB; have HB := n0_; clear n0_; (try clear hb); (try clear hb2); (try clear hk); (try clear hi)) | ((with_reducible refine gate_callee (f := 14) rfl ?_); refine goesL_ (some 106) rfl rfl Try.func14 (by kernel_rfl) rfl #[.string t496, .int .i64 3, .int .i64 40] rfl (by (try simp only [List.map_toArray, List.map_cons, List.map_nil]); first | done | rfl | (simp only [List.length_drop, List.length_take]; rfl)) ?_; (with_reducible refine (impl_Mask.calls kj7 t496 3 40 t514 true _ A22.out).mono ?_); rintro e w69 ⟨rfl, hb⟩; refine ⟨_, rfl, ?_⟩; have n0_ := Aside0.mk (below_step (by repeat (first | (with_reducible first | exact HB.out | apply below_alloc | apply pw_below_drewN | apply below_drew1) | exact HB.out)) hb); clear HB; have HB := n0_; clear n0_; (try clear hb); (try clear hb2); (try clear hk); (try clear hi)) | ((with_reducible refine gate_callee (f := 14) rfl ?_); refine goesL_ (some 111) rfl rfl Try.func14 (by kernel_rfl) rfl #[.string t496, .int .i64 3, .int .i64 70] rfl (by (try simp only [List.map_toArray, List.map_cons, List.map_nil]); first | done | rfl | (simp only [List.length_drop, List.length_take]; rfl)) ?_; (with_reducible refine (impl_Mask.calls kj7 t496 3 70 t516 true _ A23.out).mono ?_); rintro e w70 ⟨rfl, hb⟩; refine ⟨_, rfl, ?_⟩; have n0_ := Aside0.mk (below_step (by repeat (first | (with_reducible first | exact HB.out | apply below_alloc | apply pw_below_drewN | apply below_drew1) | exact HB.out)) hb); clear HB; have HB := n0_; clear n0_; (try clear hb); (try clear hb2); (try clear hk); (try clear hi)) | (go_at_call 15; (with_reducible refine (laws_begins.calls t514 t516 true _ A63.out).mono ?_); rintro e w' ⟨rfl, ⟨nd, rfl⟩⟩))
          go_ret
          exact ⟨by first | rfl | (simp [errW_none, errW_some] <;> rfl) | (simp [*, errW_none, errW_some] <;> rfl), by repeat (first | (with_reducible first | exact HB.out | apply below_alloc | apply pw_below_drewN | apply below_drew1) | exact HB.out)⟩
         ·
          replace c64 := Bool.eq_false_iff.mpr c64
          subst c64
          have H1 : (some false) = some r := by rw [if_neg (show ¬ (false = true) by decide)] at H; exact H
          clear H
          have H := H1
          clear H1
          obtain rfl := Option.some.inj H
          exact absurd hr_.out (by decide)
        ·
         replace c62 := Bool.eq_false_iff.mpr c62
         subst c62
         have H1 : (some false) = some r := by rw [if_neg (show ¬ (false = true) by decide)] at H; exact H
         clear H
         have H := H1
         clear H1
         obtain rfl := Option.some.inj H
         exact absurd hr_.out (by decide)
       ·
        replace c61 := Bool.eq_false_iff.mpr c61
        subst c61
        have H1 : (some false) = some r := by rw [if_neg (show ¬ (false = true) by decide)] at H; exact H
        clear H
        have H := H1
        clear H1
        obtain rfl := Option.some.inj H
        exact absurd hr_.out (by decide)
     ·
      rw [if_neg c24] at H
      have c24b0 : (t509 == t511) = false := by simpa using c24
      (try (have c24b1 : decide (t509 = t511) = false := by simpa using c24))
      (try (have c24b2 : (t509 == t511) = false := by simpa using c24))
      (try (have c24b3 : ¬ (t509 = t511) := by simpa using c24))
      clear c24
      obtain rfl := Option.some.inj H
      exact absurd hr_.out (by decide)
def laws_FnLocks.Pure : Prop := ∀ (l0 : List Int), l0.length ≤ maxLen → l0.length * 1 ≤ 140737488351232 → (∀ x ∈ l0, (Lit.int .u8 x).wf = true) → ∃ k, laws_FnLocks.f k l0 = some true
theorem laws_FnLocks.walk (P : laws_FnLocks.Pure) (a0 : Option Addr) (len0 cap0 : Nat) (z0 : List Int) (w : World) (w0 : (a0 = none ∧ len0 = 0 ∧ cap0 = 0 ∧ z0 = []) ∨ ∃ x, a0 = some x ∧ len0 ≤ cap0 ∧ cap0 ≤ maxLen ∧ z0.length = cap0 ∧ (∀ i, i < z0.length → w.cell? (x.add i) = some (.int .u8 (z0.getD i 0))) ∧ ∀ n ∈ z0, (Lit.int .u8 n).wf = true) (y0 : len0 * 1 ≤ 140737488351232) :
  Calls Try.prog 5 #[.slice a0 len0 cap0] w fun e w' => e = .returned (.bool true) ∧ Below w.heap.size w w' := by
 obtain ⟨l0, rfl, hr0, hm0, hw0, hc0⟩ := ReadsInt.ofRowC w0
 obtain ⟨k, h⟩ := P l0 hm0 y0 hw0
 refine (laws_FnLocks.calls k _ _ l0 true w (Kd.C_of_reads (d := (0 : Int)) (h1 := fun _ => rfl) hr0) hc0 h ⟨rfl⟩).mono ?_
 rintro e w' ⟨rfl, hd⟩
 exact ⟨rfl, hd⟩
end Go.Proofs.Ytgepaoikhfofmaa.PFnLocks
