-- Written by this session's program wip/myprint.py, after the kit's print.
import Derived.Test.YtmjmnmcpfpbkeabPFnMacsx0
import Derived.Test.YtmjmnmcpfpbkeabPFnMacsx3
import Derived.Test.YtmjmnmcpfpbkeabPFnMacsx4
import Derived.Test.YtmjmnmcpfpbkeabPFnMacsx5
import Derived.Test.YtmjmnmcpfpbkeabPFnMacsx9
namespace Go.Proofs.Ytmjmnmcpfpbkeab.PFnMacs
open Go.RowKit Go.Proofs.YtmjmnmcpfpbkeabW.PrintWords Go.Proofs.YtmjmnmcpfpbkeabW.PrintLast Go.Proofs.YtmjmnmcpfpbkeabW.PrintMore
attribute [local go_sem] max2_int min2_int max_two min_two max_three min_three max_four min_four   -- for this text's walks alone
set_option linter.unusedVariables false
set_option linter.unusedSimpArgs false
def laws_FnMacs.j0 : Nat → List Int → ByteArray → ByteArray → ByteArray → ByteArray → Option (Bool)
 | 0, _, _, _, _, _ => none
 | k + 1, x0, x3, x4, x5, x6 => (spec_DrawPlaces.f k x0).bind fun t391 => (if 0 < (t391.length : Int) then ((impl_Expand.f k x3 x4 (Int.tmod (rd t391 0) 90)).bind fun bt395 => (if 1 < (t391.length : Int) then ((impl_Expand.f k x3 x4 (wrap64 ((Int.tmod (rd t391 0) 90) + (Int.tmod (rd t391 1) 90)))).bind fun bt399 => ((impl_Expand.f k x3 x4 (-1)).bind fun bt401 => (if (x5.size : Int) = 32 then ((spec_MacOf.f k x3 x4).bind fun t403 => (if x5.toList = t403.toList then ((impl_MacOf.f k x6 x4).bind fun t404 => (if x5.toList = t404.toList then (if bt395.2 = true then (if bt399.2 = true then (if bt401.2 = true then (some false) else (if (bt395.1.size : Int) = (Int.tmod (rd t391 0) 90) then ((laws_begins.f bt395.1 bt399.1).bind fun t406 => (if t406 = true then ((impl_SameMac.f x5 x5).bind fun t407 => (if t407 = true then ((laws_turned.f x5 t391).bind fun t408 => ((impl_SameMac.f x5 t408).bind fun t409 => (some (!t409)))) else (some false))) else (some false))) else (some false))) else (some false)) else (some false)) else (some false))) else (some false))) else (some false)))) else (none))) else (none))
def laws_FnMacs.f (k : Nat) (l0 : List Int) : Option (Bool) := (laws_big.f l0).bind fun t386 => (if t386 = true then (some true) else ((spec_DrawMacOf.f k l0).bind fun bt387 => ((impl_MacOf.f k bt387.1 bt387.2).bind fun t389 => (if (bt387.1.size : Int) > 64 then ((impl_DigestOf.f k bt387.1).bind fun t390 => (laws_FnMacs.j0 k l0 bt387.1 bt387.2 t389 t390)) else (laws_FnMacs.j0 k l0 bt387.1 bt387.2 t389 bt387.1)))))
theorem laws_FnMacs.mono_l : ∀ k, (∀ y0 y1 y2 y3 y4, LeO (laws_FnMacs.j0 k y0 y1 y2 y3 y4) (laws_FnMacs.j0 (k + 1) y0 y1 y2 y3 y4))
 | 0 => fun _ _ _ _ _ r h => by simp [laws_FnMacs.j0] at h
 | k + 1 => by
  have ih0 := laws_FnMacs.mono_l k
  ·
   intro y0 y1 y2 y3 y4
   unfold laws_FnMacs.j0
   repeat' first
   | (with_reducible exact ih0 _ _ _ _ _)
   | (with_reducible exact impl_DigestOf.mono _ _)
   | (with_reducible exact impl_Expand.mono _ _ _ _)
   | (with_reducible exact impl_MacOf.mono _ _ _)
   | (with_reducible exact spec_DrawMacOf.mono _ _)
   | (with_reducible exact spec_DrawPlaces.mono _ _)
   | (with_reducible exact spec_MacOf.mono _ _ _)
   | (with_reducible exact LeO.refl _)
   | (with_reducible exact LeO.none _)
   | (with_reducible refine LeO.ite ?_ ?_)
   | (with_reducible refine LeO.bind ?_ (fun _ => ?_))
   | exact ih0 _ _ _ _ _
   | exact impl_DigestOf.mono _ _
   | exact impl_Expand.mono _ _ _ _
   | exact impl_MacOf.mono _ _ _
   | exact spec_DrawMacOf.mono _ _
   | exact spec_DrawPlaces.mono _ _
   | exact spec_MacOf.mono _ _ _
   | exact LeO.none _
   | refine LeO.ite ?_ ?_
   | refine LeO.bind ?_ (fun _ => ?_)
theorem laws_FnMacs.mono : ∀ a0 k, LeO (laws_FnMacs.f k a0) (laws_FnMacs.f (k + 1) a0) := by
 intro a0 k
 have ih0 := laws_FnMacs.mono_l k
 unfold laws_FnMacs.f
 repeat' first
   | (with_reducible exact ih0 _ _ _ _ _)
   | (with_reducible exact impl_DigestOf.mono _ _)
   | (with_reducible exact impl_Expand.mono _ _ _ _)
   | (with_reducible exact impl_MacOf.mono _ _ _)
   | (with_reducible exact spec_DrawMacOf.mono _ _)
   | (with_reducible exact spec_DrawPlaces.mono _ _)
   | (with_reducible exact spec_MacOf.mono _ _ _)
   | (with_reducible exact LeO.refl _)
   | (with_reducible exact LeO.none _)
   | (with_reducible refine LeO.ite ?_ ?_)
   | (with_reducible refine LeO.bind ?_ (fun _ => ?_))
   | exact ih0 _ _ _ _ _
   | exact impl_DigestOf.mono _ _
   | exact impl_Expand.mono _ _ _ _
   | exact impl_MacOf.mono _ _ _
   | exact spec_DrawMacOf.mono _ _
   | exact spec_DrawPlaces.mono _ _
   | exact spec_MacOf.mono _ _ _
   | exact LeO.none _
   | refine LeO.ite ?_ ?_
   | refine LeO.bind ?_ (fun _ => ?_)
def laws_FnMacs.T10 : Bool × List (List Nat × List Nat) := (true, [([], []), ([], []), ([], []), ([2], [2]), ([3], [3]), ([4], [4]), ([], []), ([6], [6]), ([7], [7]), ([8], [8]), ([5, 9], [5, 9]), ([0, 1, 10], [0, 1, 10]), ([11], [11]), ([12], [12]), ([12], [12]), ([13, 11, 0, 1, 2, 3, 4, 5, 6, 7, 8, 9, 10, 11, 12, 13], [13]), ([14, 15, 0, 1, 2, 3, 4, 5, 6, 7, 8, 9, 10, 11, 12, 13, 14, 15], [14])])
def laws_FnMacs.B10 : List Nat := [0, 0, 0, 4, 12, 28, 0, 64, 192, 448, 1020, 2047, 4095, 8191, 8191, 16383, 65535]
theorem laws_FnMacs.tab10 : rtab .any (opsOf Try.f5 10) = laws_FnMacs.T10 := by kernel_rfl
theorem laws_FnMacs.bits10 : waitsOk laws_FnMacs.T10.2 laws_FnMacs.B10 = true := by kernel_rfl
set_option maxHeartbeats 8000000 in
set_option maxRecDepth 100000 in
theorem laws_FnMacs.calls (k : Nat) (A0 : Option Addr) (c0 : Nat) (l0 : List Int) (r : Bool) (w : World) (hr0 : Kd.C (Kd.int .u8) w A0 l0.length l0) (hc0 : l0.length ≤ c0) (h : laws_FnMacs.f k l0 = some r) (hr_ : Aside0 (r = true)) :
  Calls Try.prog 5 #[.slice A0 l0.length c0] w fun e w' => e = .returned (.bool r) ∧ Below w.heap.size w w' := by
 have HR0 := Aside0.mk hr0
 have HC0 := Aside0.mk hc0
 clear hr0 hc0
 have HB := Aside0.mk (Below.refl w.heap.size w)
 have H : ((laws_big.f l0).bind fun t386 => (if t386 = true then (some true) else ((spec_DrawMacOf.f k l0).bind fun bt387 => ((impl_MacOf.f k bt387.1 bt387.2).bind fun t389 => (if (bt387.1.size : Int) > 64 then ((impl_DigestOf.f k bt387.1).bind fun t390 => (laws_FnMacs.j0 k l0 bt387.1 bt387.2 t389 t390)) else (laws_FnMacs.j0 k l0 bt387.1 bt387.2 t389 bt387.1)))))) = some r := h
 clear h
 replace H := Option.bind_eq_some_iff.mp H
 obtain ⟨t386, A20, H⟩ := H
 replace H : (if t386 = true then (some true) else ((spec_DrawMacOf.f k l0).bind fun bt387 => ((impl_MacOf.f k bt387.1 bt387.2).bind fun t389 => (if (bt387.1.size : Int) > 64 then ((impl_DigestOf.f k bt387.1).bind fun t390 => (laws_FnMacs.j0 k l0 bt387.1 bt387.2 t389 t390)) else (laws_FnMacs.j0 k l0 bt387.1 bt387.2 t389 bt387.1))))) = some r := H
 have A2 := Aside0.mk A20
 clear A20
 by_cases c3 : t386 = true
 ·
  subst c3
  have H1 : (some true) = some r := by rw [if_pos rfl] at H; exact H
  clear H
  have H := H1
  clear H1
  obtain rfl := Option.some.inj H
  go_enter Try.func5, Try.ntmps5
  go_wp2_with (first | ((with_reducible refine gate_callee (f := 11) rfl ?_); refine goesL_ (some 15) rfl rfl Try.func11 (by kernel_rfl) rfl #[.slice A0 l0.length c0] rfl (by (try simp only [List.map_toArray, List.map_cons, List.map_nil]); first | done | rfl | (simp only [List.length_drop, List.length_take]; rfl)) ?_; (with_reducible refine (laws_big.calls _ _ l0 true _ ?side1 ?side2 A2.out).mono ?_); (case side1 => repeat (first | exact HR0.out | (with_reducible refine Kd.C_alloc ?_ _) | (with_reducible refine Kd.C_drewN ?_ _) | (with_reducible refine Kd.C_drew ?_))); (case side2 => exact HC0.out); rintro e w' ⟨rfl, ⟨nd, rfl⟩⟩; refine ⟨_, rfl, ?_⟩))
  go_ret
  exact ⟨by first | rfl | (simp [errW_none, errW_some] <;> rfl) | (simp [*, errW_none, errW_some] <;> rfl), by repeat (first | (with_reducible first | exact HB.out | apply below_alloc | apply pw_below_drewN | apply below_drew1) | exact HB.out)⟩
 ·
  replace c3 := Bool.eq_false_iff.mpr c3
  subst c3
  have H1 : ((spec_DrawMacOf.f k l0).bind fun bt387 => ((impl_MacOf.f k bt387.1 bt387.2).bind fun t389 => (if (bt387.1.size : Int) > 64 then ((impl_DigestOf.f k bt387.1).bind fun t390 => (laws_FnMacs.j0 k l0 bt387.1 bt387.2 t389 t390)) else (laws_FnMacs.j0 k l0 bt387.1 bt387.2 t389 bt387.1)))) = some r := by rw [if_neg (show ¬ (false = true) by decide)] at H; exact H
  clear H
  have H := H1
  clear H1
  replace H := Option.bind_eq_some_iff.mp H
  obtain ⟨⟨t387, t388⟩, A40, H⟩ := H
  replace H : ((impl_MacOf.f k t387 t388).bind fun t389 => (if (t387.size : Int) > 64 then ((impl_DigestOf.f k t387).bind fun t390 => (laws_FnMacs.j0 k l0 t387 t388 t389 t390)) else (laws_FnMacs.j0 k l0 t387 t388 t389 t387))) = some r := H
  have A4 := Aside0.mk A40
  clear A40
  replace H := Option.bind_eq_some_iff.mp H
  obtain ⟨t389, A50, H⟩ := H
  replace H : (if (t387.size : Int) > 64 then ((impl_DigestOf.f k t387).bind fun t390 => (laws_FnMacs.j0 k l0 t387 t388 t389 t390)) else (laws_FnMacs.j0 k l0 t387 t388 t389 t387)) = some r := H
  have A5 := Aside0.mk A50
  clear A50
  have HC6 := Aside0.mk H
  clear H
  go_enter Try.func5, Try.ntmps5
  go_upto_if 27 with (first | ((with_reducible refine gate_callee (f := 11) rfl ?_); refine goesL_ (some 15) rfl rfl Try.func11 (by kernel_rfl) rfl #[.slice A0 l0.length c0] rfl (by (try simp only [List.map_toArray, List.map_cons, List.map_nil]); first | done | rfl | (simp only [List.length_drop, List.length_take]; rfl)) ?_; (with_reducible refine (laws_big.calls _ _ l0 false _ ?side1 ?side2 A2.out).mono ?_); (case side1 => repeat (first | exact HR0.out | (with_reducible refine Kd.C_alloc ?_ _) | (with_reducible refine Kd.C_drewN ?_ _) | (with_reducible refine Kd.C_drew ?_))); (case side2 => exact HC0.out); rintro e w' ⟨rfl, ⟨nd, rfl⟩⟩; refine ⟨_, rfl, ?_⟩) | ((with_reducible refine gate_callee (f := 12) rfl ?_); refine goesL_ (some 18) rfl rfl Try.func12 (by kernel_rfl) rfl #[.slice A0 l0.length c0] rfl (by (try simp only [List.map_toArray, List.map_cons, List.map_nil]); first | done | rfl | (simp only [List.length_drop, List.length_take]; rfl)) ?_; (with_reducible refine (spec_DrawMacOf.calls k _ _ l0 t387 t388 _ ?side1 ?side2 A4.out).mono ?_); (case side1 => repeat (first | exact HR0.out | (with_reducible refine Kd.C_alloc ?_ _) | (with_reducible refine Kd.C_drewN ?_ _) | (with_reducible refine Kd.C_drew ?_))); (case side2 => exact HC0.out); rintro e w7 ⟨rfl, hb⟩; refine ⟨_, rfl, ?_⟩; have n0_ := Aside0.mk (below_step (by repeat (first | (with_reducible first | exact HB.out | apply below_alloc | apply pw_below_drewN | apply below_drew1) | exact HB.out)) hb); clear HB; have HB := n0_; clear n0_; (try clear hb); (try clear hb2); (try clear hk); (try clear hi)) | ((with_reducible refine gate_callee (f := 13) rfl ?_); refine goesL_ (some 23) rfl rfl Try.func13 (by kernel_rfl) rfl #[.string t387, .string t388] rfl (by (try simp only [List.map_toArray, List.map_cons, List.map_nil]); first | done | rfl | (simp only [List.length_drop, List.length_take]; rfl)) ?_; (with_reducible refine (impl_MacOf.calls k t387 t388 t389 _ A5.out).mono ?_); rintro e w8 ⟨rfl, hb⟩; refine ⟨_, rfl, ?_⟩; have n0_ := Aside0.mk (below_step (by repeat (first | (with_reducible first | exact HB.out | apply below_alloc | apply pw_below_drewN | apply below_drew1) | exact HB.out)) hb); clear HB; have HB := n0_; clear n0_; (try clear hb); (try clear hb2); (try clear hk); (try clear hi)))
  (try simp only [Act.put, List.setIfInBounds_toArray, List.set_cons_zero, List.set_cons_succ])
  go_cut [6] (fun v6 wc => ∃ (kq : Nat) (x6_5 : ByteArray), v6 = .string x6_5 ∧ Aside0 (laws_FnMacs.j0 kq l0 t387 t388 t389 x6_5 = some r) ∧ Aside0 (kq ≤ k) ∧ Aside0 (Below w.heap.size w wc))
  case first =>
   have H := HC6.out
   clear HC6
   by_cases c9 : (t387.size : Int) > 64
   ·
    rw [if_pos c9] at H
    have c9b0 : decide (64 < (t387.size : Int)) = true := decide_eq_true c9
    have c9b1 : decide (64 < t387.size) = true := decide_eq_true (by omega)
    clear c9
    (first | rw [c9b0] | (simp only [i64_w, i32_w]; rw [c9b0]) | skip)
    replace H := Option.bind_eq_some_iff.mp H
    obtain ⟨t390, A100, H⟩ := H
    replace H : (laws_FnMacs.j0 k l0 t387 t388 t389 t390) = some r := H
    have A10 := Aside0.mk A100
    clear A100
    have H' := Aside0.mk H
    clear H
    go_wp2_with (first | ((with_reducible refine gate_callee (f := 14) rfl ?_); refine goesL_ (some 29) rfl rfl Try.func14 (by kernel_rfl) rfl #[.string t387] rfl (by (try simp only [List.map_toArray, List.map_cons, List.map_nil]); first | done | rfl | (simp only [List.length_drop, List.length_take]; rfl)) ?_; (with_reducible refine (impl_DigestOf.calls k t387 t390 _ A10.out).mono ?_); rintro e w11 ⟨rfl, hb⟩; refine ⟨_, rfl, ?_⟩; have n0_ := Aside0.mk (below_step (by repeat (first | (with_reducible first | exact HB.out | apply below_alloc | apply pw_below_drewN | apply below_drew1) | exact HB.out)) hb); clear HB; have HB := n0_; clear n0_; (try clear hb); (try clear hb2); (try clear hk); (try clear hi)))
    go_meet
    case rel => exact ⟨_, (t390), (by first | rfl | (simp; done) | (simp [*]; done)), H', ⟨by first | omega | exact Nat.le_refl _⟩, ⟨by repeat (first | (with_reducible first | exact HB.out | apply below_alloc | apply pw_below_drewN | apply below_drew1) | exact HB.out)⟩⟩
   ·
    rw [if_neg c9] at H
    have c9b0 : decide (64 < (t387.size : Int)) = false := decide_eq_false c9
    have c9b1 : decide (64 < t387.size) = false := decide_eq_false (by omega)
    clear c9
    (first | rw [c9b0] | (simp only [i64_w, i32_w]; rw [c9b0]) | skip)
    have H' := Aside0.mk H
    clear H
    go_wp2
    go_meet
    case rel => exact ⟨_, (t387), (by first | rfl | (simp; done) | (simp [*]; done)), H', ⟨by first | omega | exact Nat.le_refl _⟩, ⟨by repeat (first | (with_reducible first | exact HB.out | apply below_alloc | apply pw_below_drewN | apply below_drew1) | exact HB.out)⟩⟩
  case rest =>
   clear HC6
   try clear c1; try clear p2; try clear c3; try clear c5; try clear c9; try clear c9b0; try clear c9b1; try clear c11
   obtain ⟨kq, x6_5, rfl, HA, HJ5, HB⟩ := hcut
   cases kq with
   | zero => exact absurd HA.out (by simp [laws_FnMacs.j0])
   | succ kj5 =>
    have H := HA.out
    clear HA
    simp only [laws_FnMacs.j0] at H
    replace H := Option.bind_eq_some_iff.mp H
    obtain ⟨t391, A120, H⟩ := H
    replace H : (if 0 < (t391.length : Int) then ((impl_Expand.f kj5 t387 t388 (Int.tmod (rd t391 0) 90)).bind fun bt395 => (if 1 < (t391.length : Int) then ((impl_Expand.f kj5 t387 t388 (wrap64 ((Int.tmod (rd t391 0) 90) + (Int.tmod (rd t391 1) 90)))).bind fun bt399 => ((impl_Expand.f kj5 t387 t388 (-1)).bind fun bt401 => (if (t389.size : Int) = 32 then ((spec_MacOf.f kj5 t387 t388).bind fun t403 => (if t389.toList = t403.toList then ((impl_MacOf.f kj5 x6_5 t388).bind fun t404 => (if t389.toList = t404.toList then (if bt395.2 = true then (if bt399.2 = true then (if bt401.2 = true then (some false) else (if (bt395.1.size : Int) = (Int.tmod (rd t391 0) 90) then ((laws_begins.f bt395.1 bt399.1).bind fun t406 => (if t406 = true then ((impl_SameMac.f t389 t389).bind fun t407 => (if t407 = true then ((laws_turned.f t389 t391).bind fun t408 => ((impl_SameMac.f t389 t408).bind fun t409 => (some (!t409)))) else (some false))) else (some false))) else (some false))) else (some false)) else (some false)) else (some false))) else (some false))) else (some false)))) else (none))) else (none)) = some r := H
    have A12 := Aside0.mk A120
    clear A120
    by_cases c13 : 0 < (t391.length : Int)
    ·
     rw [if_pos c13] at H
     have c13b0 : decide (0 < (t391.length : Int)) = true := decide_eq_true c13
     have c13b1 : decide (0 < t391.length) = true := decide_eq_true (by omega)
     clear c13
     replace H := Option.bind_eq_some_iff.mp H
     obtain ⟨⟨t395, t396⟩, A140, H⟩ := H
     replace H : (if 1 < (t391.length : Int) then ((impl_Expand.f kj5 t387 t388 (wrap64 ((Int.tmod (rd t391 0) 90) + (Int.tmod (rd t391 1) 90)))).bind fun bt399 => ((impl_Expand.f kj5 t387 t388 (-1)).bind fun bt401 => (if (t389.size : Int) = 32 then ((spec_MacOf.f kj5 t387 t388).bind fun t403 => (if t389.toList = t403.toList then ((impl_MacOf.f kj5 x6_5 t388).bind fun t404 => (if t389.toList = t404.toList then (if t396 = true then (if bt399.2 = true then (if bt401.2 = true then (some false) else (if (t395.size : Int) = (Int.tmod (rd t391 0) 90) then ((laws_begins.f t395 bt399.1).bind fun t406 => (if t406 = true then ((impl_SameMac.f t389 t389).bind fun t407 => (if t407 = true then ((laws_turned.f t389 t391).bind fun t408 => ((impl_SameMac.f t389 t408).bind fun t409 => (some (!t409)))) else (some false))) else (some false))) else (some false))) else (some false)) else (some false)) else (some false))) else (some false))) else (some false)))) else (none)) = some r := H
     have A14 := Aside0.mk A140
     clear A140
     by_cases c15 : 1 < (t391.length : Int)
     ·
      rw [if_pos c15] at H
      have c15b0 : decide (1 < (t391.length : Int)) = true := decide_eq_true c15
      have c15b1 : decide (1 < t391.length) = true := decide_eq_true (by omega)
      clear c15
      replace H := Option.bind_eq_some_iff.mp H
      obtain ⟨⟨t399, t400⟩, A160, H⟩ := H
      replace H : ((impl_Expand.f kj5 t387 t388 (-1)).bind fun bt401 => (if (t389.size : Int) = 32 then ((spec_MacOf.f kj5 t387 t388).bind fun t403 => (if t389.toList = t403.toList then ((impl_MacOf.f kj5 x6_5 t388).bind fun t404 => (if t389.toList = t404.toList then (if t396 = true then (if t400 = true then (if bt401.2 = true then (some false) else (if (t395.size : Int) = (Int.tmod (rd t391 0) 90) then ((laws_begins.f t395 t399).bind fun t406 => (if t406 = true then ((impl_SameMac.f t389 t389).bind fun t407 => (if t407 = true then ((laws_turned.f t389 t391).bind fun t408 => ((impl_SameMac.f t389 t408).bind fun t409 => (some (!t409)))) else (some false))) else (some false))) else (some false))) else (some false)) else (some false)) else (some false))) else (some false))) else (some false))) = some r := H
      have A16 := Aside0.mk A160
      clear A160
      replace H := Option.bind_eq_some_iff.mp H
      obtain ⟨⟨t401, t402⟩, A170, H⟩ := H
      replace H : (if (t389.size : Int) = 32 then ((spec_MacOf.f kj5 t387 t388).bind fun t403 => (if t389.toList = t403.toList then ((impl_MacOf.f kj5 x6_5 t388).bind fun t404 => (if t389.toList = t404.toList then (if t396 = true then (if t400 = true then (if t402 = true then (some false) else (if (t395.size : Int) = (Int.tmod (rd t391 0) 90) then ((laws_begins.f t395 t399).bind fun t406 => (if t406 = true then ((impl_SameMac.f t389 t389).bind fun t407 => (if t407 = true then ((laws_turned.f t389 t391).bind fun t408 => ((impl_SameMac.f t389 t408).bind fun t409 => (some (!t409)))) else (some false))) else (some false))) else (some false))) else (some false)) else (some false)) else (some false))) else (some false))) else (some false)) = some r := H
      have A17 := Aside0.mk A170
      clear A170
      by_cases c18 : (t389.size : Int) = 32
      ·
       rw [if_pos c18] at H
       have c18b0 : ((t389.size : Int) == 32) = true := beq_iff_eq.mpr c18
       have c18b1 : ((t389.size : Int) != 32) = false := bne_eq_false_iff_eq.mpr c18
       clear c18
       replace H := Option.bind_eq_some_iff.mp H
       obtain ⟨t403, A190, H⟩ := H
       replace H : (if t389.toList = t403.toList then ((impl_MacOf.f kj5 x6_5 t388).bind fun t404 => (if t389.toList = t404.toList then (if t396 = true then (if t400 = true then (if t402 = true then (some false) else (if (t395.size : Int) = (Int.tmod (rd t391 0) 90) then ((laws_begins.f t395 t399).bind fun t406 => (if t406 = true then ((impl_SameMac.f t389 t389).bind fun t407 => (if t407 = true then ((laws_turned.f t389 t391).bind fun t408 => ((impl_SameMac.f t389 t408).bind fun t409 => (some (!t409)))) else (some false))) else (some false))) else (some false))) else (some false)) else (some false)) else (some false))) else (some false)) = some r := H
       have A19 := Aside0.mk A190
       clear A190
       by_cases c20 : t389.toList = t403.toList
       ·
        rw [if_pos c20] at H
        have c20b0 : (t389.toList == t403.toList) = true := beq_iff_eq.mpr c20
        have c20b1 : (t389.toList != t403.toList) = false := bne_eq_false_iff_eq.mpr c20
        clear c20
        replace H := Option.bind_eq_some_iff.mp H
        obtain ⟨t404, A210, H⟩ := H
        replace H : (if t389.toList = t404.toList then (if t396 = true then (if t400 = true then (if t402 = true then (some false) else (if (t395.size : Int) = (Int.tmod (rd t391 0) 90) then ((laws_begins.f t395 t399).bind fun t406 => (if t406 = true then ((impl_SameMac.f t389 t389).bind fun t407 => (if t407 = true then ((laws_turned.f t389 t391).bind fun t408 => ((impl_SameMac.f t389 t408).bind fun t409 => (some (!t409)))) else (some false))) else (some false))) else (some false))) else (some false)) else (some false)) else (some false)) = some r := H
        have A21 := Aside0.mk A210
        clear A210
        by_cases c22 : t389.toList = t404.toList
        ·
         rw [if_pos c22] at H
         have c22b0 : (t389.toList == t404.toList) = true := beq_iff_eq.mpr c22
         have c22b1 : (t389.toList != t404.toList) = false := bne_eq_false_iff_eq.mpr c22
         clear c22
         by_cases c23 : t396 = true
         ·
          subst c23
          have H1 : (if t400 = true then (if t402 = true then (some false) else (if (t395.size : Int) = (Int.tmod (rd t391 0) 90) then ((laws_begins.f t395 t399).bind fun t406 => (if t406 = true then ((impl_SameMac.f t389 t389).bind fun t407 => (if t407 = true then ((laws_turned.f t389 t391).bind fun t408 => ((impl_SameMac.f t389 t408).bind fun t409 => (some (!t409)))) else (some false))) else (some false))) else (some false))) else (some false)) = some r := by rw [if_pos rfl] at H; exact H
          clear H
          have H := H1
          clear H1
          by_cases c24 : t400 = true
          ·
           subst c24
           have H1 : (if t402 = true then (some false) else (if (t395.size : Int) = (Int.tmod (rd t391 0) 90) then ((laws_begins.f t395 t399).bind fun t406 => (if t406 = true then ((impl_SameMac.f t389 t389).bind fun t407 => (if t407 = true then ((laws_turned.f t389 t391).bind fun t408 => ((impl_SameMac.f t389 t408).bind fun t409 => (some (!t409)))) else (some false))) else (some false))) else (some false))) = some r := by rw [if_pos rfl] at H; exact H
           clear H
           have H := H1
           clear H1
           by_cases c25 : t402 = true
           ·
            subst c25
            have H1 : (some false) = some r := by rw [if_pos rfl] at H; exact H
            clear H
            have H := H1
            clear H1
            obtain rfl := Option.some.inj H
            exact absurd hr_.out (by decide)
           ·
            replace c25 := Bool.eq_false_iff.mpr c25
            subst c25
            have H1 : (if (t395.size : Int) = (Int.tmod (rd t391 0) 90) then ((laws_begins.f t395 t399).bind fun t406 => (if t406 = true then ((impl_SameMac.f t389 t389).bind fun t407 => (if t407 = true then ((laws_turned.f t389 t391).bind fun t408 => ((impl_SameMac.f t389 t408).bind fun t409 => (some (!t409)))) else (some false))) else (some false))) else (some false)) = some r := by rw [if_neg (show ¬ (false = true) by decide)] at H; exact H
            clear H
            have H := H1
            clear H1
            by_cases c34 : (t395.size : Int) = (Int.tmod (rd t391 0) 90)
            ·
             rw [if_pos c34] at H
             have c34b0 : ((t395.size : Int) == (Int.tmod (rd t391 0) 90)) = true := beq_iff_eq.mpr c34
             have c34b1 : ((t395.size : Int) != (Int.tmod (rd t391 0) 90)) = false := bne_eq_false_iff_eq.mpr c34
             clear c34
             replace H := Option.bind_eq_some_iff.mp H
             obtain ⟨t406, A350, H⟩ := H
             replace H : (if t406 = true then ((impl_SameMac.f t389 t389).bind fun t407 => (if t407 = true then ((laws_turned.f t389 t391).bind fun t408 => ((impl_SameMac.f t389 t408).bind fun t409 => (some (!t409)))) else (some false))) else (some false)) = some r := H
             have A35 := Aside0.mk A350
             clear A350
             by_cases c36 : t406 = true
             ·
              subst c36
              have H1 : ((impl_SameMac.f t389 t389).bind fun t407 => (if t407 = true then ((laws_turned.f t389 t391).bind fun t408 => ((impl_SameMac.f t389 t408).bind fun t409 => (some (!t409)))) else (some false))) = some r := by rw [if_pos rfl] at H; exact H
              clear H
              have H := H1
              clear H1
              replace H := Option.bind_eq_some_iff.mp H
              obtain ⟨t407, A370, H⟩ := H
              replace H : (if t407 = true then ((laws_turned.f t389 t391).bind fun t408 => ((impl_SameMac.f t389 t408).bind fun t409 => (some (!t409)))) else (some false)) = some r := H
              have A37 := Aside0.mk A370
              clear A370
              by_cases c38 : t407 = true
              ·
               subst c38
               have H1 : ((laws_turned.f t389 t391).bind fun t408 => ((impl_SameMac.f t389 t408).bind fun t409 => (some (!t409)))) = some r := by rw [if_pos rfl] at H; exact H
               clear H
               have H := H1
               clear H1
               replace H := Option.bind_eq_some_iff.mp H
               obtain ⟨t408, A390, H⟩ := H
               replace H : ((impl_SameMac.f t389 t408).bind fun t409 => (some (!t409))) = some r := H
               have A39 := Aside0.mk A390
               clear A390
               replace H := Option.bind_eq_some_iff.mp H
               obtain ⟨t409, A400, H⟩ := H
               replace H : (some (!t409)) = some r := H
               have A40 := Aside0.mk A400
               clear A400
               obtain rfl := Option.some.inj H
               try go_wp2_with (first | ((with_reducible refine gate_callee (f := 15) rfl ?_); refine goesL_ (some 31) rfl rfl Try.func15 (by kernel_rfl) rfl #[.slice A0 l0.length c0] rfl (by (try simp only [List.map_toArray, List.map_cons, List.map_nil]); first | done | rfl | (simp only [List.length_drop, List.length_take]; rfl)) ?_; (with_reducible refine (spec_DrawPlaces.calls kj5 _ _ l0 t391 _ ?side1 ?side2 A12.out).mono ?_); (case side1 => repeat (first | exact (Kd.C_below HR0.out HB.out) | (with_reducible refine Kd.C_alloc ?_ _) | (with_reducible refine Kd.C_drewN ?_ _) | (with_reducible refine Kd.C_drew ?_))); (case side2 => exact HC0.out); rintro e w41 ⟨v392, rfl, ho0, hb⟩; refine ⟨_, rfl, ?_⟩; have n0_ := Aside0.mk (Kd.R_lower ho0 (below_size (by repeat (first | (with_reducible first | exact HB.out | apply below_alloc | apply pw_below_drewN | apply below_drew1) | exact HB.out)))); have n1_ := Aside0.mk (below_step (by repeat (first | (with_reducible first | exact HB.out | apply below_alloc | apply pw_below_drewN | apply below_drew1) | exact HB.out)) hb); clear HB; have HO393 := n0_; have HB := n1_; clear n0_ n1_; (try clear hb); (try clear hb2); (try clear hk); (try clear hi); (try clear ho0); obtain ⟨Ao42, co42, eo42⟩ := Kd.R_slice HO393.out; subst eo42; have p394 : 0 ≤ (0 : Int) := (by omega); have q394 : 0 < (t391.length : Int) := of_decide_eq_true (by first | (with_reducible assumption) | assumption); obtain ⟨ad394, e394, hx394_0⟩ := Kd.at_int (Kd.R_reads' HO393.out).2.2 0 p394 q394; cases e394; have qi394 : (0 < t391.length) = True := eq_true (by omega); (try rw [show ((0 : Int)).toNat = 0 from rfl] at hx394_0); (try rw [Addr.add_zero'] at hx394_0); replace p394 := eq_true p394; replace q394 := eq_true q394) | ((with_reducible refine gate_callee (f := 8) rfl ?_); refine goesL_ (some 39) rfl rfl Try.func8 (by kernel_rfl) rfl #[.string t387, .string t388, .int .i64 (Int.tmod (rd t391 0) 90)] rfl (by (try simp only [List.map_toArray, List.map_cons, List.map_nil]); first | done | rfl | (simp only [List.length_drop, List.length_take]; rfl)) ?_; (with_reducible refine (impl_Expand.calls kj5 t387 t388 (Int.tmod (rd t391 0) 90) t395 true _ A14.out).mono ?_); rintro e w43 ⟨rfl, hb⟩; refine ⟨_, rfl, ?_⟩; have n0_ := Aside0.mk (Kd.R_below (by (with_reducible repeat (first | apply Kd.R_alloc | apply Kd.R_drewN | apply Kd.R_drew)); exact HO393.out) hb); have n1_ := Aside0.mk (below_step (by repeat (first | (with_reducible first | exact HB.out | apply below_alloc | apply pw_below_drewN | apply below_drew1) | exact HB.out)) hb); clear HO393; clear HB; have HO393 := n0_; have HB := n1_; clear n0_ n1_; (try clear hb); (try clear hb2); (try clear hk); (try clear hi)))
               have n0_ := Aside0.mk (Kd.R_drew HO393.out)
               have n1_ := Aside0.mk (below_drew1 HB.out)
               clear HO393
               clear HB
               have HO393 := n0_
               have HB := n1_
               clear n0_ n1_
               have p397 : 0 ≤ (0 : Int) := (by omega)
               have q397 : 0 < (t391.length : Int) := of_decide_eq_true (by first | (with_reducible assumption) | assumption)
               obtain ⟨ad397, e397, hx397_0⟩ := Kd.at_int (Kd.R_reads' HO393.out).2.2 0 p397 q397
               obtain rfl : ad394 = ad397 := (by injection e397)
               have qi397 : (0 < t391.length) = True := eq_true (by omega)
               (try rw [show ((0 : Int)).toNat = 0 from rfl] at hx397_0)
               (try rw [Addr.add_zero'] at hx397_0)
               replace p397 := eq_true p397
               replace q397 := eq_true q397
               have p398 : 0 ≤ (1 : Int) := (by omega)
               have q398 : 1 < (t391.length : Int) := of_decide_eq_true (by first | (with_reducible assumption) | assumption)
               obtain ⟨ad398, e398, hx398_0⟩ := Kd.at_int (Kd.R_reads' HO393.out).2.2 1 p398 q398
               obtain rfl : ad394 = ad398 := (by injection e398)
               (try simp only [show (1 : Int).toNat = 1 from rfl, Nat.reduceMul, Nat.reduceEqDiff, Go.Addr.add, ↓reduceIte] at hx398_0)
               have qi398 : (1 < t391.length) = True := eq_true (by omega)
               (try rw [show ((1 : Int)).toNat = 1 from rfl] at hx398_0)
               replace p398 := eq_true p398
               replace q398 := eq_true q398
               refine start_ (n := 17) (S := fun w' => w'.cell? ad394 = some (.int .i64 (rd t391 0)) ∧ w'.cell? ⟨ad394.block, ad394.off + 1, none⟩ = some (.int .i64 (rd t391 1))) (ds := []) #[false, false, false, false, false, false, false, false, false, false, false, false, false, false, false, false, false] (by kernel_rfl) rfl rfl ⟨hx397_0, hx398_0⟩ (fun hHeld => ?_); refine with_tabW laws_FnMacs.tab10 laws_FnMacs.bits10 (fun HT_ HW_ => ?_)
               generalize w43.drew = w44 at HO393 HB hx397_0 hx398_0 hHeld ⊢
               refine pure_ (i := 0) (N := some 43) (v := ?_) (a' := ?_) #[true, false, false, false, false, false, false, false, false, false, false, false, false, false, false, false, false] rfl rfl (any_of HT_.out (by kernel_rfl)) (fun _ _ _ h => h) (Or.inl ⟨by rfl, ?_⟩) ?_ ?_
               rotate_left
               ·
                intro w'
                go_simp
                with_reducible rfl
               rotate_left
               ·
                simp only [Act.put, List.setIfInBounds_toArray, List.set_cons_zero, List.set_cons_succ, i64_w, i32_w]
                rfl
               refine pure_ (i := 1) (N := some 44) (v := ?_) (a' := ?_) #[true, true, false, false, false, false, false, false, false, false, false, false, false, false, false, false, false] rfl rfl (any_of HT_.out (by kernel_rfl)) (fun _ _ _ h => h) (Or.inl ⟨by rfl, ?_⟩) ?_ ?_
               rotate_left
               ·
                intro w'
                go_simp
                with_reducible rfl
               rotate_left
               ·
                simp only [Act.put, List.setIfInBounds_toArray, List.set_cons_zero, List.set_cons_succ, i64_w, i32_w]
                rfl
               refine pure_ (i := 2) (N := some 45) (v := ?_) (a' := ?_) #[true, true, true, false, false, false, false, false, false, false, false, false, false, false, false, false, false] rfl rfl (any_of HT_.out (by kernel_rfl)) (fun _ _ _ h => h) (Or.inl ⟨by rfl, ?_⟩) ?_ ?_
               rotate_left
               ·
                intro w'
                go_simp
                with_reducible rfl
               rotate_left
               ·
                simp only [Act.put, List.setIfInBounds_toArray, List.set_cons_zero, List.set_cons_succ, i64_w, i32_w]
                rfl
               refine pure_ (i := 3) (N := some 46) (v := ?_) (a' := ?_) #[true, true, true, true, false, false, false, false, false, false, false, false, false, false, false, false, false] rfl rfl (any_of HT_.out (by kernel_rfl)) (fun _ _ _ h => h) (Or.inl ⟨by rfl, ?_⟩) ?_ ?_
               rotate_left
               ·
                intro w'
                go_simp
                with_reducible rfl
               rotate_left
               ·
                simp only [Act.put, List.setIfInBounds_toArray, List.set_cons_zero, List.set_cons_succ, i64_w, i32_w]
                rfl
               refine pure_ (i := 6) (N := some 49) (v := ?_) (a' := ?_) #[true, true, true, true, false, false, true, false, false, false, false, false, false, false, false, false, false] rfl rfl (any_of HT_.out (by kernel_rfl)) (fun _ _ _ h => h) (Or.inl ⟨by rfl, ?_⟩) ?_ ?_
               rotate_left
               ·
                intro w'
                go_simp
                with_reducible rfl
               rotate_left
               ·
                simp only [Act.put, List.setIfInBounds_toArray, List.set_cons_zero, List.set_cons_succ, i64_w, i32_w]
                rfl
               refine pure_ (i := 7) (N := some 50) (v := ?_) (a' := ?_) #[true, true, true, true, false, false, true, true, false, false, false, false, false, false, false, false, false] rfl rfl (any_of HT_.out (by kernel_rfl)) (fun _ _ _ h => h) (Or.inl ⟨by rfl, ?_⟩) ?_ ?_
               rotate_left
               ·
                intro w'
                go_simp
                with_reducible rfl
               rotate_left
               ·
                simp only [Act.put, List.setIfInBounds_toArray, List.set_cons_zero, List.set_cons_succ, i64_w, i32_w]
                rfl
               refine take_ (i := 4) (N := some 47) (v := ?_) (a' := ?_) #[true, true, true, true, true, false, true, true, false, false, false, false, false, false, false, false, false] rfl rfl (take_ofW HT_.out HW_.out (by kernel_rfl)) (fun _ _ _ h => h) (Or.inl ⟨by rfl, ?_⟩) hHeld ?_ ?_
               rotate_left
               ·
                rintro w' ⟨s0, s1⟩
                go_simp
                with_reducible rfl
               rotate_left
               ·
                simp only [Act.put, List.setIfInBounds_toArray, List.set_cons_zero, List.set_cons_succ, i64_w, i32_w]
                rfl
               refine pure_ (i := 5) (N := some 48) (v := ?_) (a' := ?_) #[true, true, true, true, true, true, true, true, false, false, false, false, false, false, false, false, false] rfl rfl (any_of HT_.out (by kernel_rfl)) (fun _ _ _ h => h) (Or.inl ⟨by rfl, ?_⟩) ?_ ?_
               rotate_left
               ·
                intro w'
                go_simp
                with_reducible rfl
               rotate_left
               ·
                simp only [Act.put, List.setIfInBounds_toArray, List.set_cons_zero, List.set_cons_succ, i64_w, i32_w]
                rfl
               refine take_ (i := 8) (N := some 51) (v := ?_) (a' := ?_) #[true, true, true, true, true, true, true, true, true, false, false, false, false, false, false, false, false] rfl rfl (take_ofW HT_.out HW_.out (by kernel_rfl)) (fun _ _ _ h => h) (Or.inl ⟨by rfl, ?_⟩) hHeld ?_ ?_
               rotate_left
               ·
                rintro w' ⟨s0, s1⟩
                go_simp
                with_reducible rfl
               rotate_left
               ·
                simp only [Act.put, List.setIfInBounds_toArray, List.set_cons_zero, List.set_cons_succ, i64_w, i32_w]
                rfl
               refine pure_ (i := 9) (N := some 52) (v := ?_) (a' := ?_) #[true, true, true, true, true, true, true, true, true, true, false, false, false, false, false, false, false] rfl rfl (any_of HT_.out (by kernel_rfl)) (fun _ _ _ h => h) (Or.inl ⟨by rfl, ?_⟩) ?_ ?_
               rotate_left
               ·
                intro w'
                go_simp
                with_reducible rfl
               rotate_left
               ·
                simp only [Act.put, List.setIfInBounds_toArray, List.set_cons_zero, List.set_cons_succ, i64_w, i32_w]
                rfl
               refine pure_ (i := 10) (N := some 53) (v := ?_) (a' := ?_) #[true, true, true, true, true, true, true, true, true, true, true, false, false, false, false, false, false] rfl rfl (any_of HT_.out (by kernel_rfl)) (fun _ _ _ h => h) (Or.inl ⟨by rfl, ?_⟩) ?_ ?_
               rotate_left
               ·
                intro w'
                go_simp
                with_reducible rfl
               rotate_left
               ·
                simp only [Act.put, List.setIfInBounds_toArray, List.set_cons_zero, List.set_cons_succ, i64_w, i32_w]
                rfl
               refine one_ (i := 11) (N := some 54) #[true, true, true, true, true, true, true, true, true, true, true, true, false, false, false, false, false] rfl rfl (one_of HT_.out (by kernel_rfl)) (by decide) (fun K hK => ?_)
               refine goes_ Try.func8 (by kernel_rfl) rfl #[.string t387, .string t388, .int .i64 (wrap64 ((Int.tmod (rd t391 0) 90) + (Int.tmod (rd t391 1) 90)))] (by rfl) rfl rfl (by (try simp only [List.map_toArray, List.map_cons, List.map_nil]); first | done | rfl | (simp only [List.length_drop, List.length_take]; rfl)) ?_
               with_reducible refine (impl_Expand.calls kj5 t387 t388 (wrap64 ((Int.tmod (rd t391 0) 90) + (Int.tmod (rd t391 1) 90))) t399 true _ A16.out).mono ?_
               rintro e w45 ⟨rfl, hb⟩
               have HS0_ := (hb.cell (World.block_lt_of_cell? _ _ (hHeld.1))).trans (hHeld.1)
               have HS1_ := (hb.cell (World.block_lt_of_cell? _ _ (hHeld.2))).trans (hHeld.2)
               refine ⟨_, rfl, ?_⟩
               have n0_ := Aside0.mk (Kd.R_below (by (with_reducible repeat (first | apply Kd.R_alloc | apply Kd.R_drewN | apply Kd.R_drew)); exact HO393.out) hb)
               have n1_ := Aside0.mk (below_step (by repeat (first | (with_reducible first | exact HB.out | apply below_alloc | apply pw_below_drewN | apply below_drew1) | exact HB.out)) hb)
               clear HO393
               clear HB
               have HO393 := n0_
               have HB := n1_
               clear n0_ n1_
               (try clear hb)
               (try clear hb2)
               (try clear hk)
               (try clear hi)
               refine hK.out _ _ ⟨HS0_, HS1_⟩ (fun hHeld => ?_)
               clear hK K
               refine norm_ (a' := ?_) ?_ ?_
               rotate_left
               ·
                show Act.put _ (some 54) _ = _
                simp only [Act.put, List.setIfInBounds_toArray, List.set_cons_zero, List.set_cons_succ, i64_w, i32_w]
                rfl
               refine pure_ (i := 12) (N := some 42) (v := ?_) (a' := ?_) #[true, true, true, true, true, true, true, true, true, true, true, true, true, false, false, false, false] rfl rfl (any_of HT_.out (by kernel_rfl)) (fun _ _ _ h => h) (Or.inl ⟨by rfl, ?_⟩) ?_ ?_
               rotate_left
               ·
                intro w'
                go_simp
                with_reducible rfl
               rotate_left
               ·
                simp only [Act.put, List.setIfInBounds_toArray, List.set_cons_zero, List.set_cons_succ, i64_w, i32_w]
                rfl
               refine pure_ (i := 13) (N := some 55) (v := ?_) (a' := ?_) #[true, true, true, true, true, true, true, true, true, true, true, true, true, true, false, false, false] rfl rfl (any_of HT_.out (by kernel_rfl)) (fun _ _ _ h => h) (Or.inl ⟨by rfl, ?_⟩) ?_ ?_
               rotate_left
               ·
                intro w'
                go_simp
                with_reducible rfl
               rotate_left
               ·
                simp only [Act.put, List.setIfInBounds_toArray, List.set_cons_zero, List.set_cons_succ, i64_w, i32_w]
                rfl
               refine pure_ (i := 14) (N := some 56) (v := ?_) (a' := ?_) #[true, true, true, true, true, true, true, true, true, true, true, true, true, true, true, false, false] rfl rfl (any_of HT_.out (by kernel_rfl)) (fun _ _ _ h => h) (Or.inl ⟨by rfl, ?_⟩) ?_ ?_
               rotate_left
               ·
                intro w'
                go_simp
                with_reducible rfl
               rotate_left
               ·
                simp only [Act.put, List.setIfInBounds_toArray, List.set_cons_zero, List.set_cons_succ, i64_w, i32_w]
                rfl
               refine pure_ (i := 15) (N := some 10) (v := ?_) (a' := ?_) #[true, true, true, true, true, true, true, true, true, true, true, true, true, true, true, true, false] rfl rfl (any_of HT_.out (by kernel_rfl)) (fun _ _ _ h => h) (Or.inl ⟨by rfl, ?_⟩) ?_ ?_
               rotate_left
               ·
                intro w'
                go_simp
                with_reducible rfl
               rotate_left
               ·
                simp only [Act.put, List.setIfInBounds_toArray, List.set_cons_zero, List.set_cons_succ, i64_w, i32_w]
                rfl
               refine pure_ (i := 16) (N := some 11) (v := ?_) (a' := ?_) #[true, true, true, true, true, true, true, true, true, true, true, true, true, true, true, true, true] rfl rfl (any_of HT_.out (by kernel_rfl)) (fun _ _ _ h => h) (Or.inl ⟨by rfl, ?_⟩) ?_ ?_
               rotate_left
               ·
                intro w'
                go_simp
                with_reducible rfl
               rotate_left
               ·
                simp only [Act.put, List.setIfInBounds_toArray, List.set_cons_zero, List.set_cons_succ, i64_w, i32_w]
                rfl
               refine done_ (done_of HT_.out (by kernel_rfl)) ?_
               try go_wp2_with (first | ((with_reducible refine gate_callee (f := 8) rfl ?_); refine goesL_ (some 60) rfl rfl Try.func8 (by kernel_rfl) rfl #[.string t387, .string t388, .int .i64 (-1)] rfl (by (try simp only [List.map_toArray, List.map_cons, List.map_nil]); first | done | rfl | (simp only [List.length_drop, List.length_take]; rfl)) ?_; (with_reducible refine (impl_Expand.calls kj5 t387 t388 (-1) t401 false _ A17.out).mono ?_); rintro e w46 ⟨rfl, hb⟩; refine ⟨_, rfl, ?_⟩; have n0_ := Aside0.mk (Kd.R_below (by (with_reducible repeat (first | apply Kd.R_alloc | apply Kd.R_drewN | apply Kd.R_drew)); exact HO393.out) hb); have n1_ := Aside0.mk (below_step (by repeat (first | (with_reducible first | exact HB.out | apply below_alloc | apply pw_below_drewN | apply below_drew1) | exact HB.out)) hb); clear HO393; clear HB; have HO393 := n0_; have HB := n1_; clear n0_ n1_; (try clear hb); (try clear hb2); (try clear hk); (try clear hi)) | (go_at_call 16; (with_reducible refine (spec_MacOf.calls kj5 t387 t388 t403 _ A19.out).mono ?_); rintro e w47 ⟨rfl, hb⟩; have n0_ := Aside0.mk (Kd.R_below (by (with_reducible repeat (first | apply Kd.R_alloc | apply Kd.R_drewN | apply Kd.R_drew)); exact HO393.out) hb); have n1_ := Aside0.mk (below_step (by repeat (first | (with_reducible first | exact HB.out | apply below_alloc | apply pw_below_drewN | apply below_drew1) | exact HB.out)) hb); clear HO393; clear HB; have HO393 := n0_; have HB := n1_; clear n0_ n1_; (try clear hb); (try clear hb2); (try clear hk); (try clear hi)) | (go_at_call 13; (with_reducible refine (impl_MacOf.calls kj5 x6_5 t388 t404 _ A21.out).mono ?_); rintro e w48 ⟨rfl, hb⟩; have n0_ := Aside0.mk (Kd.R_below (by (with_reducible repeat (first | apply Kd.R_alloc | apply Kd.R_drewN | apply Kd.R_drew)); exact HO393.out) hb); have n1_ := Aside0.mk (below_step (by repeat (first | (with_reducible first | exact HB.out | apply below_alloc | apply pw_below_drewN | apply below_drew1) | exact HB.out)) hb); clear HO393; clear HB; have HO393 := n0_; have HB := n1_; clear n0_ n1_; (try clear hb); (try clear hb2); (try clear hk); (try clear hi); have p405 : 0 ≤ (0 : Int) := (by omega); have q405 : 0 < (t391.length : Int) := of_decide_eq_true (by first | (with_reducible assumption) | assumption); obtain ⟨ad405, e405, hx405_0⟩ := Kd.at_int (Kd.R_reads' HO393.out).2.2 0 p405 q405; obtain rfl : ad394 = ad405 := (by injection e405); have qi405 : (0 < t391.length) = True := eq_true (by omega); (try rw [show ((0 : Int)).toNat = 0 from rfl] at hx405_0); (try rw [Addr.add_zero'] at hx405_0); replace p405 := eq_true p405; replace q405 := eq_true q405) | (go_at_call 17; (with_reducible refine (laws_begins.calls t395 t399 true _ A35.out).mono ?_); rintro e w' ⟨rfl, ⟨nd, rfl⟩⟩) | (go_at_call 18; (with_reducible refine (impl_SameMac.calls t389 t389 true _ A37.out).mono ?_); rintro e w' ⟨rfl, ⟨nd, rfl⟩⟩) | (go_at_call 19; (with_reducible refine (laws_turned.calls t389 _ _ t391 t408 _ ?side1 ?side2 A39.out).mono ?_); (case side1 => repeat (first | exact (Kd.R_reads' HO393.out).2.2 | (with_reducible refine Kd.C_alloc ?_ _) | (with_reducible refine Kd.C_drewN ?_ _) | (with_reducible refine Kd.C_drew ?_))); (case side2 => exact (Kd.R_reads' HO393.out).2.1); rintro e w49 ⟨rfl, hb⟩; have n0_ := Aside0.mk (Kd.R_below (by (with_reducible repeat (first | apply Kd.R_alloc | apply Kd.R_drewN | apply Kd.R_drew)); exact HO393.out) hb); have n1_ := Aside0.mk (below_step (by repeat (first | (with_reducible first | exact HB.out | apply below_alloc | apply pw_below_drewN | apply below_drew1) | exact HB.out)) hb); clear HO393; clear HB; have HO393 := n0_; have HB := n1_; clear n0_ n1_; (try clear hb); (try clear hb2); (try clear hk); (try clear hi)) | (go_at_call 18; (with_reducible refine (impl_SameMac.calls t389 t408 t409 _ A40.out).mono ?_); rintro e w' ⟨rfl, ⟨nd, rfl⟩⟩))
               go_ret
               exact ⟨by first | rfl | (simp [errW_none, errW_some] <;> rfl) | (simp [*, errW_none, errW_some] <;> rfl), by repeat (first | (with_reducible first | exact HB.out | apply below_alloc | apply pw_below_drewN | apply below_drew1) | exact HB.out)⟩
              ·
               replace c38 := Bool.eq_false_iff.mpr c38
               subst c38
               have H1 : (some false) = some r := by rw [if_neg (show ¬ (false = true) by decide)] at H; exact H
               clear H
               have H := H1
               clear H1
               obtain rfl := Option.some.inj H
               exact absurd hr_.out (by decide)
             ·
              replace c36 := Bool.eq_false_iff.mpr c36
              subst c36
              have H1 : (some false) = some r := by rw [if_neg (show ¬ (false = true) by decide)] at H; exact H
              clear H
              have H := H1
              clear H1
              obtain rfl := Option.some.inj H
              exact absurd hr_.out (by decide)
            ·
             rw [if_neg c34] at H
             have c34b0 : ((t395.size : Int) == (Int.tmod (rd t391 0) 90)) = false := beq_eq_false_iff_ne.mpr c34
             have c34b1 : ((t395.size : Int) != (Int.tmod (rd t391 0) 90)) = true := bne_iff_ne.mpr c34
             obtain rfl := Option.some.inj H
             exact absurd hr_.out (by decide)
          ·
           replace c24 := Bool.eq_false_iff.mpr c24
           subst c24
           have H1 : (some false) = some r := by rw [if_neg (show ¬ (false = true) by decide)] at H; exact H
           clear H
           have H := H1
           clear H1
           obtain rfl := Option.some.inj H
           exact absurd hr_.out (by decide)
         ·
          replace c23 := Bool.eq_false_iff.mpr c23
          subst c23
          have H1 : (some false) = some r := by rw [if_neg (show ¬ (false = true) by decide)] at H; exact H
          clear H
          have H := H1
          clear H1
          obtain rfl := Option.some.inj H
          exact absurd hr_.out (by decide)
        ·
         rw [if_neg c22] at H
         have c22b0 : (t389.toList == t404.toList) = false := beq_eq_false_iff_ne.mpr c22
         have c22b1 : (t389.toList != t404.toList) = true := bne_iff_ne.mpr c22
         obtain rfl := Option.some.inj H
         exact absurd hr_.out (by decide)
       ·
        rw [if_neg c20] at H
        have c20b0 : (t389.toList == t403.toList) = false := beq_eq_false_iff_ne.mpr c20
        have c20b1 : (t389.toList != t403.toList) = true := bne_iff_ne.mpr c20
        obtain rfl := Option.some.inj H
        exact absurd hr_.out (by decide)
      ·
       rw [if_neg c18] at H
       have c18b0 : ((t389.size : Int) == 32) = false := beq_eq_false_iff_ne.mpr c18
       have c18b1 : ((t389.size : Int) != 32) = true := bne_iff_ne.mpr c18
       obtain rfl := Option.some.inj H
       exact absurd hr_.out (by decide)
     ·
      rw [if_neg c15] at H
      exact absurd H (by simp)
    ·
     rw [if_neg c13] at H
     exact absurd H (by simp)
def laws_FnMacs.Pure : Prop := ∀ (l0 : List Int), l0.length ≤ maxLen → l0.length * 1 ≤ 140737488351232 → (∀ x ∈ l0, (Lit.int .u8 x).wf = true) → ∃ k, laws_FnMacs.f k l0 = some true
theorem laws_FnMacs.walk (P : laws_FnMacs.Pure) (a0 : Option Addr) (len0 cap0 : Nat) (z0 : List Int) (w : World) (w0 : (a0 = none ∧ len0 = 0 ∧ cap0 = 0 ∧ z0 = []) ∨ ∃ x, a0 = some x ∧ len0 ≤ cap0 ∧ cap0 ≤ maxLen ∧ z0.length = cap0 ∧ (∀ i, i < z0.length → w.cell? (x.add i) = some (.int .u8 (z0.getD i 0))) ∧ ∀ n ∈ z0, (Lit.int .u8 n).wf = true) (y0 : len0 * 1 ≤ 140737488351232) :
  Calls Try.prog 5 #[.slice a0 len0 cap0] w fun e w' => e = .returned (.bool true) ∧ Below w.heap.size w w' := by
 obtain ⟨l0, rfl, hr0, hm0, hw0, hc0⟩ := ReadsInt.ofRowC w0
 obtain ⟨k, h⟩ := P l0 hm0 y0 hw0
 refine (laws_FnMacs.calls k _ _ l0 true w (Kd.C_of_reads (d := (0 : Int)) (h1 := fun _ => rfl) hr0) hc0 h ⟨rfl⟩).mono ?_
 rintro e w' ⟨rfl, hd⟩
 exact ⟨rfl, hd⟩
end Go.Proofs.Ytmjmnmcpfpbkeab.PFnMacs
