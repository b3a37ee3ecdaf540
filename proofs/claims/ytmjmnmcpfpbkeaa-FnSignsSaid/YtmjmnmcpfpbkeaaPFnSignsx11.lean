-- Written by this session's program wip/myprint.py, after the kit's print.
import Derived.Test.YtmjmnmcpfpbkeaaPFnSignsx0
import Derived.Test.YtmjmnmcpfpbkeaaPFnSignsx1
import Derived.Test.YtmjmnmcpfpbkeaaPFnSignsx2
import Derived.Test.YtmjmnmcpfpbkeaaPFnSignsx4
import Derived.Test.YtmjmnmcpfpbkeaaPFnSignsx5
import Derived.Test.YtmjmnmcpfpbkeaaPFnSignsx9
import Derived.Test.YtmjmnmcpfpbkeaaPFnSignsx10
namespace Go.Proofs.Ytmjmnmcpfpbkeaa.PFnSigns
open Go.RowKit Go.Proofs.YtmjmnmcpfpbkeaaW.PrintWords Go.Proofs.YtmjmnmcpfpbkeaaW.PrintLast Go.Proofs.YtmjmnmcpfpbkeaaW.PrintMore
attribute [local go_sem] max2_int min2_int max_two min_two max_three min_three max_four min_four   -- for this text's walks alone
set_option linter.unusedVariables false
set_option linter.unusedSimpArgs false
attribute [local go_sem high] eqA35
def spec_CheckText.j0 : Nat → Int → ByteArray → Bool → Int → Int → Option (Bool)
 | 0, _, _, _, _, _ => none
 | k + 1, x0, x1, x22, x396000, x396001 => if x22 = true then (some false) else ((spec_PowP.f k 4 x396001).bind fun t399 => ((spec_PowP.f k x0 (wrap64 (1073741789 - x396000))).bind fun t400 => ((spec_MulP.f t399 t400).bind fun t401 => ((spec_Challenge.f k t401 x0 x1).bind fun t402 => (some (x396000 == t402))))))
def spec_CheckText.f (k : Nat) (a0 : Int) (a1 : ByteArray) (a2_0 : Int) (a2_1 : Int) : Option (Bool) := (spec_InGroup.f k a0).bind fun t396 => (if t396 = true then ((spec_l01In.f a2_0 0 1073741788).bind fun t397 => (if t397 = true then ((spec_l01In.f a2_1 0 1073741788).bind fun t398 => (spec_CheckText.j0 k a0 a1 (!t398) a2_0 a2_1)) else (spec_CheckText.j0 k a0 a1 true a2_0 a2_1))) else (spec_CheckText.j0 k a0 a1 true a2_0 a2_1))
theorem spec_CheckText.mono_l : ∀ k, (∀ y0 y1 y2 y3 y4, LeO (spec_CheckText.j0 k y0 y1 y2 y3 y4) (spec_CheckText.j0 (k + 1) y0 y1 y2 y3 y4))
 | 0 => fun _ _ _ _ _ r h => by simp [spec_CheckText.j0] at h
 | k + 1 => by
  have ih0 := spec_CheckText.mono_l k
  ·
   intro y0 y1 y2 y3 y4
   unfold spec_CheckText.j0
   repeat' first
   | (with_reducible exact ih0 _ _ _ _ _)
   | (with_reducible exact spec_Challenge.mono _ _ _ _)
   | (with_reducible exact spec_InGroup.mono _ _)
   | (with_reducible exact spec_PowP.mono _ _ _)
   | (with_reducible exact LeO.refl _)
   | (with_reducible exact LeO.none _)
   | (with_reducible refine LeO.ite ?_ ?_)
   | (with_reducible refine LeO.bind ?_ (fun _ => ?_))
   | exact ih0 _ _ _ _ _
   | exact spec_Challenge.mono _ _ _ _
   | exact spec_InGroup.mono _ _
   | exact spec_PowP.mono _ _ _
   | exact LeO.none _
   | refine LeO.ite ?_ ?_
   | refine LeO.bind ?_ (fun _ => ?_)
theorem spec_CheckText.mono : ∀ a0 a1 a2 a3 k, LeO (spec_CheckText.f k a0 a1 a2 a3) (spec_CheckText.f (k + 1) a0 a1 a2 a3) := by
 intro a0 a1 a2 a3 k
 have ih0 := spec_CheckText.mono_l k
 unfold spec_CheckText.f
 repeat' first
   | (with_reducible exact ih0 _ _ _ _ _)
   | (with_reducible exact spec_Challenge.mono _ _ _ _)
   | (with_reducible exact spec_InGroup.mono _ _)
   | (with_reducible exact spec_PowP.mono _ _ _)
   | (with_reducible exact LeO.refl _)
   | (with_reducible exact LeO.none _)
   | (with_reducible refine LeO.ite ?_ ?_)
   | (with_reducible refine LeO.bind ?_ (fun _ => ?_))
   | exact ih0 _ _ _ _ _
   | exact spec_Challenge.mono _ _ _ _
   | exact spec_InGroup.mono _ _
   | exact spec_PowP.mono _ _ _
   | exact LeO.none _
   | refine LeO.ite ?_ ?_
   | refine LeO.bind ?_ (fun _ => ?_)
def spec_CheckText.T3 : Bool × List (List Nat × List Nat) := (true, [([], []), ([0], [0]), ([1], [1]), ([], []), ([], []), ([4], [4]), ([5], [5]), ([3, 6, 2], [3, 6]), ([2, 7, 7], [2, 7]), ([8, 8, 0, 1, 2, 3, 4, 5, 6, 7, 8], [8])])
def spec_CheckText.B3 : List Nat := [0, 1, 3, 0, 0, 16, 48, 127, 255, 511]
theorem spec_CheckText.tab3 : rtab .any (opsOf Try.f23 3) = spec_CheckText.T3 := by kernel_rfl
theorem spec_CheckText.bits3 : waitsOk spec_CheckText.T3.2 spec_CheckText.B3 = true := by kernel_rfl
def spec_CheckText.T4 : Bool × List (List Nat × List Nat) := (true, [([], []), ([0], [0]), ([], []), ([], []), ([], []), ([2, 3, 4], [2, 3, 4]), ([1, 5], [1, 5]), ([6, 5, 0, 1, 2, 3, 4, 5, 6], [6])])
def spec_CheckText.B4 : List Nat := [0, 1, 0, 0, 0, 28, 63, 127]
theorem spec_CheckText.tab4 : rtab .any (opsOf Try.f23 4) = spec_CheckText.T4 := by kernel_rfl
theorem spec_CheckText.bits4 : waitsOk spec_CheckText.T4.2 spec_CheckText.B4 = true := by kernel_rfl
set_option maxHeartbeats 8000000 in
set_option maxRecDepth 100000 in
theorem spec_CheckText.calls (k : Nat) (a0 : Int) (a1 : ByteArray) (a2_0 : Int) (a2_1 : Int) (r : Bool) (w : World) (h : spec_CheckText.f k a0 a1 a2_0 a2_1 = some r) :
  Calls Try.prog 23 #[.int .i64 a0, .string a1, .agg #[.int .i64 a2_0, .int .i64 a2_1]] w fun e w' => e = .returned (.bool r) ∧ Below w.heap.size w w' := by
 have hu35 := Try.underlying35
 have HB := Aside0.mk (Below.refl w.heap.size w)
 have H : ((spec_InGroup.f k a0).bind fun t396 => (if t396 = true then ((spec_l01In.f a2_0 0 1073741788).bind fun t397 => (if t397 = true then ((spec_l01In.f a2_1 0 1073741788).bind fun t398 => (spec_CheckText.j0 k a0 a1 (!t398) a2_0 a2_1)) else (spec_CheckText.j0 k a0 a1 true a2_0 a2_1))) else (spec_CheckText.j0 k a0 a1 true a2_0 a2_1))) = some r := h
 clear h
 have HC4 := Aside0.mk H
 clear H
 go_enter Try.func23, Try.ntmps23
 go_upto_region 1 with (first | ((with_reducible refine gate_dst (N := 5) rfl ?_); refine box_event ?hg (N := 5) ?hd (cs := #[.int .i64 a2_0, .int .i64 a2_1]) (t := 35) ?hr ?_; (case hd => rfl); (case hg => rfl); (case hr => first | (go_simp; done) | (go_simp; rfl)); intro gb395 hg w5 hbox hb; have n0_ := Aside0.mk (below_step (by repeat (first | (with_reducible first | exact HB.out | apply below_alloc | apply pw_below_drewN | apply below_drew1) | exact HB.out)) hb); have n1_ := Aside0.mk (hbox); have n2_ := Aside0.mk ((by rw [hg]; exact (below_size (by repeat (first | (with_reducible first | exact HB.out | apply below_alloc | apply pw_below_drewN | apply below_drew1) | exact HB.out))) : w.heap.size ≤ gb395)); have n3_ := Aside0.mk ((by rw [hg]; exact (below_size (by repeat (first | (with_reducible first | exact HB.out | apply below_alloc | apply pw_below_drewN | apply below_drew1) | exact HB.out))) : w.heap.size ≤ gb395)); clear HB; have HB := n0_; have BK395 := n1_; have GW395 := n2_; have GE395 := n3_; clear n0_ n1_ n2_ n3_; clear hb hbox hg))
 (try simp only [Act.put, List.setIfInBounds_toArray, List.set_cons_zero, List.set_cons_succ])
 go_cut [22] (fun v22 wc => ∃ (kq : Nat) (x22_3 : Bool), v22 = .bool x22_3 ∧ Aside0 (spec_CheckText.j0 kq a0 a1 x22_3 a2_0 a2_1 = some r) ∧ Aside0 (kq ≤ k) ∧ Aside0 (wc.heap[gb395]? = some (.cells #[.int .i64 a2_0, .int .i64 a2_1] 35 (0, 0))) ∧ Aside0 (Below w.heap.size w wc))
 case first =>
  have H := HC4.out
  clear HC4
  replace H := Option.bind_eq_some_iff.mp H
  obtain ⟨t396, A60, H⟩ := H
  replace H : (if t396 = true then ((spec_l01In.f a2_0 0 1073741788).bind fun t397 => (if t397 = true then ((spec_l01In.f a2_1 0 1073741788).bind fun t398 => (spec_CheckText.j0 k a0 a1 (!t398) a2_0 a2_1)) else (spec_CheckText.j0 k a0 a1 true a2_0 a2_1))) else (spec_CheckText.j0 k a0 a1 true a2_0 a2_1)) = some r := H
  have A6 := Aside0.mk A60
  clear A60
  by_cases c7 : t396 = true
  ·
   subst c7
   have H1 : ((spec_l01In.f a2_0 0 1073741788).bind fun t397 => (if t397 = true then ((spec_l01In.f a2_1 0 1073741788).bind fun t398 => (spec_CheckText.j0 k a0 a1 (!t398) a2_0 a2_1)) else (spec_CheckText.j0 k a0 a1 true a2_0 a2_1))) = some r := by rw [if_pos rfl] at H; exact H
   clear H
   have H := H1
   clear H1
   replace H := Option.bind_eq_some_iff.mp H
   obtain ⟨t397, A80, H⟩ := H
   replace H : (if t397 = true then ((spec_l01In.f a2_1 0 1073741788).bind fun t398 => (spec_CheckText.j0 k a0 a1 (!t398) a2_0 a2_1)) else (spec_CheckText.j0 k a0 a1 true a2_0 a2_1)) = some r := H
   have A8 := Aside0.mk A80
   clear A80
   by_cases c9 : t397 = true
   ·
    subst c9
    have H1 : ((spec_l01In.f a2_1 0 1073741788).bind fun t398 => (spec_CheckText.j0 k a0 a1 (!t398) a2_0 a2_1)) = some r := by rw [if_pos rfl] at H; exact H
    clear H
    have H := H1
    clear H1
    replace H := Option.bind_eq_some_iff.mp H
    obtain ⟨t398, A100, H⟩ := H
    replace H : (spec_CheckText.j0 k a0 a1 (!t398) a2_0 a2_1) = some r := H
    have A10 := Aside0.mk A100
    clear A100
    have H' := Aside0.mk H
    clear H
    go_wp2_with (first | ((with_reducible refine gate_callee (f := 53) rfl ?_); refine goesL_ (some 9) rfl rfl Try.func53 (by kernel_rfl) rfl #[.int .i64 a0] rfl (by (try simp only [List.map_toArray, List.map_cons, List.map_nil]); first | done | rfl | (simp only [List.length_drop, List.length_take]; rfl)) ?_; (with_reducible refine (spec_InGroup.calls k a0 true _ A6.out).mono ?_); rintro e w' ⟨rfl, ⟨nd, rfl⟩⟩; refine ⟨_, rfl, ?_⟩; have hcz11_0 : w5.cell? ⟨gb395, 0, none⟩ = some (.int .i64 a2_0) := (blk_cell BK395.out 0).trans rfl; have hcz11_1 : w5.cell? ⟨gb395, 1, none⟩ = some (.int .i64 a2_1) := (blk_cell BK395.out 1).trans rfl; have hfz11_0 := blk_frozen BK395.out 0; have hfz11_1 := blk_frozen BK395.out 1) | (go_at_call 42; (with_reducible refine (spec_l01In.calls a2_0 0 1073741788 true _ A8.out).mono ?_); rintro e w' ⟨rfl, ⟨nd, rfl⟩⟩) | (go_at_call 42; (with_reducible refine (spec_l01In.calls a2_1 0 1073741788 t398 _ A10.out).mono ?_); rintro e w' ⟨rfl, ⟨nd, rfl⟩⟩))
    go_meet
    case rel => exact ⟨_, (!t398), (by first | rfl | (simp; done) | (simp [*]; done)), H', ⟨by first | omega | exact Nat.le_refl _⟩, ⟨by (with_reducible repeat (first | refine blk_drewN ?_ _ | refine blk_drew ?_ | refine blk_alloc ?_ _)); exact BK395.out⟩, ⟨by repeat (first | (with_reducible first | exact HB.out | apply below_alloc | apply pw_below_drewN | apply below_drew1 | refine below_set ?_ GE395.out) | exact HB.out)⟩⟩
   ·
    replace c9 := Bool.eq_false_iff.mpr c9
    subst c9
    have H1 : (spec_CheckText.j0 k a0 a1 true a2_0 a2_1) = some r := by rw [if_neg (show ¬ (false = true) by decide)] at H; exact H
    clear H
    have H := H1
    clear H1
    have H' := Aside0.mk H
    clear H
    go_wp2_with (first | ((with_reducible refine gate_callee (f := 53) rfl ?_); refine goesL_ (some 9) rfl rfl Try.func53 (by kernel_rfl) rfl #[.int .i64 a0] rfl (by (try simp only [List.map_toArray, List.map_cons, List.map_nil]); first | done | rfl | (simp only [List.length_drop, List.length_take]; rfl)) ?_; (with_reducible refine (spec_InGroup.calls k a0 true _ A6.out).mono ?_); rintro e w' ⟨rfl, ⟨nd, rfl⟩⟩; refine ⟨_, rfl, ?_⟩; have hcz12_0 : w5.cell? ⟨gb395, 0, none⟩ = some (.int .i64 a2_0) := (blk_cell BK395.out 0).trans rfl; have hcz12_1 : w5.cell? ⟨gb395, 1, none⟩ = some (.int .i64 a2_1) := (blk_cell BK395.out 1).trans rfl; have hfz12_0 := blk_frozen BK395.out 0; have hfz12_1 := blk_frozen BK395.out 1) | (go_at_call 42; (with_reducible refine (spec_l01In.calls a2_0 0 1073741788 false _ A8.out).mono ?_); rintro e w' ⟨rfl, ⟨nd, rfl⟩⟩))
    go_meet
    case rel => exact ⟨_, (true), (by first | rfl | (simp; done) | (simp [*]; done)), H', ⟨by first | omega | exact Nat.le_refl _⟩, ⟨by (with_reducible repeat (first | refine blk_drewN ?_ _ | refine blk_drew ?_ | refine blk_alloc ?_ _)); exact BK395.out⟩, ⟨by repeat (first | (with_reducible first | exact HB.out | apply below_alloc | apply pw_below_drewN | apply below_drew1 | refine below_set ?_ GE395.out) | exact HB.out)⟩⟩
  ·
   replace c7 := Bool.eq_false_iff.mpr c7
   subst c7
   have H1 : (spec_CheckText.j0 k a0 a1 true a2_0 a2_1) = some r := by rw [if_neg (show ¬ (false = true) by decide)] at H; exact H
   clear H
   have H := H1
   clear H1
   have H' := Aside0.mk H
   clear H
   go_wp2_with (first | ((with_reducible refine gate_callee (f := 53) rfl ?_); refine goesL_ (some 9) rfl rfl Try.func53 (by kernel_rfl) rfl #[.int .i64 a0] rfl (by (try simp only [List.map_toArray, List.map_cons, List.map_nil]); first | done | rfl | (simp only [List.length_drop, List.length_take]; rfl)) ?_; (with_reducible refine (spec_InGroup.calls k a0 false _ A6.out).mono ?_); rintro e w' ⟨rfl, ⟨nd, rfl⟩⟩; refine ⟨_, rfl, ?_⟩))
   go_meet
   case rel => exact ⟨_, (true), (by first | rfl | (simp; done) | (simp [*]; done)), H', ⟨by first | omega | exact Nat.le_refl _⟩, ⟨by (with_reducible repeat (first | refine blk_drewN ?_ _ | refine blk_drew ?_ | refine blk_alloc ?_ _)); exact BK395.out⟩, ⟨by repeat (first | (with_reducible first | exact HB.out | apply below_alloc | apply pw_below_drewN | apply below_drew1 | refine below_set ?_ GE395.out) | exact HB.out)⟩⟩
 case rest =>
  clear HC4
  try clear c2; try clear p2; try clear c5; try clear c7; try clear c9; try clear hcz11_0; try clear hcz11_1; try clear hcz12_0; try clear hcz12_1; try clear hfz11_0; try clear hfz11_1; try clear hfz12_0; try clear hfz12_1
  obtain ⟨kq, x22_3, rfl, HA, HJ3, BK395, HB⟩ := hcut
  cases kq with
  | zero => exact absurd HA.out (by simp [spec_CheckText.j0])
  | succ kj3 =>
   have H := HA.out
   clear HA
   simp only [spec_CheckText.j0] at H
   by_cases c13 : x22_3 = true
   ·
    subst c13
    have H1 : (some false) = some r := by rw [if_pos rfl] at H; exact H
    clear H
    have H := H1
    clear H1
    obtain rfl := Option.some.inj H
    go_wp2
    go_ret
    exact ⟨by first | rfl | (simp [errW_none, errW_some] <;> rfl) | (simp [*, errW_none, errW_some] <;> rfl), by repeat (first | (with_reducible first | exact HB.out | apply below_alloc | apply pw_below_drewN | apply below_drew1 | refine below_set ?_ GE395.out) | exact HB.out)⟩
   ·
    replace c13 := Bool.eq_false_iff.mpr c13
    subst c13
    have H1 : ((spec_PowP.f kj3 4 a2_1).bind fun t399 => ((spec_PowP.f kj3 a0 (wrap64 (1073741789 - a2_0))).bind fun t400 => ((spec_MulP.f t399 t400).bind fun t401 => ((spec_Challenge.f kj3 t401 a0 a1).bind fun t402 => (some (a2_0 == t402)))))) = some r := by rw [if_neg (show ¬ (false = true) by decide)] at H; exact H
    clear H
    have H := H1
    clear H1
    replace H := Option.bind_eq_some_iff.mp H
    obtain ⟨t399, A140, H⟩ := H
    replace H : ((spec_PowP.f kj3 a0 (wrap64 (1073741789 - a2_0))).bind fun t400 => ((spec_MulP.f t399 t400).bind fun t401 => ((spec_Challenge.f kj3 t401 a0 a1).bind fun t402 => (some (a2_0 == t402))))) = some r := H
    have A14 := Aside0.mk A140
    clear A140
    replace H := Option.bind_eq_some_iff.mp H
    obtain ⟨t400, A150, H⟩ := H
    replace H : ((spec_MulP.f t399 t400).bind fun t401 => ((spec_Challenge.f kj3 t401 a0 a1).bind fun t402 => (some (a2_0 == t402)))) = some r := H
    have A15 := Aside0.mk A150
    clear A150
    replace H := Option.bind_eq_some_iff.mp H
    obtain ⟨t401, A160, H⟩ := H
    replace H : ((spec_Challenge.f kj3 t401 a0 a1).bind fun t402 => (some (a2_0 == t402))) = some r := H
    have A16 := Aside0.mk A160
    clear A160
    replace H := Option.bind_eq_some_iff.mp H
    obtain ⟨t402, A170, H⟩ := H
    replace H : (some (a2_0 == t402)) = some r := H
    have A17 := Aside0.mk A170
    clear A170
    obtain rfl := Option.some.inj H
    try go_wp2
    have n0_ := Aside0.mk (blk_drew BK395.out)
    have n1_ := Aside0.mk (below_drew1 HB.out)
    clear BK395
    clear HB
    have BK395 := n0_
    have HB := n1_
    clear n0_ n1_
    refine start_ (n := 10) (S := fun w' => w'.cell? ⟨gb395, 0, none⟩ = some (.int .i64 a2_0) ∧ w'.cell? ⟨gb395, 1, none⟩ = some (.int .i64 a2_1)) (ds := []) #[false, false, false, false, false, false, false, false, false, false] (by kernel_rfl) rfl rfl ⟨(blk_cell BK395.out 0).trans rfl, (blk_cell BK395.out 1).trans rfl⟩ (fun hHeld => ?_); refine with_tabW spec_CheckText.tab3 spec_CheckText.bits3 (fun HT_ HW_ => ?_)
    generalize wc.drew = w18 at BK395 HB hHeld ⊢
    refine pure_ (i := 0) (N := some 23) (v := ?_) (a' := ?_) #[true, false, false, false, false, false, false, false, false, false] rfl rfl (any_of HT_.out (by kernel_rfl)) (fun _ _ _ h => h) (Or.inl ⟨by rfl, ?_⟩) ?_ ?_
    rotate_left
    ·
     intro w'
     go_simp
     with_reducible rfl
    rotate_left
    ·
     simp only [Act.put, List.setIfInBounds_toArray, List.set_cons_zero, List.set_cons_succ, i64_w, i32_w]
     rfl
    refine pure_ (i := 3) (N := some 26) (v := ?_) (a' := ?_) #[true, false, false, true, false, false, false, false, false, false] rfl rfl (any_of HT_.out (by kernel_rfl)) (fun _ _ _ h => h) (Or.inl ⟨by rfl, ?_⟩) ?_ ?_
    rotate_left
    ·
     intro w'
     go_simp
     with_reducible rfl
    rotate_left
    ·
     simp only [Act.put, List.setIfInBounds_toArray, List.set_cons_zero, List.set_cons_succ, i64_w, i32_w]
     rfl
    refine pure_ (i := 4) (N := some 27) (v := ?_) (a' := ?_) #[true, false, false, true, true, false, false, false, false, false] rfl rfl (any_of HT_.out (by kernel_rfl)) (fun _ _ _ h => h) (Or.inl ⟨by rfl, ?_⟩) ?_ ?_
    rotate_left
    ·
     intro w'
     go_simp
     with_reducible rfl
    rotate_left
    ·
     simp only [Act.put, List.setIfInBounds_toArray, List.set_cons_zero, List.set_cons_succ, i64_w, i32_w]
     rfl
    refine take_ (i := 1) (N := some 24) (v := ?_) (a' := ?_) #[true, true, false, true, true, false, false, false, false, false] rfl rfl (take_ofW HT_.out HW_.out (by kernel_rfl)) (fun _ _ _ h => h) (Or.inl ⟨by rfl, ?_⟩) hHeld ?_ ?_
    rotate_left
    ·
     rintro w' ⟨s0, s1⟩
     go_simp
     with_reducible rfl
    rotate_left
    ·
     simp only [Act.put, List.setIfInBounds_toArray, List.set_cons_zero, List.set_cons_succ, i64_w, i32_w]
     rfl
    refine take_ (i := 5) (N := some 28) (v := ?_) (a' := ?_) #[true, true, false, true, true, true, false, false, false, false] rfl rfl (take_ofW HT_.out HW_.out (by kernel_rfl)) (fun _ _ _ h => h) (Or.inl ⟨by rfl, ?_⟩) hHeld ?_ ?_
    rotate_left
    ·
     rintro w' ⟨s0, s1⟩
     go_simp
     with_reducible rfl
    rotate_left
    ·
     simp only [Act.put, List.setIfInBounds_toArray, List.set_cons_zero, List.set_cons_succ, i64_w, i32_w]
     rfl
    refine pure_ (i := 6) (N := some 29) (v := ?_) (a' := ?_) #[true, true, false, true, true, true, true, false, false, false] rfl rfl (any_of HT_.out (by kernel_rfl)) (fun _ _ _ h => h) (Or.inl ⟨by rfl, ?_⟩) ?_ ?_
    rotate_left
    ·
     intro w'
     go_simp
     with_reducible rfl
    rotate_left
    ·
     simp only [Act.put, List.setIfInBounds_toArray, List.set_cons_zero, List.set_cons_succ, i64_w, i32_w]
     rfl
    refine one_ (i := 2) (N := some 25) #[true, true, true, true, true, true, true, false, false, false] rfl rfl (one_of HT_.out (by kernel_rfl)) (by decide) (fun K hK => ?_)
    refine goes_ Try.func55 (by kernel_rfl) rfl #[.int .i64 4, .int .i64 a2_1] (by rfl) rfl rfl (by (try simp only [List.map_toArray, List.map_cons, List.map_nil]); first | done | rfl | (simp only [List.length_drop, List.length_take]; rfl)) ?_
    with_reducible refine (spec_PowP.calls kj3 4 a2_1 t399 _ A14.out).mono ?_
    rintro e w' ⟨rfl, ⟨nd, rfl⟩⟩
    refine ⟨_, rfl, ?_⟩
    refine hK.out _ _ ⟨(blk_cell BK395.out 0).trans rfl, (blk_cell BK395.out 1).trans rfl⟩ (fun hHeld => ?_)
    clear hK K
    refine norm_ (a' := ?_) ?_ ?_
    rotate_left
    ·
     show Act.put _ (some 25) _ = _
     simp only [Act.put, List.setIfInBounds_toArray, List.set_cons_zero, List.set_cons_succ, i64_w, i32_w]
     rfl
    refine one_ (i := 7) (N := some 30) #[true, true, true, true, true, true, true, true, false, false] rfl rfl (one_of HT_.out (by kernel_rfl)) (by decide) (fun K hK => ?_)
    refine goes_ Try.func55 (by kernel_rfl) rfl #[.int .i64 a0, .int .i64 (wrap64 (1073741789 - a2_0))] (by rfl) rfl rfl (by (try simp only [List.map_toArray, List.map_cons, List.map_nil]); first | done | rfl | (simp only [List.length_drop, List.length_take]; rfl)) ?_
    with_reducible refine (spec_PowP.calls kj3 a0 (wrap64 (1073741789 - a2_0)) t400 _ A15.out).mono ?_
    rintro e w' ⟨rfl, ⟨nd, rfl⟩⟩
    refine ⟨_, rfl, ?_⟩
    refine hK.out _ _ ⟨(blk_cell BK395.out 0).trans rfl, (blk_cell BK395.out 1).trans rfl⟩ (fun hHeld => ?_)
    clear hK K
    refine norm_ (a' := ?_) ?_ ?_
    rotate_left
    ·
     show Act.put _ (some 30) _ = _
     simp only [Act.put, List.setIfInBounds_toArray, List.set_cons_zero, List.set_cons_succ, i64_w, i32_w]
     rfl
    refine one_ (i := 8) (N := some 31) #[true, true, true, true, true, true, true, true, true, false] rfl rfl (one_of HT_.out (by kernel_rfl)) (by decide) (fun K hK => ?_)
    refine goes_ Try.func54 (by kernel_rfl) rfl #[.int .i64 t399, .int .i64 t400] (by rfl) rfl rfl (by (try simp only [List.map_toArray, List.map_cons, List.map_nil]); first | done | rfl | (simp only [List.length_drop, List.length_take]; rfl)) ?_
    with_reducible refine (spec_MulP.calls t399 t400 t401 _ A16.out).mono ?_
    rintro e w' ⟨rfl, ⟨nd, rfl⟩⟩
    refine ⟨_, rfl, ?_⟩
    refine hK.out _ _ ⟨(blk_cell BK395.out 0).trans rfl, (blk_cell BK395.out 1).trans rfl⟩ (fun hHeld => ?_)
    clear hK K
    refine norm_ (a' := ?_) ?_ ?_
    rotate_left
    ·
     show Act.put _ (some 31) _ = _
     simp only [Act.put, List.setIfInBounds_toArray, List.set_cons_zero, List.set_cons_succ, i64_w, i32_w]
     rfl
    refine pure_ (i := 9) (N := some 7) (v := ?_) (a' := ?_) #[true, true, true, true, true, true, true, true, true, true] rfl rfl (any_of HT_.out (by kernel_rfl)) (fun _ _ _ h => h) (Or.inl ⟨by rfl, ?_⟩) ?_ ?_
    rotate_left
    ·
     intro w'
     go_simp
     with_reducible rfl
    rotate_left
    ·
     simp only [Act.put, List.setIfInBounds_toArray, List.set_cons_zero, List.set_cons_succ, i64_w, i32_w]
     rfl
    refine done_ (done_of HT_.out (by kernel_rfl)) ?_
    try go_wp2
    (try (rw [drewN_self w18]; generalize hq_ : World.drewN w18 _ = w18; have n0_ : Aside0 (w18.heap[gb395]? = some (.cells #[.int .i64 a2_0, .int .i64 a2_1] 35 (0, 0))) := ⟨by rw [← hq_]; exact (by (with_reducible repeat (first | refine blk_drewN ?_ _ | refine blk_drew ?_ | refine blk_alloc ?_ _)); exact BK395.out)⟩; have n1_ : Aside0 (Below w.heap.size w w18) := ⟨by rw [← hq_]; exact (by repeat (first | (with_reducible first | exact HB.out | apply below_alloc | apply pw_below_drewN | apply below_drew1 | refine below_set ?_ GE395.out) | exact HB.out))⟩; clear BK395 HB hq_; have BK395 := n0_; have HB := n1_; clear n0_ n1_))
    (try (rw [drewN_self w18]; generalize hq_ : World.drewN w18 _ = w18; have n0_ : Aside0 (w18.heap[gb395]? = some (.cells #[.int .i64 a2_0, .int .i64 a2_1] 35 (0, 0))) := ⟨by rw [← hq_]; exact (by (with_reducible repeat (first | refine blk_drewN ?_ _ | refine blk_drew ?_ | refine blk_alloc ?_ _)); exact BK395.out)⟩; have n1_ : Aside0 (Below w.heap.size w w18) := ⟨by rw [← hq_]; exact (by repeat (first | (with_reducible first | exact HB.out | apply below_alloc | apply pw_below_drewN | apply below_drew1 | refine below_set ?_ GE395.out) | exact HB.out))⟩; clear BK395 HB hq_; have BK395 := n0_; have HB := n1_; clear n0_ n1_))
    (try (rw [drewN_self w18]; generalize hq_ : World.drewN w18 _ = w18; have n0_ : Aside0 (w18.heap[gb395]? = some (.cells #[.int .i64 a2_0, .int .i64 a2_1] 35 (0, 0))) := ⟨by rw [← hq_]; exact (by (with_reducible repeat (first | refine blk_drewN ?_ _ | refine blk_drew ?_ | refine blk_alloc ?_ _)); exact BK395.out)⟩; have n1_ : Aside0 (Below w.heap.size w w18) := ⟨by rw [← hq_]; exact (by repeat (first | (with_reducible first | exact HB.out | apply below_alloc | apply pw_below_drewN | apply below_drew1 | refine below_set ?_ GE395.out) | exact HB.out))⟩; clear BK395 HB hq_; have BK395 := n0_; have HB := n1_; clear n0_ n1_))
    have n0_ := Aside0.mk (blk_drew BK395.out)
    have n1_ := Aside0.mk (below_drew1 HB.out)
    clear BK395
    clear HB
    have BK395 := n0_
    have HB := n1_
    clear n0_ n1_
    refine start_ (n := 8) (S := fun w' => w'.cell? ⟨gb395, 0, none⟩ = some (.int .i64 a2_0) ∧ w'.cell? ⟨gb395, 1, none⟩ = some (.int .i64 a2_1)) (ds := []) #[false, false, false, false, false, false, false, false] (by kernel_rfl) rfl rfl ⟨(blk_cell BK395.out 0).trans rfl, (blk_cell BK395.out 1).trans rfl⟩ (fun hHeld => ?_); refine with_tabW spec_CheckText.tab4 spec_CheckText.bits4 (fun HT_ HW_ => ?_)
    generalize w18.drew = w19 at BK395 HB hHeld ⊢
    refine pure_ (i := 0) (N := some 32) (v := ?_) (a' := ?_) #[true, false, false, false, false, false, false, false] rfl rfl (any_of HT_.out (by kernel_rfl)) (fun _ _ _ h => h) (Or.inl ⟨by rfl, ?_⟩) ?_ ?_
    rotate_left
    ·
     intro w'
     go_simp
     with_reducible rfl
    rotate_left
    ·
     simp only [Act.put, List.setIfInBounds_toArray, List.set_cons_zero, List.set_cons_succ, i64_w, i32_w]
     rfl
    refine pure_ (i := 2) (N := some 34) (v := ?_) (a' := ?_) #[true, false, true, false, false, false, false, false] rfl rfl (any_of HT_.out (by kernel_rfl)) (fun _ _ _ h => h) (Or.inl ⟨by rfl, ?_⟩) ?_ ?_
    rotate_left
    ·
     intro w'
     go_simp
     with_reducible rfl
    rotate_left
    ·
     simp only [Act.put, List.setIfInBounds_toArray, List.set_cons_zero, List.set_cons_succ, i64_w, i32_w]
     rfl
    refine pure_ (i := 3) (N := some 35) (v := ?_) (a' := ?_) #[true, false, true, true, false, false, false, false] rfl rfl (any_of HT_.out (by kernel_rfl)) (fun _ _ _ h => h) (Or.inl ⟨by rfl, ?_⟩) ?_ ?_
    rotate_left
    ·
     intro w'
     go_simp
     with_reducible rfl
    rotate_left
    ·
     simp only [Act.put, List.setIfInBounds_toArray, List.set_cons_zero, List.set_cons_succ, i64_w, i32_w]
     rfl
    refine pure_ (i := 4) (N := some 36) (v := ?_) (a' := ?_) #[true, false, true, true, true, false, false, false] rfl rfl (any_of HT_.out (by kernel_rfl)) (fun _ _ _ h => h) (Or.inl ⟨by rfl, ?_⟩) ?_ ?_
    rotate_left
    ·
     intro w'
     go_simp
     with_reducible rfl
    rotate_left
    ·
     simp only [Act.put, List.setIfInBounds_toArray, List.set_cons_zero, List.set_cons_succ, i64_w, i32_w]
     rfl
    refine take_ (i := 1) (N := some 33) (v := ?_) (a' := ?_) #[true, true, true, true, true, false, false, false] rfl rfl (take_ofW HT_.out HW_.out (by kernel_rfl)) (fun _ _ _ h => h) (Or.inl ⟨by rfl, ?_⟩) hHeld ?_ ?_
    rotate_left
    ·
     rintro w' ⟨s0, s1⟩
     go_simp
     with_reducible rfl
    rotate_left
    ·
     simp only [Act.put, List.setIfInBounds_toArray, List.set_cons_zero, List.set_cons_succ, i64_w, i32_w]
     rfl
    refine one_ (i := 5) (N := some 37) #[true, true, true, true, true, true, false, false] rfl rfl (one_of HT_.out (by kernel_rfl)) (by decide) (fun K hK => ?_)
    refine goes_ Try.func30 (by kernel_rfl) rfl #[.int .i64 t401, .int .i64 a0, .string a1] (by rfl) rfl rfl (by (try simp only [List.map_toArray, List.map_cons, List.map_nil]); first | done | rfl | (simp only [List.length_drop, List.length_take]; rfl)) ?_
    with_reducible refine (spec_Challenge.calls kj3 t401 a0 a1 t402 _ A17.out).mono ?_
    rintro e w20 ⟨rfl, hb⟩
    refine ⟨_, rfl, ?_⟩
    have n0_ := Aside0.mk (blk_below (g := gb395) (o := .cells #[.int .i64 a2_0, .int .i64 a2_1] 35 (0, 0)) (by (with_reducible repeat (first | refine blk_drewN ?_ _ | refine blk_drew ?_ | refine blk_alloc ?_ _)); exact BK395.out) hb)
    have n1_ := Aside0.mk (below_step (by repeat (first | (with_reducible first | exact HB.out | apply below_alloc | apply pw_below_drewN | apply below_drew1 | refine below_set ?_ GE395.out) | exact HB.out)) hb)
    clear BK395
    clear HB
    have BK395 := n0_
    have HB := n1_
    clear n0_ n1_
    (try clear hb)
    (try clear hb2)
    (try clear hk)
    (try clear hi)
    refine hK.out _ _ ⟨(blk_cell BK395.out 0).trans rfl, (blk_cell BK395.out 1).trans rfl⟩ (fun hHeld => ?_)
    clear hK K
    refine norm_ (a' := ?_) ?_ ?_
    rotate_left
    ·
     show Act.put _ (some 37) _ = _
     simp only [Act.put, List.setIfInBounds_toArray, List.set_cons_zero, List.set_cons_succ, i64_w, i32_w]
     rfl
    refine pure_ (i := 6) (N := some 38) (v := ?_) (a' := ?_) #[true, true, true, true, true, true, true, false] rfl rfl (any_of HT_.out (by kernel_rfl)) (fun _ _ _ h => h) (Or.inl ⟨by rfl, ?_⟩) ?_ ?_
    rotate_left
    ·
     intro w'
     go_simp
     with_reducible rfl
    rotate_left
    ·
     simp only [Act.put, List.setIfInBounds_toArray, List.set_cons_zero, List.set_cons_succ, i64_w, i32_w]
     rfl
    refine pure_ (i := 7) (N := some 6) (v := ?_) (a' := ?_) #[true, true, true, true, true, true, true, true] rfl rfl (any_of HT_.out (by kernel_rfl)) (fun _ _ _ h => h) (Or.inl ⟨by rfl, ?_⟩) ?_ ?_
    rotate_left
    ·
     intro w'
     go_simp
     with_reducible rfl
    rotate_left
    ·
     simp only [Act.put, List.setIfInBounds_toArray, List.set_cons_zero, List.set_cons_succ, i64_w, i32_w]
     rfl
    refine done_ (done_of HT_.out (by kernel_rfl)) ?_
    try go_wp2
    go_ret
    exact ⟨by first | rfl | (simp [errW_none, errW_some] <;> rfl) | (simp [*, errW_none, errW_some] <;> rfl), by repeat (first | (with_reducible first | exact HB.out | apply below_alloc | apply pw_below_drewN | apply below_drew1 | refine below_set ?_ GE395.out) | exact HB.out)⟩
def laws_FnSigns.f (k : Nat) (l0 : List Int) : Option (Bool) := (laws_big.f l0).bind fun t403 => (if t403 = true then (some true) else ((spec_DrawSecretOf.f k l0).bind fun t404 => ((impl_SecretOf.f k t404).bind fun t405 => ((impl_PublicOf.f k t405).bind fun t406 => (if t404.size + 1 ≤ 9223372036854775807 then ((impl_SignText.f k t405 (t404 ++ (⟨#[109]⟩ : ByteArray))).bind fun bt407 => ((impl_SigText.f bt407.1 bt407.2.1).bind fun bt411 => ((impl_ReadSig.f bt411.1).bind fun bt413 => ((impl_SignText.f k 0 t404).bind fun bt417 => (if bt407.2.2 = true then (if bt411.2 = true then (if bt413.2.2 = true then (if (bt413.1 == bt407.1 && (bt413.2.1 == bt407.2.1)) = true then (if bt417.2.2 = true then (some false) else (if t405 ≥ 1 then (if t405 < 1073741789 then ((spec_SecretOf.f k t404).bind fun t421 => (if t405 = t421 then ((impl_InGroup.f k t406).bind fun t422 => (if t422 = true then ((impl_CheckText.f k t406 (t404 ++ (⟨#[109]⟩ : ByteArray)) bt407.1 bt407.2.1).bind fun t423 => (if t423 = true then ((spec_CheckText.f k t406 (t404 ++ (⟨#[109]⟩ : ByteArray)) bt413.1 bt413.2.1).bind fun t424 => (if t424 = true then (some ((bt411.1.size : Int) == 8)) else (some false))) else (some false))) else (some false))) else (some false))) else (some false)) else (some false))) else (some false)) else (some false)) else (some false)) else (some false)))))) else (none))))))
theorem laws_FnSigns.mono : ∀ a0 k, LeO (laws_FnSigns.f k a0) (laws_FnSigns.f (k + 1) a0) := by
 intro a0 k
 unfold laws_FnSigns.f
 repeat' first
   | (with_reducible exact impl_CheckText.mono _ _ _ _ _)
   | (with_reducible exact impl_InGroup.mono _ _)
   | (with_reducible exact impl_PublicOf.mono _ _)
   | (with_reducible exact impl_SecretOf.mono _ _)
   | (with_reducible exact impl_SignText.mono _ _ _)
   | (with_reducible exact spec_CheckText.mono _ _ _ _ _)
   | (with_reducible exact spec_DrawSecretOf.mono _ _)
   | (with_reducible exact spec_SecretOf.mono _ _)
   | (with_reducible exact LeO.refl _)
   | (with_reducible exact LeO.none _)
   | (with_reducible refine LeO.ite ?_ ?_)
   | (with_reducible refine LeO.bind ?_ (fun _ => ?_))
   | exact impl_CheckText.mono _ _ _ _ _
   | exact impl_InGroup.mono _ _
   | exact impl_PublicOf.mono _ _
   | exact impl_SecretOf.mono _ _
   | exact impl_SignText.mono _ _ _
   | exact spec_CheckText.mono _ _ _ _ _
   | exact spec_DrawSecretOf.mono _ _
   | exact spec_SecretOf.mono _ _
   | exact LeO.none _
   | refine LeO.ite ?_ ?_
   | refine LeO.bind ?_ (fun _ => ?_)
set_option maxHeartbeats 8000000 in
set_option maxRecDepth 100000 in
theorem laws_FnSigns.calls (k : Nat) (A0 : Option Addr) (c0 : Nat) (l0 : List Int) (r : Bool) (w : World) (hr0 : Kd.C (Kd.int .u8) w A0 l0.length l0) (hc0 : l0.length ≤ c0) (h : laws_FnSigns.f k l0 = some r) (hr_ : Aside0 (r = true)) :
  Calls Try.prog 4 #[.slice A0 l0.length c0] w fun e w' => e = .returned (.bool r) ∧ Below w.heap.size w w' := by
 have hu35 := Try.underlying35
 have HR0 := Aside0.mk hr0
 have HC0 := Aside0.mk hc0
 clear hr0 hc0
 have HB := Aside0.mk (Below.refl w.heap.size w)
 have H : ((laws_big.f l0).bind fun t403 => (if t403 = true then (some true) else ((spec_DrawSecretOf.f k l0).bind fun t404 => ((impl_SecretOf.f k t404).bind fun t405 => ((impl_PublicOf.f k t405).bind fun t406 => (if t404.size + 1 ≤ 9223372036854775807 then ((impl_SignText.f k t405 (t404 ++ (⟨#[109]⟩ : ByteArray))).bind fun bt407 => ((impl_SigText.f bt407.1 bt407.2.1).bind fun bt411 => ((impl_ReadSig.f bt411.1).bind fun bt413 => ((impl_SignText.f k 0 t404).bind fun bt417 => (if bt407.2.2 = true then (if bt411.2 = true then (if bt413.2.2 = true then (if (bt413.1 == bt407.1 && (bt413.2.1 == bt407.2.1)) = true then (if bt417.2.2 = true then (some false) else (if t405 ≥ 1 then (if t405 < 1073741789 then ((spec_SecretOf.f k t404).bind fun t421 => (if t405 = t421 then ((impl_InGroup.f k t406).bind fun t422 => (if t422 = true then ((impl_CheckText.f k t406 (t404 ++ (⟨#[109]⟩ : ByteArray)) bt407.1 bt407.2.1).bind fun t423 => (if t423 = true then ((spec_CheckText.f k t406 (t404 ++ (⟨#[109]⟩ : ByteArray)) bt413.1 bt413.2.1).bind fun t424 => (if t424 = true then (some ((bt411.1.size : Int) == 8)) else (some false))) else (some false))) else (some false))) else (some false))) else (some false)) else (some false))) else (some false)) else (some false)) else (some false)) else (some false)))))) else (none))))))) = some r := h
 clear h
 replace H := Option.bind_eq_some_iff.mp H
 obtain ⟨t403, A20, H⟩ := H
 replace H : (if t403 = true then (some true) else ((spec_DrawSecretOf.f k l0).bind fun t404 => ((impl_SecretOf.f k t404).bind fun t405 => ((impl_PublicOf.f k t405).bind fun t406 => (if t404.size + 1 ≤ 9223372036854775807 then ((impl_SignText.f k t405 (t404 ++ (⟨#[109]⟩ : ByteArray))).bind fun bt407 => ((impl_SigText.f bt407.1 bt407.2.1).bind fun bt411 => ((impl_ReadSig.f bt411.1).bind fun bt413 => ((impl_SignText.f k 0 t404).bind fun bt417 => (if bt407.2.2 = true then (if bt411.2 = true then (if bt413.2.2 = true then (if (bt413.1 == bt407.1 && (bt413.2.1 == bt407.2.1)) = true then (if bt417.2.2 = true then (some false) else (if t405 ≥ 1 then (if t405 < 1073741789 then ((spec_SecretOf.f k t404).bind fun t421 => (if t405 = t421 then ((impl_InGroup.f k t406).bind fun t422 => (if t422 = true then ((impl_CheckText.f k t406 (t404 ++ (⟨#[109]⟩ : ByteArray)) bt407.1 bt407.2.1).bind fun t423 => (if t423 = true then ((spec_CheckText.f k t406 (t404 ++ (⟨#[109]⟩ : ByteArray)) bt413.1 bt413.2.1).bind fun t424 => (if t424 = true then (some ((bt411.1.size : Int) == 8)) else (some false))) else (some false))) else (some false))) else (some false))) else (some false)) else (some false))) else (some false)) else (some false)) else (some false)) else (some false)))))) else (none)))))) = some r := H
 have A2 := Aside0.mk A20
 clear A20
 by_cases c3 : t403 = true
 ·
  subst c3
  have H1 : (some true) = some r := by rw [if_pos rfl] at H; exact H
  clear H
  have H := H1
  clear H1
  obtain rfl := Option.some.inj H
  go_enter Try.func4, Try.ntmps4
  go_wp2_with (first | ((with_reducible refine gate_callee (f := 7) rfl ?_); refine goesL_ (some 15) rfl rfl Try.func7 (by kernel_rfl) rfl #[.slice A0 l0.length c0] rfl (by (try simp only [List.map_toArray, List.map_cons, List.map_nil]); first | done | rfl | (simp only [List.length_drop, List.length_take]; rfl)) ?_; (with_reducible refine (laws_big.calls _ _ l0 true _ ?side1 ?side2 A2.out).mono ?_); (case side1 => repeat (first | exact HR0.out | (with_reducible refine Kd.C_alloc ?_ _) | (with_reducible refine Kd.C_drewN ?_ _) | (with_reducible refine Kd.C_drew ?_))); (case side2 => exact HC0.out); rintro e w' ⟨rfl, ⟨nd, rfl⟩⟩; refine ⟨_, rfl, ?_⟩))
  go_ret
  exact ⟨by first | rfl | (simp [errW_none, errW_some] <;> rfl) | (simp [*, errW_none, errW_some] <;> rfl), by repeat (first | (with_reducible first | exact HB.out | apply below_alloc | apply pw_below_drewN | apply below_drew1) | exact HB.out)⟩
 ·
  replace c3 := Bool.eq_false_iff.mpr c3
  subst c3
  have H1 : ((spec_DrawSecretOf.f k l0).bind fun t404 => ((impl_SecretOf.f k t404).bind fun t405 => ((impl_PublicOf.f k t405).bind fun t406 => (if t404.size + 1 ≤ 9223372036854775807 then ((impl_SignText.f k t405 (t404 ++ (⟨#[109]⟩ : ByteArray))).bind fun bt407 => ((impl_SigText.f bt407.1 bt407.2.1).bind fun bt411 => ((impl_ReadSig.f bt411.1).bind fun bt413 => ((impl_SignText.f k 0 t404).bind fun bt417 => (if bt407.2.2 = true then (if bt411.2 = true then (if bt413.2.2 = true then (if (bt413.1 == bt407.1 && (bt413.2.1 == bt407.2.1)) = true then (if bt417.2.2 = true then (some false) else (if t405 ≥ 1 then (if t405 < 1073741789 then ((spec_SecretOf.f k t404).bind fun t421 => (if t405 = t421 then ((impl_InGroup.f k t406).bind fun t422 => (if t422 = true then ((impl_CheckText.f k t406 (t404 ++ (⟨#[109]⟩ : ByteArray)) bt407.1 bt407.2.1).bind fun t423 => (if t423 = true then ((spec_CheckText.f k t406 (t404 ++ (⟨#[109]⟩ : ByteArray)) bt413.1 bt413.2.1).bind fun t424 => (if t424 = true then (some ((bt411.1.size : Int) == 8)) else (some false))) else (some false))) else (some false))) else (some false))) else (some false)) else (some false))) else (some false)) else (some false)) else (some false)) else (some false)))))) else (none))))) = some r := by rw [if_neg (show ¬ (false = true) by decide)] at H; exact H
  clear H
  have H := H1
  clear H1
  replace H := Option.bind_eq_some_iff.mp H
  obtain ⟨t404, A40, H⟩ := H
  replace H : ((impl_SecretOf.f k t404).bind fun t405 => ((impl_PublicOf.f k t405).bind fun t406 => (if t404.size + 1 ≤ 9223372036854775807 then ((impl_SignText.f k t405 (t404 ++ (⟨#[109]⟩ : ByteArray))).bind fun bt407 => ((impl_SigText.f bt407.1 bt407.2.1).bind fun bt411 => ((impl_ReadSig.f bt411.1).bind fun bt413 => ((impl_SignText.f k 0 t404).bind fun bt417 => (if bt407.2.2 = true then (if bt411.2 = true then (if bt413.2.2 = true then (if (bt413.1 == bt407.1 && (bt413.2.1 == bt407.2.1)) = true then (if bt417.2.2 = true then (some false) else (if t405 ≥ 1 then (if t405 < 1073741789 then ((spec_SecretOf.f k t404).bind fun t421 => (if t405 = t421 then ((impl_InGroup.f k t406).bind fun t422 => (if t422 = true then ((impl_CheckText.f k t406 (t404 ++ (⟨#[109]⟩ : ByteArray)) bt407.1 bt407.2.1).bind fun t423 => (if t423 = true then ((spec_CheckText.f k t406 (t404 ++ (⟨#[109]⟩ : ByteArray)) bt413.1 bt413.2.1).bind fun t424 => (if t424 = true then (some ((bt411.1.size : Int) == 8)) else (some false))) else (some false))) else (some false))) else (some false))) else (some false)) else (some false))) else (some false)) else (some false)) else (some false)) else (some false)))))) else (none)))) = some r := H
  have A4 := Aside0.mk A40
  clear A40
  replace H := Option.bind_eq_some_iff.mp H
  obtain ⟨t405, A50, H⟩ := H
  replace H : ((impl_PublicOf.f k t405).bind fun t406 => (if t404.size + 1 ≤ 9223372036854775807 then ((impl_SignText.f k t405 (t404 ++ (⟨#[109]⟩ : ByteArray))).bind fun bt407 => ((impl_SigText.f bt407.1 bt407.2.1).bind fun bt411 => ((impl_ReadSig.f bt411.1).bind fun bt413 => ((impl_SignText.f k 0 t404).bind fun bt417 => (if bt407.2.2 = true then (if bt411.2 = true then (if bt413.2.2 = true then (if (bt413.1 == bt407.1 && (bt413.2.1 == bt407.2.1)) = true then (if bt417.2.2 = true then (some false) else (if t405 ≥ 1 then (if t405 < 1073741789 then ((spec_SecretOf.f k t404).bind fun t421 => (if t405 = t421 then ((impl_InGroup.f k t406).bind fun t422 => (if t422 = true then ((impl_CheckText.f k t406 (t404 ++ (⟨#[109]⟩ : ByteArray)) bt407.1 bt407.2.1).bind fun t423 => (if t423 = true then ((spec_CheckText.f k t406 (t404 ++ (⟨#[109]⟩ : ByteArray)) bt413.1 bt413.2.1).bind fun t424 => (if t424 = true then (some ((bt411.1.size : Int) == 8)) else (some false))) else (some false))) else (some false))) else (some false))) else (some false)) else (some false))) else (some false)) else (some false)) else (some false)) else (some false)))))) else (none))) = some r := H
  have A5 := Aside0.mk A50
  clear A50
  replace H := Option.bind_eq_some_iff.mp H
  obtain ⟨t406, A60, H⟩ := H
  replace H : (if t404.size + 1 ≤ 9223372036854775807 then ((impl_SignText.f k t405 (t404 ++ (⟨#[109]⟩ : ByteArray))).bind fun bt407 => ((impl_SigText.f bt407.1 bt407.2.1).bind fun bt411 => ((impl_ReadSig.f bt411.1).bind fun bt413 => ((impl_SignText.f k 0 t404).bind fun bt417 => (if bt407.2.2 = true then (if bt411.2 = true then (if bt413.2.2 = true then (if (bt413.1 == bt407.1 && (bt413.2.1 == bt407.2.1)) = true then (if bt417.2.2 = true then (some false) else (if t405 ≥ 1 then (if t405 < 1073741789 then ((spec_SecretOf.f k t404).bind fun t421 => (if t405 = t421 then ((impl_InGroup.f k t406).bind fun t422 => (if t422 = true then ((impl_CheckText.f k t406 (t404 ++ (⟨#[109]⟩ : ByteArray)) bt407.1 bt407.2.1).bind fun t423 => (if t423 = true then ((spec_CheckText.f k t406 (t404 ++ (⟨#[109]⟩ : ByteArray)) bt413.1 bt413.2.1).bind fun t424 => (if t424 = true then (some ((bt411.1.size : Int) == 8)) else (some false))) else (some false))) else (some false))) else (some false))) else (some false)) else (some false))) else (some false)) else (some false)) else (some false)) else (some false)))))) else (none)) = some r := H
  have A6 := Aside0.mk A60
  clear A60
  by_cases c7 : t404.size + 1 ≤ 9223372036854775807
  ·
   rw [if_pos c7] at H
   have c7b0 := eq_true c7
   have c7b1 : decide (t404.size + 1 ≤ 9223372036854775807) = true := decide_eq_true c7
   try have c7b2 : (9223372036854775807 < t404.size + 1) = False := eq_false (Nat.not_lt.2 c7)
   replace H := Option.bind_eq_some_iff.mp H
   obtain ⟨⟨t407, t408, t409⟩, A80, H⟩ := H
   replace H : ((impl_SigText.f t407 t408).bind fun bt411 => ((impl_ReadSig.f bt411.1).bind fun bt413 => ((impl_SignText.f k 0 t404).bind fun bt417 => (if t409 = true then (if bt411.2 = true then (if bt413.2.2 = true then (if (bt413.1 == t407 && (bt413.2.1 == t408)) = true then (if bt417.2.2 = true then (some false) else (if t405 ≥ 1 then (if t405 < 1073741789 then ((spec_SecretOf.f k t404).bind fun t421 => (if t405 = t421 then ((impl_InGroup.f k t406).bind fun t422 => (if t422 = true then ((impl_CheckText.f k t406 (t404 ++ (⟨#[109]⟩ : ByteArray)) t407 t408).bind fun t423 => (if t423 = true then ((spec_CheckText.f k t406 (t404 ++ (⟨#[109]⟩ : ByteArray)) bt413.1 bt413.2.1).bind fun t424 => (if t424 = true then (some ((bt411.1.size : Int) == 8)) else (some false))) else (some false))) else (some false))) else (some false))) else (some false)) else (some false))) else (some false)) else (some false)) else (some false)) else (some false))))) = some r := H
   have A8 := Aside0.mk A80
   clear A80
   replace H := Option.bind_eq_some_iff.mp H
   obtain ⟨⟨t411, t412⟩, A90, H⟩ := H
   replace H : ((impl_ReadSig.f t411).bind fun bt413 => ((impl_SignText.f k 0 t404).bind fun bt417 => (if t409 = true then (if t412 = true then (if bt413.2.2 = true then (if (bt413.1 == t407 && (bt413.2.1 == t408)) = true then (if bt417.2.2 = true then (some false) else (if t405 ≥ 1 then (if t405 < 1073741789 then ((spec_SecretOf.f k t404).bind fun t421 => (if t405 = t421 then ((impl_InGroup.f k t406).bind fun t422 => (if t422 = true then ((impl_CheckText.f k t406 (t404 ++ (⟨#[109]⟩ : ByteArray)) t407 t408).bind fun t423 => (if t423 = true then ((spec_CheckText.f k t406 (t404 ++ (⟨#[109]⟩ : ByteArray)) bt413.1 bt413.2.1).bind fun t424 => (if t424 = true then (some ((t411.size : Int) == 8)) else (some false))) else (some false))) else (some false))) else (some false))) else (some false)) else (some false))) else (some false)) else (some false)) else (some false)) else (some false)))) = some r := H
   have A9 := Aside0.mk A90
   clear A90
   replace H := Option.bind_eq_some_iff.mp H
   obtain ⟨⟨t413, t414, t415⟩, A100, H⟩ := H
   replace H : ((impl_SignText.f k 0 t404).bind fun bt417 => (if t409 = true then (if t412 = true then (if t415 = true then (if (t413 == t407 && (t414 == t408)) = true then (if bt417.2.2 = true then (some false) else (if t405 ≥ 1 then (if t405 < 1073741789 then ((spec_SecretOf.f k t404).bind fun t421 => (if t405 = t421 then ((impl_InGroup.f k t406).bind fun t422 => (if t422 = true then ((impl_CheckText.f k t406 (t404 ++ (⟨#[109]⟩ : ByteArray)) t407 t408).bind fun t423 => (if t423 = true then ((spec_CheckText.f k t406 (t404 ++ (⟨#[109]⟩ : ByteArray)) t413 t414).bind fun t424 => (if t424 = true then (some ((t411.size : Int) == 8)) else (some false))) else (some false))) else (some false))) else (some false))) else (some false)) else (some false))) else (some false)) else (some false)) else (some false)) else (some false))) = some r := H
   have A10 := Aside0.mk A100
   clear A100
   replace H := Option.bind_eq_some_iff.mp H
   obtain ⟨⟨t417, t418, t419⟩, A110, H⟩ := H
   replace H : (if t409 = true then (if t412 = true then (if t415 = true then (if (t413 == t407 && (t414 == t408)) = true then (if t419 = true then (some false) else (if t405 ≥ 1 then (if t405 < 1073741789 then ((spec_SecretOf.f k t404).bind fun t421 => (if t405 = t421 then ((impl_InGroup.f k t406).bind fun t422 => (if t422 = true then ((impl_CheckText.f k t406 (t404 ++ (⟨#[109]⟩ : ByteArray)) t407 t408).bind fun t423 => (if t423 = true then ((spec_CheckText.f k t406 (t404 ++ (⟨#[109]⟩ : ByteArray)) t413 t414).bind fun t424 => (if t424 = true then (some ((t411.size : Int) == 8)) else (some false))) else (some false))) else (some false))) else (some false))) else (some false)) else (some false))) else (some false)) else (some false)) else (some false)) else (some false)) = some r := H
   have A11 := Aside0.mk A110
   clear A110
   by_cases c12 : t409 = true
   ·
    subst c12
    have H1 : (if t412 = true then (if t415 = true then (if (t413 == t407 && (t414 == t408)) = true then (if t419 = true then (some false) else (if t405 ≥ 1 then (if t405 < 1073741789 then ((spec_SecretOf.f k t404).bind fun t421 => (if t405 = t421 then ((impl_InGroup.f k t406).bind fun t422 => (if t422 = true then ((impl_CheckText.f k t406 (t404 ++ (⟨#[109]⟩ : ByteArray)) t407 t408).bind fun t423 => (if t423 = true then ((spec_CheckText.f k t406 (t404 ++ (⟨#[109]⟩ : ByteArray)) t413 t414).bind fun t424 => (if t424 = true then (some ((t411.size : Int) == 8)) else (some false))) else (some false))) else (some false))) else (some false))) else (some false)) else (some false))) else (some false)) else (some false)) else (some false)) = some r := by rw [if_pos rfl] at H; exact H
    clear H
    have H := H1
    clear H1
    by_cases c13 : t412 = true
    ·
     subst c13
     have H1 : (if t415 = true then (if (t413 == t407 && (t414 == t408)) = true then (if t419 = true then (some false) else (if t405 ≥ 1 then (if t405 < 1073741789 then ((spec_SecretOf.f k t404).bind fun t421 => (if t405 = t421 then ((impl_InGroup.f k t406).bind fun t422 => (if t422 = true then ((impl_CheckText.f k t406 (t404 ++ (⟨#[109]⟩ : ByteArray)) t407 t408).bind fun t423 => (if t423 = true then ((spec_CheckText.f k t406 (t404 ++ (⟨#[109]⟩ : ByteArray)) t413 t414).bind fun t424 => (if t424 = true then (some ((t411.size : Int) == 8)) else (some false))) else (some false))) else (some false))) else (some false))) else (some false)) else (some false))) else (some false)) else (some false)) = some r := by rw [if_pos rfl] at H; exact H
     clear H
     have H := H1
     clear H1
     by_cases c14 : t415 = true
     ·
      subst c14
      have H1 : (if (t413 == t407 && (t414 == t408)) = true then (if t419 = true then (some false) else (if t405 ≥ 1 then (if t405 < 1073741789 then ((spec_SecretOf.f k t404).bind fun t421 => (if t405 = t421 then ((impl_InGroup.f k t406).bind fun t422 => (if t422 = true then ((impl_CheckText.f k t406 (t404 ++ (⟨#[109]⟩ : ByteArray)) t407 t408).bind fun t423 => (if t423 = true then ((spec_CheckText.f k t406 (t404 ++ (⟨#[109]⟩ : ByteArray)) t413 t414).bind fun t424 => (if t424 = true then (some ((t411.size : Int) == 8)) else (some false))) else (some false))) else (some false))) else (some false))) else (some false)) else (some false))) else (some false)) = some r := by rw [if_pos rfl] at H; exact H
      clear H
      have H := H1
      clear H1
      by_cases c15 : (t413 == t407 && (t414 == t408)) = true
      ·
       rw [if_pos c15] at H
       have c15b0 : (t413 == t407 && (t414 == t408)) = true := c15
       (try (have c15b1 : decide (t413 = t407 && (t414 == t408)) = true := by simpa using c15))
       (try (have c15b2 : (t413 == t407 && (t414 == t408)) = true := by simpa using c15))
       clear c15
       by_cases c16 : t419 = true
       ·
        subst c16
        have H1 : (some false) = some r := by rw [if_pos rfl] at H; exact H
        clear H
        have H := H1
        clear H1
        obtain rfl := Option.some.inj H
        exact absurd hr_.out (by decide)
       ·
        replace c16 := Bool.eq_false_iff.mpr c16
        subst c16
        have H1 : (if t405 ≥ 1 then (if t405 < 1073741789 then ((spec_SecretOf.f k t404).bind fun t421 => (if t405 = t421 then ((impl_InGroup.f k t406).bind fun t422 => (if t422 = true then ((impl_CheckText.f k t406 (t404 ++ (⟨#[109]⟩ : ByteArray)) t407 t408).bind fun t423 => (if t423 = true then ((spec_CheckText.f k t406 (t404 ++ (⟨#[109]⟩ : ByteArray)) t413 t414).bind fun t424 => (if t424 = true then (some ((t411.size : Int) == 8)) else (some false))) else (some false))) else (some false))) else (some false))) else (some false)) else (some false)) = some r := by rw [if_neg (show ¬ (false = true) by decide)] at H; exact H
        clear H
        have H := H1
        clear H1
        by_cases c34 : t405 ≥ 1
        ·
         rw [if_pos c34] at H
         have c34b0 : decide (1 ≤ t405) = true := decide_eq_true c34
         clear c34
         by_cases c35 : t405 < 1073741789
         ·
          rw [if_pos c35] at H
          have c35b0 : decide (t405 < 1073741789) = true := decide_eq_true c35
          clear c35
          replace H := Option.bind_eq_some_iff.mp H
          obtain ⟨t421, A360, H⟩ := H
          replace H : (if t405 = t421 then ((impl_InGroup.f k t406).bind fun t422 => (if t422 = true then ((impl_CheckText.f k t406 (t404 ++ (⟨#[109]⟩ : ByteArray)) t407 t408).bind fun t423 => (if t423 = true then ((spec_CheckText.f k t406 (t404 ++ (⟨#[109]⟩ : ByteArray)) t413 t414).bind fun t424 => (if t424 = true then (some ((t411.size : Int) == 8)) else (some false))) else (some false))) else (some false))) else (some false)) = some r := H
          have A36 := Aside0.mk A360
          clear A360
          by_cases c37 : t405 = t421
          ·
           rw [if_pos c37] at H
           have c37b0 : (t405 == t421) = true := beq_iff_eq.mpr c37
           have c37b1 : (t405 != t421) = false := bne_eq_false_iff_eq.mpr c37
           clear c37
           replace H := Option.bind_eq_some_iff.mp H
           obtain ⟨t422, A380, H⟩ := H
           replace H : (if t422 = true then ((impl_CheckText.f k t406 (t404 ++ (⟨#[109]⟩ : ByteArray)) t407 t408).bind fun t423 => (if t423 = true then ((spec_CheckText.f k t406 (t404 ++ (⟨#[109]⟩ : ByteArray)) t413 t414).bind fun t424 => (if t424 = true then (some ((t411.size : Int) == 8)) else (some false))) else (some false))) else (some false)) = some r := H
           have A38 := Aside0.mk A380
           clear A380
           by_cases c39 : t422 = true
           ·
            subst c39
            have H1 : ((impl_CheckText.f k t406 (t404 ++ (⟨#[109]⟩ : ByteArray)) t407 t408).bind fun t423 => (if t423 = true then ((spec_CheckText.f k t406 (t404 ++ (⟨#[109]⟩ : ByteArray)) t413 t414).bind fun t424 => (if t424 = true then (some ((t411.size : Int) == 8)) else (some false))) else (some false))) = some r := by rw [if_pos rfl] at H; exact H
            clear H
            have H := H1
            clear H1
            replace H := Option.bind_eq_some_iff.mp H
            obtain ⟨t423, A400, H⟩ := H
            replace H : (if t423 = true then ((spec_CheckText.f k t406 (t404 ++ (⟨#[109]⟩ : ByteArray)) t413 t414).bind fun t424 => (if t424 = true then (some ((t411.size : Int) == 8)) else (some false))) else (some false)) = some r := H
            have A40 := Aside0.mk A400
            clear A400
            by_cases c41 : t423 = true
            ·
             subst c41
             have H1 : ((spec_CheckText.f k t406 (t404 ++ (⟨#[109]⟩ : ByteArray)) t413 t414).bind fun t424 => (if t424 = true then (some ((t411.size : Int) == 8)) else (some false))) = some r := by rw [if_pos rfl] at H; exact H
             clear H
             have H := H1
             clear H1
             replace H := Option.bind_eq_some_iff.mp H
             obtain ⟨t424, A420, H⟩ := H
             replace H : (if t424 = true then (some ((t411.size : Int) == 8)) else (some false)) = some r := H
             have A42 := Aside0.mk A420
             clear A420
             by_cases c43 : t424 = true
             ·
              subst c43
              have H1 : (some ((t411.size : Int) == 8)) = some r := by rw [if_pos rfl] at H; exact H
              clear H
              have H := H1
              clear H1
              obtain rfl := Option.some.inj H
              go_enter Try.func4, Try.ntmps4
              go_wp2_with (first | ((with_reducible refine gate_callee (f := 7) rfl ?_); refine goesL_ (some 15) rfl rfl Try.func7 (by kernel_rfl) rfl #[.slice A0 l0.length c0] rfl (by (try simp only [List.map_toArray, List.map_cons, List.map_nil]); first | done | rfl | (simp only [List.length_drop, List.length_take]; rfl)) ?_; (with_reducible refine (laws_big.calls _ _ l0 false _ ?side1 ?side2 A2.out).mono ?_); (case side1 => repeat (first | exact HR0.out | (with_reducible refine Kd.C_alloc ?_ _) | (with_reducible refine Kd.C_drewN ?_ _) | (with_reducible refine Kd.C_drew ?_))); (case side2 => exact HC0.out); rintro e w' ⟨rfl, ⟨nd, rfl⟩⟩; refine ⟨_, rfl, ?_⟩) | ((with_reducible refine gate_callee (f := 14) rfl ?_); refine goesL_ (some 17) rfl rfl Try.func14 (by kernel_rfl) rfl #[.slice A0 l0.length c0] rfl (by (try simp only [List.map_toArray, List.map_cons, List.map_nil]); first | done | rfl | (simp only [List.length_drop, List.length_take]; rfl)) ?_; (with_reducible refine (spec_DrawSecretOf.calls k _ _ l0 t404 _ ?side1 ?side2 A4.out).mono ?_); (case side1 => repeat (first | exact HR0.out | (with_reducible refine Kd.C_alloc ?_ _) | (with_reducible refine Kd.C_drewN ?_ _) | (with_reducible refine Kd.C_drew ?_))); (case side2 => exact HC0.out); rintro e w44 ⟨rfl, hb⟩; refine ⟨_, rfl, ?_⟩; have n0_ := Aside0.mk (below_step (by repeat (first | (with_reducible first | exact HB.out | apply below_alloc | apply pw_below_drewN | apply below_drew1) | exact HB.out)) hb); clear HB; have HB := n0_; clear n0_; (try clear hb); (try clear hb2); (try clear hk); (try clear hi)) | ((with_reducible refine gate_callee (f := 15) rfl ?_); refine goesL_ (some 19) rfl rfl Try.func15 (by kernel_rfl) rfl #[.string t404] rfl (by (try simp only [List.map_toArray, List.map_cons, List.map_nil]); first | done | rfl | (simp only [List.length_drop, List.length_take]; rfl)) ?_; (with_reducible refine (impl_SecretOf.calls k t404 t405 _ A5.out).mono ?_); rintro e w45 ⟨rfl, hb⟩; refine ⟨_, rfl, ?_⟩; have n0_ := Aside0.mk (below_step (by repeat (first | (with_reducible first | exact HB.out | apply below_alloc | apply pw_below_drewN | apply below_drew1) | exact HB.out)) hb); clear HB; have HB := n0_; clear n0_; (try clear hb); (try clear hb2); (try clear hk); (try clear hi)) | ((with_reducible refine gate_callee (f := 16) rfl ?_); refine goesL_ (some 21) rfl rfl Try.func16 (by kernel_rfl) rfl #[.int .i64 t405] rfl (by (try simp only [List.map_toArray, List.map_cons, List.map_nil]); first | done | rfl | (simp only [List.length_drop, List.length_take]; rfl)) ?_; (with_reducible refine (impl_PublicOf.calls k t405 t406 _ A6.out).mono ?_); rintro e w' ⟨rfl, ⟨nd, rfl⟩⟩; refine ⟨_, rfl, ?_⟩; (try (rw [drewN_self w45]; generalize hq_ : World.drewN w45 _ = w45; have n0_ : Aside0 (Below w.heap.size w w45) := ⟨by rw [← hq_]; exact (by repeat (first | (with_reducible first | exact HB.out | apply below_alloc | apply pw_below_drewN | apply below_drew1) | exact HB.out))⟩; clear HB hq_; have HB := n0_; clear n0_))) | ((with_reducible refine gate_callee (f := 17) rfl ?_); refine goesL_ (some 26) rfl rfl Try.func17 (by kernel_rfl) rfl #[.int .i64 t405, .string (t404 ++ (⟨#[109]⟩ : ByteArray))] rfl (by (try simp only [List.map_toArray, List.map_cons, List.map_nil]); first | done | rfl | (simp only [List.length_drop, List.length_take]; rfl)) ?_; (with_reducible refine (impl_SignText.calls k t405 (t404 ++ (⟨#[109]⟩ : ByteArray)) t407 t408 true _ A8.out).mono ?_); rintro e w46 ⟨rfl, hb⟩; refine ⟨_, rfl, ?_⟩; have n0_ := Aside0.mk (below_step (by repeat (first | (with_reducible first | exact HB.out | apply below_alloc | apply pw_below_drewN | apply below_drew1) | exact HB.out)) hb); clear HB; have HB := n0_; clear n0_; (try clear hb); (try clear hb2); (try clear hk); (try clear hi)) | ((with_reducible refine gate_dst (N := 6) rfl ?_); (try (refine gate_guard (by rfl) ?_; dsimp only)); refine box_event ?hg (N := 6) ?hd (cs := #[.int .i64 0, .int .i64 0]) (t := 35) ?hr ?_; (case hd => rfl); (case hg => rfl); (case hr => first | (go_simp; done) | (go_simp; rfl)); intro gb410 hg w47 hbox hb; have n0_ := Aside0.mk (below_step (by repeat (first | (with_reducible first | exact HB.out | apply below_alloc | apply pw_below_drewN | apply below_drew1) | exact HB.out)) hb); have n1_ := Aside0.mk (hbox); have n2_ := Aside0.mk ((by rw [hg]; exact (below_size (by repeat (first | (with_reducible first | exact HB.out | apply below_alloc | apply pw_below_drewN | apply below_drew1) | exact HB.out))) : w.heap.size ≤ gb410)); have n3_ := Aside0.mk ((by rw [hg]; exact (below_size (by repeat (first | (with_reducible first | exact HB.out | apply below_alloc | apply pw_below_drewN | apply below_drew1) | exact HB.out))) : w.heap.size ≤ gb410)); clear HB; have HB := n0_; have BK410 := n1_; have GW410 := n2_; have GE410 := n3_; clear n0_ n1_ n2_ n3_; clear hb hbox hg; have hcz48_0 : w47.cell? ⟨gb410, 0, none⟩ = some (.int .i64 0) := (blk_cell BK410.out 0).trans rfl; have hcz48_1 : w47.cell? ⟨gb410, 1, none⟩ = some (.int .i64 0) := (blk_cell BK410.out 1).trans rfl; have hfz48_0 := blk_frozen BK410.out 0; have hfz48_1 := blk_frozen BK410.out 1) | ((with_reducible refine gate_callee (f := 18) rfl ?_); refine goesL_ (some 31) rfl rfl Try.func18 (by kernel_rfl) rfl #[.agg #[.int .i64 t407, .int .i64 t408]] rfl (by (try simp only [List.map_toArray, List.map_cons, List.map_nil]); first | done | rfl | (simp only [List.length_drop, List.length_take]; rfl)) ?_; (with_reducible refine (impl_SigText.calls t407 t408 t411 true _ A9.out).mono ?_); rintro e w49 ⟨rfl, hb⟩; refine ⟨_, rfl, ?_⟩; have n0_ := Aside0.mk (blk_below (g := gb410) (o := .cells #[.int .i64 t407, .int .i64 t408] 35 (0, 0)) (by (with_reducible repeat (first | refine blk_drewN ?_ _ | refine blk_drew ?_ | refine blk_alloc ?_ _)); refine blk_put (cs := #[.int .i64 t407, .int .i64 0]) ?_ 1 _ rfl; (with_reducible repeat (first | refine blk_drewN ?_ _ | refine blk_drew ?_ | refine blk_alloc ?_ _)); refine blk_put (cs := #[.int .i64 0, .int .i64 0]) ?_ 0 _ rfl; (with_reducible repeat (first | refine blk_drewN ?_ _ | refine blk_drew ?_ | refine blk_alloc ?_ _)); exact BK410.out) hb); have n1_ := Aside0.mk (below_step (by repeat (first | (with_reducible first | exact HB.out | apply below_alloc | apply pw_below_drewN | apply below_drew1 | refine below_set ?_ GE410.out) | exact HB.out)) hb); clear BK410; clear HB; have BK410 := n0_; have HB := n1_; clear n0_ n1_; (try clear hb); (try clear hb2); (try clear hk); (try clear hi)) | ((with_reducible refine gate_callee (f := 19) rfl ?_); refine goesL_ (some 36) rfl rfl Try.func19 (by kernel_rfl) rfl #[.string t411] rfl (by (try simp only [List.map_toArray, List.map_cons, List.map_nil]); first | done | rfl | (simp only [List.length_drop, List.length_take]; rfl)) ?_; (with_reducible refine (impl_ReadSig.calls t411 t413 t414 true _ A10.out).mono ?_); rintro e w50 ⟨rfl, hb⟩; refine ⟨_, rfl, ?_⟩; have n0_ := Aside0.mk (blk_below (g := gb410) (o := .cells #[.int .i64 t407, .int .i64 t408] 35 (0, 0)) (by (with_reducible repeat (first | refine blk_drewN ?_ _ | refine blk_drew ?_ | refine blk_alloc ?_ _)); exact BK410.out) hb); have n1_ := Aside0.mk (below_step (by repeat (first | (with_reducible first | exact HB.out | apply below_alloc | apply pw_below_drewN | apply below_drew1 | refine below_set ?_ GE410.out) | exact HB.out)) hb); clear BK410; clear HB; have BK410 := n0_; have HB := n1_; clear n0_ n1_; (try clear hb); (try clear hb2); (try clear hk); (try clear hi)) | ((with_reducible refine gate_dst (N := 10) rfl ?_); (try (refine gate_guard (by rfl) ?_; dsimp only)); refine box_event ?hg (N := 10) ?hd (cs := #[.int .i64 0, .int .i64 0]) (t := 35) ?hr ?_; (case hd => rfl); (case hg => rfl); (case hr => first | (go_simp; done) | (go_simp; rfl)); intro gb416 hg w51 hbox hb; have n0_ := Aside0.mk (blk_below (g := gb410) (o := .cells #[.int .i64 t407, .int .i64 t408] 35 (0, 0)) (by (with_reducible repeat (first | refine blk_drewN ?_ _ | refine blk_drew ?_ | refine blk_alloc ?_ _)); exact BK410.out) hb); have n1_ := Aside0.mk (below_step (by repeat (first | (with_reducible first | exact HB.out | apply below_alloc | apply pw_below_drewN | apply below_drew1 | refine below_set ?_ GE410.out) | exact HB.out)) hb); have n2_ := Aside0.mk (hbox); have n3_ := Aside0.mk ((by rw [hg]; exact (below_size (by repeat (first | (with_reducible first | exact HB.out | apply below_alloc | apply pw_below_drewN | apply below_drew1 | refine below_set ?_ GE410.out) | exact HB.out))) : w.heap.size ≤ gb416)); have n4_ := Aside0.mk ((by rw [hg]; exact (below_size (by repeat (first | (with_reducible first | exact HB.out | apply below_alloc | apply pw_below_drewN | apply below_drew1 | refine below_set ?_ GE410.out) | exact HB.out))) : w.heap.size ≤ gb416)); have n5_ := Aside0.mk ((by rw [hg]; exact Nat.ne_of_lt (blk_lt (g := gb410) (o := .cells #[.int .i64 t407, .int .i64 t408] 35 (0, 0)) (by (with_reducible repeat (first | refine blk_drewN ?_ _ | refine blk_drew ?_ | refine blk_alloc ?_ _)); exact BK410.out)) : gb410 ≠ gb416)); have n6_ := Aside0.mk ((by rw [hg]; exact Nat.ne_of_gt (blk_lt (g := gb410) (o := .cells #[.int .i64 t407, .int .i64 t408] 35 (0, 0)) (by (with_reducible repeat (first | refine blk_drewN ?_ _ | refine blk_drew ?_ | refine blk_alloc ?_ _)); exact BK410.out)) : gb416 ≠ gb410)); clear BK410; clear HB; have BK410 := n0_; have HB := n1_; have BK416 := n2_; have GW416 := n3_; have GE416 := n4_; have NB410_416 := n5_; have NB416_410 := n6_; clear n0_ n1_ n2_ n3_ n4_ n5_ n6_; clear hb hbox hg; have hnb52 := NB416_410.out; have hnc52 := NB410_416.out; have hcz53_0 : w51.cell? ⟨gb416, 0, none⟩ = some (.int .i64 0) := (blk_cell BK416.out 0).trans rfl; have hcz53_1 : w51.cell? ⟨gb416, 1, none⟩ = some (.int .i64 0) := (blk_cell BK416.out 1).trans rfl; have hfz53_0 := blk_frozen BK416.out 0; have hfz53_1 := blk_frozen BK416.out 1) | ((with_reducible refine gate_callee (f := 17) rfl ?_); refine goesL_ (some 41) rfl rfl Try.func17 (by kernel_rfl) rfl #[.int .i64 0, .string t404] rfl (by (try simp only [List.map_toArray, List.map_cons, List.map_nil]); first | done | rfl | (simp only [List.length_drop, List.length_take]; rfl)) ?_; (with_reducible refine (impl_SignText.calls k 0 t404 t417 t418 false _ A11.out).mono ?_); rintro e w54 ⟨rfl, hb⟩; refine ⟨_, rfl, ?_⟩; have n0_ := Aside0.mk (blk_below (g := gb410) (o := .cells #[.int .i64 t407, .int .i64 t408] 35 (0, 0)) (by (with_reducible repeat (first | refine blk_drewN ?_ _ | refine blk_drew ?_ | refine blk_alloc ?_ _)); refine blk_far ?_ NB410_416.out _; (with_reducible repeat (first | refine blk_drewN ?_ _ | refine blk_drew ?_ | refine blk_alloc ?_ _)); refine blk_far ?_ NB410_416.out _; (with_reducible repeat (first | refine blk_drewN ?_ _ | refine blk_drew ?_ | refine blk_alloc ?_ _)); exact BK410.out) hb); have n1_ := Aside0.mk (blk_below (g := gb416) (o := .cells #[.int .i64 t413, .int .i64 t414] 35 (0, 0)) (by (with_reducible repeat (first | refine blk_drewN ?_ _ | refine blk_drew ?_ | refine blk_alloc ?_ _)); refine blk_put (cs := #[.int .i64 t413, .int .i64 0]) ?_ 1 _ rfl; (with_reducible repeat (first | refine blk_drewN ?_ _ | refine blk_drew ?_ | refine blk_alloc ?_ _)); refine blk_put (cs := #[.int .i64 0, .int .i64 0]) ?_ 0 _ rfl; (with_reducible repeat (first | refine blk_drewN ?_ _ | refine blk_drew ?_ | refine blk_alloc ?_ _)); exact BK416.out) hb); have n2_ := Aside0.mk (below_step (by repeat (first | (with_reducible first | exact HB.out | apply below_alloc | apply pw_below_drewN | apply below_drew1 | refine below_set ?_ GE410.out | refine below_set ?_ GE416.out) | exact HB.out)) hb); clear BK410; clear BK416; clear HB; have BK410 := n0_; have BK416 := n1_; have HB := n2_; clear n0_ n1_ n2_; (try clear hb); (try clear hb2); (try clear hk); (try clear hi)) | ((with_reducible refine gate_dst (N := 12) rfl ?_); (try (refine gate_guard (by rfl) ?_; dsimp only)); refine box_event ?hg (N := 12) ?hd (cs := #[.int .i64 0, .int .i64 0]) (t := 35) ?hr ?_; (case hd => rfl); (case hg => rfl); (case hr => first | (go_simp; done) | (go_simp; rfl)); intro gb420 hg w55 hbox hb; have n0_ := Aside0.mk (blk_below (g := gb410) (o := .cells #[.int .i64 t407, .int .i64 t408] 35 (0, 0)) (by (with_reducible repeat (first | refine blk_drewN ?_ _ | refine blk_drew ?_ | refine blk_alloc ?_ _)); exact BK410.out) hb); have n1_ := Aside0.mk (blk_below (g := gb416) (o := .cells #[.int .i64 t413, .int .i64 t414] 35 (0, 0)) (by (with_reducible repeat (first | refine blk_drewN ?_ _ | refine blk_drew ?_ | refine blk_alloc ?_ _)); exact BK416.out) hb); have n2_ := Aside0.mk (below_step (by repeat (first | (with_reducible first | exact HB.out | apply below_alloc | apply pw_below_drewN | apply below_drew1 | refine below_set ?_ GE410.out | refine below_set ?_ GE416.out) | exact HB.out)) hb); have n3_ := Aside0.mk (hbox); have n4_ := Aside0.mk ((by rw [hg]; exact (below_size (by repeat (first | (with_reducible first | exact HB.out | apply below_alloc | apply pw_below_drewN | apply below_drew1 | refine below_set ?_ GE410.out | refine below_set ?_ GE416.out) | exact HB.out))) : w.heap.size ≤ gb420)); have n5_ := Aside0.mk ((by rw [hg]; exact (below_size (by repeat (first | (with_reducible first | exact HB.out | apply below_alloc | apply pw_below_drewN | apply below_drew1 | refine below_set ?_ GE410.out | refine below_set ?_ GE416.out) | exact HB.out))) : w.heap.size ≤ gb420)); have n6_ := Aside0.mk ((by rw [hg]; exact Nat.ne_of_lt (blk_lt (g := gb410) (o := .cells #[.int .i64 t407, .int .i64 t408] 35 (0, 0)) (by (with_reducible repeat (first | refine blk_drewN ?_ _ | refine blk_drew ?_ | refine blk_alloc ?_ _)); exact BK410.out)) : gb410 ≠ gb420)); have n7_ := Aside0.mk ((by rw [hg]; exact Nat.ne_of_gt (blk_lt (g := gb410) (o := .cells #[.int .i64 t407, .int .i64 t408] 35 (0, 0)) (by (with_reducible repeat (first | refine blk_drewN ?_ _ | refine blk_drew ?_ | refine blk_alloc ?_ _)); exact BK410.out)) : gb420 ≠ gb410)); have n8_ := Aside0.mk ((by rw [hg]; exact Nat.ne_of_lt (blk_lt (g := gb416) (o := .cells #[.int .i64 t413, .int .i64 t414] 35 (0, 0)) (by (with_reducible repeat (first | refine blk_drewN ?_ _ | refine blk_drew ?_ | refine blk_alloc ?_ _)); exact BK416.out)) : gb416 ≠ gb420)); have n9_ := Aside0.mk ((by rw [hg]; exact Nat.ne_of_gt (blk_lt (g := gb416) (o := .cells #[.int .i64 t413, .int .i64 t414] 35 (0, 0)) (by (with_reducible repeat (first | refine blk_drewN ?_ _ | refine blk_drew ?_ | refine blk_alloc ?_ _)); exact BK416.out)) : gb420 ≠ gb416)); clear BK410; clear BK416; clear HB; have BK410 := n0_; have BK416 := n1_; have HB := n2_; have BK420 := n3_; have GW420 := n4_; have GE420 := n5_; have NB410_420 := n6_; have NB420_410 := n7_; have NB416_420 := n8_; have NB420_416 := n9_; clear n0_ n1_ n2_ n3_ n4_ n5_ n6_ n7_ n8_ n9_; clear hb hbox hg; have hnb56 := NB420_410.out; have hnc56 := NB410_420.out; have hnb57 := NB420_416.out; have hnc57 := NB416_420.out; have hcz58_0 : w55.cell? ⟨gb420, 0, none⟩ = some (.int .i64 0) := (blk_cell BK420.out 0).trans rfl; have hcz58_1 : w55.cell? ⟨gb420, 1, none⟩ = some (.int .i64 0) := (blk_cell BK420.out 1).trans rfl; have hfz58_0 := blk_frozen BK420.out 0; have hfz58_1 := blk_frozen BK420.out 1; have hcz59_0 : w55.cell? ⟨gb416, 0, none⟩ = some (.int .i64 t413) := (blk_cell BK416.out 0).trans rfl; have hcz59_1 : w55.cell? ⟨gb416, 1, none⟩ = some (.int .i64 t414) := (blk_cell BK416.out 1).trans rfl; have hfz59_0 := blk_frozen BK416.out 0; have hfz59_1 := blk_frozen BK416.out 1; have hcz60_0 : w55.cell? ⟨gb410, 0, none⟩ = some (.int .i64 t407) := (blk_cell BK410.out 0).trans rfl; have hcz60_1 : w55.cell? ⟨gb410, 1, none⟩ = some (.int .i64 t408) := (blk_cell BK410.out 1).trans rfl; have hfz60_0 := blk_frozen BK410.out 0; have hfz60_1 := blk_frozen BK410.out 1) | (go_at_call 20; (with_reducible refine (spec_SecretOf.calls k t404 t421 _ A36.out).mono ?_); rintro e w61 ⟨rfl, hb⟩; have n0_ := Aside0.mk (blk_below (g := gb410) (o := .cells #[.int .i64 t407, .int .i64 t408] 35 (0, 0)) (by (with_reducible repeat (first | refine blk_drewN ?_ _ | refine blk_drew ?_ | refine blk_alloc ?_ _)); refine blk_far ?_ NB410_420.out _; (with_reducible repeat (first | refine blk_drewN ?_ _ | refine blk_drew ?_ | refine blk_alloc ?_ _)); refine blk_far ?_ NB410_420.out _; (with_reducible repeat (first | refine blk_drewN ?_ _ | refine blk_drew ?_ | refine blk_alloc ?_ _)); exact BK410.out) hb); have n1_ := Aside0.mk (blk_below (g := gb416) (o := .cells #[.int .i64 t413, .int .i64 t414] 35 (0, 0)) (by (with_reducible repeat (first | refine blk_drewN ?_ _ | refine blk_drew ?_ | refine blk_alloc ?_ _)); refine blk_far ?_ NB416_420.out _; (with_reducible repeat (first | refine blk_drewN ?_ _ | refine blk_drew ?_ | refine blk_alloc ?_ _)); refine blk_far ?_ NB416_420.out _; (with_reducible repeat (first | refine blk_drewN ?_ _ | refine blk_drew ?_ | refine blk_alloc ?_ _)); exact BK416.out) hb); have n2_ := Aside0.mk (blk_below (g := gb420) (o := .cells #[.int .i64 t417, .int .i64 t418] 35 (0, 0)) (by (with_reducible repeat (first | refine blk_drewN ?_ _ | refine blk_drew ?_ | refine blk_alloc ?_ _)); refine blk_put (cs := #[.int .i64 t417, .int .i64 0]) ?_ 1 _ rfl; (with_reducible repeat (first | refine blk_drewN ?_ _ | refine blk_drew ?_ | refine blk_alloc ?_ _)); refine blk_put (cs := #[.int .i64 0, .int .i64 0]) ?_ 0 _ rfl; (with_reducible repeat (first | refine blk_drewN ?_ _ | refine blk_drew ?_ | refine blk_alloc ?_ _)); exact BK420.out) hb); have n3_ := Aside0.mk (below_step (by repeat (first | (with_reducible first | exact HB.out | apply below_alloc | apply pw_below_drewN | apply below_drew1 | refine below_set ?_ GE410.out | refine below_set ?_ GE416.out | refine below_set ?_ GE420.out) | exact HB.out)) hb); clear BK410; clear BK416; clear BK420; clear HB; have BK410 := n0_; have BK416 := n1_; have BK420 := n2_; have HB := n3_; clear n0_ n1_ n2_ n3_; (try clear hb); (try clear hb2); (try clear hk); (try clear hi)) | (go_at_call 21; (with_reducible refine (impl_InGroup.calls k t406 true _ A38.out).mono ?_); rintro e w' ⟨rfl, ⟨nd, rfl⟩⟩; have hcz62_0 : w61.cell? ⟨gb410, 0, none⟩ = some (.int .i64 t407) := (blk_cell BK410.out 0).trans rfl; have hcz62_1 : w61.cell? ⟨gb410, 1, none⟩ = some (.int .i64 t408) := (blk_cell BK410.out 1).trans rfl; have hfz62_0 := blk_frozen BK410.out 0; have hfz62_1 := blk_frozen BK410.out 1) | (go_at_call 22; (with_reducible refine (impl_CheckText.calls k t406 (t404 ++ (⟨#[109]⟩ : ByteArray)) t407 t408 true _ A40.out).mono ?_); rintro e w63 ⟨rfl, hb⟩; have n0_ := Aside0.mk (blk_below (g := gb410) (o := .cells #[.int .i64 t407, .int .i64 t408] 35 (0, 0)) (by (with_reducible repeat (first | refine blk_drewN ?_ _ | refine blk_drew ?_ | refine blk_alloc ?_ _)); exact BK410.out) hb); have n1_ := Aside0.mk (blk_below (g := gb416) (o := .cells #[.int .i64 t413, .int .i64 t414] 35 (0, 0)) (by (with_reducible repeat (first | refine blk_drewN ?_ _ | refine blk_drew ?_ | refine blk_alloc ?_ _)); exact BK416.out) hb); have n2_ := Aside0.mk (blk_below (g := gb420) (o := .cells #[.int .i64 t417, .int .i64 t418] 35 (0, 0)) (by (with_reducible repeat (first | refine blk_drewN ?_ _ | refine blk_drew ?_ | refine blk_alloc ?_ _)); exact BK420.out) hb); have n3_ := Aside0.mk (below_step (by repeat (first | (with_reducible first | exact HB.out | apply below_alloc | apply pw_below_drewN | apply below_drew1 | refine below_set ?_ GE410.out | refine below_set ?_ GE416.out | refine below_set ?_ GE420.out) | exact HB.out)) hb); clear BK410; clear BK416; clear BK420; clear HB; have BK410 := n0_; have BK416 := n1_; have BK420 := n2_; have HB := n3_; clear n0_ n1_ n2_ n3_; (try clear hb); (try clear hb2); (try clear hk); (try clear hi); have hcz64_0 : w63.cell? ⟨gb416, 0, none⟩ = some (.int .i64 t413) := (blk_cell BK416.out 0).trans rfl; have hcz64_1 : w63.cell? ⟨gb416, 1, none⟩ = some (.int .i64 t414) := (blk_cell BK416.out 1).trans rfl; have hfz64_0 := blk_frozen BK416.out 0; have hfz64_1 := blk_frozen BK416.out 1) | (go_at_call 23; (with_reducible refine (spec_CheckText.calls k t406 (t404 ++ (⟨#[109]⟩ : ByteArray)) t413 t414 true _ A42.out).mono ?_); rintro e w65 ⟨rfl, hb⟩; have n0_ := Aside0.mk (blk_below (g := gb410) (o := .cells #[.int .i64 t407, .int .i64 t408] 35 (0, 0)) (by (with_reducible repeat (first | refine blk_drewN ?_ _ | refine blk_drew ?_ | refine blk_alloc ?_ _)); exact BK410.out) hb); have n1_ := Aside0.mk (blk_below (g := gb416) (o := .cells #[.int .i64 t413, .int .i64 t414] 35 (0, 0)) (by (with_reducible repeat (first | refine blk_drewN ?_ _ | refine blk_drew ?_ | refine blk_alloc ?_ _)); exact BK416.out) hb); have n2_ := Aside0.mk (blk_below (g := gb420) (o := .cells #[.int .i64 t417, .int .i64 t418] 35 (0, 0)) (by (with_reducible repeat (first | refine blk_drewN ?_ _ | refine blk_drew ?_ | refine blk_alloc ?_ _)); exact BK420.out) hb); have n3_ := Aside0.mk (below_step (by repeat (first | (with_reducible first | exact HB.out | apply below_alloc | apply pw_below_drewN | apply below_drew1 | refine below_set ?_ GE410.out | refine below_set ?_ GE416.out | refine below_set ?_ GE420.out) | exact HB.out)) hb); clear BK410; clear BK416; clear BK420; clear HB; have BK410 := n0_; have BK416 := n1_; have BK420 := n2_; have HB := n3_; clear n0_ n1_ n2_ n3_; (try clear hb); (try clear hb2); (try clear hk); (try clear hi)))
              go_ret
              exact ⟨by first | rfl | (simp [errW_none, errW_some] <;> rfl) | (simp [*, errW_none, errW_some] <;> rfl), by repeat (first | (with_reducible first | exact HB.out | apply below_alloc | apply pw_below_drewN | apply below_drew1 | refine below_set ?_ GE410.out | refine below_set ?_ GE416.out | refine below_set ?_ GE420.out) | exact HB.out)⟩
             ·
              replace c43 := Bool.eq_false_iff.mpr c43
              subst c43
              have H1 : (some false) = some r := by rw [if_neg (show ¬ (false = true) by decide)] at H; exact H
              clear H
              have H := H1
              clear H1
              obtain rfl := Option.some.inj H
              exact absurd hr_.out (by decide)
            ·
             replace c41 := Bool.eq_false_iff.mpr c41
             subst c41
             have H1 : (some false) = some r := by rw [if_neg (show ¬ (false = true) by decide)] at H; exact H
             clear H
             have H := H1
             clear H1
             obtain rfl := Option.some.inj H
             exact absurd hr_.out (by decide)
           ·
            replace c39 := Bool.eq_false_iff.mpr c39
            subst c39
            have H1 : (some false) = some r := by rw [if_neg (show ¬ (false = true) by decide)] at H; exact H
            clear H
            have H := H1
            clear H1
            obtain rfl := Option.some.inj H
            exact absurd hr_.out (by decide)
          ·
           rw [if_neg c37] at H
           have c37b0 : (t405 == t421) = false := beq_eq_false_iff_ne.mpr c37
           have c37b1 : (t405 != t421) = true := bne_iff_ne.mpr c37
           obtain rfl := Option.some.inj H
           exact absurd hr_.out (by decide)
         ·
          rw [if_neg c35] at H
          have c35b0 : decide (t405 < 1073741789) = false := decide_eq_false c35
          clear c35
          obtain rfl := Option.some.inj H
          exact absurd hr_.out (by decide)
        ·
         rw [if_neg c34] at H
         have c34b0 : decide (1 ≤ t405) = false := decide_eq_false c34
         clear c34
         obtain rfl := Option.some.inj H
         exact absurd hr_.out (by decide)
      ·
       rw [if_neg c15] at H
       have c15b0 : (t413 == t407 && (t414 == t408)) = false := by simpa using c15
       (try (have c15b1 : decide (t413 = t407 && (t414 == t408)) = false := by simpa using c15))
       (try (have c15b2 : (t413 == t407 && (t414 == t408)) = false := by simpa using c15))
       (try (have c15b3 : ¬ (t413 = t407 && (t414 == t408)) := by simpa using c15))
       clear c15
       obtain rfl := Option.some.inj H
       exact absurd hr_.out (by decide)
     ·
      replace c14 := Bool.eq_false_iff.mpr c14
      subst c14
      have H1 : (some false) = some r := by rw [if_neg (show ¬ (false = true) by decide)] at H; exact H
      clear H
      have H := H1
      clear H1
      obtain rfl := Option.some.inj H
      exact absurd hr_.out (by decide)
    ·
     replace c13 := Bool.eq_false_iff.mpr c13
     subst c13
     have H1 : (some false) = some r := by rw [if_neg (show ¬ (false = true) by decide)] at H; exact H
     clear H
     have H := H1
     clear H1
     obtain rfl := Option.some.inj H
     exact absurd hr_.out (by decide)
   ·
    replace c12 := Bool.eq_false_iff.mpr c12
    subst c12
    have H1 : (some false) = some r := by rw [if_neg (show ¬ (false = true) by decide)] at H; exact H
    clear H
    have H := H1
    clear H1
    obtain rfl := Option.some.inj H
    exact absurd hr_.out (by decide)
  ·
   rw [if_neg c7] at H
   exact absurd H (by simp)
def laws_FnSigns.Pure : Prop := ∀ (l0 : List Int), l0.length ≤ maxLen → l0.length * 1 ≤ 140737488351232 → (∀ x ∈ l0, (Lit.int .u8 x).wf = true) → ∃ k, laws_FnSigns.f k l0 = some true
theorem laws_FnSigns.walk (P : laws_FnSigns.Pure) (a0 : Option Addr) (len0 cap0 : Nat) (z0 : List Int) (w : World) (w0 : (a0 = none ∧ len0 = 0 ∧ cap0 = 0 ∧ z0 = []) ∨ ∃ x, a0 = some x ∧ len0 ≤ cap0 ∧ cap0 ≤ maxLen ∧ z0.length = cap0 ∧ (∀ i, i < z0.length → w.cell? (x.add i) = some (.int .u8 (z0.getD i 0))) ∧ ∀ n ∈ z0, (Lit.int .u8 n).wf = true) (y0 : len0 * 1 ≤ 140737488351232) :
  Calls Try.prog 4 #[.slice a0 len0 cap0] w fun e w' => e = .returned (.bool true) ∧ Below w.heap.size w w' := by
 obtain ⟨l0, rfl, hr0, hm0, hw0, hc0⟩ := ReadsInt.ofRowC w0
 obtain ⟨k, h⟩ := P l0 hm0 y0 hw0
 refine (laws_FnSigns.calls k _ _ l0 true w (Kd.C_of_reads (d := (0 : Int)) (h1 := fun _ => rfl) hr0) hc0 h ⟨rfl⟩).mono ?_
 rintro e w' ⟨rfl, hd⟩
 exact ⟨rfl, hd⟩
end Go.Proofs.Ytmjmnmcpfpbkeaa.PFnSigns
