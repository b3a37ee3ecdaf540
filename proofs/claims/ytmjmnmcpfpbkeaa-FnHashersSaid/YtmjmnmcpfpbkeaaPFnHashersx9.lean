-- Written by this session's program wip/myprint.py, after the kit's print.
import Derived.Test.YtmjmnmcpfpbkeaaPFnHashersx0
import Derived.Test.YtmjmnmcpfpbkeaaPFnHashersx1
import Derived.Test.YtmjmnmcpfpbkeaaPFnHashersx2
import Derived.Test.YtmjmnmcpfpbkeaaPFnHashersx4
import Derived.Test.YtmjmnmcpfpbkeaaPFnHashersx6
import Derived.Test.YtmjmnmcpfpbkeaaPFnHashersx8
namespace Go.Proofs.Ytmjmnmcpfpbkeaa.PFnHashers
open Go.RowKit Go.Proofs.YtmjmnmcpfpbkeaaW.PrintWords Go.Proofs.YtmjmnmcpfpbkeaaW.PrintLast Go.Proofs.YtmjmnmcpfpbkeaaW.PrintMore
attribute [local go_sem] max2_int min2_int max_two min_two max_three min_three max_four min_four   -- for this text's walks alone
set_option linter.unusedVariables false
set_option linter.unusedSimpArgs false
attribute [local go_sem high] eqA25
def impl_HashEnd.f (k : Nat) (a0_0 : ByteArray) (a0_1 : ByteArray) (a0_2 : Int) : Option (ByteArray) := (impl_HasherOk.f a0_0 a0_1 a0_2).bind fun t370 => (if t370 = true then ((impl_padding.f a0_2).bind fun t371 => (if a0_1.size + t371.size ≤ 9223372036854775807 then ((impl_rounds.f k a0_0 (a0_1 ++ t371)).bind fun bt372 => (some bt372.1)) else (none))) else (some (⟨#[]⟩ : ByteArray)))
theorem impl_HashEnd.mono : ∀ a0 a1 a2 k, LeO (impl_HashEnd.f k a0 a1 a2) (impl_HashEnd.f (k + 1) a0 a1 a2) := by
 intro a0 a1 a2 k
 unfold impl_HashEnd.f
 repeat' first
   | (with_reducible exact impl_rounds.mono _ _ _)
   | (with_reducible exact LeO.refl _)
   | (with_reducible exact LeO.none _)
   | (with_reducible refine LeO.ite ?_ ?_)
   | (with_reducible refine LeO.bind ?_ (fun _ => ?_))
   | exact impl_rounds.mono _ _ _
   | exact LeO.none _
   | refine LeO.ite ?_ ?_
   | refine LeO.bind ?_ (fun _ => ?_)
def impl_HashEnd.T3 : Bool × List (List Nat × List Nat) := (true, [([], []), ([0], [0]), ([], []), ([2], [2]), ([], []), ([4], [4]), ([5], [5]), ([3, 6], [3, 6]), ([1, 7, 6], [1, 7]), ([8], [8]), ([9], [9]), ([9], [9]), ([10, 8, 0, 1, 2, 3, 4, 5, 6, 7, 8, 9, 10], [10]), ([11, 12, 0, 1, 2, 3, 4, 5, 6, 7, 8, 9, 10, 11, 12], [11])])
def impl_HashEnd.B3 : List Nat := [0, 1, 0, 4, 0, 16, 48, 124, 255, 511, 1023, 1023, 2047, 8191]
theorem impl_HashEnd.tab3 : rtab .any (opsOf Try.f13 3) = impl_HashEnd.T3 := by kernel_rfl
theorem impl_HashEnd.bits3 : waitsOk impl_HashEnd.T3.2 impl_HashEnd.B3 = true := by kernel_rfl
set_option maxHeartbeats 8000000 in
set_option maxRecDepth 100000 in
theorem impl_HashEnd.calls (k : Nat) (a0_0 : ByteArray) (a0_1 : ByteArray) (a0_2 : Int) (r : ByteArray) (w : World) (h : impl_HashEnd.f k a0_0 a0_1 a0_2 = some r) :
  Calls Try.prog 13 #[.agg #[.string a0_0, .string a0_1, .int .i64 a0_2]] w fun e w' => e = .returned (.string r) ∧ Below w.heap.size w w' := by
 have hu25 := Try.underlying25
 have HB := Aside0.mk (Below.refl w.heap.size w)
 have H : ((impl_HasherOk.f a0_0 a0_1 a0_2).bind fun t370 => (if t370 = true then ((impl_padding.f a0_2).bind fun t371 => (if a0_1.size + t371.size ≤ 9223372036854775807 then ((impl_rounds.f k a0_0 (a0_1 ++ t371)).bind fun bt372 => (some bt372.1)) else (none))) else (some (⟨#[]⟩ : ByteArray)))) = some r := h
 clear h
 replace H := Option.bind_eq_some_iff.mp H
 obtain ⟨t370, A20, H⟩ := H
 replace H : (if t370 = true then ((impl_padding.f a0_2).bind fun t371 => (if a0_1.size + t371.size ≤ 9223372036854775807 then ((impl_rounds.f k a0_0 (a0_1 ++ t371)).bind fun bt372 => (some bt372.1)) else (none))) else (some (⟨#[]⟩ : ByteArray))) = some r := H
 have A2 := Aside0.mk A20
 clear A20
 by_cases c3 : t370 = true
 ·
  subst c3
  have H1 : ((impl_padding.f a0_2).bind fun t371 => (if a0_1.size + t371.size ≤ 9223372036854775807 then ((impl_rounds.f k a0_0 (a0_1 ++ t371)).bind fun bt372 => (some bt372.1)) else (none))) = some r := by rw [if_pos rfl] at H; exact H
  clear H
  have H := H1
  clear H1
  replace H := Option.bind_eq_some_iff.mp H
  obtain ⟨t371, A40, H⟩ := H
  replace H : (if a0_1.size + t371.size ≤ 9223372036854775807 then ((impl_rounds.f k a0_0 (a0_1 ++ t371)).bind fun bt372 => (some bt372.1)) else (none)) = some r := H
  have A4 := Aside0.mk A40
  clear A40
  by_cases c5 : a0_1.size + t371.size ≤ 9223372036854775807
  ·
   rw [if_pos c5] at H
   have c5b0 := eq_true c5
   have c5b1 : decide (a0_1.size + t371.size ≤ 9223372036854775807) = true := decide_eq_true c5
   try have c5b2 : (9223372036854775807 < a0_1.size + t371.size) = False := eq_false (Nat.not_lt.2 c5)
   replace H := Option.bind_eq_some_iff.mp H
   obtain ⟨⟨t372, t373⟩, A60, H⟩ := H
   replace H : (some t372) = some r := H
   have A6 := Aside0.mk A60
   clear A60
   obtain rfl := Option.some.inj H
   go_enter Try.func13, Try.ntmps13
   try go_wp2_with (first | ((with_reducible refine gate_dst (N := 1) rfl ?_); refine box_event ?hg (N := 1) ?hd (cs := #[.string a0_0, .string a0_1, .int .i64 a0_2]) (t := 25) ?hr ?_; (case hd => rfl); (case hg => rfl); (case hr => first | (go_simp; done) | (go_simp; rfl)); intro gb369 hg w7 hbox hb; have n0_ := Aside0.mk (below_step (by repeat (first | (with_reducible first | exact HB.out | apply below_alloc | apply pw_below_drewN | apply below_drew1) | exact HB.out)) hb); have n1_ := Aside0.mk (hbox); have n2_ := Aside0.mk ((by rw [hg]; exact (below_size (by repeat (first | (with_reducible first | exact HB.out | apply below_alloc | apply pw_below_drewN | apply below_drew1) | exact HB.out))) : w.heap.size ≤ gb369)); have n3_ := Aside0.mk ((by rw [hg]; exact (below_size (by repeat (first | (with_reducible first | exact HB.out | apply below_alloc | apply pw_below_drewN | apply below_drew1) | exact HB.out))) : w.heap.size ≤ gb369)); clear HB; have HB := n0_; have BK369 := n1_; have GW369 := n2_; have GE369 := n3_; clear n0_ n1_ n2_ n3_; clear hb hbox hg; have hcz8_0 : w7.cell? ⟨gb369, 0, none⟩ = some (.string a0_0) := (blk_cell BK369.out 0).trans rfl; have hcz8_1 : w7.cell? ⟨gb369, 1, none⟩ = some (.string a0_1) := (blk_cell BK369.out 1).trans rfl; have hcz8_2 : w7.cell? ⟨gb369, 2, none⟩ = some (.int .i64 a0_2) := (blk_cell BK369.out 2).trans rfl; have hfz8_0 := blk_frozen BK369.out 0; have hfz8_1 := blk_frozen BK369.out 1; have hfz8_2 := blk_frozen BK369.out 2) | ((with_reducible refine gate_callee (f := 11) rfl ?_); refine goesL_ (some 6) rfl rfl Try.func11 (by kernel_rfl) rfl #[.agg #[.string a0_0, .string a0_1, .int .i64 a0_2]] rfl (by (try simp only [List.map_toArray, List.map_cons, List.map_nil]); first | done | rfl | (simp only [List.length_drop, List.length_take]; rfl)) ?_; (with_reducible refine (impl_HasherOk.calls a0_0 a0_1 a0_2 true _ A2.out).mono ?_); rintro e w9 ⟨rfl, hb⟩; refine ⟨_, rfl, ?_⟩; have n0_ := Aside0.mk (blk_below (g := gb369) (o := .cells #[.string a0_0, .string a0_1, .int .i64 a0_2] 25 (0, 0)) (by (with_reducible repeat (first | refine blk_drewN ?_ _ | refine blk_drew ?_ | refine blk_alloc ?_ _)); exact BK369.out) hb); have n1_ := Aside0.mk (below_step (by repeat (first | (with_reducible first | exact HB.out | apply below_alloc | apply pw_below_drewN | apply below_drew1 | refine below_set ?_ GE369.out) | exact HB.out)) hb); clear BK369; clear HB; have BK369 := n0_; have HB := n1_; clear n0_ n1_; (try clear hb); (try clear hb2); (try clear hk); (try clear hi)))
   have n0_ := Aside0.mk (blk_drew BK369.out)
   have n1_ := Aside0.mk (below_drew1 HB.out)
   clear BK369
   clear HB
   have BK369 := n0_
   have HB := n1_
   clear n0_ n1_
   refine start_ (n := 14) (S := fun w' => w'.cell? ⟨gb369, 0, none⟩ = some (.string a0_0) ∧ w'.cell? ⟨gb369, 1, none⟩ = some (.string a0_1) ∧ w'.cell? ⟨gb369, 2, none⟩ = some (.int .i64 a0_2)) (ds := []) #[false, false, false, false, false, false, false, false, false, false, false, false, false, false] (by kernel_rfl) rfl rfl ⟨(blk_cell BK369.out 0).trans rfl, (blk_cell BK369.out 1).trans rfl, (blk_cell BK369.out 2).trans rfl⟩ (fun hHeld => ?_); refine with_tabW impl_HashEnd.tab3 impl_HashEnd.bits3 (fun HT_ HW_ => ?_)
   generalize w9.drew = w10 at BK369 HB hHeld ⊢
   refine pure_ (i := 0) (N := some 9) (v := ?_) (a' := ?_) #[true, false, false, false, false, false, false, false, false, false, false, false, false, false] rfl rfl (any_of HT_.out (by kernel_rfl)) (fun _ _ _ h => h) (Or.inl ⟨by rfl, ?_⟩) ?_ ?_
   rotate_left
   ·
    intro w'
    go_simp
    with_reducible rfl
   rotate_left
   ·
    simp only [Act.put, List.setIfInBounds_toArray, List.set_cons_zero, List.set_cons_succ, i64_w, i32_w]
    rfl
   refine pure_ (i := 2) (N := some 11) (v := ?_) (a' := ?_) #[true, false, true, false, false, false, false, false, false, false, false, false, false, false] rfl rfl (any_of HT_.out (by kernel_rfl)) (fun _ _ _ h => h) (Or.inl ⟨by rfl, ?_⟩) ?_ ?_
   rotate_left
   ·
    intro w'
    go_simp
    with_reducible rfl
   rotate_left
   ·
    simp only [Act.put, List.setIfInBounds_toArray, List.set_cons_zero, List.set_cons_succ, i64_w, i32_w]
    rfl
   refine pure_ (i := 4) (N := some 13) (v := ?_) (a' := ?_) #[true, false, true, false, true, false, false, false, false, false, false, false, false, false] rfl rfl (any_of HT_.out (by kernel_rfl)) (fun _ _ _ h => h) (Or.inl ⟨by rfl, ?_⟩) ?_ ?_
   rotate_left
   ·
    intro w'
    go_simp
    with_reducible rfl
   rotate_left
   ·
    simp only [Act.put, List.setIfInBounds_toArray, List.set_cons_zero, List.set_cons_succ, i64_w, i32_w]
    rfl
   refine take_ (i := 1) (N := some 10) (v := ?_) (a' := ?_) #[true, true, true, false, true, false, false, false, false, false, false, false, false, false] rfl rfl (take_ofW HT_.out HW_.out (by kernel_rfl)) (fun _ _ _ h => h) (Or.inl ⟨by rfl, ?_⟩) hHeld ?_ ?_
   rotate_left
   ·
    rintro w' ⟨s0, s1, s2⟩
    go_simp
    with_reducible rfl
   rotate_left
   ·
    simp only [Act.put, List.setIfInBounds_toArray, List.set_cons_zero, List.set_cons_succ, i64_w, i32_w]
    rfl
   refine take_ (i := 3) (N := some 12) (v := ?_) (a' := ?_) #[true, true, true, true, true, false, false, false, false, false, false, false, false, false] rfl rfl (take_ofW HT_.out HW_.out (by kernel_rfl)) (fun _ _ _ h => h) (Or.inl ⟨by rfl, ?_⟩) hHeld ?_ ?_
   rotate_left
   ·
    rintro w' ⟨s0, s1, s2⟩
    go_simp
    with_reducible rfl
   rotate_left
   ·
    simp only [Act.put, List.setIfInBounds_toArray, List.set_cons_zero, List.set_cons_succ, i64_w, i32_w]
    rfl
   refine take_ (i := 5) (N := some 14) (v := ?_) (a' := ?_) #[true, true, true, true, true, true, false, false, false, false, false, false, false, false] rfl rfl (take_ofW HT_.out HW_.out (by kernel_rfl)) (fun _ _ _ h => h) (Or.inl ⟨by rfl, ?_⟩) hHeld ?_ ?_
   rotate_left
   ·
    rintro w' ⟨s0, s1, s2⟩
    go_simp
    with_reducible rfl
   rotate_left
   ·
    simp only [Act.put, List.setIfInBounds_toArray, List.set_cons_zero, List.set_cons_succ, i64_w, i32_w]
    rfl
   refine one_ (i := 6) (N := some 15) #[true, true, true, true, true, true, true, false, false, false, false, false, false, false] rfl rfl (one_of HT_.out (by kernel_rfl)) (by decide) (fun K hK => ?_)
   refine goes_ Try.func43 (by kernel_rfl) rfl #[.int .i64 a0_2] (by rfl) rfl rfl (by (try simp only [List.map_toArray, List.map_cons, List.map_nil]); first | done | rfl | (simp only [List.length_drop, List.length_take]; rfl)) ?_
   with_reducible refine (impl_padding.calls a0_2 t371 _ A4.out).mono ?_
   rintro e w11 ⟨rfl, hb⟩
   refine ⟨_, rfl, ?_⟩
   have n0_ := Aside0.mk (blk_below (g := gb369) (o := .cells #[.string a0_0, .string a0_1, .int .i64 a0_2] 25 (0, 0)) (by (with_reducible repeat (first | refine blk_drewN ?_ _ | refine blk_drew ?_ | refine blk_alloc ?_ _)); exact BK369.out) hb)
   have n1_ := Aside0.mk (below_step (by repeat (first | (with_reducible first | exact HB.out | apply below_alloc | apply pw_below_drewN | apply below_drew1 | refine below_set ?_ GE369.out) | exact HB.out)) hb)
   clear BK369
   clear HB
   have BK369 := n0_
   have HB := n1_
   clear n0_ n1_
   (try clear hb)
   (try clear hb2)
   (try clear hk)
   (try clear hi)
   refine hK.out _ _ ⟨(blk_cell BK369.out 0).trans rfl, (blk_cell BK369.out 1).trans rfl, (blk_cell BK369.out 2).trans rfl⟩ (fun hHeld => ?_)
   clear hK K
   refine norm_ (a' := ?_) ?_ ?_
   rotate_left
   ·
    show Act.put _ (some 15) _ = _
    simp only [Act.put, List.setIfInBounds_toArray, List.set_cons_zero, List.set_cons_succ, i64_w, i32_w]
    rfl
   refine pure_ (i := 7) (N := some 16) (v := ?_) (a' := ?_) #[true, true, true, true, true, true, true, true, false, false, false, false, false, false] rfl rfl (any_of HT_.out (by kernel_rfl)) (fun _ _ _ h => h) (Or.inl ⟨by rfl, ?_⟩) ?_ ?_
   rotate_left
   ·
    intro w'
    go_simp
    with_reducible rfl
   rotate_left
   ·
    simp only [Act.put, List.setIfInBounds_toArray, List.set_cons_zero, List.set_cons_succ, i64_w, i32_w]
    rfl
   refine one_ (i := 8) (N := some 17) #[true, true, true, true, true, true, true, true, true, false, false, false, false, false] rfl rfl (one_of HT_.out (by kernel_rfl)) (by decide) (fun K hK => ?_)
   refine goes_ Try.func36 (by kernel_rfl) rfl #[.string a0_0, .string (a0_1 ++ t371)] (by rfl) rfl rfl (by (try simp only [List.map_toArray, List.map_cons, List.map_nil]); first | done | rfl | (simp only [List.length_drop, List.length_take]; rfl)) ?_
   with_reducible refine (impl_rounds.calls k a0_0 (a0_1 ++ t371) t372 t373 _ A6.out).mono ?_
   rintro e w12 ⟨rfl, hb⟩
   refine ⟨_, rfl, ?_⟩
   have n0_ := Aside0.mk (blk_below (g := gb369) (o := .cells #[.string a0_0, .string a0_1, .int .i64 a0_2] 25 (0, 0)) (by (with_reducible repeat (first | refine blk_drewN ?_ _ | refine blk_drew ?_ | refine blk_alloc ?_ _)); exact BK369.out) hb)
   have n1_ := Aside0.mk (below_step (by repeat (first | (with_reducible first | exact HB.out | apply below_alloc | apply pw_below_drewN | apply below_drew1 | refine below_set ?_ GE369.out) | exact HB.out)) hb)
   clear BK369
   clear HB
   have BK369 := n0_
   have HB := n1_
   clear n0_ n1_
   (try clear hb)
   (try clear hb2)
   (try clear hk)
   (try clear hi)
   refine hK.out _ _ ⟨(blk_cell BK369.out 0).trans rfl, (blk_cell BK369.out 1).trans rfl, (blk_cell BK369.out 2).trans rfl⟩ (fun hHeld => ?_)
   clear hK K
   refine norm_ (a' := ?_) ?_ ?_
   rotate_left
   ·
    show Act.put _ (some 17) _ = _
    simp only [Act.put, List.setIfInBounds_toArray, List.set_cons_zero, List.set_cons_succ, i64_w, i32_w]
    rfl
   refine pure_ (i := 9) (N := some 8) (v := ?_) (a' := ?_) #[true, true, true, true, true, true, true, true, true, true, false, false, false, false] rfl rfl (any_of HT_.out (by kernel_rfl)) (fun _ _ _ h => h) (Or.inl ⟨by rfl, ?_⟩) ?_ ?_
   rotate_left
   ·
    intro w'
    go_simp
    with_reducible rfl
   rotate_left
   ·
    simp only [Act.put, List.setIfInBounds_toArray, List.set_cons_zero, List.set_cons_succ, i64_w, i32_w]
    rfl
   refine pure_ (i := 10) (N := some 18) (v := ?_) (a' := ?_) #[true, true, true, true, true, true, true, true, true, true, true, false, false, false] rfl rfl (any_of HT_.out (by kernel_rfl)) (fun _ _ _ h => h) (Or.inl ⟨by rfl, ?_⟩) ?_ ?_
   rotate_left
   ·
    intro w'
    go_simp
    with_reducible rfl
   rotate_left
   ·
    simp only [Act.put, List.setIfInBounds_toArray, List.set_cons_zero, List.set_cons_succ, i64_w, i32_w]
    rfl
   refine pure_ (i := 11) (N := some 19) (v := ?_) (a' := ?_) #[true, true, true, true, true, true, true, true, true, true, true, true, false, false] rfl rfl (any_of HT_.out (by kernel_rfl)) (fun _ _ _ h => h) (Or.inl ⟨by rfl, ?_⟩) ?_ ?_
   rotate_left
   ·
    intro w'
    go_simp
    with_reducible rfl
   rotate_left
   ·
    simp only [Act.put, List.setIfInBounds_toArray, List.set_cons_zero, List.set_cons_succ, i64_w, i32_w]
    rfl
   refine pure_ (i := 12) (N := some 3) (v := ?_) (a' := ?_) #[true, true, true, true, true, true, true, true, true, true, true, true, true, false] rfl rfl (any_of HT_.out (by kernel_rfl)) (fun _ _ _ h => h) (Or.inl ⟨by rfl, ?_⟩) ?_ ?_
   rotate_left
   ·
    intro w'
    go_simp
    with_reducible rfl
   rotate_left
   ·
    simp only [Act.put, List.setIfInBounds_toArray, List.set_cons_zero, List.set_cons_succ, i64_w, i32_w]
    rfl
   refine pure_ (i := 13) (N := some 4) (v := ?_) (a' := ?_) #[true, true, true, true, true, true, true, true, true, true, true, true, true, true] rfl rfl (any_of HT_.out (by kernel_rfl)) (fun _ _ _ h => h) (Or.inl ⟨by rfl, ?_⟩) ?_ ?_
   rotate_left
   ·
    intro w'
    go_simp
    with_reducible rfl
   rotate_left
   ·
    simp only [Act.put, List.setIfInBounds_toArray, List.set_cons_zero, List.set_cons_succ, i64_w, i32_w]
    rfl
   refine done_ (done_of HT_.out (by kernel_rfl)) ?_
   try go_wp2
   go_ret
   exact ⟨by first | rfl | (simp [errW_none, errW_some] <;> rfl) | (simp [*, errW_none, errW_some] <;> rfl), by repeat (first | (with_reducible first | exact HB.out | apply below_alloc | apply pw_below_drewN | apply below_drew1 | refine below_set ?_ GE369.out) | exact HB.out)⟩
  ·
   rw [if_neg c5] at H
   exact absurd H (by simp)
 ·
  replace c3 := Bool.eq_false_iff.mpr c3
  subst c3
  have H1 : (some (⟨#[]⟩ : ByteArray)) = some r := by rw [if_neg (show ¬ (false = true) by decide)] at H; exact H
  clear H
  have H := H1
  clear H1
  obtain rfl := Option.some.inj H
  go_enter Try.func13, Try.ntmps13
  go_wp2_with (first | ((with_reducible refine gate_dst (N := 1) rfl ?_); refine box_event ?hg (N := 1) ?hd (cs := #[.string a0_0, .string a0_1, .int .i64 a0_2]) (t := 25) ?hr ?_; (case hd => rfl); (case hg => rfl); (case hr => first | (go_simp; done) | (go_simp; rfl)); intro gb369 hg w13 hbox hb; have n0_ := Aside0.mk (below_step (by repeat (first | (with_reducible first | exact HB.out | apply below_alloc | apply pw_below_drewN | apply below_drew1) | exact HB.out)) hb); have n1_ := Aside0.mk (hbox); have n2_ := Aside0.mk ((by rw [hg]; exact (below_size (by repeat (first | (with_reducible first | exact HB.out | apply below_alloc | apply pw_below_drewN | apply below_drew1) | exact HB.out))) : w.heap.size ≤ gb369)); have n3_ := Aside0.mk ((by rw [hg]; exact (below_size (by repeat (first | (with_reducible first | exact HB.out | apply below_alloc | apply pw_below_drewN | apply below_drew1) | exact HB.out))) : w.heap.size ≤ gb369)); clear HB; have HB := n0_; have BK369 := n1_; have GW369 := n2_; have GE369 := n3_; clear n0_ n1_ n2_ n3_; clear hb hbox hg; have hcz14_0 : w13.cell? ⟨gb369, 0, none⟩ = some (.string a0_0) := (blk_cell BK369.out 0).trans rfl; have hcz14_1 : w13.cell? ⟨gb369, 1, none⟩ = some (.string a0_1) := (blk_cell BK369.out 1).trans rfl; have hcz14_2 : w13.cell? ⟨gb369, 2, none⟩ = some (.int .i64 a0_2) := (blk_cell BK369.out 2).trans rfl; have hfz14_0 := blk_frozen BK369.out 0; have hfz14_1 := blk_frozen BK369.out 1; have hfz14_2 := blk_frozen BK369.out 2) | ((with_reducible refine gate_callee (f := 11) rfl ?_); refine goesL_ (some 6) rfl rfl Try.func11 (by kernel_rfl) rfl #[.agg #[.string a0_0, .string a0_1, .int .i64 a0_2]] rfl (by (try simp only [List.map_toArray, List.map_cons, List.map_nil]); first | done | rfl | (simp only [List.length_drop, List.length_take]; rfl)) ?_; (with_reducible refine (impl_HasherOk.calls a0_0 a0_1 a0_2 false _ A2.out).mono ?_); rintro e w15 ⟨rfl, hb⟩; refine ⟨_, rfl, ?_⟩; have n0_ := Aside0.mk (blk_below (g := gb369) (o := .cells #[.string a0_0, .string a0_1, .int .i64 a0_2] 25 (0, 0)) (by (with_reducible repeat (first | refine blk_drewN ?_ _ | refine blk_drew ?_ | refine blk_alloc ?_ _)); exact BK369.out) hb); have n1_ := Aside0.mk (below_step (by repeat (first | (with_reducible first | exact HB.out | apply below_alloc | apply pw_below_drewN | apply below_drew1 | refine below_set ?_ GE369.out) | exact HB.out)) hb); clear BK369; clear HB; have BK369 := n0_; have HB := n1_; clear n0_ n1_; (try clear hb); (try clear hb2); (try clear hk); (try clear hi)))
  go_ret
  exact ⟨by first | rfl | (simp [errW_none, errW_some] <;> rfl) | (simp [*, errW_none, errW_some] <;> rfl), by repeat (first | (with_reducible first | exact HB.out | apply below_alloc | apply pw_below_drewN | apply below_drew1 | refine below_set ?_ GE369.out) | exact HB.out)⟩
def laws_FnHashers.j0 : Nat → ByteArray → Bool → ByteArray → ByteArray → Int → ByteArray → ByteArray → Int → Option (Bool)
 | 0, _, _, _, _, _, _, _, _ => none
 | k + 1, x4, x29, x380000, x380001, x380002, x384000, x384001, x384002 => if x29 = true then (some false) else ((spec_HasherOk.f x380000 x380001 x380002).bind fun t390 => (if t390 = true then ((impl_HasherOk.f x384000 x384001 x384002).bind fun t391 => (if t391 = true then ((impl_HashEnd.f k x384000 x384001 x384002).bind fun t392 => (if (t392.size : Int) = 32 then (if (x384000.toList == x380000.toList && (x384001.toList == x380001.toList && (x384002 == x380002))) = true then (some true) else (some (x384002 == (wrap64 (x380002 + (x4.size : Int)))))) else (some false))) else (some false))) else (if (x384000.toList == x380000.toList && (x384001.toList == x380001.toList && (x384002 == x380002))) = true then ((impl_HashEnd.f k x380000 x380001 x380002).bind fun t393 => (some (t393.toList == ([] : List UInt8)))) else (some false))))
def laws_FnHashers.f (k : Nat) (l0 : List Int) : Option (Bool) := (laws_big.f l0).bind fun t374 => (if t374 = true then (some true) else ((spec_DrawHashMore.f k l0).bind fun bt375 => ((impl_HashMore.f k bt375.1 bt375.2.1 bt375.2.2.1 bt375.2.2.2).bind fun bt380 => ((spec_HashMore.f k bt375.1 bt375.2.1 bt375.2.2.1 bt375.2.2.2).bind fun bt384 => (if (!(bt380.1.toList == bt384.1.toList) || (!(bt380.2.1.toList == bt384.2.1.toList) || (!(bt380.2.2 == bt384.2.2)))) = true then (laws_FnHashers.j0 k bt375.2.2.2 true bt375.1 bt375.2.1 bt375.2.2.1 bt380.1 bt380.2.1 bt380.2.2) else ((impl_HasherOk.f bt375.1 bt375.2.1 bt375.2.2.1).bind fun t388 => ((spec_HasherOk.f bt375.1 bt375.2.1 bt375.2.2.1).bind fun t389 => (laws_FnHashers.j0 k bt375.2.2.2 (t388 != t389) bt375.1 bt375.2.1 bt375.2.2.1 bt380.1 bt380.2.1 bt380.2.2))))))))
theorem laws_FnHashers.mono_l : ∀ k, (∀ y0 y1 y2 y3 y4 y5 y6 y7, LeO (laws_FnHashers.j0 k y0 y1 y2 y3 y4 y5 y6 y7) (laws_FnHashers.j0 (k + 1) y0 y1 y2 y3 y4 y5 y6 y7))
 | 0 => fun _ _ _ _ _ _ _ _ r h => by simp [laws_FnHashers.j0] at h
 | k + 1 => by
  have ih0 := laws_FnHashers.mono_l k
  ·
   intro y0 y1 y2 y3 y4 y5 y6 y7
   unfold laws_FnHashers.j0
   repeat' first
   | (with_reducible exact ih0 _ _ _ _ _ _ _ _)
   | (with_reducible exact impl_HashEnd.mono _ _ _ _)
   | (with_reducible exact impl_HashMore.mono _ _ _ _ _)
   | (with_reducible exact spec_DrawHashMore.mono _ _)
   | (with_reducible exact spec_HashMore.mono _ _ _ _ _)
   | (with_reducible exact LeO.refl _)
   | (with_reducible exact LeO.none _)
   | (with_reducible refine LeO.ite ?_ ?_)
   | (with_reducible refine LeO.bind ?_ (fun _ => ?_))
   | exact ih0 _ _ _ _ _ _ _ _
   | exact impl_HashEnd.mono _ _ _ _
   | exact impl_HashMore.mono _ _ _ _ _
   | exact spec_DrawHashMore.mono _ _
   | exact spec_HashMore.mono _ _ _ _ _
   | exact LeO.none _
   | refine LeO.ite ?_ ?_
   | refine LeO.bind ?_ (fun _ => ?_)
theorem laws_FnHashers.mono : ∀ a0 k, LeO (laws_FnHashers.f k a0) (laws_FnHashers.f (k + 1) a0) := by
 intro a0 k
 have ih0 := laws_FnHashers.mono_l k
 unfold laws_FnHashers.f
 repeat' first
   | (with_reducible exact ih0 _ _ _ _ _ _ _ _)
   | (with_reducible exact impl_HashEnd.mono _ _ _ _)
   | (with_reducible exact impl_HashMore.mono _ _ _ _ _)
   | (with_reducible exact spec_DrawHashMore.mono _ _)
   | (with_reducible exact spec_HashMore.mono _ _ _ _ _)
   | (with_reducible exact LeO.refl _)
   | (with_reducible exact LeO.none _)
   | (with_reducible refine LeO.ite ?_ ?_)
   | (with_reducible refine LeO.bind ?_ (fun _ => ?_))
   | exact ih0 _ _ _ _ _ _ _ _
   | exact impl_HashEnd.mono _ _ _ _
   | exact impl_HashMore.mono _ _ _ _ _
   | exact spec_DrawHashMore.mono _ _
   | exact spec_HashMore.mono _ _ _ _ _
   | exact LeO.none _
   | refine LeO.ite ?_ ?_
   | refine LeO.bind ?_ (fun _ => ?_)
def laws_FnHashers.T6 : Bool × List (List Nat × List Nat) := (true, [([], []), ([], []), ([0, 1], [0, 1]), ([2], [2]), ([3], [3]), ([4, 3, 3], [3, 4]), ([3], [3]), ([6, 5, 3], [3, 6]), ([5, 7, 3], [3, 5, 7]), ([3, 8], [3, 8])])
def laws_FnHashers.B6 : List Nat := [0, 0, 3, 7, 15, 31, 15, 127, 255, 511]
theorem laws_FnHashers.tab6 : rtab .any (opsOf Try.f3 6) = laws_FnHashers.T6 := by kernel_rfl
theorem laws_FnHashers.bits6 : waitsOk laws_FnHashers.T6.2 laws_FnHashers.B6 = true := by kernel_rfl
set_option maxHeartbeats 8000000 in
set_option maxRecDepth 100000 in
theorem laws_FnHashers.calls (k : Nat) (A0 : Option Addr) (c0 : Nat) (l0 : List Int) (r : Bool) (w : World) (hr0 : Kd.C (Kd.int .u8) w A0 l0.length l0) (hc0 : l0.length ≤ c0) (h : laws_FnHashers.f k l0 = some r) :
  Calls Try.prog 3 #[.slice A0 l0.length c0] w fun e w' => e = .returned (.bool r) ∧ Below w.heap.size w w' := by
 have hu25 := Try.underlying25
 have HR0 := Aside0.mk hr0
 have HC0 := Aside0.mk hc0
 clear hr0 hc0
 have HB := Aside0.mk (Below.refl w.heap.size w)
 have H : ((laws_big.f l0).bind fun t374 => (if t374 = true then (some true) else ((spec_DrawHashMore.f k l0).bind fun bt375 => ((impl_HashMore.f k bt375.1 bt375.2.1 bt375.2.2.1 bt375.2.2.2).bind fun bt380 => ((spec_HashMore.f k bt375.1 bt375.2.1 bt375.2.2.1 bt375.2.2.2).bind fun bt384 => (if (!(bt380.1.toList == bt384.1.toList) || (!(bt380.2.1.toList == bt384.2.1.toList) || (!(bt380.2.2 == bt384.2.2)))) = true then (laws_FnHashers.j0 k bt375.2.2.2 true bt375.1 bt375.2.1 bt375.2.2.1 bt380.1 bt380.2.1 bt380.2.2) else ((impl_HasherOk.f bt375.1 bt375.2.1 bt375.2.2.1).bind fun t388 => ((spec_HasherOk.f bt375.1 bt375.2.1 bt375.2.2.1).bind fun t389 => (laws_FnHashers.j0 k bt375.2.2.2 (t388 != t389) bt375.1 bt375.2.1 bt375.2.2.1 bt380.1 bt380.2.1 bt380.2.2))))))))) = some r := h
 clear h
 replace H := Option.bind_eq_some_iff.mp H
 obtain ⟨t374, A20, H⟩ := H
 replace H : (if t374 = true then (some true) else ((spec_DrawHashMore.f k l0).bind fun bt375 => ((impl_HashMore.f k bt375.1 bt375.2.1 bt375.2.2.1 bt375.2.2.2).bind fun bt380 => ((spec_HashMore.f k bt375.1 bt375.2.1 bt375.2.2.1 bt375.2.2.2).bind fun bt384 => (if (!(bt380.1.toList == bt384.1.toList) || (!(bt380.2.1.toList == bt384.2.1.toList) || (!(bt380.2.2 == bt384.2.2)))) = true then (laws_FnHashers.j0 k bt375.2.2.2 true bt375.1 bt375.2.1 bt375.2.2.1 bt380.1 bt380.2.1 bt380.2.2) else ((impl_HasherOk.f bt375.1 bt375.2.1 bt375.2.2.1).bind fun t388 => ((spec_HasherOk.f bt375.1 bt375.2.1 bt375.2.2.1).bind fun t389 => (laws_FnHashers.j0 k bt375.2.2.2 (t388 != t389) bt375.1 bt375.2.1 bt375.2.2.1 bt380.1 bt380.2.1 bt380.2.2)))))))) = some r := H
 have A2 := Aside0.mk A20
 clear A20
 by_cases c3 : t374 = true
 ·
  subst c3
  have H1 : (some true) = some r := by rw [if_pos rfl] at H; exact H
  clear H
  have H := H1
  clear H1
  obtain rfl := Option.some.inj H
  go_enter Try.func3, Try.ntmps3
  go_wp2_with (first | ((with_reducible refine gate_callee (f := 7) rfl ?_); refine goesL_ (some 8) rfl rfl Try.func7 (by kernel_rfl) rfl #[.slice A0 l0.length c0] rfl (by (try simp only [List.map_toArray, List.map_cons, List.map_nil]); first | done | rfl | (simp only [List.length_drop, List.length_take]; rfl)) ?_; (with_reducible refine (laws_big.calls _ _ l0 true _ ?side1 ?side2 A2.out).mono ?_); (case side1 => repeat (first | exact HR0.out | (with_reducible refine Kd.C_alloc ?_ _) | (with_reducible refine Kd.C_drewN ?_ _) | (with_reducible refine Kd.C_drew ?_))); (case side2 => exact HC0.out); rintro e w' ⟨rfl, ⟨nd, rfl⟩⟩; refine ⟨_, rfl, ?_⟩))
  go_ret
  exact ⟨by first | rfl | (simp [errW_none, errW_some] <;> rfl) | (simp [*, errW_none, errW_some] <;> rfl), by repeat (first | (with_reducible first | exact HB.out | apply below_alloc | apply pw_below_drewN | apply below_drew1) | exact HB.out)⟩
 ·
  replace c3 := Bool.eq_false_iff.mpr c3
  subst c3
  have H1 : ((spec_DrawHashMore.f k l0).bind fun bt375 => ((impl_HashMore.f k bt375.1 bt375.2.1 bt375.2.2.1 bt375.2.2.2).bind fun bt380 => ((spec_HashMore.f k bt375.1 bt375.2.1 bt375.2.2.1 bt375.2.2.2).bind fun bt384 => (if (!(bt380.1.toList == bt384.1.toList) || (!(bt380.2.1.toList == bt384.2.1.toList) || (!(bt380.2.2 == bt384.2.2)))) = true then (laws_FnHashers.j0 k bt375.2.2.2 true bt375.1 bt375.2.1 bt375.2.2.1 bt380.1 bt380.2.1 bt380.2.2) else ((impl_HasherOk.f bt375.1 bt375.2.1 bt375.2.2.1).bind fun t388 => ((spec_HasherOk.f bt375.1 bt375.2.1 bt375.2.2.1).bind fun t389 => (laws_FnHashers.j0 k bt375.2.2.2 (t388 != t389) bt375.1 bt375.2.1 bt375.2.2.1 bt380.1 bt380.2.1 bt380.2.2))))))) = some r := by rw [if_neg (show ¬ (false = true) by decide)] at H; exact H
  clear H
  have H := H1
  clear H1
  replace H := Option.bind_eq_some_iff.mp H
  obtain ⟨⟨t375, t376, t377, t378⟩, A40, H⟩ := H
  replace H : ((impl_HashMore.f k t375 t376 t377 t378).bind fun bt380 => ((spec_HashMore.f k t375 t376 t377 t378).bind fun bt384 => (if (!(bt380.1.toList == bt384.1.toList) || (!(bt380.2.1.toList == bt384.2.1.toList) || (!(bt380.2.2 == bt384.2.2)))) = true then (laws_FnHashers.j0 k t378 true t375 t376 t377 bt380.1 bt380.2.1 bt380.2.2) else ((impl_HasherOk.f t375 t376 t377).bind fun t388 => ((spec_HasherOk.f t375 t376 t377).bind fun t389 => (laws_FnHashers.j0 k t378 (t388 != t389) t375 t376 t377 bt380.1 bt380.2.1 bt380.2.2)))))) = some r := H
  have A4 := Aside0.mk A40
  clear A40
  replace H := Option.bind_eq_some_iff.mp H
  obtain ⟨⟨t380, t381, t382⟩, A50, H⟩ := H
  replace H : ((spec_HashMore.f k t375 t376 t377 t378).bind fun bt384 => (if (!(t380.toList == bt384.1.toList) || (!(t381.toList == bt384.2.1.toList) || (!(t382 == bt384.2.2)))) = true then (laws_FnHashers.j0 k t378 true t375 t376 t377 t380 t381 t382) else ((impl_HasherOk.f t375 t376 t377).bind fun t388 => ((spec_HasherOk.f t375 t376 t377).bind fun t389 => (laws_FnHashers.j0 k t378 (t388 != t389) t375 t376 t377 t380 t381 t382))))) = some r := H
  have A5 := Aside0.mk A50
  clear A50
  replace H := Option.bind_eq_some_iff.mp H
  obtain ⟨⟨t384, t385, t386⟩, A60, H⟩ := H
  replace H : (if (!(t380.toList == t384.toList) || (!(t381.toList == t385.toList) || (!(t382 == t386)))) = true then (laws_FnHashers.j0 k t378 true t375 t376 t377 t380 t381 t382) else ((impl_HasherOk.f t375 t376 t377).bind fun t388 => ((spec_HasherOk.f t375 t376 t377).bind fun t389 => (laws_FnHashers.j0 k t378 (t388 != t389) t375 t376 t377 t380 t381 t382)))) = some r := H
  have A6 := Aside0.mk A60
  clear A60
  have HC7 := Aside0.mk H
  clear H
  go_enter Try.func3, Try.ntmps3
  go_upto_region 6 with (first | ((with_reducible refine gate_callee (f := 7) rfl ?_); refine goesL_ (some 8) rfl rfl Try.func7 (by kernel_rfl) rfl #[.slice A0 l0.length c0] rfl (by (try simp only [List.map_toArray, List.map_cons, List.map_nil]); first | done | rfl | (simp only [List.length_drop, List.length_take]; rfl)) ?_; (with_reducible refine (laws_big.calls _ _ l0 false _ ?side1 ?side2 A2.out).mono ?_); (case side1 => repeat (first | exact HR0.out | (with_reducible refine Kd.C_alloc ?_ _) | (with_reducible refine Kd.C_drewN ?_ _) | (with_reducible refine Kd.C_drew ?_))); (case side2 => exact HC0.out); rintro e w' ⟨rfl, ⟨nd, rfl⟩⟩; refine ⟨_, rfl, ?_⟩) | ((with_reducible refine gate_callee (f := 8) rfl ?_); refine goesL_ (some 11) rfl rfl Try.func8 (by kernel_rfl) rfl #[.slice A0 l0.length c0] rfl (by (try simp only [List.map_toArray, List.map_cons, List.map_nil]); first | done | rfl | (simp only [List.length_drop, List.length_take]; rfl)) ?_; (with_reducible refine (spec_DrawHashMore.calls k _ _ l0 t375 t376 t377 t378 _ ?side1 ?side2 A4.out).mono ?_); (case side1 => repeat (first | exact HR0.out | (with_reducible refine Kd.C_alloc ?_ _) | (with_reducible refine Kd.C_drewN ?_ _) | (with_reducible refine Kd.C_drew ?_))); (case side2 => exact HC0.out); rintro e w8 ⟨rfl, hb⟩; refine ⟨_, rfl, ?_⟩; have n0_ := Aside0.mk (below_step (by repeat (first | (with_reducible first | exact HB.out | apply below_alloc | apply pw_below_drewN | apply below_drew1) | exact HB.out)) hb); clear HB; have HB := n0_; clear n0_; (try clear hb); (try clear hb2); (try clear hk); (try clear hi)) | ((with_reducible refine gate_dst (N := 3) rfl ?_); (try (refine gate_guard (by rfl) ?_; dsimp only)); refine box_event ?hg (N := 3) ?hd (cs := #[.string (⟨#[]⟩ : ByteArray), .string (⟨#[]⟩ : ByteArray), .int .i64 0]) (t := 25) ?hr ?_; (case hd => rfl); (case hg => rfl); (case hr => first | (go_simp; done) | (go_simp; rfl)); intro gb379 hg w9 hbox hb; have n0_ := Aside0.mk (below_step (by repeat (first | (with_reducible first | exact HB.out | apply below_alloc | apply pw_below_drewN | apply below_drew1) | exact HB.out)) hb); have n1_ := Aside0.mk (hbox); have n2_ := Aside0.mk ((by rw [hg]; exact (below_size (by repeat (first | (with_reducible first | exact HB.out | apply below_alloc | apply pw_below_drewN | apply below_drew1) | exact HB.out))) : w.heap.size ≤ gb379)); have n3_ := Aside0.mk ((by rw [hg]; exact (below_size (by repeat (first | (with_reducible first | exact HB.out | apply below_alloc | apply pw_below_drewN | apply below_drew1) | exact HB.out))) : w.heap.size ≤ gb379)); clear HB; have HB := n0_; have BK379 := n1_; have GW379 := n2_; have GE379 := n3_; clear n0_ n1_ n2_ n3_; clear hb hbox hg; have hcz10_0 : w9.cell? ⟨gb379, 0, none⟩ = some (.string (⟨#[]⟩ : ByteArray)) := (blk_cell BK379.out 0).trans rfl; have hcz10_1 : w9.cell? ⟨gb379, 1, none⟩ = some (.string (⟨#[]⟩ : ByteArray)) := (blk_cell BK379.out 1).trans rfl; have hcz10_2 : w9.cell? ⟨gb379, 2, none⟩ = some (.int .i64 0) := (blk_cell BK379.out 2).trans rfl; have hfz10_0 := blk_frozen BK379.out 0; have hfz10_1 := blk_frozen BK379.out 1; have hfz10_2 := blk_frozen BK379.out 2) | ((with_reducible refine gate_callee (f := 9) rfl ?_); refine goesL_ (some 16) rfl rfl Try.func9 (by kernel_rfl) rfl #[.agg #[.string t375, .string t376, .int .i64 t377], .string t378] rfl (by (try simp only [List.map_toArray, List.map_cons, List.map_nil]); first | done | rfl | (simp only [List.length_drop, List.length_take]; rfl)) ?_; (with_reducible refine (impl_HashMore.calls k t375 t376 t377 t378 t380 t381 t382 _ A5.out).mono ?_); rintro e w11 ⟨rfl, hb⟩; refine ⟨_, rfl, ?_⟩; have n0_ := Aside0.mk (blk_below (g := gb379) (o := .cells #[.string t375, .string t376, .int .i64 t377] 25 (0, 0)) (by (with_reducible repeat (first | refine blk_drewN ?_ _ | refine blk_drew ?_ | refine blk_alloc ?_ _)); refine blk_put (cs := #[.string t375, .string t376, .int .i64 0]) ?_ 2 _ rfl; (with_reducible repeat (first | refine blk_drewN ?_ _ | refine blk_drew ?_ | refine blk_alloc ?_ _)); refine blk_put (cs := #[.string t375, .string (⟨#[]⟩ : ByteArray), .int .i64 0]) ?_ 1 _ rfl; (with_reducible repeat (first | refine blk_drewN ?_ _ | refine blk_drew ?_ | refine blk_alloc ?_ _)); refine blk_put (cs := #[.string (⟨#[]⟩ : ByteArray), .string (⟨#[]⟩ : ByteArray), .int .i64 0]) ?_ 0 _ rfl; (with_reducible repeat (first | refine blk_drewN ?_ _ | refine blk_drew ?_ | refine blk_alloc ?_ _)); exact BK379.out) hb); have n1_ := Aside0.mk (below_step (by repeat (first | (with_reducible first | exact HB.out | apply below_alloc | apply pw_below_drewN | apply below_drew1 | refine below_set ?_ GE379.out) | exact HB.out)) hb); clear BK379; clear HB; have BK379 := n0_; have HB := n1_; clear n0_ n1_; (try clear hb); (try clear hb2); (try clear hk); (try clear hi)) | ((with_reducible refine gate_dst (N := 5) rfl ?_); (try (refine gate_guard (by rfl) ?_; dsimp only)); refine box_event ?hg (N := 5) ?hd (cs := #[.string (⟨#[]⟩ : ByteArray), .string (⟨#[]⟩ : ByteArray), .int .i64 0]) (t := 25) ?hr ?_; (case hd => rfl); (case hg => rfl); (case hr => first | (go_simp; done) | (go_simp; rfl)); intro gb383 hg w12 hbox hb; have n0_ := Aside0.mk (blk_below (g := gb379) (o := .cells #[.string t375, .string t376, .int .i64 t377] 25 (0, 0)) (by (with_reducible repeat (first | refine blk_drewN ?_ _ | refine blk_drew ?_ | refine blk_alloc ?_ _)); exact BK379.out) hb); have n1_ := Aside0.mk (below_step (by repeat (first | (with_reducible first | exact HB.out | apply below_alloc | apply pw_below_drewN | apply below_drew1 | refine below_set ?_ GE379.out) | exact HB.out)) hb); have n2_ := Aside0.mk (hbox); have n3_ := Aside0.mk ((by rw [hg]; exact (below_size (by repeat (first | (with_reducible first | exact HB.out | apply below_alloc | apply pw_below_drewN | apply below_drew1 | refine below_set ?_ GE379.out) | exact HB.out))) : w.heap.size ≤ gb383)); have n4_ := Aside0.mk ((by rw [hg]; exact (below_size (by repeat (first | (with_reducible first | exact HB.out | apply below_alloc | apply pw_below_drewN | apply below_drew1 | refine below_set ?_ GE379.out) | exact HB.out))) : w.heap.size ≤ gb383)); have n5_ := Aside0.mk ((by rw [hg]; exact Nat.ne_of_lt (blk_lt (g := gb379) (o := .cells #[.string t375, .string t376, .int .i64 t377] 25 (0, 0)) (by (with_reducible repeat (first | refine blk_drewN ?_ _ | refine blk_drew ?_ | refine blk_alloc ?_ _)); exact BK379.out)) : gb379 ≠ gb383)); have n6_ := Aside0.mk ((by rw [hg]; exact Nat.ne_of_gt (blk_lt (g := gb379) (o := .cells #[.string t375, .string t376, .int .i64 t377] 25 (0, 0)) (by (with_reducible repeat (first | refine blk_drewN ?_ _ | refine blk_drew ?_ | refine blk_alloc ?_ _)); exact BK379.out)) : gb383 ≠ gb379)); clear BK379; clear HB; have BK379 := n0_; have HB := n1_; have BK383 := n2_; have GW383 := n3_; have GE383 := n4_; have NB379_383 := n5_; have NB383_379 := n6_; clear n0_ n1_ n2_ n3_ n4_ n5_ n6_; clear hb hbox hg; have hnb13 := NB383_379.out; have hnc13 := NB379_383.out; have hcz14_0 : w12.cell? ⟨gb383, 0, none⟩ = some (.string (⟨#[]⟩ : ByteArray)) := (blk_cell BK383.out 0).trans rfl; have hcz14_1 : w12.cell? ⟨gb383, 1, none⟩ = some (.string (⟨#[]⟩ : ByteArray)) := (blk_cell BK383.out 1).trans rfl; have hcz14_2 : w12.cell? ⟨gb383, 2, none⟩ = some (.int .i64 0) := (blk_cell BK383.out 2).trans rfl; have hfz14_0 := blk_frozen BK383.out 0; have hfz14_1 := blk_frozen BK383.out 1; have hfz14_2 := blk_frozen BK383.out 2; have hcz15_0 : w12.cell? ⟨gb379, 0, none⟩ = some (.string t375) := (blk_cell BK379.out 0).trans rfl; have hcz15_1 : w12.cell? ⟨gb379, 1, none⟩ = some (.string t376) := (blk_cell BK379.out 1).trans rfl; have hcz15_2 : w12.cell? ⟨gb379, 2, none⟩ = some (.int .i64 t377) := (blk_cell BK379.out 2).trans rfl; have hfz15_0 := blk_frozen BK379.out 0; have hfz15_1 := blk_frozen BK379.out 1; have hfz15_2 := blk_frozen BK379.out 2) | ((with_reducible refine gate_callee (f := 10) rfl ?_); refine goesL_ (some 19) rfl rfl Try.func10 (by kernel_rfl) rfl #[.agg #[.string t375, .string t376, .int .i64 t377], .string t378] rfl (by (try simp only [List.map_toArray, List.map_cons, List.map_nil]); first | done | rfl | (simp only [List.length_drop, List.length_take]; rfl)) ?_; (with_reducible refine (spec_HashMore.calls k t375 t376 t377 t378 t384 t385 t386 _ A6.out).mono ?_); rintro e w16 ⟨rfl, hb⟩; refine ⟨_, rfl, ?_⟩; have n0_ := Aside0.mk (blk_below (g := gb379) (o := .cells #[.string t375, .string t376, .int .i64 t377] 25 (0, 0)) (by (with_reducible repeat (first | refine blk_drewN ?_ _ | refine blk_drew ?_ | refine blk_alloc ?_ _)); refine blk_far ?_ NB379_383.out _; (with_reducible repeat (first | refine blk_drewN ?_ _ | refine blk_drew ?_ | refine blk_alloc ?_ _)); refine blk_far ?_ NB379_383.out _; (with_reducible repeat (first | refine blk_drewN ?_ _ | refine blk_drew ?_ | refine blk_alloc ?_ _)); refine blk_far ?_ NB379_383.out _; (with_reducible repeat (first | refine blk_drewN ?_ _ | refine blk_drew ?_ | refine blk_alloc ?_ _)); exact BK379.out) hb); have n1_ := Aside0.mk (blk_below (g := gb383) (o := .cells #[.string t380, .string t381, .int .i64 t382] 25 (0, 0)) (by (with_reducible repeat (first | refine blk_drewN ?_ _ | refine blk_drew ?_ | refine blk_alloc ?_ _)); refine blk_put (cs := #[.string t380, .string t381, .int .i64 0]) ?_ 2 _ rfl; (with_reducible repeat (first | refine blk_drewN ?_ _ | refine blk_drew ?_ | refine blk_alloc ?_ _)); refine blk_put (cs := #[.string t380, .string (⟨#[]⟩ : ByteArray), .int .i64 0]) ?_ 1 _ rfl; (with_reducible repeat (first | refine blk_drewN ?_ _ | refine blk_drew ?_ | refine blk_alloc ?_ _)); refine blk_put (cs := #[.string (⟨#[]⟩ : ByteArray), .string (⟨#[]⟩ : ByteArray), .int .i64 0]) ?_ 0 _ rfl; (with_reducible repeat (first | refine blk_drewN ?_ _ | refine blk_drew ?_ | refine blk_alloc ?_ _)); exact BK383.out) hb); have n2_ := Aside0.mk (below_step (by repeat (first | (with_reducible first | exact HB.out | apply below_alloc | apply pw_below_drewN | apply below_drew1 | refine below_set ?_ GE379.out | refine below_set ?_ GE383.out) | exact HB.out)) hb); clear BK379; clear BK383; clear HB; have BK379 := n0_; have BK383 := n1_; have HB := n2_; clear n0_ n1_ n2_; (try clear hb); (try clear hb2); (try clear hk); (try clear hi)) | ((with_reducible refine gate_dst (N := 6) rfl ?_); (try (refine gate_guard (by rfl) ?_; dsimp only)); refine box_event ?hg (N := 6) ?hd (cs := #[.string (⟨#[]⟩ : ByteArray), .string (⟨#[]⟩ : ByteArray), .int .i64 0]) (t := 25) ?hr ?_; (case hd => rfl); (case hg => rfl); (case hr => first | (go_simp; done) | (go_simp; rfl)); intro gb387 hg w17 hbox hb; have n0_ := Aside0.mk (blk_below (g := gb379) (o := .cells #[.string t375, .string t376, .int .i64 t377] 25 (0, 0)) (by (with_reducible repeat (first | refine blk_drewN ?_ _ | refine blk_drew ?_ | refine blk_alloc ?_ _)); exact BK379.out) hb); have n1_ := Aside0.mk (blk_below (g := gb383) (o := .cells #[.string t380, .string t381, .int .i64 t382] 25 (0, 0)) (by (with_reducible repeat (first | refine blk_drewN ?_ _ | refine blk_drew ?_ | refine blk_alloc ?_ _)); exact BK383.out) hb); have n2_ := Aside0.mk (below_step (by repeat (first | (with_reducible first | exact HB.out | apply below_alloc | apply pw_below_drewN | apply below_drew1 | refine below_set ?_ GE379.out | refine below_set ?_ GE383.out) | exact HB.out)) hb); have n3_ := Aside0.mk (hbox); have n4_ := Aside0.mk ((by rw [hg]; exact (below_size (by repeat (first | (with_reducible first | exact HB.out | apply below_alloc | apply pw_below_drewN | apply below_drew1 | refine below_set ?_ GE379.out | refine below_set ?_ GE383.out) | exact HB.out))) : w.heap.size ≤ gb387)); have n5_ := Aside0.mk ((by rw [hg]; exact (below_size (by repeat (first | (with_reducible first | exact HB.out | apply below_alloc | apply pw_below_drewN | apply below_drew1 | refine below_set ?_ GE379.out | refine below_set ?_ GE383.out) | exact HB.out))) : w.heap.size ≤ gb387)); have n6_ := Aside0.mk ((by rw [hg]; exact Nat.ne_of_lt (blk_lt (g := gb379) (o := .cells #[.string t375, .string t376, .int .i64 t377] 25 (0, 0)) (by (with_reducible repeat (first | refine blk_drewN ?_ _ | refine blk_drew ?_ | refine blk_alloc ?_ _)); exact BK379.out)) : gb379 ≠ gb387)); have n7_ := Aside0.mk ((by rw [hg]; exact Nat.ne_of_gt (blk_lt (g := gb379) (o := .cells #[.string t375, .string t376, .int .i64 t377] 25 (0, 0)) (by (with_reducible repeat (first | refine blk_drewN ?_ _ | refine blk_drew ?_ | refine blk_alloc ?_ _)); exact BK379.out)) : gb387 ≠ gb379)); have n8_ := Aside0.mk ((by rw [hg]; exact Nat.ne_of_lt (blk_lt (g := gb383) (o := .cells #[.string t380, .string t381, .int .i64 t382] 25 (0, 0)) (by (with_reducible repeat (first | refine blk_drewN ?_ _ | refine blk_drew ?_ | refine blk_alloc ?_ _)); exact BK383.out)) : gb383 ≠ gb387)); have n9_ := Aside0.mk ((by rw [hg]; exact Nat.ne_of_gt (blk_lt (g := gb383) (o := .cells #[.string t380, .string t381, .int .i64 t382] 25 (0, 0)) (by (with_reducible repeat (first | refine blk_drewN ?_ _ | refine blk_drew ?_ | refine blk_alloc ?_ _)); exact BK383.out)) : gb387 ≠ gb383)); clear BK379; clear BK383; clear HB; have BK379 := n0_; have BK383 := n1_; have HB := n2_; have BK387 := n3_; have GW387 := n4_; have GE387 := n5_; have NB379_387 := n6_; have NB387_379 := n7_; have NB383_387 := n8_; have NB387_383 := n9_; clear n0_ n1_ n2_ n3_ n4_ n5_ n6_ n7_ n8_ n9_; clear hb hbox hg; have hnb18 := NB387_379.out; have hnc18 := NB379_387.out; have hnb19 := NB387_383.out; have hnc19 := NB383_387.out; have hcz20_0 : w17.cell? ⟨gb387, 0, none⟩ = some (.string (⟨#[]⟩ : ByteArray)) := (blk_cell BK387.out 0).trans rfl; have hcz20_1 : w17.cell? ⟨gb387, 1, none⟩ = some (.string (⟨#[]⟩ : ByteArray)) := (blk_cell BK387.out 1).trans rfl; have hcz20_2 : w17.cell? ⟨gb387, 2, none⟩ = some (.int .i64 0) := (blk_cell BK387.out 2).trans rfl; have hfz20_0 := blk_frozen BK387.out 0; have hfz20_1 := blk_frozen BK387.out 1; have hfz20_2 := blk_frozen BK387.out 2))
  (try simp only [Act.put, List.setIfInBounds_toArray, List.set_cons_zero, List.set_cons_succ])
  go_cut [29] (fun v29 wc => ∃ (kq : Nat) (x29_6 : Bool), v29 = .bool x29_6 ∧ Aside0 (laws_FnHashers.j0 kq t378 x29_6 t375 t376 t377 t380 t381 t382 = some r) ∧ Aside0 (kq ≤ k) ∧ Aside0 (wc.heap[gb379]? = some (.cells #[.string t375, .string t376, .int .i64 t377] 25 (0, 0))) ∧ Aside0 (wc.heap[gb383]? = some (.cells #[.string t380, .string t381, .int .i64 t382] 25 (0, 0))) ∧ Aside0 (wc.heap[gb387]? = some (.cells #[.string t384, .string t385, .int .i64 t386] 25 (0, 0))) ∧ Aside0 (Below w.heap.size w wc))
  case first =>
   have H := HC7.out
   clear HC7
   by_cases c21 : (!(t380.toList == t384.toList) || (!(t381.toList == t385.toList) || (!(t382 == t386)))) = true
   ·
    rw [if_pos c21] at H
    have c21b0 : (!(t380.toList == t384.toList) || (!(t381.toList == t385.toList) || (!(t382 == t386)))) = true := c21
    clear c21
    (first | rw [c21b0] | (simp only [i64_w, i32_w]; rw [c21b0]) | skip)
    have H' := Aside0.mk H
    clear H
    try go_wp2
    have n0_ : Aside0 ((((w17.setCell ⟨gb387, 0, none⟩ (.string t384)).setCell ⟨gb387, 1, none⟩ (.string t385)).setCell ⟨gb387, 2, none⟩ (.int .i64 t386)).heap[gb379]? = some (.cells #[.string t375, .string t376, .int .i64 t377] 25 (0, 0))) := ⟨by (with_reducible repeat (first | refine blk_drewN ?_ _ | refine blk_drew ?_ | refine blk_alloc ?_ _)); refine blk_far ?_ NB379_387.out _; (with_reducible repeat (first | refine blk_drewN ?_ _ | refine blk_drew ?_ | refine blk_alloc ?_ _)); refine blk_far ?_ NB379_387.out _; (with_reducible repeat (first | refine blk_drewN ?_ _ | refine blk_drew ?_ | refine blk_alloc ?_ _)); refine blk_far ?_ NB379_387.out _; (with_reducible repeat (first | refine blk_drewN ?_ _ | refine blk_drew ?_ | refine blk_alloc ?_ _)); exact BK379.out⟩
    have n1_ : Aside0 ((((w17.setCell ⟨gb387, 0, none⟩ (.string t384)).setCell ⟨gb387, 1, none⟩ (.string t385)).setCell ⟨gb387, 2, none⟩ (.int .i64 t386)).heap[gb383]? = some (.cells #[.string t380, .string t381, .int .i64 t382] 25 (0, 0))) := ⟨by (with_reducible repeat (first | refine blk_drewN ?_ _ | refine blk_drew ?_ | refine blk_alloc ?_ _)); refine blk_far ?_ NB383_387.out _; (with_reducible repeat (first | refine blk_drewN ?_ _ | refine blk_drew ?_ | refine blk_alloc ?_ _)); refine blk_far ?_ NB383_387.out _; (with_reducible repeat (first | refine blk_drewN ?_ _ | refine blk_drew ?_ | refine blk_alloc ?_ _)); refine blk_far ?_ NB383_387.out _; (with_reducible repeat (first | refine blk_drewN ?_ _ | refine blk_drew ?_ | refine blk_alloc ?_ _)); exact BK383.out⟩
    have n2_ : Aside0 ((((w17.setCell ⟨gb387, 0, none⟩ (.string t384)).setCell ⟨gb387, 1, none⟩ (.string t385)).setCell ⟨gb387, 2, none⟩ (.int .i64 t386)).heap[gb387]? = some (.cells #[.string t384, .string t385, .int .i64 t386] 25 (0, 0))) := ⟨by (with_reducible repeat (first | refine blk_drewN ?_ _ | refine blk_drew ?_ | refine blk_alloc ?_ _)); refine blk_put (cs := #[.string t384, .string t385, .int .i64 0]) ?_ 2 _ rfl; (with_reducible repeat (first | refine blk_drewN ?_ _ | refine blk_drew ?_ | refine blk_alloc ?_ _)); refine blk_put (cs := #[.string t384, .string (⟨#[]⟩ : ByteArray), .int .i64 0]) ?_ 1 _ rfl; (with_reducible repeat (first | refine blk_drewN ?_ _ | refine blk_drew ?_ | refine blk_alloc ?_ _)); refine blk_put (cs := #[.string (⟨#[]⟩ : ByteArray), .string (⟨#[]⟩ : ByteArray), .int .i64 0]) ?_ 0 _ rfl; (with_reducible repeat (first | refine blk_drewN ?_ _ | refine blk_drew ?_ | refine blk_alloc ?_ _)); exact BK387.out⟩
    have n3_ : Aside0 (Below w.heap.size w (((w17.setCell ⟨gb387, 0, none⟩ (.string t384)).setCell ⟨gb387, 1, none⟩ (.string t385)).setCell ⟨gb387, 2, none⟩ (.int .i64 t386))) := ⟨by repeat (first | (with_reducible first | exact HB.out | apply below_alloc | apply pw_below_drewN | apply below_drew1 | refine below_set ?_ GE379.out | refine below_set ?_ GE383.out | refine below_set ?_ GE387.out) | exact HB.out)⟩
    (try clear BK379)
    (try clear BK383)
    (try clear BK387)
    (try clear HB)
    generalize (((w17.setCell ⟨gb387, 0, none⟩ (.string t384)).setCell ⟨gb387, 1, none⟩ (.string t385)).setCell ⟨gb387, 2, none⟩ (.int .i64 t386)) = w22 at n0_ n1_ n2_ n3_ ⊢
    have BK379 := n0_
    have BK383 := n1_
    have BK387 := n2_
    have HB := n3_
    clear n0_ n1_ n2_ n3_
    have n0_ := Aside0.mk (blk_drew BK379.out)
    have n1_ := Aside0.mk (blk_drew BK383.out)
    have n2_ := Aside0.mk (blk_drew BK387.out)
    have n3_ := Aside0.mk (below_drew1 HB.out)
    clear BK379
    clear BK383
    clear BK387
    clear HB
    have BK379 := n0_
    have BK383 := n1_
    have BK387 := n2_
    have HB := n3_
    clear n0_ n1_ n2_ n3_
    refine start_ (n := 10) (S := fun w' => w'.cell? ⟨gb383, 0, none⟩ = some (.string t380) ∧ w'.cell? ⟨gb383, 1, none⟩ = some (.string t381) ∧ w'.cell? ⟨gb383, 2, none⟩ = some (.int .i64 t382) ∧ w'.cell? ⟨gb387, 0, none⟩ = some (.string t384) ∧ w'.cell? ⟨gb387, 1, none⟩ = some (.string t385) ∧ w'.cell? ⟨gb387, 2, none⟩ = some (.int .i64 t386)) (ds := []) #[false, false, false, false, false, false, false, false, false, false] (by kernel_rfl) rfl rfl ⟨(blk_cell BK383.out 0).trans rfl, (blk_cell BK383.out 1).trans rfl, (blk_cell BK383.out 2).trans rfl, (blk_cell BK387.out 0).trans rfl, (blk_cell BK387.out 1).trans rfl, (blk_cell BK387.out 2).trans rfl⟩ (fun hHeld => ?_); refine with_tabW laws_FnHashers.tab6 laws_FnHashers.bits6 (fun HT_ HW_ => ?_)
    generalize w22.drew = w23 at BK379 BK383 BK387 HB hHeld ⊢
    refine take_ (i := 0) (N := some 20) (v := ?_) (a' := ?_) #[true, false, false, false, false, false, false, false, false, false] rfl rfl (take_ofW HT_.out HW_.out (by kernel_rfl)) (fun _ _ _ h => h) (Or.inl ⟨by rfl, ?_⟩) hHeld ?_ ?_
    rotate_left
    ·
     rintro w' ⟨s0, s1, s2, s3, s4, s5⟩
     go_simp
     with_reducible rfl
    rotate_left
    ·
     simp only [Act.put, List.setIfInBounds_toArray, List.set_cons_zero, List.set_cons_succ, i64_w, i32_w]
     rfl
    refine take_ (i := 1) (N := some 21) (v := ?_) (a' := ?_) #[true, true, false, false, false, false, false, false, false, false] rfl rfl (take_ofW HT_.out HW_.out (by kernel_rfl)) (fun _ _ _ h => h) (Or.inl ⟨by rfl, ?_⟩) hHeld ?_ ?_
    rotate_left
    ·
     rintro w' ⟨s0, s1, s2, s3, s4, s5⟩
     go_simp
     with_reducible rfl
    rotate_left
    ·
     simp only [Act.put, List.setIfInBounds_toArray, List.set_cons_zero, List.set_cons_succ, i64_w, i32_w]
     rfl
    refine pure_ (i := 2) (N := some 22) (v := ?_) (a' := ?_) #[true, true, true, false, false, false, false, false, false, false] rfl rfl (any_of HT_.out (by kernel_rfl)) (fun _ _ _ h => h) (Or.inl ⟨by rfl, ?_⟩) ?_ ?_
    rotate_left
    ·
     intro w'
     go_simp
     with_reducible rfl
    rotate_left
    ·
     simp only [Act.put, List.setIfInBounds_toArray, List.set_cons_zero, List.set_cons_succ, i64_w, i32_w]
     rfl
    refine pure_ (i := 3) (N := some 23) (v := ?_) (a' := ?_) #[true, true, true, true, false, false, false, false, false, false] rfl rfl (any_of HT_.out (by kernel_rfl)) (fun _ _ _ h => h) (Or.inl ⟨by rfl, ?_⟩) ?_ ?_
    rotate_left
    ·
     intro w'
     go_simp
     with_reducible rfl
    rotate_left
    ·
     simp only [Act.put, List.setIfInBounds_toArray, List.set_cons_zero, List.set_cons_succ, i64_w, i32_w]
     rfl
    refine pure_ (i := 4) (N := some 24) (v := undef) (a' := ?_) #[true, true, true, true, true, false, false, false, false, false] rfl rfl (any_of HT_.out (by kernel_rfl)) (fun _ _ _ h => h) (Or.inr ⟨by rfl, rfl⟩) ?_ ?_
    rotate_left
    ·
     simp only [Act.put, List.setIfInBounds_toArray, List.set_cons_zero, List.set_cons_succ, i64_w, i32_w]
     rfl
    refine pure_ (i := 5) (N := some 25) (v := undef) (a' := ?_) #[true, true, true, true, true, true, false, false, false, false] rfl rfl (any_of HT_.out (by kernel_rfl)) (fun _ _ _ h => h) (Or.inr ⟨by rfl, rfl⟩) ?_ ?_
    rotate_left
    ·
     simp only [Act.put, List.setIfInBounds_toArray, List.set_cons_zero, List.set_cons_succ, i64_w, i32_w]
     rfl
    refine pure_ (i := 6) (N := some 26) (v := undef) (a' := ?_) #[true, true, true, true, true, true, true, false, false, false] rfl rfl (any_of HT_.out (by kernel_rfl)) (fun _ _ _ h => h) (Or.inr ⟨by rfl, rfl⟩) ?_ ?_
    rotate_left
    ·
     simp only [Act.put, List.setIfInBounds_toArray, List.set_cons_zero, List.set_cons_succ, i64_w, i32_w]
     rfl
    refine pure_ (i := 7) (N := some 27) (v := undef) (a' := ?_) #[true, true, true, true, true, true, true, true, false, false] rfl rfl (any_of HT_.out (by kernel_rfl)) (fun _ _ _ h => h) (Or.inr ⟨by rfl, rfl⟩) ?_ ?_
    rotate_left
    ·
     simp only [Act.put, List.setIfInBounds_toArray, List.set_cons_zero, List.set_cons_succ, i64_w, i32_w]
     rfl
    refine pure_ (i := 8) (N := some 28) (v := undef) (a' := ?_) #[true, true, true, true, true, true, true, true, true, false] rfl rfl (any_of HT_.out (by kernel_rfl)) (fun _ _ _ h => h) (Or.inr ⟨by rfl, rfl⟩) ?_ ?_
    rotate_left
    ·
     simp only [Act.put, List.setIfInBounds_toArray, List.set_cons_zero, List.set_cons_succ, i64_w, i32_w]
     rfl
    refine pure_ (i := 9) (N := some 29) (v := ?_) (a' := ?_) #[true, true, true, true, true, true, true, true, true, true] rfl rfl (any_of HT_.out (by kernel_rfl)) (fun _ _ _ h => h) (Or.inl ⟨by rfl, ?_⟩) ?_ ?_
    rotate_left
    ·
     intro w'
     go_simp
     with_reducible rfl
    rotate_left
    ·
     simp only [Act.put, List.setIfInBounds_toArray, List.set_cons_zero, List.set_cons_succ, i64_w, i32_w]
     rfl
    refine done_ (done_of HT_.out (by kernel_rfl)) ?_
    try go_wp2
    go_meet
    case rel => exact ⟨_, (true), (by first | rfl | (simp; done) | (simp [*]; done)), H', ⟨by first | omega | exact Nat.le_refl _⟩, ⟨by (with_reducible repeat (first | refine blk_drewN ?_ _ | refine blk_drew ?_ | refine blk_alloc ?_ _)); exact BK379.out⟩, ⟨by (with_reducible repeat (first | refine blk_drewN ?_ _ | refine blk_drew ?_ | refine blk_alloc ?_ _)); exact BK383.out⟩, ⟨by (with_reducible repeat (first | refine blk_drewN ?_ _ | refine blk_drew ?_ | refine blk_alloc ?_ _)); exact BK387.out⟩, ⟨by repeat (first | (with_reducible first | exact HB.out | apply below_alloc | apply pw_below_drewN | apply below_drew1 | refine below_set ?_ GE379.out | refine below_set ?_ GE383.out | refine below_set ?_ GE387.out) | exact HB.out)⟩⟩
   ·
    rw [if_neg c21] at H
    have c21b0 : (!(t380.toList == t384.toList) || (!(t381.toList == t385.toList) || (!(t382 == t386)))) = false := by simpa using c21
    clear c21
    (first | rw [c21b0] | (simp only [i64_w, i32_w]; rw [c21b0]) | skip)
    replace H := Option.bind_eq_some_iff.mp H
    obtain ⟨t388, A240, H⟩ := H
    replace H : ((spec_HasherOk.f t375 t376 t377).bind fun t389 => (laws_FnHashers.j0 k t378 (t388 != t389) t375 t376 t377 t380 t381 t382)) = some r := H
    have A24 := Aside0.mk A240
    clear A240
    replace H := Option.bind_eq_some_iff.mp H
    obtain ⟨t389, A250, H⟩ := H
    replace H : (laws_FnHashers.j0 k t378 (t388 != t389) t375 t376 t377 t380 t381 t382) = some r := H
    have A25 := Aside0.mk A250
    clear A250
    have H' := Aside0.mk H
    clear H
    try go_wp2
    have n0_ : Aside0 ((((w17.setCell ⟨gb387, 0, none⟩ (.string t384)).setCell ⟨gb387, 1, none⟩ (.string t385)).setCell ⟨gb387, 2, none⟩ (.int .i64 t386)).heap[gb379]? = some (.cells #[.string t375, .string t376, .int .i64 t377] 25 (0, 0))) := ⟨by (with_reducible repeat (first | refine blk_drewN ?_ _ | refine blk_drew ?_ | refine blk_alloc ?_ _)); refine blk_far ?_ NB379_387.out _; (with_reducible repeat (first | refine blk_drewN ?_ _ | refine blk_drew ?_ | refine blk_alloc ?_ _)); refine blk_far ?_ NB379_387.out _; (with_reducible repeat (first | refine blk_drewN ?_ _ | refine blk_drew ?_ | refine blk_alloc ?_ _)); refine blk_far ?_ NB379_387.out _; (with_reducible repeat (first | refine blk_drewN ?_ _ | refine blk_drew ?_ | refine blk_alloc ?_ _)); exact BK379.out⟩
    have n1_ : Aside0 ((((w17.setCell ⟨gb387, 0, none⟩ (.string t384)).setCell ⟨gb387, 1, none⟩ (.string t385)).setCell ⟨gb387, 2, none⟩ (.int .i64 t386)).heap[gb383]? = some (.cells #[.string t380, .string t381, .int .i64 t382] 25 (0, 0))) := ⟨by (with_reducible repeat (first | refine blk_drewN ?_ _ | refine blk_drew ?_ | refine blk_alloc ?_ _)); refine blk_far ?_ NB383_387.out _; (with_reducible repeat (first | refine blk_drewN ?_ _ | refine blk_drew ?_ | refine blk_alloc ?_ _)); refine blk_far ?_ NB383_387.out _; (with_reducible repeat (first | refine blk_drewN ?_ _ | refine blk_drew ?_ | refine blk_alloc ?_ _)); refine blk_far ?_ NB383_387.out _; (with_reducible repeat (first | refine blk_drewN ?_ _ | refine blk_drew ?_ | refine blk_alloc ?_ _)); exact BK383.out⟩
    have n2_ : Aside0 ((((w17.setCell ⟨gb387, 0, none⟩ (.string t384)).setCell ⟨gb387, 1, none⟩ (.string t385)).setCell ⟨gb387, 2, none⟩ (.int .i64 t386)).heap[gb387]? = some (.cells #[.string t384, .string t385, .int .i64 t386] 25 (0, 0))) := ⟨by (with_reducible repeat (first | refine blk_drewN ?_ _ | refine blk_drew ?_ | refine blk_alloc ?_ _)); refine blk_put (cs := #[.string t384, .string t385, .int .i64 0]) ?_ 2 _ rfl; (with_reducible repeat (first | refine blk_drewN ?_ _ | refine blk_drew ?_ | refine blk_alloc ?_ _)); refine blk_put (cs := #[.string t384, .string (⟨#[]⟩ : ByteArray), .int .i64 0]) ?_ 1 _ rfl; (with_reducible repeat (first | refine blk_drewN ?_ _ | refine blk_drew ?_ | refine blk_alloc ?_ _)); refine blk_put (cs := #[.string (⟨#[]⟩ : ByteArray), .string (⟨#[]⟩ : ByteArray), .int .i64 0]) ?_ 0 _ rfl; (with_reducible repeat (first | refine blk_drewN ?_ _ | refine blk_drew ?_ | refine blk_alloc ?_ _)); exact BK387.out⟩
    have n3_ : Aside0 (Below w.heap.size w (((w17.setCell ⟨gb387, 0, none⟩ (.string t384)).setCell ⟨gb387, 1, none⟩ (.string t385)).setCell ⟨gb387, 2, none⟩ (.int .i64 t386))) := ⟨by repeat (first | (with_reducible first | exact HB.out | apply below_alloc | apply pw_below_drewN | apply below_drew1 | refine below_set ?_ GE379.out | refine below_set ?_ GE383.out | refine below_set ?_ GE387.out) | exact HB.out)⟩
    (try clear BK379)
    (try clear BK383)
    (try clear BK387)
    (try clear HB)
    generalize (((w17.setCell ⟨gb387, 0, none⟩ (.string t384)).setCell ⟨gb387, 1, none⟩ (.string t385)).setCell ⟨gb387, 2, none⟩ (.int .i64 t386)) = w26 at n0_ n1_ n2_ n3_ ⊢
    have BK379 := n0_
    have BK383 := n1_
    have BK387 := n2_
    have HB := n3_
    clear n0_ n1_ n2_ n3_
    have n0_ := Aside0.mk (blk_drew BK379.out)
    have n1_ := Aside0.mk (blk_drew BK383.out)
    have n2_ := Aside0.mk (blk_drew BK387.out)
    have n3_ := Aside0.mk (below_drew1 HB.out)
    clear BK379
    clear BK383
    clear BK387
    clear HB
    have BK379 := n0_
    have BK383 := n1_
    have BK387 := n2_
    have HB := n3_
    clear n0_ n1_ n2_ n3_
    refine start_ (n := 10) (S := fun w' => w'.cell? ⟨gb383, 0, none⟩ = some (.string t380) ∧ w'.cell? ⟨gb383, 1, none⟩ = some (.string t381) ∧ w'.cell? ⟨gb383, 2, none⟩ = some (.int .i64 t382) ∧ w'.cell? ⟨gb387, 0, none⟩ = some (.string t384) ∧ w'.cell? ⟨gb387, 1, none⟩ = some (.string t385) ∧ w'.cell? ⟨gb387, 2, none⟩ = some (.int .i64 t386) ∧ w'.cell? ⟨gb379, 0, none⟩ = some (.string t375) ∧ w'.cell? ⟨gb379, 1, none⟩ = some (.string t376) ∧ w'.cell? ⟨gb379, 2, none⟩ = some (.int .i64 t377)) (ds := []) #[false, false, false, false, false, false, false, false, false, false] (by kernel_rfl) rfl rfl ⟨(blk_cell BK383.out 0).trans rfl, (blk_cell BK383.out 1).trans rfl, (blk_cell BK383.out 2).trans rfl, (blk_cell BK387.out 0).trans rfl, (blk_cell BK387.out 1).trans rfl, (blk_cell BK387.out 2).trans rfl, (blk_cell BK379.out 0).trans rfl, (blk_cell BK379.out 1).trans rfl, (blk_cell BK379.out 2).trans rfl⟩ (fun hHeld => ?_); refine with_tabW laws_FnHashers.tab6 laws_FnHashers.bits6 (fun HT_ HW_ => ?_)
    generalize w26.drew = w27 at BK379 BK383 BK387 HB hHeld ⊢
    refine take_ (i := 0) (N := some 20) (v := ?_) (a' := ?_) #[true, false, false, false, false, false, false, false, false, false] rfl rfl (take_ofW HT_.out HW_.out (by kernel_rfl)) (fun _ _ _ h => h) (Or.inl ⟨by rfl, ?_⟩) hHeld ?_ ?_
    rotate_left
    ·
     rintro w' ⟨s0, s1, s2, s3, s4, s5, s6, s7, s8⟩
     go_simp
     with_reducible rfl
    rotate_left
    ·
     simp only [Act.put, List.setIfInBounds_toArray, List.set_cons_zero, List.set_cons_succ, i64_w, i32_w]
     rfl
    refine take_ (i := 1) (N := some 21) (v := ?_) (a' := ?_) #[true, true, false, false, false, false, false, false, false, false] rfl rfl (take_ofW HT_.out HW_.out (by kernel_rfl)) (fun _ _ _ h => h) (Or.inl ⟨by rfl, ?_⟩) hHeld ?_ ?_
    rotate_left
    ·
     rintro w' ⟨s0, s1, s2, s3, s4, s5, s6, s7, s8⟩
     go_simp
     with_reducible rfl
    rotate_left
    ·
     simp only [Act.put, List.setIfInBounds_toArray, List.set_cons_zero, List.set_cons_succ, i64_w, i32_w]
     rfl
    refine pure_ (i := 2) (N := some 22) (v := ?_) (a' := ?_) #[true, true, true, false, false, false, false, false, false, false] rfl rfl (any_of HT_.out (by kernel_rfl)) (fun _ _ _ h => h) (Or.inl ⟨by rfl, ?_⟩) ?_ ?_
    rotate_left
    ·
     intro w'
     go_simp
     with_reducible rfl
    rotate_left
    ·
     simp only [Act.put, List.setIfInBounds_toArray, List.set_cons_zero, List.set_cons_succ, i64_w, i32_w]
     rfl
    refine pure_ (i := 3) (N := some 23) (v := ?_) (a' := ?_) #[true, true, true, true, false, false, false, false, false, false] rfl rfl (any_of HT_.out (by kernel_rfl)) (fun _ _ _ h => h) (Or.inl ⟨by rfl, ?_⟩) ?_ ?_
    rotate_left
    ·
     intro w'
     go_simp
     with_reducible rfl
    rotate_left
    ·
     simp only [Act.put, List.setIfInBounds_toArray, List.set_cons_zero, List.set_cons_succ, i64_w, i32_w]
     rfl
    refine take_ (i := 4) (N := some 24) (v := ?_) (a' := ?_) #[true, true, true, true, true, false, false, false, false, false] rfl rfl (take_ofW HT_.out HW_.out (by kernel_rfl)) (fun _ _ _ h => h) (Or.inl ⟨by rfl, ?_⟩) hHeld ?_ ?_
    rotate_left
    ·
     rintro w' ⟨s0, s1, s2, s3, s4, s5, s6, s7, s8⟩
     go_simp
     with_reducible rfl
    rotate_left
    ·
     simp only [Act.put, List.setIfInBounds_toArray, List.set_cons_zero, List.set_cons_succ, i64_w, i32_w]
     rfl
    refine take_ (i := 6) (N := some 26) (v := ?_) (a' := ?_) #[true, true, true, true, true, false, true, false, false, false] rfl rfl (take_ofW HT_.out HW_.out (by kernel_rfl)) (fun _ _ _ h => h) (Or.inl ⟨by rfl, ?_⟩) hHeld ?_ ?_
    rotate_left
    ·
     rintro w' ⟨s0, s1, s2, s3, s4, s5, s6, s7, s8⟩
     go_simp
     with_reducible rfl
    rotate_left
    ·
     simp only [Act.put, List.setIfInBounds_toArray, List.set_cons_zero, List.set_cons_succ, i64_w, i32_w]
     rfl
    refine one_ (i := 5) (N := some 25) #[true, true, true, true, true, true, true, false, false, false] rfl rfl (one_of HT_.out (by kernel_rfl)) (by decide) (fun K hK => ?_)
    refine goes_ Try.func11 (by kernel_rfl) rfl #[.agg #[.string t375, .string t376, .int .i64 t377]] (by rfl) rfl rfl (by (try simp only [List.map_toArray, List.map_cons, List.map_nil]); first | done | rfl | (simp only [List.length_drop, List.length_take]; rfl)) ?_
    with_reducible refine (impl_HasherOk.calls t375 t376 t377 t388 _ A24.out).mono ?_
    rintro e w28 ⟨rfl, hb⟩
    refine ⟨_, rfl, ?_⟩
    have n0_ := Aside0.mk (blk_below (g := gb379) (o := .cells #[.string t375, .string t376, .int .i64 t377] 25 (0, 0)) (by (with_reducible repeat (first | refine blk_drewN ?_ _ | refine blk_drew ?_ | refine blk_alloc ?_ _)); exact BK379.out) hb)
    have n1_ := Aside0.mk (blk_below (g := gb383) (o := .cells #[.string t380, .string t381, .int .i64 t382] 25 (0, 0)) (by (with_reducible repeat (first | refine blk_drewN ?_ _ | refine blk_drew ?_ | refine blk_alloc ?_ _)); exact BK383.out) hb)
    have n2_ := Aside0.mk (blk_below (g := gb387) (o := .cells #[.string t384, .string t385, .int .i64 t386] 25 (0, 0)) (by (with_reducible repeat (first | refine blk_drewN ?_ _ | refine blk_drew ?_ | refine blk_alloc ?_ _)); exact BK387.out) hb)
    have n3_ := Aside0.mk (below_step (by repeat (first | (with_reducible first | exact HB.out | apply below_alloc | apply pw_below_drewN | apply below_drew1 | refine below_set ?_ GE379.out | refine below_set ?_ GE383.out | refine below_set ?_ GE387.out) | exact HB.out)) hb)
    clear BK379
    clear BK383
    clear BK387
    clear HB
    have BK379 := n0_
    have BK383 := n1_
    have BK387 := n2_
    have HB := n3_
    clear n0_ n1_ n2_ n3_
    (try clear hb)
    (try clear hb2)
    (try clear hk)
    (try clear hi)
    refine hK.out _ _ ⟨(blk_cell BK383.out 0).trans rfl, (blk_cell BK383.out 1).trans rfl, (blk_cell BK383.out 2).trans rfl, (blk_cell BK387.out 0).trans rfl, (blk_cell BK387.out 1).trans rfl, (blk_cell BK387.out 2).trans rfl, (blk_cell BK379.out 0).trans rfl, (blk_cell BK379.out 1).trans rfl, (blk_cell BK379.out 2).trans rfl⟩ (fun hHeld => ?_)
    clear hK K
    refine norm_ (a' := ?_) ?_ ?_
    rotate_left
    ·
     show Act.put _ (some 25) _ = _
     simp only [Act.put, List.setIfInBounds_toArray, List.set_cons_zero, List.set_cons_succ, i64_w, i32_w]
     rfl
    refine one_ (i := 7) (N := some 27) #[true, true, true, true, true, true, true, true, false, false] rfl rfl (one_of HT_.out (by kernel_rfl)) (by decide) (fun K hK => ?_)
    refine goes_ Try.func12 (by kernel_rfl) rfl #[.agg #[.string t375, .string t376, .int .i64 t377]] (by rfl) rfl rfl (by (try simp only [List.map_toArray, List.map_cons, List.map_nil]); first | done | rfl | (simp only [List.length_drop, List.length_take]; rfl)) ?_
    with_reducible refine (spec_HasherOk.calls t375 t376 t377 t389 _ A25.out).mono ?_
    rintro e w29 ⟨rfl, hb⟩
    refine ⟨_, rfl, ?_⟩
    have n0_ := Aside0.mk (blk_below (g := gb379) (o := .cells #[.string t375, .string t376, .int .i64 t377] 25 (0, 0)) (by (with_reducible repeat (first | refine blk_drewN ?_ _ | refine blk_drew ?_ | refine blk_alloc ?_ _)); exact BK379.out) hb)
    have n1_ := Aside0.mk (blk_below (g := gb383) (o := .cells #[.string t380, .string t381, .int .i64 t382] 25 (0, 0)) (by (with_reducible repeat (first | refine blk_drewN ?_ _ | refine blk_drew ?_ | refine blk_alloc ?_ _)); exact BK383.out) hb)
    have n2_ := Aside0.mk (blk_below (g := gb387) (o := .cells #[.string t384, .string t385, .int .i64 t386] 25 (0, 0)) (by (with_reducible repeat (first | refine blk_drewN ?_ _ | refine blk_drew ?_ | refine blk_alloc ?_ _)); exact BK387.out) hb)
    have n3_ := Aside0.mk (below_step (by repeat (first | (with_reducible first | exact HB.out | apply below_alloc | apply pw_below_drewN | apply below_drew1 | refine below_set ?_ GE379.out | refine below_set ?_ GE383.out | refine below_set ?_ GE387.out) | exact HB.out)) hb)
    clear BK379
    clear BK383
    clear BK387
    clear HB
    have BK379 := n0_
    have BK383 := n1_
    have BK387 := n2_
    have HB := n3_
    clear n0_ n1_ n2_ n3_
    (try clear hb)
    (try clear hb2)
    (try clear hk)
    (try clear hi)
    refine hK.out _ _ ⟨(blk_cell BK383.out 0).trans rfl, (blk_cell BK383.out 1).trans rfl, (blk_cell BK383.out 2).trans rfl, (blk_cell BK387.out 0).trans rfl, (blk_cell BK387.out 1).trans rfl, (blk_cell BK387.out 2).trans rfl, (blk_cell BK379.out 0).trans rfl, (blk_cell BK379.out 1).trans rfl, (blk_cell BK379.out 2).trans rfl⟩ (fun hHeld => ?_)
    clear hK K
    refine norm_ (a' := ?_) ?_ ?_
    rotate_left
    ·
     show Act.put _ (some 27) _ = _
     simp only [Act.put, List.setIfInBounds_toArray, List.set_cons_zero, List.set_cons_succ, i64_w, i32_w]
     rfl
    refine pure_ (i := 8) (N := some 28) (v := ?_) (a' := ?_) #[true, true, true, true, true, true, true, true, true, false] rfl rfl (any_of HT_.out (by kernel_rfl)) (fun _ _ _ h => h) (Or.inl ⟨by rfl, ?_⟩) ?_ ?_
    rotate_left
    ·
     intro w'
     go_simp
     with_reducible rfl
    rotate_left
    ·
     simp only [Act.put, List.setIfInBounds_toArray, List.set_cons_zero, List.set_cons_succ, i64_w, i32_w]
     rfl
    refine pure_ (i := 9) (N := some 29) (v := ?_) (a' := ?_) #[true, true, true, true, true, true, true, true, true, true] rfl rfl (any_of HT_.out (by kernel_rfl)) (fun _ _ _ h => h) (Or.inl ⟨by rfl, ?_⟩) ?_ ?_
    rotate_left
    ·
     intro w'
     go_simp
     with_reducible rfl
    rotate_left
    ·
     simp only [Act.put, List.setIfInBounds_toArray, List.set_cons_zero, List.set_cons_succ, i64_w, i32_w]
     rfl
    refine done_ (done_of HT_.out (by kernel_rfl)) ?_
    try go_wp2
    go_meet
    case rel => exact ⟨_, ((t388 != t389)), (by first | rfl | (simp; done) | (simp [*]; done)), H', ⟨by first | omega | exact Nat.le_refl _⟩, ⟨by (with_reducible repeat (first | refine blk_drewN ?_ _ | refine blk_drew ?_ | refine blk_alloc ?_ _)); exact BK379.out⟩, ⟨by (with_reducible repeat (first | refine blk_drewN ?_ _ | refine blk_drew ?_ | refine blk_alloc ?_ _)); exact BK383.out⟩, ⟨by (with_reducible repeat (first | refine blk_drewN ?_ _ | refine blk_drew ?_ | refine blk_alloc ?_ _)); exact BK387.out⟩, ⟨by repeat (first | (with_reducible first | exact HB.out | apply below_alloc | apply pw_below_drewN | apply below_drew1 | refine below_set ?_ GE379.out | refine below_set ?_ GE383.out | refine below_set ?_ GE387.out) | exact HB.out)⟩⟩
  case rest =>
   clear HC7
   try clear c1; try clear c2; try clear p2; try clear c3; try clear c7; try clear c8; try clear c9; try clear c10; try clear c11; try clear c12; try clear c13; try clear c18; try clear c19; try clear c21; try clear c21b0; try clear hcz10_0; try clear hcz10_1; try clear hcz10_2; try clear hcz14_0; try clear hcz14_1; try clear hcz14_2; try clear hcz15_0; try clear hcz15_1; try clear hcz15_2; try clear hcz20_0; try clear hcz20_1; try clear hcz20_2; try clear hfz10_0; try clear hfz10_1; try clear hfz10_2; try clear hfz14_0; try clear hfz14_1; try clear hfz14_2; try clear hfz15_0; try clear hfz15_1; try clear hfz15_2; try clear hfz20_0; try clear hfz20_1; try clear hfz20_2
   obtain ⟨kq, x29_6, rfl, HA, HJ6, BK379, BK383, BK387, HB⟩ := hcut
   cases kq with
   | zero => exact absurd HA.out (by simp [laws_FnHashers.j0])
   | succ kj6 =>
    have H := HA.out
    clear HA
    simp only [laws_FnHashers.j0] at H
    by_cases c30 : x29_6 = true
    ·
     subst c30
     have H1 : (some false) = some r := by rw [if_pos rfl] at H; exact H
     clear H
     have H := H1
     clear H1
     obtain rfl := Option.some.inj H
     go_wp2
     go_ret
     exact ⟨by first | rfl | (simp [errW_none, errW_some] <;> rfl) | (simp [*, errW_none, errW_some] <;> rfl), by repeat (first | (with_reducible first | exact HB.out | apply below_alloc | apply pw_below_drewN | apply below_drew1 | refine below_set ?_ GE379.out | refine below_set ?_ GE383.out | refine below_set ?_ GE387.out) | exact HB.out)⟩
    ·
     replace c30 := Bool.eq_false_iff.mpr c30
     subst c30
     have H1 : ((spec_HasherOk.f t375 t376 t377).bind fun t390 => (if t390 = true then ((impl_HasherOk.f t380 t381 t382).bind fun t391 => (if t391 = true then ((impl_HashEnd.f kj6 t380 t381 t382).bind fun t392 => (if (t392.size : Int) = 32 then (if (t380.toList == t375.toList && (t381.toList == t376.toList && (t382 == t377))) = true then (some true) else (some (t382 == (wrap64 (t377 + (t378.size : Int)))))) else (some false))) else (some false))) else (if (t380.toList == t375.toList && (t381.toList == t376.toList && (t382 == t377))) = true then ((impl_HashEnd.f kj6 t375 t376 t377).bind fun t393 => (some (t393.toList == ([] : List UInt8)))) else (some false)))) = some r := by rw [if_neg (show ¬ (false = true) by decide)] at H; exact H
     clear H
     have H := H1
     clear H1
     replace H := Option.bind_eq_some_iff.mp H
     obtain ⟨t390, A310, H⟩ := H
     replace H : (if t390 = true then ((impl_HasherOk.f t380 t381 t382).bind fun t391 => (if t391 = true then ((impl_HashEnd.f kj6 t380 t381 t382).bind fun t392 => (if (t392.size : Int) = 32 then (if (t380.toList == t375.toList && (t381.toList == t376.toList && (t382 == t377))) = true then (some true) else (some (t382 == (wrap64 (t377 + (t378.size : Int)))))) else (some false))) else (some false))) else (if (t380.toList == t375.toList && (t381.toList == t376.toList && (t382 == t377))) = true then ((impl_HashEnd.f kj6 t375 t376 t377).bind fun t393 => (some (t393.toList == ([] : List UInt8)))) else (some false))) = some r := H
     have A31 := Aside0.mk A310
     clear A310
     by_cases c32 : t390 = true
     ·
      subst c32
      have H1 : ((impl_HasherOk.f t380 t381 t382).bind fun t391 => (if t391 = true then ((impl_HashEnd.f kj6 t380 t381 t382).bind fun t392 => (if (t392.size : Int) = 32 then (if (t380.toList == t375.toList && (t381.toList == t376.toList && (t382 == t377))) = true then (some true) else (some (t382 == (wrap64 (t377 + (t378.size : Int)))))) else (some false))) else (some false))) = some r := by rw [if_pos rfl] at H; exact H
      clear H
      have H := H1
      clear H1
      replace H := Option.bind_eq_some_iff.mp H
      obtain ⟨t391, A330, H⟩ := H
      replace H : (if t391 = true then ((impl_HashEnd.f kj6 t380 t381 t382).bind fun t392 => (if (t392.size : Int) = 32 then (if (t380.toList == t375.toList && (t381.toList == t376.toList && (t382 == t377))) = true then (some true) else (some (t382 == (wrap64 (t377 + (t378.size : Int)))))) else (some false))) else (some false)) = some r := H
      have A33 := Aside0.mk A330
      clear A330
      by_cases c34 : t391 = true
      ·
       subst c34
       have H1 : ((impl_HashEnd.f kj6 t380 t381 t382).bind fun t392 => (if (t392.size : Int) = 32 then (if (t380.toList == t375.toList && (t381.toList == t376.toList && (t382 == t377))) = true then (some true) else (some (t382 == (wrap64 (t377 + (t378.size : Int)))))) else (some false))) = some r := by rw [if_pos rfl] at H; exact H
       clear H
       have H := H1
       clear H1
       replace H := Option.bind_eq_some_iff.mp H
       obtain ⟨t392, A350, H⟩ := H
       replace H : (if (t392.size : Int) = 32 then (if (t380.toList == t375.toList && (t381.toList == t376.toList && (t382 == t377))) = true then (some true) else (some (t382 == (wrap64 (t377 + (t378.size : Int)))))) else (some false)) = some r := H
       have A35 := Aside0.mk A350
       clear A350
       by_cases c36 : (t392.size : Int) = 32
       ·
        rw [if_pos c36] at H
        have c36b0 : ((t392.size : Int) == 32) = true := beq_iff_eq.mpr c36
        have c36b1 : ((t392.size : Int) != 32) = false := bne_eq_false_iff_eq.mpr c36
        clear c36
        by_cases c37 : (t380.toList == t375.toList && (t381.toList == t376.toList && (t382 == t377))) = true
        ·
         rw [if_pos c37] at H
         have c37b0 : (t380.toList == t375.toList && (t381.toList == t376.toList && (t382 == t377))) = true := c37
         (try (have c37b1 : decide (t380.toList = t375.toList && (t381.toList == t376.toList && (t382 == t377))) = true := by simpa using c37))
         (try (have c37b2 : (t380.toList == t375.toList && (t381.toList == t376.toList && (t382 == t377))) = true := by simpa using c37))
         clear c37
         obtain rfl := Option.some.inj H
         have hnb38 := NB379_383.out
         have hnc38 := NB383_379.out
         have hnb39 := NB379_387.out
         have hnc39 := NB387_379.out
         have hcz40_0 : wc.cell? ⟨gb379, 0, none⟩ = some (.string t375) := (blk_cell BK379.out 0).trans rfl
         have hcz40_1 : wc.cell? ⟨gb379, 1, none⟩ = some (.string t376) := (blk_cell BK379.out 1).trans rfl
         have hcz40_2 : wc.cell? ⟨gb379, 2, none⟩ = some (.int .i64 t377) := (blk_cell BK379.out 2).trans rfl
         have hfz40_0 := blk_frozen BK379.out 0
         have hfz40_1 := blk_frozen BK379.out 1
         have hfz40_2 := blk_frozen BK379.out 2
         go_wp2_with (first | ((with_reducible refine gate_callee (f := 12) rfl ?_); refine goesL_ (some 31) rfl rfl Try.func12 (by kernel_rfl) rfl #[.agg #[.string t375, .string t376, .int .i64 t377]] rfl (by (try simp only [List.map_toArray, List.map_cons, List.map_nil]); first | done | rfl | (simp only [List.length_drop, List.length_take]; rfl)) ?_; (with_reducible refine (spec_HasherOk.calls t375 t376 t377 true _ A31.out).mono ?_); rintro e w41 ⟨rfl, hb⟩; refine ⟨_, rfl, ?_⟩; have n0_ := Aside0.mk (blk_below (g := gb379) (o := .cells #[.string t375, .string t376, .int .i64 t377] 25 (0, 0)) (by (with_reducible repeat (first | refine blk_drewN ?_ _ | refine blk_drew ?_ | refine blk_alloc ?_ _)); exact BK379.out) hb); have n1_ := Aside0.mk (blk_below (g := gb383) (o := .cells #[.string t380, .string t381, .int .i64 t382] 25 (0, 0)) (by (with_reducible repeat (first | refine blk_drewN ?_ _ | refine blk_drew ?_ | refine blk_alloc ?_ _)); exact BK383.out) hb); have n2_ := Aside0.mk (blk_below (g := gb387) (o := .cells #[.string t384, .string t385, .int .i64 t386] 25 (0, 0)) (by (with_reducible repeat (first | refine blk_drewN ?_ _ | refine blk_drew ?_ | refine blk_alloc ?_ _)); exact BK387.out) hb); have n3_ := Aside0.mk (below_step (by repeat (first | (with_reducible first | exact HB.out | apply below_alloc | apply pw_below_drewN | apply below_drew1 | refine below_set ?_ GE379.out | refine below_set ?_ GE383.out | refine below_set ?_ GE387.out) | exact HB.out)) hb); clear BK379; clear BK383; clear BK387; clear HB; have BK379 := n0_; have BK383 := n1_; have BK387 := n2_; have HB := n3_; clear n0_ n1_ n2_ n3_; (try clear hb); (try clear hb2); (try clear hk); (try clear hi); have hnb42 := NB383_387.out; have hnc42 := NB387_383.out; have hcz43_0 : w41.cell? ⟨gb383, 0, none⟩ = some (.string t380) := (blk_cell BK383.out 0).trans rfl; have hcz43_1 : w41.cell? ⟨gb383, 1, none⟩ = some (.string t381) := (blk_cell BK383.out 1).trans rfl; have hcz43_2 : w41.cell? ⟨gb383, 2, none⟩ = some (.int .i64 t382) := (blk_cell BK383.out 2).trans rfl; have hfz43_0 := blk_frozen BK383.out 0; have hfz43_1 := blk_frozen BK383.out 1; have hfz43_2 := blk_frozen BK383.out 2) | ((with_reducible refine gate_callee (f := 11) rfl ?_); refine goesL_ (some 42) rfl rfl Try.func11 (by kernel_rfl) rfl #[.agg #[.string t380, .string t381, .int .i64 t382]] rfl (by (try simp only [List.map_toArray, List.map_cons, List.map_nil]); first | done | rfl | (simp only [List.length_drop, List.length_take]; rfl)) ?_; (with_reducible refine (impl_HasherOk.calls t380 t381 t382 true _ A33.out).mono ?_); rintro e w44 ⟨rfl, hb⟩; refine ⟨_, rfl, ?_⟩; have n0_ := Aside0.mk (blk_below (g := gb379) (o := .cells #[.string t375, .string t376, .int .i64 t377] 25 (0, 0)) (by (with_reducible repeat (first | refine blk_drewN ?_ _ | refine blk_drew ?_ | refine blk_alloc ?_ _)); exact BK379.out) hb); have n1_ := Aside0.mk (blk_below (g := gb383) (o := .cells #[.string t380, .string t381, .int .i64 t382] 25 (0, 0)) (by (with_reducible repeat (first | refine blk_drewN ?_ _ | refine blk_drew ?_ | refine blk_alloc ?_ _)); exact BK383.out) hb); have n2_ := Aside0.mk (blk_below (g := gb387) (o := .cells #[.string t384, .string t385, .int .i64 t386] 25 (0, 0)) (by (with_reducible repeat (first | refine blk_drewN ?_ _ | refine blk_drew ?_ | refine blk_alloc ?_ _)); exact BK387.out) hb); have n3_ := Aside0.mk (below_step (by repeat (first | (with_reducible first | exact HB.out | apply below_alloc | apply pw_below_drewN | apply below_drew1 | refine below_set ?_ GE379.out | refine below_set ?_ GE383.out | refine below_set ?_ GE387.out) | exact HB.out)) hb); clear BK379; clear BK383; clear BK387; clear HB; have BK379 := n0_; have BK383 := n1_; have BK387 := n2_; have HB := n3_; clear n0_ n1_ n2_ n3_; (try clear hb); (try clear hb2); (try clear hk); (try clear hi); have hcz45_0 : w44.cell? ⟨gb383, 0, none⟩ = some (.string t380) := (blk_cell BK383.out 0).trans rfl; have hcz45_1 : w44.cell? ⟨gb383, 1, none⟩ = some (.string t381) := (blk_cell BK383.out 1).trans rfl; have hcz45_2 : w44.cell? ⟨gb383, 2, none⟩ = some (.int .i64 t382) := (blk_cell BK383.out 2).trans rfl; have hfz45_0 := blk_frozen BK383.out 0; have hfz45_1 := blk_frozen BK383.out 1; have hfz45_2 := blk_frozen BK383.out 2) | (go_at_call 13; (with_reducible refine (impl_HashEnd.calls kj6 t380 t381 t382 t392 _ A35.out).mono ?_); rintro e w46 ⟨rfl, hb⟩; have n0_ := Aside0.mk (blk_below (g := gb379) (o := .cells #[.string t375, .string t376, .int .i64 t377] 25 (0, 0)) (by (with_reducible repeat (first | refine blk_drewN ?_ _ | refine blk_drew ?_ | refine blk_alloc ?_ _)); exact BK379.out) hb); have n1_ := Aside0.mk (blk_below (g := gb383) (o := .cells #[.string t380, .string t381, .int .i64 t382] 25 (0, 0)) (by (with_reducible repeat (first | refine blk_drewN ?_ _ | refine blk_drew ?_ | refine blk_alloc ?_ _)); exact BK383.out) hb); have n2_ := Aside0.mk (blk_below (g := gb387) (o := .cells #[.string t384, .string t385, .int .i64 t386] 25 (0, 0)) (by (with_reducible repeat (first | refine blk_drewN ?_ _ | refine blk_drew ?_ | refine blk_alloc ?_ _)); exact BK387.out) hb); have n3_ := Aside0.mk (below_step (by repeat (first | (with_reducible first | exact HB.out | apply below_alloc | apply pw_below_drewN | apply below_drew1 | refine below_set ?_ GE379.out | refine below_set ?_ GE383.out | refine below_set ?_ GE387.out) | exact HB.out)) hb); clear BK379; clear BK383; clear BK387; clear HB; have BK379 := n0_; have BK383 := n1_; have BK387 := n2_; have HB := n3_; clear n0_ n1_ n2_ n3_; (try clear hb); (try clear hb2); (try clear hk); (try clear hi); have hcz47_0 : w46.cell? ⟨gb383, 0, none⟩ = some (.string t380) := (blk_cell BK383.out 0).trans rfl; have hcz47_1 : w46.cell? ⟨gb383, 1, none⟩ = some (.string t381) := (blk_cell BK383.out 1).trans rfl; have hcz47_2 : w46.cell? ⟨gb383, 2, none⟩ = some (.int .i64 t382) := (blk_cell BK383.out 2).trans rfl; have hfz47_0 := blk_frozen BK383.out 0; have hfz47_1 := blk_frozen BK383.out 1; have hfz47_2 := blk_frozen BK383.out 2; have hcz48_0 : w46.cell? ⟨gb379, 0, none⟩ = some (.string t375) := (blk_cell BK379.out 0).trans rfl; have hcz48_1 : w46.cell? ⟨gb379, 1, none⟩ = some (.string t376) := (blk_cell BK379.out 1).trans rfl; have hcz48_2 : w46.cell? ⟨gb379, 2, none⟩ = some (.int .i64 t377) := (blk_cell BK379.out 2).trans rfl; have hfz48_0 := blk_frozen BK379.out 0; have hfz48_1 := blk_frozen BK379.out 1; have hfz48_2 := blk_frozen BK379.out 2))
         go_ret
         exact ⟨by first | rfl | (simp [errW_none, errW_some] <;> rfl) | (simp [*, errW_none, errW_some] <;> rfl), by repeat (first | (with_reducible first | exact HB.out | apply below_alloc | apply pw_below_drewN | apply below_drew1 | refine below_set ?_ GE379.out | refine below_set ?_ GE383.out | refine below_set ?_ GE387.out) | exact HB.out)⟩
        ·
         rw [if_neg c37] at H
         have c37b0 : (t380.toList == t375.toList && (t381.toList == t376.toList && (t382 == t377))) = false := by simpa using c37
         (try (have c37b1 : decide (t380.toList = t375.toList && (t381.toList == t376.toList && (t382 == t377))) = false := by simpa using c37))
         (try (have c37b2 : (t380.toList == t375.toList && (t381.toList == t376.toList && (t382 == t377))) = false := by simpa using c37))
         (try (have c37b3 : ¬ (t380.toList = t375.toList && (t381.toList == t376.toList && (t382 == t377))) := by simpa using c37))
         clear c37
         obtain rfl := Option.some.inj H
         have hnb49 := NB379_383.out
         have hnc49 := NB383_379.out
         have hnb50 := NB379_387.out
         have hnc50 := NB387_379.out
         have hcz51_0 : wc.cell? ⟨gb379, 0, none⟩ = some (.string t375) := (blk_cell BK379.out 0).trans rfl
         have hcz51_1 : wc.cell? ⟨gb379, 1, none⟩ = some (.string t376) := (blk_cell BK379.out 1).trans rfl
         have hcz51_2 : wc.cell? ⟨gb379, 2, none⟩ = some (.int .i64 t377) := (blk_cell BK379.out 2).trans rfl
         have hfz51_0 := blk_frozen BK379.out 0
         have hfz51_1 := blk_frozen BK379.out 1
         have hfz51_2 := blk_frozen BK379.out 2
         go_wp2_with (first | ((with_reducible refine gate_callee (f := 12) rfl ?_); refine goesL_ (some 31) rfl rfl Try.func12 (by kernel_rfl) rfl #[.agg #[.string t375, .string t376, .int .i64 t377]] rfl (by (try simp only [List.map_toArray, List.map_cons, List.map_nil]); first | done | rfl | (simp only [List.length_drop, List.length_take]; rfl)) ?_; (with_reducible refine (spec_HasherOk.calls t375 t376 t377 true _ A31.out).mono ?_); rintro e w52 ⟨rfl, hb⟩; refine ⟨_, rfl, ?_⟩; have n0_ := Aside0.mk (blk_below (g := gb379) (o := .cells #[.string t375, .string t376, .int .i64 t377] 25 (0, 0)) (by (with_reducible repeat (first | refine blk_drewN ?_ _ | refine blk_drew ?_ | refine blk_alloc ?_ _)); exact BK379.out) hb); have n1_ := Aside0.mk (blk_below (g := gb383) (o := .cells #[.string t380, .string t381, .int .i64 t382] 25 (0, 0)) (by (with_reducible repeat (first | refine blk_drewN ?_ _ | refine blk_drew ?_ | refine blk_alloc ?_ _)); exact BK383.out) hb); have n2_ := Aside0.mk (blk_below (g := gb387) (o := .cells #[.string t384, .string t385, .int .i64 t386] 25 (0, 0)) (by (with_reducible repeat (first | refine blk_drewN ?_ _ | refine blk_drew ?_ | refine blk_alloc ?_ _)); exact BK387.out) hb); have n3_ := Aside0.mk (below_step (by repeat (first | (with_reducible first | exact HB.out | apply below_alloc | apply pw_below_drewN | apply below_drew1 | refine below_set ?_ GE379.out | refine below_set ?_ GE383.out | refine below_set ?_ GE387.out) | exact HB.out)) hb); clear BK379; clear BK383; clear BK387; clear HB; have BK379 := n0_; have BK383 := n1_; have BK387 := n2_; have HB := n3_; clear n0_ n1_ n2_ n3_; (try clear hb); (try clear hb2); (try clear hk); (try clear hi); have hnb53 := NB383_387.out; have hnc53 := NB387_383.out; have hcz54_0 : w52.cell? ⟨gb383, 0, none⟩ = some (.string t380) := (blk_cell BK383.out 0).trans rfl; have hcz54_1 : w52.cell? ⟨gb383, 1, none⟩ = some (.string t381) := (blk_cell BK383.out 1).trans rfl; have hcz54_2 : w52.cell? ⟨gb383, 2, none⟩ = some (.int .i64 t382) := (blk_cell BK383.out 2).trans rfl; have hfz54_0 := blk_frozen BK383.out 0; have hfz54_1 := blk_frozen BK383.out 1; have hfz54_2 := blk_frozen BK383.out 2) | ((with_reducible refine gate_callee (f := 11) rfl ?_); refine goesL_ (some 42) rfl rfl Try.func11 (by kernel_rfl) rfl #[.agg #[.string t380, .string t381, .int .i64 t382]] rfl (by (try simp only [List.map_toArray, List.map_cons, List.map_nil]); first | done | rfl | (simp only [List.length_drop, List.length_take]; rfl)) ?_; (with_reducible refine (impl_HasherOk.calls t380 t381 t382 true _ A33.out).mono ?_); rintro e w55 ⟨rfl, hb⟩; refine ⟨_, rfl, ?_⟩; have n0_ := Aside0.mk (blk_below (g := gb379) (o := .cells #[.string t375, .string t376, .int .i64 t377] 25 (0, 0)) (by (with_reducible repeat (first | refine blk_drewN ?_ _ | refine blk_drew ?_ | refine blk_alloc ?_ _)); exact BK379.out) hb); have n1_ := Aside0.mk (blk_below (g := gb383) (o := .cells #[.string t380, .string t381, .int .i64 t382] 25 (0, 0)) (by (with_reducible repeat (first | refine blk_drewN ?_ _ | refine blk_drew ?_ | refine blk_alloc ?_ _)); exact BK383.out) hb); have n2_ := Aside0.mk (blk_below (g := gb387) (o := .cells #[.string t384, .string t385, .int .i64 t386] 25 (0, 0)) (by (with_reducible repeat (first | refine blk_drewN ?_ _ | refine blk_drew ?_ | refine blk_alloc ?_ _)); exact BK387.out) hb); have n3_ := Aside0.mk (below_step (by repeat (first | (with_reducible first | exact HB.out | apply below_alloc | apply pw_below_drewN | apply below_drew1 | refine below_set ?_ GE379.out | refine below_set ?_ GE383.out | refine below_set ?_ GE387.out) | exact HB.out)) hb); clear BK379; clear BK383; clear BK387; clear HB; have BK379 := n0_; have BK383 := n1_; have BK387 := n2_; have HB := n3_; clear n0_ n1_ n2_ n3_; (try clear hb); (try clear hb2); (try clear hk); (try clear hi); have hcz56_0 : w55.cell? ⟨gb383, 0, none⟩ = some (.string t380) := (blk_cell BK383.out 0).trans rfl; have hcz56_1 : w55.cell? ⟨gb383, 1, none⟩ = some (.string t381) := (blk_cell BK383.out 1).trans rfl; have hcz56_2 : w55.cell? ⟨gb383, 2, none⟩ = some (.int .i64 t382) := (blk_cell BK383.out 2).trans rfl; have hfz56_0 := blk_frozen BK383.out 0; have hfz56_1 := blk_frozen BK383.out 1; have hfz56_2 := blk_frozen BK383.out 2) | (go_at_call 13; (with_reducible refine (impl_HashEnd.calls kj6 t380 t381 t382 t392 _ A35.out).mono ?_); rintro e w57 ⟨rfl, hb⟩; have n0_ := Aside0.mk (blk_below (g := gb379) (o := .cells #[.string t375, .string t376, .int .i64 t377] 25 (0, 0)) (by (with_reducible repeat (first | refine blk_drewN ?_ _ | refine blk_drew ?_ | refine blk_alloc ?_ _)); exact BK379.out) hb); have n1_ := Aside0.mk (blk_below (g := gb383) (o := .cells #[.string t380, .string t381, .int .i64 t382] 25 (0, 0)) (by (with_reducible repeat (first | refine blk_drewN ?_ _ | refine blk_drew ?_ | refine blk_alloc ?_ _)); exact BK383.out) hb); have n2_ := Aside0.mk (blk_below (g := gb387) (o := .cells #[.string t384, .string t385, .int .i64 t386] 25 (0, 0)) (by (with_reducible repeat (first | refine blk_drewN ?_ _ | refine blk_drew ?_ | refine blk_alloc ?_ _)); exact BK387.out) hb); have n3_ := Aside0.mk (below_step (by repeat (first | (with_reducible first | exact HB.out | apply below_alloc | apply pw_below_drewN | apply below_drew1 | refine below_set ?_ GE379.out | refine below_set ?_ GE383.out | refine below_set ?_ GE387.out) | exact HB.out)) hb); clear BK379; clear BK383; clear BK387; clear HB; have BK379 := n0_; have BK383 := n1_; have BK387 := n2_; have HB := n3_; clear n0_ n1_ n2_ n3_; (try clear hb); (try clear hb2); (try clear hk); (try clear hi); have hcz58_0 : w57.cell? ⟨gb383, 0, none⟩ = some (.string t380) := (blk_cell BK383.out 0).trans rfl; have hcz58_1 : w57.cell? ⟨gb383, 1, none⟩ = some (.string t381) := (blk_cell BK383.out 1).trans rfl; have hcz58_2 : w57.cell? ⟨gb383, 2, none⟩ = some (.int .i64 t382) := (blk_cell BK383.out 2).trans rfl; have hfz58_0 := blk_frozen BK383.out 0; have hfz58_1 := blk_frozen BK383.out 1; have hfz58_2 := blk_frozen BK383.out 2; have hcz59_0 : w57.cell? ⟨gb379, 0, none⟩ = some (.string t375) := (blk_cell BK379.out 0).trans rfl; have hcz59_1 : w57.cell? ⟨gb379, 1, none⟩ = some (.string t376) := (blk_cell BK379.out 1).trans rfl; have hcz59_2 : w57.cell? ⟨gb379, 2, none⟩ = some (.int .i64 t377) := (blk_cell BK379.out 2).trans rfl; have hfz59_0 := blk_frozen BK379.out 0; have hfz59_1 := blk_frozen BK379.out 1; have hfz59_2 := blk_frozen BK379.out 2))
         go_ret
         exact ⟨by first | rfl | (simp [errW_none, errW_some] <;> rfl) | (simp [*, errW_none, errW_some] <;> rfl), by repeat (first | (with_reducible first | exact HB.out | apply below_alloc | apply pw_below_drewN | apply below_drew1 | refine below_set ?_ GE379.out | refine below_set ?_ GE383.out | refine below_set ?_ GE387.out) | exact HB.out)⟩
       ·
        rw [if_neg c36] at H
        have c36b0 : ((t392.size : Int) == 32) = false := beq_eq_false_iff_ne.mpr c36
        have c36b1 : ((t392.size : Int) != 32) = true := bne_iff_ne.mpr c36
        obtain rfl := Option.some.inj H
        have hnb60 := NB379_383.out
        have hnc60 := NB383_379.out
        have hnb61 := NB379_387.out
        have hnc61 := NB387_379.out
        have hcz62_0 : wc.cell? ⟨gb379, 0, none⟩ = some (.string t375) := (blk_cell BK379.out 0).trans rfl
        have hcz62_1 : wc.cell? ⟨gb379, 1, none⟩ = some (.string t376) := (blk_cell BK379.out 1).trans rfl
        have hcz62_2 : wc.cell? ⟨gb379, 2, none⟩ = some (.int .i64 t377) := (blk_cell BK379.out 2).trans rfl
        have hfz62_0 := blk_frozen BK379.out 0
        have hfz62_1 := blk_frozen BK379.out 1
        have hfz62_2 := blk_frozen BK379.out 2
        go_wp2_with (first | ((with_reducible refine gate_callee (f := 12) rfl ?_); refine goesL_ (some 31) rfl rfl Try.func12 (by kernel_rfl) rfl #[.agg #[.string t375, .string t376, .int .i64 t377]] rfl (by (try simp only [List.map_toArray, List.map_cons, List.map_nil]); first | done | rfl | (simp only [List.length_drop, List.length_take]; rfl)) ?_; (with_reducible refine (spec_HasherOk.calls t375 t376 t377 true _ A31.out).mono ?_); rintro e w63 ⟨rfl, hb⟩; refine ⟨_, rfl, ?_⟩; have n0_ := Aside0.mk (blk_below (g := gb379) (o := .cells #[.string t375, .string t376, .int .i64 t377] 25 (0, 0)) (by (with_reducible repeat (first | refine blk_drewN ?_ _ | refine blk_drew ?_ | refine blk_alloc ?_ _)); exact BK379.out) hb); have n1_ := Aside0.mk (blk_below (g := gb383) (o := .cells #[.string t380, .string t381, .int .i64 t382] 25 (0, 0)) (by (with_reducible repeat (first | refine blk_drewN ?_ _ | refine blk_drew ?_ | refine blk_alloc ?_ _)); exact BK383.out) hb); have n2_ := Aside0.mk (blk_below (g := gb387) (o := .cells #[.string t384, .string t385, .int .i64 t386] 25 (0, 0)) (by (with_reducible repeat (first | refine blk_drewN ?_ _ | refine blk_drew ?_ | refine blk_alloc ?_ _)); exact BK387.out) hb); have n3_ := Aside0.mk (below_step (by repeat (first | (with_reducible first | exact HB.out | apply below_alloc | apply pw_below_drewN | apply below_drew1 | refine below_set ?_ GE379.out | refine below_set ?_ GE383.out | refine below_set ?_ GE387.out) | exact HB.out)) hb); clear BK379; clear BK383; clear BK387; clear HB; have BK379 := n0_; have BK383 := n1_; have BK387 := n2_; have HB := n3_; clear n0_ n1_ n2_ n3_; (try clear hb); (try clear hb2); (try clear hk); (try clear hi); have hnb64 := NB383_387.out; have hnc64 := NB387_383.out; have hcz65_0 : w63.cell? ⟨gb383, 0, none⟩ = some (.string t380) := (blk_cell BK383.out 0).trans rfl; have hcz65_1 : w63.cell? ⟨gb383, 1, none⟩ = some (.string t381) := (blk_cell BK383.out 1).trans rfl; have hcz65_2 : w63.cell? ⟨gb383, 2, none⟩ = some (.int .i64 t382) := (blk_cell BK383.out 2).trans rfl; have hfz65_0 := blk_frozen BK383.out 0; have hfz65_1 := blk_frozen BK383.out 1; have hfz65_2 := blk_frozen BK383.out 2) | ((with_reducible refine gate_callee (f := 11) rfl ?_); refine goesL_ (some 42) rfl rfl Try.func11 (by kernel_rfl) rfl #[.agg #[.string t380, .string t381, .int .i64 t382]] rfl (by (try simp only [List.map_toArray, List.map_cons, List.map_nil]); first | done | rfl | (simp only [List.length_drop, List.length_take]; rfl)) ?_; (with_reducible refine (impl_HasherOk.calls t380 t381 t382 true _ A33.out).mono ?_); rintro e w66 ⟨rfl, hb⟩; refine ⟨_, rfl, ?_⟩; have n0_ := Aside0.mk (blk_below (g := gb379) (o := .cells #[.string t375, .string t376, .int .i64 t377] 25 (0, 0)) (by (with_reducible repeat (first | refine blk_drewN ?_ _ | refine blk_drew ?_ | refine blk_alloc ?_ _)); exact BK379.out) hb); have n1_ := Aside0.mk (blk_below (g := gb383) (o := .cells #[.string t380, .string t381, .int .i64 t382] 25 (0, 0)) (by (with_reducible repeat (first | refine blk_drewN ?_ _ | refine blk_drew ?_ | refine blk_alloc ?_ _)); exact BK383.out) hb); have n2_ := Aside0.mk (blk_below (g := gb387) (o := .cells #[.string t384, .string t385, .int .i64 t386] 25 (0, 0)) (by (with_reducible repeat (first | refine blk_drewN ?_ _ | refine blk_drew ?_ | refine blk_alloc ?_ _)); exact BK387.out) hb); have n3_ := Aside0.mk (below_step (by repeat (first | (with_reducible first | exact HB.out | apply below_alloc | apply pw_below_drewN | apply below_drew1 | refine below_set ?_ GE379.out | refine below_set ?_ GE383.out | refine below_set ?_ GE387.out) | exact HB.out)) hb); clear BK379; clear BK383; clear BK387; clear HB; have BK379 := n0_; have BK383 := n1_; have BK387 := n2_; have HB := n3_; clear n0_ n1_ n2_ n3_; (try clear hb); (try clear hb2); (try clear hk); (try clear hi); have hcz67_0 : w66.cell? ⟨gb383, 0, none⟩ = some (.string t380) := (blk_cell BK383.out 0).trans rfl; have hcz67_1 : w66.cell? ⟨gb383, 1, none⟩ = some (.string t381) := (blk_cell BK383.out 1).trans rfl; have hcz67_2 : w66.cell? ⟨gb383, 2, none⟩ = some (.int .i64 t382) := (blk_cell BK383.out 2).trans rfl; have hfz67_0 := blk_frozen BK383.out 0; have hfz67_1 := blk_frozen BK383.out 1; have hfz67_2 := blk_frozen BK383.out 2) | (go_at_call 13; (with_reducible refine (impl_HashEnd.calls kj6 t380 t381 t382 t392 _ A35.out).mono ?_); rintro e w68 ⟨rfl, hb⟩; have n0_ := Aside0.mk (blk_below (g := gb379) (o := .cells #[.string t375, .string t376, .int .i64 t377] 25 (0, 0)) (by (with_reducible repeat (first | refine blk_drewN ?_ _ | refine blk_drew ?_ | refine blk_alloc ?_ _)); exact BK379.out) hb); have n1_ := Aside0.mk (blk_below (g := gb383) (o := .cells #[.string t380, .string t381, .int .i64 t382] 25 (0, 0)) (by (with_reducible repeat (first | refine blk_drewN ?_ _ | refine blk_drew ?_ | refine blk_alloc ?_ _)); exact BK383.out) hb); have n2_ := Aside0.mk (blk_below (g := gb387) (o := .cells #[.string t384, .string t385, .int .i64 t386] 25 (0, 0)) (by (with_reducible repeat (first | refine blk_drewN ?_ _ | refine blk_drew ?_ | refine blk_alloc ?_ _)); exact BK387.out) hb); have n3_ := Aside0.mk (below_step (by repeat (first | (with_reducible first | exact HB.out | apply below_alloc | apply pw_below_drewN | apply below_drew1 | refine below_set ?_ GE379.out | refine below_set ?_ GE383.out | refine below_set ?_ GE387.out) | exact HB.out)) hb); clear BK379; clear BK383; clear BK387; clear HB; have BK379 := n0_; have BK383 := n1_; have BK387 := n2_; have HB := n3_; clear n0_ n1_ n2_ n3_; (try clear hb); (try clear hb2); (try clear hk); (try clear hi)))
        go_ret
        exact ⟨by first | rfl | (simp [errW_none, errW_some] <;> rfl) | (simp [*, errW_none, errW_some] <;> rfl), by repeat (first | (with_reducible first | exact HB.out | apply below_alloc | apply pw_below_drewN | apply below_drew1 | refine below_set ?_ GE379.out | refine below_set ?_ GE383.out | refine below_set ?_ GE387.out) | exact HB.out)⟩
      ·
       replace c34 := Bool.eq_false_iff.mpr c34
       subst c34
       have H1 : (some false) = some r := by rw [if_neg (show ¬ (false = true) by decide)] at H; exact H
       clear H
       have H := H1
       clear H1
       obtain rfl := Option.some.inj H
       have hnb69 := NB379_383.out
       have hnc69 := NB383_379.out
       have hnb70 := NB379_387.out
       have hnc70 := NB387_379.out
       have hcz71_0 : wc.cell? ⟨gb379, 0, none⟩ = some (.string t375) := (blk_cell BK379.out 0).trans rfl
       have hcz71_1 : wc.cell? ⟨gb379, 1, none⟩ = some (.string t376) := (blk_cell BK379.out 1).trans rfl
       have hcz71_2 : wc.cell? ⟨gb379, 2, none⟩ = some (.int .i64 t377) := (blk_cell BK379.out 2).trans rfl
       have hfz71_0 := blk_frozen BK379.out 0
       have hfz71_1 := blk_frozen BK379.out 1
       have hfz71_2 := blk_frozen BK379.out 2
       go_wp2_with (first | ((with_reducible refine gate_callee (f := 12) rfl ?_); refine goesL_ (some 31) rfl rfl Try.func12 (by kernel_rfl) rfl #[.agg #[.string t375, .string t376, .int .i64 t377]] rfl (by (try simp only [List.map_toArray, List.map_cons, List.map_nil]); first | done | rfl | (simp only [List.length_drop, List.length_take]; rfl)) ?_; (with_reducible refine (spec_HasherOk.calls t375 t376 t377 true _ A31.out).mono ?_); rintro e w72 ⟨rfl, hb⟩; refine ⟨_, rfl, ?_⟩; have n0_ := Aside0.mk (blk_below (g := gb379) (o := .cells #[.string t375, .string t376, .int .i64 t377] 25 (0, 0)) (by (with_reducible repeat (first | refine blk_drewN ?_ _ | refine blk_drew ?_ | refine blk_alloc ?_ _)); exact BK379.out) hb); have n1_ := Aside0.mk (blk_below (g := gb383) (o := .cells #[.string t380, .string t381, .int .i64 t382] 25 (0, 0)) (by (with_reducible repeat (first | refine blk_drewN ?_ _ | refine blk_drew ?_ | refine blk_alloc ?_ _)); exact BK383.out) hb); have n2_ := Aside0.mk (blk_below (g := gb387) (o := .cells #[.string t384, .string t385, .int .i64 t386] 25 (0, 0)) (by (with_reducible repeat (first | refine blk_drewN ?_ _ | refine blk_drew ?_ | refine blk_alloc ?_ _)); exact BK387.out) hb); have n3_ := Aside0.mk (below_step (by repeat (first | (with_reducible first | exact HB.out | apply below_alloc | apply pw_below_drewN | apply below_drew1 | refine below_set ?_ GE379.out | refine below_set ?_ GE383.out | refine below_set ?_ GE387.out) | exact HB.out)) hb); clear BK379; clear BK383; clear BK387; clear HB; have BK379 := n0_; have BK383 := n1_; have BK387 := n2_; have HB := n3_; clear n0_ n1_ n2_ n3_; (try clear hb); (try clear hb2); (try clear hk); (try clear hi); have hnb73 := NB383_387.out; have hnc73 := NB387_383.out; have hcz74_0 : w72.cell? ⟨gb383, 0, none⟩ = some (.string t380) := (blk_cell BK383.out 0).trans rfl; have hcz74_1 : w72.cell? ⟨gb383, 1, none⟩ = some (.string t381) := (blk_cell BK383.out 1).trans rfl; have hcz74_2 : w72.cell? ⟨gb383, 2, none⟩ = some (.int .i64 t382) := (blk_cell BK383.out 2).trans rfl; have hfz74_0 := blk_frozen BK383.out 0; have hfz74_1 := blk_frozen BK383.out 1; have hfz74_2 := blk_frozen BK383.out 2) | ((with_reducible refine gate_callee (f := 11) rfl ?_); refine goesL_ (some 42) rfl rfl Try.func11 (by kernel_rfl) rfl #[.agg #[.string t380, .string t381, .int .i64 t382]] rfl (by (try simp only [List.map_toArray, List.map_cons, List.map_nil]); first | done | rfl | (simp only [List.length_drop, List.length_take]; rfl)) ?_; (with_reducible refine (impl_HasherOk.calls t380 t381 t382 false _ A33.out).mono ?_); rintro e w75 ⟨rfl, hb⟩; refine ⟨_, rfl, ?_⟩; have n0_ := Aside0.mk (blk_below (g := gb379) (o := .cells #[.string t375, .string t376, .int .i64 t377] 25 (0, 0)) (by (with_reducible repeat (first | refine blk_drewN ?_ _ | refine blk_drew ?_ | refine blk_alloc ?_ _)); exact BK379.out) hb); have n1_ := Aside0.mk (blk_below (g := gb383) (o := .cells #[.string t380, .string t381, .int .i64 t382] 25 (0, 0)) (by (with_reducible repeat (first | refine blk_drewN ?_ _ | refine blk_drew ?_ | refine blk_alloc ?_ _)); exact BK383.out) hb); have n2_ := Aside0.mk (blk_below (g := gb387) (o := .cells #[.string t384, .string t385, .int .i64 t386] 25 (0, 0)) (by (with_reducible repeat (first | refine blk_drewN ?_ _ | refine blk_drew ?_ | refine blk_alloc ?_ _)); exact BK387.out) hb); have n3_ := Aside0.mk (below_step (by repeat (first | (with_reducible first | exact HB.out | apply below_alloc | apply pw_below_drewN | apply below_drew1 | refine below_set ?_ GE379.out | refine below_set ?_ GE383.out | refine below_set ?_ GE387.out) | exact HB.out)) hb); clear BK379; clear BK383; clear BK387; clear HB; have BK379 := n0_; have BK383 := n1_; have BK387 := n2_; have HB := n3_; clear n0_ n1_ n2_ n3_; (try clear hb); (try clear hb2); (try clear hk); (try clear hi)))
       go_ret
       exact ⟨by first | rfl | (simp [errW_none, errW_some] <;> rfl) | (simp [*, errW_none, errW_some] <;> rfl), by repeat (first | (with_reducible first | exact HB.out | apply below_alloc | apply pw_below_drewN | apply below_drew1 | refine below_set ?_ GE379.out | refine below_set ?_ GE383.out | refine below_set ?_ GE387.out) | exact HB.out)⟩
     ·
      replace c32 := Bool.eq_false_iff.mpr c32
      subst c32
      have H1 : (if (t380.toList == t375.toList && (t381.toList == t376.toList && (t382 == t377))) = true then ((impl_HashEnd.f kj6 t375 t376 t377).bind fun t393 => (some (t393.toList == ([] : List UInt8)))) else (some false)) = some r := by rw [if_neg (show ¬ (false = true) by decide)] at H; exact H
      clear H
      have H := H1
      clear H1
      by_cases c76 : (t380.toList == t375.toList && (t381.toList == t376.toList && (t382 == t377))) = true
      ·
       rw [if_pos c76] at H
       have c76b0 : (t380.toList == t375.toList && (t381.toList == t376.toList && (t382 == t377))) = true := c76
       (try (have c76b1 : decide (t380.toList = t375.toList && (t381.toList == t376.toList && (t382 == t377))) = true := by simpa using c76))
       (try (have c76b2 : (t380.toList == t375.toList && (t381.toList == t376.toList && (t382 == t377))) = true := by simpa using c76))
       clear c76
       replace H := Option.bind_eq_some_iff.mp H
       obtain ⟨t393, A770, H⟩ := H
       replace H : (some (t393.toList == ([] : List UInt8))) = some r := H
       have A77 := Aside0.mk A770
       clear A770
       obtain rfl := Option.some.inj H
       have hnb78 := NB379_383.out
       have hnc78 := NB383_379.out
       have hnb79 := NB379_387.out
       have hnc79 := NB387_379.out
       have hcz80_0 : wc.cell? ⟨gb379, 0, none⟩ = some (.string t375) := (blk_cell BK379.out 0).trans rfl
       have hcz80_1 : wc.cell? ⟨gb379, 1, none⟩ = some (.string t376) := (blk_cell BK379.out 1).trans rfl
       have hcz80_2 : wc.cell? ⟨gb379, 2, none⟩ = some (.int .i64 t377) := (blk_cell BK379.out 2).trans rfl
       have hfz80_0 := blk_frozen BK379.out 0
       have hfz80_1 := blk_frozen BK379.out 1
       have hfz80_2 := blk_frozen BK379.out 2
       go_wp2_with (first | ((with_reducible refine gate_callee (f := 12) rfl ?_); refine goesL_ (some 31) rfl rfl Try.func12 (by kernel_rfl) rfl #[.agg #[.string t375, .string t376, .int .i64 t377]] rfl (by (try simp only [List.map_toArray, List.map_cons, List.map_nil]); first | done | rfl | (simp only [List.length_drop, List.length_take]; rfl)) ?_; (with_reducible refine (spec_HasherOk.calls t375 t376 t377 false _ A31.out).mono ?_); rintro e w81 ⟨rfl, hb⟩; refine ⟨_, rfl, ?_⟩; have n0_ := Aside0.mk (blk_below (g := gb379) (o := .cells #[.string t375, .string t376, .int .i64 t377] 25 (0, 0)) (by (with_reducible repeat (first | refine blk_drewN ?_ _ | refine blk_drew ?_ | refine blk_alloc ?_ _)); exact BK379.out) hb); have n1_ := Aside0.mk (blk_below (g := gb383) (o := .cells #[.string t380, .string t381, .int .i64 t382] 25 (0, 0)) (by (with_reducible repeat (first | refine blk_drewN ?_ _ | refine blk_drew ?_ | refine blk_alloc ?_ _)); exact BK383.out) hb); have n2_ := Aside0.mk (blk_below (g := gb387) (o := .cells #[.string t384, .string t385, .int .i64 t386] 25 (0, 0)) (by (with_reducible repeat (first | refine blk_drewN ?_ _ | refine blk_drew ?_ | refine blk_alloc ?_ _)); exact BK387.out) hb); have n3_ := Aside0.mk (below_step (by repeat (first | (with_reducible first | exact HB.out | apply below_alloc | apply pw_below_drewN | apply below_drew1 | refine below_set ?_ GE379.out | refine below_set ?_ GE383.out | refine below_set ?_ GE387.out) | exact HB.out)) hb); clear BK379; clear BK383; clear BK387; clear HB; have BK379 := n0_; have BK383 := n1_; have BK387 := n2_; have HB := n3_; clear n0_ n1_ n2_ n3_; (try clear hb); (try clear hb2); (try clear hk); (try clear hi); have hnb82 := NB383_387.out; have hnc82 := NB387_383.out; have hcz83_0 : w81.cell? ⟨gb383, 0, none⟩ = some (.string t380) := (blk_cell BK383.out 0).trans rfl; have hcz83_1 : w81.cell? ⟨gb383, 1, none⟩ = some (.string t381) := (blk_cell BK383.out 1).trans rfl; have hcz83_2 : w81.cell? ⟨gb383, 2, none⟩ = some (.int .i64 t382) := (blk_cell BK383.out 2).trans rfl; have hfz83_0 := blk_frozen BK383.out 0; have hfz83_1 := blk_frozen BK383.out 1; have hfz83_2 := blk_frozen BK383.out 2; have hcz84_0 : w81.cell? ⟨gb379, 0, none⟩ = some (.string t375) := (blk_cell BK379.out 0).trans rfl; have hcz84_1 : w81.cell? ⟨gb379, 1, none⟩ = some (.string t376) := (blk_cell BK379.out 1).trans rfl; have hcz84_2 : w81.cell? ⟨gb379, 2, none⟩ = some (.int .i64 t377) := (blk_cell BK379.out 2).trans rfl; have hfz84_0 := blk_frozen BK379.out 0; have hfz84_1 := blk_frozen BK379.out 1; have hfz84_2 := blk_frozen BK379.out 2) | (go_at_call 13; (with_reducible refine (impl_HashEnd.calls kj6 t375 t376 t377 t393 _ A77.out).mono ?_); rintro e w85 ⟨rfl, hb⟩; have n0_ := Aside0.mk (blk_below (g := gb379) (o := .cells #[.string t375, .string t376, .int .i64 t377] 25 (0, 0)) (by (with_reducible repeat (first | refine blk_drewN ?_ _ | refine blk_drew ?_ | refine blk_alloc ?_ _)); exact BK379.out) hb); have n1_ := Aside0.mk (blk_below (g := gb383) (o := .cells #[.string t380, .string t381, .int .i64 t382] 25 (0, 0)) (by (with_reducible repeat (first | refine blk_drewN ?_ _ | refine blk_drew ?_ | refine blk_alloc ?_ _)); exact BK383.out) hb); have n2_ := Aside0.mk (blk_below (g := gb387) (o := .cells #[.string t384, .string t385, .int .i64 t386] 25 (0, 0)) (by (with_reducible repeat (first | refine blk_drewN ?_ _ | refine blk_drew ?_ | refine blk_alloc ?_ _)); exact BK387.out) hb); have n3_ := Aside0.mk (below_step (by repeat (first | (with_reducible first | exact HB.out | apply below_alloc | apply pw_below_drewN | apply below_drew1 | refine below_set ?_ GE379.out | refine below_set ?_ GE383.out | refine below_set ?_ GE387.out) | exact HB.out)) hb); clear BK379; clear BK383; clear BK387; clear HB; have BK379 := n0_; have BK383 := n1_; have BK387 := n2_; have HB := n3_; clear n0_ n1_ n2_ n3_; (try clear hb); (try clear hb2); (try clear hk); (try clear hi)))
       go_ret
       exact ⟨by first | rfl | (simp [errW_none, errW_some] <;> rfl) | (simp [*, errW_none, errW_some] <;> rfl), by repeat (first | (with_reducible first | exact HB.out | apply below_alloc | apply pw_below_drewN | apply below_drew1 | refine below_set ?_ GE379.out | refine below_set ?_ GE383.out | refine below_set ?_ GE387.out) | exact HB.out)⟩
      ·
       rw [if_neg c76] at H
       have c76b0 : (t380.toList == t375.toList && (t381.toList == t376.toList && (t382 == t377))) = false := by simpa using c76
       (try (have c76b1 : decide (t380.toList = t375.toList && (t381.toList == t376.toList && (t382 == t377))) = false := by simpa using c76))
       (try (have c76b2 : (t380.toList == t375.toList && (t381.toList == t376.toList && (t382 == t377))) = false := by simpa using c76))
       (try (have c76b3 : ¬ (t380.toList = t375.toList && (t381.toList == t376.toList && (t382 == t377))) := by simpa using c76))
       clear c76
       obtain rfl := Option.some.inj H
       have hnb86 := NB379_383.out
       have hnc86 := NB383_379.out
       have hnb87 := NB379_387.out
       have hnc87 := NB387_379.out
       have hcz88_0 : wc.cell? ⟨gb379, 0, none⟩ = some (.string t375) := (blk_cell BK379.out 0).trans rfl
       have hcz88_1 : wc.cell? ⟨gb379, 1, none⟩ = some (.string t376) := (blk_cell BK379.out 1).trans rfl
       have hcz88_2 : wc.cell? ⟨gb379, 2, none⟩ = some (.int .i64 t377) := (blk_cell BK379.out 2).trans rfl
       have hfz88_0 := blk_frozen BK379.out 0
       have hfz88_1 := blk_frozen BK379.out 1
       have hfz88_2 := blk_frozen BK379.out 2
       go_wp2_with (first | ((with_reducible refine gate_callee (f := 12) rfl ?_); refine goesL_ (some 31) rfl rfl Try.func12 (by kernel_rfl) rfl #[.agg #[.string t375, .string t376, .int .i64 t377]] rfl (by (try simp only [List.map_toArray, List.map_cons, List.map_nil]); first | done | rfl | (simp only [List.length_drop, List.length_take]; rfl)) ?_; (with_reducible refine (spec_HasherOk.calls t375 t376 t377 false _ A31.out).mono ?_); rintro e w89 ⟨rfl, hb⟩; refine ⟨_, rfl, ?_⟩; have n0_ := Aside0.mk (blk_below (g := gb379) (o := .cells #[.string t375, .string t376, .int .i64 t377] 25 (0, 0)) (by (with_reducible repeat (first | refine blk_drewN ?_ _ | refine blk_drew ?_ | refine blk_alloc ?_ _)); exact BK379.out) hb); have n1_ := Aside0.mk (blk_below (g := gb383) (o := .cells #[.string t380, .string t381, .int .i64 t382] 25 (0, 0)) (by (with_reducible repeat (first | refine blk_drewN ?_ _ | refine blk_drew ?_ | refine blk_alloc ?_ _)); exact BK383.out) hb); have n2_ := Aside0.mk (blk_below (g := gb387) (o := .cells #[.string t384, .string t385, .int .i64 t386] 25 (0, 0)) (by (with_reducible repeat (first | refine blk_drewN ?_ _ | refine blk_drew ?_ | refine blk_alloc ?_ _)); exact BK387.out) hb); have n3_ := Aside0.mk (below_step (by repeat (first | (with_reducible first | exact HB.out | apply below_alloc | apply pw_below_drewN | apply below_drew1 | refine below_set ?_ GE379.out | refine below_set ?_ GE383.out | refine below_set ?_ GE387.out) | exact HB.out)) hb); clear BK379; clear BK383; clear BK387; clear HB; have BK379 := n0_; have BK383 := n1_; have BK387 := n2_; have HB := n3_; clear n0_ n1_ n2_ n3_; (try clear hb); (try clear hb2); (try clear hk); (try clear hi); have hnb90 := NB383_387.out; have hnc90 := NB387_383.out; have hcz91_0 : w89.cell? ⟨gb383, 0, none⟩ = some (.string t380) := (blk_cell BK383.out 0).trans rfl; have hcz91_1 : w89.cell? ⟨gb383, 1, none⟩ = some (.string t381) := (blk_cell BK383.out 1).trans rfl; have hcz91_2 : w89.cell? ⟨gb383, 2, none⟩ = some (.int .i64 t382) := (blk_cell BK383.out 2).trans rfl; have hfz91_0 := blk_frozen BK383.out 0; have hfz91_1 := blk_frozen BK383.out 1; have hfz91_2 := blk_frozen BK383.out 2; have hcz92_0 : w89.cell? ⟨gb379, 0, none⟩ = some (.string t375) := (blk_cell BK379.out 0).trans rfl; have hcz92_1 : w89.cell? ⟨gb379, 1, none⟩ = some (.string t376) := (blk_cell BK379.out 1).trans rfl; have hcz92_2 : w89.cell? ⟨gb379, 2, none⟩ = some (.int .i64 t377) := (blk_cell BK379.out 2).trans rfl; have hfz92_0 := blk_frozen BK379.out 0; have hfz92_1 := blk_frozen BK379.out 1; have hfz92_2 := blk_frozen BK379.out 2))
       go_ret
       exact ⟨by first | rfl | (simp [errW_none, errW_some] <;> rfl) | (simp [*, errW_none, errW_some] <;> rfl), by repeat (first | (with_reducible first | exact HB.out | apply below_alloc | apply pw_below_drewN | apply below_drew1 | refine below_set ?_ GE379.out | refine below_set ?_ GE383.out | refine below_set ?_ GE387.out) | exact HB.out)⟩
def laws_FnHashers.Pure : Prop := ∀ (l0 : List Int), l0.length ≤ maxLen → l0.length * 1 ≤ 140737488351232 → (∀ x ∈ l0, (Lit.int .u8 x).wf = true) → ∃ k, laws_FnHashers.f k l0 = some true
theorem laws_FnHashers.walk (P : laws_FnHashers.Pure) (a0 : Option Addr) (len0 cap0 : Nat) (z0 : List Int) (w : World) (w0 : (a0 = none ∧ len0 = 0 ∧ cap0 = 0 ∧ z0 = []) ∨ ∃ x, a0 = some x ∧ len0 ≤ cap0 ∧ cap0 ≤ maxLen ∧ z0.length = cap0 ∧ (∀ i, i < z0.length → w.cell? (x.add i) = some (.int .u8 (z0.getD i 0))) ∧ ∀ n ∈ z0, (Lit.int .u8 n).wf = true) (y0 : len0 * 1 ≤ 140737488351232) :
  Calls Try.prog 3 #[.slice a0 len0 cap0] w fun e w' => e = .returned (.bool true) ∧ Below w.heap.size w w' := by
 obtain ⟨l0, rfl, hr0, hm0, hw0, hc0⟩ := ReadsInt.ofRowC w0
 obtain ⟨k, h⟩ := P l0 hm0 y0 hw0
 refine (laws_FnHashers.calls k _ _ l0 true w (Kd.C_of_reads (d := (0 : Int)) (h1 := fun _ => rfl) hr0) hc0 h).mono ?_
 rintro e w' ⟨rfl, hd⟩
 exact ⟨rfl, hd⟩
end Go.Proofs.Ytmjmnmcpfpbkeaa.PFnHashers
