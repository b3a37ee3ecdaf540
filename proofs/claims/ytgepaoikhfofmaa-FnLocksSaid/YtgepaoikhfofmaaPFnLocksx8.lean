-- Written by this session's program wip/myprint.py, after the kit's print.
import Derived.Test.YtgepaoikhfofmaaPFnLocksx0
import Derived.Test.YtgepaoikhfofmaaPFnLocksx3
import Derived.Test.YtgepaoikhfofmaaPFnLocksx5
import Derived.Test.YtgepaoikhfofmaaPFnLocksx7
namespace Go.Proofs.Ytgepaoikhfofmaa.PFnLocks
open Go.RowKit Go.Proofs.YtgepaoikhfofmaaW.PrintWords Go.Proofs.YtgepaoikhfofmaaW.PrintLast Go.Proofs.YtgepaoikhfofmaaW.PrintMore
attribute [local go_sem] max2_int min2_int max_two min_two max_three min_three max_four min_four   -- for this text's walks alone
set_option linter.unusedVariables false
set_option linter.unusedSimpArgs false
def impl_MacOf.j0 : Nat → ByteArray → ByteArray → Option (ByteArray)
 | 0, _, _ => none
 | k + 1, x0, x1 => (strings_Repeat.f (⟨#[0]⟩ : ByteArray) (wrap64 (64 - (x0.size : Int)))).bind fun t330 => (if x0.size + t330.size ≤ 9223372036854775807 then ((impl_masked.f (x0 ++ t330) 92).bind fun t331 => ((impl_masked.f (x0 ++ t330) 54).bind fun t332 => (if t332.size + x1.size ≤ 9223372036854775807 then ((impl_DigestOf.f k (t332 ++ x1)).bind fun t333 => (if t331.size + t333.size ≤ 9223372036854775807 then ((impl_DigestOf.f k (t331 ++ t333)).bind fun t334 => (some t334)) else (none))) else (none)))) else (none))
def impl_MacOf.f (k : Nat) (a0 : ByteArray) (a1 : ByteArray) : Option (ByteArray) := if (a0.size : Int) > 64 then ((impl_DigestOf.f k a0).bind fun t329 => (impl_MacOf.j0 k t329 a1)) else (impl_MacOf.j0 k a0 a1)
theorem impl_MacOf.mono_l : ∀ k, (∀ y0 y1, LeO (impl_MacOf.j0 k y0 y1) (impl_MacOf.j0 (k + 1) y0 y1))
 | 0 => fun _ _ r h => by simp [impl_MacOf.j0] at h
 | k + 1 => by
  have ih0 := impl_MacOf.mono_l k
  ·
   intro y0 y1
   unfold impl_MacOf.j0
   repeat' first
   | (with_reducible exact ih0 _ _)
   | (with_reducible exact impl_DigestOf.mono _ _)
   | (with_reducible exact LeO.refl _)
   | (with_reducible exact LeO.none _)
   | (with_reducible refine LeO.ite ?_ ?_)
   | (with_reducible refine LeO.bind ?_ (fun _ => ?_))
   | exact ih0 _ _
   | exact impl_DigestOf.mono _ _
   | exact LeO.none _
   | refine LeO.ite ?_ ?_
   | refine LeO.bind ?_ (fun _ => ?_)
theorem impl_MacOf.mono : ∀ a0 a1 k, LeO (impl_MacOf.f k a0 a1) (impl_MacOf.f (k + 1) a0 a1) := by
 intro a0 a1 k
 have ih0 := impl_MacOf.mono_l k
 unfold impl_MacOf.f
 repeat' first
   | (with_reducible exact ih0 _ _)
   | (with_reducible exact impl_DigestOf.mono _ _)
   | (with_reducible exact LeO.refl _)
   | (with_reducible exact LeO.none _)
   | (with_reducible refine LeO.ite ?_ ?_)
   | (with_reducible refine LeO.bind ?_ (fun _ => ?_))
   | exact ih0 _ _
   | exact impl_DigestOf.mono _ _
   | exact LeO.none _
   | refine LeO.ite ?_ ?_
   | refine LeO.bind ?_ (fun _ => ?_)
set_option maxHeartbeats 8000000 in
set_option maxRecDepth 100000 in
theorem impl_MacOf.calls (k : Nat) (a0 : ByteArray) (a1 : ByteArray) (r : ByteArray) (w : World) (h : impl_MacOf.f k a0 a1 = some r) :
  Calls Try.prog 37 #[.string a0, .string a1] w fun e w' => e = .returned (.string r) ∧ Below w.heap.size w w' := by
 have HB := Aside0.mk (Below.refl w.heap.size w)
 have H : (if (a0.size : Int) > 64 then ((impl_DigestOf.f k a0).bind fun t329 => (impl_MacOf.j0 k t329 a1)) else (impl_MacOf.j0 k a0 a1)) = some r := h
 clear h
 have HC3 := Aside0.mk H
 clear H
 go_enter Try.func37, Try.ntmps37
 go_upto_if 7 with (fail)
 go_cut [0] (fun v0 wc => ∃ (kq : Nat) (x0_2 : ByteArray), v0 = .string x0_2 ∧ Aside0 (impl_MacOf.j0 kq x0_2 a1 = some r) ∧ Aside0 (kq ≤ k) ∧ Aside0 (Below w.heap.size w wc))
 case first =>
  have H := HC3.out
  clear HC3
  by_cases c4 : (a0.size : Int) > 64
  ·
   rw [if_pos c4] at H
   have c4b0 : decide (64 < (a0.size : Int)) = true := decide_eq_true c4
   have c4b1 : decide (64 < a0.size) = true := decide_eq_true (by omega)
   clear c4
   (first | rw [c4b0] | (simp only [i64_w, i32_w]; rw [c4b0]) | skip)
   replace H := Option.bind_eq_some_iff.mp H
   obtain ⟨t329, A50, H⟩ := H
   replace H : (impl_MacOf.j0 k t329 a1) = some r := H
   have A5 := Aside0.mk A50
   clear A50
   have H' := Aside0.mk H
   clear H
   go_wp2_with (first | ((with_reducible refine gate_callee (f := 49) rfl ?_); refine goesL_ (some 9) rfl rfl Try.func49 (by kernel_rfl) rfl #[.string a0] rfl (by (try simp only [List.map_toArray, List.map_cons, List.map_nil]); first | done | rfl | (simp only [List.length_drop, List.length_take]; rfl)) ?_; (with_reducible refine (impl_DigestOf.calls k a0 t329 _ A5.out).mono ?_); rintro e w6 ⟨rfl, hb⟩; refine ⟨_, rfl, ?_⟩; have n0_ := Aside0.mk (below_step (by repeat (first | (with_reducible first | exact HB.out | apply below_alloc | apply pw_below_drewN | apply below_drew1) | exact HB.out)) hb); clear HB; have HB := n0_; clear n0_; (try clear hb); (try clear hb2); (try clear hk); (try clear hi)))
   go_meet
   case rel => exact ⟨_, (t329), (by first | rfl | (simp; done) | (simp [*]; done)), H', ⟨by first | omega | exact Nat.le_refl _⟩, ⟨by repeat (first | (with_reducible first | exact HB.out | apply below_alloc | apply pw_below_drewN | apply below_drew1) | exact HB.out)⟩⟩
  ·
   rw [if_neg c4] at H
   have c4b0 : decide (64 < (a0.size : Int)) = false := decide_eq_false c4
   have c4b1 : decide (64 < a0.size) = false := decide_eq_false (by omega)
   clear c4
   (first | rw [c4b0] | (simp only [i64_w, i32_w]; rw [c4b0]) | skip)
   have H' := Aside0.mk H
   clear H
   go_wp2
   go_meet
   case rel => exact ⟨_, (a0), (by first | rfl | (simp; done) | (simp [*]; done)), H', ⟨by first | omega | exact Nat.le_refl _⟩, ⟨by repeat (first | (with_reducible first | exact HB.out | apply below_alloc | apply pw_below_drewN | apply below_drew1) | exact HB.out)⟩⟩
 case rest =>
  clear HC3
  try clear p2; try clear c3; try clear c4; try clear c4b0; try clear c4b1
  obtain ⟨kq, x0_2, rfl, HA, HJ2, HB⟩ := hcut
  cases kq with
  | zero => exact absurd HA.out (by simp [impl_MacOf.j0])
  | succ kj2 =>
   have H := HA.out
   clear HA
   simp only [impl_MacOf.j0] at H
   replace H := Option.bind_eq_some_iff.mp H
   obtain ⟨t330, A70, H⟩ := H
   replace H : (if x0_2.size + t330.size ≤ 9223372036854775807 then ((impl_masked.f (x0_2 ++ t330) 92).bind fun t331 => ((impl_masked.f (x0_2 ++ t330) 54).bind fun t332 => (if t332.size + a1.size ≤ 9223372036854775807 then ((impl_DigestOf.f kj2 (t332 ++ a1)).bind fun t333 => (if t331.size + t333.size ≤ 9223372036854775807 then ((impl_DigestOf.f kj2 (t331 ++ t333)).bind fun t334 => (some t334)) else (none))) else (none)))) else (none)) = some r := H
   have A7 := Aside0.mk A70
   clear A70
   by_cases c8 : x0_2.size + t330.size ≤ 9223372036854775807
   ·
    rw [if_pos c8] at H
    have c8b0 := eq_true c8
    have c8b1 : decide (x0_2.size + t330.size ≤ 9223372036854775807) = true := decide_eq_true c8
    try have c8b2 : (9223372036854775807 < x0_2.size + t330.size) = False := eq_false (Nat.not_lt.2 c8)
    replace H := Option.bind_eq_some_iff.mp H
    obtain ⟨t331, A90, H⟩ := H
    replace H : ((impl_masked.f (x0_2 ++ t330) 54).bind fun t332 => (if t332.size + a1.size ≤ 9223372036854775807 then ((impl_DigestOf.f kj2 (t332 ++ a1)).bind fun t333 => (if t331.size + t333.size ≤ 9223372036854775807 then ((impl_DigestOf.f kj2 (t331 ++ t333)).bind fun t334 => (some t334)) else (none))) else (none))) = some r := H
    have A9 := Aside0.mk A90
    clear A90
    replace H := Option.bind_eq_some_iff.mp H
    obtain ⟨t332, A100, H⟩ := H
    replace H : (if t332.size + a1.size ≤ 9223372036854775807 then ((impl_DigestOf.f kj2 (t332 ++ a1)).bind fun t333 => (if t331.size + t333.size ≤ 9223372036854775807 then ((impl_DigestOf.f kj2 (t331 ++ t333)).bind fun t334 => (some t334)) else (none))) else (none)) = some r := H
    have A10 := Aside0.mk A100
    clear A100
    by_cases c11 : t332.size + a1.size ≤ 9223372036854775807
    ·
     rw [if_pos c11] at H
     have c11b0 := eq_true c11
     have c11b1 : decide (t332.size + a1.size ≤ 9223372036854775807) = true := decide_eq_true c11
     try have c11b2 : (9223372036854775807 < t332.size + a1.size) = False := eq_false (Nat.not_lt.2 c11)
     replace H := Option.bind_eq_some_iff.mp H
     obtain ⟨t333, A120, H⟩ := H
     replace H : (if t331.size + t333.size ≤ 9223372036854775807 then ((impl_DigestOf.f kj2 (t331 ++ t333)).bind fun t334 => (some t334)) else (none)) = some r := H
     have A12 := Aside0.mk A120
     clear A120
     by_cases c13 : t331.size + t333.size ≤ 9223372036854775807
     ·
      rw [if_pos c13] at H
      have c13b0 := eq_true c13
      have c13b1 : decide (t331.size + t333.size ≤ 9223372036854775807) = true := decide_eq_true c13
      try have c13b2 : (9223372036854775807 < t331.size + t333.size) = False := eq_false (Nat.not_lt.2 c13)
      replace H := Option.bind_eq_some_iff.mp H
      obtain ⟨t334, A140, H⟩ := H
      replace H : (some t334) = some r := H
      have A14 := Aside0.mk A140
      clear A140
      obtain rfl := Option.some.inj H
      have q_ := Aside0.mk (show strings_Repeat.f (⟨#[0]⟩ : ByteArray) (64 - (x0_2.size : Int)) = some t330 from by have h_ := A7.out; rwa [show wrap64 (64 - (x0_2.size : Int)) = (64 - (x0_2.size : Int)) from by unfold wrap64; omega] at h_)
      clear A7; have A7 := q_; clear q_
      go_wp2_with (first | ((with_reducible refine gate_callee (f := 50) rfl ?_); refine goesL_ (some 14) rfl rfl Try.func50 (by kernel_rfl) rfl #[.string (⟨#[0]⟩ : ByteArray), .int .i64 (64 - (x0_2.size : Int))] rfl (by (try simp only [List.map_toArray, List.map_cons, List.map_nil]); first | done | rfl | (simp only [List.length_drop, List.length_take]; rfl)) ?_; (with_reducible refine (strings_Repeat.calls (⟨#[0]⟩ : ByteArray) (64 - (x0_2.size : Int)) t330 _ A7.out).mono ?_); rintro e w15 ⟨rfl, hb⟩; refine ⟨_, rfl, ?_⟩; have n0_ := Aside0.mk (below_step (by repeat (first | (with_reducible first | exact HB.out | apply below_alloc | apply pw_below_drewN | apply below_drew1) | exact HB.out)) hb); clear HB; have HB := n0_; clear n0_; (try clear hb); (try clear hb2); (try clear hk); (try clear hi)) | ((with_reducible refine gate_callee (f := 51) rfl ?_); refine goesL_ (some 17) rfl rfl Try.func51 (by kernel_rfl) rfl #[.string (x0_2 ++ t330), .int .u8 92] rfl (by (try simp only [List.map_toArray, List.map_cons, List.map_nil]); first | done | rfl | (simp only [List.length_drop, List.length_take]; rfl)) ?_; (with_reducible refine (impl_masked.calls (x0_2 ++ t330) 92 t331 _ A9.out).mono ?_); rintro e w16 ⟨rfl, hb⟩; refine ⟨_, rfl, ?_⟩; have n0_ := Aside0.mk (below_step (by repeat (first | (with_reducible first | exact HB.out | apply below_alloc | apply pw_below_drewN | apply below_drew1) | exact HB.out)) hb); clear HB; have HB := n0_; clear n0_; (try clear hb); (try clear hb2); (try clear hk); (try clear hi)) | ((with_reducible refine gate_callee (f := 51) rfl ?_); refine goesL_ (some 19) rfl rfl Try.func51 (by kernel_rfl) rfl #[.string (x0_2 ++ t330), .int .u8 54] rfl (by (try simp only [List.map_toArray, List.map_cons, List.map_nil]); first | done | rfl | (simp only [List.length_drop, List.length_take]; rfl)) ?_; (with_reducible refine (impl_masked.calls (x0_2 ++ t330) 54 t332 _ A10.out).mono ?_); rintro e w17 ⟨rfl, hb⟩; refine ⟨_, rfl, ?_⟩; have n0_ := Aside0.mk (below_step (by repeat (first | (with_reducible first | exact HB.out | apply below_alloc | apply pw_below_drewN | apply below_drew1) | exact HB.out)) hb); clear HB; have HB := n0_; clear n0_; (try clear hb); (try clear hb2); (try clear hk); (try clear hi)) | ((with_reducible refine gate_callee (f := 49) rfl ?_); refine goesL_ (some 22) rfl rfl Try.func49 (by kernel_rfl) rfl #[.string (t332 ++ a1)] rfl (by (try simp only [List.map_toArray, List.map_cons, List.map_nil]); first | done | rfl | (simp only [List.length_drop, List.length_take]; rfl)) ?_; (with_reducible refine (impl_DigestOf.calls kj2 (t332 ++ a1) t333 _ A12.out).mono ?_); rintro e w18 ⟨rfl, hb⟩; refine ⟨_, rfl, ?_⟩; have n0_ := Aside0.mk (below_step (by repeat (first | (with_reducible first | exact HB.out | apply below_alloc | apply pw_below_drewN | apply below_drew1) | exact HB.out)) hb); clear HB; have HB := n0_; clear n0_; (try clear hb); (try clear hb2); (try clear hk); (try clear hi)) | ((with_reducible refine gate_callee (f := 49) rfl ?_); refine goesL_ (some 24) rfl rfl Try.func49 (by kernel_rfl) rfl #[.string (t331 ++ t333)] rfl (by (try simp only [List.map_toArray, List.map_cons, List.map_nil]); first | done | rfl | (simp only [List.length_drop, List.length_take]; rfl)) ?_; (with_reducible refine (impl_DigestOf.calls kj2 (t331 ++ t333) t334 _ A14.out).mono ?_); rintro e w19 ⟨rfl, hb⟩; refine ⟨_, rfl, ?_⟩; have n0_ := Aside0.mk (below_step (by repeat (first | (with_reducible first | exact HB.out | apply below_alloc | apply pw_below_drewN | apply below_drew1) | exact HB.out)) hb); clear HB; have HB := n0_; clear n0_; (try clear hb); (try clear hb2); (try clear hk); (try clear hi)))
      go_ret
      exact ⟨by first | rfl | (simp [errW_none, errW_some] <;> rfl) | (simp [*, errW_none, errW_some] <;> rfl), by repeat (first | (with_reducible first | exact HB.out | apply below_alloc | apply pw_below_drewN | apply below_drew1) | exact HB.out)⟩
     ·
      rw [if_neg c13] at H
      exact absurd H (by simp)
    ·
     rw [if_neg c11] at H
     exact absurd H (by simp)
   ·
    rw [if_neg c8] at H
    exact absurd H (by simp)
def impl_byteText.f (a0 : Int) : Option (ByteArray) := some (strOfNums (([(a0) % 256] : List Int)))
set_option maxHeartbeats 8000000 in
set_option maxRecDepth 100000 in
theorem impl_byteText.calls (a0 : Int) (r : ByteArray) (w : World) (h : impl_byteText.f a0 = some r) :
  Calls Try.prog 38 #[.int .i64 a0] w fun e w' => e = .returned (.string r) ∧ Below w.heap.size w w' := by
 have HB := Aside0.mk (Below.refl w.heap.size w)
 have H : (some (strOfNums (([(a0) % 256] : List Int)))) = some r := h
 clear h
 obtain ⟨y335, hy335⟩ : ∃ y_ : List Int, y_ = (([(a0) % 256] : List Int)) := ⟨_, rfl⟩
 replace H : (some (strOfNums y335)) = some r := by first | (rw [hy335]; with_reducible exact H) | (have H2_ := (Option.bind_some _ _).symm.trans H; rw [hy335]; with_reducible exact H2_) | (have H2_ := (Option.bind_some _ _).symm.trans H; with_reducible exact H2_) | with_reducible exact H | (rw [hy335]; exact H) | exact H
 have Ny335 := Aside0.mk hy335
 clear hy335
 obtain rfl := Option.some.inj H
 go_enter Try.func38, Try.ntmps38
 go_wp2_with (first | ((with_reducible refine gate_dst (N := 5) rfl ?_); refine Kd.R_lit (Kd.int .u8) _ 5 ?hg (N := 5) ?hd (xs := ([(a0) % 256] : List Int)) (inner := [.int .u8 ((a0) % 256)]) (ok := fun _ => True) (okp := fun _ => True) ?hr ?hp (fun _ hk => hk) trivial (Below.refl _ _) (Nat.le_refl _) (by simp) ?_; (case hd => rfl); (case hg => rfl); (case hr => first | (go_simp; done) | (go_simp; rfl)); (case hp => exact (Reps.one (show Kd.M (Kd.int .u8) _ _ _ ((a0) % 256) [.int .u8 ((a0) % 256)] from rfl) (Reps.none _ _))); intro v336 w2 ho3 hb hg_ hnew_; clear hg_ hnew_; (first | rw [← Ny335.out] at ho3 | (simp only [Int.reduceToNat] at ho3; rw [← Ny335.out] at ho3)); have n0_ := Aside0.mk (Kd.R_lower ho3 (below_size (by repeat (first | (with_reducible first | exact HB.out | apply below_alloc | apply pw_below_drewN | apply below_drew1) | exact HB.out)))); have n1_ := Aside0.mk (below_step (by repeat (first | (with_reducible first | exact HB.out | apply below_alloc | apply pw_below_drewN | apply below_drew1) | exact HB.out)) hb); clear HB; have HO337 := n0_; have HB := n1_; clear n0_ n1_; clear hb ho3; have hcv4 := own_string (P := Try.prog) Try.underlying25 Try.underlying5 Try.underlying9 (Kd.own_of_R HO337.out)))
 go_ret
 exact ⟨by first | rfl | (simp [errW_none, errW_some] <;> rfl) | (simp [*, errW_none, errW_some] <;> rfl), by repeat (first | (with_reducible first | exact HB.out | apply below_alloc | apply pw_below_drewN | apply below_drew1) | exact HB.out)⟩
mutual
def impl_Mask.j0 : Nat → ByteArray → Int → ByteArray → Bool → Option (ByteArray × Bool)
 | 0, _, _, _, _ => none
 | k + 1, x0, x2, x8, x23 => if x23 = true then (some ((⟨#[]⟩ : ByteArray), false)) else (impl_Mask.l0 k x0 x2 x8 (([] : List Int)) 0)
def impl_Mask.l0 : Nat → ByteArray → Int → ByteArray → List Int → Int → Option (ByteArray × Bool)
 | 0, _, _, _, _, _ => none
 | k + 1, x0, x2, x8, x10, x11 => if (x10.length : Int) < x2 then (if 1 + x8.size ≤ 9223372036854775807 then ((impl_byteText.f x11).bind fun t344 => (if ((⟨#[109]⟩ : ByteArray) ++ x8).size + t344.size ≤ 9223372036854775807 then ((impl_MacOf.f k x0 (((⟨#[109]⟩ : ByteArray) ++ x8) ++ t344)).bind fun t345 => (if x10.length + t345.size < 140737488355328 then (impl_Mask.l0 k x0 x2 x8 (x10 ++ bytesOf t345) (wrap64 (x11 + 1))) else (none))) else (none))) else (none)) else (if 0 ≤ x2 then (if x2 ≤ (x10.length : Int) then (some (strOfNums (x10.take (x2 : Int).toNat), true)) else (none)) else (none))
end
def impl_Mask.f (k : Nat) (a0 : ByteArray) (a1 : Int) (a2 : Int) : Option (ByteArray × Bool) := (impl_VarText.f k a1).bind fun bt338 => (if bt338.2 = true then ((impl_within.f a2 0 8000).bind fun t340 => (impl_Mask.j0 k a0 a2 bt338.1 (!t340))) else (impl_Mask.j0 k a0 a2 bt338.1 true))
theorem impl_Mask.mono_l : ∀ k, (∀ y0 y1 y2 y3, LeO (impl_Mask.j0 k y0 y1 y2 y3) (impl_Mask.j0 (k + 1) y0 y1 y2 y3)) ∧ (∀ y0 y1 y2 y3 y4, LeO (impl_Mask.l0 k y0 y1 y2 y3 y4) (impl_Mask.l0 (k + 1) y0 y1 y2 y3 y4))
 | 0 => ⟨fun _ _ _ _ r h => by simp [impl_Mask.j0] at h, fun _ _ _ _ _ r h => by simp [impl_Mask.l0] at h⟩
 | k + 1 => by
  obtain ⟨ih0, ih1⟩ := impl_Mask.mono_l k
  refine ⟨?_, ?_⟩
  ·
   intro y0 y1 y2 y3
   unfold impl_Mask.j0
   repeat' first
   | (with_reducible exact ih0 _ _ _ _)
   | (with_reducible exact ih1 _ _ _ _ _)
   | (with_reducible exact impl_MacOf.mono _ _ _)
   | (with_reducible exact impl_VarText.mono _ _)
   | (with_reducible exact LeO.refl _)
   | (with_reducible exact LeO.none _)
   | (with_reducible refine LeO.ite ?_ ?_)
   | (with_reducible refine LeO.bind ?_ (fun _ => ?_))
   | exact ih0 _ _ _ _
   | exact ih1 _ _ _ _ _
   | exact impl_MacOf.mono _ _ _
   | exact impl_VarText.mono _ _
   | exact LeO.none _
   | refine LeO.ite ?_ ?_
   | refine LeO.bind ?_ (fun _ => ?_)
  ·
   intro y0 y1 y2 y3 y4
   unfold impl_Mask.l0
   repeat' first
   | (with_reducible exact ih0 _ _ _ _)
   | (with_reducible exact ih1 _ _ _ _ _)
   | (with_reducible exact impl_MacOf.mono _ _ _)
   | (with_reducible exact impl_VarText.mono _ _)
   | (with_reducible exact LeO.refl _)
   | (with_reducible exact LeO.none _)
   | (with_reducible refine LeO.ite ?_ ?_)
   | (with_reducible refine LeO.bind ?_ (fun _ => ?_))
   | exact ih0 _ _ _ _
   | exact ih1 _ _ _ _ _
   | exact impl_MacOf.mono _ _ _
   | exact impl_VarText.mono _ _
   | exact LeO.none _
   | refine LeO.ite ?_ ?_
   | refine LeO.bind ?_ (fun _ => ?_)
theorem impl_Mask.mono : ∀ a0 a1 a2 k, LeO (impl_Mask.f k a0 a1 a2) (impl_Mask.f (k + 1) a0 a1 a2) := by
 intro a0 a1 a2 k
 obtain ⟨ih0, ih1⟩ := impl_Mask.mono_l k
 unfold impl_Mask.f
 repeat' first
   | (with_reducible exact ih0 _ _ _ _)
   | (with_reducible exact ih1 _ _ _ _ _)
   | (with_reducible exact impl_MacOf.mono _ _ _)
   | (with_reducible exact impl_VarText.mono _ _)
   | (with_reducible exact LeO.refl _)
   | (with_reducible exact LeO.none _)
   | (with_reducible refine LeO.ite ?_ ?_)
   | (with_reducible refine LeO.bind ?_ (fun _ => ?_))
   | exact ih0 _ _ _ _
   | exact ih1 _ _ _ _ _
   | exact impl_MacOf.mono _ _ _
   | exact impl_VarText.mono _ _
   | exact LeO.none _
   | refine LeO.ite ?_ ?_
   | refine LeO.bind ?_ (fun _ => ?_)
set_option maxHeartbeats 8000000 in
set_option maxRecDepth 100000 in
theorem impl_Mask.calls (k : Nat) (a0 : ByteArray) (a1 : Int) (a2 : Int) (r1 : ByteArray) (r2 : Bool) (w : World) (h : impl_Mask.f k a0 a1 a2 = some (r1, r2)) :
  Calls Try.prog 14 #[.string a0, .int .i64 a1, .int .i64 a2] w fun e w' => e = .returned (.tuple #[.string r1, .bool r2]) ∧ Below w.heap.size w w' := by
 have HB := Aside0.mk (Below.refl w.heap.size w)
 have H : ((impl_VarText.f k a1).bind fun bt338 => (if bt338.2 = true then ((impl_within.f a2 0 8000).bind fun t340 => (impl_Mask.j0 k a0 a2 bt338.1 (!t340))) else (impl_Mask.j0 k a0 a2 bt338.1 true))) = some (r1, r2) := h
 clear h
 replace H := Option.bind_eq_some_iff.mp H
 obtain ⟨⟨t338, t339⟩, A40, H⟩ := H
 replace H : (if t339 = true then ((impl_within.f a2 0 8000).bind fun t340 => (impl_Mask.j0 k a0 a2 t338 (!t340))) else (impl_Mask.j0 k a0 a2 t338 true)) = some (r1, r2) := H
 have A4 := Aside0.mk A40
 clear A40
 have HC5 := Aside0.mk H
 clear H
 go_enter Try.func14, Try.ntmps14
 go_upto_region 2 with (first | ((with_reducible refine gate_callee (f := 35) rfl ?_); refine goesL_ (some 14) rfl rfl Try.func35 (by kernel_rfl) rfl #[.int .i64 a1] rfl (by (try simp only [List.map_toArray, List.map_cons, List.map_nil]); first | done | rfl | (simp only [List.length_drop, List.length_take]; rfl)) ?_; (with_reducible refine (impl_VarText.calls k a1 t338 t339 _ A4.out).mono ?_); rintro e w6 ⟨rfl, hb⟩; refine ⟨_, rfl, ?_⟩; have n0_ := Aside0.mk (below_step (by repeat (first | (with_reducible first | exact HB.out | apply below_alloc | apply pw_below_drewN | apply below_drew1) | exact HB.out)) hb); clear HB; have HB := n0_; clear n0_; (try clear hb); (try clear hb2); (try clear hk); (try clear hi)))
 (try simp only [Act.put, List.setIfInBounds_toArray, List.set_cons_zero, List.set_cons_succ])
 go_cut [23] (fun v23 wc => ∃ (kq : Nat) (x23_4 : Bool), v23 = .bool x23_4 ∧ Aside0 (impl_Mask.j0 kq a0 a2 t338 x23_4 = some (r1, r2)) ∧ Aside0 (kq ≤ k) ∧ Aside0 (Below w.heap.size w wc))
 case first =>
  have H := HC5.out
  clear HC5
  by_cases c7 : t339 = true
  ·
   subst c7
   have H1 : ((impl_within.f a2 0 8000).bind fun t340 => (impl_Mask.j0 k a0 a2 t338 (!t340))) = some (r1, r2) := by rw [if_pos rfl] at H; exact H
   clear H
   have H := H1
   clear H1
   replace H := Option.bind_eq_some_iff.mp H
   obtain ⟨t340, A80, H⟩ := H
   replace H : (impl_Mask.j0 k a0 a2 t338 (!t340)) = some (r1, r2) := H
   have A8 := Aside0.mk A80
   clear A80
   have H' := Aside0.mk H
   clear H
   go_wp2_with (first | (go_at_call 36; (with_reducible refine (impl_within.calls a2 0 8000 t340 _ A8.out).mono ?_); rintro e w' ⟨rfl, ⟨nd, rfl⟩⟩))
   go_meet
   case rel => exact ⟨_, (!t340), (by first | rfl | (simp; done) | (simp [*]; done)), H', ⟨by first | omega | exact Nat.le_refl _⟩, ⟨by repeat (first | (with_reducible first | exact HB.out | apply below_alloc | apply pw_below_drewN | apply below_drew1) | exact HB.out)⟩⟩
  ·
   replace c7 := Bool.eq_false_iff.mpr c7
   subst c7
   have H1 : (impl_Mask.j0 k a0 a2 t338 true) = some (r1, r2) := by rw [if_neg (show ¬ (false = true) by decide)] at H; exact H
   clear H
   have H := H1
   clear H1
   have H' := Aside0.mk H
   clear H
   go_wp2
   go_meet
   case rel => exact ⟨_, (true), (by first | rfl | (simp; done) | (simp [*]; done)), H', ⟨by first | omega | exact Nat.le_refl _⟩, ⟨by repeat (first | (with_reducible first | exact HB.out | apply below_alloc | apply pw_below_drewN | apply below_drew1) | exact HB.out)⟩⟩
 case rest =>
  clear HC5
  try clear c1; try clear p2; try clear c3; try clear c7
  obtain ⟨kq, x23_4, rfl, HA, HJ4, HB⟩ := hcut
  cases kq with
  | zero => exact absurd HA.out (by simp [impl_Mask.j0])
  | succ kj4 =>
   have H := HA.out
   clear HA
   simp only [impl_Mask.j0] at H
   by_cases c9 : x23_4 = true
   ·
    subst c9
    have H1 : (some ((⟨#[]⟩ : ByteArray), false)) = some (r1, r2) := by rw [if_pos rfl] at H; exact H
    clear H
    have H := H1
    clear H1
    simp only [Option.some.injEq, Prod.mk.injEq] at H
    obtain ⟨rfl, rfl⟩ := H
    go_wp2
    go_ret2
    exact ⟨by first | rfl | (simp [errW_none, errW_some] <;> rfl) | (simp [*, errW_none, errW_some] <;> rfl), by repeat (first | (with_reducible first | exact HB.out | apply below_alloc | apply pw_below_drewN | apply below_drew1) | exact HB.out)⟩
   ·
    replace c9 := Bool.eq_false_iff.mpr c9
    subst c9
    have H1 : (impl_Mask.l0 kj4 a0 a2 t338 (([] : List Int)) 0) = some (r1, r2) := by rw [if_neg (show ¬ (false = true) by decide)] at H; exact H
    clear H
    have H := H1
    clear H1
    obtain ⟨y341, hy341⟩ : ∃ y_ : List Int, y_ = (([] : List Int)) := ⟨_, rfl⟩
    replace H : (impl_Mask.l0 kj4 a0 a2 t338 y341 0) = some (r1, r2) := by first | (rw [hy341]; with_reducible exact H) | (have H2_ := (Option.bind_some _ _).symm.trans H; rw [hy341]; with_reducible exact H2_) | (have H2_ := (Option.bind_some _ _).symm.trans H; with_reducible exact H2_) | with_reducible exact H | (rw [hy341]; exact H) | exact H
    have Ny341 := Aside0.mk hy341
    clear hy341
    have H' := Aside0.mk H
    clear H
    go_wp2_with (first | ((with_reducible refine gate_dst (N := 24) rfl ?_); refine Kd.R_lit (Kd.int .u8) _ 5 ?hg (N := 24) ?hd (xs := ([] : List Int)) (inner := []) (ok := fun _ => True) (okp := fun _ => True) ?hr ?hp (fun _ hk => hk) trivial (Below.refl _ _) (Nat.le_refl _) (by simp) ?_; (case hd => rfl); (case hg => rfl); (case hr => first | (go_simp; done) | (go_simp; rfl)); (case hp => exact (Reps.none _ _)); intro v342 w10 ho11 hb hg_ hnew_; clear hg_ hnew_; (first | rw [← Ny341.out] at ho11 | (simp only [Int.reduceToNat] at ho11; rw [← Ny341.out] at ho11)); have n0_ := Aside0.mk (Kd.R_lower ho11 (below_size (by repeat (first | (with_reducible first | exact HB.out | apply below_alloc | apply pw_below_drewN | apply below_drew1) | exact HB.out)))); have n1_ := Aside0.mk (below_step (by repeat (first | (with_reducible first | exact HB.out | apply below_alloc | apply pw_below_drewN | apply below_drew1) | exact HB.out)) hb); clear HB; have HO343 := n0_; have HB := n1_; clear n0_ n1_; clear hb ho11))
    go_loopg [10, 11] kj4 (fun kq v10 v11 w' => ∃ (x10_2 : List Int) (x11_2 : Int), v11 = .int .i64 x11_2 ∧ Aside0 (impl_Mask.l0 kq a0 a2 t338 x10_2 x11_2 = some (r1, r2)) ∧ Aside0 (kq ≤ kj4) ∧ Aside0 (Kd.R (Kd.int .u8) 5 w' w.heap.size (fun _ => True) v10 x10_2) ∧ Aside0 (Below w.heap.size w w'))
    case atStart => exact ⟨(y341), (0), (by first | rfl | (simp; done) | (simp [*]; done)), H', ⟨Nat.le_refl _⟩, ⟨by (with_reducible repeat (first | apply Kd.R_alloc | apply Kd.R_drewN | apply Kd.R_drew)); exact HO343.out⟩, ⟨by repeat (first | (with_reducible first | exact HB.out | apply below_alloc | apply pw_below_drewN | apply below_drew1) | exact HB.out)⟩⟩
    case round =>
     clear H'
     try clear c1; try clear p2; try clear c3; try clear c7; try clear c9; try clear p2
     obtain ⟨x10_2, x11_2, rfl, HA, HK2, HO_10, HB⟩ := hrel
     cases gk with
     | zero => exact absurd HA.out (by simp [impl_Mask.l0])
     | succ k2 =>
      have H := HA.out
      clear HA
      simp only [impl_Mask.l0] at H
      by_cases c12 : (x10_2.length : Int) < a2
      ·
       rw [if_pos c12] at H
       have c12b0 : decide ((x10_2.length : Int) < a2) = true := decide_eq_true c12
       clear c12
       by_cases c13 : 1 + t338.size ≤ 9223372036854775807
       ·
        rw [if_pos c13] at H
        have c13b0 := eq_true c13
        have c13b1 : decide (1 + t338.size ≤ 9223372036854775807) = true := decide_eq_true c13
        try have c13b2 : (9223372036854775807 < 1 + t338.size) = False := eq_false (Nat.not_lt.2 c13)
        replace H := Option.bind_eq_some_iff.mp H
        obtain ⟨t344, A140, H⟩ := H
        replace H : (if ((⟨#[109]⟩ : ByteArray) ++ t338).size + t344.size ≤ 9223372036854775807 then ((impl_MacOf.f k2 a0 (((⟨#[109]⟩ : ByteArray) ++ t338) ++ t344)).bind fun t345 => (if x10_2.length + t345.size < 140737488355328 then (impl_Mask.l0 k2 a0 a2 t338 (x10_2 ++ bytesOf t345) (wrap64 (x11_2 + 1))) else (none))) else (none)) = some (r1, r2) := H
        have A14 := Aside0.mk A140
        clear A140
        by_cases c15 : ((⟨#[109]⟩ : ByteArray) ++ t338).size + t344.size ≤ 9223372036854775807
        ·
         rw [if_pos c15] at H
         have c15b0 := eq_true c15
         have c15b1 : decide (((⟨#[109]⟩ : ByteArray) ++ t338).size + t344.size ≤ 9223372036854775807) = true := decide_eq_true c15
         try (have c15b9 := c15; simp only [ByteArray.size_append, (show (⟨#[109]⟩ : ByteArray).size = 1 from rfl)] at c15b9; have c15b8 := eq_false (Nat.not_lt.2 c15b9))
         try have c15b2 : (9223372036854775807 < ((⟨#[109]⟩ : ByteArray) ++ t338).size + t344.size) = False := eq_false (Nat.not_lt.2 c15)
         replace H := Option.bind_eq_some_iff.mp H
         obtain ⟨t345, A160, H⟩ := H
         replace H : (if x10_2.length + t345.size < 140737488355328 then (impl_Mask.l0 k2 a0 a2 t338 (x10_2 ++ bytesOf t345) (wrap64 (x11_2 + 1))) else (none)) = some (r1, r2) := H
         have A16 := Aside0.mk A160
         clear A160
         by_cases c17 : x10_2.length + t345.size < 140737488355328
         ·
          rw [if_pos c17] at H
          have LMc17 := Aside0.mk c17
          clear c17
          obtain ⟨y346, hy346⟩ : ∃ y_ : List Int, y_ = (x10_2 ++ bytesOf t345) := ⟨_, rfl⟩
          replace H : (impl_Mask.l0 k2 a0 a2 t338 y346 (wrap64 (x11_2 + 1))) = some (r1, r2) := by first | (rw [hy346]; with_reducible exact H) | (have H2_ := (Option.bind_some _ _).symm.trans H; rw [hy346]; with_reducible exact H2_) | (have H2_ := (Option.bind_some _ _).symm.trans H; with_reducible exact H2_) | with_reducible exact H | (rw [hy346]; exact H) | exact H
          have Ny346 := Aside0.mk hy346
          clear hy346
          have H' := Aside0.mk H
          clear H
          obtain ⟨Ao18, co18, eo18⟩ := Kd.R_slice HO_10.out
          subst eo18
          go_wp2_with (first | ((with_reducible refine gate_callee (f := 38) rfl ?_); refine goesL_ (some 36) rfl rfl Try.func38 (by kernel_rfl) rfl #[.int .i64 x11_2] rfl (by (try simp only [List.map_toArray, List.map_cons, List.map_nil]); first | done | rfl | (simp only [List.length_drop, List.length_take]; rfl)) ?_; (with_reducible refine (impl_byteText.calls x11_2 t344 _ A14.out).mono ?_); rintro e w19 ⟨rfl, hb⟩; refine ⟨_, rfl, ?_⟩; have n0_ := Aside0.mk (Kd.R_below (by (with_reducible repeat (first | apply Kd.R_alloc | apply Kd.R_drewN | apply Kd.R_drew)); exact HO_10.out) hb); have n1_ := Aside0.mk (below_step (by repeat (first | (with_reducible first | exact HB.out | apply below_alloc | apply pw_below_drewN | apply below_drew1) | exact HB.out)) hb); clear HO_10; clear HB; have HO_10 := n0_; have HB := n1_; clear n0_ n1_; (try clear hb); (try clear hb2); (try clear hk); (try clear hi)) | ((with_reducible refine gate_callee (f := 37) rfl ?_); refine goesL_ (some 38) rfl rfl Try.func37 (by kernel_rfl) rfl #[.string a0, .string (((⟨#[109]⟩ : ByteArray) ++ t338) ++ t344)] rfl (by (try simp only [List.map_toArray, List.map_cons, List.map_nil]); first | done | rfl | (simp only [List.length_drop, List.length_take]; rfl)) ?_; (with_reducible refine (impl_MacOf.calls k2 a0 (((⟨#[109]⟩ : ByteArray) ++ t338) ++ t344) t345 _ A16.out).mono ?_); rintro e w20 ⟨rfl, hb⟩; refine ⟨_, rfl, ?_⟩; have n0_ := Aside0.mk (Kd.R_below (by (with_reducible repeat (first | apply Kd.R_alloc | apply Kd.R_drewN | apply Kd.R_drew)); exact HO_10.out) hb); have n1_ := Aside0.mk (below_step (by repeat (first | (with_reducible first | exact HB.out | apply below_alloc | apply pw_below_drewN | apply below_drew1) | exact HB.out)) hb); clear HO_10; clear HB; have HO_10 := n0_; have HB := n1_; clear n0_ n1_; (try clear hb); (try clear hb2); (try clear hk); (try clear hi)) | (at_builtin; refine print_append_str (w0 := w) w.heap.size rfl (.tmp 31) _ 25 9 5 rfl Try.underlying25 Try.underlying9 info5 (.slice Ao18 x10_2.length co18) x10_2 t345 rfl rfl ?aO ?aB ?aS ?aL ?_; (case aB => exact (by repeat (first | (with_reducible first | exact HB.out | apply below_alloc | apply pw_below_drewN | apply below_drew1) | exact HB.out))); (case aO => exact (Kd.own_of_R (by (with_reducible repeat (first | apply Kd.R_alloc | apply Kd.R_drewN | apply Kd.R_drew)); exact HO_10.out))); (case aS => exact (below_size (by repeat (first | (with_reducible first | exact HB.out | apply below_alloc | apply pw_below_drewN | apply below_drew1) | exact HB.out)))); (case aL => have := LMc17.out; omega); intro v347 w21 ho0 hb hg; have ho := Kd.R_of_own (h1 := fun _ => rfl) (ok := fun _ => True) ho0 (fun _ _ => trivial); clear ho0; have hat := True.intro; rw [← Ny346.out] at ho; change Kd.R (Kd.int .u8) 5 w21 w.heap.size (fun _ => True) v347 y346 at ho; have n0_ := Aside0.mk (hb); have n1_ := Aside0.mk (ho); clear HB; clear HO_10; have HB := n0_; have HO348 := n1_; clear n0_ n1_; clear ho hb hg hat))
          go_roundg k2
          case measure => have := HJ4.out; have := HK2.out; omega
          case rel => exact ⟨(y346), (wrap64 (x11_2 + 1)), (by first | rfl | (simp; done) | (simp [*]; done)), H', ⟨by have := HJ4.out; have := HK2.out; omega⟩, ⟨by (with_reducible repeat (first | apply Kd.R_alloc | apply Kd.R_drewN | apply Kd.R_drew)); exact HO348.out⟩, ⟨by repeat (first | (with_reducible first | exact HB.out | apply below_alloc | apply pw_below_drewN | apply below_drew1) | exact HB.out)⟩⟩
         ·
          rw [if_neg c17] at H
          exact absurd H (by simp)
        ·
         rw [if_neg c15] at H
         exact absurd H (by simp)
       ·
        rw [if_neg c13] at H
        exact absurd H (by simp)
      ·
       rw [if_neg c12] at H
       have c12b0 : decide ((x10_2.length : Int) < a2) = false := decide_eq_false c12
       clear c12
       by_cases c22 : 0 ≤ a2
       ·
        rw [if_pos c22] at H
        have c22b0 := eq_true c22
        have c22b1 : decide (0 ≤ a2) = true := decide_eq_true c22
        clear c22
        by_cases c23 : a2 ≤ (x10_2.length : Int)
        ·
         rw [if_pos c23] at H
         have c23b0 := eq_true c23
         have c23b1 : decide (a2 ≤ (x10_2.length : Int)) = true := decide_eq_true c23
         clear c23
         obtain ⟨y349, hy349⟩ : ∃ y_ : List Int, y_ = (x10_2.take (a2 : Int).toNat) := ⟨_, rfl⟩
         replace H : (some (strOfNums y349, true)) = some (r1, r2) := by first | (rw [hy349]; with_reducible exact H) | (have H2_ := (Option.bind_some _ _).symm.trans H; rw [hy349]; with_reducible exact H2_) | (have H2_ := (Option.bind_some _ _).symm.trans H; with_reducible exact H2_) | with_reducible exact H | (rw [hy349]; exact H) | exact H
         have Ny349 := Aside0.mk hy349
         clear hy349
         simp only [Option.some.injEq, Prod.mk.injEq] at H
         obtain ⟨rfl, rfl⟩ := H
         obtain ⟨Ao24, co24, eo24⟩ := Kd.R_slice HO_10.out
         subst eo24
         have q25 : (a2 : Int) ≤ ((x10_2.length : Int) : Int) := of_decide_eq_true (by first | (with_reducible assumption) | assumption)
         obtain ⟨i025, hi025, _, hsz25, _⟩ := info_parts info5
         have hroom25 : x10_2.length ≤ co24 := (Kd.R_reads' HO_10.out).2.1
         have hC25 : Kd.C (Kd.int .u8) _ Ao24 x10_2.length x10_2 := (Kd.R_reads' HO_10.out).2.2
         have hcut25 := cut_to (P := Try.prog) 25 5 .i64 Try.underlying25 hi025 Ao24 x10_2.length co24 a2 (of_decide_eq_true (by first | (with_reducible assumption) | assumption)) q25 hroom25
         have hr25 := Kd.C_take (m := (a2 : Int).toNat) hC25 (by omega)
         have hy25 : y349.length = (a2 : Int).toNat := (by rw [Ny349.out, List.length_take]; omega)
         rw [← Ny349.out] at hr25
         rw [← hy25] at hcut25
         have HR352 := Aside0.mk hr25
         have HC352 := Aside0.mk (show y349.length ≤ co24 from by omega)
         clear hr25 hC25 hroom25 hi025 hsz25
         have KY25 := Aside0.mk hy25
         clear hy25
         have KL25 := Aside0.mk (show (a2 : Int).toNat ≤ x10_2.length from by omega)
         replace q25 := eq_true q25
         have hcv26 := Kd.C_string (P := Try.prog) (A := Ao24) (c := co24) Try.underlying25 Try.underlying5 Try.underlying9 (by repeat (first | (with_reducible exact HR352.out) | (with_reducible refine Kd.C_alloc ?_ _) | (with_reducible refine Kd.C_drewN ?_ _) | (with_reducible refine Kd.C_drew ?_) | exact HR352.out))
         go_wp2
         go_ret2
         exact ⟨by first | rfl | (simp [errW_none, errW_some] <;> rfl) | (simp [*, errW_none, errW_some] <;> rfl), by repeat (first | (with_reducible first | exact HB.out | apply below_alloc | apply pw_below_drewN | apply below_drew1) | exact HB.out)⟩
        ·
         rw [if_neg c23] at H
         exact absurd H (by simp)
       ·
        rw [if_neg c22] at H
        exact absurd H (by simp)
def impl_hidden.f (k : Nat) (a0 : ByteArray) (a1 : Int) (a2 : ByteArray) : Option (ByteArray × Bool) := (impl_Mask.f k a0 a1 (a2.size : Int)).bind fun m => if m.2 = true then (if a2.size ≤ 140737488351232 ∧ a2.size ≤ m.1.size then some (strOfNums (List.zipWith (fun b c => Go.bits .xor .u8 b c) (bytesOf a2) (bytesOf m.1)), true) else none) else some (⟨#[]⟩, false)
theorem impl_hidden.mono : ∀ a0 a1 a2 k, LeO (impl_hidden.f k a0 a1 a2) (impl_hidden.f (k + 1) a0 a1 a2) := by
 intro a0 a1 a2 k
 unfold impl_hidden.f
 exact LeO.bind (impl_Mask.mono _ _ _ _) (fun m => LeO.refl _)
set_option maxHeartbeats 8000000 in
set_option maxRecDepth 100000 in
theorem impl_hidden.calls (k : Nat) (a0 : ByteArray) (a1 : Int) (a2 : ByteArray) (r1 : ByteArray) (r2 : Bool) (w : World) (h : impl_hidden.f k a0 a1 a2 = some (r1, r2)) :
  Calls Try.prog 25 #[.string a0, .int .i64 a1, .string a2] w fun e w' => e = .returned (.tuple #[.string r1, .bool r2]) ∧ Below w.heap.size w w' := by
 have HB := Aside0.mk (Below.refl w.heap.size w)
 unfold impl_hidden.f at h
 obtain ⟨⟨m, ok⟩, A10, h⟩ := Option.bind_eq_some_iff.mp h
 have A1 := Aside0.mk A10
 clear A10
 simp only at h
 cases ok
 ·
  simp only [Bool.false_eq_true, if_false, Option.some.injEq, Prod.mk.injEq] at h
  obtain ⟨rfl, rfl⟩ := h
  go_enter Try.func25, Try.ntmps25
  go_wp2_with (first
   | (go_at_call 14; (with_reducible refine (impl_Mask.calls k a0 a1 _ m false _ A1.out).mono ?_); rintro e w2 ⟨rfl, hb⟩; have n0_ := Aside0.mk (below_step HB.out hb); clear HB; have HB := n0_; clear n0_ hb))
  go_ret2
  exact ⟨by first | rfl | (simp; done), HB.out⟩
 rw [if_pos rfl] at h
 by_cases hs0 : a2.size ≤ 140737488351232 ∧ a2.size ≤ m.size
 case neg => rw [if_neg hs0] at h; cases h
 rw [if_pos hs0] at h
 obtain ⟨hs, hs1⟩ := hs0
 simp only [Option.some.injEq, Prod.mk.injEq] at h
 obtain ⟨hr, rfl⟩ := h
 have Hr := Aside0.mk hr.symm
 clear hr
 have hl0 := bytesOf_length a2
 have hl1 := bytesOf_length m
 obtain ⟨T, hT⟩ : ∃ T, T = List.zipWith (fun b c => Go.bits .xor .u8 b c) (bytesOf a2) (bytesOf m) := ⟨_, rfl⟩
 have hTl : T.length = (bytesOf a2).length := by rw [hT, List.length_zipWith]; omega
 have HT := Aside0.mk hT
 have HTl := Aside0.mk hTl
 have HL := Aside0.mk hl0
 have HL1 := Aside0.mk hl1
 clear hT hTl hl0 hl1
 have kb := fun W => print_bytes (P := Try.prog) 9 25 5 Try.underlying9 Try.underlying25 Try.underlying5 a2 W
 go_enter Try.func25, Try.ntmps25
 go_wp2_with (first
  | (go_at_call 14; (with_reducible refine (impl_Mask.calls k a0 a1 _ m true _ A1.out).mono ?_); rintro e w2 ⟨rfl, hb⟩; have n0_ := Aside0.mk (below_step HB.out hb); clear HB; have HB := n0_; clear n0_ hb))
 go_loopg [26] a2.size (fun kq v26 w' => ∃ i : Nat, i + kq = a2.size ∧ v26 = .int .i64 i ∧ Aside0 (MRow w' w2.heap.size 5 (grownCap w2 a2.size 0 5) (T.take i ++ (bytesOf a2).drop i)) ∧ Aside0 (Below w.heap.size w w'))
 case atStart => exact ⟨0, by omega, rfl, ⟨by simpa using MRow.conv w2 5 a2⟩, ⟨bytes_below HB.out HB.out.size 5 a2⟩⟩
 case round =>
  have HZ := Aside0.mk HB.out.size
  clear HB
  obtain ⟨i, hi, rfl, HM, HB⟩ := hrel
  clear kb
  have hTl := HTl.out
  have hl0 := HL.out
  have hl1 := HL1.out
  by_cases hlt : i < a2.size
  ·
   obtain ⟨k1, rfl⟩ : ∃ k1, gk = k1 + 1 := ⟨gk - 1, by omega⟩
   have hml := mid_len T (bytesOf a2) i (by omega) hTl
   obtain ⟨b, hb⟩ : ∃ b, b = (bytesOf a2).getD i 0 := ⟨_, rfl⟩
   have hmr := mid_rd T (bytesOf a2) i (by omega) hTl
   rw [← hb] at hmr
   obtain ⟨hc, hf⟩ := HM.out.cell (i : Int) (by omega) (by rw [hml]; omega)
   rw [hmr, Int.toNat_natCast] at hc
   rw [Int.toNat_natCast] at hf
   have hst := set_step T (bytesOf a2) i (by omega) hTl
   have hlt1 : i < m.size := by omega
   have hc1 : (bytesOf m).getD i 0 = ((m[i]'hlt1).toNat : Int) := by
    have hx := rd_bytesOf m (i : Int)
    unfold rd bt at hx
    rw [Int.toNat_natCast, dif_pos hlt1] at hx
    exact hx
   have hTi : T.getD i 0 = Go.bits .xor .u8 b ((m[i]'hlt1).toNat : Int) := by
    rw [HT.out, hb, ← hc1]
    simp [List.getD_eq_getElem?_getD, List.getElem?_zipWith, List.getElem?_eq_getElem (show i < (bytesOf a2).length by omega), List.getElem?_eq_getElem (show i < (bytesOf m).length by omega)]
   rw [hTi] at hst
   have HM2 := Aside0.mk (hst ▸ HM.out.set i (Go.bits .xor .u8 b ((m[i]'hlt1).toNat : Int)))
   have HB2 := Aside0.mk (below_set (HB.out) HZ.out : Below w.heap.size w (wr.setCell ⟨w2.heap.size, i, none⟩ (.int .u8 (Go.bits .xor .u8 b ((m[i]'hlt1).toNat : Int)))))
   clear hst hTi hmr hb hml hTl hl0 hl1 hc1 HM HB
   go_wp2
   go_region
   all_goals
    go_wp2
    go_roundg k1
    case measure => omega
    case rel => exact ⟨i + 1, by omega, by simp, ⟨HM2.out.same rfl⟩, ⟨below_drew HB2.out⟩⟩
  ·
   have hi2 : i = a2.size := by omega
   have hd : decide (i < a2.size) = false := decide_eq_false hlt
   have e1 : T.take i ++ (bytesOf a2).drop i = T := by
    rw [List.take_of_length_le (by omega), List.drop_eq_nil_of_le (by omega), List.append_nil]
   have HM2 := HM.out
   rw [e1] at HM2
   have kb2 := HM2.str (P := Try.prog) Try.underlying25 Try.underlying5 Try.underlying9 (grownCap w2 a2.size 0 5)
   have e2 : T.length = a2.size := by omega
   rw [e2] at kb2
   have Hr2 := Aside0.mk (show strOfNums T = r1 from by rw [HT.out]; exact Hr.out.symm)
   clear HM2 e1 e2 hTl hl0 hl1 HM hi hlt hi2
   go_wp2
   go_ret2
   exact ⟨by first | rfl | (simp; done) | (rw [Hr2.out]; rfl) | (simp [Hr2.out]; done), HB.out⟩
def impl_macText.f (k : Nat) (a0 : ByteArray) (a1 : Int) (a2 : ByteArray) : Option (ByteArray) := (impl_VarText.f k a1).bind fun bt353 => (if 1 + bt353.1.size ≤ 9223372036854775807 then (if ((⟨#[116]⟩ : ByteArray) ++ bt353.1).size + a2.size ≤ 9223372036854775807 then ((impl_MacOf.f k a0 (((⟨#[116]⟩ : ByteArray) ++ bt353.1) ++ a2)).bind fun t355 => (if 0 ≤ 16 then (if 16 ≤ (t355.size : Int) then (some (t355.extract 0 16)) else (none)) else (none))) else (none)) else (none))
theorem impl_macText.mono : ∀ a0 a1 a2 k, LeO (impl_macText.f k a0 a1 a2) (impl_macText.f (k + 1) a0 a1 a2) := by
 intro a0 a1 a2 k
 unfold impl_macText.f
 repeat' first
   | (with_reducible exact impl_MacOf.mono _ _ _)
   | (with_reducible exact impl_VarText.mono _ _)
   | (with_reducible exact LeO.refl _)
   | (with_reducible exact LeO.none _)
   | (with_reducible refine LeO.ite ?_ ?_)
   | (with_reducible refine LeO.bind ?_ (fun _ => ?_))
   | exact impl_MacOf.mono _ _ _
   | exact impl_VarText.mono _ _
   | exact LeO.none _
   | refine LeO.ite ?_ ?_
   | refine LeO.bind ?_ (fun _ => ?_)
set_option maxHeartbeats 8000000 in
set_option maxRecDepth 100000 in
theorem impl_macText.calls (k : Nat) (a0 : ByteArray) (a1 : Int) (a2 : ByteArray) (r : ByteArray) (w : World) (h : impl_macText.f k a0 a1 a2 = some r) :
  Calls Try.prog 26 #[.string a0, .int .i64 a1, .string a2] w fun e w' => e = .returned (.string r) ∧ Below w.heap.size w w' := by
 have HB := Aside0.mk (Below.refl w.heap.size w)
 have H : ((impl_VarText.f k a1).bind fun bt353 => (if 1 + bt353.1.size ≤ 9223372036854775807 then (if ((⟨#[116]⟩ : ByteArray) ++ bt353.1).size + a2.size ≤ 9223372036854775807 then ((impl_MacOf.f k a0 (((⟨#[116]⟩ : ByteArray) ++ bt353.1) ++ a2)).bind fun t355 => (if 0 ≤ 16 then (if 16 ≤ (t355.size : Int) then (some (t355.extract 0 16)) else (none)) else (none))) else (none)) else (none))) = some r := h
 clear h
 replace H := Option.bind_eq_some_iff.mp H
 obtain ⟨⟨t353, t354⟩, A40, H⟩ := H
 replace H : (if 1 + t353.size ≤ 9223372036854775807 then (if ((⟨#[116]⟩ : ByteArray) ++ t353).size + a2.size ≤ 9223372036854775807 then ((impl_MacOf.f k a0 (((⟨#[116]⟩ : ByteArray) ++ t353) ++ a2)).bind fun t355 => (if 0 ≤ 16 then (if 16 ≤ (t355.size : Int) then (some (t355.extract 0 16)) else (none)) else (none))) else (none)) else (none)) = some r := H
 have A4 := Aside0.mk A40
 clear A40
 by_cases c5 : 1 + t353.size ≤ 9223372036854775807
 ·
  rw [if_pos c5] at H
  have c5b0 := eq_true c5
  have c5b1 : decide (1 + t353.size ≤ 9223372036854775807) = true := decide_eq_true c5
  try have c5b2 : (9223372036854775807 < 1 + t353.size) = False := eq_false (Nat.not_lt.2 c5)
  by_cases c6 : ((⟨#[116]⟩ : ByteArray) ++ t353).size + a2.size ≤ 9223372036854775807
  ·
   rw [if_pos c6] at H
   have c6b0 := eq_true c6
   have c6b1 : decide (((⟨#[116]⟩ : ByteArray) ++ t353).size + a2.size ≤ 9223372036854775807) = true := decide_eq_true c6
   try (have c6b9 := c6; simp only [ByteArray.size_append, (show (⟨#[116]⟩ : ByteArray).size = 1 from rfl)] at c6b9; have c6b8 := eq_false (Nat.not_lt.2 c6b9))
   try have c6b2 : (9223372036854775807 < ((⟨#[116]⟩ : ByteArray) ++ t353).size + a2.size) = False := eq_false (Nat.not_lt.2 c6)
   replace H := Option.bind_eq_some_iff.mp H
   obtain ⟨t355, A70, H⟩ := H
   replace H : (if 0 ≤ 16 then (if 16 ≤ (t355.size : Int) then (some (t355.extract 0 16)) else (none)) else (none)) = some r := H
   have A7 := Aside0.mk A70
   clear A70
   by_cases c8 : 0 ≤ 16
   ·
    rw [if_pos c8] at H
    have c8b0 := eq_true c8
    have c8b1 : decide (0 ≤ 16) = true := decide_eq_true c8
    clear c8
    by_cases c9 : 16 ≤ (t355.size : Int)
    ·
     rw [if_pos c9] at H
     have c9b0 := eq_true c9
     have c9b1 : decide (16 ≤ (t355.size : Int)) = true := decide_eq_true c9
     clear c9
     obtain rfl := Option.some.inj H
     go_enter Try.func26, Try.ntmps26
     go_wp2_with (first | ((with_reducible refine gate_callee (f := 35) rfl ?_); refine goesL_ (some 11) rfl rfl Try.func35 (by kernel_rfl) rfl #[.int .i64 a1] rfl (by (try simp only [List.map_toArray, List.map_cons, List.map_nil]); first | done | rfl | (simp only [List.length_drop, List.length_take]; rfl)) ?_; (with_reducible refine (impl_VarText.calls k a1 t353 t354 _ A4.out).mono ?_); rintro e w10 ⟨rfl, hb⟩; refine ⟨_, rfl, ?_⟩; have n0_ := Aside0.mk (below_step (by repeat (first | (with_reducible first | exact HB.out | apply below_alloc | apply pw_below_drewN | apply below_drew1) | exact HB.out)) hb); clear HB; have HB := n0_; clear n0_; (try clear hb); (try clear hb2); (try clear hk); (try clear hi)) | ((with_reducible refine gate_callee (f := 37) rfl ?_); refine goesL_ (some 19) rfl rfl Try.func37 (by kernel_rfl) rfl #[.string a0, .string (((⟨#[116]⟩ : ByteArray) ++ t353) ++ a2)] rfl (by (try simp only [List.map_toArray, List.map_cons, List.map_nil]); first | done | rfl | (simp only [List.length_drop, List.length_take]; rfl)) ?_; (with_reducible refine (impl_MacOf.calls k a0 (((⟨#[116]⟩ : ByteArray) ++ t353) ++ a2) t355 _ A7.out).mono ?_); rintro e w11 ⟨rfl, hb⟩; refine ⟨_, rfl, ?_⟩; have n0_ := Aside0.mk (below_step (by repeat (first | (with_reducible first | exact HB.out | apply below_alloc | apply pw_below_drewN | apply below_drew1) | exact HB.out)) hb); clear HB; have HB := n0_; clear n0_; (try clear hb); (try clear hb2); (try clear hk); (try clear hi)))
     go_ret
     exact ⟨by first | rfl | (simp [errW_none, errW_some] <;> rfl) | (simp [*, errW_none, errW_some] <;> rfl), by repeat (first | (with_reducible first | exact HB.out | apply below_alloc | apply pw_below_drewN | apply below_drew1) | exact HB.out)⟩
    ·
     rw [if_neg c9] at H
     exact absurd H (by simp)
   ·
    rw [if_neg c8] at H
    exact absurd H (by simp)
  ·
   rw [if_neg c6] at H
   exact absurd H (by simp)
 ·
  rw [if_neg c5] at H
  exact absurd H (by simp)
def impl_LockText.f (k : Nat) (a0 : ByteArray) (a1 : Int) (a2 : ByteArray) : Option (ByteArray × Bool) := (impl_hidden.f k a0 a1 a2).bind fun bt356 => (if bt356.2 = true then ((impl_macText.f k a0 a1 bt356.1).bind fun t358 => (if bt356.1.size + t358.size ≤ 9223372036854775807 then (some (bt356.1 ++ t358, true)) else (none))) else (some ((⟨#[]⟩ : ByteArray), false)))
theorem impl_LockText.mono : ∀ a0 a1 a2 k, LeO (impl_LockText.f k a0 a1 a2) (impl_LockText.f (k + 1) a0 a1 a2) := by
 intro a0 a1 a2 k
 unfold impl_LockText.f
 repeat' first
   | (with_reducible exact impl_hidden.mono _ _ _ _)
   | (with_reducible exact impl_macText.mono _ _ _ _)
   | (with_reducible exact LeO.refl _)
   | (with_reducible exact LeO.none _)
   | (with_reducible refine LeO.ite ?_ ?_)
   | (with_reducible refine LeO.bind ?_ (fun _ => ?_))
   | exact impl_hidden.mono _ _ _ _
   | exact impl_macText.mono _ _ _ _
   | exact LeO.none _
   | refine LeO.ite ?_ ?_
   | refine LeO.bind ?_ (fun _ => ?_)
set_option maxHeartbeats 8000000 in
set_option maxRecDepth 100000 in
theorem impl_LockText.calls (k : Nat) (a0 : ByteArray) (a1 : Int) (a2 : ByteArray) (r1 : ByteArray) (r2 : Bool) (w : World) (h : impl_LockText.f k a0 a1 a2 = some (r1, r2)) :
  Calls Try.prog 8 #[.string a0, .int .i64 a1, .string a2] w fun e w' => e = .returned (.tuple #[.string r1, .bool r2]) ∧ Below w.heap.size w w' := by
 have HB := Aside0.mk (Below.refl w.heap.size w)
 have H : ((impl_hidden.f k a0 a1 a2).bind fun bt356 => (if bt356.2 = true then ((impl_macText.f k a0 a1 bt356.1).bind fun t358 => (if bt356.1.size + t358.size ≤ 9223372036854775807 then (some (bt356.1 ++ t358, true)) else (none))) else (some ((⟨#[]⟩ : ByteArray), false)))) = some (r1, r2) := h
 clear h
 replace H := Option.bind_eq_some_iff.mp H
 obtain ⟨⟨t356, t357⟩, A40, H⟩ := H
 replace H : (if t357 = true then ((impl_macText.f k a0 a1 t356).bind fun t358 => (if t356.size + t358.size ≤ 9223372036854775807 then (some (t356 ++ t358, true)) else (none))) else (some ((⟨#[]⟩ : ByteArray), false))) = some (r1, r2) := H
 have A4 := Aside0.mk A40
 clear A40
 by_cases c5 : t357 = true
 ·
  subst c5
  have H1 : ((impl_macText.f k a0 a1 t356).bind fun t358 => (if t356.size + t358.size ≤ 9223372036854775807 then (some (t356 ++ t358, true)) else (none))) = some (r1, r2) := by rw [if_pos rfl] at H; exact H
  clear H
  have H := H1
  clear H1
  replace H := Option.bind_eq_some_iff.mp H
  obtain ⟨t358, A60, H⟩ := H
  replace H : (if t356.size + t358.size ≤ 9223372036854775807 then (some (t356 ++ t358, true)) else (none)) = some (r1, r2) := H
  have A6 := Aside0.mk A60
  clear A60
  by_cases c7 : t356.size + t358.size ≤ 9223372036854775807
  ·
   rw [if_pos c7] at H
   have c7b0 := eq_true c7
   have c7b1 : decide (t356.size + t358.size ≤ 9223372036854775807) = true := decide_eq_true c7
   try have c7b2 : (9223372036854775807 < t356.size + t358.size) = False := eq_false (Nat.not_lt.2 c7)
   simp only [Option.some.injEq, Prod.mk.injEq] at H
   obtain ⟨rfl, rfl⟩ := H
   go_enter Try.func8, Try.ntmps8
   go_wp2_with (first | ((with_reducible refine gate_callee (f := 25) rfl ?_); refine goesL_ (some 14) rfl rfl Try.func25 (by kernel_rfl) rfl #[.string a0, .int .i64 a1, .string a2] rfl (by (try simp only [List.map_toArray, List.map_cons, List.map_nil]); first | done | rfl | (simp only [List.length_drop, List.length_take]; rfl)) ?_; (with_reducible refine (impl_hidden.calls k a0 a1 a2 t356 true _ A4.out).mono ?_); rintro e w8 ⟨rfl, hb⟩; refine ⟨_, rfl, ?_⟩; have n0_ := Aside0.mk (below_step (by repeat (first | (with_reducible first | exact HB.out | apply below_alloc | apply pw_below_drewN | apply below_drew1) | exact HB.out)) hb); clear HB; have HB := n0_; clear n0_; (try clear hb); (try clear hb2); (try clear hk); (try clear hi)) | ((with_reducible refine gate_callee (f := 26) rfl ?_); refine goesL_ (some 23) rfl rfl Try.func26 (by kernel_rfl) rfl #[.string a0, .int .i64 a1, .string t356] rfl (by (try simp only [List.map_toArray, List.map_cons, List.map_nil]); first | done | rfl | (simp only [List.length_drop, List.length_take]; rfl)) ?_; (with_reducible refine (impl_macText.calls k a0 a1 t356 t358 _ A6.out).mono ?_); rintro e w9 ⟨rfl, hb⟩; refine ⟨_, rfl, ?_⟩; have n0_ := Aside0.mk (below_step (by repeat (first | (with_reducible first | exact HB.out | apply below_alloc | apply pw_below_drewN | apply below_drew1) | exact HB.out)) hb); clear HB; have HB := n0_; clear n0_; (try clear hb); (try clear hb2); (try clear hk); (try clear hi)))
   go_ret2
   exact ⟨by first | rfl | (simp [errW_none, errW_some] <;> rfl) | (simp [*, errW_none, errW_some] <;> rfl), by repeat (first | (with_reducible first | exact HB.out | apply below_alloc | apply pw_below_drewN | apply below_drew1) | exact HB.out)⟩
  ·
   rw [if_neg c7] at H
   exact absurd H (by simp)
 ·
  replace c5 := Bool.eq_false_iff.mpr c5
  subst c5
  have H1 : (some ((⟨#[]⟩ : ByteArray), false)) = some (r1, r2) := by rw [if_neg (show ¬ (false = true) by decide)] at H; exact H
  clear H
  have H := H1
  clear H1
  simp only [Option.some.injEq, Prod.mk.injEq] at H
  obtain ⟨rfl, rfl⟩ := H
  go_enter Try.func8, Try.ntmps8
  go_wp2_with (first | ((with_reducible refine gate_callee (f := 25) rfl ?_); refine goesL_ (some 14) rfl rfl Try.func25 (by kernel_rfl) rfl #[.string a0, .int .i64 a1, .string a2] rfl (by (try simp only [List.map_toArray, List.map_cons, List.map_nil]); first | done | rfl | (simp only [List.length_drop, List.length_take]; rfl)) ?_; (with_reducible refine (impl_hidden.calls k a0 a1 a2 t356 false _ A4.out).mono ?_); rintro e w10 ⟨rfl, hb⟩; refine ⟨_, rfl, ?_⟩; have n0_ := Aside0.mk (below_step (by repeat (first | (with_reducible first | exact HB.out | apply below_alloc | apply pw_below_drewN | apply below_drew1) | exact HB.out)) hb); clear HB; have HB := n0_; clear n0_; (try clear hb); (try clear hb2); (try clear hk); (try clear hi)))
  go_ret2
  exact ⟨by first | rfl | (simp [errW_none, errW_some] <;> rfl) | (simp [*, errW_none, errW_some] <;> rfl), by repeat (first | (with_reducible first | exact HB.out | apply below_alloc | apply pw_below_drewN | apply below_drew1) | exact HB.out)⟩
def spec_SameMac.f (a0 : ByteArray) (a1 : ByteArray) : Option (Bool) := some (a0.toList == a1.toList)
set_option maxHeartbeats 8000000 in
set_option maxRecDepth 100000 in
theorem spec_SameMac.calls (a0 : ByteArray) (a1 : ByteArray) (r : Bool) (w : World) (h : spec_SameMac.f a0 a1 = some r) :
  Calls Try.prog 27 #[.string a0, .string a1] w fun e w' => e = .returned (.bool r) ∧ Drawn0 w w' := by
 have H : (some (a0.toList == a1.toList)) = some r := h
 clear h
 obtain rfl := Option.some.inj H
 go_enter Try.func27, Try.ntmps27
 go_wp2
 go_ret
 exact ⟨by first | rfl | (simp; done) | (simp [*]; done), by repeat (first | exact Drawn0.refl _ | apply Drawn0.step)⟩
end Go.Proofs.Ytgepaoikhfofmaa.PFnLocks
