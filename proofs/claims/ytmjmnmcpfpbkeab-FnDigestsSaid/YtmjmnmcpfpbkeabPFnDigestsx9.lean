-- Written by this session's program wip/myprint.py, after the kit's print.
import Derived.Test.YtmjmnmcpfpbkeabPFnDigestsx0
import Derived.Test.YtmjmnmcpfpbkeabPFnDigestsx1
import Derived.Test.YtmjmnmcpfpbkeabPFnDigestsx3
import Derived.Test.YtmjmnmcpfpbkeabPFnDigestsx4
import Derived.Test.YtmjmnmcpfpbkeabPFnDigestsx5
import Derived.Test.YtmjmnmcpfpbkeabPFnDigestsx8
namespace Go.Proofs.Ytmjmnmcpfpbkeab.PFnDigests
open Go.RowKit Go.Proofs.YtmjmnmcpfpbkeabW.PrintWords Go.Proofs.YtmjmnmcpfpbkeabW.PrintLast Go.Proofs.YtmjmnmcpfpbkeabW.PrintMore
attribute [local go_sem] max2_int min2_int max_two min_two max_three min_three max_four min_four   -- for this text's walks alone
set_option linter.unusedVariables false
set_option linter.unusedSimpArgs false
def laws_FnDigests.f (k : Nat) (l0 : List Int) : Option (Bool) := (laws_big.f l0).bind fun t359 => (if t359 = true then (some true) else ((spec_DrawDigestOf.f k l0).bind fun t360 => ((spec_DrawPlaces.f k l0).bind fun t361 => (if 0 < (t361.length : Int) then (if (wrap64 ((t360.size : Int) + 1)) = 0 then (none) else ((impl_HasherNew.f k).bind fun bt365 => (if 0 ≤ (Int.tmod (rd t361 0) (wrap64 ((t360.size : Int) + 1))) then (if (Int.tmod (rd t361 0) (wrap64 ((t360.size : Int) + 1))) ≤ (t360.size : Int) then ((impl_HashMore.f k bt365.1 bt365.2.1 bt365.2.2 (t360.extract 0 ((Int.tmod (rd t361 0) (wrap64 ((t360.size : Int) + 1))) : Int).toNat)).bind fun bt369 => ((impl_HashMore.f k bt369.1 bt369.2.1 bt369.2.2 (t360.extract ((Int.tmod (rd t361 0) (wrap64 ((t360.size : Int) + 1))) : Int).toNat t360.size)).bind fun bt372 => ((impl_DigestOf.f k t360).bind fun t376 => ((impl_HasherOk.f bt369.1 bt369.2.1 bt369.2.2).bind fun t377 => (if t377 = true then ((impl_HasherOk.f bt372.1 bt372.2.1 bt372.2.2).bind fun t378 => (if t378 = true then ((impl_HashEnd.f k bt372.1 bt372.2.1 bt372.2.2).bind fun t379 => (if t379.toList = t376.toList then (if (t376.size : Int) = 32 then ((spec_DigestOf.f k t360).bind fun t380 => (if t376.toList = t380.toList then (if bt372.2.2 = (t360.size : Int) then ((impl_HashMore.f k bt372.1 bt372.2.1 bt372.2.2 (⟨#[]⟩ : ByteArray)).bind fun bt381 => ((impl_HashEnd.f k bt381.1 bt381.2.1 bt381.2.2).bind fun t384 => (some (t384.toList == t376.toList)))) else (some false)) else (some false))) else (some false)) else (some false))) else (some false))) else (some false)))))) else (none)) else (none)))) else (none)))))
theorem laws_FnDigests.mono : ∀ a0 k, LeO (laws_FnDigests.f k a0) (laws_FnDigests.f (k + 1) a0) := by
 intro a0 k
 unfold laws_FnDigests.f
 repeat' first
   | (with_reducible exact impl_DigestOf.mono _ _)
   | (with_reducible exact impl_HashEnd.mono _ _ _ _)
   | (with_reducible exact impl_HashMore.mono _ _ _ _ _)
   | (with_reducible exact impl_HasherNew.mono _)
   | (with_reducible exact spec_DigestOf.mono _ _)
   | (with_reducible exact spec_DrawDigestOf.mono _ _)
   | (with_reducible exact spec_DrawPlaces.mono _ _)
   | (with_reducible exact LeO.refl _)
   | (with_reducible exact LeO.none _)
   | (with_reducible refine LeO.ite ?_ ?_)
   | (with_reducible refine LeO.bind ?_ (fun _ => ?_))
   | exact impl_DigestOf.mono _ _
   | exact impl_HashEnd.mono _ _ _ _
   | exact impl_HashMore.mono _ _ _ _ _
   | exact impl_HasherNew.mono _
   | exact spec_DigestOf.mono _ _
   | exact spec_DrawDigestOf.mono _ _
   | exact spec_DrawPlaces.mono _ _
   | exact LeO.none _
   | refine LeO.ite ?_ ?_
   | refine LeO.bind ?_ (fun _ => ?_)
set_option maxHeartbeats 8000000 in
set_option maxRecDepth 100000 in
theorem laws_FnDigests.calls (k : Nat) (A0 : Option Addr) (c0 : Nat) (l0 : List Int) (r : Bool) (w : World) (hr0 : Kd.C (Kd.int .u8) w A0 l0.length l0) (hc0 : l0.length ≤ c0) (h : laws_FnDigests.f k l0 = some r) (hr_ : Aside0 (r = true)) :
  Calls Try.prog 6 #[.slice A0 l0.length c0] w fun e w' => e = .returned (.bool r) ∧ Below w.heap.size w w' := by
 have hu39 := Try.underlying39
 have HR0 := Aside0.mk hr0
 have HC0 := Aside0.mk hc0
 clear hr0 hc0
 have HB := Aside0.mk (Below.refl w.heap.size w)
 have H : ((laws_big.f l0).bind fun t359 => (if t359 = true then (some true) else ((spec_DrawDigestOf.f k l0).bind fun t360 => ((spec_DrawPlaces.f k l0).bind fun t361 => (if 0 < (t361.length : Int) then (if (wrap64 ((t360.size : Int) + 1)) = 0 then (none) else ((impl_HasherNew.f k).bind fun bt365 => (if 0 ≤ (Int.tmod (rd t361 0) (wrap64 ((t360.size : Int) + 1))) then (if (Int.tmod (rd t361 0) (wrap64 ((t360.size : Int) + 1))) ≤ (t360.size : Int) then ((impl_HashMore.f k bt365.1 bt365.2.1 bt365.2.2 (t360.extract 0 ((Int.tmod (rd t361 0) (wrap64 ((t360.size : Int) + 1))) : Int).toNat)).bind fun bt369 => ((impl_HashMore.f k bt369.1 bt369.2.1 bt369.2.2 (t360.extract ((Int.tmod (rd t361 0) (wrap64 ((t360.size : Int) + 1))) : Int).toNat t360.size)).bind fun bt372 => ((impl_DigestOf.f k t360).bind fun t376 => ((impl_HasherOk.f bt369.1 bt369.2.1 bt369.2.2).bind fun t377 => (if t377 = true then ((impl_HasherOk.f bt372.1 bt372.2.1 bt372.2.2).bind fun t378 => (if t378 = true then ((impl_HashEnd.f k bt372.1 bt372.2.1 bt372.2.2).bind fun t379 => (if t379.toList = t376.toList then (if (t376.size : Int) = 32 then ((spec_DigestOf.f k t360).bind fun t380 => (if t376.toList = t380.toList then (if bt372.2.2 = (t360.size : Int) then ((impl_HashMore.f k bt372.1 bt372.2.1 bt372.2.2 (⟨#[]⟩ : ByteArray)).bind fun bt381 => ((impl_HashEnd.f k bt381.1 bt381.2.1 bt381.2.2).bind fun t384 => (some (t384.toList == t376.toList)))) else (some false)) else (some false))) else (some false)) else (some false))) else (some false))) else (some false)))))) else (none)) else (none)))) else (none)))))) = some r := h
 clear h
 replace H := Option.bind_eq_some_iff.mp H
 obtain ⟨t359, A20, H⟩ := H
 replace H : (if t359 = true then (some true) else ((spec_DrawDigestOf.f k l0).bind fun t360 => ((spec_DrawPlaces.f k l0).bind fun t361 => (if 0 < (t361.length : Int) then (if (wrap64 ((t360.size : Int) + 1)) = 0 then (none) else ((impl_HasherNew.f k).bind fun bt365 => (if 0 ≤ (Int.tmod (rd t361 0) (wrap64 ((t360.size : Int) + 1))) then (if (Int.tmod (rd t361 0) (wrap64 ((t360.size : Int) + 1))) ≤ (t360.size : Int) then ((impl_HashMore.f k bt365.1 bt365.2.1 bt365.2.2 (t360.extract 0 ((Int.tmod (rd t361 0) (wrap64 ((t360.size : Int) + 1))) : Int).toNat)).bind fun bt369 => ((impl_HashMore.f k bt369.1 bt369.2.1 bt369.2.2 (t360.extract ((Int.tmod (rd t361 0) (wrap64 ((t360.size : Int) + 1))) : Int).toNat t360.size)).bind fun bt372 => ((impl_DigestOf.f k t360).bind fun t376 => ((impl_HasherOk.f bt369.1 bt369.2.1 bt369.2.2).bind fun t377 => (if t377 = true then ((impl_HasherOk.f bt372.1 bt372.2.1 bt372.2.2).bind fun t378 => (if t378 = true then ((impl_HashEnd.f k bt372.1 bt372.2.1 bt372.2.2).bind fun t379 => (if t379.toList = t376.toList then (if (t376.size : Int) = 32 then ((spec_DigestOf.f k t360).bind fun t380 => (if t376.toList = t380.toList then (if bt372.2.2 = (t360.size : Int) then ((impl_HashMore.f k bt372.1 bt372.2.1 bt372.2.2 (⟨#[]⟩ : ByteArray)).bind fun bt381 => ((impl_HashEnd.f k bt381.1 bt381.2.1 bt381.2.2).bind fun t384 => (some (t384.toList == t376.toList)))) else (some false)) else (some false))) else (some false)) else (some false))) else (some false))) else (some false)))))) else (none)) else (none)))) else (none))))) = some r := H
 have A2 := Aside0.mk A20
 clear A20
 by_cases c3 : t359 = true
 ·
  subst c3
  have H1 : (some true) = some r := by rw [if_pos rfl] at H; exact H
  clear H
  have H := H1
  clear H1
  obtain rfl := Option.some.inj H
  go_enter Try.func6, Try.ntmps6
  go_wp2_with (first | ((with_reducible refine gate_callee (f := 11) rfl ?_); refine goesL_ (some 9) rfl rfl Try.func11 (by kernel_rfl) rfl #[.slice A0 l0.length c0] rfl (by (try simp only [List.map_toArray, List.map_cons, List.map_nil]); first | done | rfl | (simp only [List.length_drop, List.length_take]; rfl)) ?_; (with_reducible refine (laws_big.calls _ _ l0 true _ ?side1 ?side2 A2.out).mono ?_); (case side1 => repeat (first | exact HR0.out | (with_reducible refine Kd.C_alloc ?_ _) | (with_reducible refine Kd.C_drewN ?_ _) | (with_reducible refine Kd.C_drew ?_))); (case side2 => exact HC0.out); rintro e w' ⟨rfl, ⟨nd, rfl⟩⟩; refine ⟨_, rfl, ?_⟩))
  go_ret
  exact ⟨by first | rfl | (simp [errW_none, errW_some] <;> rfl) | (simp [*, errW_none, errW_some] <;> rfl), by repeat (first | (with_reducible first | exact HB.out | apply below_alloc | apply pw_below_drewN | apply below_drew1) | exact HB.out)⟩
 ·
  replace c3 := Bool.eq_false_iff.mpr c3
  subst c3
  have H1 : ((spec_DrawDigestOf.f k l0).bind fun t360 => ((spec_DrawPlaces.f k l0).bind fun t361 => (if 0 < (t361.length : Int) then (if (wrap64 ((t360.size : Int) + 1)) = 0 then (none) else ((impl_HasherNew.f k).bind fun bt365 => (if 0 ≤ (Int.tmod (rd t361 0) (wrap64 ((t360.size : Int) + 1))) then (if (Int.tmod (rd t361 0) (wrap64 ((t360.size : Int) + 1))) ≤ (t360.size : Int) then ((impl_HashMore.f k bt365.1 bt365.2.1 bt365.2.2 (t360.extract 0 ((Int.tmod (rd t361 0) (wrap64 ((t360.size : Int) + 1))) : Int).toNat)).bind fun bt369 => ((impl_HashMore.f k bt369.1 bt369.2.1 bt369.2.2 (t360.extract ((Int.tmod (rd t361 0) (wrap64 ((t360.size : Int) + 1))) : Int).toNat t360.size)).bind fun bt372 => ((impl_DigestOf.f k t360).bind fun t376 => ((impl_HasherOk.f bt369.1 bt369.2.1 bt369.2.2).bind fun t377 => (if t377 = true then ((impl_HasherOk.f bt372.1 bt372.2.1 bt372.2.2).bind fun t378 => (if t378 = true then ((impl_HashEnd.f k bt372.1 bt372.2.1 bt372.2.2).bind fun t379 => (if t379.toList = t376.toList then (if (t376.size : Int) = 32 then ((spec_DigestOf.f k t360).bind fun t380 => (if t376.toList = t380.toList then (if bt372.2.2 = (t360.size : Int) then ((impl_HashMore.f k bt372.1 bt372.2.1 bt372.2.2 (⟨#[]⟩ : ByteArray)).bind fun bt381 => ((impl_HashEnd.f k bt381.1 bt381.2.1 bt381.2.2).bind fun t384 => (some (t384.toList == t376.toList)))) else (some false)) else (some false))) else (some false)) else (some false))) else (some false))) else (some false)))))) else (none)) else (none)))) else (none)))) = some r := by rw [if_neg (show ¬ (false = true) by decide)] at H; exact H
  clear H
  have H := H1
  clear H1
  replace H := Option.bind_eq_some_iff.mp H
  obtain ⟨t360, A40, H⟩ := H
  replace H : ((spec_DrawPlaces.f k l0).bind fun t361 => (if 0 < (t361.length : Int) then (if (wrap64 ((t360.size : Int) + 1)) = 0 then (none) else ((impl_HasherNew.f k).bind fun bt365 => (if 0 ≤ (Int.tmod (rd t361 0) (wrap64 ((t360.size : Int) + 1))) then (if (Int.tmod (rd t361 0) (wrap64 ((t360.size : Int) + 1))) ≤ (t360.size : Int) then ((impl_HashMore.f k bt365.1 bt365.2.1 bt365.2.2 (t360.extract 0 ((Int.tmod (rd t361 0) (wrap64 ((t360.size : Int) + 1))) : Int).toNat)).bind fun bt369 => ((impl_HashMore.f k bt369.1 bt369.2.1 bt369.2.2 (t360.extract ((Int.tmod (rd t361 0) (wrap64 ((t360.size : Int) + 1))) : Int).toNat t360.size)).bind fun bt372 => ((impl_DigestOf.f k t360).bind fun t376 => ((impl_HasherOk.f bt369.1 bt369.2.1 bt369.2.2).bind fun t377 => (if t377 = true then ((impl_HasherOk.f bt372.1 bt372.2.1 bt372.2.2).bind fun t378 => (if t378 = true then ((impl_HashEnd.f k bt372.1 bt372.2.1 bt372.2.2).bind fun t379 => (if t379.toList = t376.toList then (if (t376.size : Int) = 32 then ((spec_DigestOf.f k t360).bind fun t380 => (if t376.toList = t380.toList then (if bt372.2.2 = (t360.size : Int) then ((impl_HashMore.f k bt372.1 bt372.2.1 bt372.2.2 (⟨#[]⟩ : ByteArray)).bind fun bt381 => ((impl_HashEnd.f k bt381.1 bt381.2.1 bt381.2.2).bind fun t384 => (some (t384.toList == t376.toList)))) else (some false)) else (some false))) else (some false)) else (some false))) else (some false))) else (some false)))))) else (none)) else (none)))) else (none))) = some r := H
  have A4 := Aside0.mk A40
  clear A40
  replace H := Option.bind_eq_some_iff.mp H
  obtain ⟨t361, A50, H⟩ := H
  replace H : (if 0 < (t361.length : Int) then (if (wrap64 ((t360.size : Int) + 1)) = 0 then (none) else ((impl_HasherNew.f k).bind fun bt365 => (if 0 ≤ (Int.tmod (rd t361 0) (wrap64 ((t360.size : Int) + 1))) then (if (Int.tmod (rd t361 0) (wrap64 ((t360.size : Int) + 1))) ≤ (t360.size : Int) then ((impl_HashMore.f k bt365.1 bt365.2.1 bt365.2.2 (t360.extract 0 ((Int.tmod (rd t361 0) (wrap64 ((t360.size : Int) + 1))) : Int).toNat)).bind fun bt369 => ((impl_HashMore.f k bt369.1 bt369.2.1 bt369.2.2 (t360.extract ((Int.tmod (rd t361 0) (wrap64 ((t360.size : Int) + 1))) : Int).toNat t360.size)).bind fun bt372 => ((impl_DigestOf.f k t360).bind fun t376 => ((impl_HasherOk.f bt369.1 bt369.2.1 bt369.2.2).bind fun t377 => (if t377 = true then ((impl_HasherOk.f bt372.1 bt372.2.1 bt372.2.2).bind fun t378 => (if t378 = true then ((impl_HashEnd.f k bt372.1 bt372.2.1 bt372.2.2).bind fun t379 => (if t379.toList = t376.toList then (if (t376.size : Int) = 32 then ((spec_DigestOf.f k t360).bind fun t380 => (if t376.toList = t380.toList then (if bt372.2.2 = (t360.size : Int) then ((impl_HashMore.f k bt372.1 bt372.2.1 bt372.2.2 (⟨#[]⟩ : ByteArray)).bind fun bt381 => ((impl_HashEnd.f k bt381.1 bt381.2.1 bt381.2.2).bind fun t384 => (some (t384.toList == t376.toList)))) else (some false)) else (some false))) else (some false)) else (some false))) else (some false))) else (some false)))))) else (none)) else (none)))) else (none)) = some r := H
  have A5 := Aside0.mk A50
  clear A50
  by_cases c6 : 0 < (t361.length : Int)
  ·
   rw [if_pos c6] at H
   have c6b0 : decide (0 < (t361.length : Int)) = true := decide_eq_true c6
   have c6b1 : decide (0 < t361.length) = true := decide_eq_true (by omega)
   clear c6
   by_cases c7 : (wrap64 ((t360.size : Int) + 1)) = 0
   ·
    rw [if_pos c7] at H
    exact absurd H (by simp)
   ·
    rw [if_neg c7] at H
    have c7b0 : ((wrap64 ((t360.size : Int) + 1)) == 0) = false := beq_eq_false_iff_ne.mpr c7
    have c7b1 : ((wrap64 ((t360.size : Int) + 1)) != 0) = true := bne_iff_ne.mpr c7
    replace H := Option.bind_eq_some_iff.mp H
    obtain ⟨⟨t365, t366, t367⟩, A80, H⟩ := H
    replace H : (if 0 ≤ (Int.tmod (rd t361 0) (wrap64 ((t360.size : Int) + 1))) then (if (Int.tmod (rd t361 0) (wrap64 ((t360.size : Int) + 1))) ≤ (t360.size : Int) then ((impl_HashMore.f k t365 t366 t367 (t360.extract 0 ((Int.tmod (rd t361 0) (wrap64 ((t360.size : Int) + 1))) : Int).toNat)).bind fun bt369 => ((impl_HashMore.f k bt369.1 bt369.2.1 bt369.2.2 (t360.extract ((Int.tmod (rd t361 0) (wrap64 ((t360.size : Int) + 1))) : Int).toNat t360.size)).bind fun bt372 => ((impl_DigestOf.f k t360).bind fun t376 => ((impl_HasherOk.f bt369.1 bt369.2.1 bt369.2.2).bind fun t377 => (if t377 = true then ((impl_HasherOk.f bt372.1 bt372.2.1 bt372.2.2).bind fun t378 => (if t378 = true then ((impl_HashEnd.f k bt372.1 bt372.2.1 bt372.2.2).bind fun t379 => (if t379.toList = t376.toList then (if (t376.size : Int) = 32 then ((spec_DigestOf.f k t360).bind fun t380 => (if t376.toList = t380.toList then (if bt372.2.2 = (t360.size : Int) then ((impl_HashMore.f k bt372.1 bt372.2.1 bt372.2.2 (⟨#[]⟩ : ByteArray)).bind fun bt381 => ((impl_HashEnd.f k bt381.1 bt381.2.1 bt381.2.2).bind fun t384 => (some (t384.toList == t376.toList)))) else (some false)) else (some false))) else (some false)) else (some false))) else (some false))) else (some false)))))) else (none)) else (none)) = some r := H
    have A8 := Aside0.mk A80
    clear A80
    obtain ⟨ji9, hji9⟩ : ∃ j_ : Int, (Int.tmod (rd t361 0) (wrap64 ((t360.size : Int) + 1))) = j_ := ⟨_, rfl⟩
    replace H : (if 0 ≤ (ji9) then (if (ji9) ≤ (t360.size : Int) then ((impl_HashMore.f k t365 t366 t367 (t360.extract 0 ((ji9) : Int).toNat)).bind fun bt369 => ((impl_HashMore.f k bt369.1 bt369.2.1 bt369.2.2 (t360.extract ((ji9) : Int).toNat t360.size)).bind fun bt372 => ((impl_DigestOf.f k t360).bind fun t376 => ((impl_HasherOk.f bt369.1 bt369.2.1 bt369.2.2).bind fun t377 => (if t377 = true then ((impl_HasherOk.f bt372.1 bt372.2.1 bt372.2.2).bind fun t378 => (if t378 = true then ((impl_HashEnd.f k bt372.1 bt372.2.1 bt372.2.2).bind fun t379 => (if t379.toList = t376.toList then (if (t376.size : Int) = 32 then ((spec_DigestOf.f k t360).bind fun t380 => (if t376.toList = t380.toList then (if bt372.2.2 = (t360.size : Int) then ((impl_HashMore.f k bt372.1 bt372.2.1 bt372.2.2 (⟨#[]⟩ : ByteArray)).bind fun bt381 => ((impl_HashEnd.f k bt381.1 bt381.2.1 bt381.2.2).bind fun t384 => (some (t384.toList == t376.toList)))) else (some false)) else (some false))) else (some false)) else (some false))) else (some false))) else (some false)))))) else (none)) else (none)) = some r := by first | (rw [hji9] at H; exact H) | (simp only [hji9] at H ⊢; exact H)
    (try rw [hji9] at A2)
    (try rw [hji9] at A4)
    (try rw [hji9] at A5)
    (try rw [hji9] at A8)
    by_cases c10 : 0 ≤ (ji9)
    ·
     rw [if_pos c10] at H
     have c10b0 := eq_true c10
     have c10b1 : decide (0 ≤ (ji9)) = true := decide_eq_true c10
     clear c10
     by_cases c11 : (ji9) ≤ (t360.size : Int)
     ·
      rw [if_pos c11] at H
      have c11b0 := eq_true c11
      have c11b1 : decide ((ji9) ≤ (t360.size : Int)) = true := decide_eq_true c11
      clear c11
      replace H := Option.bind_eq_some_iff.mp H
      obtain ⟨⟨t369, t370, t371⟩, A120, H⟩ := H
      replace H : ((impl_HashMore.f k t369 t370 t371 (t360.extract ((ji9) : Int).toNat t360.size)).bind fun bt372 => ((impl_DigestOf.f k t360).bind fun t376 => ((impl_HasherOk.f t369 t370 t371).bind fun t377 => (if t377 = true then ((impl_HasherOk.f bt372.1 bt372.2.1 bt372.2.2).bind fun t378 => (if t378 = true then ((impl_HashEnd.f k bt372.1 bt372.2.1 bt372.2.2).bind fun t379 => (if t379.toList = t376.toList then (if (t376.size : Int) = 32 then ((spec_DigestOf.f k t360).bind fun t380 => (if t376.toList = t380.toList then (if bt372.2.2 = (t360.size : Int) then ((impl_HashMore.f k bt372.1 bt372.2.1 bt372.2.2 (⟨#[]⟩ : ByteArray)).bind fun bt381 => ((impl_HashEnd.f k bt381.1 bt381.2.1 bt381.2.2).bind fun t384 => (some (t384.toList == t376.toList)))) else (some false)) else (some false))) else (some false)) else (some false))) else (some false))) else (some false))))) = some r := H
      have A12 := Aside0.mk A120
      clear A120
      have c13b0 := eq_true (of_decide_eq_true (by first | (with_reducible assumption) | assumption) : 0 ≤ (ji9))
      have c14b0 := eq_true (of_decide_eq_true (by first | (with_reducible assumption) | assumption) : (ji9) ≤ (t360.size : Int))
      replace H := Option.bind_eq_some_iff.mp H
      obtain ⟨⟨t372, t373, t374⟩, A150, H⟩ := H
      replace H : ((impl_DigestOf.f k t360).bind fun t376 => ((impl_HasherOk.f t369 t370 t371).bind fun t377 => (if t377 = true then ((impl_HasherOk.f t372 t373 t374).bind fun t378 => (if t378 = true then ((impl_HashEnd.f k t372 t373 t374).bind fun t379 => (if t379.toList = t376.toList then (if (t376.size : Int) = 32 then ((spec_DigestOf.f k t360).bind fun t380 => (if t376.toList = t380.toList then (if t374 = (t360.size : Int) then ((impl_HashMore.f k t372 t373 t374 (⟨#[]⟩ : ByteArray)).bind fun bt381 => ((impl_HashEnd.f k bt381.1 bt381.2.1 bt381.2.2).bind fun t384 => (some (t384.toList == t376.toList)))) else (some false)) else (some false))) else (some false)) else (some false))) else (some false))) else (some false)))) = some r := H
      have A15 := Aside0.mk A150
      clear A150
      replace H := Option.bind_eq_some_iff.mp H
      obtain ⟨t376, A160, H⟩ := H
      replace H : ((impl_HasherOk.f t369 t370 t371).bind fun t377 => (if t377 = true then ((impl_HasherOk.f t372 t373 t374).bind fun t378 => (if t378 = true then ((impl_HashEnd.f k t372 t373 t374).bind fun t379 => (if t379.toList = t376.toList then (if (t376.size : Int) = 32 then ((spec_DigestOf.f k t360).bind fun t380 => (if t376.toList = t380.toList then (if t374 = (t360.size : Int) then ((impl_HashMore.f k t372 t373 t374 (⟨#[]⟩ : ByteArray)).bind fun bt381 => ((impl_HashEnd.f k bt381.1 bt381.2.1 bt381.2.2).bind fun t384 => (some (t384.toList == t376.toList)))) else (some false)) else (some false))) else (some false)) else (some false))) else (some false))) else (some false))) = some r := H
      have A16 := Aside0.mk A160
      clear A160
      replace H := Option.bind_eq_some_iff.mp H
      obtain ⟨t377, A170, H⟩ := H
      replace H : (if t377 = true then ((impl_HasherOk.f t372 t373 t374).bind fun t378 => (if t378 = true then ((impl_HashEnd.f k t372 t373 t374).bind fun t379 => (if t379.toList = t376.toList then (if (t376.size : Int) = 32 then ((spec_DigestOf.f k t360).bind fun t380 => (if t376.toList = t380.toList then (if t374 = (t360.size : Int) then ((impl_HashMore.f k t372 t373 t374 (⟨#[]⟩ : ByteArray)).bind fun bt381 => ((impl_HashEnd.f k bt381.1 bt381.2.1 bt381.2.2).bind fun t384 => (some (t384.toList == t376.toList)))) else (some false)) else (some false))) else (some false)) else (some false))) else (some false))) else (some false)) = some r := H
      have A17 := Aside0.mk A170
      clear A170
      by_cases c18 : t377 = true
      ·
       subst c18
       have H1 : ((impl_HasherOk.f t372 t373 t374).bind fun t378 => (if t378 = true then ((impl_HashEnd.f k t372 t373 t374).bind fun t379 => (if t379.toList = t376.toList then (if (t376.size : Int) = 32 then ((spec_DigestOf.f k t360).bind fun t380 => (if t376.toList = t380.toList then (if t374 = (t360.size : Int) then ((impl_HashMore.f k t372 t373 t374 (⟨#[]⟩ : ByteArray)).bind fun bt381 => ((impl_HashEnd.f k bt381.1 bt381.2.1 bt381.2.2).bind fun t384 => (some (t384.toList == t376.toList)))) else (some false)) else (some false))) else (some false)) else (some false))) else (some false))) = some r := by rw [if_pos rfl] at H; exact H
       clear H
       have H := H1
       clear H1
       replace H := Option.bind_eq_some_iff.mp H
       obtain ⟨t378, A190, H⟩ := H
       replace H : (if t378 = true then ((impl_HashEnd.f k t372 t373 t374).bind fun t379 => (if t379.toList = t376.toList then (if (t376.size : Int) = 32 then ((spec_DigestOf.f k t360).bind fun t380 => (if t376.toList = t380.toList then (if t374 = (t360.size : Int) then ((impl_HashMore.f k t372 t373 t374 (⟨#[]⟩ : ByteArray)).bind fun bt381 => ((impl_HashEnd.f k bt381.1 bt381.2.1 bt381.2.2).bind fun t384 => (some (t384.toList == t376.toList)))) else (some false)) else (some false))) else (some false)) else (some false))) else (some false)) = some r := H
       have A19 := Aside0.mk A190
       clear A190
       by_cases c20 : t378 = true
       ·
        subst c20
        have H1 : ((impl_HashEnd.f k t372 t373 t374).bind fun t379 => (if t379.toList = t376.toList then (if (t376.size : Int) = 32 then ((spec_DigestOf.f k t360).bind fun t380 => (if t376.toList = t380.toList then (if t374 = (t360.size : Int) then ((impl_HashMore.f k t372 t373 t374 (⟨#[]⟩ : ByteArray)).bind fun bt381 => ((impl_HashEnd.f k bt381.1 bt381.2.1 bt381.2.2).bind fun t384 => (some (t384.toList == t376.toList)))) else (some false)) else (some false))) else (some false)) else (some false))) = some r := by rw [if_pos rfl] at H; exact H
        clear H
        have H := H1
        clear H1
        replace H := Option.bind_eq_some_iff.mp H
        obtain ⟨t379, A210, H⟩ := H
        replace H : (if t379.toList = t376.toList then (if (t376.size : Int) = 32 then ((spec_DigestOf.f k t360).bind fun t380 => (if t376.toList = t380.toList then (if t374 = (t360.size : Int) then ((impl_HashMore.f k t372 t373 t374 (⟨#[]⟩ : ByteArray)).bind fun bt381 => ((impl_HashEnd.f k bt381.1 bt381.2.1 bt381.2.2).bind fun t384 => (some (t384.toList == t376.toList)))) else (some false)) else (some false))) else (some false)) else (some false)) = some r := H
        have A21 := Aside0.mk A210
        clear A210
        by_cases c22 : t379.toList = t376.toList
        ·
         rw [if_pos c22] at H
         have c22b0 : (t379.toList == t376.toList) = true := beq_iff_eq.mpr c22
         have c22b1 : (t379.toList != t376.toList) = false := bne_eq_false_iff_eq.mpr c22
         clear c22
         by_cases c23 : (t376.size : Int) = 32
         ·
          rw [if_pos c23] at H
          have c23b0 : ((t376.size : Int) == 32) = true := beq_iff_eq.mpr c23
          have c23b1 : ((t376.size : Int) != 32) = false := bne_eq_false_iff_eq.mpr c23
          clear c23
          replace H := Option.bind_eq_some_iff.mp H
          obtain ⟨t380, A240, H⟩ := H
          replace H : (if t376.toList = t380.toList then (if t374 = (t360.size : Int) then ((impl_HashMore.f k t372 t373 t374 (⟨#[]⟩ : ByteArray)).bind fun bt381 => ((impl_HashEnd.f k bt381.1 bt381.2.1 bt381.2.2).bind fun t384 => (some (t384.toList == t376.toList)))) else (some false)) else (some false)) = some r := H
          have A24 := Aside0.mk A240
          clear A240
          by_cases c25 : t376.toList = t380.toList
          ·
           rw [if_pos c25] at H
           have c25b0 : (t376.toList == t380.toList) = true := beq_iff_eq.mpr c25
           have c25b1 : (t376.toList != t380.toList) = false := bne_eq_false_iff_eq.mpr c25
           clear c25
           by_cases c26 : t374 = (t360.size : Int)
           ·
            rw [if_pos c26] at H
            have c26b0 : (t374 == (t360.size : Int)) = true := beq_iff_eq.mpr c26
            have c26b1 : (t374 != (t360.size : Int)) = false := bne_eq_false_iff_eq.mpr c26
            clear c26
            replace H := Option.bind_eq_some_iff.mp H
            obtain ⟨⟨t381, t382, t383⟩, A270, H⟩ := H
            replace H : ((impl_HashEnd.f k t381 t382 t383).bind fun t384 => (some (t384.toList == t376.toList))) = some r := H
            have A27 := Aside0.mk A270
            clear A270
            replace H := Option.bind_eq_some_iff.mp H
            obtain ⟨t384, A280, H⟩ := H
            replace H : (some (t384.toList == t376.toList)) = some r := H
            have A28 := Aside0.mk A280
            clear A280
            obtain rfl := Option.some.inj H
            go_enter Try.func6, Try.ntmps6
            try go_wp2_with (first | ((with_reducible refine gate_callee (f := 11) rfl ?_); refine goesL_ (some 9) rfl rfl Try.func11 (by kernel_rfl) rfl #[.slice A0 l0.length c0] rfl (by (try simp only [List.map_toArray, List.map_cons, List.map_nil]); first | done | rfl | (simp only [List.length_drop, List.length_take]; rfl)) ?_; (with_reducible refine (laws_big.calls _ _ l0 false _ ?side1 ?side2 A2.out).mono ?_); (case side1 => repeat (first | exact HR0.out | (with_reducible refine Kd.C_alloc ?_ _) | (with_reducible refine Kd.C_drewN ?_ _) | (with_reducible refine Kd.C_drew ?_))); (case side2 => exact HC0.out); rintro e w' ⟨rfl, ⟨nd, rfl⟩⟩; refine ⟨_, rfl, ?_⟩) | ((with_reducible refine gate_callee (f := 20) rfl ?_); refine goesL_ (some 11) rfl rfl Try.func20 (by kernel_rfl) rfl #[.slice A0 l0.length c0] rfl (by (try simp only [List.map_toArray, List.map_cons, List.map_nil]); first | done | rfl | (simp only [List.length_drop, List.length_take]; rfl)) ?_; (with_reducible refine (spec_DrawDigestOf.calls k _ _ l0 t360 _ ?side1 ?side2 A4.out).mono ?_); (case side1 => repeat (first | exact HR0.out | (with_reducible refine Kd.C_alloc ?_ _) | (with_reducible refine Kd.C_drewN ?_ _) | (with_reducible refine Kd.C_drew ?_))); (case side2 => exact HC0.out); rintro e w29 ⟨rfl, hb⟩; refine ⟨_, rfl, ?_⟩; have n0_ := Aside0.mk (below_step (by repeat (first | (with_reducible first | exact HB.out | apply below_alloc | apply pw_below_drewN | apply below_drew1) | exact HB.out)) hb); clear HB; have HB := n0_; clear n0_; (try clear hb); (try clear hb2); (try clear hk); (try clear hi)) | ((with_reducible refine gate_callee (f := 15) rfl ?_); refine goesL_ (some 13) rfl rfl Try.func15 (by kernel_rfl) rfl #[.slice A0 l0.length c0] rfl (by (try simp only [List.map_toArray, List.map_cons, List.map_nil]); first | done | rfl | (simp only [List.length_drop, List.length_take]; rfl)) ?_; (with_reducible refine (spec_DrawPlaces.calls k _ _ l0 t361 _ ?side1 ?side2 A5.out).mono ?_); (case side1 => repeat (first | exact (Kd.C_below HR0.out HB.out) | (with_reducible refine Kd.C_alloc ?_ _) | (with_reducible refine Kd.C_drewN ?_ _) | (with_reducible refine Kd.C_drew ?_))); (case side2 => exact HC0.out); rintro e w30 ⟨v362, rfl, ho0, hb⟩; refine ⟨_, rfl, ?_⟩; have n0_ := Aside0.mk (Kd.R_lower ho0 (below_size (by repeat (first | (with_reducible first | exact HB.out | apply below_alloc | apply pw_below_drewN | apply below_drew1) | exact HB.out)))); have n1_ := Aside0.mk (below_step (by repeat (first | (with_reducible first | exact HB.out | apply below_alloc | apply pw_below_drewN | apply below_drew1) | exact HB.out)) hb); clear HB; have HO363 := n0_; have HB := n1_; clear n0_ n1_; (try clear hb); (try clear hb2); (try clear hk); (try clear hi); (try clear ho0); obtain ⟨Ao31, co31, eo31⟩ := Kd.R_slice HO363.out; subst eo31; have p364 : 0 ≤ (0 : Int) := (by omega); have q364 : 0 < (t361.length : Int) := of_decide_eq_true (by first | (with_reducible assumption) | assumption); obtain ⟨ad364, e364, hx364_0⟩ := Kd.at_int (Kd.R_reads' HO363.out).2.2 0 p364 q364; cases e364; have qi364 : (0 < t361.length) = True := eq_true (by omega); (try rw [show ((0 : Int)).toNat = 0 from rfl] at hx364_0); (try rw [Addr.add_zero'] at hx364_0); replace p364 := eq_true p364; replace q364 := eq_true q364) | ((with_reducible refine gate_callee (f := 21) rfl ?_); refine goesL_ (some 20) rfl rfl Try.func21 (by kernel_rfl) rfl #[] rfl (by (try simp only [List.map_toArray, List.map_cons, List.map_nil]); first | done | rfl | (simp only [List.length_drop, List.length_take]; rfl)) ?_; (with_reducible refine (impl_HasherNew.calls k  t365 t366 t367 _ A8.out).mono ?_); rintro e w32 ⟨rfl, hb⟩; refine ⟨_, rfl, ?_⟩; have n0_ := Aside0.mk (Kd.R_below (by (with_reducible repeat (first | apply Kd.R_alloc | apply Kd.R_drewN | apply Kd.R_drew)); exact HO363.out) hb); have n1_ := Aside0.mk (below_step (by repeat (first | (with_reducible first | exact HB.out | apply below_alloc | apply pw_below_drewN | apply below_drew1) | exact HB.out)) hb); clear HO363; clear HB; have HO363 := n0_; have HB := n1_; clear n0_ n1_; (try clear hb); (try clear hb2); (try clear hk); (try clear hi)) | ((with_reducible refine gate_dst (N := 5) rfl ?_); (try (refine gate_guard (by rfl) ?_; dsimp only)); refine box_event ?hg (N := 5) ?hd (cs := #[.string (⟨#[]⟩ : ByteArray), .string (⟨#[]⟩ : ByteArray), .int .i64 0]) (t := 39) ?hr ?_; (case hd => rfl); (case hg => rfl); (case hr => first | (go_simp; done) | (go_simp; rfl)); intro gb368 hg w33 hbox hb; have n0_ := Aside0.mk (Kd.R_below (by (with_reducible repeat (first | apply Kd.R_alloc | apply Kd.R_drewN | apply Kd.R_drew)); exact HO363.out) hb); have n1_ := Aside0.mk (below_step (by repeat (first | (with_reducible first | exact HB.out | apply below_alloc | apply pw_below_drewN | apply below_drew1) | exact HB.out)) hb); have n2_ := Aside0.mk (hbox); have n3_ := Aside0.mk ((by rw [hg]; exact (below_size (by repeat (first | (with_reducible first | exact HB.out | apply below_alloc | apply pw_below_drewN | apply below_drew1) | exact HB.out))) : w.heap.size ≤ gb368)); have n4_ := Aside0.mk ((by rw [hg]; exact (below_size (by repeat (first | (with_reducible first | exact HB.out | apply below_alloc | apply pw_below_drewN | apply below_drew1) | exact HB.out))) : w.heap.size ≤ gb368)); clear HO363; clear HB; have HO363 := n0_; have HB := n1_; have BK368 := n2_; have GW368 := n3_; have GE368 := n4_; clear n0_ n1_ n2_ n3_ n4_; clear hb hbox hg; have hcz34_0 : w33.cell? ⟨gb368, 0, none⟩ = some (.string (⟨#[]⟩ : ByteArray)) := (blk_cell BK368.out 0).trans rfl; have hcz34_1 : w33.cell? ⟨gb368, 1, none⟩ = some (.string (⟨#[]⟩ : ByteArray)) := (blk_cell BK368.out 1).trans rfl; have hcz34_2 : w33.cell? ⟨gb368, 2, none⟩ = some (.int .i64 0) := (blk_cell BK368.out 2).trans rfl; have hfz34_0 := blk_frozen BK368.out 0; have hfz34_1 := blk_frozen BK368.out 1; have hfz34_2 := blk_frozen BK368.out 2))
            have n0_ : Aside0 (Kd.R (Kd.int .i64) 3 (((w33.setCell ⟨gb368, 0, none⟩ (.string t365)).setCell ⟨gb368, 1, none⟩ (.string t366)).setCell ⟨gb368, 2, none⟩ (.int .i64 t367)) w.heap.size (fun _ => True) (.slice (some ad364) t361.length co31) t361) := ⟨by (with_reducible repeat (first | apply Kd.R_alloc | apply Kd.R_drewN | apply Kd.R_drew)); exact Kd.R_mono (Kd.R_far (p := ⟨gb368, 2, none⟩) (Kd.R_far (p := ⟨gb368, 1, none⟩) (Kd.R_far (p := ⟨gb368, 0, none⟩) (Kd.R_types HO363.out BK368.out (by decide)) (fun _ hk => hk.2) (.string t365)) (fun _ hk => hk.2) (.string t366)) (fun _ hk => hk.2) (.int .i64 t367)) (fun _ hk => trivial)⟩
            have n1_ : Aside0 ((((w33.setCell ⟨gb368, 0, none⟩ (.string t365)).setCell ⟨gb368, 1, none⟩ (.string t366)).setCell ⟨gb368, 2, none⟩ (.int .i64 t367)).heap[gb368]? = some (.cells #[.string t365, .string t366, .int .i64 t367] 39 (0, 0))) := ⟨by (with_reducible repeat (first | refine blk_drewN ?_ _ | refine blk_drew ?_ | refine blk_alloc ?_ _)); refine blk_put (cs := #[.string t365, .string t366, .int .i64 0]) ?_ 2 _ rfl; (with_reducible repeat (first | refine blk_drewN ?_ _ | refine blk_drew ?_ | refine blk_alloc ?_ _)); refine blk_put (cs := #[.string t365, .string (⟨#[]⟩ : ByteArray), .int .i64 0]) ?_ 1 _ rfl; (with_reducible repeat (first | refine blk_drewN ?_ _ | refine blk_drew ?_ | refine blk_alloc ?_ _)); refine blk_put (cs := #[.string (⟨#[]⟩ : ByteArray), .string (⟨#[]⟩ : ByteArray), .int .i64 0]) ?_ 0 _ rfl; (with_reducible repeat (first | refine blk_drewN ?_ _ | refine blk_drew ?_ | refine blk_alloc ?_ _)); exact BK368.out⟩
            have n2_ : Aside0 (Below w.heap.size w (((w33.setCell ⟨gb368, 0, none⟩ (.string t365)).setCell ⟨gb368, 1, none⟩ (.string t366)).setCell ⟨gb368, 2, none⟩ (.int .i64 t367))) := ⟨by repeat (first | (with_reducible first | exact HB.out | apply below_alloc | apply pw_below_drewN | apply below_drew1 | refine below_set ?_ GE368.out) | exact HB.out)⟩
            (try clear HO363)
            (try clear BK368)
            (try clear HB)
            generalize (((w33.setCell ⟨gb368, 0, none⟩ (.string t365)).setCell ⟨gb368, 1, none⟩ (.string t366)).setCell ⟨gb368, 2, none⟩ (.int .i64 t367)) = w35 at n0_ n1_ n2_ ⊢
            have HO363 := n0_
            have BK368 := n1_
            have HB := n2_
            clear n0_ n1_ n2_
            have n0_ := Aside0.mk (Kd.R_drew HO363.out)
            have n1_ := Aside0.mk (blk_drew BK368.out)
            have n2_ := Aside0.mk (below_drew1 HB.out)
            clear HO363
            clear BK368
            clear HB
            have HO363 := n0_
            have BK368 := n1_
            have HB := n2_
            clear n0_ n1_ n2_
            refine start_ (n := 6) (S := fun w' => w'.cell? ⟨gb368, 0, none⟩ = some (.string t365) ∧ w'.cell? ⟨gb368, 1, none⟩ = some (.string t366) ∧ w'.cell? ⟨gb368, 2, none⟩ = some (.int .i64 t367)) (ds := [5]) #[false, false, false, false, false, false] (by kernel_rfl) rfl rfl ⟨(blk_cell BK368.out 0).trans rfl, (blk_cell BK368.out 1).trans rfl, (blk_cell BK368.out 2).trans rfl⟩ (fun hHeld => ?_)
            generalize w35.drew = w36 at HO363 BK368 HB hHeld ⊢
            refine pure_ (i := 1) (N := some 22) (v := ?_) (a' := ?_) #[false, true, false, false, false, false] rfl rfl (by kernel_rfl) (fun _ _ _ h => h) (Or.inl ⟨by rfl, ?_⟩) ?_ ?_
            rotate_left
            ·
             intro w'
             go_simp
             with_reducible rfl
            rotate_left
            ·
             simp only [Act.put, List.setIfInBounds_toArray, List.set_cons_zero, List.set_cons_succ, i64_w, i32_w]
             rfl
            refine pure_ (i := 2) (N := some 23) (v := ?_) (a' := ?_) #[false, true, true, false, false, false] rfl rfl (by kernel_rfl) (fun _ _ _ h => h) (Or.inl ⟨by rfl, ?_⟩) ?_ ?_
            rotate_left
            ·
             intro w'
             go_simp
             with_reducible rfl
            rotate_left
            ·
             simp only [Act.put, List.setIfInBounds_toArray, List.set_cons_zero, List.set_cons_succ, i64_w, i32_w]
             rfl
            refine pure_ (i := 3) (N := some 24) (v := ?_) (a' := ?_) #[false, true, true, true, false, false] rfl rfl (by kernel_rfl) (fun _ _ _ h => h) (Or.inl ⟨by rfl, ?_⟩) ?_ ?_
            rotate_left
            ·
             intro w'
             go_simp
             with_reducible rfl
            rotate_left
            ·
             simp only [Act.put, List.setIfInBounds_toArray, List.set_cons_zero, List.set_cons_succ, i64_w, i32_w]
             rfl
            refine take_ (i := 0) (N := some 21) (v := ?_) (a' := ?_) #[true, true, true, true, false, false] rfl rfl (by kernel_rfl) (fun _ _ _ h => h) (Or.inl ⟨by rfl, ?_⟩) hHeld ?_ ?_
            rotate_left
            ·
             rintro w' ⟨s0, s1, s2⟩
             go_simp
             with_reducible rfl
            rotate_left
            ·
             simp only [Act.put, List.setIfInBounds_toArray, List.set_cons_zero, List.set_cons_succ, i64_w, i32_w]
             rfl
            refine one_ (i := 4) (N := some 25) #[true, true, true, true, true, false] rfl rfl (by kernel_rfl) (by decide) (fun K hK => ?_)
            refine goes_ Try.func22 (by kernel_rfl) rfl #[.agg #[.string t365, .string t366, .int .i64 t367], .string (t360.extract 0 ((ji9) : Int).toNat)] (by rfl) rfl rfl (by (try simp only [List.map_toArray, List.map_cons, List.map_nil]); first | done | (simp only [hji9]; rfl) | rfl | (simp only [List.length_drop, List.length_take]; rfl)) ?_
            with_reducible refine (impl_HashMore.calls k t365 t366 t367 (t360.extract 0 ((ji9) : Int).toNat) t369 t370 t371 _ A12.out).mono ?_
            rintro e w37 ⟨rfl, hb⟩
            refine ⟨_, rfl, ?_⟩
            have n0_ := Aside0.mk (Kd.R_below (by (with_reducible repeat (first | apply Kd.R_alloc | apply Kd.R_drewN | apply Kd.R_drew)); exact HO363.out) hb)
            have n1_ := Aside0.mk (blk_below (g := gb368) (o := .cells #[.string t365, .string t366, .int .i64 t367] 39 (0, 0)) (by (with_reducible repeat (first | refine blk_drewN ?_ _ | refine blk_drew ?_ | refine blk_alloc ?_ _)); exact BK368.out) hb)
            have n2_ := Aside0.mk (below_step (by repeat (first | (with_reducible first | exact HB.out | apply below_alloc | apply pw_below_drewN | apply below_drew1 | refine below_set ?_ GE368.out) | exact HB.out)) hb)
            clear HO363
            clear BK368
            clear HB
            have HO363 := n0_
            have BK368 := n1_
            have HB := n2_
            clear n0_ n1_ n2_
            (try clear hb)
            (try clear hb2)
            (try clear hk)
            (try clear hi)
            refine hK.out _ _ ⟨(blk_cell BK368.out 0).trans rfl, (blk_cell BK368.out 1).trans rfl, (blk_cell BK368.out 2).trans rfl⟩ (fun hHeld => ?_)
            clear hK K
            refine norm_ (a' := ?_) ?_ ?_
            rotate_left
            ·
             show Act.put _ (some 25) _ = _
             simp only [Act.put, List.setIfInBounds_toArray, List.set_cons_zero, List.set_cons_succ, i64_w, i32_w]
             rfl
            refine last_ (i := 5) (N := none) #[true, true, true, true, true, true] rfl rfl (by kernel_rfl) (by decide) (fun K hK => ?_)
            have hs38 : w37.cell? ⟨gb368, 0, none⟩ = some (.string t365) := (blk_cell BK368.out 0).trans rfl
            have hfs38 := blk_frozen BK368.out 0
            have hs39 : w37.cell? ⟨gb368, 1, none⟩ = some (.string t366) := (blk_cell BK368.out 1).trans rfl
            have hfs39 := blk_frozen BK368.out 1
            have hs40 : w37.cell? ⟨gb368, 2, none⟩ = some (.int .i64 t367) := (blk_cell BK368.out 2).trans rfl
            have hfs40 := blk_frozen BK368.out 2
            refine skip_ (w1 := ?_) (by rfl) rfl ?_ ?_
            rotate_left
            ·
             go_simp
             rfl
            refine hK.out _ _ ?_
            clear hK K
            refine done_ (by kernel_rfl) ?_
            try go_wp2
            have n0_ : Aside0 (Kd.R (Kd.int .i64) 3 (((w37.setCell ⟨gb368, 0, none⟩ (.string t369)).setCell ⟨gb368, 1, none⟩ (.string t370)).setCell ⟨gb368, 2, none⟩ (.int .i64 t371)) w.heap.size (fun _ => True) (.slice (some ad364) t361.length co31) t361) := ⟨by (with_reducible repeat (first | apply Kd.R_alloc | apply Kd.R_drewN | apply Kd.R_drew)); exact Kd.R_mono (Kd.R_far (p := ⟨gb368, 2, none⟩) (Kd.R_far (p := ⟨gb368, 1, none⟩) (Kd.R_far (p := ⟨gb368, 0, none⟩) (Kd.R_types HO363.out BK368.out (by decide)) (fun _ hk => hk.2) (.string t369)) (fun _ hk => hk.2) (.string t370)) (fun _ hk => hk.2) (.int .i64 t371)) (fun _ hk => trivial)⟩
            have n1_ : Aside0 ((((w37.setCell ⟨gb368, 0, none⟩ (.string t369)).setCell ⟨gb368, 1, none⟩ (.string t370)).setCell ⟨gb368, 2, none⟩ (.int .i64 t371)).heap[gb368]? = some (.cells #[.string t369, .string t370, .int .i64 t371] 39 (0, 0))) := ⟨by (with_reducible repeat (first | refine blk_drewN ?_ _ | refine blk_drew ?_ | refine blk_alloc ?_ _)); refine blk_put (cs := #[.string t369, .string t370, .int .i64 t367]) ?_ 2 _ rfl; (with_reducible repeat (first | refine blk_drewN ?_ _ | refine blk_drew ?_ | refine blk_alloc ?_ _)); refine blk_put (cs := #[.string t369, .string t366, .int .i64 t367]) ?_ 1 _ rfl; (with_reducible repeat (first | refine blk_drewN ?_ _ | refine blk_drew ?_ | refine blk_alloc ?_ _)); refine blk_put (cs := #[.string t365, .string t366, .int .i64 t367]) ?_ 0 _ rfl; (with_reducible repeat (first | refine blk_drewN ?_ _ | refine blk_drew ?_ | refine blk_alloc ?_ _)); exact BK368.out⟩
            have n2_ : Aside0 (Below w.heap.size w (((w37.setCell ⟨gb368, 0, none⟩ (.string t369)).setCell ⟨gb368, 1, none⟩ (.string t370)).setCell ⟨gb368, 2, none⟩ (.int .i64 t371))) := ⟨by repeat (first | (with_reducible first | exact HB.out | apply below_alloc | apply pw_below_drewN | apply below_drew1 | refine below_set ?_ GE368.out) | exact HB.out)⟩
            (try clear HO363)
            (try clear BK368)
            (try clear HB)
            generalize (((w37.setCell ⟨gb368, 0, none⟩ (.string t369)).setCell ⟨gb368, 1, none⟩ (.string t370)).setCell ⟨gb368, 2, none⟩ (.int .i64 t371)) = w41 at n0_ n1_ n2_ ⊢
            have HO363 := n0_
            have BK368 := n1_
            have HB := n2_
            clear n0_ n1_ n2_
            have n0_ := Aside0.mk (Kd.R_drew HO363.out)
            have n1_ := Aside0.mk (blk_drew BK368.out)
            have n2_ := Aside0.mk (below_drew1 HB.out)
            clear HO363
            clear BK368
            clear HB
            have HO363 := n0_
            have BK368 := n1_
            have HB := n2_
            clear n0_ n1_ n2_
            refine start_ (n := 7) (S := fun w' => w'.cell? ⟨gb368, 0, none⟩ = some (.string t369) ∧ w'.cell? ⟨gb368, 1, none⟩ = some (.string t370) ∧ w'.cell? ⟨gb368, 2, none⟩ = some (.int .i64 t371)) (ds := []) #[false, false, false, false, false, false, false] (by kernel_rfl) rfl rfl ⟨(blk_cell BK368.out 0).trans rfl, (blk_cell BK368.out 1).trans rfl, (blk_cell BK368.out 2).trans rfl⟩ (fun hHeld => ?_)
            generalize w41.drew = w42 at HO363 BK368 HB hHeld ⊢
            refine pure_ (i := 1) (N := some 27) (v := ?_) (a' := ?_) #[false, true, false, false, false, false, false] rfl rfl (by kernel_rfl) (fun _ _ _ h => h) (Or.inl ⟨by rfl, ?_⟩) ?_ ?_
            rotate_left
            ·
             intro w'
             go_simp
             with_reducible rfl
            rotate_left
            ·
             simp only [Act.put, List.setIfInBounds_toArray, List.set_cons_zero, List.set_cons_succ, i64_w, i32_w]
             rfl
            refine pure_ (i := 2) (N := some 28) (v := ?_) (a' := ?_) #[false, true, true, false, false, false, false] rfl rfl (by kernel_rfl) (fun _ _ _ h => h) (Or.inl ⟨by rfl, ?_⟩) ?_ ?_
            rotate_left
            ·
             intro w'
             go_simp
             with_reducible rfl
            rotate_left
            ·
             simp only [Act.put, List.setIfInBounds_toArray, List.set_cons_zero, List.set_cons_succ, i64_w, i32_w]
             rfl
            refine pure_ (i := 3) (N := some 29) (v := ?_) (a' := ?_) #[false, true, true, true, false, false, false] rfl rfl (by kernel_rfl) (fun _ _ _ h => h) (Or.inl ⟨by rfl, ?_⟩) ?_ ?_
            rotate_left
            ·
             intro w'
             go_simp
             with_reducible rfl
            rotate_left
            ·
             simp only [Act.put, List.setIfInBounds_toArray, List.set_cons_zero, List.set_cons_succ, i64_w, i32_w]
             rfl
            refine take_ (i := 0) (N := some 26) (v := ?_) (a' := ?_) #[true, true, true, true, false, false, false] rfl rfl (by kernel_rfl) (fun _ _ _ h => h) (Or.inl ⟨by rfl, ?_⟩) hHeld ?_ ?_
            rotate_left
            ·
             rintro w' ⟨s0, s1, s2⟩
             go_simp
             with_reducible rfl
            rotate_left
            ·
             simp only [Act.put, List.setIfInBounds_toArray, List.set_cons_zero, List.set_cons_succ, i64_w, i32_w]
             rfl
            refine join_ (σ := Nat) 1 #[true, true, true, true, true, true, false] (fun s_ => [(30, .agg #[.string t372, .string t373, .int .i64 t374]), (6, .pointer (some ⟨s_, 0, none⟩))]) (fun s_ w' => (w'.cell? ⟨gb368, 0, none⟩ = some (.string t369) ∧ w'.cell? ⟨gb368, 1, none⟩ = some (.string t370) ∧ w'.cell? ⟨gb368, 2, none⟩ = some (.int .i64 t371)) ∧ (Kd.R (Kd.int .i64) 3 w' w.heap.size (fun _ => True) (.slice (some ad364) t361.length co31) t361) ∧ (w'.heap[gb368]? = some (.cells #[.string t369, .string t370, .int .i64 t371] 39 (0, 0))) ∧ (w'.heap[s_]? = some (.cells #[.string (⟨#[]⟩ : ByteArray), .string (⟨#[]⟩ : ByteArray), .int .i64 0] 39 (0, 0))) ∧ (w.heap.size ≤ s_) ∧ (w.heap.size ≤ s_) ∧ (gb368 ≠ s_) ∧ (s_ ≠ gb368) ∧ (Below w.heap.size w w')) ?_ ?_
            rotate_left
            ·
             intro hCont
             refine two_ (i := 4) (j := 5) (Ni := some 30) (Nj := some 6) #[true, true, true, true, true, false, false] #[true, true, true, true, false, true, false] rfl rfl rfl rfl (by kernel_rfl) (by decide) (by decide) (fun K hK => ?_) (fun K hK => ?_)
             ·
              skip
              refine goes_ Try.func22 (by kernel_rfl) rfl #[.agg #[.string t369, .string t370, .int .i64 t371], .string (t360.extract ((ji9) : Int).toNat t360.size)] (by rfl) rfl rfl (by (try simp only [List.map_toArray, List.map_cons, List.map_nil]); first | done | (simp only [hji9]; rfl) | rfl | (simp only [List.length_drop, List.length_take]; rfl)) ?_
              with_reducible refine (impl_HashMore.calls k t369 t370 t371 (t360.extract ((ji9) : Int).toNat t360.size) t372 t373 t374 _ A15.out).mono ?_
              rintro e w43 ⟨rfl, hb⟩
              refine ⟨_, rfl, ?_⟩
              have n0_ := Aside0.mk (Kd.R_below (by (with_reducible repeat (first | apply Kd.R_alloc | apply Kd.R_drewN | apply Kd.R_drew)); exact HO363.out) hb)
              have n1_ := Aside0.mk (blk_below (g := gb368) (o := .cells #[.string t369, .string t370, .int .i64 t371] 39 (0, 0)) (by (with_reducible repeat (first | refine blk_drewN ?_ _ | refine blk_drew ?_ | refine blk_alloc ?_ _)); exact BK368.out) hb)
              have n2_ := Aside0.mk (below_step (by repeat (first | (with_reducible first | exact HB.out | apply below_alloc | apply pw_below_drewN | apply below_drew1 | refine below_set ?_ GE368.out) | exact HB.out)) hb)
              clear HO363
              clear BK368
              clear HB
              have HO363 := n0_
              have BK368 := n1_
              have HB := n2_
              clear n0_ n1_ n2_
              (try clear hb)
              (try clear hb2)
              (try clear hk)
              (try clear hi)
              refine hK.out _ _ ⟨(blk_cell BK368.out 0).trans rfl, (blk_cell BK368.out 1).trans rfl, (blk_cell BK368.out 2).trans rfl⟩ (fun hHeld => ?_)
              clear hK K
              refine norm_ (a' := ?_) ?_ ?_
              rotate_left
              ·
               show Act.put _ (some 30) _ = _
               simp only [Act.put, List.setIfInBounds_toArray, List.set_cons_zero, List.set_cons_succ, i64_w, i32_w]
               rfl
              refine one_ (i := 5) (N := some 6) #[true, true, true, true, true, true, false] rfl rfl (by kernel_rfl) (by decide) (fun K hK => ?_)
              refine box_step ?hg (N := 6) ?hd (cs := #[.string (⟨#[]⟩ : ByteArray), .string (⟨#[]⟩ : ByteArray), .int .i64 0]) (t := 39) ?hr ?_; (case hd => rfl); (case hg => rfl); (case hr => first | (go_simp; done) | (go_simp; rfl))
              intro gb375 hg w44 hbox hb
              have n0_ := Aside0.mk (Kd.R_below (by (with_reducible repeat (first | apply Kd.R_alloc | apply Kd.R_drewN | apply Kd.R_drew)); exact HO363.out) hb)
              have n1_ := Aside0.mk (blk_below (g := gb368) (o := .cells #[.string t369, .string t370, .int .i64 t371] 39 (0, 0)) (by (with_reducible repeat (first | refine blk_drewN ?_ _ | refine blk_drew ?_ | refine blk_alloc ?_ _)); exact BK368.out) hb)
              have n2_ := Aside0.mk (below_step (by repeat (first | (with_reducible first | exact HB.out | apply below_alloc | apply pw_below_drewN | apply below_drew1 | refine below_set ?_ GE368.out) | exact HB.out)) hb)
              have n3_ := Aside0.mk (hbox)
              have n4_ := Aside0.mk ((by rw [hg]; exact (below_size (by repeat (first | (with_reducible first | exact HB.out | apply below_alloc | apply pw_below_drewN | apply below_drew1 | refine below_set ?_ GE368.out) | exact HB.out))) : w.heap.size ≤ gb375))
              have n5_ := Aside0.mk ((by rw [hg]; exact (below_size (by repeat (first | (with_reducible first | exact HB.out | apply below_alloc | apply pw_below_drewN | apply below_drew1 | refine below_set ?_ GE368.out) | exact HB.out))) : w.heap.size ≤ gb375))
              have n6_ := Aside0.mk ((by rw [hg]; exact Nat.ne_of_lt (blk_lt (g := gb368) (o := .cells #[.string t369, .string t370, .int .i64 t371] 39 (0, 0)) (by (with_reducible repeat (first | refine blk_drewN ?_ _ | refine blk_drew ?_ | refine blk_alloc ?_ _)); exact BK368.out)) : gb368 ≠ gb375))
              have n7_ := Aside0.mk ((by rw [hg]; exact Nat.ne_of_gt (blk_lt (g := gb368) (o := .cells #[.string t369, .string t370, .int .i64 t371] 39 (0, 0)) (by (with_reducible repeat (first | refine blk_drewN ?_ _ | refine blk_drew ?_ | refine blk_alloc ?_ _)); exact BK368.out)) : gb375 ≠ gb368))
              clear HO363
              clear BK368
              clear HB
              have HO363 := n0_
              have BK368 := n1_
              have HB := n2_
              have BK375 := n3_
              have GW375 := n4_
              have GE375 := n5_
              have NB368_375 := n6_
              have NB375_368 := n7_
              clear n0_ n1_ n2_ n3_ n4_ n5_ n6_ n7_
              clear hb hbox hg
              refine hK.out _ _ ⟨(blk_cell BK368.out 0).trans rfl, (blk_cell BK368.out 1).trans rfl, (blk_cell BK368.out 2).trans rfl⟩ (fun hHeld => ?_)
              clear hK K
              refine norm_ (a' := ?_) ?_ ?_
              rotate_left
              ·
               show Act.put _ (some 6) _ = _
               simp only [Act.put, List.setIfInBounds_toArray, List.set_cons_zero, List.set_cons_succ, i64_w, i32_w]
               rfl
              exact norm_ (by simp only [putAll, Act.put, List.setIfInBounds_toArray, List.set_cons_zero, List.set_cons_succ]) (hCont (gb375) _ ⟨hHeld, (by (with_reducible repeat (first | apply Kd.R_alloc | apply Kd.R_drewN | apply Kd.R_drew)); exact HO363.out), (by (with_reducible repeat (first | refine blk_drewN ?_ _ | refine blk_drew ?_ | refine blk_alloc ?_ _)); exact BK368.out), (by (with_reducible repeat (first | refine blk_drewN ?_ _ | refine blk_drew ?_ | refine blk_alloc ?_ _)); exact BK375.out), GW375.out, GE375.out, NB368_375.out, NB375_368.out, (by repeat (first | (with_reducible first | exact HB.out | apply below_alloc | apply pw_below_drewN | apply below_drew1 | refine below_set ?_ GE368.out | refine below_set ?_ GE375.out) | exact HB.out))⟩)
             ·
              skip
              refine box_step ?hg (N := 6) ?hd (cs := #[.string (⟨#[]⟩ : ByteArray), .string (⟨#[]⟩ : ByteArray), .int .i64 0]) (t := 39) ?hr ?_; (case hd => rfl); (case hg => rfl); (case hr => first | (go_simp; done) | (go_simp; rfl))
              intro gb375 hg w43 hbox hb
              have n0_ := Aside0.mk (Kd.R_below (by (with_reducible repeat (first | apply Kd.R_alloc | apply Kd.R_drewN | apply Kd.R_drew)); exact HO363.out) hb)
              have n1_ := Aside0.mk (blk_below (g := gb368) (o := .cells #[.string t369, .string t370, .int .i64 t371] 39 (0, 0)) (by (with_reducible repeat (first | refine blk_drewN ?_ _ | refine blk_drew ?_ | refine blk_alloc ?_ _)); exact BK368.out) hb)
              have n2_ := Aside0.mk (below_step (by repeat (first | (with_reducible first | exact HB.out | apply below_alloc | apply pw_below_drewN | apply below_drew1 | refine below_set ?_ GE368.out) | exact HB.out)) hb)
              have n3_ := Aside0.mk (hbox)
              have n4_ := Aside0.mk ((by rw [hg]; exact (below_size (by repeat (first | (with_reducible first | exact HB.out | apply below_alloc | apply pw_below_drewN | apply below_drew1 | refine below_set ?_ GE368.out) | exact HB.out))) : w.heap.size ≤ gb375))
              have n5_ := Aside0.mk ((by rw [hg]; exact (below_size (by repeat (first | (with_reducible first | exact HB.out | apply below_alloc | apply pw_below_drewN | apply below_drew1 | refine below_set ?_ GE368.out) | exact HB.out))) : w.heap.size ≤ gb375))
              have n6_ := Aside0.mk ((by rw [hg]; exact Nat.ne_of_lt (blk_lt (g := gb368) (o := .cells #[.string t369, .string t370, .int .i64 t371] 39 (0, 0)) (by (with_reducible repeat (first | refine blk_drewN ?_ _ | refine blk_drew ?_ | refine blk_alloc ?_ _)); exact BK368.out)) : gb368 ≠ gb375))
              have n7_ := Aside0.mk ((by rw [hg]; exact Nat.ne_of_gt (blk_lt (g := gb368) (o := .cells #[.string t369, .string t370, .int .i64 t371] 39 (0, 0)) (by (with_reducible repeat (first | refine blk_drewN ?_ _ | refine blk_drew ?_ | refine blk_alloc ?_ _)); exact BK368.out)) : gb375 ≠ gb368))
              clear HO363
              clear BK368
              clear HB
              have HO363 := n0_
              have BK368 := n1_
              have HB := n2_
              have BK375 := n3_
              have GW375 := n4_
              have GE375 := n5_
              have NB368_375 := n6_
              have NB375_368 := n7_
              clear n0_ n1_ n2_ n3_ n4_ n5_ n6_ n7_
              clear hb hbox hg
              refine hK.out _ _ ⟨(blk_cell BK368.out 0).trans rfl, (blk_cell BK368.out 1).trans rfl, (blk_cell BK368.out 2).trans rfl⟩ (fun hHeld => ?_)
              clear hK K
              refine norm_ (a' := ?_) ?_ ?_
              rotate_left
              ·
               show Act.put _ (some 6) _ = _
               simp only [Act.put, List.setIfInBounds_toArray, List.set_cons_zero, List.set_cons_succ, i64_w, i32_w]
               rfl
              refine one_ (i := 4) (N := some 30) #[true, true, true, true, true, true, false] rfl rfl (by kernel_rfl) (by decide) (fun K hK => ?_)
              refine goes_ Try.func22 (by kernel_rfl) rfl #[.agg #[.string t369, .string t370, .int .i64 t371], .string (t360.extract ((ji9) : Int).toNat t360.size)] (by rfl) rfl rfl (by (try simp only [List.map_toArray, List.map_cons, List.map_nil]); first | done | (simp only [hji9]; rfl) | rfl | (simp only [List.length_drop, List.length_take]; rfl)) ?_
              with_reducible refine (impl_HashMore.calls k t369 t370 t371 (t360.extract ((ji9) : Int).toNat t360.size) t372 t373 t374 _ A15.out).mono ?_
              rintro e w44 ⟨rfl, hb⟩
              refine ⟨_, rfl, ?_⟩
              have n0_ := Aside0.mk (Kd.R_below (by (with_reducible repeat (first | apply Kd.R_alloc | apply Kd.R_drewN | apply Kd.R_drew)); exact HO363.out) hb)
              have n1_ := Aside0.mk (blk_below (g := gb368) (o := .cells #[.string t369, .string t370, .int .i64 t371] 39 (0, 0)) (by (with_reducible repeat (first | refine blk_drewN ?_ _ | refine blk_drew ?_ | refine blk_alloc ?_ _)); exact BK368.out) hb)
              have n2_ := Aside0.mk (blk_below (g := gb375) (o := .cells #[.string (⟨#[]⟩ : ByteArray), .string (⟨#[]⟩ : ByteArray), .int .i64 0] 39 (0, 0)) (by (with_reducible repeat (first | refine blk_drewN ?_ _ | refine blk_drew ?_ | refine blk_alloc ?_ _)); exact BK375.out) hb)
              have n3_ := Aside0.mk (below_step (by repeat (first | (with_reducible first | exact HB.out | apply below_alloc | apply pw_below_drewN | apply below_drew1 | refine below_set ?_ GE368.out | refine below_set ?_ GE375.out) | exact HB.out)) hb)
              clear HO363
              clear BK368
              clear BK375
              clear HB
              have HO363 := n0_
              have BK368 := n1_
              have BK375 := n2_
              have HB := n3_
              clear n0_ n1_ n2_ n3_
              (try clear hb)
              (try clear hb2)
              (try clear hk)
              (try clear hi)
              refine hK.out _ _ ⟨(blk_cell BK368.out 0).trans rfl, (blk_cell BK368.out 1).trans rfl, (blk_cell BK368.out 2).trans rfl⟩ (fun hHeld => ?_)
              clear hK K
              refine norm_ (a' := ?_) ?_ ?_
              rotate_left
              ·
               show Act.put _ (some 30) _ = _
               simp only [Act.put, List.setIfInBounds_toArray, List.set_cons_zero, List.set_cons_succ, i64_w, i32_w]
               rfl
              exact norm_ (by simp only [putAll, Act.put, List.setIfInBounds_toArray, List.set_cons_zero, List.set_cons_succ]) (hCont (gb375) _ ⟨hHeld, (by (with_reducible repeat (first | apply Kd.R_alloc | apply Kd.R_drewN | apply Kd.R_drew)); exact HO363.out), (by (with_reducible repeat (first | refine blk_drewN ?_ _ | refine blk_drew ?_ | refine blk_alloc ?_ _)); exact BK368.out), (by (with_reducible repeat (first | refine blk_drewN ?_ _ | refine blk_drew ?_ | refine blk_alloc ?_ _)); exact BK375.out), GW375.out, GE375.out, NB368_375.out, NB375_368.out, (by repeat (first | (with_reducible first | exact HB.out | apply below_alloc | apply pw_below_drewN | apply below_drew1 | refine below_set ?_ GE368.out | refine below_set ?_ GE375.out) | exact HB.out))⟩)
            rintro gb375 w45 ⟨hS_, h0_, h1_, h2_, h3_, h4_, h5_, h6_, h7_⟩
            have n0_ : Aside0 (Kd.R (Kd.int .i64) 3 w45 w.heap.size (fun _ => True) (.slice (some ad364) t361.length co31) t361) := ⟨h0_⟩
            have n1_ : Aside0 (w45.heap[gb368]? = some (.cells #[.string t369, .string t370, .int .i64 t371] 39 (0, 0))) := ⟨h1_⟩
            have n2_ : Aside0 (w45.heap[gb375]? = some (.cells #[.string (⟨#[]⟩ : ByteArray), .string (⟨#[]⟩ : ByteArray), .int .i64 0] 39 (0, 0))) := ⟨h2_⟩
            have n3_ : Aside0 (w.heap.size ≤ gb375) := ⟨h3_⟩
            have n4_ : Aside0 (w.heap.size ≤ gb375) := ⟨h4_⟩
            have n5_ : Aside0 (gb368 ≠ gb375) := ⟨h5_⟩
            have n6_ : Aside0 (gb375 ≠ gb368) := ⟨h6_⟩
            have n7_ : Aside0 (Below w.heap.size w w45) := ⟨h7_⟩
            clear HO363
            clear BK368
            clear HB
            clear h0_ h1_ h2_ h3_ h4_ h5_ h6_ h7_
            have HO363 := n0_
            have BK368 := n1_
            have BK375 := n2_
            have GW375 := n3_
            have GE375 := n4_
            have NB368_375 := n5_
            have NB375_368 := n6_
            have HB := n7_
            clear n0_ n1_ n2_ n3_ n4_ n5_ n6_ n7_
            have hHeld : w45.cell? ⟨gb368, 0, none⟩ = some (.string t369) ∧ w45.cell? ⟨gb368, 1, none⟩ = some (.string t370) ∧ w45.cell? ⟨gb368, 2, none⟩ = some (.int .i64 t371) := hS_
            refine norm_ (a' := ?_) ?_ ?_
            rotate_left
            ·
             simp only [putAll, Act.put, List.setIfInBounds_toArray, List.set_cons_zero, List.set_cons_succ]
             rfl
            refine one_ (i := 6) (N := none) #[true, true, true, true, true, true, true] rfl rfl (by kernel_rfl) (by decide) (fun K hK => ?_)
            have hs46 : w45.cell? ⟨gb375, 0, none⟩ = some (.string (⟨#[]⟩ : ByteArray)) := (blk_cell BK375.out 0).trans rfl
            have hfs46 := blk_frozen BK375.out 0
            have hns46_0 := NB368_375.out
            have hms46_0 := NB375_368.out
            have hs47 : w45.cell? ⟨gb375, 1, none⟩ = some (.string (⟨#[]⟩ : ByteArray)) := (blk_cell BK375.out 1).trans rfl
            have hfs47 := blk_frozen BK375.out 1
            have hns47_0 := NB368_375.out
            have hms47_0 := NB375_368.out
            have hs48 : w45.cell? ⟨gb375, 2, none⟩ = some (.int .i64 0) := (blk_cell BK375.out 2).trans rfl
            have hfs48 := blk_frozen BK375.out 2
            have hns48_0 := NB368_375.out
            have hms48_0 := NB375_368.out
            refine skip_ (w1 := ?_) (by rfl) rfl ?_ ?_
            rotate_left
            ·
             go_simp
             rfl
            refine hK.out _ _ ⟨((cell_far (p := ⟨gb375, _, none⟩) NB368_375.out _).trans (((cell_far (p := ⟨gb375, _, none⟩) NB368_375.out _).trans (((cell_far (p := ⟨gb375, _, none⟩) NB368_375.out _).trans (hHeld.1)))))), ((cell_far (p := ⟨gb375, _, none⟩) NB368_375.out _).trans (((cell_far (p := ⟨gb375, _, none⟩) NB368_375.out _).trans (((cell_far (p := ⟨gb375, _, none⟩) NB368_375.out _).trans (hHeld.2.1)))))), ((cell_far (p := ⟨gb375, _, none⟩) NB368_375.out _).trans (((cell_far (p := ⟨gb375, _, none⟩) NB368_375.out _).trans (((cell_far (p := ⟨gb375, _, none⟩) NB368_375.out _).trans (hHeld.2.2))))))⟩ (fun hHeld => ?_)
            clear hK K
            refine done_ (by kernel_rfl) ?_
            try go_wp2_with (first | ((with_reducible refine gate_callee (f := 14) rfl ?_); refine goesL_ (some 32) rfl rfl Try.func14 (by kernel_rfl) rfl #[.string t360] rfl (by (try simp only [List.map_toArray, List.map_cons, List.map_nil]); first | done | rfl | (simp only [List.length_drop, List.length_take]; rfl)) ?_; (with_reducible refine (impl_DigestOf.calls k t360 t376 _ A16.out).mono ?_); rintro e w49 ⟨rfl, hb⟩; refine ⟨_, rfl, ?_⟩; have n0_ := Aside0.mk (Kd.R_below (by (with_reducible repeat (first | apply Kd.R_alloc | apply Kd.R_drewN | apply Kd.R_drew)); exact (Kd.R_mono (Kd.R_far (p := ⟨gb375, 2, none⟩) (Kd.R_far (p := ⟨gb375, 1, none⟩) (Kd.R_far (p := ⟨gb375, 0, none⟩) (Kd.R_types HO363.out BK375.out (by decide)) (fun _ hk => hk.2) (.string t372)) (fun _ hk => hk.2) (.string t373)) (fun _ hk => hk.2) (.int .i64 t374)) (fun _ h_ => h_.1))) hb); have n1_ := Aside0.mk (blk_below (g := gb368) (o := .cells #[.string t369, .string t370, .int .i64 t371] 39 (0, 0)) (by (with_reducible repeat (first | refine blk_drewN ?_ _ | refine blk_drew ?_ | refine blk_alloc ?_ _)); refine blk_far ?_ NB368_375.out _; (with_reducible repeat (first | refine blk_drewN ?_ _ | refine blk_drew ?_ | refine blk_alloc ?_ _)); refine blk_far ?_ NB368_375.out _; (with_reducible repeat (first | refine blk_drewN ?_ _ | refine blk_drew ?_ | refine blk_alloc ?_ _)); refine blk_far ?_ NB368_375.out _; (with_reducible repeat (first | refine blk_drewN ?_ _ | refine blk_drew ?_ | refine blk_alloc ?_ _)); exact BK368.out) hb); have n2_ := Aside0.mk (blk_below (g := gb375) (o := .cells #[.string t372, .string t373, .int .i64 t374] 39 (0, 0)) (by (with_reducible repeat (first | refine blk_drewN ?_ _ | refine blk_drew ?_ | refine blk_alloc ?_ _)); refine blk_put (cs := #[.string t372, .string t373, .int .i64 0]) ?_ 2 _ rfl; (with_reducible repeat (first | refine blk_drewN ?_ _ | refine blk_drew ?_ | refine blk_alloc ?_ _)); refine blk_put (cs := #[.string t372, .string (⟨#[]⟩ : ByteArray), .int .i64 0]) ?_ 1 _ rfl; (with_reducible repeat (first | refine blk_drewN ?_ _ | refine blk_drew ?_ | refine blk_alloc ?_ _)); refine blk_put (cs := #[.string (⟨#[]⟩ : ByteArray), .string (⟨#[]⟩ : ByteArray), .int .i64 0]) ?_ 0 _ rfl; (with_reducible repeat (first | refine blk_drewN ?_ _ | refine blk_drew ?_ | refine blk_alloc ?_ _)); exact BK375.out) hb); have n3_ := Aside0.mk (below_step (by repeat (first | (with_reducible first | exact HB.out | apply below_alloc | apply pw_below_drewN | apply below_drew1 | refine below_set ?_ GE368.out | refine below_set ?_ GE375.out) | exact HB.out)) hb); clear HO363; clear BK368; clear BK375; clear HB; have HO363 := n0_; have BK368 := n1_; have BK375 := n2_; have HB := n3_; clear n0_ n1_ n2_ n3_; (try clear hb); (try clear hb2); (try clear hk); (try clear hi); have hnb50 := NB368_375.out; have hnc50 := NB375_368.out; have hcz51_0 : w49.cell? ⟨gb368, 0, none⟩ = some (.string t369) := (blk_cell BK368.out 0).trans rfl; have hcz51_1 : w49.cell? ⟨gb368, 1, none⟩ = some (.string t370) := (blk_cell BK368.out 1).trans rfl; have hcz51_2 : w49.cell? ⟨gb368, 2, none⟩ = some (.int .i64 t371) := (blk_cell BK368.out 2).trans rfl; have hfz51_0 := blk_frozen BK368.out 0; have hfz51_1 := blk_frozen BK368.out 1; have hfz51_2 := blk_frozen BK368.out 2) | ((with_reducible refine gate_callee (f := 23) rfl ?_); refine goesL_ (some 34) rfl rfl Try.func23 (by kernel_rfl) rfl #[.agg #[.string t369, .string t370, .int .i64 t371]] rfl (by (try simp only [List.map_toArray, List.map_cons, List.map_nil]); first | done | rfl | (simp only [List.length_drop, List.length_take]; rfl)) ?_; (with_reducible refine (impl_HasherOk.calls t369 t370 t371 true _ A17.out).mono ?_); rintro e w52 ⟨rfl, hb⟩; refine ⟨_, rfl, ?_⟩; have n0_ := Aside0.mk (Kd.R_below (by (with_reducible repeat (first | apply Kd.R_alloc | apply Kd.R_drewN | apply Kd.R_drew)); exact HO363.out) hb); have n1_ := Aside0.mk (blk_below (g := gb368) (o := .cells #[.string t369, .string t370, .int .i64 t371] 39 (0, 0)) (by (with_reducible repeat (first | refine blk_drewN ?_ _ | refine blk_drew ?_ | refine blk_alloc ?_ _)); exact BK368.out) hb); have n2_ := Aside0.mk (blk_below (g := gb375) (o := .cells #[.string t372, .string t373, .int .i64 t374] 39 (0, 0)) (by (with_reducible repeat (first | refine blk_drewN ?_ _ | refine blk_drew ?_ | refine blk_alloc ?_ _)); exact BK375.out) hb); have n3_ := Aside0.mk (below_step (by repeat (first | (with_reducible first | exact HB.out | apply below_alloc | apply pw_below_drewN | apply below_drew1 | refine below_set ?_ GE368.out | refine below_set ?_ GE375.out) | exact HB.out)) hb); clear HO363; clear BK368; clear BK375; clear HB; have HO363 := n0_; have BK368 := n1_; have BK375 := n2_; have HB := n3_; clear n0_ n1_ n2_ n3_; (try clear hb); (try clear hb2); (try clear hk); (try clear hi); have hcz53_0 : w52.cell? ⟨gb375, 0, none⟩ = some (.string t372) := (blk_cell BK375.out 0).trans rfl; have hcz53_1 : w52.cell? ⟨gb375, 1, none⟩ = some (.string t373) := (blk_cell BK375.out 1).trans rfl; have hcz53_2 : w52.cell? ⟨gb375, 2, none⟩ = some (.int .i64 t374) := (blk_cell BK375.out 2).trans rfl; have hfz53_0 := blk_frozen BK375.out 0; have hfz53_1 := blk_frozen BK375.out 1; have hfz53_2 := blk_frozen BK375.out 2) | (go_at_call 23; (with_reducible refine (impl_HasherOk.calls t372 t373 t374 true _ A19.out).mono ?_); rintro e w54 ⟨rfl, hb⟩; have n0_ := Aside0.mk (Kd.R_below (by (with_reducible repeat (first | apply Kd.R_alloc | apply Kd.R_drewN | apply Kd.R_drew)); exact HO363.out) hb); have n1_ := Aside0.mk (blk_below (g := gb368) (o := .cells #[.string t369, .string t370, .int .i64 t371] 39 (0, 0)) (by (with_reducible repeat (first | refine blk_drewN ?_ _ | refine blk_drew ?_ | refine blk_alloc ?_ _)); exact BK368.out) hb); have n2_ := Aside0.mk (blk_below (g := gb375) (o := .cells #[.string t372, .string t373, .int .i64 t374] 39 (0, 0)) (by (with_reducible repeat (first | refine blk_drewN ?_ _ | refine blk_drew ?_ | refine blk_alloc ?_ _)); exact BK375.out) hb); have n3_ := Aside0.mk (below_step (by repeat (first | (with_reducible first | exact HB.out | apply below_alloc | apply pw_below_drewN | apply below_drew1 | refine below_set ?_ GE368.out | refine below_set ?_ GE375.out) | exact HB.out)) hb); clear HO363; clear BK368; clear BK375; clear HB; have HO363 := n0_; have BK368 := n1_; have BK375 := n2_; have HB := n3_; clear n0_ n1_ n2_ n3_; (try clear hb); (try clear hb2); (try clear hk); (try clear hi); have hcz55_0 : w54.cell? ⟨gb375, 0, none⟩ = some (.string t372) := (blk_cell BK375.out 0).trans rfl; have hcz55_1 : w54.cell? ⟨gb375, 1, none⟩ = some (.string t373) := (blk_cell BK375.out 1).trans rfl; have hcz55_2 : w54.cell? ⟨gb375, 2, none⟩ = some (.int .i64 t374) := (blk_cell BK375.out 2).trans rfl; have hfz55_0 := blk_frozen BK375.out 0; have hfz55_1 := blk_frozen BK375.out 1; have hfz55_2 := blk_frozen BK375.out 2) | (go_at_call 24; (with_reducible refine (impl_HashEnd.calls k t372 t373 t374 t379 _ A21.out).mono ?_); rintro e w56 ⟨rfl, hb⟩; have n0_ := Aside0.mk (Kd.R_below (by (with_reducible repeat (first | apply Kd.R_alloc | apply Kd.R_drewN | apply Kd.R_drew)); exact HO363.out) hb); have n1_ := Aside0.mk (blk_below (g := gb368) (o := .cells #[.string t369, .string t370, .int .i64 t371] 39 (0, 0)) (by (with_reducible repeat (first | refine blk_drewN ?_ _ | refine blk_drew ?_ | refine blk_alloc ?_ _)); exact BK368.out) hb); have n2_ := Aside0.mk (blk_below (g := gb375) (o := .cells #[.string t372, .string t373, .int .i64 t374] 39 (0, 0)) (by (with_reducible repeat (first | refine blk_drewN ?_ _ | refine blk_drew ?_ | refine blk_alloc ?_ _)); exact BK375.out) hb); have n3_ := Aside0.mk (below_step (by repeat (first | (with_reducible first | exact HB.out | apply below_alloc | apply pw_below_drewN | apply below_drew1 | refine below_set ?_ GE368.out | refine below_set ?_ GE375.out) | exact HB.out)) hb); clear HO363; clear BK368; clear BK375; clear HB; have HO363 := n0_; have BK368 := n1_; have BK375 := n2_; have HB := n3_; clear n0_ n1_ n2_ n3_; (try clear hb); (try clear hb2); (try clear hk); (try clear hi)) | (go_at_call 25; (with_reducible refine (spec_DigestOf.calls k t360 t380 _ A24.out).mono ?_); rintro e w57 ⟨rfl, hb⟩; have n0_ := Aside0.mk (Kd.R_below (by (with_reducible repeat (first | apply Kd.R_alloc | apply Kd.R_drewN | apply Kd.R_drew)); exact HO363.out) hb); have n1_ := Aside0.mk (blk_below (g := gb368) (o := .cells #[.string t369, .string t370, .int .i64 t371] 39 (0, 0)) (by (with_reducible repeat (first | refine blk_drewN ?_ _ | refine blk_drew ?_ | refine blk_alloc ?_ _)); exact BK368.out) hb); have n2_ := Aside0.mk (blk_below (g := gb375) (o := .cells #[.string t372, .string t373, .int .i64 t374] 39 (0, 0)) (by (with_reducible repeat (first | refine blk_drewN ?_ _ | refine blk_drew ?_ | refine blk_alloc ?_ _)); exact BK375.out) hb); have n3_ := Aside0.mk (below_step (by repeat (first | (with_reducible first | exact HB.out | apply below_alloc | apply pw_below_drewN | apply below_drew1 | refine below_set ?_ GE368.out | refine below_set ?_ GE375.out) | exact HB.out)) hb); clear HO363; clear BK368; clear BK375; clear HB; have HO363 := n0_; have BK368 := n1_; have BK375 := n2_; have HB := n3_; clear n0_ n1_ n2_ n3_; (try clear hb); (try clear hb2); (try clear hk); (try clear hi); have hcz58_0 : w57.cell? ⟨gb375, 0, none⟩ = some (.string t372) := (blk_cell BK375.out 0).trans rfl; have hcz58_1 : w57.cell? ⟨gb375, 1, none⟩ = some (.string t373) := (blk_cell BK375.out 1).trans rfl; have hcz58_2 : w57.cell? ⟨gb375, 2, none⟩ = some (.int .i64 t374) := (blk_cell BK375.out 2).trans rfl; have hfz58_0 := blk_frozen BK375.out 0; have hfz58_1 := blk_frozen BK375.out 1; have hfz58_2 := blk_frozen BK375.out 2) | (go_at_call 22; (with_reducible refine (impl_HashMore.calls k t372 t373 t374 (⟨#[]⟩ : ByteArray) t381 t382 t383 _ A27.out).mono ?_); rintro e w59 ⟨rfl, hb⟩; have n0_ := Aside0.mk (Kd.R_below (by (with_reducible repeat (first | apply Kd.R_alloc | apply Kd.R_drewN | apply Kd.R_drew)); exact HO363.out) hb); have n1_ := Aside0.mk (blk_below (g := gb368) (o := .cells #[.string t369, .string t370, .int .i64 t371] 39 (0, 0)) (by (with_reducible repeat (first | refine blk_drewN ?_ _ | refine blk_drew ?_ | refine blk_alloc ?_ _)); exact BK368.out) hb); have n2_ := Aside0.mk (blk_below (g := gb375) (o := .cells #[.string t372, .string t373, .int .i64 t374] 39 (0, 0)) (by (with_reducible repeat (first | refine blk_drewN ?_ _ | refine blk_drew ?_ | refine blk_alloc ?_ _)); exact BK375.out) hb); have n3_ := Aside0.mk (below_step (by repeat (first | (with_reducible first | exact HB.out | apply below_alloc | apply pw_below_drewN | apply below_drew1 | refine below_set ?_ GE368.out | refine below_set ?_ GE375.out) | exact HB.out)) hb); clear HO363; clear BK368; clear BK375; clear HB; have HO363 := n0_; have BK368 := n1_; have BK375 := n2_; have HB := n3_; clear n0_ n1_ n2_ n3_; (try clear hb); (try clear hb2); (try clear hk); (try clear hi)) | (go_at_call 24; (with_reducible refine (impl_HashEnd.calls k t381 t382 t383 t384 _ A28.out).mono ?_); rintro e w60 ⟨rfl, hb⟩; have n0_ := Aside0.mk (Kd.R_below (by (with_reducible repeat (first | apply Kd.R_alloc | apply Kd.R_drewN | apply Kd.R_drew)); exact HO363.out) hb); have n1_ := Aside0.mk (blk_below (g := gb368) (o := .cells #[.string t369, .string t370, .int .i64 t371] 39 (0, 0)) (by (with_reducible repeat (first | refine blk_drewN ?_ _ | refine blk_drew ?_ | refine blk_alloc ?_ _)); exact BK368.out) hb); have n2_ := Aside0.mk (blk_below (g := gb375) (o := .cells #[.string t372, .string t373, .int .i64 t374] 39 (0, 0)) (by (with_reducible repeat (first | refine blk_drewN ?_ _ | refine blk_drew ?_ | refine blk_alloc ?_ _)); exact BK375.out) hb); have n3_ := Aside0.mk (below_step (by repeat (first | (with_reducible first | exact HB.out | apply below_alloc | apply pw_below_drewN | apply below_drew1 | refine below_set ?_ GE368.out | refine below_set ?_ GE375.out) | exact HB.out)) hb); clear HO363; clear BK368; clear BK375; clear HB; have HO363 := n0_; have BK368 := n1_; have BK375 := n2_; have HB := n3_; clear n0_ n1_ n2_ n3_; (try clear hb); (try clear hb2); (try clear hk); (try clear hi)))
            go_ret
            exact ⟨by first | rfl | (simp [errW_none, errW_some] <;> rfl) | (simp only [← hji9]; first | rfl | (simp [errW_none, errW_some] <;> rfl)) | (simp [*, errW_none, errW_some] <;> rfl), by repeat (first | (with_reducible first | exact HB.out | apply below_alloc | apply pw_below_drewN | apply below_drew1 | refine below_set ?_ GE368.out | refine below_set ?_ GE375.out) | exact HB.out)⟩
           ·
            rw [if_neg c26] at H
            have c26b0 : (t374 == (t360.size : Int)) = false := beq_eq_false_iff_ne.mpr c26
            have c26b1 : (t374 != (t360.size : Int)) = true := bne_iff_ne.mpr c26
            obtain rfl := Option.some.inj H
            exact absurd hr_.out (by decide)
          ·
           rw [if_neg c25] at H
           have c25b0 : (t376.toList == t380.toList) = false := beq_eq_false_iff_ne.mpr c25
           have c25b1 : (t376.toList != t380.toList) = true := bne_iff_ne.mpr c25
           obtain rfl := Option.some.inj H
           exact absurd hr_.out (by decide)
         ·
          rw [if_neg c23] at H
          have c23b0 : ((t376.size : Int) == 32) = false := beq_eq_false_iff_ne.mpr c23
          have c23b1 : ((t376.size : Int) != 32) = true := bne_iff_ne.mpr c23
          obtain rfl := Option.some.inj H
          exact absurd hr_.out (by decide)
        ·
         rw [if_neg c22] at H
         have c22b0 : (t379.toList == t376.toList) = false := beq_eq_false_iff_ne.mpr c22
         have c22b1 : (t379.toList != t376.toList) = true := bne_iff_ne.mpr c22
         obtain rfl := Option.some.inj H
         exact absurd hr_.out (by decide)
       ·
        replace c20 := Bool.eq_false_iff.mpr c20
        subst c20
        have H1 : (some false) = some r := by rw [if_neg (show ¬ (false = true) by decide)] at H; exact H
        clear H
        have H := H1
        clear H1
        obtain rfl := Option.some.inj H
        exact absurd hr_.out (by decide)
      ·
       replace c18 := Bool.eq_false_iff.mpr c18
       subst c18
       have H1 : (some false) = some r := by rw [if_neg (show ¬ (false = true) by decide)] at H; exact H
       clear H
       have H := H1
       clear H1
       obtain rfl := Option.some.inj H
       exact absurd hr_.out (by decide)
     ·
      rw [if_neg c11] at H
      exact absurd H (by simp)
    ·
     rw [if_neg c10] at H
     exact absurd H (by simp)
  ·
   rw [if_neg c6] at H
   exact absurd H (by simp)
def laws_FnDigests.Pure : Prop := ∀ (l0 : List Int), l0.length ≤ maxLen → l0.length * 1 ≤ 140737488351232 → (∀ x ∈ l0, (Lit.int .u8 x).wf = true) → ∃ k, laws_FnDigests.f k l0 = some true
theorem laws_FnDigests.walk (P : laws_FnDigests.Pure) (a0 : Option Addr) (len0 cap0 : Nat) (z0 : List Int) (w : World) (w0 : (a0 = none ∧ len0 = 0 ∧ cap0 = 0 ∧ z0 = []) ∨ ∃ x, a0 = some x ∧ len0 ≤ cap0 ∧ cap0 ≤ maxLen ∧ z0.length = cap0 ∧ (∀ i, i < z0.length → w.cell? (x.add i) = some (.int .u8 (z0.getD i 0))) ∧ ∀ n ∈ z0, (Lit.int .u8 n).wf = true) (y0 : len0 * 1 ≤ 140737488351232) :
  Calls Try.prog 6 #[.slice a0 len0 cap0] w fun e w' => e = .returned (.bool true) ∧ Below w.heap.size w w' := by
 obtain ⟨l0, rfl, hr0, hm0, hw0, hc0⟩ := ReadsInt.ofRowC w0
 obtain ⟨k, h⟩ := P l0 hm0 y0 hw0
 refine (laws_FnDigests.calls k _ _ l0 true w (Kd.C_of_reads (d := (0 : Int)) (h1 := fun _ => rfl) hr0) hc0 h ⟨rfl⟩).mono ?_
 rintro e w' ⟨rfl, hd⟩
 exact ⟨rfl, hd⟩
end Go.Proofs.Ytmjmnmcpfpbkeab.PFnDigests
