-- Written by this session's program wip/myprint.py, after the kit's print.
import Derived.Test.YtgepaoikhfofmabPFnSharedx0
import Derived.Test.YtgepaoikhfofmabPFnSharedx1
namespace Go.Proofs.Ytgepaoikhfofmab.PFnShared
open Go.RowKit Go.Proofs.YtgepaoikhfofmabW.PrintWords Go.Proofs.YtgepaoikhfofmabW.PrintLast Go.Proofs.YtgepaoikhfofmabW.PrintMore
attribute [local go_sem] max2_int min2_int max_two min_two max_three min_three max_four min_four   -- for this text's walks alone
set_option linter.unusedVariables false
set_option linter.unusedSimpArgs false

/-! ### spec_l04S: function 51 -/
def spec_l04S.f (a0 : Int) (a1 : Int) (a2 : Int) (a3 : Int) (a4 : Bool) : Option (Int) := if a1 = 0 then (none) else ((spec_l04Right.f a0 a1 ((((Int.tdiv (2147483648 : Int) a1) % 4294967296) * 2) % 4294967296)).bind fun t150 => (if a2 = 0 then (none) else ((spec_l04Right.f a0 a2 ((((Int.tdiv (2147483648 : Int) a2) % 4294967296) * 2) % 4294967296)).bind fun t151 => (if a3 = 0 then (none) else (if a4 = true then (some (Go.bits .xor .u32 (Go.bits .xor .u32 t150 t151) ((Int.tdiv a0 a3) % 4294967296))) else ((spec_l04Right.f a0 a3 ((((Int.tdiv (2147483648 : Int) a3) % 4294967296) * 2) % 4294967296)).bind fun t152 => (some (Go.bits .xor .u32 (Go.bits .xor .u32 t150 t151) t152))))))))
set_option maxHeartbeats 8000000 in
set_option maxRecDepth 100000 in
theorem spec_l04S.calls (a0 : Int) (a1 : Int) (a2 : Int) (a3 : Int) (a4 : Bool) (r : Int) (w : World) (h : spec_l04S.f a0 a1 a2 a3 a4 = some r) :
    Calls Try.prog 51 #[.int .u32 a0, .int .u32 a1, .int .u32 a2, .int .u32 a3, .bool a4] w fun e w' => e = .returned (.int .u32 r) ∧ Drawn0 w w' := by
  have H : (if a1 = 0 then (none) else ((spec_l04Right.f a0 a1 ((((Int.tdiv (2147483648 : Int) a1) % 4294967296) * 2) % 4294967296)).bind fun t150 => (if a2 = 0 then (none) else ((spec_l04Right.f a0 a2 ((((Int.tdiv (2147483648 : Int) a2) % 4294967296) * 2) % 4294967296)).bind fun t151 => (if a3 = 0 then (none) else (if a4 = true then (some (Go.bits .xor .u32 (Go.bits .xor .u32 t150 t151) ((Int.tdiv a0 a3) % 4294967296))) else ((spec_l04Right.f a0 a3 ((((Int.tdiv (2147483648 : Int) a3) % 4294967296) * 2) % 4294967296)).bind fun t152 => (some (Go.bits .xor .u32 (Go.bits .xor .u32 t150 t151) t152))))))))) = some r := h
  clear h
  by_cases c6 : a1 = 0
  · rw [if_pos c6] at H
    exact absurd H (by simp)
  · rw [if_neg c6] at H
    have c6b0 : (a1 == 0) = false := beq_eq_false_iff_ne.mpr c6
    have c6b1 : (a1 != 0) = true := bne_iff_ne.mpr c6
    replace H := Option.bind_eq_some_iff.mp H
    obtain ⟨t150, A70, H⟩ := H
    replace H : (if a2 = 0 then (none) else ((spec_l04Right.f a0 a2 ((((Int.tdiv (2147483648 : Int) a2) % 4294967296) * 2) % 4294967296)).bind fun t151 => (if a3 = 0 then (none) else (if a4 = true then (some (Go.bits .xor .u32 (Go.bits .xor .u32 t150 t151) ((Int.tdiv a0 a3) % 4294967296))) else ((spec_l04Right.f a0 a3 ((((Int.tdiv (2147483648 : Int) a3) % 4294967296) * 2) % 4294967296)).bind fun t152 => (some (Go.bits .xor .u32 (Go.bits .xor .u32 t150 t151) t152))))))) = some r := H
    have A7 := Aside0.mk A70
    clear A70
    by_cases c8 : a2 = 0
    · rw [if_pos c8] at H
      exact absurd H (by simp)
    · rw [if_neg c8] at H
      have c8b0 : (a2 == 0) = false := beq_eq_false_iff_ne.mpr c8
      have c8b1 : (a2 != 0) = true := bne_iff_ne.mpr c8
      replace H := Option.bind_eq_some_iff.mp H
      obtain ⟨t151, A90, H⟩ := H
      replace H : (if a3 = 0 then (none) else (if a4 = true then (some (Go.bits .xor .u32 (Go.bits .xor .u32 t150 t151) ((Int.tdiv a0 a3) % 4294967296))) else ((spec_l04Right.f a0 a3 ((((Int.tdiv (2147483648 : Int) a3) % 4294967296) * 2) % 4294967296)).bind fun t152 => (some (Go.bits .xor .u32 (Go.bits .xor .u32 t150 t151) t152))))) = some r := H
      have A9 := Aside0.mk A90
      clear A90
      by_cases c10 : a3 = 0
      · rw [if_pos c10] at H
        exact absurd H (by simp)
      · rw [if_neg c10] at H
        have c10b0 : (a3 == 0) = false := beq_eq_false_iff_ne.mpr c10
        have c10b1 : (a3 != 0) = true := bne_iff_ne.mpr c10
        by_cases c11 : a4 = true
        · subst c11
          have H1 : (some (Go.bits .xor .u32 (Go.bits .xor .u32 t150 t151) ((Int.tdiv a0 a3) % 4294967296))) = some r := by rw [if_pos rfl] at H; exact H
          clear H
          have H := H1
          clear H1
          obtain rfl := Option.some.inj H
          go_enter Try.func51, Try.ntmps51
          go_wp2_with (first | ((with_reducible refine gate_callee (f := 52) rfl ?_); refine goesL_ (some 19) rfl rfl Try.func52 (by kernel_rfl) rfl #[.int .u32 a0, .int .u32 a1, .int .u32 ((((Int.tdiv (2147483648 : Int) a1) % 4294967296) * 2) % 4294967296)] rfl (by (try simp only [List.map_toArray, List.map_cons, List.map_nil]); first | done | rfl | (simp only [List.length_drop, List.length_take]; rfl)) ?_; (with_reducible refine (spec_l04Right.calls a0 a1 ((((Int.tdiv (2147483648 : Int) a1) % 4294967296) * 2) % 4294967296) t150 _ A7.out).mono ?_); rintro e w' ⟨rfl, ⟨nd, rfl⟩⟩; refine ⟨_, rfl, ?_⟩) | ((with_reducible refine gate_callee (f := 52) rfl ?_); refine goesL_ (some 25) rfl rfl Try.func52 (by kernel_rfl) rfl #[.int .u32 a0, .int .u32 a2, .int .u32 ((((Int.tdiv (2147483648 : Int) a2) % 4294967296) * 2) % 4294967296)] rfl (by (try simp only [List.map_toArray, List.map_cons, List.map_nil]); first | done | rfl | (simp only [List.length_drop, List.length_take]; rfl)) ?_; (with_reducible refine (spec_l04Right.calls a0 a2 ((((Int.tdiv (2147483648 : Int) a2) % 4294967296) * 2) % 4294967296) t151 _ A9.out).mono ?_); rintro e w' ⟨rfl, ⟨nd, rfl⟩⟩; refine ⟨_, rfl, ?_⟩))
          go_ret
          exact ⟨by first | rfl | (simp; done) | (simp [*]; done), by repeat (first | exact Drawn0.refl _ | apply Drawn0.step)⟩
        · replace c11 := Bool.eq_false_iff.mpr c11
          subst c11
          have H1 : ((spec_l04Right.f a0 a3 ((((Int.tdiv (2147483648 : Int) a3) % 4294967296) * 2) % 4294967296)).bind fun t152 => (some (Go.bits .xor .u32 (Go.bits .xor .u32 t150 t151) t152))) = some r := by rw [if_neg (show ¬ (false = true) by decide)] at H; exact H
          clear H
          have H := H1
          clear H1
          replace H := Option.bind_eq_some_iff.mp H
          obtain ⟨t152, A120, H⟩ := H
          replace H : (some (Go.bits .xor .u32 (Go.bits .xor .u32 t150 t151) t152)) = some r := H
          have A12 := Aside0.mk A120
          clear A120
          obtain rfl := Option.some.inj H
          go_enter Try.func51, Try.ntmps51
          go_wp2_with (first | ((with_reducible refine gate_callee (f := 52) rfl ?_); refine goesL_ (some 19) rfl rfl Try.func52 (by kernel_rfl) rfl #[.int .u32 a0, .int .u32 a1, .int .u32 ((((Int.tdiv (2147483648 : Int) a1) % 4294967296) * 2) % 4294967296)] rfl (by (try simp only [List.map_toArray, List.map_cons, List.map_nil]); first | done | rfl | (simp only [List.length_drop, List.length_take]; rfl)) ?_; (with_reducible refine (spec_l04Right.calls a0 a1 ((((Int.tdiv (2147483648 : Int) a1) % 4294967296) * 2) % 4294967296) t150 _ A7.out).mono ?_); rintro e w' ⟨rfl, ⟨nd, rfl⟩⟩; refine ⟨_, rfl, ?_⟩) | ((with_reducible refine gate_callee (f := 52) rfl ?_); refine goesL_ (some 25) rfl rfl Try.func52 (by kernel_rfl) rfl #[.int .u32 a0, .int .u32 a2, .int .u32 ((((Int.tdiv (2147483648 : Int) a2) % 4294967296) * 2) % 4294967296)] rfl (by (try simp only [List.map_toArray, List.map_cons, List.map_nil]); first | done | rfl | (simp only [List.length_drop, List.length_take]; rfl)) ?_; (with_reducible refine (spec_l04Right.calls a0 a2 ((((Int.tdiv (2147483648 : Int) a2) % 4294967296) * 2) % 4294967296) t151 _ A9.out).mono ?_); rintro e w' ⟨rfl, ⟨nd, rfl⟩⟩; refine ⟨_, rfl, ?_⟩) | ((with_reducible refine gate_callee (f := 52) rfl ?_); refine goesL_ (some 36) rfl rfl Try.func52 (by kernel_rfl) rfl #[.int .u32 a0, .int .u32 a3, .int .u32 ((((Int.tdiv (2147483648 : Int) a3) % 4294967296) * 2) % 4294967296)] rfl (by (try simp only [List.map_toArray, List.map_cons, List.map_nil]); first | done | rfl | (simp only [List.length_drop, List.length_take]; rfl)) ?_; (with_reducible refine (spec_l04Right.calls a0 a3 ((((Int.tdiv (2147483648 : Int) a3) % 4294967296) * 2) % 4294967296) t152 _ A12.out).mono ?_); rintro e w' ⟨rfl, ⟨nd, rfl⟩⟩; refine ⟨_, rfl, ?_⟩))
          go_ret
          exact ⟨by first | rfl | (simp; done) | (simp [*]; done), by repeat (first | exact Drawn0.refl _ | apply Drawn0.step)⟩

end Go.Proofs.Ytgepaoikhfofmab.PFnShared
