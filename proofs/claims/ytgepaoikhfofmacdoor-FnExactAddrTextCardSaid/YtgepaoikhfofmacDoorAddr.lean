/- FnExactAddrText: for every int the law returns true (AddrText of the program is AddrText of the reference); the tables of Go's library that strconv.Itoa reads are listed, and tied to the program's text. -/
import Derived.Test.YtgepaoikhfofmacDoorPureAddrText
import Derived.Test.YtgepaoikhfofmacDoorPAddrOkx
import Derived.Test.YtgepaoikhfofmacDoorShelfR
import Derived.Test.YtgepaoikhfofmacDoorCards
import Derived.Test.YtgepaoikhfofmacDoorTie
import Derived.WalkKit
import Derived.ProofKit
import Derived.OpenShut
import Derived.ShutString
import Derived.ChangeOld
import Derived.Below
import Derived.SizedLaws
import Derived.Lay
import Derived.Lib.LaidTab
import Derived.Lib.LaidU8
import Derived.LaidOnce
import Derived.SevenTiedAt
namespace Go.Proofs.YtgepaoikhfofmacDoor.addr
open Go.ChangeShapes Go.WideShapes Go.ChangeAt Go.RowKit Go.Lib
open Go.Proofs.YtgepaoikhfofmacDoor.Pure.AddrText (asB num addrT num_le dot_size)
open Go.Proofs.YtgepaoikhfofmacDoorW.PrintWords Go.Proofs.YtgepaoikhfofmacDoorW.PrintLast Go.Proofs.YtgepaoikhfofmacDoorW.PrintMore
set_option linter.unusedVariables false
set_option linter.unusedSimpArgs false
/-- The library's table of powers of ten lies as its initialiser lays it. -/
abbrev Tab (w : World) : Prop := Lib.TabIs Tryd.prog w "internal/strconv.uint64pow10" .u64 Lib.pow10Tab
theorem tab_below {w w' : World} (h : Tab w) (hb : Below w.heap.size w w') : Tab w' := by
  unfold Tab Lib.TabIs World.var? at *
  cases hg : Tryd.prog.globalNamed "internal/strconv.uint64pow10" with
  | none => simp [hg] at h
  | some g =>
    simp only [hg, Option.bind_some] at h ⊢
    have hlt : g < w.heap.size := by
      rcases Nat.lt_or_ge g w.heap.size with h' | h'
      · exact h'
      · rw [Array.getElem?_eq_none h'] at h; simp at h
    rw [hb.block g hlt]
    exact h
theorem grow_below (w : World) (k : Nat) (os : Array Obj) : Below w.heap.size w (Sort.grow (w.drewN k) os) := by
  refine ⟨rfl, rfl, rfl, ?_, fun j hj => ?_⟩
  · rw [Sort.size_grow]
    show w.heap.size ≤ (w.drewN k).heap.size + os.size
    have : (w.drewN k).heap.size = w.heap.size := rfl
    omega
  · rw [Sort.heap_grow_old _ _ (show j < (w.drewN k).heap.size from hj)]
    rfl
theorem int64 {x : Int} (w : (Lit.int .i64 x).wf = true) : -9223372036854775808 ≤ x ∧ x ≤ 9223372036854775807 := by
  simpa [Lit.wf, IntKind.min, IntKind.max, IntKind.signed, IntKind.bits] using w
set_option maxRecDepth 100000 in
theorem impl_Decimal.calls (n : Int) (h0 : -9223372036854775808 ≤ n) (h1 : n ≤ 9223372036854775807) (w : World) (hT : Tab w) :
    Calls Tryd.prog 12 #[.int .i64 n] w fun e w' => e = .returned (.string (asB (Lib.itoa n))) ∧ Below w.heap.size w w' := by
  go_enter Tryd.func12, Tryd.ntmps12
  go_wp2_with (go_at_call 27; refine (Tryd.strconv_Itoa n h0 h1 _ hT).mono ?_; rintro e w' ⟨rfl, k, os, rfl⟩)
  go_ret
  exact ⟨rfl, grow_below w k os⟩
theorem band (x : Int) (h0 : 0 ≤ x) (h1 : x < 9223372036854775808) : Go.bits .and .i64 x 255 = x % 256 :=
  bits_mask .i64 63 (by decide) (fun n a b => by rw [IntKind.wrap_i64]; omega) 8 (by decide) x h0 (by omega)
theorem no_lim {n : Nat} (h : n ≤ 1000) : (9223372036854775807 < n) = False := eq_false (Nat.not_lt.2 (Nat.le_trans h (by decide)))
set_option maxHeartbeats 4000000 in
set_option maxRecDepth 100000 in
theorem impl_AddrText.calls (a : Int) (h0 : -9223372036854775808 ≤ a) (h1 : a ≤ 9223372036854775807) (w : World) (hT : Tab w) :
    Calls Tryd.prog 22 #[.int .i64 a] w fun e w' => e = .returned (.string (addrT a)) ∧ Below w.heap.size w w' := by
  have HT := Aside0.mk hT
  have HB := Aside0.mk (Below.refl w.heap.size w)
  clear hT
  by_cases h : 0 ≤ a ∧ a ≤ 4294967295
  · have hok : PAddrOk.impl_AddrOk.f a = some true := by
      unfold PAddrOk.impl_AddrOk.f PAddrOk.impl_within.f
      rw [if_pos h.1]
      simp [h.2]
    have A1 := Aside0.mk hok
    clear hok
    have e2 := band (a / 65536) (by omega) (by omega)
    have e3 := band (a / 256) (by omega) (by omega)
    have e4 := band a (by omega) (by omega)
    have n1 := num_le (a / 16777216) (by omega) (by omega)
    have n2 := num_le (a / 65536 % 256) (by omega) (by omega)
    have n3 := num_le (a / 256 % 256) (by omega) (by omega)
    have n4 := num_le (a % 256) (by omega) (by omega)
    have R1 := Aside0.mk (show -9223372036854775808 ≤ a / 16777216 ∧ a / 16777216 ≤ 9223372036854775807 by omega)
    have R2 := Aside0.mk (show -9223372036854775808 ≤ a / 65536 % 256 ∧ a / 65536 % 256 ≤ 9223372036854775807 by omega)
    have R3 := Aside0.mk (show -9223372036854775808 ≤ a / 256 % 256 ∧ a / 256 % 256 ≤ 9223372036854775807 by omega)
    have R4 := Aside0.mk (show -9223372036854775808 ≤ a % 256 ∧ a % 256 ≤ 9223372036854775807 by omega)
    have hR : addrT a = ((((((num (a / 16777216) ++ (⟨#[46]⟩ : ByteArray)) ++ num (a / 65536 % 256)) ++ (⟨#[46]⟩ : ByteArray)) ++ num (a / 256 % 256)) ++ (⟨#[46]⟩ : ByteArray)) ++ num (a % 256)) := by
      unfold addrT
      rw [if_pos h]
    rw [hR]
    have D1 := Aside0.mk (show num (a / 16777216) = asB (Lib.itoa (a / 16777216)) from rfl)
    have D2 := Aside0.mk (show num (a / 65536 % 256) = asB (Lib.itoa (a / 65536 % 256)) from rfl)
    have D3 := Aside0.mk (show num (a / 256 % 256) = asB (Lib.itoa (a / 256 % 256)) from rfl)
    have D4 := Aside0.mk (show num (a % 256) = asB (Lib.itoa (a % 256)) from rfl)
    generalize num (a / 16777216) = t1 at *
    generalize num (a / 65536 % 256) = t2 at *
    generalize num (a / 256 % 256) = t3 at *
    generalize num (a % 256) = t4 at *
    have c1 := no_lim (n := t1.size + 1) (by omega)
    have c2 := no_lim (n := t1.size + 1 + t2.size) (by omega)
    have c3 := no_lim (n := t1.size + 1 + t2.size + 1) (by omega)
    have c4 := no_lim (n := t1.size + 1 + t2.size + 1 + t3.size) (by omega)
    have c5 := no_lim (n := t1.size + 1 + t2.size + 1 + t3.size + 1) (by omega)
    have c6 := no_lim (n := t1.size + 1 + t2.size + 1 + t3.size + 1 + t4.size) (by omega)
    clear h h0 h1 n1 n2 n3 n4 hR
    go_enter Tryd.func22, Tryd.ntmps22
    go_wp2_with (first
      | (go_at_call 38; (with_reducible refine (PAddrOk.impl_AddrOk.calls a true _ A1.out).mono ?_); rintro e w1 ⟨rfl, hd⟩; have n0_ := Aside0.mk (below_step HB.out hd.below); clear HB hd; have HB := n0_; clear n0_)
      | (go_at_call 12; (with_reducible refine (impl_Decimal.calls (a / 16777216) R1.out.1 R1.out.2 _ (tab_below HT.out HB.out)).mono ?_); rintro e w2 ⟨rfl, hd⟩; rw [← D1.out]; have n0_ := Aside0.mk (below_step HB.out hd); clear HB hd; have HB := n0_; clear n0_)
      | (go_at_call 12; (with_reducible refine (impl_Decimal.calls (a / 65536 % 256) R2.out.1 R2.out.2 _ (tab_below HT.out HB.out)).mono ?_); rintro e w2 ⟨rfl, hd⟩; rw [← D2.out]; have n0_ := Aside0.mk (below_step HB.out hd); clear HB hd; have HB := n0_; clear n0_)
      | (go_at_call 12; (with_reducible refine (impl_Decimal.calls (a / 256 % 256) R3.out.1 R3.out.2 _ (tab_below HT.out HB.out)).mono ?_); rintro e w2 ⟨rfl, hd⟩; rw [← D3.out]; have n0_ := Aside0.mk (below_step HB.out hd); clear HB hd; have HB := n0_; clear n0_)
      | (go_at_call 12; (with_reducible refine (impl_Decimal.calls (a % 256) R4.out.1 R4.out.2 _ (tab_below HT.out HB.out)).mono ?_); rintro e w2 ⟨rfl, hd⟩; rw [← D4.out]; have n0_ := Aside0.mk (below_step HB.out hd); clear HB hd; have HB := n0_; clear n0_))
    go_ret
    exact ⟨by first | rfl | (simp; done), HB.out⟩
  · have hok : PAddrOk.impl_AddrOk.f a = some false := by
      unfold PAddrOk.impl_AddrOk.f PAddrOk.impl_within.f
      by_cases h2 : 0 ≤ a
      · rw [if_pos h2]
        simp
        omega
      · rw [if_neg h2]
        rfl
    have A1 := Aside0.mk hok
    have hR : addrT a = ⟨#[]⟩ := by
      unfold addrT
      rw [if_neg h]
    rw [hR]
    clear hok h h0 h1 hR
    go_enter Tryd.func22, Tryd.ntmps22
    go_wp2_with (first
      | (go_at_call 38; (with_reducible refine (PAddrOk.impl_AddrOk.calls a false _ A1.out).mono ?_); rintro e w1 ⟨rfl, hd⟩; have n0_ := Aside0.mk (below_step HB.out hd.below); clear HB hd; have HB := n0_; clear n0_))
    go_ret
    exact ⟨by first | rfl | (simp; done), HB.out⟩
set_option maxRecDepth 100000 in
theorem law (n : Int) (h0 : -9223372036854775808 ≤ n) (h1 : n ≤ 9223372036854775807) (w : World) (hT : Tab w) :
    Calls Tryd.prog 6 #[.int .i64 n] w fun e w' => e = .returned (.bool true) ∧ Below w.heap.size w w' := by
  obtain ⟨k, hk⟩ := Pure.AddrText.AddrText_num n h0 h1
  have hK := Aside0.mk hk
  have HT := Aside0.mk hT
  have H0 := Aside0.mk h0
  have H1 := Aside0.mk h1
  clear hk hT h0 h1
  obtain ⟨t, ht⟩ : ∃ t, t = addrT n := ⟨_, rfl⟩
  rw [← ht] at hK
  have HE := Aside0.mk ht
  clear ht
  go_enter Tryd.func6, Tryd.ntmps6
  go_wp2_with (first
    | (go_at_call 21; (with_reducible refine (PAddrText.spec_AddrText.calls k n t _ hK.out).mono ?_); rintro e w1 ⟨rfl, hb⟩; have HB := Aside0.mk hb; clear hb)
    | (go_at_call 22; refine (impl_AddrText.calls n H0.out H1.out _ (tab_below HT.out HB.out)).mono ?_; rintro e w2 ⟨rfl, hb⟩; rw [← HE.out]; have HB2 := Aside0.mk (Below.trans HB.out (hb.mono HB.out.size)); clear hb))
  go_ret
  exact ⟨by first | rfl | (simp; done), HB2.out⟩
theorem own : ownKnob Tryd.prog.godebug = none := by kernel_rfl
theorem tab_of_laid {W : World} (h : laidMet Tryd.prog Rows.fnExactAddrTextRow.laid W) : Tab W := by
  have hr : VarReads Tryd.prog W "internal/strconv.uint64pow10" (tabData .u64 Lib.pow10Tab) := laidMet.reads h (.tail _ (.tail _ (.head _)))
  obtain ⟨g', t', cs, fuel, p, hg', ht', hvar, hd⟩ := hr
  obtain rfl := Option.some.inj ((show Tryd.prog.globalNamed "internal/strconv.uint64pow10" = some 3 by kernel_rfl).symm.trans hg')
  obtain rfl := Option.some.inj ((show (Tryd.prog.globals[3]?).map (·.type) = some 93 by kernel_rfl).symm.trans ht')
  unfold Tab Lib.TabIs
  rw [hvar, ← cells_of_tab Tryd.underlying93 Tryd.underlying71 (by kernel_rfl) (by kernel_rfl) hd]
set_option maxRecDepth 100000 in
theorem lifted (os : Os) (started : os.Started) (H : Type) (enc : TypeId × Value → H) :
    ReturnsInHanded {} Tryd.checked os 6 .any (fun w args => (Rows.fnExactAddrTextSpec.pre enc Tryd.prog Tryd.f6 [] false w args ∧ laidMetH Tryd.prog Rows.fnExactAddrTextRow.laid w) ∧ sizedMet enc Tryd.prog Tryd.f6 (OpenSpec.ofChange Rows.fnExactAddrTextSpec) false w args)
      (Rows.fnExactAddrTextSpec.post enc Tryd.prog Tryd.f6 false true false false) := by
  refine returnsInHanded_of_change_and (C := Tryd.checked) (X := fun w _ => laidMetH Tryd.prog Rows.fnExactAddrTextRow.laid w) (fun _ _ _ hh h => h.of_heap hh) own started (by kernel_rfl) Tryd.func6
    (ChangeSpec.witness_shaped (enc := enc) (C := Tryd.checked) (os := os) (X := fun w _ => laidMetH Tryd.prog Rows.fnExactAddrTextRow.laid w) false (World.laidAll Tryd.prog os Rows.fnExactAddrTextRow.laid) #[.int .i64 0] 8 (World.laidAll_os _ _ _)
      (World.shaped_of_ZipB (by kernel_rfl) (by kernel_rfl)) (by kernel_rfl) (by kernel_rfl) (by kernel_rfl)
      (by rw [MakeChecks.laidMetH_plain _ _ _ (by kernel_rfl)]; exact laidMet_laidAll _ (by kernel_rfl) (by kernel_rfl))) ?_
  intro W base args ds gs before hval0 hW _ _ hL _
  have hval : ∀ (j : Nat) t v, Tryd.f6.params[j]? = some t → args[j]? = some v → Value.okWide Tryd.prog W .any base t v := hval0
  have hW' := hW
  obtain ⟨p, q, hA0, hV, rfl, _, _⟩ := hW
  have hA : DataW.TrodAll enc Tryd.prog W 0 (fun _ => true) true Tryd.f6.params.toList args.toList ds p := hA0
  rw [Tryd.params6] at hA hval
  obtain ⟨v0, d0, rfl, rfl, h0⟩ := trodAll_one hA
  obtain ⟨rfl, rfl⟩ := trodVars_none hV
  obtain ⟨x, rfl, rfl, rfl, wx⟩ := open_int Tryd.underlying3 (hval 0 3 v0 rfl rfl) h0
  simp only [List.append_nil] at hW'
  have hx := int64 wx
  rw [MakeChecks.laidMetH_plain _ _ _ (by kernel_rfl)] at hL
  refine (law x hx.1 hx.2 W (tab_of_laid hL)).mono fun e W' ⟨he, hb⟩ => ?_
  subst he
  exact ⟨_, rfl, _, _, _, [], [], [], hW', trodAll_mk1 (shut_bool Tryd.underlying4 _), trodAll_mk1 (shut_int Tryd.underlying3 wx), rfl, hb.frame _, fun h => by cases h⟩
theorem holds : Rows.FnExactAddrTextSaid :=
  OpenClaim.holds_of_wide 6 Tryd.f6 rfl rfl rfl rfl rfl rfl rfl ⟨rfl, rfl, rfl, rfl, rfl⟩ rfl rfl rfl rfl rfl (by kernel_rfl) Tryd.func6 (by kernel_rfl)
    (of_decide_eq_true (by kernel_rfl)) (by unfold Func.isWrapper; first | (rw [if_pos (by decide +kernel)]; kernel_rfl) | (rw [if_neg (by decide +kernel)]; exact ⟨rfl, rfl⟩))
    (fun os started H enc _ => lifted os started H enc)
theorem card_holds : Rows.FnExactAddrTextCardSaid :=
  Claim7.holds_tied_plain_at .later [] [.data, .data, .data] true (true, "19e2be8c2f9521f60021a05789d0c6fb1867ab0ff3794c16a462a55f2742da0e") true holds (fun _ h => by cases h) (by kernel_rfl) (fun _ h => by cases h) fnExactAddrText_row_tie rfl ⟨rfl, rfl⟩ (by kernel_rfl) rfl
    (fun f fn hf hfn => by
      obtain rfl : f = 6 := Option.some.inj ((show Tryd.prog.funcNamed "loop.example/g00193/laws.FnExactAddrText" = some 6 by kernel_rfl).symm.trans hf) |>.symm
      obtain rfl : fn = Tryd.f6 := (Option.some.inj (Tryd.func6.symm.trans hfn)).symm
      exact ⟨by kernel_rfl, fun j t ht => by
        rw [Tryd.params6] at ht
        have hm : t ∈ [3] := by simpa using Array.mem_of_getElem? ht
        have hall : ([3].all fun u => !Tryd.prog.wantsStandIn u) = true := by kernel_rfl
        exact (show Tryd.prog.wantsStandIn t = false by simpa using List.all_eq_true.1 hall t hm)⟩)
    (by kernel_rfl)
#print axioms card_holds
end Go.Proofs.YtgepaoikhfofmacDoor.addr
namespace Go.Proofs.YtgepaoikhfofmacDoor
/-- The card, under a short name, for the claim. -/
theorem fnExactAddrText_card : Rows.FnExactAddrTextCardSaid := addr.card_holds
end Go.Proofs.YtgepaoikhfofmacDoor
