/-
  DERIVED. GIVEN WITH THE SEED: THE CARDS: each row of YtgepaoikhfofmacDoorRows.lean that lists a variable, with what it lists TIED to the program's text (the seventh form; the later family's looks); each row that meets fmt, with fmt's text TOLD by the authors' own Lean function (tested against real Go, not proved from fmt's source: count such statements apart). THE CARD IS WHAT COUNTS. Prove the row's statement (the work); the ties are given (YtgepaoikhfofmacDoorTie.lean); close each card by the builder's one call (the guide's Derived/Test/ToyasCard.lean, 'card_holds'). Laid BY PROGRAM, IN A SANDBOX (cutbox-door.mjs). By AI agents, Wed Nov 11 2026. No macro, syntax, notation, axiom, sorry.
-/
import Derived.Test.YtgepaoikhfofmacDoorRows
import GoSem.ClaimSeven
namespace Go.Proofs.YtgepaoikhfofmacDoor
namespace Rows

/-- THE TIED CARD OF 'laws.FnNumbers'. -/
def fnNumbersCard : Claim7 := { stood := { row := fnNumbersRow, standIns := [], harness := (true, "19e2be8c2f9521f60021a05789d0c6fb1867ab0ff3794c16a462a55f2742da0e"), looks := true }, kinds := [], alts := [], laidByText := true, laidKinds := [.data, .data, .data, .sentinel, .sentinel], laidTests := true, laidLooks := .later }
def FnNumbersCardSaid : Prop := Claim7.holds Tryd.pinned (.plain (OpenSpec.ofChange fnNumbersSpec)) fnNumbersCard

/-- THE TIED CARD OF 'laws.FnExactReadAddr'. -/
def fnExactReadAddrCard : Claim7 := { stood := { row := fnExactReadAddrRow, standIns := [], harness := (true, "19e2be8c2f9521f60021a05789d0c6fb1867ab0ff3794c16a462a55f2742da0e"), looks := true }, kinds := [], alts := [], laidByText := true, laidKinds := [.data, .data, .data, .data, .sentinel, .sentinel, .pinned], laidTests := true, laidLooks := .later }
def FnExactReadAddrCardSaid : Prop := Claim7.holds Tryd.pinned (.plain (OpenSpec.ofChange fnExactReadAddrSpec)) fnExactReadAddrCard

/-- THE TIED CARD OF 'laws.FnExactDecimal'. -/
def fnExactDecimalCard : Claim7 := { stood := { row := fnExactDecimalRow, standIns := [], harness := (true, "19e2be8c2f9521f60021a05789d0c6fb1867ab0ff3794c16a462a55f2742da0e"), looks := true }, kinds := [], alts := [], laidByText := true, laidKinds := [.data, .data, .data], laidTests := true, laidLooks := .later }
def FnExactDecimalCardSaid : Prop := Claim7.holds Tryd.pinned (.plain (OpenSpec.ofChange fnExactDecimalSpec)) fnExactDecimalCard

/-- THE TIED CARD OF 'laws.FnExactAddrText'. -/
def fnExactAddrTextCard : Claim7 := { stood := { row := fnExactAddrTextRow, standIns := [], harness := (true, "19e2be8c2f9521f60021a05789d0c6fb1867ab0ff3794c16a462a55f2742da0e"), looks := true }, kinds := [], alts := [], laidByText := true, laidKinds := [.data, .data, .data], laidTests := true, laidLooks := .later }
def FnExactAddrTextCardSaid : Prop := Claim7.holds Tryd.pinned (.plain (OpenSpec.ofChange fnExactAddrTextSpec)) fnExactAddrTextCard

/-- THE SECOND FORM's CARD OF 'laws.FnNumbers'. -/
def fnNumbersUptoCard : Claim7 := { stood := { row := fnNumbersUptoRow, standIns := [], harness := (true, "19e2be8c2f9521f60021a05789d0c6fb1867ab0ff3794c16a462a55f2742da0e"), looks := true }, kinds := [], alts := [], laidByText := true, laidKinds := [.data, .data, .data, .sentinel, .sentinel], laidTests := true, laidLooks := .later }
def FnNumbersUptoCardSaid : Prop := Claim7.holds Tryd.pinned (.plain (OpenSpec.upto fnNumbersSpec)) fnNumbersUptoCard

/-- THE SECOND FORM's CARD OF 'laws.FnExactReadAddr'. -/
def fnExactReadAddrUptoCard : Claim7 := { stood := { row := fnExactReadAddrUptoRow, standIns := [], harness := (true, "19e2be8c2f9521f60021a05789d0c6fb1867ab0ff3794c16a462a55f2742da0e"), looks := true }, kinds := [], alts := [], laidByText := true, laidKinds := [.data, .data, .data, .data, .sentinel, .sentinel, .pinned], laidTests := true, laidLooks := .later }
def FnExactReadAddrUptoCardSaid : Prop := Claim7.holds Tryd.pinned (.plain (OpenSpec.upto fnExactReadAddrSpec)) fnExactReadAddrUptoCard

/-- THE SECOND FORM's CARD OF 'laws.FnExactDecimal'. -/
def fnExactDecimalUptoCard : Claim7 := { stood := { row := fnExactDecimalUptoRow, standIns := [], harness := (true, "19e2be8c2f9521f60021a05789d0c6fb1867ab0ff3794c16a462a55f2742da0e"), looks := true }, kinds := [], alts := [], laidByText := true, laidKinds := [.data, .data, .data], laidTests := true, laidLooks := .later }
def FnExactDecimalUptoCardSaid : Prop := Claim7.holds Tryd.pinned (.plain (OpenSpec.upto fnExactDecimalSpec)) fnExactDecimalUptoCard

/-- THE SECOND FORM's CARD OF 'laws.FnExactAddrText'. -/
def fnExactAddrTextUptoCard : Claim7 := { stood := { row := fnExactAddrTextUptoRow, standIns := [], harness := (true, "19e2be8c2f9521f60021a05789d0c6fb1867ab0ff3794c16a462a55f2742da0e"), looks := true }, kinds := [], alts := [], laidByText := true, laidKinds := [.data, .data, .data], laidTests := true, laidLooks := .later }
def FnExactAddrTextUptoCardSaid : Prop := Claim7.holds Tryd.pinned (.plain (OpenSpec.upto fnExactAddrTextSpec)) fnExactAddrTextUptoCard
end Rows
end Go.Proofs.YtgepaoikhfofmacDoor
