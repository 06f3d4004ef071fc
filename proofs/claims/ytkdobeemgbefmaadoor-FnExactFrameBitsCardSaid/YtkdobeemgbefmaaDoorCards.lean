/-
  DERIVED. GIVEN WITH THE SEED: THE CARDS: each row of YtkdobeemgbefmaaDoorRows.lean that lists a variable, with what it lists TIED to the program's text (the seventh form; the later family's looks); each row that meets fmt, with fmt's text TOLD by the authors' own Lean function (tested against real Go, not proved from fmt's source: count such statements apart). THE CARD IS WHAT COUNTS. Prove the row's statement (the work); the ties are given (YtkdobeemgbefmaaDoorTie.lean); close each card by the builder's one call (the guide's Derived/Test/ToyasCard.lean, 'card_holds'). Laid BY PROGRAM, IN A SANDBOX (cutbox-door.mjs). By AI agents, Wed Nov 11 2026. No macro, syntax, notation, axiom, sorry.
-/
import Derived.Test.YtkdobeemgbefmaaDoorRows
import GoSem.ClaimSeven
namespace Go.Proofs.YtkdobeemgbefmaaDoor
namespace Rows

/-- THE TIED CARD OF 'laws.FnExactStuffBits'. -/
def fnExactStuffBitsCard : Claim7 := { stood := { row := fnExactStuffBitsRow, standIns := [], harness := (true, "ef5d80f22a4ee24a237937cc1203a96bafde62a97e38f424e04bed66295ddd85"), looks := false }, kinds := [], alts := [], laidByText := true, laidKinds := [.data, .pinned], laidTests := true, laidLooks := .later }
def FnExactStuffBitsCardSaid : Prop := Claim7.holds Tryd.pinned (.plain (OpenSpec.ofChange fnExactStuffBitsSpec)) fnExactStuffBitsCard

/-- THE TIED CARD OF 'laws.FnExactUnstuffBits'. -/
def fnExactUnstuffBitsCard : Claim7 := { stood := { row := fnExactUnstuffBitsRow, standIns := [], harness := (true, "ef5d80f22a4ee24a237937cc1203a96bafde62a97e38f424e04bed66295ddd85"), looks := false }, kinds := [], alts := [], laidByText := true, laidKinds := [.data, .pinned], laidTests := true, laidLooks := .later }
def FnExactUnstuffBitsCardSaid : Prop := Claim7.holds Tryd.pinned (.plain (OpenSpec.ofChange fnExactUnstuffBitsSpec)) fnExactUnstuffBitsCard

/-- THE TIED CARD OF 'laws.FnExactLongestRun'. -/
def fnExactLongestRunCard : Claim7 := { stood := { row := fnExactLongestRunRow, standIns := [], harness := (true, "ef5d80f22a4ee24a237937cc1203a96bafde62a97e38f424e04bed66295ddd85"), looks := false }, kinds := [], alts := [], laidByText := true, laidKinds := [.data, .pinned], laidTests := true, laidLooks := .later }
def FnExactLongestRunCardSaid : Prop := Claim7.holds Tryd.pinned (.plain (OpenSpec.ofChange fnExactLongestRunSpec)) fnExactLongestRunCard

/-- THE TIED CARD OF 'laws.FnExactFrameBits'. -/
def fnExactFrameBitsCard : Claim7 := { stood := { row := fnExactFrameBitsRow, standIns := [], harness := (true, "ef5d80f22a4ee24a237937cc1203a96bafde62a97e38f424e04bed66295ddd85"), looks := false }, kinds := [], alts := [], laidByText := true, laidKinds := [.data, .pinned], laidTests := true, laidLooks := .later }
def FnExactFrameBitsCardSaid : Prop := Claim7.holds Tryd.pinned (.plain (OpenSpec.ofChange fnExactFrameBitsSpec)) fnExactFrameBitsCard

/-- THE TIED CARD OF 'laws.FnExactDeframeBits'. -/
def fnExactDeframeBitsCard : Claim7 := { stood := { row := fnExactDeframeBitsRow, standIns := [], harness := (true, "ef5d80f22a4ee24a237937cc1203a96bafde62a97e38f424e04bed66295ddd85"), looks := false }, kinds := [], alts := [], laidByText := true, laidKinds := [.data, .pinned], laidTests := true, laidLooks := .later }
def FnExactDeframeBitsCardSaid : Prop := Claim7.holds Tryd.pinned (.plain (OpenSpec.ofChange fnExactDeframeBitsSpec)) fnExactDeframeBitsCard

/-- THE TIED CARD OF 'laws.FnStuffed'. -/
def fnStuffedCard : Claim7 := { stood := { row := fnStuffedRow, standIns := [], harness := (true, "ef5d80f22a4ee24a237937cc1203a96bafde62a97e38f424e04bed66295ddd85"), looks := false }, kinds := [], alts := [], laidByText := true, laidKinds := [.data, .pinned], laidTests := true, laidLooks := .later }
def FnStuffedCardSaid : Prop := Claim7.holds Tryd.pinned (.plain (OpenSpec.ofChange fnStuffedSpec)) fnStuffedCard

/-- THE TIED CARD OF 'laws.FnFramed'. -/
def fnFramedCard : Claim7 := { stood := { row := fnFramedRow, standIns := [], harness := (true, "ef5d80f22a4ee24a237937cc1203a96bafde62a97e38f424e04bed66295ddd85"), looks := false }, kinds := [], alts := [], laidByText := true, laidKinds := [.data, .pinned], laidTests := true, laidLooks := .later }
def FnFramedCardSaid : Prop := Claim7.holds Tryd.pinned (.plain (OpenSpec.ofChange fnFramedSpec)) fnFramedCard

/-- THE SECOND FORM's CARD OF 'laws.FnExactStuffBits'. -/
def fnExactStuffBitsUptoCard : Claim7 := { stood := { row := fnExactStuffBitsUptoRow, standIns := [], harness := (true, "ef5d80f22a4ee24a237937cc1203a96bafde62a97e38f424e04bed66295ddd85"), looks := false }, kinds := [], alts := [], laidByText := true, laidKinds := [.data, .pinned], laidTests := true, laidLooks := .later }
def FnExactStuffBitsUptoCardSaid : Prop := Claim7.holds Tryd.pinned (.plain (OpenSpec.upto fnExactStuffBitsSpec)) fnExactStuffBitsUptoCard

/-- THE SECOND FORM's CARD OF 'laws.FnExactUnstuffBits'. -/
def fnExactUnstuffBitsUptoCard : Claim7 := { stood := { row := fnExactUnstuffBitsUptoRow, standIns := [], harness := (true, "ef5d80f22a4ee24a237937cc1203a96bafde62a97e38f424e04bed66295ddd85"), looks := false }, kinds := [], alts := [], laidByText := true, laidKinds := [.data, .pinned], laidTests := true, laidLooks := .later }
def FnExactUnstuffBitsUptoCardSaid : Prop := Claim7.holds Tryd.pinned (.plain (OpenSpec.upto fnExactUnstuffBitsSpec)) fnExactUnstuffBitsUptoCard

/-- THE SECOND FORM's CARD OF 'laws.FnExactLongestRun'. -/
def fnExactLongestRunUptoCard : Claim7 := { stood := { row := fnExactLongestRunUptoRow, standIns := [], harness := (true, "ef5d80f22a4ee24a237937cc1203a96bafde62a97e38f424e04bed66295ddd85"), looks := false }, kinds := [], alts := [], laidByText := true, laidKinds := [.data, .pinned], laidTests := true, laidLooks := .later }
def FnExactLongestRunUptoCardSaid : Prop := Claim7.holds Tryd.pinned (.plain (OpenSpec.upto fnExactLongestRunSpec)) fnExactLongestRunUptoCard

/-- THE SECOND FORM's CARD OF 'laws.FnExactFrameBits'. -/
def fnExactFrameBitsUptoCard : Claim7 := { stood := { row := fnExactFrameBitsUptoRow, standIns := [], harness := (true, "ef5d80f22a4ee24a237937cc1203a96bafde62a97e38f424e04bed66295ddd85"), looks := false }, kinds := [], alts := [], laidByText := true, laidKinds := [.data, .pinned], laidTests := true, laidLooks := .later }
def FnExactFrameBitsUptoCardSaid : Prop := Claim7.holds Tryd.pinned (.plain (OpenSpec.upto fnExactFrameBitsSpec)) fnExactFrameBitsUptoCard

/-- THE SECOND FORM's CARD OF 'laws.FnExactDeframeBits'. -/
def fnExactDeframeBitsUptoCard : Claim7 := { stood := { row := fnExactDeframeBitsUptoRow, standIns := [], harness := (true, "ef5d80f22a4ee24a237937cc1203a96bafde62a97e38f424e04bed66295ddd85"), looks := false }, kinds := [], alts := [], laidByText := true, laidKinds := [.data, .pinned], laidTests := true, laidLooks := .later }
def FnExactDeframeBitsUptoCardSaid : Prop := Claim7.holds Tryd.pinned (.plain (OpenSpec.upto fnExactDeframeBitsSpec)) fnExactDeframeBitsUptoCard

/-- THE SECOND FORM's CARD OF 'laws.FnStuffed'. -/
def fnStuffedUptoCard : Claim7 := { stood := { row := fnStuffedUptoRow, standIns := [], harness := (true, "ef5d80f22a4ee24a237937cc1203a96bafde62a97e38f424e04bed66295ddd85"), looks := false }, kinds := [], alts := [], laidByText := true, laidKinds := [.data, .pinned], laidTests := true, laidLooks := .later }
def FnStuffedUptoCardSaid : Prop := Claim7.holds Tryd.pinned (.plain (OpenSpec.upto fnStuffedSpec)) fnStuffedUptoCard

/-- THE SECOND FORM's CARD OF 'laws.FnFramed'. -/
def fnFramedUptoCard : Claim7 := { stood := { row := fnFramedUptoRow, standIns := [], harness := (true, "ef5d80f22a4ee24a237937cc1203a96bafde62a97e38f424e04bed66295ddd85"), looks := false }, kinds := [], alts := [], laidByText := true, laidKinds := [.data, .pinned], laidTests := true, laidLooks := .later }
def FnFramedUptoCardSaid : Prop := Claim7.holds Tryd.pinned (.plain (OpenSpec.upto fnFramedSpec)) fnFramedUptoCard
end Rows
end Go.Proofs.YtkdobeemgbefmaaDoor
