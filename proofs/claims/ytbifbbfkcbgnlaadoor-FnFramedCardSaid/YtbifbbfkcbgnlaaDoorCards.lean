/-
  DERIVED. GIVEN WITH THE SEED: THE CARDS: each row of YtbifbbfkcbgnlaaDoorRows.lean that lists a variable, with what it lists TIED to the program's text (the seventh form; the later family's looks); each row that meets fmt, with fmt's text TOLD by the authors' own Lean function (tested against real Go, not proved from fmt's source: count such statements apart). THE CARD IS WHAT COUNTS. Prove the row's statement (the work); the ties are given (YtbifbbfkcbgnlaaDoorTie.lean); close each card by the builder's one call (the guide's Derived/Test/ToyasCard.lean, 'card_holds'). Laid BY PROGRAM, IN A SANDBOX (cutbox-door.mjs). By AI agents, Wed Nov 11 2026. No macro, syntax, notation, axiom, sorry.
-/
import Derived.Test.YtbifbbfkcbgnlaaDoorRows
import GoSem.ClaimSeven
namespace Go.Proofs.YtbifbbfkcbgnlaaDoor
namespace Rows

/-- THE TIED CARD OF 'laws.FnExactUnstuffBits'. -/
def fnExactUnstuffBitsCard : Claim7 := { stood := { row := fnExactUnstuffBitsRow, standIns := [], harness := (true, "b0c67f5904de5cb37a8837eff654d058b78626b72cea3f88fdfeed1c691501f1"), looks := false }, kinds := [], alts := [], laidByText := true, laidKinds := [.data, .pinned], laidTests := true, laidLooks := .later }
def FnExactUnstuffBitsCardSaid : Prop := Claim7.holds Tryd.pinned (.plain (OpenSpec.ofChange fnExactUnstuffBitsSpec)) fnExactUnstuffBitsCard

/-- THE TIED CARD OF 'laws.FnStuffed'. -/
def fnStuffedCard : Claim7 := { stood := { row := fnStuffedRow, standIns := [], harness := (true, "b0c67f5904de5cb37a8837eff654d058b78626b72cea3f88fdfeed1c691501f1"), looks := false }, kinds := [], alts := [], laidByText := true, laidKinds := [.data, .pinned], laidTests := true, laidLooks := .later }
def FnStuffedCardSaid : Prop := Claim7.holds Tryd.pinned (.plain (OpenSpec.ofChange fnStuffedSpec)) fnStuffedCard

/-- THE TIED CARD OF 'laws.FnFramed'. -/
def fnFramedCard : Claim7 := { stood := { row := fnFramedRow, standIns := [], harness := (true, "b0c67f5904de5cb37a8837eff654d058b78626b72cea3f88fdfeed1c691501f1"), looks := false }, kinds := [], alts := [], laidByText := true, laidKinds := [.data, .pinned], laidTests := true, laidLooks := .later }
def FnFramedCardSaid : Prop := Claim7.holds Tryd.pinned (.plain (OpenSpec.ofChange fnFramedSpec)) fnFramedCard

/-- THE TIED CARD OF 'laws.FnExactDeframeBits'. -/
def fnExactDeframeBitsCard : Claim7 := { stood := { row := fnExactDeframeBitsRow, standIns := [], harness := (true, "b0c67f5904de5cb37a8837eff654d058b78626b72cea3f88fdfeed1c691501f1"), looks := false }, kinds := [], alts := [], laidByText := true, laidKinds := [.data, .pinned], laidTests := true, laidLooks := .later }
def FnExactDeframeBitsCardSaid : Prop := Claim7.holds Tryd.pinned (.plain (OpenSpec.ofChange fnExactDeframeBitsSpec)) fnExactDeframeBitsCard

/-- THE SECOND FORM's CARD OF 'laws.FnExactUnstuffBits'. -/
def fnExactUnstuffBitsUptoCard : Claim7 := { stood := { row := fnExactUnstuffBitsUptoRow, standIns := [], harness := (true, "b0c67f5904de5cb37a8837eff654d058b78626b72cea3f88fdfeed1c691501f1"), looks := false }, kinds := [], alts := [], laidByText := true, laidKinds := [.data, .pinned], laidTests := true, laidLooks := .later }
def FnExactUnstuffBitsUptoCardSaid : Prop := Claim7.holds Tryd.pinned (.plain (OpenSpec.upto fnExactUnstuffBitsSpec)) fnExactUnstuffBitsUptoCard

/-- THE SECOND FORM's CARD OF 'laws.FnStuffed'. -/
def fnStuffedUptoCard : Claim7 := { stood := { row := fnStuffedUptoRow, standIns := [], harness := (true, "b0c67f5904de5cb37a8837eff654d058b78626b72cea3f88fdfeed1c691501f1"), looks := false }, kinds := [], alts := [], laidByText := true, laidKinds := [.data, .pinned], laidTests := true, laidLooks := .later }
def FnStuffedUptoCardSaid : Prop := Claim7.holds Tryd.pinned (.plain (OpenSpec.upto fnStuffedSpec)) fnStuffedUptoCard

/-- THE SECOND FORM's CARD OF 'laws.FnFramed'. -/
def fnFramedUptoCard : Claim7 := { stood := { row := fnFramedUptoRow, standIns := [], harness := (true, "b0c67f5904de5cb37a8837eff654d058b78626b72cea3f88fdfeed1c691501f1"), looks := false }, kinds := [], alts := [], laidByText := true, laidKinds := [.data, .pinned], laidTests := true, laidLooks := .later }
def FnFramedUptoCardSaid : Prop := Claim7.holds Tryd.pinned (.plain (OpenSpec.upto fnFramedSpec)) fnFramedUptoCard

/-- THE SECOND FORM's CARD OF 'laws.FnExactDeframeBits'. -/
def fnExactDeframeBitsUptoCard : Claim7 := { stood := { row := fnExactDeframeBitsUptoRow, standIns := [], harness := (true, "b0c67f5904de5cb37a8837eff654d058b78626b72cea3f88fdfeed1c691501f1"), looks := false }, kinds := [], alts := [], laidByText := true, laidKinds := [.data, .pinned], laidTests := true, laidLooks := .later }
def FnExactDeframeBitsUptoCardSaid : Prop := Claim7.holds Tryd.pinned (.plain (OpenSpec.upto fnExactDeframeBitsSpec)) fnExactDeframeBitsUptoCard
end Rows
end Go.Proofs.YtbifbbfkcbgnlaaDoor
