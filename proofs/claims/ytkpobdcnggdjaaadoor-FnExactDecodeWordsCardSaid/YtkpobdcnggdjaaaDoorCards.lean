/-
  DERIVED. GIVEN WITH THE SEED: THE CARDS: each row of YtkpobdcnggdjaaaDoorRows.lean that lists a variable, with what it lists TIED to the program's text (the seventh form; the later family's looks); each row that meets fmt, with fmt's text TOLD by the authors' own Lean function (tested against real Go, not proved from fmt's source: count such statements apart). THE CARD IS WHAT COUNTS. Prove the row's statement (the work); the ties are given (YtkpobdcnggdjaaaDoorTie.lean); close each card by the builder's one call (the guide's Derived/Test/ToyasCard.lean, 'card_holds'). Laid BY PROGRAM, IN A SANDBOX (cutbox-door.mjs). By AI agents, Wed Nov 11 2026. No macro, syntax, notation, axiom, sorry.
-/
import Derived.Test.YtkpobdcnggdjaaaDoorRows
import GoSem.ClaimSeven
namespace Go.Proofs.YtkpobdcnggdjaaaDoor
namespace Rows

/-- THE TIED CARD OF 'laws.FnExactIsDecodable'. -/
def fnExactIsDecodableCard : Claim7 := { stood := { row := fnExactIsDecodableRow, standIns := [], harness := (true, "910b731e10e1bec1515bd96b54e319f91b7bb379e0fac88f482c6d7ad2792560"), looks := false }, kinds := [], alts := [], laidByText := true, laidKinds := [.data, .pinned], laidTests := true, laidLooks := .later }
def FnExactIsDecodableCardSaid : Prop := Claim7.holds Tryd.pinned (.plain (OpenSpec.ofChange fnExactIsDecodableSpec)) fnExactIsDecodableCard

/-- THE TIED CARD OF 'laws.FnExactShortestClash'. -/
def fnExactShortestClashCard : Claim7 := { stood := { row := fnExactShortestClashRow, standIns := [], harness := (true, "910b731e10e1bec1515bd96b54e319f91b7bb379e0fac88f482c6d7ad2792560"), looks := false }, kinds := [], alts := [], laidByText := true, laidKinds := [.data, .pinned], laidTests := true, laidLooks := .later }
def FnExactShortestClashCardSaid : Prop := Claim7.holds Tryd.pinned (.plain (OpenSpec.ofChange fnExactShortestClashSpec)) fnExactShortestClashCard

/-- THE TIED CARD OF 'laws.FnExactDecodeWords'. -/
def fnExactDecodeWordsCard : Claim7 := { stood := { row := fnExactDecodeWordsRow, standIns := [], harness := (true, "910b731e10e1bec1515bd96b54e319f91b7bb379e0fac88f482c6d7ad2792560"), looks := false }, kinds := [], alts := [], laidByText := true, laidKinds := [.data, .pinned], laidTests := true, laidLooks := .later }
def FnExactDecodeWordsCardSaid : Prop := Claim7.holds Tryd.pinned (.plain (OpenSpec.ofChange fnExactDecodeWordsSpec)) fnExactDecodeWordsCard

/-- THE SECOND FORM's CARD OF 'laws.FnExactIsDecodable'. -/
def fnExactIsDecodableUptoCard : Claim7 := { stood := { row := fnExactIsDecodableUptoRow, standIns := [], harness := (true, "910b731e10e1bec1515bd96b54e319f91b7bb379e0fac88f482c6d7ad2792560"), looks := false }, kinds := [], alts := [], laidByText := true, laidKinds := [.data, .pinned], laidTests := true, laidLooks := .later }
def FnExactIsDecodableUptoCardSaid : Prop := Claim7.holds Tryd.pinned (.plain (OpenSpec.upto fnExactIsDecodableSpec)) fnExactIsDecodableUptoCard

/-- THE SECOND FORM's CARD OF 'laws.FnExactShortestClash'. -/
def fnExactShortestClashUptoCard : Claim7 := { stood := { row := fnExactShortestClashUptoRow, standIns := [], harness := (true, "910b731e10e1bec1515bd96b54e319f91b7bb379e0fac88f482c6d7ad2792560"), looks := false }, kinds := [], alts := [], laidByText := true, laidKinds := [.data, .pinned], laidTests := true, laidLooks := .later }
def FnExactShortestClashUptoCardSaid : Prop := Claim7.holds Tryd.pinned (.plain (OpenSpec.upto fnExactShortestClashSpec)) fnExactShortestClashUptoCard

/-- THE SECOND FORM's CARD OF 'laws.FnExactDecodeWords'. -/
def fnExactDecodeWordsUptoCard : Claim7 := { stood := { row := fnExactDecodeWordsUptoRow, standIns := [], harness := (true, "910b731e10e1bec1515bd96b54e319f91b7bb379e0fac88f482c6d7ad2792560"), looks := false }, kinds := [], alts := [], laidByText := true, laidKinds := [.data, .pinned], laidTests := true, laidLooks := .later }
def FnExactDecodeWordsUptoCardSaid : Prop := Claim7.holds Tryd.pinned (.plain (OpenSpec.upto fnExactDecodeWordsSpec)) fnExactDecodeWordsUptoCard
end Rows
end Go.Proofs.YtkpobdcnggdjaaaDoor
