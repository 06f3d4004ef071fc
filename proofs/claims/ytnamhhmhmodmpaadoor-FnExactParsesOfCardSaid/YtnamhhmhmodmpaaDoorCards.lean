/-
  DERIVED. GIVEN WITH THE SEED: THE CARDS: each row of YtnamhhmhmodmpaaDoorRows.lean that lists a variable, with what it lists TIED to the program's text (the seventh form; the later family's looks); each row that meets fmt, with fmt's text TOLD by the authors' own Lean function (tested against real Go, not proved from fmt's source: count such statements apart). THE CARD IS WHAT COUNTS. Prove the row's statement (the work); the ties are given (YtnamhhmhmodmpaaDoorTie.lean); close each card by the builder's one call (the guide's Derived/Test/ToyasCard.lean, 'card_holds'). Laid BY PROGRAM, IN A SANDBOX (cutbox-door.mjs). By AI agents, Wed Nov 11 2026. No macro, syntax, notation, axiom, sorry.
-/
import Derived.Test.YtnamhhmhmodmpaaDoorRows
import GoSem.ClaimSeven
namespace Go.Proofs.YtnamhhmhmodmpaaDoor
namespace Rows

/-- THE TIED CARD OF 'laws.FnExactIsCode'. -/
def fnExactIsCodeCard : Claim7 := { stood := { row := fnExactIsCodeRow, standIns := [], harness := (true, "ff771a2630b90f2b9fbf71fcd8d33ca7c7c095460b525a5cd3cc5a61bfda1255"), looks := false }, kinds := [], alts := [], laidByText := true, laidKinds := [.data, .pinned], laidTests := true, laidLooks := .later }
def FnExactIsCodeCardSaid : Prop := Claim7.holds Tryd.pinned (.plain (OpenSpec.ofChange fnExactIsCodeSpec)) fnExactIsCodeCard

/-- THE TIED CARD OF 'laws.FnExactIsPrefixCode'. -/
def fnExactIsPrefixCodeCard : Claim7 := { stood := { row := fnExactIsPrefixCodeRow, standIns := [], harness := (true, "ff771a2630b90f2b9fbf71fcd8d33ca7c7c095460b525a5cd3cc5a61bfda1255"), looks := false }, kinds := [], alts := [], laidByText := true, laidKinds := [.data, .pinned], laidTests := true, laidLooks := .later }
def FnExactIsPrefixCodeCardSaid : Prop := Claim7.holds Tryd.pinned (.plain (OpenSpec.ofChange fnExactIsPrefixCodeSpec)) fnExactIsPrefixCodeCard

/-- THE TIED CARD OF 'laws.FnExactParsesOf'. -/
def fnExactParsesOfCard : Claim7 := { stood := { row := fnExactParsesOfRow, standIns := [], harness := (true, "ff771a2630b90f2b9fbf71fcd8d33ca7c7c095460b525a5cd3cc5a61bfda1255"), looks := false }, kinds := [], alts := [], laidByText := true, laidKinds := [.data, .pinned], laidTests := true, laidLooks := .later }
def FnExactParsesOfCardSaid : Prop := Claim7.holds Tryd.pinned (.plain (OpenSpec.ofChange fnExactParsesOfSpec)) fnExactParsesOfCard

/-- THE TIED CARD OF 'laws.FnExactIsCompleteCode'. -/
def fnExactIsCompleteCodeCard : Claim7 := { stood := { row := fnExactIsCompleteCodeRow, standIns := [], harness := (true, "ff771a2630b90f2b9fbf71fcd8d33ca7c7c095460b525a5cd3cc5a61bfda1255"), looks := false }, kinds := [], alts := [], laidByText := true, laidKinds := [.data, .pinned], laidTests := true, laidLooks := .later }
def FnExactIsCompleteCodeCardSaid : Prop := Claim7.holds Tryd.pinned (.plain (OpenSpec.ofChange fnExactIsCompleteCodeSpec)) fnExactIsCompleteCodeCard

/-- THE TIED CARD OF 'laws.FnExactIsDecodable'. -/
def fnExactIsDecodableCard : Claim7 := { stood := { row := fnExactIsDecodableRow, standIns := [], harness := (true, "ff771a2630b90f2b9fbf71fcd8d33ca7c7c095460b525a5cd3cc5a61bfda1255"), looks := false }, kinds := [], alts := [], laidByText := true, laidKinds := [.data, .pinned], laidTests := true, laidLooks := .later }
def FnExactIsDecodableCardSaid : Prop := Claim7.holds Tryd.pinned (.plain (OpenSpec.ofChange fnExactIsDecodableSpec)) fnExactIsDecodableCard

/-- THE TIED CARD OF 'laws.FnExactShortestClash'. -/
def fnExactShortestClashCard : Claim7 := { stood := { row := fnExactShortestClashRow, standIns := [], harness := (true, "ff771a2630b90f2b9fbf71fcd8d33ca7c7c095460b525a5cd3cc5a61bfda1255"), looks := false }, kinds := [], alts := [], laidByText := true, laidKinds := [.data, .pinned], laidTests := true, laidLooks := .later }
def FnExactShortestClashCardSaid : Prop := Claim7.holds Tryd.pinned (.plain (OpenSpec.ofChange fnExactShortestClashSpec)) fnExactShortestClashCard

/-- THE TIED CARD OF 'laws.FnExactDecodeWords'. -/
def fnExactDecodeWordsCard : Claim7 := { stood := { row := fnExactDecodeWordsRow, standIns := [], harness := (true, "ff771a2630b90f2b9fbf71fcd8d33ca7c7c095460b525a5cd3cc5a61bfda1255"), looks := false }, kinds := [], alts := [], laidByText := true, laidKinds := [.data, .pinned], laidTests := true, laidLooks := .later }
def FnExactDecodeWordsCardSaid : Prop := Claim7.holds Tryd.pinned (.plain (OpenSpec.ofChange fnExactDecodeWordsSpec)) fnExactDecodeWordsCard

/-- THE SECOND FORM's CARD OF 'laws.FnExactIsCode'. -/
def fnExactIsCodeUptoCard : Claim7 := { stood := { row := fnExactIsCodeUptoRow, standIns := [], harness := (true, "ff771a2630b90f2b9fbf71fcd8d33ca7c7c095460b525a5cd3cc5a61bfda1255"), looks := false }, kinds := [], alts := [], laidByText := true, laidKinds := [.data, .pinned], laidTests := true, laidLooks := .later }
def FnExactIsCodeUptoCardSaid : Prop := Claim7.holds Tryd.pinned (.plain (OpenSpec.upto fnExactIsCodeSpec)) fnExactIsCodeUptoCard

/-- THE SECOND FORM's CARD OF 'laws.FnExactIsPrefixCode'. -/
def fnExactIsPrefixCodeUptoCard : Claim7 := { stood := { row := fnExactIsPrefixCodeUptoRow, standIns := [], harness := (true, "ff771a2630b90f2b9fbf71fcd8d33ca7c7c095460b525a5cd3cc5a61bfda1255"), looks := false }, kinds := [], alts := [], laidByText := true, laidKinds := [.data, .pinned], laidTests := true, laidLooks := .later }
def FnExactIsPrefixCodeUptoCardSaid : Prop := Claim7.holds Tryd.pinned (.plain (OpenSpec.upto fnExactIsPrefixCodeSpec)) fnExactIsPrefixCodeUptoCard

/-- THE SECOND FORM's CARD OF 'laws.FnExactParsesOf'. -/
def fnExactParsesOfUptoCard : Claim7 := { stood := { row := fnExactParsesOfUptoRow, standIns := [], harness := (true, "ff771a2630b90f2b9fbf71fcd8d33ca7c7c095460b525a5cd3cc5a61bfda1255"), looks := false }, kinds := [], alts := [], laidByText := true, laidKinds := [.data, .pinned], laidTests := true, laidLooks := .later }
def FnExactParsesOfUptoCardSaid : Prop := Claim7.holds Tryd.pinned (.plain (OpenSpec.upto fnExactParsesOfSpec)) fnExactParsesOfUptoCard

/-- THE SECOND FORM's CARD OF 'laws.FnExactIsCompleteCode'. -/
def fnExactIsCompleteCodeUptoCard : Claim7 := { stood := { row := fnExactIsCompleteCodeUptoRow, standIns := [], harness := (true, "ff771a2630b90f2b9fbf71fcd8d33ca7c7c095460b525a5cd3cc5a61bfda1255"), looks := false }, kinds := [], alts := [], laidByText := true, laidKinds := [.data, .pinned], laidTests := true, laidLooks := .later }
def FnExactIsCompleteCodeUptoCardSaid : Prop := Claim7.holds Tryd.pinned (.plain (OpenSpec.upto fnExactIsCompleteCodeSpec)) fnExactIsCompleteCodeUptoCard

/-- THE SECOND FORM's CARD OF 'laws.FnExactIsDecodable'. -/
def fnExactIsDecodableUptoCard : Claim7 := { stood := { row := fnExactIsDecodableUptoRow, standIns := [], harness := (true, "ff771a2630b90f2b9fbf71fcd8d33ca7c7c095460b525a5cd3cc5a61bfda1255"), looks := false }, kinds := [], alts := [], laidByText := true, laidKinds := [.data, .pinned], laidTests := true, laidLooks := .later }
def FnExactIsDecodableUptoCardSaid : Prop := Claim7.holds Tryd.pinned (.plain (OpenSpec.upto fnExactIsDecodableSpec)) fnExactIsDecodableUptoCard

/-- THE SECOND FORM's CARD OF 'laws.FnExactShortestClash'. -/
def fnExactShortestClashUptoCard : Claim7 := { stood := { row := fnExactShortestClashUptoRow, standIns := [], harness := (true, "ff771a2630b90f2b9fbf71fcd8d33ca7c7c095460b525a5cd3cc5a61bfda1255"), looks := false }, kinds := [], alts := [], laidByText := true, laidKinds := [.data, .pinned], laidTests := true, laidLooks := .later }
def FnExactShortestClashUptoCardSaid : Prop := Claim7.holds Tryd.pinned (.plain (OpenSpec.upto fnExactShortestClashSpec)) fnExactShortestClashUptoCard

/-- THE SECOND FORM's CARD OF 'laws.FnExactDecodeWords'. -/
def fnExactDecodeWordsUptoCard : Claim7 := { stood := { row := fnExactDecodeWordsUptoRow, standIns := [], harness := (true, "ff771a2630b90f2b9fbf71fcd8d33ca7c7c095460b525a5cd3cc5a61bfda1255"), looks := false }, kinds := [], alts := [], laidByText := true, laidKinds := [.data, .pinned], laidTests := true, laidLooks := .later }
def FnExactDecodeWordsUptoCardSaid : Prop := Claim7.holds Tryd.pinned (.plain (OpenSpec.upto fnExactDecodeWordsSpec)) fnExactDecodeWordsUptoCard
end Rows
end Go.Proofs.YtnamhhmhmodmpaaDoor
