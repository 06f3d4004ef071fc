/-
  DERIVED. GIVEN WITH THE SEED: THE CARDS: each row of YtondkjcmibnbpaaDoorRows.lean that lists a variable, with what it lists TIED to the program's text (the seventh form; the later family's looks); each row that meets fmt, with fmt's text TOLD by the authors' own Lean function (tested against real Go, not proved from fmt's source: count such statements apart). THE CARD IS WHAT COUNTS. Prove the row's statement (the work); the ties are given (YtondkjcmibnbpaaDoorTie.lean); close each card by the builder's one call (the guide's Derived/Test/ToyasCard.lean, 'card_holds'). Laid BY PROGRAM, IN A SANDBOX (cutbox-door.mjs). By AI agents, Wed Nov 11 2026. No macro, syntax, notation, axiom, sorry.
-/
import Derived.Test.YtondkjcmibnbpaaDoorRows
import GoSem.ClaimSeven
namespace Go.Proofs.YtondkjcmibnbpaaDoor
namespace Rows

/-- THE TIED CARD OF 'laws.FnSampled'. -/
def fnSampledCard : Claim7 := { stood := { row := fnSampledRow, standIns := [], harness := (true, "4de20925e46e187eebc5a56f7d067265d64fc4077a3f5efa044a897c52ae694b"), looks := false }, kinds := [], alts := [], laidByText := true, laidKinds := [.data, .pinned], laidTests := true, laidLooks := .later }
def FnSampledCardSaid : Prop := Claim7.holds Tryd.pinned (.plain (OpenSpec.ofChange fnSampledSpec)) fnSampledCard

/-- THE TIED CARD OF 'laws.FnKeys'. -/
def fnKeysCard : Claim7 := { stood := { row := fnKeysRow, standIns := [], harness := (true, "4de20925e46e187eebc5a56f7d067265d64fc4077a3f5efa044a897c52ae694b"), looks := false }, kinds := [], alts := [], laidByText := true, laidKinds := [.data, .pinned], laidTests := true, laidLooks := .later }
def FnKeysCardSaid : Prop := Claim7.holds Tryd.pinned (.plain (OpenSpec.ofChange fnKeysSpec)) fnKeysCard

/-- THE TIED CARD OF 'laws.FnExactReceiveBits'. -/
def fnExactReceiveBitsCard : Claim7 := { stood := { row := fnExactReceiveBitsRow, standIns := [], harness := (true, "4de20925e46e187eebc5a56f7d067265d64fc4077a3f5efa044a897c52ae694b"), looks := false }, kinds := [], alts := [], laidByText := true, laidKinds := [.data, .pinned], laidTests := true, laidLooks := .later }
def FnExactReceiveBitsCardSaid : Prop := Claim7.holds Tryd.pinned (.plain (OpenSpec.ofChange fnExactReceiveBitsSpec)) fnExactReceiveBitsCard

/-- THE TIED CARD OF 'laws.FnExactKeyPeriod'. -/
def fnExactKeyPeriodCard : Claim7 := { stood := { row := fnExactKeyPeriodRow, standIns := [], harness := (true, "4de20925e46e187eebc5a56f7d067265d64fc4077a3f5efa044a897c52ae694b"), looks := false }, kinds := [], alts := [], laidByText := true, laidKinds := [.data, .pinned], laidTests := true, laidLooks := .later }
def FnExactKeyPeriodCardSaid : Prop := Claim7.holds Tryd.pinned (.plain (OpenSpec.ofChange fnExactKeyPeriodSpec)) fnExactKeyPeriodCard

/-- THE TIED CARD OF 'laws.FnScrambled'. -/
def fnScrambledCard : Claim7 := { stood := { row := fnScrambledRow, standIns := [], harness := (true, "4de20925e46e187eebc5a56f7d067265d64fc4077a3f5efa044a897c52ae694b"), looks := false }, kinds := [], alts := [], laidByText := true, laidKinds := [.data, .pinned], laidTests := true, laidLooks := .later }
def FnScrambledCardSaid : Prop := Claim7.holds Tryd.pinned (.plain (OpenSpec.ofChange fnScrambledSpec)) fnScrambledCard

/-- THE TIED CARD OF 'laws.FnExactFindKey'. -/
def fnExactFindKeyCard : Claim7 := { stood := { row := fnExactFindKeyRow, standIns := [], harness := (true, "4de20925e46e187eebc5a56f7d067265d64fc4077a3f5efa044a897c52ae694b"), looks := false }, kinds := [], alts := [], laidByText := true, laidKinds := [.data, .pinned], laidTests := true, laidLooks := .later }
def FnExactFindKeyCardSaid : Prop := Claim7.holds Tryd.pinned (.plain (OpenSpec.ofChange fnExactFindKeySpec)) fnExactFindKeyCard

/-- THE TIED CARD OF 'laws.FnSpread'. -/
def fnSpreadCard : Claim7 := { stood := { row := fnSpreadRow, standIns := [], harness := (true, "4de20925e46e187eebc5a56f7d067265d64fc4077a3f5efa044a897c52ae694b"), looks := false }, kinds := [], alts := [], laidByText := true, laidKinds := [.data, .pinned], laidTests := true, laidLooks := .later }
def FnSpreadCardSaid : Prop := Claim7.holds Tryd.pinned (.plain (OpenSpec.ofChange fnSpreadSpec)) fnSpreadCard

/-- THE TIED CARD OF 'laws.FnVoted'. -/
def fnVotedCard : Claim7 := { stood := { row := fnVotedRow, standIns := [], harness := (true, "4de20925e46e187eebc5a56f7d067265d64fc4077a3f5efa044a897c52ae694b"), looks := false }, kinds := [], alts := [], laidByText := true, laidKinds := [.data, .pinned], laidTests := true, laidLooks := .later }
def FnVotedCardSaid : Prop := Claim7.holds Tryd.pinned (.plain (OpenSpec.ofChange fnVotedSpec)) fnVotedCard

/-- THE SECOND FORM's CARD OF 'laws.FnSampled'. -/
def fnSampledUptoCard : Claim7 := { stood := { row := fnSampledUptoRow, standIns := [], harness := (true, "4de20925e46e187eebc5a56f7d067265d64fc4077a3f5efa044a897c52ae694b"), looks := false }, kinds := [], alts := [], laidByText := true, laidKinds := [.data, .pinned], laidTests := true, laidLooks := .later }
def FnSampledUptoCardSaid : Prop := Claim7.holds Tryd.pinned (.plain (OpenSpec.upto fnSampledSpec)) fnSampledUptoCard

/-- THE SECOND FORM's CARD OF 'laws.FnKeys'. -/
def fnKeysUptoCard : Claim7 := { stood := { row := fnKeysUptoRow, standIns := [], harness := (true, "4de20925e46e187eebc5a56f7d067265d64fc4077a3f5efa044a897c52ae694b"), looks := false }, kinds := [], alts := [], laidByText := true, laidKinds := [.data, .pinned], laidTests := true, laidLooks := .later }
def FnKeysUptoCardSaid : Prop := Claim7.holds Tryd.pinned (.plain (OpenSpec.upto fnKeysSpec)) fnKeysUptoCard

/-- THE SECOND FORM's CARD OF 'laws.FnExactReceiveBits'. -/
def fnExactReceiveBitsUptoCard : Claim7 := { stood := { row := fnExactReceiveBitsUptoRow, standIns := [], harness := (true, "4de20925e46e187eebc5a56f7d067265d64fc4077a3f5efa044a897c52ae694b"), looks := false }, kinds := [], alts := [], laidByText := true, laidKinds := [.data, .pinned], laidTests := true, laidLooks := .later }
def FnExactReceiveBitsUptoCardSaid : Prop := Claim7.holds Tryd.pinned (.plain (OpenSpec.upto fnExactReceiveBitsSpec)) fnExactReceiveBitsUptoCard

/-- THE SECOND FORM's CARD OF 'laws.FnExactKeyPeriod'. -/
def fnExactKeyPeriodUptoCard : Claim7 := { stood := { row := fnExactKeyPeriodUptoRow, standIns := [], harness := (true, "4de20925e46e187eebc5a56f7d067265d64fc4077a3f5efa044a897c52ae694b"), looks := false }, kinds := [], alts := [], laidByText := true, laidKinds := [.data, .pinned], laidTests := true, laidLooks := .later }
def FnExactKeyPeriodUptoCardSaid : Prop := Claim7.holds Tryd.pinned (.plain (OpenSpec.upto fnExactKeyPeriodSpec)) fnExactKeyPeriodUptoCard

/-- THE SECOND FORM's CARD OF 'laws.FnScrambled'. -/
def fnScrambledUptoCard : Claim7 := { stood := { row := fnScrambledUptoRow, standIns := [], harness := (true, "4de20925e46e187eebc5a56f7d067265d64fc4077a3f5efa044a897c52ae694b"), looks := false }, kinds := [], alts := [], laidByText := true, laidKinds := [.data, .pinned], laidTests := true, laidLooks := .later }
def FnScrambledUptoCardSaid : Prop := Claim7.holds Tryd.pinned (.plain (OpenSpec.upto fnScrambledSpec)) fnScrambledUptoCard

/-- THE SECOND FORM's CARD OF 'laws.FnExactFindKey'. -/
def fnExactFindKeyUptoCard : Claim7 := { stood := { row := fnExactFindKeyUptoRow, standIns := [], harness := (true, "4de20925e46e187eebc5a56f7d067265d64fc4077a3f5efa044a897c52ae694b"), looks := false }, kinds := [], alts := [], laidByText := true, laidKinds := [.data, .pinned], laidTests := true, laidLooks := .later }
def FnExactFindKeyUptoCardSaid : Prop := Claim7.holds Tryd.pinned (.plain (OpenSpec.upto fnExactFindKeySpec)) fnExactFindKeyUptoCard

/-- THE SECOND FORM's CARD OF 'laws.FnSpread'. -/
def fnSpreadUptoCard : Claim7 := { stood := { row := fnSpreadUptoRow, standIns := [], harness := (true, "4de20925e46e187eebc5a56f7d067265d64fc4077a3f5efa044a897c52ae694b"), looks := false }, kinds := [], alts := [], laidByText := true, laidKinds := [.data, .pinned], laidTests := true, laidLooks := .later }
def FnSpreadUptoCardSaid : Prop := Claim7.holds Tryd.pinned (.plain (OpenSpec.upto fnSpreadSpec)) fnSpreadUptoCard

/-- THE SECOND FORM's CARD OF 'laws.FnVoted'. -/
def fnVotedUptoCard : Claim7 := { stood := { row := fnVotedUptoRow, standIns := [], harness := (true, "4de20925e46e187eebc5a56f7d067265d64fc4077a3f5efa044a897c52ae694b"), looks := false }, kinds := [], alts := [], laidByText := true, laidKinds := [.data, .pinned], laidTests := true, laidLooks := .later }
def FnVotedUptoCardSaid : Prop := Claim7.holds Tryd.pinned (.plain (OpenSpec.upto fnVotedSpec)) fnVotedUptoCard
end Rows
end Go.Proofs.YtondkjcmibnbpaaDoor
