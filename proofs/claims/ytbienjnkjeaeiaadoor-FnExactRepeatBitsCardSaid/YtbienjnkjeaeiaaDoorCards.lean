/-
  DERIVED. GIVEN WITH THE SEED: THE CARDS: each row of YtbienjnkjeaeiaaDoorRows.lean that lists a variable, with what it lists TIED to the program's text (the seventh form; the later family's looks); each row that meets fmt, with fmt's text TOLD by the authors' own Lean function (tested against real Go, not proved from fmt's source: count such statements apart). THE CARD IS WHAT COUNTS. Prove the row's statement (the work); the ties are given (YtbienjnkjeaeiaaDoorTie.lean); close each card by the builder's one call (the guide's Derived/Test/ToyasCard.lean, 'card_holds'). Laid BY PROGRAM, IN A SANDBOX (cutbox-door.mjs). By AI agents, Wed Nov 11 2026. No macro, syntax, notation, axiom, sorry.
-/
import Derived.Test.YtbienjnkjeaeiaaDoorRows
import GoSem.ClaimSeven
namespace Go.Proofs.YtbienjnkjeaeiaaDoor
namespace Rows

/-- THE TIED CARD OF 'laws.FnExactEdgesOf'. -/
def fnExactEdgesOfCard : Claim7 := { stood := { row := fnExactEdgesOfRow, standIns := [], harness := (true, "a66cfa27edf57cc2aa76994fec76183b67eaeed2805312e3ea751bce622d93a7"), looks := false }, kinds := [], alts := [], laidByText := true, laidKinds := [.data, .pinned], laidTests := true, laidLooks := .later }
def FnExactEdgesOfCardSaid : Prop := Claim7.holds Tryd.pinned (.plain (OpenSpec.ofChange fnExactEdgesOfSpec)) fnExactEdgesOfCard

/-- THE TIED CARD OF 'laws.FnExactReceiveBits'. -/
def fnExactReceiveBitsCard : Claim7 := { stood := { row := fnExactReceiveBitsRow, standIns := [], harness := (true, "a66cfa27edf57cc2aa76994fec76183b67eaeed2805312e3ea751bce622d93a7"), looks := false }, kinds := [], alts := [], laidByText := true, laidKinds := [.data, .pinned], laidTests := true, laidLooks := .later }
def FnExactReceiveBitsCardSaid : Prop := Claim7.holds Tryd.pinned (.plain (OpenSpec.ofChange fnExactReceiveBitsSpec)) fnExactReceiveBitsCard

/-- THE TIED CARD OF 'laws.FnExactVoteBits'. -/
def fnExactVoteBitsCard : Claim7 := { stood := { row := fnExactVoteBitsRow, standIns := [], harness := (true, "a66cfa27edf57cc2aa76994fec76183b67eaeed2805312e3ea751bce622d93a7"), looks := false }, kinds := [], alts := [], laidByText := true, laidKinds := [.data, .pinned], laidTests := true, laidLooks := .later }
def FnExactVoteBitsCardSaid : Prop := Claim7.holds Tryd.pinned (.plain (OpenSpec.ofChange fnExactVoteBitsSpec)) fnExactVoteBitsCard

/-- THE TIED CARD OF 'laws.FnExactRepeatBits'. -/
def fnExactRepeatBitsCard : Claim7 := { stood := { row := fnExactRepeatBitsRow, standIns := [], harness := (true, "a66cfa27edf57cc2aa76994fec76183b67eaeed2805312e3ea751bce622d93a7"), looks := false }, kinds := [], alts := [], laidByText := true, laidKinds := [.data, .pinned], laidTests := true, laidLooks := .later }
def FnExactRepeatBitsCardSaid : Prop := Claim7.holds Tryd.pinned (.plain (OpenSpec.ofChange fnExactRepeatBitsSpec)) fnExactRepeatBitsCard

/-- THE TIED CARD OF 'laws.FnVoted'. -/
def fnVotedCard : Claim7 := { stood := { row := fnVotedRow, standIns := [], harness := (true, "a66cfa27edf57cc2aa76994fec76183b67eaeed2805312e3ea751bce622d93a7"), looks := false }, kinds := [], alts := [], laidByText := true, laidKinds := [.data, .pinned], laidTests := true, laidLooks := .later }
def FnVotedCardSaid : Prop := Claim7.holds Tryd.pinned (.plain (OpenSpec.ofChange fnVotedSpec)) fnVotedCard

/-- THE SECOND FORM's CARD OF 'laws.FnExactEdgesOf'. -/
def fnExactEdgesOfUptoCard : Claim7 := { stood := { row := fnExactEdgesOfUptoRow, standIns := [], harness := (true, "a66cfa27edf57cc2aa76994fec76183b67eaeed2805312e3ea751bce622d93a7"), looks := false }, kinds := [], alts := [], laidByText := true, laidKinds := [.data, .pinned], laidTests := true, laidLooks := .later }
def FnExactEdgesOfUptoCardSaid : Prop := Claim7.holds Tryd.pinned (.plain (OpenSpec.upto fnExactEdgesOfSpec)) fnExactEdgesOfUptoCard

/-- THE SECOND FORM's CARD OF 'laws.FnExactReceiveBits'. -/
def fnExactReceiveBitsUptoCard : Claim7 := { stood := { row := fnExactReceiveBitsUptoRow, standIns := [], harness := (true, "a66cfa27edf57cc2aa76994fec76183b67eaeed2805312e3ea751bce622d93a7"), looks := false }, kinds := [], alts := [], laidByText := true, laidKinds := [.data, .pinned], laidTests := true, laidLooks := .later }
def FnExactReceiveBitsUptoCardSaid : Prop := Claim7.holds Tryd.pinned (.plain (OpenSpec.upto fnExactReceiveBitsSpec)) fnExactReceiveBitsUptoCard

/-- THE SECOND FORM's CARD OF 'laws.FnExactVoteBits'. -/
def fnExactVoteBitsUptoCard : Claim7 := { stood := { row := fnExactVoteBitsUptoRow, standIns := [], harness := (true, "a66cfa27edf57cc2aa76994fec76183b67eaeed2805312e3ea751bce622d93a7"), looks := false }, kinds := [], alts := [], laidByText := true, laidKinds := [.data, .pinned], laidTests := true, laidLooks := .later }
def FnExactVoteBitsUptoCardSaid : Prop := Claim7.holds Tryd.pinned (.plain (OpenSpec.upto fnExactVoteBitsSpec)) fnExactVoteBitsUptoCard

/-- THE SECOND FORM's CARD OF 'laws.FnExactRepeatBits'. -/
def fnExactRepeatBitsUptoCard : Claim7 := { stood := { row := fnExactRepeatBitsUptoRow, standIns := [], harness := (true, "a66cfa27edf57cc2aa76994fec76183b67eaeed2805312e3ea751bce622d93a7"), looks := false }, kinds := [], alts := [], laidByText := true, laidKinds := [.data, .pinned], laidTests := true, laidLooks := .later }
def FnExactRepeatBitsUptoCardSaid : Prop := Claim7.holds Tryd.pinned (.plain (OpenSpec.upto fnExactRepeatBitsSpec)) fnExactRepeatBitsUptoCard

/-- THE SECOND FORM's CARD OF 'laws.FnVoted'. -/
def fnVotedUptoCard : Claim7 := { stood := { row := fnVotedUptoRow, standIns := [], harness := (true, "a66cfa27edf57cc2aa76994fec76183b67eaeed2805312e3ea751bce622d93a7"), looks := false }, kinds := [], alts := [], laidByText := true, laidKinds := [.data, .pinned], laidTests := true, laidLooks := .later }
def FnVotedUptoCardSaid : Prop := Claim7.holds Tryd.pinned (.plain (OpenSpec.upto fnVotedSpec)) fnVotedUptoCard
end Rows
end Go.Proofs.YtbienjnkjeaeiaaDoor
