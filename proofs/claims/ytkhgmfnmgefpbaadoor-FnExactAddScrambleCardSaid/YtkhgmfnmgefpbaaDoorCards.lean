/-
  DERIVED. GIVEN WITH THE SEED: THE CARDS: each row of YtkhgmfnmgefpbaaDoorRows.lean that lists a variable, with what it lists TIED to the program's text (the seventh form; the later family's looks); each row that meets fmt, with fmt's text TOLD by the authors' own Lean function (tested against real Go, not proved from fmt's source: count such statements apart). THE CARD IS WHAT COUNTS. Prove the row's statement (the work); the ties are given (YtkhgmfnmgefpbaaDoorTie.lean); close each card by the builder's one call (the guide's Derived/Test/ToyasCard.lean, 'card_holds'). Laid BY PROGRAM, IN A SANDBOX (cutbox-door.mjs). By AI agents, Wed Nov 11 2026. No macro, syntax, notation, axiom, sorry.
-/
import Derived.Test.YtkhgmfnmgefpbaaDoorRows
import GoSem.ClaimSeven
namespace Go.Proofs.YtkhgmfnmgefpbaaDoor
namespace Rows

/-- THE TIED CARD OF 'laws.FnExactValidScrambler'. -/
def fnExactValidScramblerCard : Claim7 := { stood := { row := fnExactValidScramblerRow, standIns := [], harness := (true, "8b0c96e9da1e42ad86be965102031b97f6be66792979d8c3ba4c0ca1cc45ed6e"), looks := false }, kinds := [], alts := [], laidByText := true, laidKinds := [.data, .pinned], laidTests := true, laidLooks := .later }
def FnExactValidScramblerCardSaid : Prop := Claim7.holds Tryd.pinned (.plain (OpenSpec.ofChange fnExactValidScramblerSpec)) fnExactValidScramblerCard

/-- THE TIED CARD OF 'laws.FnExactLockTime'. -/
def fnExactLockTimeCard : Claim7 := { stood := { row := fnExactLockTimeRow, standIns := [], harness := (true, "8b0c96e9da1e42ad86be965102031b97f6be66792979d8c3ba4c0ca1cc45ed6e"), looks := false }, kinds := [], alts := [], laidByText := true, laidKinds := [.data, .pinned], laidTests := true, laidLooks := .later }
def FnExactLockTimeCardSaid : Prop := Claim7.holds Tryd.pinned (.plain (OpenSpec.ofChange fnExactLockTimeSpec)) fnExactLockTimeCard

/-- THE TIED CARD OF 'laws.FnExactSpreadOf'. -/
def fnExactSpreadOfCard : Claim7 := { stood := { row := fnExactSpreadOfRow, standIns := [], harness := (true, "8b0c96e9da1e42ad86be965102031b97f6be66792979d8c3ba4c0ca1cc45ed6e"), looks := false }, kinds := [], alts := [], laidByText := true, laidKinds := [.data, .pinned], laidTests := true, laidLooks := .later }
def FnExactSpreadOfCardSaid : Prop := Claim7.holds Tryd.pinned (.plain (OpenSpec.ofChange fnExactSpreadOfSpec)) fnExactSpreadOfCard

/-- THE TIED CARD OF 'laws.FnExactSelfScramble'. -/
def fnExactSelfScrambleCard : Claim7 := { stood := { row := fnExactSelfScrambleRow, standIns := [], harness := (true, "8b0c96e9da1e42ad86be965102031b97f6be66792979d8c3ba4c0ca1cc45ed6e"), looks := false }, kinds := [], alts := [], laidByText := true, laidKinds := [.data, .pinned], laidTests := true, laidLooks := .later }
def FnExactSelfScrambleCardSaid : Prop := Claim7.holds Tryd.pinned (.plain (OpenSpec.ofChange fnExactSelfScrambleSpec)) fnExactSelfScrambleCard

/-- THE TIED CARD OF 'laws.FnExactKeyPeriod'. -/
def fnExactKeyPeriodCard : Claim7 := { stood := { row := fnExactKeyPeriodRow, standIns := [], harness := (true, "8b0c96e9da1e42ad86be965102031b97f6be66792979d8c3ba4c0ca1cc45ed6e"), looks := false }, kinds := [], alts := [], laidByText := true, laidKinds := [.data, .pinned], laidTests := true, laidLooks := .later }
def FnExactKeyPeriodCardSaid : Prop := Claim7.holds Tryd.pinned (.plain (OpenSpec.ofChange fnExactKeyPeriodSpec)) fnExactKeyPeriodCard

/-- THE TIED CARD OF 'laws.FnExactKeyBits'. -/
def fnExactKeyBitsCard : Claim7 := { stood := { row := fnExactKeyBitsRow, standIns := [], harness := (true, "8b0c96e9da1e42ad86be965102031b97f6be66792979d8c3ba4c0ca1cc45ed6e"), looks := false }, kinds := [], alts := [], laidByText := true, laidKinds := [.data, .pinned], laidTests := true, laidLooks := .later }
def FnExactKeyBitsCardSaid : Prop := Claim7.holds Tryd.pinned (.plain (OpenSpec.ofChange fnExactKeyBitsSpec)) fnExactKeyBitsCard

/-- THE TIED CARD OF 'laws.FnExactSelfDescramble'. -/
def fnExactSelfDescrambleCard : Claim7 := { stood := { row := fnExactSelfDescrambleRow, standIns := [], harness := (true, "8b0c96e9da1e42ad86be965102031b97f6be66792979d8c3ba4c0ca1cc45ed6e"), looks := false }, kinds := [], alts := [], laidByText := true, laidKinds := [.data, .pinned], laidTests := true, laidLooks := .later }
def FnExactSelfDescrambleCardSaid : Prop := Claim7.holds Tryd.pinned (.plain (OpenSpec.ofChange fnExactSelfDescrambleSpec)) fnExactSelfDescrambleCard

/-- THE TIED CARD OF 'laws.FnExactAddScramble'. -/
def fnExactAddScrambleCard : Claim7 := { stood := { row := fnExactAddScrambleRow, standIns := [], harness := (true, "8b0c96e9da1e42ad86be965102031b97f6be66792979d8c3ba4c0ca1cc45ed6e"), looks := false }, kinds := [], alts := [], laidByText := true, laidKinds := [.data, .pinned], laidTests := true, laidLooks := .later }
def FnExactAddScrambleCardSaid : Prop := Claim7.holds Tryd.pinned (.plain (OpenSpec.ofChange fnExactAddScrambleSpec)) fnExactAddScrambleCard

/-- THE TIED CARD OF 'laws.FnExactFindKey'. -/
def fnExactFindKeyCard : Claim7 := { stood := { row := fnExactFindKeyRow, standIns := [], harness := (true, "8b0c96e9da1e42ad86be965102031b97f6be66792979d8c3ba4c0ca1cc45ed6e"), looks := false }, kinds := [], alts := [], laidByText := true, laidKinds := [.data, .pinned], laidTests := true, laidLooks := .later }
def FnExactFindKeyCardSaid : Prop := Claim7.holds Tryd.pinned (.plain (OpenSpec.ofChange fnExactFindKeySpec)) fnExactFindKeyCard

/-- THE TIED CARD OF 'laws.FnExactWorstBits'. -/
def fnExactWorstBitsCard : Claim7 := { stood := { row := fnExactWorstBitsRow, standIns := [], harness := (true, "8b0c96e9da1e42ad86be965102031b97f6be66792979d8c3ba4c0ca1cc45ed6e"), looks := false }, kinds := [], alts := [], laidByText := true, laidKinds := [.data, .pinned], laidTests := true, laidLooks := .later }
def FnExactWorstBitsCardSaid : Prop := Claim7.holds Tryd.pinned (.plain (OpenSpec.ofChange fnExactWorstBitsSpec)) fnExactWorstBitsCard

/-- THE TIED CARD OF 'laws.FnExactErrorsBehind'. -/
def fnExactErrorsBehindCard : Claim7 := { stood := { row := fnExactErrorsBehindRow, standIns := [], harness := (true, "8b0c96e9da1e42ad86be965102031b97f6be66792979d8c3ba4c0ca1cc45ed6e"), looks := false }, kinds := [], alts := [], laidByText := true, laidKinds := [.data, .pinned], laidTests := true, laidLooks := .later }
def FnExactErrorsBehindCardSaid : Prop := Claim7.holds Tryd.pinned (.plain (OpenSpec.ofChange fnExactErrorsBehindSpec)) fnExactErrorsBehindCard

/-- THE TIED CARD OF 'laws.FnExactLongestSame'. -/
def fnExactLongestSameCard : Claim7 := { stood := { row := fnExactLongestSameRow, standIns := [], harness := (true, "8b0c96e9da1e42ad86be965102031b97f6be66792979d8c3ba4c0ca1cc45ed6e"), looks := false }, kinds := [], alts := [], laidByText := true, laidKinds := [.data, .pinned], laidTests := true, laidLooks := .later }
def FnExactLongestSameCardSaid : Prop := Claim7.holds Tryd.pinned (.plain (OpenSpec.ofChange fnExactLongestSameSpec)) fnExactLongestSameCard

/-- THE SECOND FORM's CARD OF 'laws.FnExactValidScrambler'. -/
def fnExactValidScramblerUptoCard : Claim7 := { stood := { row := fnExactValidScramblerUptoRow, standIns := [], harness := (true, "8b0c96e9da1e42ad86be965102031b97f6be66792979d8c3ba4c0ca1cc45ed6e"), looks := false }, kinds := [], alts := [], laidByText := true, laidKinds := [.data, .pinned], laidTests := true, laidLooks := .later }
def FnExactValidScramblerUptoCardSaid : Prop := Claim7.holds Tryd.pinned (.plain (OpenSpec.upto fnExactValidScramblerSpec)) fnExactValidScramblerUptoCard

/-- THE SECOND FORM's CARD OF 'laws.FnExactLockTime'. -/
def fnExactLockTimeUptoCard : Claim7 := { stood := { row := fnExactLockTimeUptoRow, standIns := [], harness := (true, "8b0c96e9da1e42ad86be965102031b97f6be66792979d8c3ba4c0ca1cc45ed6e"), looks := false }, kinds := [], alts := [], laidByText := true, laidKinds := [.data, .pinned], laidTests := true, laidLooks := .later }
def FnExactLockTimeUptoCardSaid : Prop := Claim7.holds Tryd.pinned (.plain (OpenSpec.upto fnExactLockTimeSpec)) fnExactLockTimeUptoCard

/-- THE SECOND FORM's CARD OF 'laws.FnExactSpreadOf'. -/
def fnExactSpreadOfUptoCard : Claim7 := { stood := { row := fnExactSpreadOfUptoRow, standIns := [], harness := (true, "8b0c96e9da1e42ad86be965102031b97f6be66792979d8c3ba4c0ca1cc45ed6e"), looks := false }, kinds := [], alts := [], laidByText := true, laidKinds := [.data, .pinned], laidTests := true, laidLooks := .later }
def FnExactSpreadOfUptoCardSaid : Prop := Claim7.holds Tryd.pinned (.plain (OpenSpec.upto fnExactSpreadOfSpec)) fnExactSpreadOfUptoCard

/-- THE SECOND FORM's CARD OF 'laws.FnExactSelfScramble'. -/
def fnExactSelfScrambleUptoCard : Claim7 := { stood := { row := fnExactSelfScrambleUptoRow, standIns := [], harness := (true, "8b0c96e9da1e42ad86be965102031b97f6be66792979d8c3ba4c0ca1cc45ed6e"), looks := false }, kinds := [], alts := [], laidByText := true, laidKinds := [.data, .pinned], laidTests := true, laidLooks := .later }
def FnExactSelfScrambleUptoCardSaid : Prop := Claim7.holds Tryd.pinned (.plain (OpenSpec.upto fnExactSelfScrambleSpec)) fnExactSelfScrambleUptoCard

/-- THE SECOND FORM's CARD OF 'laws.FnExactKeyPeriod'. -/
def fnExactKeyPeriodUptoCard : Claim7 := { stood := { row := fnExactKeyPeriodUptoRow, standIns := [], harness := (true, "8b0c96e9da1e42ad86be965102031b97f6be66792979d8c3ba4c0ca1cc45ed6e"), looks := false }, kinds := [], alts := [], laidByText := true, laidKinds := [.data, .pinned], laidTests := true, laidLooks := .later }
def FnExactKeyPeriodUptoCardSaid : Prop := Claim7.holds Tryd.pinned (.plain (OpenSpec.upto fnExactKeyPeriodSpec)) fnExactKeyPeriodUptoCard

/-- THE SECOND FORM's CARD OF 'laws.FnExactKeyBits'. -/
def fnExactKeyBitsUptoCard : Claim7 := { stood := { row := fnExactKeyBitsUptoRow, standIns := [], harness := (true, "8b0c96e9da1e42ad86be965102031b97f6be66792979d8c3ba4c0ca1cc45ed6e"), looks := false }, kinds := [], alts := [], laidByText := true, laidKinds := [.data, .pinned], laidTests := true, laidLooks := .later }
def FnExactKeyBitsUptoCardSaid : Prop := Claim7.holds Tryd.pinned (.plain (OpenSpec.upto fnExactKeyBitsSpec)) fnExactKeyBitsUptoCard

/-- THE SECOND FORM's CARD OF 'laws.FnExactSelfDescramble'. -/
def fnExactSelfDescrambleUptoCard : Claim7 := { stood := { row := fnExactSelfDescrambleUptoRow, standIns := [], harness := (true, "8b0c96e9da1e42ad86be965102031b97f6be66792979d8c3ba4c0ca1cc45ed6e"), looks := false }, kinds := [], alts := [], laidByText := true, laidKinds := [.data, .pinned], laidTests := true, laidLooks := .later }
def FnExactSelfDescrambleUptoCardSaid : Prop := Claim7.holds Tryd.pinned (.plain (OpenSpec.upto fnExactSelfDescrambleSpec)) fnExactSelfDescrambleUptoCard

/-- THE SECOND FORM's CARD OF 'laws.FnExactAddScramble'. -/
def fnExactAddScrambleUptoCard : Claim7 := { stood := { row := fnExactAddScrambleUptoRow, standIns := [], harness := (true, "8b0c96e9da1e42ad86be965102031b97f6be66792979d8c3ba4c0ca1cc45ed6e"), looks := false }, kinds := [], alts := [], laidByText := true, laidKinds := [.data, .pinned], laidTests := true, laidLooks := .later }
def FnExactAddScrambleUptoCardSaid : Prop := Claim7.holds Tryd.pinned (.plain (OpenSpec.upto fnExactAddScrambleSpec)) fnExactAddScrambleUptoCard

/-- THE SECOND FORM's CARD OF 'laws.FnExactFindKey'. -/
def fnExactFindKeyUptoCard : Claim7 := { stood := { row := fnExactFindKeyUptoRow, standIns := [], harness := (true, "8b0c96e9da1e42ad86be965102031b97f6be66792979d8c3ba4c0ca1cc45ed6e"), looks := false }, kinds := [], alts := [], laidByText := true, laidKinds := [.data, .pinned], laidTests := true, laidLooks := .later }
def FnExactFindKeyUptoCardSaid : Prop := Claim7.holds Tryd.pinned (.plain (OpenSpec.upto fnExactFindKeySpec)) fnExactFindKeyUptoCard

/-- THE SECOND FORM's CARD OF 'laws.FnExactWorstBits'. -/
def fnExactWorstBitsUptoCard : Claim7 := { stood := { row := fnExactWorstBitsUptoRow, standIns := [], harness := (true, "8b0c96e9da1e42ad86be965102031b97f6be66792979d8c3ba4c0ca1cc45ed6e"), looks := false }, kinds := [], alts := [], laidByText := true, laidKinds := [.data, .pinned], laidTests := true, laidLooks := .later }
def FnExactWorstBitsUptoCardSaid : Prop := Claim7.holds Tryd.pinned (.plain (OpenSpec.upto fnExactWorstBitsSpec)) fnExactWorstBitsUptoCard

/-- THE SECOND FORM's CARD OF 'laws.FnExactErrorsBehind'. -/
def fnExactErrorsBehindUptoCard : Claim7 := { stood := { row := fnExactErrorsBehindUptoRow, standIns := [], harness := (true, "8b0c96e9da1e42ad86be965102031b97f6be66792979d8c3ba4c0ca1cc45ed6e"), looks := false }, kinds := [], alts := [], laidByText := true, laidKinds := [.data, .pinned], laidTests := true, laidLooks := .later }
def FnExactErrorsBehindUptoCardSaid : Prop := Claim7.holds Tryd.pinned (.plain (OpenSpec.upto fnExactErrorsBehindSpec)) fnExactErrorsBehindUptoCard

/-- THE SECOND FORM's CARD OF 'laws.FnExactLongestSame'. -/
def fnExactLongestSameUptoCard : Claim7 := { stood := { row := fnExactLongestSameUptoRow, standIns := [], harness := (true, "8b0c96e9da1e42ad86be965102031b97f6be66792979d8c3ba4c0ca1cc45ed6e"), looks := false }, kinds := [], alts := [], laidByText := true, laidKinds := [.data, .pinned], laidTests := true, laidLooks := .later }
def FnExactLongestSameUptoCardSaid : Prop := Claim7.holds Tryd.pinned (.plain (OpenSpec.upto fnExactLongestSameSpec)) fnExactLongestSameUptoCard
end Rows
end Go.Proofs.YtkhgmfnmgefpbaaDoor
