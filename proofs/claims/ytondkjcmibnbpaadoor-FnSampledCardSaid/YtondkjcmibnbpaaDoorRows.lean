/-
  NARROWER THAN 'FOR EVERY INPUT', by the rows' own cells (each row's printed sentence says how): FnSampled: laid · FnKeys: laid · FnExactReceiveBits: laid · FnExactKeyPeriod: laid · FnScrambled: laid · FnExactFindKey: laid · FnSpread: laid · FnVoted: laid.
  DERIVED. THE GIVEN ROWS OF THIS SEAT. 8 by the template 'for every input the law returns true; each argument reads behind the call as it read before'; 0 by the template 'total and deterministic' (their statements: YtondkjcmibnbpaaDoorTotals.lean).
  GIVEN WITH THE SEED: the statements are not yours to turn. If you find one false, say at which input.
  Laid BY PROGRAM, IN A SANDBOX (cutbox-rows.mjs): the forced cells as the released guide's own fill.sh prints them over the translation 48d0f568a595f4f7… (all of the seat's roots in one cut). By AI agents, Wed Nov 11 2026. No macro, syntax, notation, axiom, sorry.
-/
import Derived.Test.YtondkjcmibnbpaaDoorChecked
import GoSem.PinnedTables
import GoSem.Claim
import GoSem.ClaimJoined
import GoSem.ClaimMapViews
import Derived.JoinedTies
import Derived.KernelRfl
namespace Go.Proofs.YtondkjcmibnbpaaDoor
/- THE CELL 'sum', in the pinned program and in every row, IS THE sha256 OF THE DUMP (.gsa) THAT YtondkjcmibnbpaaDoorProg.lean LOADS. Nothing in Lean hashes anything: it is a label: what it is worth is what the hold of that sum in a sandbox is worth. -/
noncomputable def Tryd.pinned : Pinned := { name := "ytondkjcmibnbpaadoor", sum := "48d0f568a595f4f7aec7de60dc4eba3bfb0e5f31ee077b1aff3762b8fc01bc75", checked := Tryd.checked }
namespace Rows
def none {H : Type} : Left H := { results := [], args := [] }

/- WHAT THE LISTED PACKAGE-LEVEL VARIABLES READ AS WHEN THE CALL BEGINS. Each datum BY PROGRAM (the guide's laid-datum.mjs) off the statement by which the dump's own 'gosem.cut.vars' lays the variable. In a bare row this is a premise. The card (YtondkjcmibnbpaaDoorCards.lean) ties it to the program's text. -/
def laid_unicode_utf8_acceptRanges {H : Type} : DataW H := .agg [.agg [.lit (.int .u8 128), .lit (.int .u8 191)], .agg [.lit (.int .u8 160), .lit (.int .u8 191)], .agg [.lit (.int .u8 128), .lit (.int .u8 159)], .agg [.lit (.int .u8 144), .lit (.int .u8 191)], .agg [.lit (.int .u8 128), .lit (.int .u8 143)], .agg [.lit (.int .u8 0), .lit (.int .u8 0)], .agg [.lit (.int .u8 0), .lit (.int .u8 0)], .agg [.lit (.int .u8 0), .lit (.int .u8 0)], .agg [.lit (.int .u8 0), .lit (.int .u8 0)], .agg [.lit (.int .u8 0), .lit (.int .u8 0)], .agg [.lit (.int .u8 0), .lit (.int .u8 0)], .agg [.lit (.int .u8 0), .lit (.int .u8 0)], .agg [.lit (.int .u8 0), .lit (.int .u8 0)], .agg [.lit (.int .u8 0), .lit (.int .u8 0)], .agg [.lit (.int .u8 0), .lit (.int .u8 0)], .agg [.lit (.int .u8 0), .lit (.int .u8 0)]]
/-- One of Go's own tables, pinned by name: the form's constant. -/
def laid_unicode_utf8_first : DataW Unit := Go.Pinned.utf8First

/-- 'laws.FnSampled': WHATEVER THE INPUT: true; the input reads as it did. -/
def fnSampledSpec : ChangeSpec := { name := "fnSampled", fn := fun _ => fun
  | [d1, d2] => { results := [.lit (.bool true)], args := [d1, d2] }
  | _ => none }
def fnSampledRow : OpenClaim := { program := "ytondkjcmibnbpaadoor", sum := "48d0f568a595f4f7aec7de60dc4eba3bfb0e5f31ee077b1aff3762b8fc01bc75", func := "loop.example/g01142/laws.FnSampled", spec := "fnSampled", inPlace := ["internal/bytealg.IndexByteString", "internal/bytealg.IndexString", "internal/abi.NoEscape"], named := ["unicode/utf8.first", "unicode/utf8.acceptRanges", "internal/bytealg.MaxLen"], apart := false, laid := [("unicode/utf8.acceptRanges", laid_unicode_utf8_acceptRanges), ("unicode/utf8.first", laid_unicode_utf8_first)] }
def FnSampledSaid : Prop := fnSampledRow.holds Tryd.pinned (OpenSpec.ofChange fnSampledSpec)

/-- ITS FALSE NEIGHBOUR: 'it returns false'. Refute it at one input. -/
def fnSampledWrong : ChangeSpec := { name := "fnSampled", fn := fun _ => fun
  | [d1, d2] => { results := [.lit (.bool false)], args := [d1, d2] }
  | _ => none }
def FnSampledWrongFalsely : Prop := fnSampledRow.holds Tryd.pinned (OpenSpec.ofChange fnSampledWrong)

/-- 'laws.FnKeys': WHATEVER THE INPUT: true; the input reads as it did. -/
def fnKeysSpec : ChangeSpec := { name := "fnKeys", fn := fun _ => fun
  | [d1, d2] => { results := [.lit (.bool true)], args := [d1, d2] }
  | _ => none }
def fnKeysRow : OpenClaim := { program := "ytondkjcmibnbpaadoor", sum := "48d0f568a595f4f7aec7de60dc4eba3bfb0e5f31ee077b1aff3762b8fc01bc75", func := "loop.example/g01142/laws.FnKeys", spec := "fnKeys", inPlace := ["internal/bytealg.IndexByteString", "internal/bytealg.IndexString", "internal/abi.NoEscape", "internal/bytealg.MakeNoZero"], named := ["unicode/utf8.first", "unicode/utf8.acceptRanges", "internal/bytealg.MaxLen"], apart := false, laid := [("unicode/utf8.acceptRanges", laid_unicode_utf8_acceptRanges), ("unicode/utf8.first", laid_unicode_utf8_first)] }
def FnKeysSaid : Prop := fnKeysRow.holds Tryd.pinned (OpenSpec.ofChange fnKeysSpec)

/-- ITS FALSE NEIGHBOUR: 'it returns false'. Refute it at one input. -/
def fnKeysWrong : ChangeSpec := { name := "fnKeys", fn := fun _ => fun
  | [d1, d2] => { results := [.lit (.bool false)], args := [d1, d2] }
  | _ => none }
def FnKeysWrongFalsely : Prop := fnKeysRow.holds Tryd.pinned (OpenSpec.ofChange fnKeysWrong)

/-- 'laws.FnExactReceiveBits': WHATEVER THE INPUT: true; the input reads as it did. -/
def fnExactReceiveBitsSpec : ChangeSpec := { name := "fnExactReceiveBits", fn := fun _ => fun
  | [d1, d2, d3, d4] => { results := [.lit (.bool true)], args := [d1, d2, d3, d4] }
  | _ => none }
def fnExactReceiveBitsRow : OpenClaim := { program := "ytondkjcmibnbpaadoor", sum := "48d0f568a595f4f7aec7de60dc4eba3bfb0e5f31ee077b1aff3762b8fc01bc75", func := "loop.example/g01142/laws.FnExactReceiveBits", spec := "fnExactReceiveBits", inPlace := ["internal/bytealg.IndexByteString", "internal/bytealg.IndexString", "internal/abi.NoEscape"], named := ["unicode/utf8.first", "unicode/utf8.acceptRanges", "internal/bytealg.MaxLen"], apart := false, laid := [("unicode/utf8.acceptRanges", laid_unicode_utf8_acceptRanges), ("unicode/utf8.first", laid_unicode_utf8_first)] }
def FnExactReceiveBitsSaid : Prop := fnExactReceiveBitsRow.holds Tryd.pinned (OpenSpec.ofChange fnExactReceiveBitsSpec)

/-- ITS FALSE NEIGHBOUR: 'it returns false'. Refute it at one input. -/
def fnExactReceiveBitsWrong : ChangeSpec := { name := "fnExactReceiveBits", fn := fun _ => fun
  | [d1, d2, d3, d4] => { results := [.lit (.bool false)], args := [d1, d2, d3, d4] }
  | _ => none }
def FnExactReceiveBitsWrongFalsely : Prop := fnExactReceiveBitsRow.holds Tryd.pinned (OpenSpec.ofChange fnExactReceiveBitsWrong)

/-- 'laws.FnExactKeyPeriod': WHATEVER THE INPUT: true; the input reads as it did. -/
def fnExactKeyPeriodSpec : ChangeSpec := { name := "fnExactKeyPeriod", fn := fun _ => fun
  | [d] => { results := [.lit (.bool true)], args := [d] }
  | _ => none }
def fnExactKeyPeriodRow : OpenClaim := { program := "ytondkjcmibnbpaadoor", sum := "48d0f568a595f4f7aec7de60dc4eba3bfb0e5f31ee077b1aff3762b8fc01bc75", func := "loop.example/g01142/laws.FnExactKeyPeriod", spec := "fnExactKeyPeriod", inPlace := ["internal/bytealg.IndexByteString", "internal/bytealg.IndexString"], named := ["unicode/utf8.first", "unicode/utf8.acceptRanges", "internal/bytealg.MaxLen"], apart := false, laid := [("unicode/utf8.acceptRanges", laid_unicode_utf8_acceptRanges), ("unicode/utf8.first", laid_unicode_utf8_first)] }
def FnExactKeyPeriodSaid : Prop := fnExactKeyPeriodRow.holds Tryd.pinned (OpenSpec.ofChange fnExactKeyPeriodSpec)

/-- ITS FALSE NEIGHBOUR: 'it returns false'. Refute it at one input. -/
def fnExactKeyPeriodWrong : ChangeSpec := { name := "fnExactKeyPeriod", fn := fun _ => fun
  | [d] => { results := [.lit (.bool false)], args := [d] }
  | _ => none }
def FnExactKeyPeriodWrongFalsely : Prop := fnExactKeyPeriodRow.holds Tryd.pinned (OpenSpec.ofChange fnExactKeyPeriodWrong)

/-- 'laws.FnScrambled': WHATEVER THE INPUT: true; the input reads as it did. -/
def fnScrambledSpec : ChangeSpec := { name := "fnScrambled", fn := fun _ => fun
  | [d1, d2] => { results := [.lit (.bool true)], args := [d1, d2] }
  | _ => none }
def fnScrambledRow : OpenClaim := { program := "ytondkjcmibnbpaadoor", sum := "48d0f568a595f4f7aec7de60dc4eba3bfb0e5f31ee077b1aff3762b8fc01bc75", func := "loop.example/g01142/laws.FnScrambled", spec := "fnScrambled", inPlace := ["internal/bytealg.IndexByteString", "internal/bytealg.IndexString", "internal/abi.NoEscape"], named := ["unicode/utf8.first", "unicode/utf8.acceptRanges", "internal/bytealg.MaxLen"], apart := false, laid := [("unicode/utf8.acceptRanges", laid_unicode_utf8_acceptRanges), ("unicode/utf8.first", laid_unicode_utf8_first)] }
def FnScrambledSaid : Prop := fnScrambledRow.holds Tryd.pinned (OpenSpec.ofChange fnScrambledSpec)

/-- ITS FALSE NEIGHBOUR: 'it returns false'. Refute it at one input. -/
def fnScrambledWrong : ChangeSpec := { name := "fnScrambled", fn := fun _ => fun
  | [d1, d2] => { results := [.lit (.bool false)], args := [d1, d2] }
  | _ => none }
def FnScrambledWrongFalsely : Prop := fnScrambledRow.holds Tryd.pinned (OpenSpec.ofChange fnScrambledWrong)

/-- 'laws.FnExactFindKey': WHATEVER THE INPUT: true; the input reads as it did. -/
def fnExactFindKeySpec : ChangeSpec := { name := "fnExactFindKey", fn := fun _ => fun
  | [d1, d2, d3] => { results := [.lit (.bool true)], args := [d1, d2, d3] }
  | _ => none }
def fnExactFindKeyRow : OpenClaim := { program := "ytondkjcmibnbpaadoor", sum := "48d0f568a595f4f7aec7de60dc4eba3bfb0e5f31ee077b1aff3762b8fc01bc75", func := "loop.example/g01142/laws.FnExactFindKey", spec := "fnExactFindKey", inPlace := ["internal/bytealg.IndexByteString", "internal/bytealg.IndexString", "internal/abi.NoEscape"], named := ["unicode/utf8.first", "unicode/utf8.acceptRanges", "internal/bytealg.MaxLen"], apart := false, laid := [("unicode/utf8.acceptRanges", laid_unicode_utf8_acceptRanges), ("unicode/utf8.first", laid_unicode_utf8_first)] }
def FnExactFindKeySaid : Prop := fnExactFindKeyRow.holds Tryd.pinned (OpenSpec.ofChange fnExactFindKeySpec)

/-- ITS FALSE NEIGHBOUR: 'it returns false'. Refute it at one input. -/
def fnExactFindKeyWrong : ChangeSpec := { name := "fnExactFindKey", fn := fun _ => fun
  | [d1, d2, d3] => { results := [.lit (.bool false)], args := [d1, d2, d3] }
  | _ => none }
def FnExactFindKeyWrongFalsely : Prop := fnExactFindKeyRow.holds Tryd.pinned (OpenSpec.ofChange fnExactFindKeyWrong)

/-- 'laws.FnSpread': WHATEVER THE INPUT: true; the input reads as it did. -/
def fnSpreadSpec : ChangeSpec := { name := "fnSpread", fn := fun _ => fun
  | [d1, d2] => { results := [.lit (.bool true)], args := [d1, d2] }
  | _ => none }
def fnSpreadRow : OpenClaim := { program := "ytondkjcmibnbpaadoor", sum := "48d0f568a595f4f7aec7de60dc4eba3bfb0e5f31ee077b1aff3762b8fc01bc75", func := "loop.example/g01142/laws.FnSpread", spec := "fnSpread", inPlace := ["internal/bytealg.IndexByteString", "internal/bytealg.IndexString", "internal/abi.NoEscape", "internal/bytealg.MakeNoZero"], named := ["unicode/utf8.first", "unicode/utf8.acceptRanges", "internal/bytealg.MaxLen"], apart := false, laid := [("unicode/utf8.acceptRanges", laid_unicode_utf8_acceptRanges), ("unicode/utf8.first", laid_unicode_utf8_first)] }
def FnSpreadSaid : Prop := fnSpreadRow.holds Tryd.pinned (OpenSpec.ofChange fnSpreadSpec)

/-- ITS FALSE NEIGHBOUR: 'it returns false'. Refute it at one input. -/
def fnSpreadWrong : ChangeSpec := { name := "fnSpread", fn := fun _ => fun
  | [d1, d2] => { results := [.lit (.bool false)], args := [d1, d2] }
  | _ => none }
def FnSpreadWrongFalsely : Prop := fnSpreadRow.holds Tryd.pinned (OpenSpec.ofChange fnSpreadWrong)

/-- 'laws.FnVoted': WHATEVER THE INPUT: true; the input reads as it did. -/
def fnVotedSpec : ChangeSpec := { name := "fnVoted", fn := fun _ => fun
  | [d1, d2] => { results := [.lit (.bool true)], args := [d1, d2] }
  | _ => none }
def fnVotedRow : OpenClaim := { program := "ytondkjcmibnbpaadoor", sum := "48d0f568a595f4f7aec7de60dc4eba3bfb0e5f31ee077b1aff3762b8fc01bc75", func := "loop.example/g01142/laws.FnVoted", spec := "fnVoted", inPlace := ["internal/bytealg.IndexByteString", "internal/bytealg.IndexString", "internal/abi.NoEscape", "internal/bytealg.MakeNoZero", "internal/bytealg.CountString"], named := ["unicode/utf8.first", "unicode/utf8.acceptRanges", "internal/bytealg.MaxLen"], apart := false, laid := [("unicode/utf8.acceptRanges", laid_unicode_utf8_acceptRanges), ("unicode/utf8.first", laid_unicode_utf8_first)] }
def FnVotedSaid : Prop := fnVotedRow.holds Tryd.pinned (OpenSpec.ofChange fnVotedSpec)

/-- ITS FALSE NEIGHBOUR: 'it returns false'. Refute it at one input. -/
def fnVotedWrong : ChangeSpec := { name := "fnVoted", fn := fun _ => fun
  | [d1, d2] => { results := [.lit (.bool false)], args := [d1, d2] }
  | _ => none }
def FnVotedWrongFalsely : Prop := fnVotedRow.holds Tryd.pinned (OpenSpec.ofChange fnVotedWrong)

/- THE SECOND FORM. 'bulk': how many values and letters a reading holds, each counted each time it is reached (what is shared counts as often as it is met; a slice's spare places count too). A statement '..UptoSaid' is the law's where the arguments, and the package variables that the reading takes, are together of bulk at most 1048576: NARROWER than '..Said'. Prove '..Said' where nothing that the law and all that it calls make is longer than what came in: it says more and counts as full. Else prove '..UptoSaid'. A law counts once. -/
mutual
def uptoBulk {H : Type} : DataW H → Nat
  | .lit (.string bytes) => bytes.length + 1
  | .lit _ => 1
  | .nil => 1
  | .ptr d => uptoBulk d + 1
  | .slice elems spare => uptoBulkAll elems + uptoBulkAll spare + 1
  | .agg parts => uptoBulkAll parts + 1
  | .iface _ d => uptoBulk d + 1
  | .map entries => uptoBulkEntries entries + 1
  | .held _ => 1
def uptoBulkAll {H : Type} : List (DataW H) → Nat
  | [] => 0
  | d :: r => uptoBulk d + uptoBulkAll r
def uptoBulkEntries {H : Type} : List (Lit × DataW H) → Nat
  | [] => 0
  | x :: r => uptoBulkEntry x + uptoBulkEntries r
def uptoBulkEntry {H : Type} : Lit × DataW H → Nat
  | (.string bytes, d) => bytes.length + uptoBulk d + 1
  | (_, d) => uptoBulk d + 1
 end
def uptoSmall : (H : Type) → List (DataW H) → Bool := fun _ ds => decide (uptoBulkAll ds ≤ 1048576)
def OpenSpec.upto (s : _root_.Go.ChangeSpec) : _root_.Go.OpenSpec := { _root_.Go.OpenSpec.ofChange s with cond := some uptoSmall }

/-- 'laws.FnSampled', WHERE WHAT IT READS IS OF BULK AT MOST 1048576: true; the input reads as it did. -/
def fnSampledUptoRow : OpenClaim := { program := "ytondkjcmibnbpaadoor", sum := "48d0f568a595f4f7aec7de60dc4eba3bfb0e5f31ee077b1aff3762b8fc01bc75", func := "loop.example/g01142/laws.FnSampled", spec := "fnSampled", inPlace := ["internal/bytealg.IndexByteString", "internal/bytealg.IndexString", "internal/abi.NoEscape"], named := ["unicode/utf8.first", "unicode/utf8.acceptRanges", "internal/bytealg.MaxLen"], apart := false, laid := [("unicode/utf8.acceptRanges", laid_unicode_utf8_acceptRanges), ("unicode/utf8.first", laid_unicode_utf8_first)], narrowed := true }
def FnSampledUptoSaid : Prop := fnSampledUptoRow.holds Tryd.pinned (OpenSpec.upto fnSampledSpec)

/-- 'laws.FnKeys', WHERE WHAT IT READS IS OF BULK AT MOST 1048576: true; the input reads as it did. -/
def fnKeysUptoRow : OpenClaim := { program := "ytondkjcmibnbpaadoor", sum := "48d0f568a595f4f7aec7de60dc4eba3bfb0e5f31ee077b1aff3762b8fc01bc75", func := "loop.example/g01142/laws.FnKeys", spec := "fnKeys", inPlace := ["internal/bytealg.IndexByteString", "internal/bytealg.IndexString", "internal/abi.NoEscape", "internal/bytealg.MakeNoZero"], named := ["unicode/utf8.first", "unicode/utf8.acceptRanges", "internal/bytealg.MaxLen"], apart := false, laid := [("unicode/utf8.acceptRanges", laid_unicode_utf8_acceptRanges), ("unicode/utf8.first", laid_unicode_utf8_first)], narrowed := true }
def FnKeysUptoSaid : Prop := fnKeysUptoRow.holds Tryd.pinned (OpenSpec.upto fnKeysSpec)

/-- 'laws.FnExactReceiveBits', WHERE WHAT IT READS IS OF BULK AT MOST 1048576: true; the input reads as it did. -/
def fnExactReceiveBitsUptoRow : OpenClaim := { program := "ytondkjcmibnbpaadoor", sum := "48d0f568a595f4f7aec7de60dc4eba3bfb0e5f31ee077b1aff3762b8fc01bc75", func := "loop.example/g01142/laws.FnExactReceiveBits", spec := "fnExactReceiveBits", inPlace := ["internal/bytealg.IndexByteString", "internal/bytealg.IndexString", "internal/abi.NoEscape"], named := ["unicode/utf8.first", "unicode/utf8.acceptRanges", "internal/bytealg.MaxLen"], apart := false, laid := [("unicode/utf8.acceptRanges", laid_unicode_utf8_acceptRanges), ("unicode/utf8.first", laid_unicode_utf8_first)], narrowed := true }
def FnExactReceiveBitsUptoSaid : Prop := fnExactReceiveBitsUptoRow.holds Tryd.pinned (OpenSpec.upto fnExactReceiveBitsSpec)

/-- 'laws.FnExactKeyPeriod', WHERE WHAT IT READS IS OF BULK AT MOST 1048576: true; the input reads as it did. -/
def fnExactKeyPeriodUptoRow : OpenClaim := { program := "ytondkjcmibnbpaadoor", sum := "48d0f568a595f4f7aec7de60dc4eba3bfb0e5f31ee077b1aff3762b8fc01bc75", func := "loop.example/g01142/laws.FnExactKeyPeriod", spec := "fnExactKeyPeriod", inPlace := ["internal/bytealg.IndexByteString", "internal/bytealg.IndexString"], named := ["unicode/utf8.first", "unicode/utf8.acceptRanges", "internal/bytealg.MaxLen"], apart := false, laid := [("unicode/utf8.acceptRanges", laid_unicode_utf8_acceptRanges), ("unicode/utf8.first", laid_unicode_utf8_first)], narrowed := true }
def FnExactKeyPeriodUptoSaid : Prop := fnExactKeyPeriodUptoRow.holds Tryd.pinned (OpenSpec.upto fnExactKeyPeriodSpec)

/-- 'laws.FnScrambled', WHERE WHAT IT READS IS OF BULK AT MOST 1048576: true; the input reads as it did. -/
def fnScrambledUptoRow : OpenClaim := { program := "ytondkjcmibnbpaadoor", sum := "48d0f568a595f4f7aec7de60dc4eba3bfb0e5f31ee077b1aff3762b8fc01bc75", func := "loop.example/g01142/laws.FnScrambled", spec := "fnScrambled", inPlace := ["internal/bytealg.IndexByteString", "internal/bytealg.IndexString", "internal/abi.NoEscape"], named := ["unicode/utf8.first", "unicode/utf8.acceptRanges", "internal/bytealg.MaxLen"], apart := false, laid := [("unicode/utf8.acceptRanges", laid_unicode_utf8_acceptRanges), ("unicode/utf8.first", laid_unicode_utf8_first)], narrowed := true }
def FnScrambledUptoSaid : Prop := fnScrambledUptoRow.holds Tryd.pinned (OpenSpec.upto fnScrambledSpec)

/-- 'laws.FnExactFindKey', WHERE WHAT IT READS IS OF BULK AT MOST 1048576: true; the input reads as it did. -/
def fnExactFindKeyUptoRow : OpenClaim := { program := "ytondkjcmibnbpaadoor", sum := "48d0f568a595f4f7aec7de60dc4eba3bfb0e5f31ee077b1aff3762b8fc01bc75", func := "loop.example/g01142/laws.FnExactFindKey", spec := "fnExactFindKey", inPlace := ["internal/bytealg.IndexByteString", "internal/bytealg.IndexString", "internal/abi.NoEscape"], named := ["unicode/utf8.first", "unicode/utf8.acceptRanges", "internal/bytealg.MaxLen"], apart := false, laid := [("unicode/utf8.acceptRanges", laid_unicode_utf8_acceptRanges), ("unicode/utf8.first", laid_unicode_utf8_first)], narrowed := true }
def FnExactFindKeyUptoSaid : Prop := fnExactFindKeyUptoRow.holds Tryd.pinned (OpenSpec.upto fnExactFindKeySpec)

/-- 'laws.FnSpread', WHERE WHAT IT READS IS OF BULK AT MOST 1048576: true; the input reads as it did. -/
def fnSpreadUptoRow : OpenClaim := { program := "ytondkjcmibnbpaadoor", sum := "48d0f568a595f4f7aec7de60dc4eba3bfb0e5f31ee077b1aff3762b8fc01bc75", func := "loop.example/g01142/laws.FnSpread", spec := "fnSpread", inPlace := ["internal/bytealg.IndexByteString", "internal/bytealg.IndexString", "internal/abi.NoEscape", "internal/bytealg.MakeNoZero"], named := ["unicode/utf8.first", "unicode/utf8.acceptRanges", "internal/bytealg.MaxLen"], apart := false, laid := [("unicode/utf8.acceptRanges", laid_unicode_utf8_acceptRanges), ("unicode/utf8.first", laid_unicode_utf8_first)], narrowed := true }
def FnSpreadUptoSaid : Prop := fnSpreadUptoRow.holds Tryd.pinned (OpenSpec.upto fnSpreadSpec)

/-- 'laws.FnVoted', WHERE WHAT IT READS IS OF BULK AT MOST 1048576: true; the input reads as it did. -/
def fnVotedUptoRow : OpenClaim := { program := "ytondkjcmibnbpaadoor", sum := "48d0f568a595f4f7aec7de60dc4eba3bfb0e5f31ee077b1aff3762b8fc01bc75", func := "loop.example/g01142/laws.FnVoted", spec := "fnVoted", inPlace := ["internal/bytealg.IndexByteString", "internal/bytealg.IndexString", "internal/abi.NoEscape", "internal/bytealg.MakeNoZero", "internal/bytealg.CountString"], named := ["unicode/utf8.first", "unicode/utf8.acceptRanges", "internal/bytealg.MaxLen"], apart := false, laid := [("unicode/utf8.acceptRanges", laid_unicode_utf8_acceptRanges), ("unicode/utf8.first", laid_unicode_utf8_first)], narrowed := true }
def FnVotedUptoSaid : Prop := fnVotedUptoRow.holds Tryd.pinned (OpenSpec.upto fnVotedSpec)

end Rows
end Go.Proofs.YtondkjcmibnbpaaDoor
