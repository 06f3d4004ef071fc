/-
  NARROWER THAN 'FOR EVERY INPUT', by the rows' own cells (each row's printed sentence says how): FnExactUnstuffBits: laid · FnStuffed: laid · FnFramed: laid · FnExactDeframeBits: laid.
  DERIVED. THE GIVEN ROWS OF THIS SEAT. 4 by the template 'for every input the law returns true; each argument reads behind the call as it read before'; 0 by the template 'total and deterministic' (their statements: YtbifbbfkcbgnlaaDoorTotals.lean).
  GIVEN WITH THE SEED: the statements are not yours to turn. If you find one false, say at which input.
  Laid BY PROGRAM, IN A SANDBOX (cutbox-rows.mjs): the forced cells as the released guide's own fill.sh prints them over the translation bd8e5a2fec27d8fe… (all of the seat's roots in one cut). By AI agents, Wed Nov 11 2026. No macro, syntax, notation, axiom, sorry.
-/
import Derived.Test.YtbifbbfkcbgnlaaDoorChecked
import GoSem.PinnedTables
import GoSem.Claim
import GoSem.ClaimJoined
import GoSem.ClaimMapViews
import Derived.JoinedTies
import Derived.KernelRfl
namespace Go.Proofs.YtbifbbfkcbgnlaaDoor
/- THE CELL 'sum', in the pinned program and in every row, IS THE sha256 OF THE DUMP (.gsa) THAT YtbifbbfkcbgnlaaDoorProg.lean LOADS. Nothing in Lean hashes anything: it is a label: what it is worth is what the hold of that sum in a sandbox is worth. -/
noncomputable def Tryd.pinned : Pinned := { name := "ytbifbbfkcbgnlaadoor", sum := "bd8e5a2fec27d8fe9f3080b8b2ff888d39f3b36bc020ae454ad1508912ef6c4c", checked := Tryd.checked }
namespace Rows
def none {H : Type} : Left H := { results := [], args := [] }

/- WHAT THE LISTED PACKAGE-LEVEL VARIABLES READ AS WHEN THE CALL BEGINS. Each datum BY PROGRAM (the guide's laid-datum.mjs) off the statement by which the dump's own 'gosem.cut.vars' lays the variable. In a bare row this is a premise. The card (YtbifbbfkcbgnlaaDoorCards.lean) ties it to the program's text. -/
def laid_unicode_utf8_acceptRanges {H : Type} : DataW H := .agg [.agg [.lit (.int .u8 128), .lit (.int .u8 191)], .agg [.lit (.int .u8 160), .lit (.int .u8 191)], .agg [.lit (.int .u8 128), .lit (.int .u8 159)], .agg [.lit (.int .u8 144), .lit (.int .u8 191)], .agg [.lit (.int .u8 128), .lit (.int .u8 143)], .agg [.lit (.int .u8 0), .lit (.int .u8 0)], .agg [.lit (.int .u8 0), .lit (.int .u8 0)], .agg [.lit (.int .u8 0), .lit (.int .u8 0)], .agg [.lit (.int .u8 0), .lit (.int .u8 0)], .agg [.lit (.int .u8 0), .lit (.int .u8 0)], .agg [.lit (.int .u8 0), .lit (.int .u8 0)], .agg [.lit (.int .u8 0), .lit (.int .u8 0)], .agg [.lit (.int .u8 0), .lit (.int .u8 0)], .agg [.lit (.int .u8 0), .lit (.int .u8 0)], .agg [.lit (.int .u8 0), .lit (.int .u8 0)], .agg [.lit (.int .u8 0), .lit (.int .u8 0)]]
/-- One of Go's own tables, pinned by name: the form's constant. -/
def laid_unicode_utf8_first : DataW Unit := Go.Pinned.utf8First

/-- 'laws.FnExactUnstuffBits': WHATEVER THE INPUT: true; the input reads as it did. -/
def fnExactUnstuffBitsSpec : ChangeSpec := { name := "fnExactUnstuffBits", fn := fun _ => fun
  | [d1, d2] => { results := [.lit (.bool true)], args := [d1, d2] }
  | _ => none }
def fnExactUnstuffBitsRow : OpenClaim := { program := "ytbifbbfkcbgnlaadoor", sum := "bd8e5a2fec27d8fe9f3080b8b2ff888d39f3b36bc020ae454ad1508912ef6c4c", func := "loop.example/g01142/laws.FnExactUnstuffBits", spec := "fnExactUnstuffBits", inPlace := ["internal/bytealg.IndexByteString", "internal/bytealg.IndexString", "internal/abi.NoEscape"], named := ["unicode/utf8.first", "unicode/utf8.acceptRanges", "internal/bytealg.MaxLen"], apart := false, laid := [("unicode/utf8.acceptRanges", laid_unicode_utf8_acceptRanges), ("unicode/utf8.first", laid_unicode_utf8_first)] }
def FnExactUnstuffBitsSaid : Prop := fnExactUnstuffBitsRow.holds Tryd.pinned (OpenSpec.ofChange fnExactUnstuffBitsSpec)

/-- ITS FALSE NEIGHBOUR: 'it returns false'. Refute it at one input. -/
def fnExactUnstuffBitsWrong : ChangeSpec := { name := "fnExactUnstuffBits", fn := fun _ => fun
  | [d1, d2] => { results := [.lit (.bool false)], args := [d1, d2] }
  | _ => none }
def FnExactUnstuffBitsWrongFalsely : Prop := fnExactUnstuffBitsRow.holds Tryd.pinned (OpenSpec.ofChange fnExactUnstuffBitsWrong)

/-- 'laws.FnStuffed': WHATEVER THE INPUT: true; the input reads as it did. -/
def fnStuffedSpec : ChangeSpec := { name := "fnStuffed", fn := fun _ => fun
  | [d1, d2] => { results := [.lit (.bool true)], args := [d1, d2] }
  | _ => none }
def fnStuffedRow : OpenClaim := { program := "ytbifbbfkcbgnlaadoor", sum := "bd8e5a2fec27d8fe9f3080b8b2ff888d39f3b36bc020ae454ad1508912ef6c4c", func := "loop.example/g01142/laws.FnStuffed", spec := "fnStuffed", inPlace := ["internal/bytealg.IndexByteString", "internal/bytealg.IndexString", "internal/abi.NoEscape", "internal/bytealg.MakeNoZero"], named := ["unicode/utf8.first", "unicode/utf8.acceptRanges", "internal/bytealg.MaxLen"], apart := false, laid := [("unicode/utf8.acceptRanges", laid_unicode_utf8_acceptRanges), ("unicode/utf8.first", laid_unicode_utf8_first)] }
def FnStuffedSaid : Prop := fnStuffedRow.holds Tryd.pinned (OpenSpec.ofChange fnStuffedSpec)

/-- ITS FALSE NEIGHBOUR: 'it returns false'. Refute it at one input. -/
def fnStuffedWrong : ChangeSpec := { name := "fnStuffed", fn := fun _ => fun
  | [d1, d2] => { results := [.lit (.bool false)], args := [d1, d2] }
  | _ => none }
def FnStuffedWrongFalsely : Prop := fnStuffedRow.holds Tryd.pinned (OpenSpec.ofChange fnStuffedWrong)

/-- 'laws.FnFramed': WHATEVER THE INPUT: true; the input reads as it did. -/
def fnFramedSpec : ChangeSpec := { name := "fnFramed", fn := fun _ => fun
  | [d1, d2] => { results := [.lit (.bool true)], args := [d1, d2] }
  | _ => none }
def fnFramedRow : OpenClaim := { program := "ytbifbbfkcbgnlaadoor", sum := "bd8e5a2fec27d8fe9f3080b8b2ff888d39f3b36bc020ae454ad1508912ef6c4c", func := "loop.example/g01142/laws.FnFramed", spec := "fnFramed", inPlace := ["internal/abi.NoEscape", "internal/bytealg.MakeNoZero", "internal/bytealg.IndexByteString", "internal/bytealg.IndexString", "internal/bytealg.CountString"], named := ["unicode/utf8.first", "unicode/utf8.acceptRanges", "internal/bytealg.MaxLen"], apart := false, laid := [("unicode/utf8.acceptRanges", laid_unicode_utf8_acceptRanges), ("unicode/utf8.first", laid_unicode_utf8_first)] }
def FnFramedSaid : Prop := fnFramedRow.holds Tryd.pinned (OpenSpec.ofChange fnFramedSpec)

/-- ITS FALSE NEIGHBOUR: 'it returns false'. Refute it at one input. -/
def fnFramedWrong : ChangeSpec := { name := "fnFramed", fn := fun _ => fun
  | [d1, d2] => { results := [.lit (.bool false)], args := [d1, d2] }
  | _ => none }
def FnFramedWrongFalsely : Prop := fnFramedRow.holds Tryd.pinned (OpenSpec.ofChange fnFramedWrong)

/-- 'laws.FnExactDeframeBits': WHATEVER THE INPUT: true; the input reads as it did. -/
def fnExactDeframeBitsSpec : ChangeSpec := { name := "fnExactDeframeBits", fn := fun _ => fun
  | [d1, d2] => { results := [.lit (.bool true)], args := [d1, d2] }
  | _ => none }
def fnExactDeframeBitsRow : OpenClaim := { program := "ytbifbbfkcbgnlaadoor", sum := "bd8e5a2fec27d8fe9f3080b8b2ff888d39f3b36bc020ae454ad1508912ef6c4c", func := "loop.example/g01142/laws.FnExactDeframeBits", spec := "fnExactDeframeBits", inPlace := ["internal/bytealg.IndexByteString", "internal/bytealg.IndexString", "internal/abi.NoEscape", "internal/bytealg.MakeNoZero", "internal/bytealg.CountString"], named := ["unicode/utf8.first", "unicode/utf8.acceptRanges", "internal/bytealg.MaxLen"], apart := false, laid := [("unicode/utf8.acceptRanges", laid_unicode_utf8_acceptRanges), ("unicode/utf8.first", laid_unicode_utf8_first)] }
def FnExactDeframeBitsSaid : Prop := fnExactDeframeBitsRow.holds Tryd.pinned (OpenSpec.ofChange fnExactDeframeBitsSpec)

/-- ITS FALSE NEIGHBOUR: 'it returns false'. Refute it at one input. -/
def fnExactDeframeBitsWrong : ChangeSpec := { name := "fnExactDeframeBits", fn := fun _ => fun
  | [d1, d2] => { results := [.lit (.bool false)], args := [d1, d2] }
  | _ => none }
def FnExactDeframeBitsWrongFalsely : Prop := fnExactDeframeBitsRow.holds Tryd.pinned (OpenSpec.ofChange fnExactDeframeBitsWrong)

/- THE SECOND FORM. 'bulk': how many values and letters a reading holds, each counted each time it is reached (what is shared counts as often as it is met; a slice's spare places count too). A statement '..UptoSaid' is the law's where the arguments, and the package variables that the reading takes, are together of bulk at most 1048576: NARROWER than '..Said'. Prove '..Said' where nothing that the law and all that it calls make is longer than what came in: it says more and counts as full. Else prove '..UptoSaid'. A law counts once. -/
mutual
def uptoBulk {H : Type} : DataW H → Nat
  | .lit (.string bytes) => bytes.length + 1
  | .lit _ => 1
  | .nil => 1
  | .ptr d => uptoBulk d + 1
  | .slice elems spare => uptoBulkAll elems + uptoBulkAll spare + 1
  | .agg parts => uptoBulkAll parts + 1
  | .iface _ d => uptoBulk d + 1
  | .map entries => uptoBulkEntries entries + 1
  | .held _ => 1
def uptoBulkAll {H : Type} : List (DataW H) → Nat
  | [] => 0
  | d :: r => uptoBulk d + uptoBulkAll r
def uptoBulkEntries {H : Type} : List (Lit × DataW H) → Nat
  | [] => 0
  | x :: r => uptoBulkEntry x + uptoBulkEntries r
def uptoBulkEntry {H : Type} : Lit × DataW H → Nat
  | (.string bytes, d) => bytes.length + uptoBulk d + 1
  | (_, d) => uptoBulk d + 1
 end
def uptoSmall : (H : Type) → List (DataW H) → Bool := fun _ ds => decide (uptoBulkAll ds ≤ 1048576)
def OpenSpec.upto (s : _root_.Go.ChangeSpec) : _root_.Go.OpenSpec := { _root_.Go.OpenSpec.ofChange s with cond := some uptoSmall }

/-- 'laws.FnExactUnstuffBits', WHERE WHAT IT READS IS OF BULK AT MOST 1048576: true; the input reads as it did. -/
def fnExactUnstuffBitsUptoRow : OpenClaim := { program := "ytbifbbfkcbgnlaadoor", sum := "bd8e5a2fec27d8fe9f3080b8b2ff888d39f3b36bc020ae454ad1508912ef6c4c", func := "loop.example/g01142/laws.FnExactUnstuffBits", spec := "fnExactUnstuffBits", inPlace := ["internal/bytealg.IndexByteString", "internal/bytealg.IndexString", "internal/abi.NoEscape"], named := ["unicode/utf8.first", "unicode/utf8.acceptRanges", "internal/bytealg.MaxLen"], apart := false, laid := [("unicode/utf8.acceptRanges", laid_unicode_utf8_acceptRanges), ("unicode/utf8.first", laid_unicode_utf8_first)], narrowed := true }
def FnExactUnstuffBitsUptoSaid : Prop := fnExactUnstuffBitsUptoRow.holds Tryd.pinned (OpenSpec.upto fnExactUnstuffBitsSpec)

/-- 'laws.FnStuffed', WHERE WHAT IT READS IS OF BULK AT MOST 1048576: true; the input reads as it did. -/
def fnStuffedUptoRow : OpenClaim := { program := "ytbifbbfkcbgnlaadoor", sum := "bd8e5a2fec27d8fe9f3080b8b2ff888d39f3b36bc020ae454ad1508912ef6c4c", func := "loop.example/g01142/laws.FnStuffed", spec := "fnStuffed", inPlace := ["internal/bytealg.IndexByteString", "internal/bytealg.IndexString", "internal/abi.NoEscape", "internal/bytealg.MakeNoZero"], named := ["unicode/utf8.first", "unicode/utf8.acceptRanges", "internal/bytealg.MaxLen"], apart := false, laid := [("unicode/utf8.acceptRanges", laid_unicode_utf8_acceptRanges), ("unicode/utf8.first", laid_unicode_utf8_first)], narrowed := true }
def FnStuffedUptoSaid : Prop := fnStuffedUptoRow.holds Tryd.pinned (OpenSpec.upto fnStuffedSpec)

/-- 'laws.FnFramed', WHERE WHAT IT READS IS OF BULK AT MOST 1048576: true; the input reads as it did. -/
def fnFramedUptoRow : OpenClaim := { program := "ytbifbbfkcbgnlaadoor", sum := "bd8e5a2fec27d8fe9f3080b8b2ff888d39f3b36bc020ae454ad1508912ef6c4c", func := "loop.example/g01142/laws.FnFramed", spec := "fnFramed", inPlace := ["internal/abi.NoEscape", "internal/bytealg.MakeNoZero", "internal/bytealg.IndexByteString", "internal/bytealg.IndexString", "internal/bytealg.CountString"], named := ["unicode/utf8.first", "unicode/utf8.acceptRanges", "internal/bytealg.MaxLen"], apart := false, laid := [("unicode/utf8.acceptRanges", laid_unicode_utf8_acceptRanges), ("unicode/utf8.first", laid_unicode_utf8_first)], narrowed := true }
def FnFramedUptoSaid : Prop := fnFramedUptoRow.holds Tryd.pinned (OpenSpec.upto fnFramedSpec)

/-- 'laws.FnExactDeframeBits', WHERE WHAT IT READS IS OF BULK AT MOST 1048576: true; the input reads as it did. -/
def fnExactDeframeBitsUptoRow : OpenClaim := { program := "ytbifbbfkcbgnlaadoor", sum := "bd8e5a2fec27d8fe9f3080b8b2ff888d39f3b36bc020ae454ad1508912ef6c4c", func := "loop.example/g01142/laws.FnExactDeframeBits", spec := "fnExactDeframeBits", inPlace := ["internal/bytealg.IndexByteString", "internal/bytealg.IndexString", "internal/abi.NoEscape", "internal/bytealg.MakeNoZero", "internal/bytealg.CountString"], named := ["unicode/utf8.first", "unicode/utf8.acceptRanges", "internal/bytealg.MaxLen"], apart := false, laid := [("unicode/utf8.acceptRanges", laid_unicode_utf8_acceptRanges), ("unicode/utf8.first", laid_unicode_utf8_first)], narrowed := true }
def FnExactDeframeBitsUptoSaid : Prop := fnExactDeframeBitsUptoRow.holds Tryd.pinned (OpenSpec.upto fnExactDeframeBitsSpec)

end Rows
end Go.Proofs.YtbifbbfkcbgnlaaDoor
