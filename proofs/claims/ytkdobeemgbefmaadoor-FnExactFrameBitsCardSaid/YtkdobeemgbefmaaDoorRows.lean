/-
  NARROWER THAN 'FOR EVERY INPUT', by the rows' own cells (each row's printed sentence says how): FnExactStuffBits: laid · FnExactUnstuffBits: laid · FnExactLongestRun: laid · FnExactFrameBits: laid · FnExactDeframeBits: laid · FnStuffed: laid · FnFramed: laid.
  DERIVED. THE GIVEN ROWS OF THIS SEAT. 7 by the template 'for every input the law returns true; each argument reads behind the call as it read before'; 0 by the template 'total and deterministic' (their statements: YtkdobeemgbefmaaDoorTotals.lean).
  GIVEN WITH THE SEED: the statements are not yours to turn. If you find one false, say at which input.
  Laid BY PROGRAM, IN A SANDBOX (cutbox-rows.mjs): the forced cells as the released guide's own fill.sh prints them over the translation 77263ef08c95b685… (all of the seat's roots in one cut). By AI agents, Wed Nov 11 2026. No macro, syntax, notation, axiom, sorry.
-/
import Derived.Test.YtkdobeemgbefmaaDoorChecked
import GoSem.PinnedTables
import GoSem.Claim
import GoSem.ClaimJoined
import GoSem.ClaimMapViews
import Derived.JoinedTies
import Derived.KernelRfl
namespace Go.Proofs.YtkdobeemgbefmaaDoor
/- THE CELL 'sum', in the pinned program and in every row, IS THE sha256 OF THE DUMP (.gsa) THAT YtkdobeemgbefmaaDoorProg.lean LOADS. Nothing in Lean hashes anything: it is a label: what it is worth is what the hold of that sum in a sandbox is worth. -/
noncomputable def Tryd.pinned : Pinned := { name := "ytkdobeemgbefmaadoor", sum := "77263ef08c95b685aad6a2f72377ec0a76a3e8b770101847490e174b5db92bd9", checked := Tryd.checked }
namespace Rows
def none {H : Type} : Left H := { results := [], args := [] }

/- WHAT THE LISTED PACKAGE-LEVEL VARIABLES READ AS WHEN THE CALL BEGINS. Each datum BY PROGRAM (the guide's laid-datum.mjs) off the statement by which the dump's own 'gosem.cut.vars' lays the variable. In a bare row this is a premise. The card (YtkdobeemgbefmaaDoorCards.lean) ties it to the program's text. -/
def laid_unicode_utf8_acceptRanges {H : Type} : DataW H := .agg [.agg [.lit (.int .u8 128), .lit (.int .u8 191)], .agg [.lit (.int .u8 160), .lit (.int .u8 191)], .agg [.lit (.int .u8 128), .lit (.int .u8 159)], .agg [.lit (.int .u8 144), .lit (.int .u8 191)], .agg [.lit (.int .u8 128), .lit (.int .u8 143)], .agg [.lit (.int .u8 0), .lit (.int .u8 0)], .agg [.lit (.int .u8 0), .lit (.int .u8 0)], .agg [.lit (.int .u8 0), .lit (.int .u8 0)], .agg [.lit (.int .u8 0), .lit (.int .u8 0)], .agg [.lit (.int .u8 0), .lit (.int .u8 0)], .agg [.lit (.int .u8 0), .lit (.int .u8 0)], .agg [.lit (.int .u8 0), .lit (.int .u8 0)], .agg [.lit (.int .u8 0), .lit (.int .u8 0)], .agg [.lit (.int .u8 0), .lit (.int .u8 0)], .agg [.lit (.int .u8 0), .lit (.int .u8 0)], .agg [.lit (.int .u8 0), .lit (.int .u8 0)]]
/-- One of Go's own tables, pinned by name: the form's constant. -/
def laid_unicode_utf8_first : DataW Unit := Go.Pinned.utf8First

/-- 'laws.FnExactStuffBits': WHATEVER THE INPUT: true; the input reads as it did. -/
def fnExactStuffBitsSpec : ChangeSpec := { name := "fnExactStuffBits", fn := fun _ => fun
  | [d1, d2] => { results := [.lit (.bool true)], args := [d1, d2] }
  | _ => none }
def fnExactStuffBitsRow : OpenClaim := { program := "ytkdobeemgbefmaadoor", sum := "77263ef08c95b685aad6a2f72377ec0a76a3e8b770101847490e174b5db92bd9", func := "loop.example/g01142/laws.FnExactStuffBits", spec := "fnExactStuffBits", inPlace := ["internal/bytealg.IndexByteString", "internal/bytealg.IndexString", "internal/abi.NoEscape"], named := ["unicode/utf8.first", "unicode/utf8.acceptRanges", "internal/bytealg.MaxLen"], apart := false, laid := [("unicode/utf8.acceptRanges", laid_unicode_utf8_acceptRanges), ("unicode/utf8.first", laid_unicode_utf8_first)] }
def FnExactStuffBitsSaid : Prop := fnExactStuffBitsRow.holds Tryd.pinned (OpenSpec.ofChange fnExactStuffBitsSpec)

/-- ITS FALSE NEIGHBOUR: 'it returns false'. Refute it at one input. -/
def fnExactStuffBitsWrong : ChangeSpec := { name := "fnExactStuffBits", fn := fun _ => fun
  | [d1, d2] => { results := [.lit (.bool false)], args := [d1, d2] }
  | _ => none }
def FnExactStuffBitsWrongFalsely : Prop := fnExactStuffBitsRow.holds Tryd.pinned (OpenSpec.ofChange fnExactStuffBitsWrong)

/-- 'laws.FnExactUnstuffBits': WHATEVER THE INPUT: true; the input reads as it did. -/
def fnExactUnstuffBitsSpec : ChangeSpec := { name := "fnExactUnstuffBits", fn := fun _ => fun
  | [d1, d2] => { results := [.lit (.bool true)], args := [d1, d2] }
  | _ => none }
def fnExactUnstuffBitsRow : OpenClaim := { program := "ytkdobeemgbefmaadoor", sum := "77263ef08c95b685aad6a2f72377ec0a76a3e8b770101847490e174b5db92bd9", func := "loop.example/g01142/laws.FnExactUnstuffBits", spec := "fnExactUnstuffBits", inPlace := ["internal/bytealg.IndexByteString", "internal/bytealg.IndexString", "internal/abi.NoEscape"], named := ["unicode/utf8.first", "unicode/utf8.acceptRanges", "internal/bytealg.MaxLen"], apart := false, laid := [("unicode/utf8.acceptRanges", laid_unicode_utf8_acceptRanges), ("unicode/utf8.first", laid_unicode_utf8_first)] }
def FnExactUnstuffBitsSaid : Prop := fnExactUnstuffBitsRow.holds Tryd.pinned (OpenSpec.ofChange fnExactUnstuffBitsSpec)

/-- ITS FALSE NEIGHBOUR: 'it returns false'. Refute it at one input. -/
def fnExactUnstuffBitsWrong : ChangeSpec := { name := "fnExactUnstuffBits", fn := fun _ => fun
  | [d1, d2] => { results := [.lit (.bool false)], args := [d1, d2] }
  | _ => none }
def FnExactUnstuffBitsWrongFalsely : Prop := fnExactUnstuffBitsRow.holds Tryd.pinned (OpenSpec.ofChange fnExactUnstuffBitsWrong)

/-- 'laws.FnExactLongestRun': WHATEVER THE INPUT: true; the input reads as it did. -/
def fnExactLongestRunSpec : ChangeSpec := { name := "fnExactLongestRun", fn := fun _ => fun
  | [d1, d2] => { results := [.lit (.bool true)], args := [d1, d2] }
  | _ => none }
def fnExactLongestRunRow : OpenClaim := { program := "ytkdobeemgbefmaadoor", sum := "77263ef08c95b685aad6a2f72377ec0a76a3e8b770101847490e174b5db92bd9", func := "loop.example/g01142/laws.FnExactLongestRun", spec := "fnExactLongestRun", inPlace := ["internal/bytealg.IndexByteString", "internal/bytealg.IndexString"], named := ["unicode/utf8.first", "unicode/utf8.acceptRanges", "internal/bytealg.MaxLen"], apart := false, laid := [("unicode/utf8.acceptRanges", laid_unicode_utf8_acceptRanges), ("unicode/utf8.first", laid_unicode_utf8_first)] }
def FnExactLongestRunSaid : Prop := fnExactLongestRunRow.holds Tryd.pinned (OpenSpec.ofChange fnExactLongestRunSpec)

/-- ITS FALSE NEIGHBOUR: 'it returns false'. Refute it at one input. -/
def fnExactLongestRunWrong : ChangeSpec := { name := "fnExactLongestRun", fn := fun _ => fun
  | [d1, d2] => { results := [.lit (.bool false)], args := [d1, d2] }
  | _ => none }
def FnExactLongestRunWrongFalsely : Prop := fnExactLongestRunRow.holds Tryd.pinned (OpenSpec.ofChange fnExactLongestRunWrong)

/-- 'laws.FnExactFrameBits': WHATEVER THE INPUT: true; the input reads as it did. -/
def fnExactFrameBitsSpec : ChangeSpec := { name := "fnExactFrameBits", fn := fun _ => fun
  | [d1, d2] => { results := [.lit (.bool true)], args := [d1, d2] }
  | _ => none }
def fnExactFrameBitsRow : OpenClaim := { program := "ytkdobeemgbefmaadoor", sum := "77263ef08c95b685aad6a2f72377ec0a76a3e8b770101847490e174b5db92bd9", func := "loop.example/g01142/laws.FnExactFrameBits", spec := "fnExactFrameBits", inPlace := ["internal/abi.NoEscape", "internal/bytealg.MakeNoZero", "internal/bytealg.IndexByteString", "internal/bytealg.IndexString"], named := ["unicode/utf8.first", "unicode/utf8.acceptRanges", "internal/bytealg.MaxLen"], apart := false, laid := [("unicode/utf8.acceptRanges", laid_unicode_utf8_acceptRanges), ("unicode/utf8.first", laid_unicode_utf8_first)] }
def FnExactFrameBitsSaid : Prop := fnExactFrameBitsRow.holds Tryd.pinned (OpenSpec.ofChange fnExactFrameBitsSpec)

/-- ITS FALSE NEIGHBOUR: 'it returns false'. Refute it at one input. -/
def fnExactFrameBitsWrong : ChangeSpec := { name := "fnExactFrameBits", fn := fun _ => fun
  | [d1, d2] => { results := [.lit (.bool false)], args := [d1, d2] }
  | _ => none }
def FnExactFrameBitsWrongFalsely : Prop := fnExactFrameBitsRow.holds Tryd.pinned (OpenSpec.ofChange fnExactFrameBitsWrong)

/-- 'laws.FnExactDeframeBits': WHATEVER THE INPUT: true; the input reads as it did. -/
def fnExactDeframeBitsSpec : ChangeSpec := { name := "fnExactDeframeBits", fn := fun _ => fun
  | [d1, d2] => { results := [.lit (.bool true)], args := [d1, d2] }
  | _ => none }
def fnExactDeframeBitsRow : OpenClaim := { program := "ytkdobeemgbefmaadoor", sum := "77263ef08c95b685aad6a2f72377ec0a76a3e8b770101847490e174b5db92bd9", func := "loop.example/g01142/laws.FnExactDeframeBits", spec := "fnExactDeframeBits", inPlace := ["internal/bytealg.IndexByteString", "internal/bytealg.IndexString", "internal/abi.NoEscape", "internal/bytealg.MakeNoZero", "internal/bytealg.CountString"], named := ["unicode/utf8.first", "unicode/utf8.acceptRanges", "internal/bytealg.MaxLen"], apart := false, laid := [("unicode/utf8.acceptRanges", laid_unicode_utf8_acceptRanges), ("unicode/utf8.first", laid_unicode_utf8_first)] }
def FnExactDeframeBitsSaid : Prop := fnExactDeframeBitsRow.holds Tryd.pinned (OpenSpec.ofChange fnExactDeframeBitsSpec)

/-- ITS FALSE NEIGHBOUR: 'it returns false'. Refute it at one input. -/
def fnExactDeframeBitsWrong : ChangeSpec := { name := "fnExactDeframeBits", fn := fun _ => fun
  | [d1, d2] => { results := [.lit (.bool false)], args := [d1, d2] }
  | _ => none }
def FnExactDeframeBitsWrongFalsely : Prop := fnExactDeframeBitsRow.holds Tryd.pinned (OpenSpec.ofChange fnExactDeframeBitsWrong)

/-- 'laws.FnStuffed': WHATEVER THE INPUT: true; the input reads as it did. -/
def fnStuffedSpec : ChangeSpec := { name := "fnStuffed", fn := fun _ => fun
  | [d1, d2] => { results := [.lit (.bool true)], args := [d1, d2] }
  | _ => none }
def fnStuffedRow : OpenClaim := { program := "ytkdobeemgbefmaadoor", sum := "77263ef08c95b685aad6a2f72377ec0a76a3e8b770101847490e174b5db92bd9", func := "loop.example/g01142/laws.FnStuffed", spec := "fnStuffed", inPlace := ["internal/bytealg.IndexByteString", "internal/bytealg.IndexString", "internal/abi.NoEscape", "internal/bytealg.MakeNoZero"], named := ["unicode/utf8.first", "unicode/utf8.acceptRanges", "internal/bytealg.MaxLen"], apart := false, laid := [("unicode/utf8.acceptRanges", laid_unicode_utf8_acceptRanges), ("unicode/utf8.first", laid_unicode_utf8_first)] }
def FnStuffedSaid : Prop := fnStuffedRow.holds Tryd.pinned (OpenSpec.ofChange fnStuffedSpec)

/-- ITS FALSE NEIGHBOUR: 'it returns false'. Refute it at one input. -/
def fnStuffedWrong : ChangeSpec := { name := "fnStuffed", fn := fun _ => fun
  | [d1, d2] => { results := [.lit (.bool false)], args := [d1, d2] }
  | _ => none }
def FnStuffedWrongFalsely : Prop := fnStuffedRow.holds Tryd.pinned (OpenSpec.ofChange fnStuffedWrong)

/-- 'laws.FnFramed': WHATEVER THE INPUT: true; the input reads as it did. -/
def fnFramedSpec : ChangeSpec := { name := "fnFramed", fn := fun _ => fun
  | [d1, d2] => { results := [.lit (.bool true)], args := [d1, d2] }
  | _ => none }
def fnFramedRow : OpenClaim := { program := "ytkdobeemgbefmaadoor", sum := "77263ef08c95b685aad6a2f72377ec0a76a3e8b770101847490e174b5db92bd9", func := "loop.example/g01142/laws.FnFramed", spec := "fnFramed", inPlace := ["internal/abi.NoEscape", "internal/bytealg.MakeNoZero", "internal/bytealg.IndexByteString", "internal/bytealg.IndexString", "internal/bytealg.CountString"], named := ["unicode/utf8.first", "unicode/utf8.acceptRanges", "internal/bytealg.MaxLen"], apart := false, laid := [("unicode/utf8.acceptRanges", laid_unicode_utf8_acceptRanges), ("unicode/utf8.first", laid_unicode_utf8_first)] }
def FnFramedSaid : Prop := fnFramedRow.holds Tryd.pinned (OpenSpec.ofChange fnFramedSpec)

/-- ITS FALSE NEIGHBOUR: 'it returns false'. Refute it at one input. -/
def fnFramedWrong : ChangeSpec := { name := "fnFramed", fn := fun _ => fun
  | [d1, d2] => { results := [.lit (.bool false)], args := [d1, d2] }
  | _ => none }
def FnFramedWrongFalsely : Prop := fnFramedRow.holds Tryd.pinned (OpenSpec.ofChange fnFramedWrong)

/- THE SECOND FORM. 'bulk': how many values and letters a reading holds, each counted each time it is reached (what is shared counts as often as it is met; a slice's spare places count too). A statement '..UptoSaid' is the law's where the arguments, and the package variables that the reading takes, are together of bulk at most 1048576: NARROWER than '..Said'. Prove '..Said' where nothing that the law and all that it calls make is longer than what came in: it says more and counts as full. Else prove '..UptoSaid'. A law counts once. -/
mutual
def uptoBulk {H : Type} : DataW H → Nat
  | .lit (.string bytes) => bytes.length + 1
  | .lit _ => 1
  | .nil => 1
  | .ptr d => uptoBulk d + 1
  | .slice elems spare => uptoBulkAll elems + uptoBulkAll spare + 1
  | .agg parts => uptoBulkAll parts + 1
  | .iface _ d => uptoBulk d + 1
  | .map entries => uptoBulkEntries entries + 1
  | .held _ => 1
def uptoBulkAll {H : Type} : List (DataW H) → Nat
  | [] => 0
  | d :: r => uptoBulk d + uptoBulkAll r
def uptoBulkEntries {H : Type} : List (Lit × DataW H) → Nat
  | [] => 0
  | x :: r => uptoBulkEntry x + uptoBulkEntries r
def uptoBulkEntry {H : Type} : Lit × DataW H → Nat
  | (.string bytes, d) => bytes.length + uptoBulk d + 1
  | (_, d) => uptoBulk d + 1
 end
def uptoSmall : (H : Type) → List (DataW H) → Bool := fun _ ds => decide (uptoBulkAll ds ≤ 1048576)
def OpenSpec.upto (s : _root_.Go.ChangeSpec) : _root_.Go.OpenSpec := { _root_.Go.OpenSpec.ofChange s with cond := some uptoSmall }

/-- 'laws.FnExactStuffBits', WHERE WHAT IT READS IS OF BULK AT MOST 1048576: true; the input reads as it did. -/
def fnExactStuffBitsUptoRow : OpenClaim := { program := "ytkdobeemgbefmaadoor", sum := "77263ef08c95b685aad6a2f72377ec0a76a3e8b770101847490e174b5db92bd9", func := "loop.example/g01142/laws.FnExactStuffBits", spec := "fnExactStuffBits", inPlace := ["internal/bytealg.IndexByteString", "internal/bytealg.IndexString", "internal/abi.NoEscape"], named := ["unicode/utf8.first", "unicode/utf8.acceptRanges", "internal/bytealg.MaxLen"], apart := false, laid := [("unicode/utf8.acceptRanges", laid_unicode_utf8_acceptRanges), ("unicode/utf8.first", laid_unicode_utf8_first)], narrowed := true }
def FnExactStuffBitsUptoSaid : Prop := fnExactStuffBitsUptoRow.holds Tryd.pinned (OpenSpec.upto fnExactStuffBitsSpec)

/-- 'laws.FnExactUnstuffBits', WHERE WHAT IT READS IS OF BULK AT MOST 1048576: true; the input reads as it did. -/
def fnExactUnstuffBitsUptoRow : OpenClaim := { program := "ytkdobeemgbefmaadoor", sum := "77263ef08c95b685aad6a2f72377ec0a76a3e8b770101847490e174b5db92bd9", func := "loop.example/g01142/laws.FnExactUnstuffBits", spec := "fnExactUnstuffBits", inPlace := ["internal/bytealg.IndexByteString", "internal/bytealg.IndexString", "internal/abi.NoEscape"], named := ["unicode/utf8.first", "unicode/utf8.acceptRanges", "internal/bytealg.MaxLen"], apart := false, laid := [("unicode/utf8.acceptRanges", laid_unicode_utf8_acceptRanges), ("unicode/utf8.first", laid_unicode_utf8_first)], narrowed := true }
def FnExactUnstuffBitsUptoSaid : Prop := fnExactUnstuffBitsUptoRow.holds Tryd.pinned (OpenSpec.upto fnExactUnstuffBitsSpec)

/-- 'laws.FnExactLongestRun', WHERE WHAT IT READS IS OF BULK AT MOST 1048576: true; the input reads as it did. -/
def fnExactLongestRunUptoRow : OpenClaim := { program := "ytkdobeemgbefmaadoor", sum := "77263ef08c95b685aad6a2f72377ec0a76a3e8b770101847490e174b5db92bd9", func := "loop.example/g01142/laws.FnExactLongestRun", spec := "fnExactLongestRun", inPlace := ["internal/bytealg.IndexByteString", "internal/bytealg.IndexString"], named := ["unicode/utf8.first", "unicode/utf8.acceptRanges", "internal/bytealg.MaxLen"], apart := false, laid := [("unicode/utf8.acceptRanges", laid_unicode_utf8_acceptRanges), ("unicode/utf8.first", laid_unicode_utf8_first)], narrowed := true }
def FnExactLongestRunUptoSaid : Prop := fnExactLongestRunUptoRow.holds Tryd.pinned (OpenSpec.upto fnExactLongestRunSpec)

/-- 'laws.FnExactFrameBits', WHERE WHAT IT READS IS OF BULK AT MOST 1048576: true; the input reads as it did. -/
def fnExactFrameBitsUptoRow : OpenClaim := { program := "ytkdobeemgbefmaadoor", sum := "77263ef08c95b685aad6a2f72377ec0a76a3e8b770101847490e174b5db92bd9", func := "loop.example/g01142/laws.FnExactFrameBits", spec := "fnExactFrameBits", inPlace := ["internal/abi.NoEscape", "internal/bytealg.MakeNoZero", "internal/bytealg.IndexByteString", "internal/bytealg.IndexString"], named := ["unicode/utf8.first", "unicode/utf8.acceptRanges", "internal/bytealg.MaxLen"], apart := false, laid := [("unicode/utf8.acceptRanges", laid_unicode_utf8_acceptRanges), ("unicode/utf8.first", laid_unicode_utf8_first)], narrowed := true }
def FnExactFrameBitsUptoSaid : Prop := fnExactFrameBitsUptoRow.holds Tryd.pinned (OpenSpec.upto fnExactFrameBitsSpec)

/-- 'laws.FnExactDeframeBits', WHERE WHAT IT READS IS OF BULK AT MOST 1048576: true; the input reads as it did. -/
def fnExactDeframeBitsUptoRow : OpenClaim := { program := "ytkdobeemgbefmaadoor", sum := "77263ef08c95b685aad6a2f72377ec0a76a3e8b770101847490e174b5db92bd9", func := "loop.example/g01142/laws.FnExactDeframeBits", spec := "fnExactDeframeBits", inPlace := ["internal/bytealg.IndexByteString", "internal/bytealg.IndexString", "internal/abi.NoEscape", "internal/bytealg.MakeNoZero", "internal/bytealg.CountString"], named := ["unicode/utf8.first", "unicode/utf8.acceptRanges", "internal/bytealg.MaxLen"], apart := false, laid := [("unicode/utf8.acceptRanges", laid_unicode_utf8_acceptRanges), ("unicode/utf8.first", laid_unicode_utf8_first)], narrowed := true }
def FnExactDeframeBitsUptoSaid : Prop := fnExactDeframeBitsUptoRow.holds Tryd.pinned (OpenSpec.upto fnExactDeframeBitsSpec)

/-- 'laws.FnStuffed', WHERE WHAT IT READS IS OF BULK AT MOST 1048576: true; the input reads as it did. -/
def fnStuffedUptoRow : OpenClaim := { program := "ytkdobeemgbefmaadoor", sum := "77263ef08c95b685aad6a2f72377ec0a76a3e8b770101847490e174b5db92bd9", func := "loop.example/g01142/laws.FnStuffed", spec := "fnStuffed", inPlace := ["internal/bytealg.IndexByteString", "internal/bytealg.IndexString", "internal/abi.NoEscape", "internal/bytealg.MakeNoZero"], named := ["unicode/utf8.first", "unicode/utf8.acceptRanges", "internal/bytealg.MaxLen"], apart := false, laid := [("unicode/utf8.acceptRanges", laid_unicode_utf8_acceptRanges), ("unicode/utf8.first", laid_unicode_utf8_first)], narrowed := true }
def FnStuffedUptoSaid : Prop := fnStuffedUptoRow.holds Tryd.pinned (OpenSpec.upto fnStuffedSpec)

/-- 'laws.FnFramed', WHERE WHAT IT READS IS OF BULK AT MOST 1048576: true; the input reads as it did. -/
def fnFramedUptoRow : OpenClaim := { program := "ytkdobeemgbefmaadoor", sum := "77263ef08c95b685aad6a2f72377ec0a76a3e8b770101847490e174b5db92bd9", func := "loop.example/g01142/laws.FnFramed", spec := "fnFramed", inPlace := ["internal/abi.NoEscape", "internal/bytealg.MakeNoZero", "internal/bytealg.IndexByteString", "internal/bytealg.IndexString", "internal/bytealg.CountString"], named := ["unicode/utf8.first", "unicode/utf8.acceptRanges", "internal/bytealg.MaxLen"], apart := false, laid := [("unicode/utf8.acceptRanges", laid_unicode_utf8_acceptRanges), ("unicode/utf8.first", laid_unicode_utf8_first)], narrowed := true }
def FnFramedUptoSaid : Prop := fnFramedUptoRow.holds Tryd.pinned (OpenSpec.upto fnFramedSpec)

end Rows
end Go.Proofs.YtkdobeemgbefmaaDoor
