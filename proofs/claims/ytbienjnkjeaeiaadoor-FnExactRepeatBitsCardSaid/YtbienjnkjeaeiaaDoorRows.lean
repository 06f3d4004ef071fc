/-
  NARROWER THAN 'FOR EVERY INPUT', by the rows' own cells (each row's printed sentence says how): FnExactEdgesOf: laid · FnExactReceiveBits: laid · FnExactVoteBits: laid · FnExactRepeatBits: laid · FnVoted: laid.
  DERIVED. THE GIVEN ROWS OF THIS SEAT. 5 by the template 'for every input the law returns true; each argument reads behind the call as it read before'; 0 by the template 'total and deterministic' (their statements: YtbienjnkjeaeiaaDoorTotals.lean).
  GIVEN WITH THE SEED: the statements are not yours to turn. If you find one false, say at which input.
  Laid BY PROGRAM, IN A SANDBOX (cutbox-rows.mjs): the forced cells as the released guide's own fill.sh prints them over the translation df0c9ae72f0a1545… (all of the seat's roots in one cut). By AI agents, Wed Nov 11 2026. No macro, syntax, notation, axiom, sorry.
-/
import Derived.Test.YtbienjnkjeaeiaaDoorChecked
import GoSem.PinnedTables
import GoSem.Claim
import GoSem.ClaimJoined
import GoSem.ClaimMapViews
import Derived.JoinedTies
import Derived.KernelRfl
namespace Go.Proofs.YtbienjnkjeaeiaaDoor
/- THE CELL 'sum', in the pinned program and in every row, IS THE sha256 OF THE DUMP (.gsa) THAT YtbienjnkjeaeiaaDoorProg.lean LOADS. Nothing in Lean hashes anything: it is a label: what it is worth is what the hold of that sum in a sandbox is worth. -/
noncomputable def Tryd.pinned : Pinned := { name := "ytbienjnkjeaeiaadoor", sum := "df0c9ae72f0a1545dd3f41419da0ca505e7cf8916d4da20eb77435b4efe411ff", checked := Tryd.checked }
namespace Rows
def none {H : Type} : Left H := { results := [], args := [] }

/- WHAT THE LISTED PACKAGE-LEVEL VARIABLES READ AS WHEN THE CALL BEGINS. Each datum BY PROGRAM (the guide's laid-datum.mjs) off the statement by which the dump's own 'gosem.cut.vars' lays the variable. In a bare row this is a premise. The card (YtbienjnkjeaeiaaDoorCards.lean) ties it to the program's text. -/
def laid_unicode_utf8_acceptRanges {H : Type} : DataW H := .agg [.agg [.lit (.int .u8 128), .lit (.int .u8 191)], .agg [.lit (.int .u8 160), .lit (.int .u8 191)], .agg [.lit (.int .u8 128), .lit (.int .u8 159)], .agg [.lit (.int .u8 144), .lit (.int .u8 191)], .agg [.lit (.int .u8 128), .lit (.int .u8 143)], .agg [.lit (.int .u8 0), .lit (.int .u8 0)], .agg [.lit (.int .u8 0), .lit (.int .u8 0)], .agg [.lit (.int .u8 0), .lit (.int .u8 0)], .agg [.lit (.int .u8 0), .lit (.int .u8 0)], .agg [.lit (.int .u8 0), .lit (.int .u8 0)], .agg [.lit (.int .u8 0), .lit (.int .u8 0)], .agg [.lit (.int .u8 0), .lit (.int .u8 0)], .agg [.lit (.int .u8 0), .lit (.int .u8 0)], .agg [.lit (.int .u8 0), .lit (.int .u8 0)], .agg [.lit (.int .u8 0), .lit (.int .u8 0)], .agg [.lit (.int .u8 0), .lit (.int .u8 0)]]
/-- One of Go's own tables, pinned by name: the form's constant. -/
def laid_unicode_utf8_first : DataW Unit := Go.Pinned.utf8First

/-- 'laws.FnExactEdgesOf': WHATEVER THE INPUT: true; the input reads as it did. -/
def fnExactEdgesOfSpec : ChangeSpec := { name := "fnExactEdgesOf", fn := fun _ => fun
  | [d] => { results := [.lit (.bool true)], args := [d] }
  | _ => none }
def fnExactEdgesOfRow : OpenClaim := { program := "ytbienjnkjeaeiaadoor", sum := "df0c9ae72f0a1545dd3f41419da0ca505e7cf8916d4da20eb77435b4efe411ff", func := "loop.example/g01142/laws.FnExactEdgesOf", spec := "fnExactEdgesOf", inPlace := ["internal/bytealg.IndexByteString", "internal/bytealg.IndexString"], named := ["unicode/utf8.first", "unicode/utf8.acceptRanges", "internal/bytealg.MaxLen"], apart := false, laid := [("unicode/utf8.acceptRanges", laid_unicode_utf8_acceptRanges), ("unicode/utf8.first", laid_unicode_utf8_first)] }
def FnExactEdgesOfSaid : Prop := fnExactEdgesOfRow.holds Tryd.pinned (OpenSpec.ofChange fnExactEdgesOfSpec)

/-- ITS FALSE NEIGHBOUR: 'it returns false'. Refute it at one input. -/
def fnExactEdgesOfWrong : ChangeSpec := { name := "fnExactEdgesOf", fn := fun _ => fun
  | [d] => { results := [.lit (.bool false)], args := [d] }
  | _ => none }
def FnExactEdgesOfWrongFalsely : Prop := fnExactEdgesOfRow.holds Tryd.pinned (OpenSpec.ofChange fnExactEdgesOfWrong)

/-- 'laws.FnExactReceiveBits': WHATEVER THE INPUT: true; the input reads as it did. -/
def fnExactReceiveBitsSpec : ChangeSpec := { name := "fnExactReceiveBits", fn := fun _ => fun
  | [d1, d2, d3, d4] => { results := [.lit (.bool true)], args := [d1, d2, d3, d4] }
  | _ => none }
def fnExactReceiveBitsRow : OpenClaim := { program := "ytbienjnkjeaeiaadoor", sum := "df0c9ae72f0a1545dd3f41419da0ca505e7cf8916d4da20eb77435b4efe411ff", func := "loop.example/g01142/laws.FnExactReceiveBits", spec := "fnExactReceiveBits", inPlace := ["internal/bytealg.IndexByteString", "internal/bytealg.IndexString", "internal/abi.NoEscape"], named := ["unicode/utf8.first", "unicode/utf8.acceptRanges", "internal/bytealg.MaxLen"], apart := false, laid := [("unicode/utf8.acceptRanges", laid_unicode_utf8_acceptRanges), ("unicode/utf8.first", laid_unicode_utf8_first)] }
def FnExactReceiveBitsSaid : Prop := fnExactReceiveBitsRow.holds Tryd.pinned (OpenSpec.ofChange fnExactReceiveBitsSpec)

/-- ITS FALSE NEIGHBOUR: 'it returns false'. Refute it at one input. -/
def fnExactReceiveBitsWrong : ChangeSpec := { name := "fnExactReceiveBits", fn := fun _ => fun
  | [d1, d2, d3, d4] => { results := [.lit (.bool false)], args := [d1, d2, d3, d4] }
  | _ => none }
def FnExactReceiveBitsWrongFalsely : Prop := fnExactReceiveBitsRow.holds Tryd.pinned (OpenSpec.ofChange fnExactReceiveBitsWrong)

/-- 'laws.FnExactVoteBits': WHATEVER THE INPUT: true; the input reads as it did. -/
def fnExactVoteBitsSpec : ChangeSpec := { name := "fnExactVoteBits", fn := fun _ => fun
  | [d1, d2] => { results := [.lit (.bool true)], args := [d1, d2] }
  | _ => none }
def fnExactVoteBitsRow : OpenClaim := { program := "ytbienjnkjeaeiaadoor", sum := "df0c9ae72f0a1545dd3f41419da0ca505e7cf8916d4da20eb77435b4efe411ff", func := "loop.example/g01142/laws.FnExactVoteBits", spec := "fnExactVoteBits", inPlace := ["internal/bytealg.IndexByteString", "internal/bytealg.IndexString", "internal/bytealg.CountString"], named := ["unicode/utf8.first", "unicode/utf8.acceptRanges", "internal/bytealg.MaxLen"], apart := false, laid := [("unicode/utf8.acceptRanges", laid_unicode_utf8_acceptRanges), ("unicode/utf8.first", laid_unicode_utf8_first)] }
def FnExactVoteBitsSaid : Prop := fnExactVoteBitsRow.holds Tryd.pinned (OpenSpec.ofChange fnExactVoteBitsSpec)

/-- ITS FALSE NEIGHBOUR: 'it returns false'. Refute it at one input. -/
def fnExactVoteBitsWrong : ChangeSpec := { name := "fnExactVoteBits", fn := fun _ => fun
  | [d1, d2] => { results := [.lit (.bool false)], args := [d1, d2] }
  | _ => none }
def FnExactVoteBitsWrongFalsely : Prop := fnExactVoteBitsRow.holds Tryd.pinned (OpenSpec.ofChange fnExactVoteBitsWrong)

/-- 'laws.FnExactRepeatBits': WHATEVER THE INPUT: true; the input reads as it did. -/
def fnExactRepeatBitsSpec : ChangeSpec := { name := "fnExactRepeatBits", fn := fun _ => fun
  | [d1, d2] => { results := [.lit (.bool true)], args := [d1, d2] }
  | _ => none }
def fnExactRepeatBitsRow : OpenClaim := { program := "ytbienjnkjeaeiaadoor", sum := "df0c9ae72f0a1545dd3f41419da0ca505e7cf8916d4da20eb77435b4efe411ff", func := "loop.example/g01142/laws.FnExactRepeatBits", spec := "fnExactRepeatBits", inPlace := ["internal/bytealg.IndexByteString", "internal/bytealg.IndexString", "internal/abi.NoEscape", "internal/bytealg.MakeNoZero"], named := ["unicode/utf8.first", "unicode/utf8.acceptRanges", "internal/bytealg.MaxLen"], apart := false, laid := [("unicode/utf8.acceptRanges", laid_unicode_utf8_acceptRanges), ("unicode/utf8.first", laid_unicode_utf8_first)] }
def FnExactRepeatBitsSaid : Prop := fnExactRepeatBitsRow.holds Tryd.pinned (OpenSpec.ofChange fnExactRepeatBitsSpec)

/-- ITS FALSE NEIGHBOUR: 'it returns false'. Refute it at one input. -/
def fnExactRepeatBitsWrong : ChangeSpec := { name := "fnExactRepeatBits", fn := fun _ => fun
  | [d1, d2] => { results := [.lit (.bool false)], args := [d1, d2] }
  | _ => none }
def FnExactRepeatBitsWrongFalsely : Prop := fnExactRepeatBitsRow.holds Tryd.pinned (OpenSpec.ofChange fnExactRepeatBitsWrong)

/-- 'laws.FnVoted': WHATEVER THE INPUT: true; the input reads as it did. -/
def fnVotedSpec : ChangeSpec := { name := "fnVoted", fn := fun _ => fun
  | [d1, d2] => { results := [.lit (.bool true)], args := [d1, d2] }
  | _ => none }
def fnVotedRow : OpenClaim := { program := "ytbienjnkjeaeiaadoor", sum := "df0c9ae72f0a1545dd3f41419da0ca505e7cf8916d4da20eb77435b4efe411ff", func := "loop.example/g01142/laws.FnVoted", spec := "fnVoted", inPlace := ["internal/bytealg.IndexByteString", "internal/bytealg.IndexString", "internal/abi.NoEscape", "internal/bytealg.MakeNoZero", "internal/bytealg.CountString"], named := ["unicode/utf8.first", "unicode/utf8.acceptRanges", "internal/bytealg.MaxLen"], apart := false, laid := [("unicode/utf8.acceptRanges", laid_unicode_utf8_acceptRanges), ("unicode/utf8.first", laid_unicode_utf8_first)] }
def FnVotedSaid : Prop := fnVotedRow.holds Tryd.pinned (OpenSpec.ofChange fnVotedSpec)

/-- ITS FALSE NEIGHBOUR: 'it returns false'. Refute it at one input. -/
def fnVotedWrong : ChangeSpec := { name := "fnVoted", fn := fun _ => fun
  | [d1, d2] => { results := [.lit (.bool false)], args := [d1, d2] }
  | _ => none }
def FnVotedWrongFalsely : Prop := fnVotedRow.holds Tryd.pinned (OpenSpec.ofChange fnVotedWrong)

/- THE SECOND FORM. 'bulk': how many values and letters a reading holds, each counted each time it is reached (what is shared counts as often as it is met; a slice's spare places count too). A statement '..UptoSaid' is the law's where the arguments, and the package variables that the reading takes, are together of bulk at most 1048576: NARROWER than '..Said'. Prove '..Said' where nothing that the law and all that it calls make is longer than what came in: it says more and counts as full. Else prove '..UptoSaid'. A law counts once. -/
mutual
def uptoBulk {H : Type} : DataW H → Nat
  | .lit (.string bytes) => bytes.length + 1
  | .lit _ => 1
  | .nil => 1
  | .ptr d => uptoBulk d + 1
  | .slice elems spare => uptoBulkAll elems + uptoBulkAll spare + 1
  | .agg parts => uptoBulkAll parts + 1
  | .iface _ d => uptoBulk d + 1
  | .map entries => uptoBulkEntries entries + 1
  | .held _ => 1
def uptoBulkAll {H : Type} : List (DataW H) → Nat
  | [] => 0
  | d :: r => uptoBulk d + uptoBulkAll r
def uptoBulkEntries {H : Type} : List (Lit × DataW H) → Nat
  | [] => 0
  | x :: r => uptoBulkEntry x + uptoBulkEntries r
def uptoBulkEntry {H : Type} : Lit × DataW H → Nat
  | (.string bytes, d) => bytes.length + uptoBulk d + 1
  | (_, d) => uptoBulk d + 1
 end
def uptoSmall : (H : Type) → List (DataW H) → Bool := fun _ ds => decide (uptoBulkAll ds ≤ 1048576)
def OpenSpec.upto (s : _root_.Go.ChangeSpec) : _root_.Go.OpenSpec := { _root_.Go.OpenSpec.ofChange s with cond := some uptoSmall }

/-- 'laws.FnExactEdgesOf', WHERE WHAT IT READS IS OF BULK AT MOST 1048576: true; the input reads as it did. -/
def fnExactEdgesOfUptoRow : OpenClaim := { program := "ytbienjnkjeaeiaadoor", sum := "df0c9ae72f0a1545dd3f41419da0ca505e7cf8916d4da20eb77435b4efe411ff", func := "loop.example/g01142/laws.FnExactEdgesOf", spec := "fnExactEdgesOf", inPlace := ["internal/bytealg.IndexByteString", "internal/bytealg.IndexString"], named := ["unicode/utf8.first", "unicode/utf8.acceptRanges", "internal/bytealg.MaxLen"], apart := false, laid := [("unicode/utf8.acceptRanges", laid_unicode_utf8_acceptRanges), ("unicode/utf8.first", laid_unicode_utf8_first)], narrowed := true }
def FnExactEdgesOfUptoSaid : Prop := fnExactEdgesOfUptoRow.holds Tryd.pinned (OpenSpec.upto fnExactEdgesOfSpec)

/-- 'laws.FnExactReceiveBits', WHERE WHAT IT READS IS OF BULK AT MOST 1048576: true; the input reads as it did. -/
def fnExactReceiveBitsUptoRow : OpenClaim := { program := "ytbienjnkjeaeiaadoor", sum := "df0c9ae72f0a1545dd3f41419da0ca505e7cf8916d4da20eb77435b4efe411ff", func := "loop.example/g01142/laws.FnExactReceiveBits", spec := "fnExactReceiveBits", inPlace := ["internal/bytealg.IndexByteString", "internal/bytealg.IndexString", "internal/abi.NoEscape"], named := ["unicode/utf8.first", "unicode/utf8.acceptRanges", "internal/bytealg.MaxLen"], apart := false, laid := [("unicode/utf8.acceptRanges", laid_unicode_utf8_acceptRanges), ("unicode/utf8.first", laid_unicode_utf8_first)], narrowed := true }
def FnExactReceiveBitsUptoSaid : Prop := fnExactReceiveBitsUptoRow.holds Tryd.pinned (OpenSpec.upto fnExactReceiveBitsSpec)

/-- 'laws.FnExactVoteBits', WHERE WHAT IT READS IS OF BULK AT MOST 1048576: true; the input reads as it did. -/
def fnExactVoteBitsUptoRow : OpenClaim := { program := "ytbienjnkjeaeiaadoor", sum := "df0c9ae72f0a1545dd3f41419da0ca505e7cf8916d4da20eb77435b4efe411ff", func := "loop.example/g01142/laws.FnExactVoteBits", spec := "fnExactVoteBits", inPlace := ["internal/bytealg.IndexByteString", "internal/bytealg.IndexString", "internal/bytealg.CountString"], named := ["unicode/utf8.first", "unicode/utf8.acceptRanges", "internal/bytealg.MaxLen"], apart := false, laid := [("unicode/utf8.acceptRanges", laid_unicode_utf8_acceptRanges), ("unicode/utf8.first", laid_unicode_utf8_first)], narrowed := true }
def FnExactVoteBitsUptoSaid : Prop := fnExactVoteBitsUptoRow.holds Tryd.pinned (OpenSpec.upto fnExactVoteBitsSpec)

/-- 'laws.FnExactRepeatBits', WHERE WHAT IT READS IS OF BULK AT MOST 1048576: true; the input reads as it did. -/
def fnExactRepeatBitsUptoRow : OpenClaim := { program := "ytbienjnkjeaeiaadoor", sum := "df0c9ae72f0a1545dd3f41419da0ca505e7cf8916d4da20eb77435b4efe411ff", func := "loop.example/g01142/laws.FnExactRepeatBits", spec := "fnExactRepeatBits", inPlace := ["internal/bytealg.IndexByteString", "internal/bytealg.IndexString", "internal/abi.NoEscape", "internal/bytealg.MakeNoZero"], named := ["unicode/utf8.first", "unicode/utf8.acceptRanges", "internal/bytealg.MaxLen"], apart := false, laid := [("unicode/utf8.acceptRanges", laid_unicode_utf8_acceptRanges), ("unicode/utf8.first", laid_unicode_utf8_first)], narrowed := true }
def FnExactRepeatBitsUptoSaid : Prop := fnExactRepeatBitsUptoRow.holds Tryd.pinned (OpenSpec.upto fnExactRepeatBitsSpec)

/-- 'laws.FnVoted', WHERE WHAT IT READS IS OF BULK AT MOST 1048576: true; the input reads as it did. -/
def fnVotedUptoRow : OpenClaim := { program := "ytbienjnkjeaeiaadoor", sum := "df0c9ae72f0a1545dd3f41419da0ca505e7cf8916d4da20eb77435b4efe411ff", func := "loop.example/g01142/laws.FnVoted", spec := "fnVoted", inPlace := ["internal/bytealg.IndexByteString", "internal/bytealg.IndexString", "internal/abi.NoEscape", "internal/bytealg.MakeNoZero", "internal/bytealg.CountString"], named := ["unicode/utf8.first", "unicode/utf8.acceptRanges", "internal/bytealg.MaxLen"], apart := false, laid := [("unicode/utf8.acceptRanges", laid_unicode_utf8_acceptRanges), ("unicode/utf8.first", laid_unicode_utf8_first)], narrowed := true }
def FnVotedUptoSaid : Prop := fnVotedUptoRow.holds Tryd.pinned (OpenSpec.upto fnVotedSpec)

end Rows
end Go.Proofs.YtbienjnkjeaeiaaDoor
