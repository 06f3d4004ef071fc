/-
  NARROWER THAN 'FOR EVERY INPUT', by the rows' own cells (each row's printed sentence says how): FnExactValidScrambler: laid · FnExactLockTime: laid · FnExactSpreadOf: laid · FnExactSelfScramble: laid · FnExactKeyPeriod: laid · FnExactKeyBits: laid · FnExactSelfDescramble: laid · FnExactAddScramble: laid · FnExactFindKey: laid · FnExactWorstBits: laid · FnExactErrorsBehind: laid · FnExactLongestSame: laid.
  DERIVED. THE GIVEN ROWS OF THIS SEAT. 12 by the template 'for every input the law returns true; each argument reads behind the call as it read before'; 0 by the template 'total and deterministic' (their statements: YtkhgmfnmgefpbaaDoorTotals.lean).
  GIVEN WITH THE SEED: the statements are not yours to turn. If you find one false, say at which input.
  Laid BY PROGRAM, IN A SANDBOX (cutbox-rows.mjs): the forced cells as the released guide's own fill.sh prints them over the translation 8238dac36ab6f4f4… (all of the seat's roots in one cut). By AI agents, Wed Nov 11 2026. No macro, syntax, notation, axiom, sorry.
-/
import Derived.Test.YtkhgmfnmgefpbaaDoorChecked
import GoSem.PinnedTables
import GoSem.Claim
import GoSem.ClaimJoined
import GoSem.ClaimMapViews
import Derived.JoinedTies
import Derived.KernelRfl
namespace Go.Proofs.YtkhgmfnmgefpbaaDoor
/- THE CELL 'sum', in the pinned program and in every row, IS THE sha256 OF THE DUMP (.gsa) THAT YtkhgmfnmgefpbaaDoorProg.lean LOADS. Nothing in Lean hashes anything: it is a label: what it is worth is what the hold of that sum in a sandbox is worth. -/
noncomputable def Tryd.pinned : Pinned := { name := "ytkhgmfnmgefpbaadoor", sum := "8238dac36ab6f4f4f4458944c4722e23ef3dac1c1d99e339865076be11a10c1d", checked := Tryd.checked }
namespace Rows
def none {H : Type} : Left H := { results := [], args := [] }

/- WHAT THE LISTED PACKAGE-LEVEL VARIABLES READ AS WHEN THE CALL BEGINS. Each datum BY PROGRAM (the guide's laid-datum.mjs) off the statement by which the dump's own 'gosem.cut.vars' lays the variable. In a bare row this is a premise. The card (YtkhgmfnmgefpbaaDoorCards.lean) ties it to the program's text. -/
def laid_unicode_utf8_acceptRanges {H : Type} : DataW H := .agg [.agg [.lit (.int .u8 128), .lit (.int .u8 191)], .agg [.lit (.int .u8 160), .lit (.int .u8 191)], .agg [.lit (.int .u8 128), .lit (.int .u8 159)], .agg [.lit (.int .u8 144), .lit (.int .u8 191)], .agg [.lit (.int .u8 128), .lit (.int .u8 143)], .agg [.lit (.int .u8 0), .lit (.int .u8 0)], .agg [.lit (.int .u8 0), .lit (.int .u8 0)], .agg [.lit (.int .u8 0), .lit (.int .u8 0)], .agg [.lit (.int .u8 0), .lit (.int .u8 0)], .agg [.lit (.int .u8 0), .lit (.int .u8 0)], .agg [.lit (.int .u8 0), .lit (.int .u8 0)], .agg [.lit (.int .u8 0), .lit (.int .u8 0)], .agg [.lit (.int .u8 0), .lit (.int .u8 0)], .agg [.lit (.int .u8 0), .lit (.int .u8 0)], .agg [.lit (.int .u8 0), .lit (.int .u8 0)], .agg [.lit (.int .u8 0), .lit (.int .u8 0)]]
/-- One of Go's own tables, pinned by name: the form's constant. -/
def laid_unicode_utf8_first : DataW Unit := Go.Pinned.utf8First

/-- 'laws.FnExactValidScrambler': WHATEVER THE INPUT: true; the input reads as it did. -/
def fnExactValidScramblerSpec : ChangeSpec := { name := "fnExactValidScrambler", fn := fun _ => fun
  | [d] => { results := [.lit (.bool true)], args := [d] }
  | _ => none }
def fnExactValidScramblerRow : OpenClaim := { program := "ytkhgmfnmgefpbaadoor", sum := "8238dac36ab6f4f4f4458944c4722e23ef3dac1c1d99e339865076be11a10c1d", func := "loop.example/g01142/laws.FnExactValidScrambler", spec := "fnExactValidScrambler", inPlace := ["internal/bytealg.IndexByteString", "internal/bytealg.IndexString"], named := ["unicode/utf8.first", "unicode/utf8.acceptRanges", "internal/bytealg.MaxLen"], apart := false, laid := [("unicode/utf8.acceptRanges", laid_unicode_utf8_acceptRanges), ("unicode/utf8.first", laid_unicode_utf8_first)] }
def FnExactValidScramblerSaid : Prop := fnExactValidScramblerRow.holds Tryd.pinned (OpenSpec.ofChange fnExactValidScramblerSpec)

/-- ITS FALSE NEIGHBOUR: 'it returns false'. Refute it at one input. -/
def fnExactValidScramblerWrong : ChangeSpec := { name := "fnExactValidScrambler", fn := fun _ => fun
  | [d] => { results := [.lit (.bool false)], args := [d] }
  | _ => none }
def FnExactValidScramblerWrongFalsely : Prop := fnExactValidScramblerRow.holds Tryd.pinned (OpenSpec.ofChange fnExactValidScramblerWrong)

/-- 'laws.FnExactLockTime': WHATEVER THE INPUT: true; the input reads as it did. -/
def fnExactLockTimeSpec : ChangeSpec := { name := "fnExactLockTime", fn := fun _ => fun
  | [d] => { results := [.lit (.bool true)], args := [d] }
  | _ => none }
def fnExactLockTimeRow : OpenClaim := { program := "ytkhgmfnmgefpbaadoor", sum := "8238dac36ab6f4f4f4458944c4722e23ef3dac1c1d99e339865076be11a10c1d", func := "loop.example/g01142/laws.FnExactLockTime", spec := "fnExactLockTime", inPlace := ["internal/bytealg.IndexByteString", "internal/bytealg.IndexString"], named := ["unicode/utf8.first", "unicode/utf8.acceptRanges", "internal/bytealg.MaxLen"], apart := false, laid := [("unicode/utf8.acceptRanges", laid_unicode_utf8_acceptRanges), ("unicode/utf8.first", laid_unicode_utf8_first)] }
def FnExactLockTimeSaid : Prop := fnExactLockTimeRow.holds Tryd.pinned (OpenSpec.ofChange fnExactLockTimeSpec)

/-- ITS FALSE NEIGHBOUR: 'it returns false'. Refute it at one input. -/
def fnExactLockTimeWrong : ChangeSpec := { name := "fnExactLockTime", fn := fun _ => fun
  | [d] => { results := [.lit (.bool false)], args := [d] }
  | _ => none }
def FnExactLockTimeWrongFalsely : Prop := fnExactLockTimeRow.holds Tryd.pinned (OpenSpec.ofChange fnExactLockTimeWrong)

/-- 'laws.FnExactSpreadOf': WHATEVER THE INPUT: true; the input reads as it did. -/
def fnExactSpreadOfSpec : ChangeSpec := { name := "fnExactSpreadOf", fn := fun _ => fun
  | [d] => { results := [.lit (.bool true)], args := [d] }
  | _ => none }
def fnExactSpreadOfRow : OpenClaim := { program := "ytkhgmfnmgefpbaadoor", sum := "8238dac36ab6f4f4f4458944c4722e23ef3dac1c1d99e339865076be11a10c1d", func := "loop.example/g01142/laws.FnExactSpreadOf", spec := "fnExactSpreadOf", inPlace := ["internal/bytealg.IndexByteString", "internal/bytealg.IndexString"], named := ["unicode/utf8.first", "unicode/utf8.acceptRanges", "internal/bytealg.MaxLen"], apart := false, laid := [("unicode/utf8.acceptRanges", laid_unicode_utf8_acceptRanges), ("unicode/utf8.first", laid_unicode_utf8_first)] }
def FnExactSpreadOfSaid : Prop := fnExactSpreadOfRow.holds Tryd.pinned (OpenSpec.ofChange fnExactSpreadOfSpec)

/-- ITS FALSE NEIGHBOUR: 'it returns false'. Refute it at one input. -/
def fnExactSpreadOfWrong : ChangeSpec := { name := "fnExactSpreadOf", fn := fun _ => fun
  | [d] => { results := [.lit (.bool false)], args := [d] }
  | _ => none }
def FnExactSpreadOfWrongFalsely : Prop := fnExactSpreadOfRow.holds Tryd.pinned (OpenSpec.ofChange fnExactSpreadOfWrong)

/-- 'laws.FnExactSelfScramble': WHATEVER THE INPUT: true; the input reads as it did. -/
def fnExactSelfScrambleSpec : ChangeSpec := { name := "fnExactSelfScramble", fn := fun _ => fun
  | [d1, d2] => { results := [.lit (.bool true)], args := [d1, d2] }
  | _ => none }
def fnExactSelfScrambleRow : OpenClaim := { program := "ytkhgmfnmgefpbaadoor", sum := "8238dac36ab6f4f4f4458944c4722e23ef3dac1c1d99e339865076be11a10c1d", func := "loop.example/g01142/laws.FnExactSelfScramble", spec := "fnExactSelfScramble", inPlace := ["internal/bytealg.IndexByteString", "internal/bytealg.IndexString"], named := ["unicode/utf8.first", "unicode/utf8.acceptRanges", "internal/bytealg.MaxLen"], apart := false, laid := [("unicode/utf8.acceptRanges", laid_unicode_utf8_acceptRanges), ("unicode/utf8.first", laid_unicode_utf8_first)] }
def FnExactSelfScrambleSaid : Prop := fnExactSelfScrambleRow.holds Tryd.pinned (OpenSpec.ofChange fnExactSelfScrambleSpec)

/-- ITS FALSE NEIGHBOUR: 'it returns false'. Refute it at one input. -/
def fnExactSelfScrambleWrong : ChangeSpec := { name := "fnExactSelfScramble", fn := fun _ => fun
  | [d1, d2] => { results := [.lit (.bool false)], args := [d1, d2] }
  | _ => none }
def FnExactSelfScrambleWrongFalsely : Prop := fnExactSelfScrambleRow.holds Tryd.pinned (OpenSpec.ofChange fnExactSelfScrambleWrong)

/-- 'laws.FnExactKeyPeriod': WHATEVER THE INPUT: true; the input reads as it did. -/
def fnExactKeyPeriodSpec : ChangeSpec := { name := "fnExactKeyPeriod", fn := fun _ => fun
  | [d] => { results := [.lit (.bool true)], args := [d] }
  | _ => none }
def fnExactKeyPeriodRow : OpenClaim := { program := "ytkhgmfnmgefpbaadoor", sum := "8238dac36ab6f4f4f4458944c4722e23ef3dac1c1d99e339865076be11a10c1d", func := "loop.example/g01142/laws.FnExactKeyPeriod", spec := "fnExactKeyPeriod", inPlace := ["internal/bytealg.IndexByteString", "internal/bytealg.IndexString"], named := ["unicode/utf8.first", "unicode/utf8.acceptRanges", "internal/bytealg.MaxLen"], apart := false, laid := [("unicode/utf8.acceptRanges", laid_unicode_utf8_acceptRanges), ("unicode/utf8.first", laid_unicode_utf8_first)] }
def FnExactKeyPeriodSaid : Prop := fnExactKeyPeriodRow.holds Tryd.pinned (OpenSpec.ofChange fnExactKeyPeriodSpec)

/-- ITS FALSE NEIGHBOUR: 'it returns false'. Refute it at one input. -/
def fnExactKeyPeriodWrong : ChangeSpec := { name := "fnExactKeyPeriod", fn := fun _ => fun
  | [d] => { results := [.lit (.bool false)], args := [d] }
  | _ => none }
def FnExactKeyPeriodWrongFalsely : Prop := fnExactKeyPeriodRow.holds Tryd.pinned (OpenSpec.ofChange fnExactKeyPeriodWrong)

/-- 'laws.FnExactKeyBits': WHATEVER THE INPUT: true; the input reads as it did. -/
def fnExactKeyBitsSpec : ChangeSpec := { name := "fnExactKeyBits", fn := fun _ => fun
  | [d1, d2] => { results := [.lit (.bool true)], args := [d1, d2] }
  | _ => none }
def fnExactKeyBitsRow : OpenClaim := { program := "ytkhgmfnmgefpbaadoor", sum := "8238dac36ab6f4f4f4458944c4722e23ef3dac1c1d99e339865076be11a10c1d", func := "loop.example/g01142/laws.FnExactKeyBits", spec := "fnExactKeyBits", inPlace := ["internal/bytealg.IndexByteString", "internal/bytealg.IndexString"], named := ["unicode/utf8.first", "unicode/utf8.acceptRanges", "internal/bytealg.MaxLen"], apart := false, laid := [("unicode/utf8.acceptRanges", laid_unicode_utf8_acceptRanges), ("unicode/utf8.first", laid_unicode_utf8_first)] }
def FnExactKeyBitsSaid : Prop := fnExactKeyBitsRow.holds Tryd.pinned (OpenSpec.ofChange fnExactKeyBitsSpec)

/-- ITS FALSE NEIGHBOUR: 'it returns false'. Refute it at one input. -/
def fnExactKeyBitsWrong : ChangeSpec := { name := "fnExactKeyBits", fn := fun _ => fun
  | [d1, d2] => { results := [.lit (.bool false)], args := [d1, d2] }
  | _ => none }
def FnExactKeyBitsWrongFalsely : Prop := fnExactKeyBitsRow.holds Tryd.pinned (OpenSpec.ofChange fnExactKeyBitsWrong)

/-- 'laws.FnExactSelfDescramble': WHATEVER THE INPUT: true; the input reads as it did. -/
def fnExactSelfDescrambleSpec : ChangeSpec := { name := "fnExactSelfDescramble", fn := fun _ => fun
  | [d1, d2] => { results := [.lit (.bool true)], args := [d1, d2] }
  | _ => none }
def fnExactSelfDescrambleRow : OpenClaim := { program := "ytkhgmfnmgefpbaadoor", sum := "8238dac36ab6f4f4f4458944c4722e23ef3dac1c1d99e339865076be11a10c1d", func := "loop.example/g01142/laws.FnExactSelfDescramble", spec := "fnExactSelfDescramble", inPlace := ["internal/bytealg.IndexByteString", "internal/bytealg.IndexString"], named := ["unicode/utf8.first", "unicode/utf8.acceptRanges", "internal/bytealg.MaxLen"], apart := false, laid := [("unicode/utf8.acceptRanges", laid_unicode_utf8_acceptRanges), ("unicode/utf8.first", laid_unicode_utf8_first)] }
def FnExactSelfDescrambleSaid : Prop := fnExactSelfDescrambleRow.holds Tryd.pinned (OpenSpec.ofChange fnExactSelfDescrambleSpec)

/-- ITS FALSE NEIGHBOUR: 'it returns false'. Refute it at one input. -/
def fnExactSelfDescrambleWrong : ChangeSpec := { name := "fnExactSelfDescramble", fn := fun _ => fun
  | [d1, d2] => { results := [.lit (.bool false)], args := [d1, d2] }
  | _ => none }
def FnExactSelfDescrambleWrongFalsely : Prop := fnExactSelfDescrambleRow.holds Tryd.pinned (OpenSpec.ofChange fnExactSelfDescrambleWrong)

/-- 'laws.FnExactAddScramble': WHATEVER THE INPUT: true; the input reads as it did. -/
def fnExactAddScrambleSpec : ChangeSpec := { name := "fnExactAddScramble", fn := fun _ => fun
  | [d1, d2] => { results := [.lit (.bool true)], args := [d1, d2] }
  | _ => none }
def fnExactAddScrambleRow : OpenClaim := { program := "ytkhgmfnmgefpbaadoor", sum := "8238dac36ab6f4f4f4458944c4722e23ef3dac1c1d99e339865076be11a10c1d", func := "loop.example/g01142/laws.FnExactAddScramble", spec := "fnExactAddScramble", inPlace := ["internal/bytealg.IndexByteString", "internal/bytealg.IndexString", "internal/abi.NoEscape"], named := ["unicode/utf8.first", "unicode/utf8.acceptRanges", "internal/bytealg.MaxLen"], apart := false, laid := [("unicode/utf8.acceptRanges", laid_unicode_utf8_acceptRanges), ("unicode/utf8.first", laid_unicode_utf8_first)] }
def FnExactAddScrambleSaid : Prop := fnExactAddScrambleRow.holds Tryd.pinned (OpenSpec.ofChange fnExactAddScrambleSpec)

/-- ITS FALSE NEIGHBOUR: 'it returns false'. Refute it at one input. -/
def fnExactAddScrambleWrong : ChangeSpec := { name := "fnExactAddScramble", fn := fun _ => fun
  | [d1, d2] => { results := [.lit (.bool false)], args := [d1, d2] }
  | _ => none }
def FnExactAddScrambleWrongFalsely : Prop := fnExactAddScrambleRow.holds Tryd.pinned (OpenSpec.ofChange fnExactAddScrambleWrong)

/-- 'laws.FnExactFindKey': WHATEVER THE INPUT: true; the input reads as it did. -/
def fnExactFindKeySpec : ChangeSpec := { name := "fnExactFindKey", fn := fun _ => fun
  | [d1, d2, d3] => { results := [.lit (.bool true)], args := [d1, d2, d3] }
  | _ => none }
def fnExactFindKeyRow : OpenClaim := { program := "ytkhgmfnmgefpbaadoor", sum := "8238dac36ab6f4f4f4458944c4722e23ef3dac1c1d99e339865076be11a10c1d", func := "loop.example/g01142/laws.FnExactFindKey", spec := "fnExactFindKey", inPlace := ["internal/bytealg.IndexByteString", "internal/bytealg.IndexString", "internal/abi.NoEscape"], named := ["unicode/utf8.first", "unicode/utf8.acceptRanges", "internal/bytealg.MaxLen"], apart := false, laid := [("unicode/utf8.acceptRanges", laid_unicode_utf8_acceptRanges), ("unicode/utf8.first", laid_unicode_utf8_first)] }
def FnExactFindKeySaid : Prop := fnExactFindKeyRow.holds Tryd.pinned (OpenSpec.ofChange fnExactFindKeySpec)

/-- ITS FALSE NEIGHBOUR: 'it returns false'. Refute it at one input. -/
def fnExactFindKeyWrong : ChangeSpec := { name := "fnExactFindKey", fn := fun _ => fun
  | [d1, d2, d3] => { results := [.lit (.bool false)], args := [d1, d2, d3] }
  | _ => none }
def FnExactFindKeyWrongFalsely : Prop := fnExactFindKeyRow.holds Tryd.pinned (OpenSpec.ofChange fnExactFindKeyWrong)

/-- 'laws.FnExactWorstBits': WHATEVER THE INPUT: true; the input reads as it did. -/
def fnExactWorstBitsSpec : ChangeSpec := { name := "fnExactWorstBits", fn := fun _ => fun
  | [d1, d2] => { results := [.lit (.bool true)], args := [d1, d2] }
  | _ => none }
def fnExactWorstBitsRow : OpenClaim := { program := "ytkhgmfnmgefpbaadoor", sum := "8238dac36ab6f4f4f4458944c4722e23ef3dac1c1d99e339865076be11a10c1d", func := "loop.example/g01142/laws.FnExactWorstBits", spec := "fnExactWorstBits", inPlace := ["internal/bytealg.IndexByteString", "internal/bytealg.IndexString", "internal/abi.NoEscape", "internal/bytealg.MakeNoZero"], named := ["unicode/utf8.first", "unicode/utf8.acceptRanges", "internal/bytealg.MaxLen"], apart := false, laid := [("unicode/utf8.acceptRanges", laid_unicode_utf8_acceptRanges), ("unicode/utf8.first", laid_unicode_utf8_first)] }
def FnExactWorstBitsSaid : Prop := fnExactWorstBitsRow.holds Tryd.pinned (OpenSpec.ofChange fnExactWorstBitsSpec)

/-- ITS FALSE NEIGHBOUR: 'it returns false'. Refute it at one input. -/
def fnExactWorstBitsWrong : ChangeSpec := { name := "fnExactWorstBits", fn := fun _ => fun
  | [d1, d2] => { results := [.lit (.bool false)], args := [d1, d2] }
  | _ => none }
def FnExactWorstBitsWrongFalsely : Prop := fnExactWorstBitsRow.holds Tryd.pinned (OpenSpec.ofChange fnExactWorstBitsWrong)

/-- 'laws.FnExactErrorsBehind': WHATEVER THE INPUT: true; the input reads as it did. -/
def fnExactErrorsBehindSpec : ChangeSpec := { name := "fnExactErrorsBehind", fn := fun _ => fun
  | [d1, d2] => { results := [.lit (.bool true)], args := [d1, d2] }
  | _ => none }
def fnExactErrorsBehindRow : OpenClaim := { program := "ytkhgmfnmgefpbaadoor", sum := "8238dac36ab6f4f4f4458944c4722e23ef3dac1c1d99e339865076be11a10c1d", func := "loop.example/g01142/laws.FnExactErrorsBehind", spec := "fnExactErrorsBehind", inPlace := ["internal/bytealg.IndexByteString", "internal/bytealg.IndexString", "internal/abi.NoEscape", "internal/bytealg.MakeNoZero"], named := ["unicode/utf8.first", "unicode/utf8.acceptRanges", "internal/bytealg.MaxLen"], apart := false, laid := [("unicode/utf8.acceptRanges", laid_unicode_utf8_acceptRanges), ("unicode/utf8.first", laid_unicode_utf8_first)] }
def FnExactErrorsBehindSaid : Prop := fnExactErrorsBehindRow.holds Tryd.pinned (OpenSpec.ofChange fnExactErrorsBehindSpec)

/-- ITS FALSE NEIGHBOUR: 'it returns false'. Refute it at one input. -/
def fnExactErrorsBehindWrong : ChangeSpec := { name := "fnExactErrorsBehind", fn := fun _ => fun
  | [d1, d2] => { results := [.lit (.bool false)], args := [d1, d2] }
  | _ => none }
def FnExactErrorsBehindWrongFalsely : Prop := fnExactErrorsBehindRow.holds Tryd.pinned (OpenSpec.ofChange fnExactErrorsBehindWrong)

/-- 'laws.FnExactLongestSame': WHATEVER THE INPUT: true; the input reads as it did. -/
def fnExactLongestSameSpec : ChangeSpec := { name := "fnExactLongestSame", fn := fun _ => fun
  | [d] => { results := [.lit (.bool true)], args := [d] }
  | _ => none }
def fnExactLongestSameRow : OpenClaim := { program := "ytkhgmfnmgefpbaadoor", sum := "8238dac36ab6f4f4f4458944c4722e23ef3dac1c1d99e339865076be11a10c1d", func := "loop.example/g01142/laws.FnExactLongestSame", spec := "fnExactLongestSame", inPlace := ["internal/bytealg.IndexByteString", "internal/bytealg.IndexString"], named := ["unicode/utf8.first", "unicode/utf8.acceptRanges", "internal/bytealg.MaxLen"], apart := false, laid := [("unicode/utf8.acceptRanges", laid_unicode_utf8_acceptRanges), ("unicode/utf8.first", laid_unicode_utf8_first)] }
def FnExactLongestSameSaid : Prop := fnExactLongestSameRow.holds Tryd.pinned (OpenSpec.ofChange fnExactLongestSameSpec)

/-- ITS FALSE NEIGHBOUR: 'it returns false'. Refute it at one input. -/
def fnExactLongestSameWrong : ChangeSpec := { name := "fnExactLongestSame", fn := fun _ => fun
  | [d] => { results := [.lit (.bool false)], args := [d] }
  | _ => none }
def FnExactLongestSameWrongFalsely : Prop := fnExactLongestSameRow.holds Tryd.pinned (OpenSpec.ofChange fnExactLongestSameWrong)

/- THE SECOND FORM. 'bulk': how many values and letters a reading holds, each counted each time it is reached (what is shared counts as often as it is met; a slice's spare places count too). A statement '..UptoSaid' is the law's where the arguments, and the package variables that the reading takes, are together of bulk at most 1048576: NARROWER than '..Said'. Prove '..Said' where nothing that the law and all that it calls make is longer than what came in: it says more and counts as full. Else prove '..UptoSaid'. A law counts once. -/
mutual
def uptoBulk {H : Type} : DataW H → Nat
  | .lit (.string bytes) => bytes.length + 1
  | .lit _ => 1
  | .nil => 1
  | .ptr d => uptoBulk d + 1
  | .slice elems spare => uptoBulkAll elems + uptoBulkAll spare + 1
  | .agg parts => uptoBulkAll parts + 1
  | .iface _ d => uptoBulk d + 1
  | .map entries => uptoBulkEntries entries + 1
  | .held _ => 1
def uptoBulkAll {H : Type} : List (DataW H) → Nat
  | [] => 0
  | d :: r => uptoBulk d + uptoBulkAll r
def uptoBulkEntries {H : Type} : List (Lit × DataW H) → Nat
  | [] => 0
  | x :: r => uptoBulkEntry x + uptoBulkEntries r
def uptoBulkEntry {H : Type} : Lit × DataW H → Nat
  | (.string bytes, d) => bytes.length + uptoBulk d + 1
  | (_, d) => uptoBulk d + 1
 end
def uptoSmall : (H : Type) → List (DataW H) → Bool := fun _ ds => decide (uptoBulkAll ds ≤ 1048576)
def OpenSpec.upto (s : _root_.Go.ChangeSpec) : _root_.Go.OpenSpec := { _root_.Go.OpenSpec.ofChange s with cond := some uptoSmall }

/-- 'laws.FnExactValidScrambler', WHERE WHAT IT READS IS OF BULK AT MOST 1048576: true; the input reads as it did. -/
def fnExactValidScramblerUptoRow : OpenClaim := { program := "ytkhgmfnmgefpbaadoor", sum := "8238dac36ab6f4f4f4458944c4722e23ef3dac1c1d99e339865076be11a10c1d", func := "loop.example/g01142/laws.FnExactValidScrambler", spec := "fnExactValidScrambler", inPlace := ["internal/bytealg.IndexByteString", "internal/bytealg.IndexString"], named := ["unicode/utf8.first", "unicode/utf8.acceptRanges", "internal/bytealg.MaxLen"], apart := false, laid := [("unicode/utf8.acceptRanges", laid_unicode_utf8_acceptRanges), ("unicode/utf8.first", laid_unicode_utf8_first)], narrowed := true }
def FnExactValidScramblerUptoSaid : Prop := fnExactValidScramblerUptoRow.holds Tryd.pinned (OpenSpec.upto fnExactValidScramblerSpec)

/-- 'laws.FnExactLockTime', WHERE WHAT IT READS IS OF BULK AT MOST 1048576: true; the input reads as it did. -/
def fnExactLockTimeUptoRow : OpenClaim := { program := "ytkhgmfnmgefpbaadoor", sum := "8238dac36ab6f4f4f4458944c4722e23ef3dac1c1d99e339865076be11a10c1d", func := "loop.example/g01142/laws.FnExactLockTime", spec := "fnExactLockTime", inPlace := ["internal/bytealg.IndexByteString", "internal/bytealg.IndexString"], named := ["unicode/utf8.first", "unicode/utf8.acceptRanges", "internal/bytealg.MaxLen"], apart := false, laid := [("unicode/utf8.acceptRanges", laid_unicode_utf8_acceptRanges), ("unicode/utf8.first", laid_unicode_utf8_first)], narrowed := true }
def FnExactLockTimeUptoSaid : Prop := fnExactLockTimeUptoRow.holds Tryd.pinned (OpenSpec.upto fnExactLockTimeSpec)

/-- 'laws.FnExactSpreadOf', WHERE WHAT IT READS IS OF BULK AT MOST 1048576: true; the input reads as it did. -/
def fnExactSpreadOfUptoRow : OpenClaim := { program := "ytkhgmfnmgefpbaadoor", sum := "8238dac36ab6f4f4f4458944c4722e23ef3dac1c1d99e339865076be11a10c1d", func := "loop.example/g01142/laws.FnExactSpreadOf", spec := "fnExactSpreadOf", inPlace := ["internal/bytealg.IndexByteString", "internal/bytealg.IndexString"], named := ["unicode/utf8.first", "unicode/utf8.acceptRanges", "internal/bytealg.MaxLen"], apart := false, laid := [("unicode/utf8.acceptRanges", laid_unicode_utf8_acceptRanges), ("unicode/utf8.first", laid_unicode_utf8_first)], narrowed := true }
def FnExactSpreadOfUptoSaid : Prop := fnExactSpreadOfUptoRow.holds Tryd.pinned (OpenSpec.upto fnExactSpreadOfSpec)

/-- 'laws.FnExactSelfScramble', WHERE WHAT IT READS IS OF BULK AT MOST 1048576: true; the input reads as it did. -/
def fnExactSelfScrambleUptoRow : OpenClaim := { program := "ytkhgmfnmgefpbaadoor", sum := "8238dac36ab6f4f4f4458944c4722e23ef3dac1c1d99e339865076be11a10c1d", func := "loop.example/g01142/laws.FnExactSelfScramble", spec := "fnExactSelfScramble", inPlace := ["internal/bytealg.IndexByteString", "internal/bytealg.IndexString"], named := ["unicode/utf8.first", "unicode/utf8.acceptRanges", "internal/bytealg.MaxLen"], apart := false, laid := [("unicode/utf8.acceptRanges", laid_unicode_utf8_acceptRanges), ("unicode/utf8.first", laid_unicode_utf8_first)], narrowed := true }
def FnExactSelfScrambleUptoSaid : Prop := fnExactSelfScrambleUptoRow.holds Tryd.pinned (OpenSpec.upto fnExactSelfScrambleSpec)

/-- 'laws.FnExactKeyPeriod', WHERE WHAT IT READS IS OF BULK AT MOST 1048576: true; the input reads as it did. -/
def fnExactKeyPeriodUptoRow : OpenClaim := { program := "ytkhgmfnmgefpbaadoor", sum := "8238dac36ab6f4f4f4458944c4722e23ef3dac1c1d99e339865076be11a10c1d", func := "loop.example/g01142/laws.FnExactKeyPeriod", spec := "fnExactKeyPeriod", inPlace := ["internal/bytealg.IndexByteString", "internal/bytealg.IndexString"], named := ["unicode/utf8.first", "unicode/utf8.acceptRanges", "internal/bytealg.MaxLen"], apart := false, laid := [("unicode/utf8.acceptRanges", laid_unicode_utf8_acceptRanges), ("unicode/utf8.first", laid_unicode_utf8_first)], narrowed := true }
def FnExactKeyPeriodUptoSaid : Prop := fnExactKeyPeriodUptoRow.holds Tryd.pinned (OpenSpec.upto fnExactKeyPeriodSpec)

/-- 'laws.FnExactKeyBits', WHERE WHAT IT READS IS OF BULK AT MOST 1048576: true; the input reads as it did. -/
def fnExactKeyBitsUptoRow : OpenClaim := { program := "ytkhgmfnmgefpbaadoor", sum := "8238dac36ab6f4f4f4458944c4722e23ef3dac1c1d99e339865076be11a10c1d", func := "loop.example/g01142/laws.FnExactKeyBits", spec := "fnExactKeyBits", inPlace := ["internal/bytealg.IndexByteString", "internal/bytealg.IndexString"], named := ["unicode/utf8.first", "unicode/utf8.acceptRanges", "internal/bytealg.MaxLen"], apart := false, laid := [("unicode/utf8.acceptRanges", laid_unicode_utf8_acceptRanges), ("unicode/utf8.first", laid_unicode_utf8_first)], narrowed := true }
def FnExactKeyBitsUptoSaid : Prop := fnExactKeyBitsUptoRow.holds Tryd.pinned (OpenSpec.upto fnExactKeyBitsSpec)

/-- 'laws.FnExactSelfDescramble', WHERE WHAT IT READS IS OF BULK AT MOST 1048576: true; the input reads as it did. -/
def fnExactSelfDescrambleUptoRow : OpenClaim := { program := "ytkhgmfnmgefpbaadoor", sum := "8238dac36ab6f4f4f4458944c4722e23ef3dac1c1d99e339865076be11a10c1d", func := "loop.example/g01142/laws.FnExactSelfDescramble", spec := "fnExactSelfDescramble", inPlace := ["internal/bytealg.IndexByteString", "internal/bytealg.IndexString"], named := ["unicode/utf8.first", "unicode/utf8.acceptRanges", "internal/bytealg.MaxLen"], apart := false, laid := [("unicode/utf8.acceptRanges", laid_unicode_utf8_acceptRanges), ("unicode/utf8.first", laid_unicode_utf8_first)], narrowed := true }
def FnExactSelfDescrambleUptoSaid : Prop := fnExactSelfDescrambleUptoRow.holds Tryd.pinned (OpenSpec.upto fnExactSelfDescrambleSpec)

/-- 'laws.FnExactAddScramble', WHERE WHAT IT READS IS OF BULK AT MOST 1048576: true; the input reads as it did. -/
def fnExactAddScrambleUptoRow : OpenClaim := { program := "ytkhgmfnmgefpbaadoor", sum := "8238dac36ab6f4f4f4458944c4722e23ef3dac1c1d99e339865076be11a10c1d", func := "loop.example/g01142/laws.FnExactAddScramble", spec := "fnExactAddScramble", inPlace := ["internal/bytealg.IndexByteString", "internal/bytealg.IndexString", "internal/abi.NoEscape"], named := ["unicode/utf8.first", "unicode/utf8.acceptRanges", "internal/bytealg.MaxLen"], apart := false, laid := [("unicode/utf8.acceptRanges", laid_unicode_utf8_acceptRanges), ("unicode/utf8.first", laid_unicode_utf8_first)], narrowed := true }
def FnExactAddScrambleUptoSaid : Prop := fnExactAddScrambleUptoRow.holds Tryd.pinned (OpenSpec.upto fnExactAddScrambleSpec)

/-- 'laws.FnExactFindKey', WHERE WHAT IT READS IS OF BULK AT MOST 1048576: true; the input reads as it did. -/
def fnExactFindKeyUptoRow : OpenClaim := { program := "ytkhgmfnmgefpbaadoor", sum := "8238dac36ab6f4f4f4458944c4722e23ef3dac1c1d99e339865076be11a10c1d", func := "loop.example/g01142/laws.FnExactFindKey", spec := "fnExactFindKey", inPlace := ["internal/bytealg.IndexByteString", "internal/bytealg.IndexString", "internal/abi.NoEscape"], named := ["unicode/utf8.first", "unicode/utf8.acceptRanges", "internal/bytealg.MaxLen"], apart := false, laid := [("unicode/utf8.acceptRanges", laid_unicode_utf8_acceptRanges), ("unicode/utf8.first", laid_unicode_utf8_first)], narrowed := true }
def FnExactFindKeyUptoSaid : Prop := fnExactFindKeyUptoRow.holds Tryd.pinned (OpenSpec.upto fnExactFindKeySpec)

/-- 'laws.FnExactWorstBits', WHERE WHAT IT READS IS OF BULK AT MOST 1048576: true; the input reads as it did. -/
def fnExactWorstBitsUptoRow : OpenClaim := { program := "ytkhgmfnmgefpbaadoor", sum := "8238dac36ab6f4f4f4458944c4722e23ef3dac1c1d99e339865076be11a10c1d", func := "loop.example/g01142/laws.FnExactWorstBits", spec := "fnExactWorstBits", inPlace := ["internal/bytealg.IndexByteString", "internal/bytealg.IndexString", "internal/abi.NoEscape", "internal/bytealg.MakeNoZero"], named := ["unicode/utf8.first", "unicode/utf8.acceptRanges", "internal/bytealg.MaxLen"], apart := false, laid := [("unicode/utf8.acceptRanges", laid_unicode_utf8_acceptRanges), ("unicode/utf8.first", laid_unicode_utf8_first)], narrowed := true }
def FnExactWorstBitsUptoSaid : Prop := fnExactWorstBitsUptoRow.holds Tryd.pinned (OpenSpec.upto fnExactWorstBitsSpec)

/-- 'laws.FnExactErrorsBehind', WHERE WHAT IT READS IS OF BULK AT MOST 1048576: true; the input reads as it did. -/
def fnExactErrorsBehindUptoRow : OpenClaim := { program := "ytkhgmfnmgefpbaadoor", sum := "8238dac36ab6f4f4f4458944c4722e23ef3dac1c1d99e339865076be11a10c1d", func := "loop.example/g01142/laws.FnExactErrorsBehind", spec := "fnExactErrorsBehind", inPlace := ["internal/bytealg.IndexByteString", "internal/bytealg.IndexString", "internal/abi.NoEscape", "internal/bytealg.MakeNoZero"], named := ["unicode/utf8.first", "unicode/utf8.acceptRanges", "internal/bytealg.MaxLen"], apart := false, laid := [("unicode/utf8.acceptRanges", laid_unicode_utf8_acceptRanges), ("unicode/utf8.first", laid_unicode_utf8_first)], narrowed := true }
def FnExactErrorsBehindUptoSaid : Prop := fnExactErrorsBehindUptoRow.holds Tryd.pinned (OpenSpec.upto fnExactErrorsBehindSpec)

/-- 'laws.FnExactLongestSame', WHERE WHAT IT READS IS OF BULK AT MOST 1048576: true; the input reads as it did. -/
def fnExactLongestSameUptoRow : OpenClaim := { program := "ytkhgmfnmgefpbaadoor", sum := "8238dac36ab6f4f4f4458944c4722e23ef3dac1c1d99e339865076be11a10c1d", func := "loop.example/g01142/laws.FnExactLongestSame", spec := "fnExactLongestSame", inPlace := ["internal/bytealg.IndexByteString", "internal/bytealg.IndexString"], named := ["unicode/utf8.first", "unicode/utf8.acceptRanges", "internal/bytealg.MaxLen"], apart := false, laid := [("unicode/utf8.acceptRanges", laid_unicode_utf8_acceptRanges), ("unicode/utf8.first", laid_unicode_utf8_first)], narrowed := true }
def FnExactLongestSameUptoSaid : Prop := fnExactLongestSameUptoRow.holds Tryd.pinned (OpenSpec.upto fnExactLongestSameSpec)

end Rows
end Go.Proofs.YtkhgmfnmgefpbaaDoor
