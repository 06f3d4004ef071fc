/-
  No cell of these rows narrows 'for every input' (looked for: loops, veiled, ifaces, maps, wideKeys, modest, calm, conditions, laid).
  DERIVED. THE GIVEN ROWS OF THIS SEAT. 12 by the template 'for every input the law returns true; each argument reads behind the call as it read before'; 0 by the template 'total and deterministic' (their statements: YtjldjmdelbpjgaaTotals.lean).
  GIVEN WITH THE SEED: the statements are not yours to turn. If you find one false, say at which input.
  Laid BY PROGRAM, IN A SANDBOX (cutbox-rows.mjs): the forced cells as the released guide's own fill.sh prints them over the translation a70eb68aa08b0a2b… (all of the seat's roots in one cut). By AI agents, Wed Nov 11 2026. No macro, syntax, notation, axiom, sorry.
-/
import Derived.Test.YtjldjmdelbpjgaaChecked
import GoSem.Claim
import GoSem.ClaimJoined
import GoSem.ClaimMapViews
import Derived.JoinedTies
import Derived.KernelRfl
namespace Go.Proofs.Ytjldjmdelbpjgaa
/- THE CELL 'sum', in the pinned program and in every row, IS THE sha256 OF THE DUMP (.gsa) THAT YtjldjmdelbpjgaaProg.lean LOADS. Nothing in Lean hashes anything: it is a label: what it is worth is what the hold of that sum in a sandbox is worth. -/
noncomputable def Try.pinned : Pinned := { name := "ytjldjmdelbpjgaa", sum := "a70eb68aa08b0a2bda2b0110143b0e8ef2c82428657fc648a1a47124e1e74820", checked := Try.checked }
namespace Rows
def none {H : Type} : Left H := { results := [], args := [] }

/-- 'laws.FnExactIsCheck': WHATEVER THE INPUT: true; the input reads as it did. -/
def fnExactIsCheckSpec : ChangeSpec := { name := "fnExactIsCheck", fn := fun _ => fun
  | [d] => { results := [.lit (.bool true)], args := [d] }
  | _ => none }
def fnExactIsCheckRow : OpenClaim := { program := "ytjldjmdelbpjgaa", sum := "a70eb68aa08b0a2bda2b0110143b0e8ef2c82428657fc648a1a47124e1e74820", func := "loop.example/g01142/laws.FnExactIsCheck", spec := "fnExactIsCheck", apart := false }
def FnExactIsCheckSaid : Prop := fnExactIsCheckRow.holds Try.pinned (OpenSpec.ofChange fnExactIsCheckSpec)

/-- ITS FALSE NEIGHBOUR: 'it returns false'. Refute it at one input. -/
def fnExactIsCheckWrong : ChangeSpec := { name := "fnExactIsCheck", fn := fun _ => fun
  | [d] => { results := [.lit (.bool false)], args := [d] }
  | _ => none }
def FnExactIsCheckWrongFalsely : Prop := fnExactIsCheckRow.holds Try.pinned (OpenSpec.ofChange fnExactIsCheckWrong)

/-- 'laws.FnExactFillAt': WHATEVER THE INPUT: true; the input reads as it did. -/
def fnExactFillAtSpec : ChangeSpec := { name := "fnExactFillAt", fn := fun _ => fun
  | [d1, d2, d3, d4] => { results := [.lit (.bool true)], args := [d1, d2, d3, d4] }
  | _ => none }
def fnExactFillAtRow : OpenClaim := { program := "ytjldjmdelbpjgaa", sum := "a70eb68aa08b0a2bda2b0110143b0e8ef2c82428657fc648a1a47124e1e74820", func := "loop.example/g01142/laws.FnExactFillAt", spec := "fnExactFillAt", apart := false }
def FnExactFillAtSaid : Prop := fnExactFillAtRow.holds Try.pinned (OpenSpec.ofChange fnExactFillAtSpec)

/-- ITS FALSE NEIGHBOUR: 'it returns false'. Refute it at one input. -/
def fnExactFillAtWrong : ChangeSpec := { name := "fnExactFillAt", fn := fun _ => fun
  | [d1, d2, d3, d4] => { results := [.lit (.bool false)], args := [d1, d2, d3, d4] }
  | _ => none }
def FnExactFillAtWrongFalsely : Prop := fnExactFillAtRow.holds Try.pinned (OpenSpec.ofChange fnExactFillAtWrong)

/-- 'laws.FnExactSlideDelay': WHATEVER THE INPUT: true; the input reads as it did. -/
def fnExactSlideDelaySpec : ChangeSpec := { name := "fnExactSlideDelay", fn := fun _ => fun
  | [d1, d2] => { results := [.lit (.bool true)], args := [d1, d2] }
  | _ => none }
def fnExactSlideDelayRow : OpenClaim := { program := "ytjldjmdelbpjgaa", sum := "a70eb68aa08b0a2bda2b0110143b0e8ef2c82428657fc648a1a47124e1e74820", func := "loop.example/g01142/laws.FnExactSlideDelay", spec := "fnExactSlideDelay", apart := false }
def FnExactSlideDelaySaid : Prop := fnExactSlideDelayRow.holds Try.pinned (OpenSpec.ofChange fnExactSlideDelaySpec)

/-- ITS FALSE NEIGHBOUR: 'it returns false'. Refute it at one input. -/
def fnExactSlideDelayWrong : ChangeSpec := { name := "fnExactSlideDelay", fn := fun _ => fun
  | [d1, d2] => { results := [.lit (.bool false)], args := [d1, d2] }
  | _ => none }
def FnExactSlideDelayWrongFalsely : Prop := fnExactSlideDelayRow.holds Try.pinned (OpenSpec.ofChange fnExactSlideDelayWrong)

/-- 'laws.FnExactJitterTolerated': WHATEVER THE INPUT: true; the input reads as it did. -/
def fnExactJitterToleratedSpec : ChangeSpec := { name := "fnExactJitterTolerated", fn := fun _ => fun
  | [d1, d2, d3] => { results := [.lit (.bool true)], args := [d1, d2, d3] }
  | _ => none }
def fnExactJitterToleratedRow : OpenClaim := { program := "ytjldjmdelbpjgaa", sum := "a70eb68aa08b0a2bda2b0110143b0e8ef2c82428657fc648a1a47124e1e74820", func := "loop.example/g01142/laws.FnExactJitterTolerated", spec := "fnExactJitterTolerated", apart := false }
def FnExactJitterToleratedSaid : Prop := fnExactJitterToleratedRow.holds Try.pinned (OpenSpec.ofChange fnExactJitterToleratedSpec)

/-- ITS FALSE NEIGHBOUR: 'it returns false'. Refute it at one input. -/
def fnExactJitterToleratedWrong : ChangeSpec := { name := "fnExactJitterTolerated", fn := fun _ => fun
  | [d1, d2, d3] => { results := [.lit (.bool false)], args := [d1, d2, d3] }
  | _ => none }
def FnExactJitterToleratedWrongFalsely : Prop := fnExactJitterToleratedRow.holds Try.pinned (OpenSpec.ofChange fnExactJitterToleratedWrong)

/-- 'laws.FnExactIsTolerated': WHATEVER THE INPUT: true; the input reads as it did. -/
def fnExactIsToleratedSpec : ChangeSpec := { name := "fnExactIsTolerated", fn := fun _ => fun
  | [d1, d2, d3] => { results := [.lit (.bool true)], args := [d1, d2, d3] }
  | _ => none }
def fnExactIsToleratedRow : OpenClaim := { program := "ytjldjmdelbpjgaa", sum := "a70eb68aa08b0a2bda2b0110143b0e8ef2c82428657fc648a1a47124e1e74820", func := "loop.example/g01142/laws.FnExactIsTolerated", spec := "fnExactIsTolerated", apart := false }
def FnExactIsToleratedSaid : Prop := fnExactIsToleratedRow.holds Try.pinned (OpenSpec.ofChange fnExactIsToleratedSpec)

/-- ITS FALSE NEIGHBOUR: 'it returns false'. Refute it at one input. -/
def fnExactIsToleratedWrong : ChangeSpec := { name := "fnExactIsTolerated", fn := fun _ => fun
  | [d1, d2, d3] => { results := [.lit (.bool false)], args := [d1, d2, d3] }
  | _ => none }
def FnExactIsToleratedWrongFalsely : Prop := fnExactIsToleratedRow.holds Try.pinned (OpenSpec.ofChange fnExactIsToleratedWrong)

/-- 'laws.FnExactLongestTolerated': WHATEVER THE INPUT: true; the input reads as it did. -/
def fnExactLongestToleratedSpec : ChangeSpec := { name := "fnExactLongestTolerated", fn := fun _ => fun
  | [d1, d2] => { results := [.lit (.bool true)], args := [d1, d2] }
  | _ => none }
def fnExactLongestToleratedRow : OpenClaim := { program := "ytjldjmdelbpjgaa", sum := "a70eb68aa08b0a2bda2b0110143b0e8ef2c82428657fc648a1a47124e1e74820", func := "loop.example/g01142/laws.FnExactLongestTolerated", spec := "fnExactLongestTolerated", apart := false }
def FnExactLongestToleratedSaid : Prop := fnExactLongestToleratedRow.holds Try.pinned (OpenSpec.ofChange fnExactLongestToleratedSpec)

/-- ITS FALSE NEIGHBOUR: 'it returns false'. Refute it at one input. -/
def fnExactLongestToleratedWrong : ChangeSpec := { name := "fnExactLongestTolerated", fn := fun _ => fun
  | [d1, d2] => { results := [.lit (.bool false)], args := [d1, d2] }
  | _ => none }
def FnExactLongestToleratedWrongFalsely : Prop := fnExactLongestToleratedRow.holds Try.pinned (OpenSpec.ofChange fnExactLongestToleratedWrong)

/-- 'laws.FnExactSampleTimes': WHATEVER THE INPUT: true; the input reads as it did. -/
def fnExactSampleTimesSpec : ChangeSpec := { name := "fnExactSampleTimes", fn := fun _ => fun
  | [d1, d2, d3] => { results := [.lit (.bool true)], args := [d1, d2, d3] }
  | _ => none }
def fnExactSampleTimesRow : OpenClaim := { program := "ytjldjmdelbpjgaa", sum := "a70eb68aa08b0a2bda2b0110143b0e8ef2c82428657fc648a1a47124e1e74820", func := "loop.example/g01142/laws.FnExactSampleTimes", spec := "fnExactSampleTimes", apart := false }
def FnExactSampleTimesSaid : Prop := fnExactSampleTimesRow.holds Try.pinned (OpenSpec.ofChange fnExactSampleTimesSpec)

/-- ITS FALSE NEIGHBOUR: 'it returns false'. Refute it at one input. -/
def fnExactSampleTimesWrong : ChangeSpec := { name := "fnExactSampleTimes", fn := fun _ => fun
  | [d1, d2, d3] => { results := [.lit (.bool false)], args := [d1, d2, d3] }
  | _ => none }
def FnExactSampleTimesWrongFalsely : Prop := fnExactSampleTimesRow.holds Try.pinned (OpenSpec.ofChange fnExactSampleTimesWrong)

/-- 'laws.FnBuffers': WHATEVER THE INPUT: true; the input reads as it did. -/
def fnBuffersSpec : ChangeSpec := { name := "fnBuffers", fn := fun _ => fun
  | [d1, d2] => { results := [.lit (.bool true)], args := [d1, d2] }
  | _ => none }
def fnBuffersRow : OpenClaim := { program := "ytjldjmdelbpjgaa", sum := "a70eb68aa08b0a2bda2b0110143b0e8ef2c82428657fc648a1a47124e1e74820", func := "loop.example/g01142/laws.FnBuffers", spec := "fnBuffers", apart := false }
def FnBuffersSaid : Prop := fnBuffersRow.holds Try.pinned (OpenSpec.ofChange fnBuffersSpec)

/-- ITS FALSE NEIGHBOUR: 'it returns false'. Refute it at one input. -/
def fnBuffersWrong : ChangeSpec := { name := "fnBuffers", fn := fun _ => fun
  | [d1, d2] => { results := [.lit (.bool false)], args := [d1, d2] }
  | _ => none }
def FnBuffersWrongFalsely : Prop := fnBuffersRow.holds Try.pinned (OpenSpec.ofChange fnBuffersWrong)

/-- 'laws.FnExactBufferTime': WHATEVER THE INPUT: true; the input reads as it did. -/
def fnExactBufferTimeSpec : ChangeSpec := { name := "fnExactBufferTime", fn := fun _ => fun
  | [d1, d2, d3, d4] => { results := [.lit (.bool true)], args := [d1, d2, d3, d4] }
  | _ => none }
def fnExactBufferTimeRow : OpenClaim := { program := "ytjldjmdelbpjgaa", sum := "a70eb68aa08b0a2bda2b0110143b0e8ef2c82428657fc648a1a47124e1e74820", func := "loop.example/g01142/laws.FnExactBufferTime", spec := "fnExactBufferTime", apart := false }
def FnExactBufferTimeSaid : Prop := fnExactBufferTimeRow.holds Try.pinned (OpenSpec.ofChange fnExactBufferTimeSpec)

/-- ITS FALSE NEIGHBOUR: 'it returns false'. Refute it at one input. -/
def fnExactBufferTimeWrong : ChangeSpec := { name := "fnExactBufferTime", fn := fun _ => fun
  | [d1, d2, d3, d4] => { results := [.lit (.bool false)], args := [d1, d2, d3, d4] }
  | _ => none }
def FnExactBufferTimeWrongFalsely : Prop := fnExactBufferTimeRow.holds Try.pinned (OpenSpec.ofChange fnExactBufferTimeWrong)

/-- 'laws.FnExactTakeRange': WHATEVER THE INPUT: true; the input reads as it did. -/
def fnExactTakeRangeSpec : ChangeSpec := { name := "fnExactTakeRange", fn := fun _ => fun
  | [d1, d2] => { results := [.lit (.bool true)], args := [d1, d2] }
  | _ => none }
def fnExactTakeRangeRow : OpenClaim := { program := "ytjldjmdelbpjgaa", sum := "a70eb68aa08b0a2bda2b0110143b0e8ef2c82428657fc648a1a47124e1e74820", func := "loop.example/g01142/laws.FnExactTakeRange", spec := "fnExactTakeRange", apart := false }
def FnExactTakeRangeSaid : Prop := fnExactTakeRangeRow.holds Try.pinned (OpenSpec.ofChange fnExactTakeRangeSpec)

/-- ITS FALSE NEIGHBOUR: 'it returns false'. Refute it at one input. -/
def fnExactTakeRangeWrong : ChangeSpec := { name := "fnExactTakeRange", fn := fun _ => fun
  | [d1, d2] => { results := [.lit (.bool false)], args := [d1, d2] }
  | _ => none }
def FnExactTakeRangeWrongFalsely : Prop := fnExactTakeRangeRow.holds Try.pinned (OpenSpec.ofChange fnExactTakeRangeWrong)

/-- 'laws.FnExactBufferSpan': WHATEVER THE INPUT: true; the input reads as it did. -/
def fnExactBufferSpanSpec : ChangeSpec := { name := "fnExactBufferSpan", fn := fun _ => fun
  | [d1, d2, d3] => { results := [.lit (.bool true)], args := [d1, d2, d3] }
  | _ => none }
def fnExactBufferSpanRow : OpenClaim := { program := "ytjldjmdelbpjgaa", sum := "a70eb68aa08b0a2bda2b0110143b0e8ef2c82428657fc648a1a47124e1e74820", func := "loop.example/g01142/laws.FnExactBufferSpan", spec := "fnExactBufferSpan", apart := false }
def FnExactBufferSpanSaid : Prop := fnExactBufferSpanRow.holds Try.pinned (OpenSpec.ofChange fnExactBufferSpanSpec)

/-- ITS FALSE NEIGHBOUR: 'it returns false'. Refute it at one input. -/
def fnExactBufferSpanWrong : ChangeSpec := { name := "fnExactBufferSpan", fn := fun _ => fun
  | [d1, d2, d3] => { results := [.lit (.bool false)], args := [d1, d2, d3] }
  | _ => none }
def FnExactBufferSpanWrongFalsely : Prop := fnExactBufferSpanRow.holds Try.pinned (OpenSpec.ofChange fnExactBufferSpanWrong)

/-- 'laws.FnExactCountStuffed': WHATEVER THE INPUT: true; the input reads as it did. -/
def fnExactCountStuffedSpec : ChangeSpec := { name := "fnExactCountStuffed", fn := fun _ => fun
  | [d1, d2] => { results := [.lit (.bool true)], args := [d1, d2] }
  | _ => none }
def fnExactCountStuffedRow : OpenClaim := { program := "ytjldjmdelbpjgaa", sum := "a70eb68aa08b0a2bda2b0110143b0e8ef2c82428657fc648a1a47124e1e74820", func := "loop.example/g01142/laws.FnExactCountStuffed", spec := "fnExactCountStuffed", apart := false }
def FnExactCountStuffedSaid : Prop := fnExactCountStuffedRow.holds Try.pinned (OpenSpec.ofChange fnExactCountStuffedSpec)

/-- ITS FALSE NEIGHBOUR: 'it returns false'. Refute it at one input. -/
def fnExactCountStuffedWrong : ChangeSpec := { name := "fnExactCountStuffed", fn := fun _ => fun
  | [d1, d2] => { results := [.lit (.bool false)], args := [d1, d2] }
  | _ => none }
def FnExactCountStuffedWrongFalsely : Prop := fnExactCountStuffedRow.holds Try.pinned (OpenSpec.ofChange fnExactCountStuffedWrong)

/- THE SECOND FORM. 'bulk': how many values and letters a reading holds, each counted each time it is reached (what is shared counts as often as it is met; a slice's spare places count too). A statement '..UptoSaid' is the law's where the arguments, and the package variables that the reading takes, are together of bulk at most 1048576: NARROWER than '..Said'. Prove '..Said' where nothing that the law and all that it calls make is longer than what came in: it says more and counts as full. Else prove '..UptoSaid'. A law counts once. -/
mutual
def uptoBulk {H : Type} : DataW H → Nat
  | .lit (.string bytes) => bytes.length + 1
  | .lit _ => 1
  | .nil => 1
  | .ptr d => uptoBulk d + 1
  | .slice elems spare => uptoBulkAll elems + uptoBulkAll spare + 1
  | .agg parts => uptoBulkAll parts + 1
  | .iface _ d => uptoBulk d + 1
  | .map entries => uptoBulkEntries entries + 1
  | .held _ => 1
def uptoBulkAll {H : Type} : List (DataW H) → Nat
  | [] => 0
  | d :: r => uptoBulk d + uptoBulkAll r
def uptoBulkEntries {H : Type} : List (Lit × DataW H) → Nat
  | [] => 0
  | x :: r => uptoBulkEntry x + uptoBulkEntries r
def uptoBulkEntry {H : Type} : Lit × DataW H → Nat
  | (.string bytes, d) => bytes.length + uptoBulk d + 1
  | (_, d) => uptoBulk d + 1
 end
def uptoSmall : (H : Type) → List (DataW H) → Bool := fun _ ds => decide (uptoBulkAll ds ≤ 1048576)
def OpenSpec.upto (s : _root_.Go.ChangeSpec) : _root_.Go.OpenSpec := { _root_.Go.OpenSpec.ofChange s with cond := some uptoSmall }

/-- 'laws.FnExactIsCheck', WHERE WHAT IT READS IS OF BULK AT MOST 1048576: true; the input reads as it did. -/
def fnExactIsCheckUptoRow : OpenClaim := { program := "ytjldjmdelbpjgaa", sum := "a70eb68aa08b0a2bda2b0110143b0e8ef2c82428657fc648a1a47124e1e74820", func := "loop.example/g01142/laws.FnExactIsCheck", spec := "fnExactIsCheck", apart := false, narrowed := true }
def FnExactIsCheckUptoSaid : Prop := fnExactIsCheckUptoRow.holds Try.pinned (OpenSpec.upto fnExactIsCheckSpec)

/-- 'laws.FnExactFillAt', WHERE WHAT IT READS IS OF BULK AT MOST 1048576: true; the input reads as it did. -/
def fnExactFillAtUptoRow : OpenClaim := { program := "ytjldjmdelbpjgaa", sum := "a70eb68aa08b0a2bda2b0110143b0e8ef2c82428657fc648a1a47124e1e74820", func := "loop.example/g01142/laws.FnExactFillAt", spec := "fnExactFillAt", apart := false, narrowed := true }
def FnExactFillAtUptoSaid : Prop := fnExactFillAtUptoRow.holds Try.pinned (OpenSpec.upto fnExactFillAtSpec)

/-- 'laws.FnExactSlideDelay', WHERE WHAT IT READS IS OF BULK AT MOST 1048576: true; the input reads as it did. -/
def fnExactSlideDelayUptoRow : OpenClaim := { program := "ytjldjmdelbpjgaa", sum := "a70eb68aa08b0a2bda2b0110143b0e8ef2c82428657fc648a1a47124e1e74820", func := "loop.example/g01142/laws.FnExactSlideDelay", spec := "fnExactSlideDelay", apart := false, narrowed := true }
def FnExactSlideDelayUptoSaid : Prop := fnExactSlideDelayUptoRow.holds Try.pinned (OpenSpec.upto fnExactSlideDelaySpec)

/-- 'laws.FnExactJitterTolerated', WHERE WHAT IT READS IS OF BULK AT MOST 1048576: true; the input reads as it did. -/
def fnExactJitterToleratedUptoRow : OpenClaim := { program := "ytjldjmdelbpjgaa", sum := "a70eb68aa08b0a2bda2b0110143b0e8ef2c82428657fc648a1a47124e1e74820", func := "loop.example/g01142/laws.FnExactJitterTolerated", spec := "fnExactJitterTolerated", apart := false, narrowed := true }
def FnExactJitterToleratedUptoSaid : Prop := fnExactJitterToleratedUptoRow.holds Try.pinned (OpenSpec.upto fnExactJitterToleratedSpec)

/-- 'laws.FnExactIsTolerated', WHERE WHAT IT READS IS OF BULK AT MOST 1048576: true; the input reads as it did. -/
def fnExactIsToleratedUptoRow : OpenClaim := { program := "ytjldjmdelbpjgaa", sum := "a70eb68aa08b0a2bda2b0110143b0e8ef2c82428657fc648a1a47124e1e74820", func := "loop.example/g01142/laws.FnExactIsTolerated", spec := "fnExactIsTolerated", apart := false, narrowed := true }
def FnExactIsToleratedUptoSaid : Prop := fnExactIsToleratedUptoRow.holds Try.pinned (OpenSpec.upto fnExactIsToleratedSpec)

/-- 'laws.FnExactLongestTolerated', WHERE WHAT IT READS IS OF BULK AT MOST 1048576: true; the input reads as it did. -/
def fnExactLongestToleratedUptoRow : OpenClaim := { program := "ytjldjmdelbpjgaa", sum := "a70eb68aa08b0a2bda2b0110143b0e8ef2c82428657fc648a1a47124e1e74820", func := "loop.example/g01142/laws.FnExactLongestTolerated", spec := "fnExactLongestTolerated", apart := false, narrowed := true }
def FnExactLongestToleratedUptoSaid : Prop := fnExactLongestToleratedUptoRow.holds Try.pinned (OpenSpec.upto fnExactLongestToleratedSpec)

/-- 'laws.FnExactSampleTimes', WHERE WHAT IT READS IS OF BULK AT MOST 1048576: true; the input reads as it did. -/
def fnExactSampleTimesUptoRow : OpenClaim := { program := "ytjldjmdelbpjgaa", sum := "a70eb68aa08b0a2bda2b0110143b0e8ef2c82428657fc648a1a47124e1e74820", func := "loop.example/g01142/laws.FnExactSampleTimes", spec := "fnExactSampleTimes", apart := false, narrowed := true }
def FnExactSampleTimesUptoSaid : Prop := fnExactSampleTimesUptoRow.holds Try.pinned (OpenSpec.upto fnExactSampleTimesSpec)

/-- 'laws.FnBuffers', WHERE WHAT IT READS IS OF BULK AT MOST 1048576: true; the input reads as it did. -/
def fnBuffersUptoRow : OpenClaim := { program := "ytjldjmdelbpjgaa", sum := "a70eb68aa08b0a2bda2b0110143b0e8ef2c82428657fc648a1a47124e1e74820", func := "loop.example/g01142/laws.FnBuffers", spec := "fnBuffers", apart := false, narrowed := true }
def FnBuffersUptoSaid : Prop := fnBuffersUptoRow.holds Try.pinned (OpenSpec.upto fnBuffersSpec)

/-- 'laws.FnExactBufferTime', WHERE WHAT IT READS IS OF BULK AT MOST 1048576: true; the input reads as it did. -/
def fnExactBufferTimeUptoRow : OpenClaim := { program := "ytjldjmdelbpjgaa", sum := "a70eb68aa08b0a2bda2b0110143b0e8ef2c82428657fc648a1a47124e1e74820", func := "loop.example/g01142/laws.FnExactBufferTime", spec := "fnExactBufferTime", apart := false, narrowed := true }
def FnExactBufferTimeUptoSaid : Prop := fnExactBufferTimeUptoRow.holds Try.pinned (OpenSpec.upto fnExactBufferTimeSpec)

/-- 'laws.FnExactTakeRange', WHERE WHAT IT READS IS OF BULK AT MOST 1048576: true; the input reads as it did. -/
def fnExactTakeRangeUptoRow : OpenClaim := { program := "ytjldjmdelbpjgaa", sum := "a70eb68aa08b0a2bda2b0110143b0e8ef2c82428657fc648a1a47124e1e74820", func := "loop.example/g01142/laws.FnExactTakeRange", spec := "fnExactTakeRange", apart := false, narrowed := true }
def FnExactTakeRangeUptoSaid : Prop := fnExactTakeRangeUptoRow.holds Try.pinned (OpenSpec.upto fnExactTakeRangeSpec)

/-- 'laws.FnExactBufferSpan', WHERE WHAT IT READS IS OF BULK AT MOST 1048576: true; the input reads as it did. -/
def fnExactBufferSpanUptoRow : OpenClaim := { program := "ytjldjmdelbpjgaa", sum := "a70eb68aa08b0a2bda2b0110143b0e8ef2c82428657fc648a1a47124e1e74820", func := "loop.example/g01142/laws.FnExactBufferSpan", spec := "fnExactBufferSpan", apart := false, narrowed := true }
def FnExactBufferSpanUptoSaid : Prop := fnExactBufferSpanUptoRow.holds Try.pinned (OpenSpec.upto fnExactBufferSpanSpec)

/-- 'laws.FnExactCountStuffed', WHERE WHAT IT READS IS OF BULK AT MOST 1048576: true; the input reads as it did. -/
def fnExactCountStuffedUptoRow : OpenClaim := { program := "ytjldjmdelbpjgaa", sum := "a70eb68aa08b0a2bda2b0110143b0e8ef2c82428657fc648a1a47124e1e74820", func := "loop.example/g01142/laws.FnExactCountStuffed", spec := "fnExactCountStuffed", apart := false, narrowed := true }
def FnExactCountStuffedUptoSaid : Prop := fnExactCountStuffedUptoRow.holds Try.pinned (OpenSpec.upto fnExactCountStuffedSpec)

end Rows
end Go.Proofs.Ytjldjmdelbpjgaa
