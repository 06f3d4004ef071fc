/-
  No cell of these rows narrows 'for every input' (looked for: loops, veiled, ifaces, maps, wideKeys, modest, calm, conditions, laid).
  DERIVED. THE GIVEN ROWS OF THIS SEAT. 5 by the template 'for every input the law returns true; each argument reads behind the call as it read before'; 0 by the template 'total and deterministic' (their statements: YtbifbbfkcbgnlaaTotals.lean).
  GIVEN WITH THE SEED: the statements are not yours to turn. If you find one false, say at which input.
  Laid BY PROGRAM, IN A SANDBOX (cutbox-rows.mjs): the forced cells as the released guide's own fill.sh prints them over the translation c05a2ab3108199bd… (all of the seat's roots in one cut). By AI agents, Wed Nov 11 2026. No macro, syntax, notation, axiom, sorry.
-/
import Derived.Test.YtbifbbfkcbgnlaaChecked
import GoSem.Claim
import GoSem.ClaimJoined
import GoSem.ClaimMapViews
import Derived.JoinedTies
import Derived.KernelRfl
namespace Go.Proofs.Ytbifbbfkcbgnlaa
/- THE CELL 'sum', in the pinned program and in every row, IS THE sha256 OF THE DUMP (.gsa) THAT YtbifbbfkcbgnlaaProg.lean LOADS. Nothing in Lean hashes anything: it is a label: what it is worth is what the hold of that sum in a sandbox is worth. -/
noncomputable def Try.pinned : Pinned := { name := "ytbifbbfkcbgnlaa", sum := "c05a2ab3108199bd87fc1c2b329975b5ca19ba0cbbb56099a9ee1f0245f697c5", checked := Try.checked }
namespace Rows
def none {H : Type} : Left H := { results := [], args := [] }

/-- 'laws.FnExactCobsBytes': WHATEVER THE INPUT: true; the input reads as it did. -/
def fnExactCobsBytesSpec : ChangeSpec := { name := "fnExactCobsBytes", fn := fun _ => fun
  | [d] => { results := [.lit (.bool true)], args := [d] }
  | _ => none }
def fnExactCobsBytesRow : OpenClaim := { program := "ytbifbbfkcbgnlaa", sum := "c05a2ab3108199bd87fc1c2b329975b5ca19ba0cbbb56099a9ee1f0245f697c5", func := "loop.example/g01142/laws.FnExactCobsBytes", spec := "fnExactCobsBytes", apart := false }
def FnExactCobsBytesSaid : Prop := fnExactCobsBytesRow.holds Try.pinned (OpenSpec.ofChange fnExactCobsBytesSpec)

/-- ITS FALSE NEIGHBOUR: 'it returns false'. Refute it at one input. -/
def fnExactCobsBytesWrong : ChangeSpec := { name := "fnExactCobsBytes", fn := fun _ => fun
  | [d] => { results := [.lit (.bool false)], args := [d] }
  | _ => none }
def FnExactCobsBytesWrongFalsely : Prop := fnExactCobsBytesRow.holds Try.pinned (OpenSpec.ofChange fnExactCobsBytesWrong)

/-- 'laws.FnExactEscapeBytes': WHATEVER THE INPUT: true; the input reads as it did. -/
def fnExactEscapeBytesSpec : ChangeSpec := { name := "fnExactEscapeBytes", fn := fun _ => fun
  | [d1, d2] => { results := [.lit (.bool true)], args := [d1, d2] }
  | _ => none }
def fnExactEscapeBytesRow : OpenClaim := { program := "ytbifbbfkcbgnlaa", sum := "c05a2ab3108199bd87fc1c2b329975b5ca19ba0cbbb56099a9ee1f0245f697c5", func := "loop.example/g01142/laws.FnExactEscapeBytes", spec := "fnExactEscapeBytes", unfollowed := true, recurses := true, apart := false }
def FnExactEscapeBytesSaid : Prop := fnExactEscapeBytesRow.holds Try.pinned (OpenSpec.ofChange fnExactEscapeBytesSpec)

/-- ITS FALSE NEIGHBOUR: 'it returns false'. Refute it at one input. -/
def fnExactEscapeBytesWrong : ChangeSpec := { name := "fnExactEscapeBytes", fn := fun _ => fun
  | [d1, d2] => { results := [.lit (.bool false)], args := [d1, d2] }
  | _ => none }
def FnExactEscapeBytesWrongFalsely : Prop := fnExactEscapeBytesRow.holds Try.pinned (OpenSpec.ofChange fnExactEscapeBytesWrong)

/-- 'laws.FnExactUncobsBytes': WHATEVER THE INPUT: true; the input reads as it did. -/
def fnExactUncobsBytesSpec : ChangeSpec := { name := "fnExactUncobsBytes", fn := fun _ => fun
  | [d] => { results := [.lit (.bool true)], args := [d] }
  | _ => none }
def fnExactUncobsBytesRow : OpenClaim := { program := "ytbifbbfkcbgnlaa", sum := "c05a2ab3108199bd87fc1c2b329975b5ca19ba0cbbb56099a9ee1f0245f697c5", func := "loop.example/g01142/laws.FnExactUncobsBytes", spec := "fnExactUncobsBytes", apart := false }
def FnExactUncobsBytesSaid : Prop := fnExactUncobsBytesRow.holds Try.pinned (OpenSpec.ofChange fnExactUncobsBytesSpec)

/-- ITS FALSE NEIGHBOUR: 'it returns false'. Refute it at one input. -/
def fnExactUncobsBytesWrong : ChangeSpec := { name := "fnExactUncobsBytes", fn := fun _ => fun
  | [d] => { results := [.lit (.bool false)], args := [d] }
  | _ => none }
def FnExactUncobsBytesWrongFalsely : Prop := fnExactUncobsBytesRow.holds Try.pinned (OpenSpec.ofChange fnExactUncobsBytesWrong)

/-- 'laws.FnExactUnescapeBytes': WHATEVER THE INPUT: true; the input reads as it did. -/
def fnExactUnescapeBytesSpec : ChangeSpec := { name := "fnExactUnescapeBytes", fn := fun _ => fun
  | [d1, d2] => { results := [.lit (.bool true)], args := [d1, d2] }
  | _ => none }
def fnExactUnescapeBytesRow : OpenClaim := { program := "ytbifbbfkcbgnlaa", sum := "c05a2ab3108199bd87fc1c2b329975b5ca19ba0cbbb56099a9ee1f0245f697c5", func := "loop.example/g01142/laws.FnExactUnescapeBytes", spec := "fnExactUnescapeBytes", unfollowed := true, recurses := true, apart := false }
def FnExactUnescapeBytesSaid : Prop := fnExactUnescapeBytesRow.holds Try.pinned (OpenSpec.ofChange fnExactUnescapeBytesSpec)

/-- ITS FALSE NEIGHBOUR: 'it returns false'. Refute it at one input. -/
def fnExactUnescapeBytesWrong : ChangeSpec := { name := "fnExactUnescapeBytes", fn := fun _ => fun
  | [d1, d2] => { results := [.lit (.bool false)], args := [d1, d2] }
  | _ => none }
def FnExactUnescapeBytesWrongFalsely : Prop := fnExactUnescapeBytesRow.holds Try.pinned (OpenSpec.ofChange fnExactUnescapeBytesWrong)

/-- 'laws.FnEscaped': WHATEVER THE INPUT: true; the input reads as it did. -/
def fnEscapedSpec : ChangeSpec := { name := "fnEscaped", fn := fun _ => fun
  | [d1, d2] => { results := [.lit (.bool true)], args := [d1, d2] }
  | _ => none }
def fnEscapedRow : OpenClaim := { program := "ytbifbbfkcbgnlaa", sum := "c05a2ab3108199bd87fc1c2b329975b5ca19ba0cbbb56099a9ee1f0245f697c5", func := "loop.example/g01142/laws.FnEscaped", spec := "fnEscaped", unfollowed := true, recurses := true, apart := false }
def FnEscapedSaid : Prop := fnEscapedRow.holds Try.pinned (OpenSpec.ofChange fnEscapedSpec)

/-- ITS FALSE NEIGHBOUR: 'it returns false'. Refute it at one input. -/
def fnEscapedWrong : ChangeSpec := { name := "fnEscaped", fn := fun _ => fun
  | [d1, d2] => { results := [.lit (.bool false)], args := [d1, d2] }
  | _ => none }
def FnEscapedWrongFalsely : Prop := fnEscapedRow.holds Try.pinned (OpenSpec.ofChange fnEscapedWrong)

/- THE SECOND FORM. 'bulk': how many values and letters a reading holds, each counted each time it is reached (what is shared counts as often as it is met; a slice's spare places count too). A statement '..UptoSaid' is the law's where the arguments, and the package variables that the reading takes, are together of bulk at most 1048576: NARROWER than '..Said'. Prove '..Said' where nothing that the law and all that it calls make is longer than what came in: it says more and counts as full. Else prove '..UptoSaid'. A law counts once. -/
mutual
def uptoBulk {H : Type} : DataW H → Nat
  | .lit (.string bytes) => bytes.length + 1
  | .lit _ => 1
  | .nil => 1
  | .ptr d => uptoBulk d + 1
  | .slice elems spare => uptoBulkAll elems + uptoBulkAll spare + 1
  | .agg parts => uptoBulkAll parts + 1
  | .iface _ d => uptoBulk d + 1
  | .map entries => uptoBulkEntries entries + 1
  | .held _ => 1
def uptoBulkAll {H : Type} : List (DataW H) → Nat
  | [] => 0
  | d :: r => uptoBulk d + uptoBulkAll r
def uptoBulkEntries {H : Type} : List (Lit × DataW H) → Nat
  | [] => 0
  | x :: r => uptoBulkEntry x + uptoBulkEntries r
def uptoBulkEntry {H : Type} : Lit × DataW H → Nat
  | (.string bytes, d) => bytes.length + uptoBulk d + 1
  | (_, d) => uptoBulk d + 1
 end
def uptoSmall : (H : Type) → List (DataW H) → Bool := fun _ ds => decide (uptoBulkAll ds ≤ 1048576)
def OpenSpec.upto (s : _root_.Go.ChangeSpec) : _root_.Go.OpenSpec := { _root_.Go.OpenSpec.ofChange s with cond := some uptoSmall }

/-- 'laws.FnExactCobsBytes', WHERE WHAT IT READS IS OF BULK AT MOST 1048576: true; the input reads as it did. -/
def fnExactCobsBytesUptoRow : OpenClaim := { program := "ytbifbbfkcbgnlaa", sum := "c05a2ab3108199bd87fc1c2b329975b5ca19ba0cbbb56099a9ee1f0245f697c5", func := "loop.example/g01142/laws.FnExactCobsBytes", spec := "fnExactCobsBytes", apart := false, narrowed := true }
def FnExactCobsBytesUptoSaid : Prop := fnExactCobsBytesUptoRow.holds Try.pinned (OpenSpec.upto fnExactCobsBytesSpec)

/-- 'laws.FnExactEscapeBytes', WHERE WHAT IT READS IS OF BULK AT MOST 1048576: true; the input reads as it did. -/
def fnExactEscapeBytesUptoRow : OpenClaim := { program := "ytbifbbfkcbgnlaa", sum := "c05a2ab3108199bd87fc1c2b329975b5ca19ba0cbbb56099a9ee1f0245f697c5", func := "loop.example/g01142/laws.FnExactEscapeBytes", spec := "fnExactEscapeBytes", unfollowed := true, recurses := true, apart := false, narrowed := true }
def FnExactEscapeBytesUptoSaid : Prop := fnExactEscapeBytesUptoRow.holds Try.pinned (OpenSpec.upto fnExactEscapeBytesSpec)

/-- 'laws.FnExactUncobsBytes', WHERE WHAT IT READS IS OF BULK AT MOST 1048576: true; the input reads as it did. -/
def fnExactUncobsBytesUptoRow : OpenClaim := { program := "ytbifbbfkcbgnlaa", sum := "c05a2ab3108199bd87fc1c2b329975b5ca19ba0cbbb56099a9ee1f0245f697c5", func := "loop.example/g01142/laws.FnExactUncobsBytes", spec := "fnExactUncobsBytes", apart := false, narrowed := true }
def FnExactUncobsBytesUptoSaid : Prop := fnExactUncobsBytesUptoRow.holds Try.pinned (OpenSpec.upto fnExactUncobsBytesSpec)

/-- 'laws.FnExactUnescapeBytes', WHERE WHAT IT READS IS OF BULK AT MOST 1048576: true; the input reads as it did. -/
def fnExactUnescapeBytesUptoRow : OpenClaim := { program := "ytbifbbfkcbgnlaa", sum := "c05a2ab3108199bd87fc1c2b329975b5ca19ba0cbbb56099a9ee1f0245f697c5", func := "loop.example/g01142/laws.FnExactUnescapeBytes", spec := "fnExactUnescapeBytes", unfollowed := true, recurses := true, apart := false, narrowed := true }
def FnExactUnescapeBytesUptoSaid : Prop := fnExactUnescapeBytesUptoRow.holds Try.pinned (OpenSpec.upto fnExactUnescapeBytesSpec)

/-- 'laws.FnEscaped', WHERE WHAT IT READS IS OF BULK AT MOST 1048576: true; the input reads as it did. -/
def fnEscapedUptoRow : OpenClaim := { program := "ytbifbbfkcbgnlaa", sum := "c05a2ab3108199bd87fc1c2b329975b5ca19ba0cbbb56099a9ee1f0245f697c5", func := "loop.example/g01142/laws.FnEscaped", spec := "fnEscaped", unfollowed := true, recurses := true, apart := false, narrowed := true }
def FnEscapedUptoSaid : Prop := fnEscapedUptoRow.holds Try.pinned (OpenSpec.upto fnEscapedSpec)

end Rows
end Go.Proofs.Ytbifbbfkcbgnlaa
