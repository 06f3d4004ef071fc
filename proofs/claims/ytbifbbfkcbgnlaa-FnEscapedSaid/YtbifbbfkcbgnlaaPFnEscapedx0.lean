-- Written by a program of this session (mkprint.py) over the print of the translation. Not trusted: Lean checks it.
import Derived.Test.YtbifbbfkcbgnlaaProg
import Derived.Below
import Derived.Deep.Draws
import Derived.Deep.AppendLies
import Derived.Maps.AppendAt
import Derived.OwnWalk
import Derived.Laws.BytesArg
import Derived.Laws.MakeOwn
import Derived.Laws.OwnMore
import Derived.Deep.OwnRows
import Derived.Tactics
import Derived.Lib.ConvBytes
import Derived.Laws.Slices
import Derived.WalkKit
import Derived.KernelRfl
import Derived.RowKit3
import Derived.Deep.LoopGhost
import Derived.Deep.QuietTactic
import Derived.BigQuiet
import Derived.WideLaws
import Derived.Deep.DeepCutAuto
import Derived.Deep.CutBlock
import Derived.Deep.RegionHeld3
import Derived.Laws.Rows
import Derived.Lib.AppendStr
import Derived.ArgAppend
import Derived.Laws.IdiomCopy
import Derived.OrdersHeld
import Derived.Laws.BitsLemmas
import Derived.RowKit
import Derived.Test.YtbifbbfkcbgnlaaWWords
import Derived.Test.YtbifbbfkcbgnlaaWLast
import Derived.Test.YtbifbbfkcbgnlaaWTab
import Derived.Test.YtbifbbfkcbgnlaaWFour
import Derived.Test.YtbifbbfkcbgnlaaWQPut
import Derived.Test.YtbifbbfkcbgnlaaWApart
import Derived.Test.YtbifbbfkcbgnlaaWArr
import Derived.Test.YtbifbbfkcbgnlaaWZeros
import Derived.Test.YtbifbbfkcbgnlaaWFoot
import Derived.Test.YtbifbbfkcbgnlaaWKept
import Derived.Test.YtbifbbfkcbgnlaaWShare
import Derived.Test.YtbifbbfkcbgnlaaWN
import Derived.Test.YtbifbbfkcbgnlaaWFootNe
import Derived.Test.YtbifbbfkcbgnlaaWAt
import Derived.Test.YtbifbbfkcbgnlaaWEqStruct
import Derived.Test.YtbifbbfkcbgnlaaWRepsOne
import Derived.Test.YtbifbbfkcbgnlaaWInv
import Derived.Test.YtbifbbfkcbgnlaaWInvWords
import Derived.Test.YtbifbbfkcbgnlaaWGuard
import Derived.Test.YtbifbbfkcbgnlaaWNEv
import Derived.Test.YtbifbbfkcbgnlaaWMore
import Derived.Test.YtbifbbfkcbgnlaaShelf
import Derived.Shelf.Strings.SlTrimAscii
namespace Go.Proofs.Ytbifbbfkcbgnlaa.PFnEscaped
open Go.RowKit Go.Proofs.YtbifbbfkcbgnlaaW.PrintWords Go.Proofs.YtbifbbfkcbgnlaaW.PrintLast Go.Proofs.YtbifbbfkcbgnlaaW.PrintMore
attribute [local go_sem] max2_int min2_int max_two min_two max_three min_three max_four min_four   -- for this text's walks alone
set_option linter.unusedVariables false
set_option linter.unusedSimpArgs false



def errW : Option Int → Value
  | none => .nilIface
  | some c => .iface 0 (.int .i64 c)
theorem errW_none : errW none = .nilIface := rfl
theorem errW_some (c : Int) : errW (some c) = .iface 0 (.int .i64 c) := rfl

theorem info2 : (Try.prog.info? 2).map (fun i => (i.zero, i.size, i.bytes)) = some (some (.int .i64 0), 1, 8) := by kernel_rfl
-- the values' own types

end Go.Proofs.Ytbifbbfkcbgnlaa.PFnEscaped
