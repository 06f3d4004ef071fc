-- Written by a program of this session (mkprint.py) over the print of the translation. Not trusted: Lean checks it.
import Derived.Test.YtbifbbfkcbgnlaaDoorProg
import Derived.Below
import Derived.Deep.Draws
import Derived.Deep.AppendLies
import Derived.Maps.AppendAt
import Derived.OwnWalk
import Derived.Laws.BytesArg
import Derived.Laws.MakeOwn
import Derived.Laws.OwnMore
import Derived.Deep.OwnRows
import Derived.Tactics
import Derived.Lib.ConvBytes
import Derived.Laws.Slices
import Derived.WalkKit
import Derived.KernelRfl
import Derived.RowKit3
import Derived.Deep.LoopGhost
import Derived.Deep.QuietTactic
import Derived.BigQuiet
import Derived.WideLaws
import Derived.Deep.DeepCutAuto
import Derived.Deep.CutBlock
import Derived.Deep.RegionHeld3
import Derived.Laws.Rows
import Derived.Lib.AppendStr
import Derived.ArgAppend
import Derived.Laws.IdiomCopy
import Derived.OrdersHeld
import Derived.Laws.BitsLemmas
import Derived.RowKit
import Derived.Test.YtbifbbfkcbgnlaaDoorWWords
import Derived.Test.YtbifbbfkcbgnlaaDoorWLast
import Derived.Test.YtbifbbfkcbgnlaaDoorWTab
import Derived.Test.YtbifbbfkcbgnlaaDoorWFour
import Derived.Test.YtbifbbfkcbgnlaaDoorWQPut
import Derived.Test.YtbifbbfkcbgnlaaDoorWApart
import Derived.Test.YtbifbbfkcbgnlaaDoorWArr
import Derived.Test.YtbifbbfkcbgnlaaDoorWZeros
import Derived.Test.YtbifbbfkcbgnlaaDoorWFoot
import Derived.Test.YtbifbbfkcbgnlaaDoorWKept
import Derived.Test.YtbifbbfkcbgnlaaDoorWShare
import Derived.Test.YtbifbbfkcbgnlaaDoorWN
import Derived.Test.YtbifbbfkcbgnlaaDoorWFootNe
import Derived.Test.YtbifbbfkcbgnlaaDoorWAt
import Derived.Test.YtbifbbfkcbgnlaaDoorWEqStruct
import Derived.Test.YtbifbbfkcbgnlaaDoorWRepsOne
import Derived.Test.YtbifbbfkcbgnlaaDoorWInv
import Derived.Test.YtbifbbfkcbgnlaaDoorWInvWords
import Derived.Test.YtbifbbfkcbgnlaaDoorWGuard
import Derived.Test.YtbifbbfkcbgnlaaDoorWNEv
import Derived.Test.YtbifbbfkcbgnlaaDoorWMore
import Derived.Test.YtbifbbfkcbgnlaaDoorShelf
import Derived.Shelf.Strings.SlTrimAscii
import Derived.Test.YtbifbbfkcbgnlaaDoorBld
import Derived.StillTailTactics
import Derived.Deep.QuietTactic
import Derived.BigQuiet
import Derived.RegionTactic
import Derived.ChangeAlike
namespace Go.Proofs.YtbifbbfkcbgnlaaDoor.PFnFramed
open Go.RowKit Go.Proofs.YtbifbbfkcbgnlaaDoorW.PrintWords Go.Proofs.YtbifbbfkcbgnlaaDoorW.PrintLast Go.Proofs.YtbifbbfkcbgnlaaDoorW.PrintMore
attribute [local go_sem] max2_int min2_int max_two min_two max_three min_three max_four min_four   -- for this text's walks alone
set_option linter.unusedVariables false
set_option linter.unusedSimpArgs false



def errW : Option Int → Value
  | none => .nilIface
  | some c => .iface 0 (.int .i64 c)
theorem errW_none : errW none = .nilIface := rfl
theorem errW_some (c : Int) : errW (some c) = .iface 0 (.int .i64 c) := rfl

theorem info5 : (Tryd.prog.info? 5).map (fun i => (i.zero, i.size, i.bytes)) = some (some (.int .u8 0), 1, 1) := by kernel_rfl
theorem info9 : (Tryd.prog.info? 9).map (fun i => (i.zero, i.size, i.bytes)) = some (some (.string ⟨#[]⟩), 1, 16) := by kernel_rfl
-- the values' own types

end Go.Proofs.YtbifbbfkcbgnlaaDoor.PFnFramed
