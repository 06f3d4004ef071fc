-- Written by a program of this session (mkprint.py) over the print of the translation. Not trusted: Lean checks it.
import Derived.Test.YtondkjcmibnbpaaDoorProg
import Derived.Below
import Derived.Deep.Draws
import Derived.Deep.AppendLies
import Derived.Maps.AppendAt
import Derived.OwnWalk
import Derived.Laws.BytesArg
import Derived.Laws.MakeOwn
import Derived.Laws.OwnMore
import Derived.Deep.OwnRows
import Derived.Tactics
import Derived.Lib.ConvBytes
import Derived.Laws.Slices
import Derived.WalkKit
import Derived.KernelRfl
import Derived.RowKit3
import Derived.Deep.LoopGhost
import Derived.Deep.QuietTactic
import Derived.BigQuiet
import Derived.WideLaws
import Derived.Deep.DeepCutAuto
import Derived.Deep.CutBlock
import Derived.Deep.RegionHeld3
import Derived.Laws.Rows
import Derived.Lib.AppendStr
import Derived.ArgAppend
import Derived.Laws.IdiomCopy
import Derived.OrdersHeld
import Derived.Laws.BitsLemmas
import Derived.RowKit
import Derived.Test.YtondkjcmibnbpaaDoorWWords
import Derived.Test.YtondkjcmibnbpaaDoorWLast
import Derived.Test.YtondkjcmibnbpaaDoorWTab
import Derived.Test.YtondkjcmibnbpaaDoorWFour
import Derived.Test.YtondkjcmibnbpaaDoorWQPut
import Derived.Test.YtondkjcmibnbpaaDoorWApart
import Derived.Test.YtondkjcmibnbpaaDoorWArr
import Derived.Test.YtondkjcmibnbpaaDoorWZeros
import Derived.Test.YtondkjcmibnbpaaDoorWFoot
import Derived.Test.YtondkjcmibnbpaaDoorWKept
import Derived.Test.YtondkjcmibnbpaaDoorWShare
import Derived.Test.YtondkjcmibnbpaaDoorWN
import Derived.Test.YtondkjcmibnbpaaDoorWFootNe
import Derived.Test.YtondkjcmibnbpaaDoorWAt
import Derived.Test.YtondkjcmibnbpaaDoorWEqStruct
import Derived.Test.YtondkjcmibnbpaaDoorWRepsOne
import Derived.Test.YtondkjcmibnbpaaDoorWInv
import Derived.Test.YtondkjcmibnbpaaDoorWInvWords
import Derived.Test.YtondkjcmibnbpaaDoorWGuard
import Derived.Test.YtondkjcmibnbpaaDoorWNEv
import Derived.Test.YtondkjcmibnbpaaDoorWMore
import Derived.Test.YtondkjcmibnbpaaDoorShelf
import Derived.Shelf.Strings.SlTrimAscii
import Derived.Test.YtondkjcmibnbpaaDoorConv
import Derived.Shelf.SlicesE.Reverse
import Derived.Test.YtondkjcmibnbpaaDoorBld
import Derived.StillTailTactics
import Derived.Deep.QuietTactic
import Derived.BigQuiet
import Derived.RegionTactic
import Derived.ChangeAlike
namespace Go.Proofs.YtondkjcmibnbpaaDoor.PFnSampled
open Go.RowKit Go.Proofs.YtondkjcmibnbpaaDoorW.PrintWords Go.Proofs.YtondkjcmibnbpaaDoorW.PrintLast Go.Proofs.YtondkjcmibnbpaaDoorW.PrintMore
attribute [local go_sem] max2_int min2_int max_two min_two max_three min_three max_four min_four   -- for this text's walks alone
set_option linter.unusedVariables false
set_option linter.unusedSimpArgs false



def errW : Option Int → Value
  | none => .nilIface
  | some c => .iface 0 (.int .i64 c)
theorem errW_none : errW none = .nilIface := rfl
theorem errW_some (c : Int) : errW (some c) = .iface 0 (.int .i64 c) := rfl

theorem info2 : (Tryd.prog.info? 2).map (fun i => (i.zero, i.size, i.bytes)) = some (some (.int .i64 0), 1, 8) := by kernel_rfl
theorem info5 : (Tryd.prog.info? 5).map (fun i => (i.zero, i.size, i.bytes)) = some (some (.int .u8 0), 1, 1) := by kernel_rfl
-- the values' own types

end Go.Proofs.YtondkjcmibnbpaaDoor.PFnSampled
