-- Written by a program of this session (mkprint.py) over the print of the translation. Not trusted: Lean checks it.
import Derived.Test.YtkhgmfnmgefpbaaDoorProg
import Derived.Below
import Derived.Deep.Draws
import Derived.Deep.AppendLies
import Derived.Maps.AppendAt
import Derived.OwnWalk
import Derived.Laws.BytesArg
import Derived.Laws.MakeOwn
import Derived.Laws.OwnMore
import Derived.Deep.OwnRows
import Derived.Tactics
import Derived.Lib.ConvBytes
import Derived.Laws.Slices
import Derived.WalkKit
import Derived.KernelRfl
import Derived.RowKit3
import Derived.Deep.LoopGhost
import Derived.Deep.QuietTactic
import Derived.BigQuiet
import Derived.WideLaws
import Derived.Deep.DeepCutAuto
import Derived.Deep.CutBlock
import Derived.Deep.RegionHeld3
import Derived.Laws.Rows
import Derived.Lib.AppendStr
import Derived.ArgAppend
import Derived.Laws.IdiomCopy
import Derived.OrdersHeld
import Derived.Laws.BitsLemmas
import Derived.RowKit
import Derived.Test.YtkhgmfnmgefpbaaDoorWWords
import Derived.Test.YtkhgmfnmgefpbaaDoorWLast
import Derived.Test.YtkhgmfnmgefpbaaDoorWTab
import Derived.Test.YtkhgmfnmgefpbaaDoorWFour
import Derived.Test.YtkhgmfnmgefpbaaDoorWQPut
import Derived.Test.YtkhgmfnmgefpbaaDoorWApart
import Derived.Test.YtkhgmfnmgefpbaaDoorWArr
import Derived.Test.YtkhgmfnmgefpbaaDoorWZeros
import Derived.Test.YtkhgmfnmgefpbaaDoorWFoot
import Derived.Test.YtkhgmfnmgefpbaaDoorWKept
import Derived.Test.YtkhgmfnmgefpbaaDoorWShare
import Derived.Test.YtkhgmfnmgefpbaaDoorWN
import Derived.Test.YtkhgmfnmgefpbaaDoorWFootNe
import Derived.Test.YtkhgmfnmgefpbaaDoorWAt
import Derived.Test.YtkhgmfnmgefpbaaDoorWEqStruct
import Derived.Test.YtkhgmfnmgefpbaaDoorWRepsOne
import Derived.Test.YtkhgmfnmgefpbaaDoorWInv
import Derived.Test.YtkhgmfnmgefpbaaDoorWInvWords
import Derived.Test.YtkhgmfnmgefpbaaDoorWGuard
import Derived.Test.YtkhgmfnmgefpbaaDoorWNEv
import Derived.Test.YtkhgmfnmgefpbaaDoorWMore
import Derived.Test.YtkhgmfnmgefpbaaDoorShelf
import Derived.Shelf.Strings.SlTrimAscii
import Derived.Test.YtkhgmfnmgefpbaaDoorConv
import Derived.Shelf.SlicesE.Reverse
import Derived.Test.YtkhgmfnmgefpbaaDoorBld
import Derived.StillTailTactics
import Derived.Deep.QuietTactic
import Derived.BigQuiet
namespace Go.Proofs.YtkhgmfnmgefpbaaDoor.PFnExactAddScramble
open Go.RowKit Go.Proofs.YtkhgmfnmgefpbaaDoorW.PrintWords Go.Proofs.YtkhgmfnmgefpbaaDoorW.PrintLast Go.Proofs.YtkhgmfnmgefpbaaDoorW.PrintMore
attribute [local go_sem] max2_int min2_int max_two min_two max_three min_three max_four min_four   -- for this text's walks alone
set_option linter.unusedVariables false
set_option linter.unusedSimpArgs false



def errW : Option Int → Value
  | none => .nilIface
  | some c => .iface 0 (.int .i64 c)
theorem errW_none : errW none = .nilIface := rfl
theorem errW_some (c : Int) : errW (some c) = .iface 0 (.int .i64 c) := rfl

theorem info2 : (Tryd.prog.info? 2).map (fun i => (i.zero, i.size, i.bytes)) = some (some (.int .i64 0), 1, 8) := by kernel_rfl
theorem info5 : (Tryd.prog.info? 5).map (fun i => (i.zero, i.size, i.bytes)) = some (some (.int .u8 0), 1, 1) := by kernel_rfl
-- the values' own types

end Go.Proofs.YtkhgmfnmgefpbaaDoor.PFnExactAddScramble
