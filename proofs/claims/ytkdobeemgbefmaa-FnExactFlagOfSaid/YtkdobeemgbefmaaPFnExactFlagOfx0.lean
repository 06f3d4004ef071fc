-- Written by a program of this session (mkprint.py) over the print of the translation. Not trusted: Lean checks it.
import Derived.Test.YtkdobeemgbefmaaProg
import Derived.Below
import Derived.Deep.Draws
import Derived.Deep.AppendLies
import Derived.Maps.AppendAt
import Derived.OwnWalk
import Derived.Laws.BytesArg
import Derived.Laws.MakeOwn
import Derived.Laws.OwnMore
import Derived.Deep.OwnRows
import Derived.Tactics
import Derived.Lib.ConvBytes
import Derived.Laws.Slices
import Derived.WalkKit
import Derived.KernelRfl
import Derived.RowKit3
import Derived.Deep.LoopGhost
import Derived.Deep.QuietTactic
import Derived.BigQuiet
import Derived.WideLaws
import Derived.Deep.DeepCutAuto
import Derived.Deep.CutBlock
import Derived.Deep.RegionHeld3
import Derived.Laws.Rows
import Derived.Lib.AppendStr
import Derived.ArgAppend
import Derived.Laws.IdiomCopy
import Derived.OrdersHeld
import Derived.Laws.BitsLemmas
import Derived.RowKit
import Derived.Test.YtkdobeemgbefmaaWWords
import Derived.Test.YtkdobeemgbefmaaWLast
import Derived.Test.YtkdobeemgbefmaaWTab
import Derived.Test.YtkdobeemgbefmaaWFour
import Derived.Test.YtkdobeemgbefmaaWQPut
import Derived.Test.YtkdobeemgbefmaaWApart
import Derived.Test.YtkdobeemgbefmaaWArr
import Derived.Test.YtkdobeemgbefmaaWZeros
import Derived.Test.YtkdobeemgbefmaaWFoot
import Derived.Test.YtkdobeemgbefmaaWKept
import Derived.Test.YtkdobeemgbefmaaWShare
import Derived.Test.YtkdobeemgbefmaaWN
import Derived.Test.YtkdobeemgbefmaaWFootNe
import Derived.Test.YtkdobeemgbefmaaWAt
import Derived.Test.YtkdobeemgbefmaaWEqStruct
import Derived.Test.YtkdobeemgbefmaaWRepsOne
import Derived.Test.YtkdobeemgbefmaaWInv
import Derived.Test.YtkdobeemgbefmaaWInvWords
import Derived.Test.YtkdobeemgbefmaaWGuard
import Derived.Test.YtkdobeemgbefmaaWNEv
import Derived.Test.YtkdobeemgbefmaaWMore
import Derived.Test.YtkdobeemgbefmaaShelf
import Derived.Shelf.Strings.SlTrimAscii
namespace Go.Proofs.Ytkdobeemgbefmaa.PFnExactFlagOf
open Go.RowKit Go.Proofs.YtkdobeemgbefmaaW.PrintWords Go.Proofs.YtkdobeemgbefmaaW.PrintLast Go.Proofs.YtkdobeemgbefmaaW.PrintMore
attribute [local go_sem] max2_int min2_int max_two min_two max_three min_three max_four min_four   -- for this text's walks alone
set_option linter.unusedVariables false
set_option linter.unusedSimpArgs false



def errW : Option Int → Value
  | none => .nilIface
  | some c => .iface 0 (.int .i64 c)
theorem errW_none : errW none = .nilIface := rfl
theorem errW_some (c : Int) : errW (some c) = .iface 0 (.int .i64 c) := rfl

theorem info5 : (Try.prog.info? 5).map (fun i => (i.zero, i.size, i.bytes)) = some (some (.int .u8 0), 1, 1) := by kernel_rfl
-- the values' own types

end Go.Proofs.Ytkdobeemgbefmaa.PFnExactFlagOf
