-- Written by a program of this session (mkprint.py) over the print of the translation. Not trusted: Lean checks it.
import Derived.Test.YtkpobdcnggdjaaaProg
import Derived.Below
import Derived.Deep.Draws
import Derived.Deep.AppendLies
import Derived.Maps.AppendAt
import Derived.OwnWalk
import Derived.Laws.BytesArg
import Derived.Laws.MakeOwn
import Derived.Laws.OwnMore
import Derived.Deep.OwnRows
import Derived.Tactics
import Derived.Lib.ConvBytes
import Derived.Laws.Slices
import Derived.WalkKit
import Derived.KernelRfl
import Derived.RowKit3
import Derived.Deep.LoopGhost
import Derived.Deep.QuietTactic
import Derived.BigQuiet
import Derived.WideLaws
import Derived.Deep.DeepCutAuto
import Derived.Deep.CutBlock
import Derived.Deep.RegionHeld3
import Derived.Laws.Rows
import Derived.Lib.AppendStr
import Derived.ArgAppend
import Derived.Laws.IdiomCopy
import Derived.OrdersHeld
import Derived.Laws.BitsLemmas
import Derived.RowKit
import Derived.Test.YtkpobdcnggdjaaaWWords
import Derived.Test.YtkpobdcnggdjaaaWLast
import Derived.Test.YtkpobdcnggdjaaaWTab
import Derived.Test.YtkpobdcnggdjaaaWFour
import Derived.Test.YtkpobdcnggdjaaaWQPut
import Derived.Test.YtkpobdcnggdjaaaWApart
import Derived.Test.YtkpobdcnggdjaaaWArr
import Derived.Test.YtkpobdcnggdjaaaWZeros
import Derived.Test.YtkpobdcnggdjaaaWFoot
import Derived.Test.YtkpobdcnggdjaaaWKept
import Derived.Test.YtkpobdcnggdjaaaWShare
import Derived.Test.YtkpobdcnggdjaaaWN
import Derived.Test.YtkpobdcnggdjaaaWFootNe
import Derived.Test.YtkpobdcnggdjaaaWAt
import Derived.Test.YtkpobdcnggdjaaaWEqStruct
import Derived.Test.YtkpobdcnggdjaaaWRepsOne
import Derived.Test.YtkpobdcnggdjaaaWInv
import Derived.Test.YtkpobdcnggdjaaaWInvWords
import Derived.Test.YtkpobdcnggdjaaaWGuard
import Derived.Test.YtkpobdcnggdjaaaWNEv
import Derived.Test.YtkpobdcnggdjaaaWMore
import Derived.Test.YtkpobdcnggdjaaaShelf
import Derived.Shelf.Strings.SlTrimAscii
import Derived.Shelf.SlSortCmp.Insertion
import Derived.Sort.LotA
namespace Go.Proofs.Ytkpobdcnggdjaaa.PFnExactCanonicalWords
open Go.RowKit Go.Proofs.YtkpobdcnggdjaaaW.PrintWords Go.Proofs.YtkpobdcnggdjaaaW.PrintLast Go.Proofs.YtkpobdcnggdjaaaW.PrintMore
attribute [local go_sem] max2_int min2_int max_two min_two max_three min_three max_four min_four   -- for this text's walks alone
set_option linter.unusedVariables false
set_option linter.unusedSimpArgs false



def errW : Option Int → Value
  | none => .nilIface
  | some c => .iface 0 (.int .i64 c)
theorem errW_none : errW none = .nilIface := rfl
theorem errW_some (c : Int) : errW (some c) = .iface 0 (.int .i64 c) := rfl

theorem info2 : (Try.prog.info? 2).map (fun i => (i.zero, i.size, i.bytes)) = some (some (.int .i64 0), 1, 8) := by kernel_rfl
theorem info5 : (Try.prog.info? 5).map (fun i => (i.zero, i.size, i.bytes)) = some (some (.int .u8 0), 1, 1) := by kernel_rfl
theorem info9 : (Try.prog.info? 9).map (fun i => (i.zero, i.size, i.bytes)) = some (some (.string ⟨#[]⟩), 1, 16) := by kernel_rfl
-- the values' own types

end Go.Proofs.Ytkpobdcnggdjaaa.PFnExactCanonicalWords
