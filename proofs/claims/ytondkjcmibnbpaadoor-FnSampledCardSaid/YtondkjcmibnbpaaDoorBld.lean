/-  strings.Builder at this seat's translation: WriteString and String over the kit's contracts, in the words of lists of bytes. My own; no conditions. -/
import Derived.Test.YtondkjcmibnbpaaDoorShelf
import Derived.Test.YtondkjcmibnbpaaDoorWWords
import Derived.Test.YtondkjcmibnbpaaDoorWLast
import Derived.Test.YtondkjcmibnbpaaDoorWMore
namespace Go.Proofs.YtondkjcmibnbpaaDoorW.PrintMore
open Go.RowKit Go.Proofs.YtondkjcmibnbpaaDoorW.PrintWords Go.Proofs.YtondkjcmibnbpaaDoorW.PrintLast
set_option linter.unusedVariables false
set_option linter.unusedSimpArgs false
namespace Bld
theorem lays166 : Lays.n166 Tryd.prog Tryd.lays105_ren := { Tryd.lays105 with }
def Is (b : Nat) (l : List UInt8) (w : World) : Prop := Lib.IsBuilder 71 5 b b (Lib.byteCells l) w
theorem fresh (w : World) : Is w.heap.size [] (w.alloc (.cells #[.pointer none, .slice none 0 0] 71)) := Lib.fresh_isBuilder 71 5 w
theorem str_cells (s : ByteArray) : Lib.strCells s = Lib.byteCells s.data.toList := by
  simp [Lib.strCells, Lib.byteCells]
theorem drawn {b : Nat} {l : List UInt8} {w w' : World} (h : Is b l w) (hd : Drawn0 w w') : Is b l w' := by
  obtain ⟨n, rfl⟩ := hd
  exact h
theorem drawn_below {B : Nat} {w0 w w' : World} (h : Below B w0 w) (hd : Drawn0 w w') : Below B w0 w' := by
  obtain ⟨n, rfl⟩ := hd
  exact pw_below_drewN h n
theorem WriteString (b : Nat) (l : List UInt8) (s : ByteArray) (w : World) (h : Is b l w) (hlen : l.length + s.size ≤ 140737488355328) (hBw : b ≤ w.heap.size) :
    Calls Tryd.prog 95 #[.pointer (some ⟨b, 0, none⟩), .string s] w fun e w' => e = .returned (.tuple #[.int .i64 s.size, .nilIface]) ∧ Is b (l ++ s.data.toList) w' ∧ Below b w w' := by
  refine (Any.Builder_WriteString lays166 Tryd.Builder_Extra_105 b b (Lib.byteCells l) s w h (by rw [Lib.byteCells_length]; exact hlen) hBw).mono ?_
  rintro e w' ⟨rfl, h1, h2⟩
  refine ⟨rfl, ?_, h2⟩
  unfold Is
  rw [Lib.byteCells_append, ← str_cells]
  exact Or.inr h1
--WB{
def ren167 : Go.Shelf.Ren := { Tryd.lays105_ren with f := fun | 167 => 61 | n => Tryd.lays105_ren.f n }
theorem lays167 : Lays.n167 Tryd.prog ren167 := { Tryd.lays105 with f167 := Tryd.func61.trans (congrArg some (by kernel_rfl)) }
set_option maxRecDepth 100000 in
theorem extra167 : Builder.Extra Tryd.prog ren167 := { Tryd.Builder_Extra_105 with }
theorem WriteByte (b : Nat) (l : List UInt8) (c : UInt8) (w : World) (h : Is b l w) (hlen : l.length + 1 ≤ 140737488355328) (hBw : b ≤ w.heap.size) :
    Calls Tryd.prog 61 #[.pointer (some ⟨b, 0, none⟩), .int .u8 c.toNat] w fun e w' => e = .returned .nilIface ∧ Is b (l ++ [c]) w' ∧ Below b w w' := by
  refine (Any.Builder_WriteByte lays167 extra167 b b (Lib.byteCells l) c.toNat w h (by rw [Lib.byteCells_length]; exact hlen) hBw).mono ?_
  rintro e w' ⟨rfl, h1, h2⟩
  refine ⟨rfl, ?_, h2⟩
  unfold Is
  rw [Lib.byteCells_append]
  exact Or.inr h1
--WB}
theorem String (b : Nat) (l : List UInt8) (w : World) (h : Is b l w) (hBw : b ≤ w.heap.size) :
    Calls Tryd.prog 62 #[.pointer (some ⟨b, 0, none⟩)] w fun e w' => e = .returned (.string ⟨l.toArray⟩) ∧ Below b w w' := Tryd.Builder_String_any b b l w h hBw
end Bld
end Go.Proofs.YtondkjcmibnbpaaDoorW.PrintMore
