-- Written by a program of this session (mkprint.py) over the print of the translation. Not trusted: Lean checks it.
import Derived.Test.YtkpobdcnggdjaaaDoorPFnExactDecodeWordsx0
import Derived.Test.YtkpobdcnggdjaaaDoorPFnExactDecodeWordsx2
import Derived.Test.YtkpobdcnggdjaaaDoorPFnExactDecodeWordsx4
namespace Go.Proofs.YtkpobdcnggdjaaaDoor.PFnExactDecodeWords
open Go.RowKit Go.Proofs.YtkpobdcnggdjaaaDoorW.PrintWords Go.Proofs.YtkpobdcnggdjaaaDoorW.PrintLast Go.Proofs.YtkpobdcnggdjaaaDoorW.PrintMore
attribute [local go_sem] max2_int min2_int max_two min_two max_three min_three max_four min_four   -- for this text's walks alone
set_option linter.unusedVariables false
set_option linter.unusedSimpArgs false

/-! ### spec_l05Clash: function 20 -/
mutual
def spec_l05Clash.l0 : Nat → List ByteArray → List (S48) → Int → Option (ByteArray)
  | 0, _, _, _ => none
  | k + 1, x0, x3, x4 => if x4 < (x0.length : Int) then (spec_l05Clash.l1 k x0 x3 x4 0) else (spec_l05Clash.l2 k x0 x3 (([] : List ByteArray)))
def spec_l05Clash.l1 : Nat → List ByteArray → List (S48) → Int → Int → Option (ByteArray)
  | 0, _, _, _, _ => none
  | k + 1, x0, x3, x4, x5 => if x5 < (x0.length : Int) then (if x4 = x5 then (spec_l05Clash.l1 k x0 x3 x4 (wrap64 (x5 + 1))) else (if 0 ≤ x5 then (if 0 ≤ x4 then (if x4 < (x0.length : Int) then ((spec_l01At.f (rdOf ByteArray.empty x0 x5) (rdOf ByteArray.empty x0 x4) 0).bind fun t141 => (if t141 = true then (if 0 ≤ ((rdOf ByteArray.empty x0 x4).size : Int) then (if ((rdOf ByteArray.empty x0 x4).size : Int) ≤ ((rdOf ByteArray.empty x0 x5).size : Int) then ((spec_l05Put.f k x3 ((rdOf ByteArray.empty x0 x5).extract (((rdOf ByteArray.empty x0 x4).size : Int) : Int).toNat (rdOf ByteArray.empty x0 x5).size) (rdOf ByteArray.empty x0 x5)).bind fun t145 => (spec_l05Clash.l1 k x0 t145 x4 (wrap64 (x5 + 1)))) else (none)) else (none)) else (spec_l05Clash.l1 k x0 x3 x4 (wrap64 (x5 + 1))))) else (none)) else (none)) else (none))) else (spec_l05Clash.l0 k x0 x3 (wrap64 (x4 + 1)))
def spec_l05Clash.l2 : Nat → List ByteArray → List (S48) → List ByteArray → Option (ByteArray)
  | 0, _, _, _ => none
  | k + 1, x0, x3, x6 => if (x3.length : Int) > 0 then (spec_l05Clash.l3 k x0 x3 x6 0 1) else (some (⟨#[]⟩ : ByteArray))
def spec_l05Clash.l3 : Nat → List ByteArray → List (S48) → List ByteArray → Int → Int → Option (ByteArray)
  | 0, _, _, _, _, _ => none
  | k + 1, x0, x3, x6, x7, x8 => if x8 < (x3.length : Int) then (if 0 ≤ x8 then (if 0 ≤ x7 then (if x7 < (x3.length : Int) then (if (((rd_T48 x3 x8).f1).size : Int) < (((rd_T48 x3 x7).f1).size : Int) then (spec_l05Clash.l3 k x0 x3 x6 x8 (wrap64 (x8 + 1))) else (if (((rd_T48 x3 x8).f1).size : Int) = (((rd_T48 x3 x7).f1).size : Int) then (if (Op.bytesLess (((rd_T48 x3 x8).f1).toList) (((rd_T48 x3 x7).f1).toList)) = true then (spec_l05Clash.l3 k x0 x3 x6 x8 (wrap64 (x8 + 1))) else (spec_l05Clash.l3 k x0 x3 x6 x7 (wrap64 (x8 + 1)))) else (spec_l05Clash.l3 k x0 x3 x6 x7 (wrap64 (x8 + 1))))) else (none)) else (none)) else (none)) else (if 0 ≤ x7 then (if x7 < (x3.length : Int) then ((some (([] : List (S48)) : List (S48))).bind fun y155 => (if x7 ≤ (x3.length : Int) then ((some (x3.take (x7 : Int).toNat : List (S48))).bind fun y158 => (if y155.length + y158.length < 4398046511104 then ((some (y155 ++ y158 : List (S48))).bind fun y162 => (if 0 ≤ (wrap64 (x7 + 1)) then (if (wrap64 (x7 + 1)) ≤ (x3.length : Int) then ((some (x3.drop ((wrap64 (x7 + 1)) : Int).toNat : List (S48))).bind fun y165 => (if y162.length + y165.length < 4398046511104 then (if ((rd_T48 x3 x7).f0).toList = ([] : List UInt8) then (some ((rd_T48 x3 x7).f1)) else (if x6.length < 8796093022208 then (spec_l05Clash.l4 k x0 (y162 ++ y165) (x6 ++ [(rd_T48 x3 x7).f0]) 0 ((rd_T48 x3 x7).f0) ((rd_T48 x3 x7).f1)) else (none))) else (none))) else (none)) else (none))) else (none))) else (none))) else (none)) else (none))
def spec_l05Clash.l4 : Nat → List ByteArray → List (S48) → List ByteArray → Int → ByteArray → ByteArray → Option (ByteArray)
  | 0, _, _, _, _, _, _ => none
  | k + 1, x0, x3, x6, x13, x155000, x155001 => if x13 < (x0.length : Int) then (if 0 ≤ x13 then ((spec_l01At.f x155000 (rdOf ByteArray.empty x0 x13) 0).bind fun t177 => (if t177 = true then (if 0 ≤ ((rdOf ByteArray.empty x0 x13).size : Int) then (if ((rdOf ByteArray.empty x0 x13).size : Int) ≤ (x155000.size : Int) then (spec_l05Clash.j5 k x0 x3 x6 x13 x155000 x155001 (x155000.extract (((rdOf ByteArray.empty x0 x13).size : Int) : Int).toNat x155000.size) x155001) else (none)) else (none)) else ((spec_l01At.f (rdOf ByteArray.empty x0 x13) x155000 0).bind fun t178 => (if t178 = true then (if 0 ≤ (x155000.size : Int) then (if (x155000.size : Int) ≤ ((rdOf ByteArray.empty x0 x13).size : Int) then (if x155001.size + ((rdOf ByteArray.empty x0 x13).extract ((x155000.size : Int) : Int).toNat (rdOf ByteArray.empty x0 x13).size).size ≤ 9223372036854775807 then (spec_l05Clash.j5 k x0 x3 x6 x13 x155000 x155001 ((rdOf ByteArray.empty x0 x13).extract ((x155000.size : Int) : Int).toNat (rdOf ByteArray.empty x0 x13).size) (x155001 ++ ((rdOf ByteArray.empty x0 x13).extract ((x155000.size : Int) : Int).toNat (rdOf ByteArray.empty x0 x13).size))) else (none)) else (none)) else (none)) else (spec_l05Clash.l4 k x0 x3 x6 (wrap64 (x13 + 1)) x155000 x155001))))) else (none)) else (spec_l05Clash.l2 k x0 x3 x6)
def spec_l05Clash.j5 : Nat → List ByteArray → List (S48) → List ByteArray → Int → ByteArray → ByteArray → ByteArray → ByteArray → Option (ByteArray)
  | 0, _, _, _, _, _, _, _, _ => none
  | k + 1, x0, x3, x6, x13, x155000, x155001, x177000, x177001 => (spec_l03Index.f k x6 x177000).bind fun t179 => (if t179 < 0 then ((spec_l05Put.f k x3 x177000 x177001).bind fun t180 => (spec_l05Clash.l4 k x0 t180 x6 (wrap64 (x13 + 1)) x155000 x155001)) else (spec_l05Clash.l4 k x0 x3 x6 (wrap64 (x13 + 1)) x155000 x155001))
end
def spec_l05Clash.f (k : Nat) (l0 : List ByteArray) : Option (ByteArray) := spec_l05Clash.l0 k l0 (([] : List (S48))) 0
theorem spec_l05Clash.mono_l : ∀ k, (∀ y0 y1 y2, LeO (spec_l05Clash.l0 k y0 y1 y2) (spec_l05Clash.l0 (k + 1) y0 y1 y2)) ∧ (∀ y0 y1 y2 y3, LeO (spec_l05Clash.l1 k y0 y1 y2 y3) (spec_l05Clash.l1 (k + 1) y0 y1 y2 y3)) ∧ (∀ y0 y1 y2, LeO (spec_l05Clash.l2 k y0 y1 y2) (spec_l05Clash.l2 (k + 1) y0 y1 y2)) ∧ (∀ y0 y1 y2 y3 y4, LeO (spec_l05Clash.l3 k y0 y1 y2 y3 y4) (spec_l05Clash.l3 (k + 1) y0 y1 y2 y3 y4)) ∧ (∀ y0 y1 y2 y3 y4 y5, LeO (spec_l05Clash.l4 k y0 y1 y2 y3 y4 y5) (spec_l05Clash.l4 (k + 1) y0 y1 y2 y3 y4 y5)) ∧ (∀ y0 y1 y2 y3 y4 y5 y6 y7, LeO (spec_l05Clash.j5 k y0 y1 y2 y3 y4 y5 y6 y7) (spec_l05Clash.j5 (k + 1) y0 y1 y2 y3 y4 y5 y6 y7))
  | 0 => ⟨fun _ _ _ r h => by simp [spec_l05Clash.l0] at h, fun _ _ _ _ r h => by simp [spec_l05Clash.l1] at h, fun _ _ _ r h => by simp [spec_l05Clash.l2] at h, fun _ _ _ _ _ r h => by simp [spec_l05Clash.l3] at h, fun _ _ _ _ _ _ r h => by simp [spec_l05Clash.l4] at h, fun _ _ _ _ _ _ _ _ r h => by simp [spec_l05Clash.j5] at h⟩
  | k + 1 => by
    obtain ⟨ih0, ih1, ih2, ih3, ih4, ih5⟩ := spec_l05Clash.mono_l k
    refine ⟨?_, ?_, ?_, ?_, ?_, ?_⟩
    · intro y0 y1 y2
      unfold spec_l05Clash.l0
      repeat' first
      | (with_reducible exact ih0 _ _ _)
      | (with_reducible exact ih1 _ _ _ _)
      | (with_reducible exact ih2 _ _ _)
      | (with_reducible exact ih3 _ _ _ _ _)
      | (with_reducible exact ih4 _ _ _ _ _ _)
      | (with_reducible exact ih5 _ _ _ _ _ _ _ _)
      | (with_reducible exact spec_l03Index.mono _ _ _)
      | (with_reducible exact spec_l05Put.mono _ _ _ _)
      | (with_reducible exact LeO.refl _)
      | (with_reducible exact LeO.none _)
      | (with_reducible refine LeO.ite ?_ ?_)
      | (with_reducible refine LeO.bind ?_ (fun _ => ?_))
      | exact ih0 _ _ _
      | exact ih1 _ _ _ _
      | exact ih2 _ _ _
      | exact ih3 _ _ _ _ _
      | exact ih4 _ _ _ _ _ _
      | exact ih5 _ _ _ _ _ _ _ _
      | exact spec_l03Index.mono _ _ _
      | exact spec_l05Put.mono _ _ _ _
      | exact LeO.none _
      | refine LeO.ite ?_ ?_
      | refine LeO.bind ?_ (fun _ => ?_)
    · intro y0 y1 y2 y3
      unfold spec_l05Clash.l1
      repeat' first
      | (with_reducible exact ih0 _ _ _)
      | (with_reducible exact ih1 _ _ _ _)
      | (with_reducible exact ih2 _ _ _)
      | (with_reducible exact ih3 _ _ _ _ _)
      | (with_reducible exact ih4 _ _ _ _ _ _)
      | (with_reducible exact ih5 _ _ _ _ _ _ _ _)
      | (with_reducible exact spec_l03Index.mono _ _ _)
      | (with_reducible exact spec_l05Put.mono _ _ _ _)
      | (with_reducible exact LeO.refl _)
      | (with_reducible exact LeO.none _)
      | (with_reducible refine LeO.ite ?_ ?_)
      | (with_reducible refine LeO.bind ?_ (fun _ => ?_))
      | exact ih0 _ _ _
      | exact ih1 _ _ _ _
      | exact ih2 _ _ _
      | exact ih3 _ _ _ _ _
      | exact ih4 _ _ _ _ _ _
      | exact ih5 _ _ _ _ _ _ _ _
      | exact spec_l03Index.mono _ _ _
      | exact spec_l05Put.mono _ _ _ _
      | exact LeO.none _
      | refine LeO.ite ?_ ?_
      | refine LeO.bind ?_ (fun _ => ?_)
    · intro y0 y1 y2
      unfold spec_l05Clash.l2
      repeat' first
      | (with_reducible exact ih0 _ _ _)
      | (with_reducible exact ih1 _ _ _ _)
      | (with_reducible exact ih2 _ _ _)
      | (with_reducible exact ih3 _ _ _ _ _)
      | (with_reducible exact ih4 _ _ _ _ _ _)
      | (with_reducible exact ih5 _ _ _ _ _ _ _ _)
      | (with_reducible exact spec_l03Index.mono _ _ _)
      | (with_reducible exact spec_l05Put.mono _ _ _ _)
      | (with_reducible exact LeO.refl _)
      | (with_reducible exact LeO.none _)
      | (with_reducible refine LeO.ite ?_ ?_)
      | (with_reducible refine LeO.bind ?_ (fun _ => ?_))
      | exact ih0 _ _ _
      | exact ih1 _ _ _ _
      | exact ih2 _ _ _
      | exact ih3 _ _ _ _ _
      | exact ih4 _ _ _ _ _ _
      | exact ih5 _ _ _ _ _ _ _ _
      | exact spec_l03Index.mono _ _ _
      | exact spec_l05Put.mono _ _ _ _
      | exact LeO.none _
      | refine LeO.ite ?_ ?_
      | refine LeO.bind ?_ (fun _ => ?_)
    · intro y0 y1 y2 y3 y4
      unfold spec_l05Clash.l3
      repeat' first
      | (with_reducible exact ih0 _ _ _)
      | (with_reducible exact ih1 _ _ _ _)
      | (with_reducible exact ih2 _ _ _)
      | (with_reducible exact ih3 _ _ _ _ _)
      | (with_reducible exact ih4 _ _ _ _ _ _)
      | (with_reducible exact ih5 _ _ _ _ _ _ _ _)
      | (with_reducible exact spec_l03Index.mono _ _ _)
      | (with_reducible exact spec_l05Put.mono _ _ _ _)
      | (with_reducible exact LeO.refl _)
      | (with_reducible exact LeO.none _)
      | (with_reducible refine LeO.ite ?_ ?_)
      | (with_reducible refine LeO.bind ?_ (fun _ => ?_))
      | exact ih0 _ _ _
      | exact ih1 _ _ _ _
      | exact ih2 _ _ _
      | exact ih3 _ _ _ _ _
      | exact ih4 _ _ _ _ _ _
      | exact ih5 _ _ _ _ _ _ _ _
      | exact spec_l03Index.mono _ _ _
      | exact spec_l05Put.mono _ _ _ _
      | exact LeO.none _
      | refine LeO.ite ?_ ?_
      | refine LeO.bind ?_ (fun _ => ?_)
    · intro y0 y1 y2 y3 y4 y5
      unfold spec_l05Clash.l4
      repeat' first
      | (with_reducible exact ih0 _ _ _)
      | (with_reducible exact ih1 _ _ _ _)
      | (with_reducible exact ih2 _ _ _)
      | (with_reducible exact ih3 _ _ _ _ _)
      | (with_reducible exact ih4 _ _ _ _ _ _)
      | (with_reducible exact ih5 _ _ _ _ _ _ _ _)
      | (with_reducible exact spec_l03Index.mono _ _ _)
      | (with_reducible exact spec_l05Put.mono _ _ _ _)
      | (with_reducible exact LeO.refl _)
      | (with_reducible exact LeO.none _)
      | (with_reducible refine LeO.ite ?_ ?_)
      | (with_reducible refine LeO.bind ?_ (fun _ => ?_))
      | exact ih0 _ _ _
      | exact ih1 _ _ _ _
      | exact ih2 _ _ _
      | exact ih3 _ _ _ _ _
      | exact ih4 _ _ _ _ _ _
      | exact ih5 _ _ _ _ _ _ _ _
      | exact spec_l03Index.mono _ _ _
      | exact spec_l05Put.mono _ _ _ _
      | exact LeO.none _
      | refine LeO.ite ?_ ?_
      | refine LeO.bind ?_ (fun _ => ?_)
    · intro y0 y1 y2 y3 y4 y5 y6 y7
      unfold spec_l05Clash.j5
      repeat' first
      | (with_reducible exact ih0 _ _ _)
      | (with_reducible exact ih1 _ _ _ _)
      | (with_reducible exact ih2 _ _ _)
      | (with_reducible exact ih3 _ _ _ _ _)
      | (with_reducible exact ih4 _ _ _ _ _ _)
      | (with_reducible exact ih5 _ _ _ _ _ _ _ _)
      | (with_reducible exact spec_l03Index.mono _ _ _)
      | (with_reducible exact spec_l05Put.mono _ _ _ _)
      | (with_reducible exact LeO.refl _)
      | (with_reducible exact LeO.none _)
      | (with_reducible refine LeO.ite ?_ ?_)
      | (with_reducible refine LeO.bind ?_ (fun _ => ?_))
      | exact ih0 _ _ _
      | exact ih1 _ _ _ _
      | exact ih2 _ _ _
      | exact ih3 _ _ _ _ _
      | exact ih4 _ _ _ _ _ _
      | exact ih5 _ _ _ _ _ _ _ _
      | exact spec_l03Index.mono _ _ _
      | exact spec_l05Put.mono _ _ _ _
      | exact LeO.none _
      | refine LeO.ite ?_ ?_
      | refine LeO.bind ?_ (fun _ => ?_)
theorem spec_l05Clash.mono : ∀ a0 k, LeO (spec_l05Clash.f k a0) (spec_l05Clash.f (k + 1) a0) := by
  intro a0 k
  obtain ⟨ih0, ih1, ih2, ih3, ih4, ih5⟩ := spec_l05Clash.mono_l k
  unfold spec_l05Clash.f
  repeat' first
      | (with_reducible exact ih0 _ _ _)
      | (with_reducible exact ih1 _ _ _ _)
      | (with_reducible exact ih2 _ _ _)
      | (with_reducible exact ih3 _ _ _ _ _)
      | (with_reducible exact ih4 _ _ _ _ _ _)
      | (with_reducible exact ih5 _ _ _ _ _ _ _ _)
      | (with_reducible exact spec_l03Index.mono _ _ _)
      | (with_reducible exact spec_l05Put.mono _ _ _ _)
      | (with_reducible exact LeO.refl _)
      | (with_reducible exact LeO.none _)
      | (with_reducible refine LeO.ite ?_ ?_)
      | (with_reducible refine LeO.bind ?_ (fun _ => ?_))
      | exact ih0 _ _ _
      | exact ih1 _ _ _ _
      | exact ih2 _ _ _
      | exact ih3 _ _ _ _ _
      | exact ih4 _ _ _ _ _ _
      | exact ih5 _ _ _ _ _ _ _ _
      | exact spec_l03Index.mono _ _ _
      | exact spec_l05Put.mono _ _ _ _
      | exact LeO.none _
      | refine LeO.ite ?_ ?_
      | refine LeO.bind ?_ (fun _ => ?_)
def spec_l05Clash.T8 : Bool × List (List Nat × List Nat) := (true, [([], []), ([], []), ([0, 1], [0, 1]), ([2], [2]), ([3], [3]), ([3], [3]), ([4, 5, 3], [3, 4, 5]), ([6, 3], [3, 6]), ([3], [3]), ([3], [3]), ([8, 9, 3], [3, 8, 9]), ([10, 3], [3, 10]), ([7, 11, 3, 3], [3, 7, 11]), ([3, 12], [3, 12])])
def spec_l05Clash.B8 : List Nat := [0, 0, 3, 7, 15, 15, 63, 127, 15, 15, 783, 1807, 4095, 8191]
theorem spec_l05Clash.tab8 : rtab .any (opsOf Tryd.f20 8) = spec_l05Clash.T8 := by kernel_rfl
theorem spec_l05Clash.bits8 : waitsOk spec_l05Clash.T8.2 spec_l05Clash.B8 = true := by kernel_rfl
def spec_l05Clash.T9 : Bool × List (List Nat × List Nat) := (true, [([], []), ([], []), ([], []), ([1, 2], [1, 2]), ([3], [3]), ([], []), ([], []), ([5, 6], [5, 6]), ([7], [7]), ([8], [8]), ([4, 9], [4, 9]), ([], []), ([], []), ([11, 12], [11, 12]), ([13], [13]), ([10, 14], [10, 14]), ([0, 15], [0, 15]), ([16, 16, 0, 1, 2, 3, 4, 5, 6, 7, 8, 9, 10, 11, 12, 13, 14, 15, 16], [0, 16])])
def spec_l05Clash.B9 : List Nat := [0, 0, 0, 6, 14, 0, 0, 96, 224, 480, 1022, 0, 0, 6144, 14336, 32766, 65535, 131071]
theorem spec_l05Clash.tab9 : rtab .any (opsOf Tryd.f20 9) = spec_l05Clash.T9 := by kernel_rfl
theorem spec_l05Clash.bits9 : waitsOk spec_l05Clash.T9.2 spec_l05Clash.B9 = true := by kernel_rfl
set_option maxHeartbeats 8000000 in
set_option maxRecDepth 100000 in
theorem spec_l05Clash.calls (k : Nat) (A0 : Option Addr) (c0 : Nat) (l0 : List ByteArray) (r : ByteArray) (w : World) (hr0 : Kd.C Kd.string w A0 l0.length l0) (hc0 : l0.length ≤ c0) (h : spec_l05Clash.f k l0 = some r) :
    Calls Tryd.prog 20 #[.slice A0 l0.length c0] w fun e w' => e = .returned (.string r) ∧ Below w.heap.size w w' := by
  have hu48 := Tryd.underlying48
  have HR0 := Aside0.mk hr0
  have HC0 := Aside0.mk hc0
  clear hr0 hc0
  have HB := Aside0.mk (Below.refl w.heap.size w)
  have H : (spec_l05Clash.l0 k l0 (([] : List (S48))) 0) = some r := h
  clear h
  obtain ⟨y136, hy136⟩ : ∃ y_ : List (S48), y_ = (([] : List (S48))) := ⟨_, rfl⟩
  replace H : (spec_l05Clash.l0 k l0 y136 0) = some r := by first | (rw [hy136]; with_reducible exact H) | (have H2_ := (Option.bind_some _ _).symm.trans H; rw [hy136]; with_reducible exact H2_) | (have H2_ := (Option.bind_some _ _).symm.trans H; with_reducible exact H2_) | with_reducible exact H | (rw [hy136]; exact H) | exact H
  have Ny136 := Aside0.mk hy136
  clear hy136
  have H' := Aside0.mk H
  clear H
  go_enter Tryd.func20, Tryd.ntmps20
  go_wp2_with (first | ((with_reducible refine gate_dst (N := 16) rfl ?_); (try (refine gate_guard (by rfl) ?_; dsimp only)); refine Kd.R_lit k48 _ 48 ?hg (N := 16) ?hd (xs := ([] : List (S48))) (inner := []) (ok := fun _ => True) (okp := fun _ => True) ?hr ?hp (fun _ hk => hk) trivial (Below.refl _ _) (Nat.le_refl _) (by simp) ?_; (case hd => rfl); (case hg => rfl); (case hr => first | (go_simp; done) | (go_simp; rfl)); (case hp => exact (Reps.none _ _)); intro v137 w2 ho3 hb hg_ hnew_; clear hg_ hnew_; (first | rw [← Ny136.out] at ho3 | (simp only [Int.reduceToNat] at ho3; rw [← Ny136.out] at ho3)); have n0_ := Aside0.mk (Kd.R_lower ho3 (below_size (by repeat (first | (with_reducible first | exact HB.out | apply below_alloc | apply pw_below_drewN | apply below_drew1) | exact HB.out)))); have n1_ := Aside0.mk (below_step (by repeat (first | (with_reducible first | exact HB.out | apply below_alloc | apply pw_below_drewN | apply below_drew1) | exact HB.out)) hb); clear HB; have HO138 := n0_; have HB := n1_; clear n0_ n1_; clear hb ho3))
  go_loopg [3, 4] k (fun kq v3 v4 w' => ∃ (x3_1 : List (S48)) (x4_1 : Int), v4 = .int .i64 x4_1 ∧ Aside0 (spec_l05Clash.l0 kq l0 x3_1 x4_1 = some r) ∧ Aside0 (kq ≤ k) ∧ Aside0 (Kd.R k48 48 w' w.heap.size (fun _ => True) v3 x3_1) ∧ Aside0 (Below w.heap.size w w'))
  case atStart => exact ⟨(y136), (0), (by first | rfl | (simp; done) | (simp [*]; done)), H', ⟨Nat.le_refl _⟩, ⟨by (with_reducible repeat (first | apply Kd.R_alloc | apply Kd.R_drewN | apply Kd.R_drew)); exact HO138.out⟩, ⟨by repeat (first | (with_reducible first | exact HB.out | apply below_alloc | apply pw_below_drewN | apply below_drew1) | exact HB.out)⟩⟩
  case round =>
    clear H'
    try clear c2
    try clear p2
    obtain ⟨x3_1, x4_1, rfl, HA, HK1, HO_3, HB⟩ := hrel
    cases gk with
    | zero => exact absurd HA.out (by simp [spec_l05Clash.l0])
    | succ k1 =>
      have H := HA.out
      clear HA
      simp only [spec_l05Clash.l0] at H
      by_cases c4 : x4_1 < (l0.length : Int)
      · rw [if_pos c4] at H
        have c4b0 : decide (x4_1 < (l0.length : Int)) = true := decide_eq_true c4
        clear c4
        have H' := Aside0.mk H
        clear H
        go_wp2
        go_loopg [3, 5] k1 (fun kq v3 v5 w' => ∃ (x3_2 : List (S48)) (x5_2 : Int), v5 = .int .i64 x5_2 ∧ Aside0 (spec_l05Clash.l1 kq l0 x3_2 x4_1 x5_2 = some r) ∧ Aside0 (kq ≤ k1) ∧ Aside0 (Kd.R k48 48 w' w.heap.size (fun _ => True) v3 x3_2) ∧ Aside0 (Below w.heap.size w w'))
        case atStart => exact ⟨(x3_1), (0), (by first | rfl | (simp; done) | (simp [*]; done)), H', ⟨Nat.le_refl _⟩, ⟨by (with_reducible repeat (first | apply Kd.R_alloc | apply Kd.R_drewN | apply Kd.R_drew)); exact HO_3.out⟩, ⟨by repeat (first | (with_reducible first | exact HB.out | apply below_alloc | apply pw_below_drewN | apply below_drew1) | exact HB.out)⟩⟩
        case round =>
          clear H'
          try clear c2
          try clear p2
          try clear c4
          try clear c4b0
          try clear p2
          obtain ⟨x3_2, x5_2, rfl, HA, HK2, HO_3, HB⟩ := hrel
          cases gk with
          | zero => exact absurd HA.out (by simp [spec_l05Clash.l1])
          | succ k2 =>
            have H := HA.out
            clear HA
            simp only [spec_l05Clash.l1] at H
            by_cases c5 : x5_2 < (l0.length : Int)
            · rw [if_pos c5] at H
              have c5b0 : decide (x5_2 < (l0.length : Int)) = true := decide_eq_true c5
              clear c5
              by_cases c6 : x4_1 = x5_2
              · rw [if_pos c6] at H
                have c6b0 : (x4_1 == x5_2) = true := beq_iff_eq.mpr c6
                have c6b1 : (x4_1 != x5_2) = false := bne_eq_false_iff_eq.mpr c6
                clear c6
                have H' := Aside0.mk H
                clear H
                try go_wp2
                have n0_ := Aside0.mk (Kd.R_drew HO_3.out)
                have n1_ := Aside0.mk (below_drew1 HB.out)
                clear HO_3
                clear HB
                have HO_3 := n0_
                have HB := n1_
                clear n0_ n1_
                refine start_ (n := 14) (S := fun w' => True) (ds := []) #[false, false, false, false, false, false, false, false, false, false, false, false, false, false] (by kernel_rfl) rfl rfl trivial (fun hHeld => ?_); refine with_tabW spec_l05Clash.tab8 spec_l05Clash.bits8 (fun HT_ HW_ => ?_)
                generalize wr.drew = w7 at HO_3 HB hHeld ⊢
                refine pure_ (i := 0) (N := some 29) (v := ?_) (a' := ?_) #[true, false, false, false, false, false, false, false, false, false, false, false, false, false] rfl rfl (any_of HT_.out (by kernel_rfl)) (fun _ _ _ h => h) (Or.inl ⟨by rfl, ?_⟩) ?_ ?_
                rotate_left
                · intro w'
                  go_simp
                  with_reducible rfl
                rotate_left
                · simp only [Act.put, List.setIfInBounds_toArray, List.set_cons_zero, List.set_cons_succ, i64_w, i32_w]
                  rfl
                refine pure_ (i := 1) (N := some 30) (v := ?_) (a' := ?_) #[true, true, false, false, false, false, false, false, false, false, false, false, false, false] rfl rfl (any_of HT_.out (by kernel_rfl)) (fun _ _ _ h => h) (Or.inl ⟨by rfl, ?_⟩) ?_ ?_
                rotate_left
                · intro w'
                  go_simp
                  with_reducible rfl
                rotate_left
                · simp only [Act.put, List.setIfInBounds_toArray, List.set_cons_zero, List.set_cons_succ, i64_w, i32_w]
                  rfl
                refine pure_ (i := 2) (N := some 31) (v := ?_) (a' := ?_) #[true, true, true, false, false, false, false, false, false, false, false, false, false, false] rfl rfl (any_of HT_.out (by kernel_rfl)) (fun _ _ _ h => h) (Or.inl ⟨by rfl, ?_⟩) ?_ ?_
                rotate_left
                · intro w'
                  go_simp
                  with_reducible rfl
                rotate_left
                · simp only [Act.put, List.setIfInBounds_toArray, List.set_cons_zero, List.set_cons_succ, i64_w, i32_w]
                  rfl
                refine pure_ (i := 3) (N := some 32) (v := ?_) (a' := ?_) #[true, true, true, true, false, false, false, false, false, false, false, false, false, false] rfl rfl (any_of HT_.out (by kernel_rfl)) (fun _ _ _ h => h) (Or.inl ⟨by rfl, ?_⟩) ?_ ?_
                rotate_left
                · intro w'
                  go_simp
                  with_reducible rfl
                rotate_left
                · simp only [Act.put, List.setIfInBounds_toArray, List.set_cons_zero, List.set_cons_succ, i64_w, i32_w]
                  rfl
                refine pure_ (i := 4) (N := some 33) (v := undef) (a' := ?_) #[true, true, true, true, true, false, false, false, false, false, false, false, false, false] rfl rfl (any_of HT_.out (by kernel_rfl)) (fun _ _ _ h => h) (Or.inr ⟨by rfl, rfl⟩) ?_ ?_
                rotate_left
                · simp only [Act.put, List.setIfInBounds_toArray, List.set_cons_zero, List.set_cons_succ, i64_w, i32_w]
                  rfl
                refine pure_ (i := 5) (N := some 34) (v := undef) (a' := ?_) #[true, true, true, true, true, true, false, false, false, false, false, false, false, false] rfl rfl (any_of HT_.out (by kernel_rfl)) (fun _ _ _ h => h) (Or.inr ⟨by rfl, rfl⟩) ?_ ?_
                rotate_left
                · simp only [Act.put, List.setIfInBounds_toArray, List.set_cons_zero, List.set_cons_succ, i64_w, i32_w]
                  rfl
                refine pure_ (i := 6) (N := some 35) (v := undef) (a' := ?_) #[true, true, true, true, true, true, true, false, false, false, false, false, false, false] rfl rfl (any_of HT_.out (by kernel_rfl)) (fun _ _ _ h => h) (Or.inr ⟨by rfl, rfl⟩) ?_ ?_
                rotate_left
                · simp only [Act.put, List.setIfInBounds_toArray, List.set_cons_zero, List.set_cons_succ, i64_w, i32_w]
                  rfl
                refine pure_ (i := 7) (N := some 36) (v := undef) (a' := ?_) #[true, true, true, true, true, true, true, true, false, false, false, false, false, false] rfl rfl (any_of HT_.out (by kernel_rfl)) (fun _ _ _ h => h) (Or.inr ⟨by rfl, rfl⟩) ?_ ?_
                rotate_left
                · simp only [Act.put, List.setIfInBounds_toArray, List.set_cons_zero, List.set_cons_succ, i64_w, i32_w]
                  rfl
                refine pure_ (i := 8) (N := some 37) (v := undef) (a' := ?_) #[true, true, true, true, true, true, true, true, true, false, false, false, false, false] rfl rfl (any_of HT_.out (by kernel_rfl)) (fun _ _ _ h => h) (Or.inr ⟨by rfl, rfl⟩) ?_ ?_
                rotate_left
                · simp only [Act.put, List.setIfInBounds_toArray, List.set_cons_zero, List.set_cons_succ, i64_w, i32_w]
                  rfl
                refine pure_ (i := 9) (N := some 38) (v := undef) (a' := ?_) #[true, true, true, true, true, true, true, true, true, true, false, false, false, false] rfl rfl (any_of HT_.out (by kernel_rfl)) (fun _ _ _ h => h) (Or.inr ⟨by rfl, rfl⟩) ?_ ?_
                rotate_left
                · simp only [Act.put, List.setIfInBounds_toArray, List.set_cons_zero, List.set_cons_succ, i64_w, i32_w]
                  rfl
                refine pure_ (i := 10) (N := some 39) (v := undef) (a' := ?_) #[true, true, true, true, true, true, true, true, true, true, true, false, false, false] rfl rfl (any_of HT_.out (by kernel_rfl)) (fun _ _ _ h => h) (Or.inr ⟨by rfl, rfl⟩) ?_ ?_
                rotate_left
                · simp only [Act.put, List.setIfInBounds_toArray, List.set_cons_zero, List.set_cons_succ, i64_w, i32_w]
                  rfl
                refine pure_ (i := 11) (N := some 40) (v := undef) (a' := ?_) #[true, true, true, true, true, true, true, true, true, true, true, true, false, false] rfl rfl (any_of HT_.out (by kernel_rfl)) (fun _ _ _ h => h) (Or.inr ⟨by rfl, rfl⟩) ?_ ?_
                rotate_left
                · simp only [Act.put, List.setIfInBounds_toArray, List.set_cons_zero, List.set_cons_succ, i64_w, i32_w]
                  rfl
                refine pure_ (i := 12) (N := some 41) (v := undef) (a' := ?_) #[true, true, true, true, true, true, true, true, true, true, true, true, true, false] rfl rfl (any_of HT_.out (by kernel_rfl)) (fun _ _ _ h => h) (Or.inr ⟨by rfl, rfl⟩) ?_ ?_
                rotate_left
                · simp only [Act.put, List.setIfInBounds_toArray, List.set_cons_zero, List.set_cons_succ, i64_w, i32_w]
                  rfl
                refine pure_ (i := 13) (N := some 42) (v := ?_) (a' := ?_) #[true, true, true, true, true, true, true, true, true, true, true, true, true, true] rfl rfl (any_of HT_.out (by kernel_rfl)) (fun _ _ _ h => h) (Or.inl ⟨by rfl, ?_⟩) ?_ ?_
                rotate_left
                · intro w'
                  go_simp
                  with_reducible rfl
                rotate_left
                · simp only [Act.put, List.setIfInBounds_toArray, List.set_cons_zero, List.set_cons_succ, i64_w, i32_w]
                  rfl
                refine done_ (done_of HT_.out (by kernel_rfl)) ?_
                try go_wp2
                go_roundg k2
                case measure => have := HK1.out; have := HK2.out; omega
                case rel => exact ⟨(x3_2), (wrap64 (x5_2 + 1)), (by first | rfl | (simp; done) | (simp [*]; done)), H', ⟨by have := HK1.out; have := HK2.out; omega⟩, ⟨by (with_reducible repeat (first | apply Kd.R_alloc | apply Kd.R_drewN | apply Kd.R_drew)); exact HO_3.out⟩, ⟨by repeat (first | (with_reducible first | exact HB.out | apply below_alloc | apply pw_below_drewN | apply below_drew1) | exact HB.out)⟩⟩
              · rw [if_neg c6] at H
                have c6b0 : (x4_1 == x5_2) = false := beq_eq_false_iff_ne.mpr c6
                have c6b1 : (x4_1 != x5_2) = true := bne_iff_ne.mpr c6
                by_cases c8 : 0 ≤ x5_2
                · rw [if_pos c8] at H
                  have c8b0 : decide (0 ≤ x5_2) = true := decide_eq_true c8
                  clear c8
                  by_cases c9 : 0 ≤ x4_1
                  · rw [if_pos c9] at H
                    have c9b0 : decide (0 ≤ x4_1) = true := decide_eq_true c9
                    clear c9
                    by_cases c10 : x4_1 < (l0.length : Int)
                    · rw [if_pos c10] at H
                      have c10b0 : decide (x4_1 < (l0.length : Int)) = true := decide_eq_true c10
                      clear c10
                      replace H := Option.bind_eq_some_iff.mp H
                      obtain ⟨t141, A110, H⟩ := H
                      replace H : (if t141 = true then (if 0 ≤ ((rdOf ByteArray.empty l0 x4_1).size : Int) then (if ((rdOf ByteArray.empty l0 x4_1).size : Int) ≤ ((rdOf ByteArray.empty l0 x5_2).size : Int) then ((spec_l05Put.f k2 x3_2 ((rdOf ByteArray.empty l0 x5_2).extract (((rdOf ByteArray.empty l0 x4_1).size : Int) : Int).toNat (rdOf ByteArray.empty l0 x5_2).size) (rdOf ByteArray.empty l0 x5_2)).bind fun t145 => (spec_l05Clash.l1 k2 l0 t145 x4_1 (wrap64 (x5_2 + 1)))) else (none)) else (none)) else (spec_l05Clash.l1 k2 l0 x3_2 x4_1 (wrap64 (x5_2 + 1)))) = some r := H
                      have A11 := Aside0.mk A110
                      clear A110
                      by_cases c12 : t141 = true
                      · subst c12
                        have H1 : (if 0 ≤ ((rdOf ByteArray.empty l0 x4_1).size : Int) then (if ((rdOf ByteArray.empty l0 x4_1).size : Int) ≤ ((rdOf ByteArray.empty l0 x5_2).size : Int) then ((spec_l05Put.f k2 x3_2 ((rdOf ByteArray.empty l0 x5_2).extract (((rdOf ByteArray.empty l0 x4_1).size : Int) : Int).toNat (rdOf ByteArray.empty l0 x5_2).size) (rdOf ByteArray.empty l0 x5_2)).bind fun t145 => (spec_l05Clash.l1 k2 l0 t145 x4_1 (wrap64 (x5_2 + 1)))) else (none)) else (none)) = some r := by rw [if_pos rfl] at H; exact H
                        clear H
                        have H := H1
                        clear H1
                        by_cases c13 : 0 ≤ ((rdOf ByteArray.empty l0 x4_1).size : Int)
                        · rw [if_pos c13] at H
                          have c13b0 := eq_true c13
                          have c13b1 : decide (0 ≤ ((rdOf ByteArray.empty l0 x4_1).size : Int)) = true := decide_eq_true c13
                          clear c13
                          by_cases c14 : ((rdOf ByteArray.empty l0 x4_1).size : Int) ≤ ((rdOf ByteArray.empty l0 x5_2).size : Int)
                          · rw [if_pos c14] at H
                            have c14b0 := eq_true c14
                            have c14b1 : decide (((rdOf ByteArray.empty l0 x4_1).size : Int) ≤ ((rdOf ByteArray.empty l0 x5_2).size : Int)) = true := decide_eq_true c14
                            clear c14
                            replace H := Option.bind_eq_some_iff.mp H
                            obtain ⟨t145, A150, H⟩ := H
                            replace H : (spec_l05Clash.l1 k2 l0 t145 x4_1 (wrap64 (x5_2 + 1))) = some r := H
                            have A15 := Aside0.mk A150
                            clear A150
                            have H' := Aside0.mk H
                            clear H
                            try go_wp2
                            have n0_ := Aside0.mk (Kd.R_drew HO_3.out)
                            have n1_ := Aside0.mk (below_drew1 HB.out)
                            clear HO_3
                            clear HB
                            have HO_3 := n0_
                            have HB := n1_
                            clear n0_ n1_
                            have p139 : 0 ≤ (x5_2 : Int) := of_decide_eq_true (by first | (with_reducible assumption) | assumption)
                            have q139 : x5_2 < (l0.length : Int) := of_decide_eq_true (by first | (with_reducible assumption) | assumption)
                            obtain ⟨ad139, e139, hx139_0⟩ := Kd.at_string HR0.out x5_2 p139 q139
                            have hw139_0 := hx139_0
                            cases e139
                            replace hx139_0 := (HB.out.cell (World.block_lt_of_cell? w _ hx139_0)).trans hx139_0
                            replace p139 := eq_true p139
                            replace q139 := eq_true q139
                            have p140 : 0 ≤ (x4_1 : Int) := of_decide_eq_true (by first | (with_reducible assumption) | assumption)
                            have q140 : x4_1 < (l0.length : Int) := of_decide_eq_true (by first | (with_reducible assumption) | assumption)
                            obtain ⟨ad140, e140, hx140_0⟩ := Kd.at_string HR0.out x4_1 p140 q140
                            have hw140_0 := hx140_0
                            obtain rfl : ad139 = ad140 := (by injection e140)
                            replace hx140_0 := (HB.out.cell (World.block_lt_of_cell? w _ hx140_0)).trans hx140_0
                            replace p140 := eq_true p140
                            replace q140 := eq_true q140
                            refine start_ (n := 14) (S := fun w' => w'.cell? (ad139.add (x5_2).toNat) = some (.string (rdOf ByteArray.empty l0 x5_2)) ∧ w'.cell? (ad139.add (x4_1).toNat) = some (.string (rdOf ByteArray.empty l0 x4_1))) (ds := []) #[false, false, false, false, false, false, false, false, false, false, false, false, false, false] (by kernel_rfl) rfl rfl ⟨((HB.out.cell (World.block_lt_of_cell? w _ hw139_0)).trans hw139_0), ((HB.out.cell (World.block_lt_of_cell? w _ hw140_0)).trans hw140_0)⟩ (fun hHeld => ?_); refine with_tabW spec_l05Clash.tab8 spec_l05Clash.bits8 (fun HT_ HW_ => ?_)
                            generalize wr.drew = w16 at HO_3 HB hx139_0 hx140_0 hHeld ⊢
                            refine pure_ (i := 0) (N := some 29) (v := ?_) (a' := ?_) #[true, false, false, false, false, false, false, false, false, false, false, false, false, false] rfl rfl (any_of HT_.out (by kernel_rfl)) (fun _ _ _ h => h) (Or.inl ⟨by rfl, ?_⟩) ?_ ?_
                            rotate_left
                            · intro w'
                              go_simp
                              with_reducible rfl
                            rotate_left
                            · simp only [Act.put, List.setIfInBounds_toArray, List.set_cons_zero, List.set_cons_succ, i64_w, i32_w]
                              rfl
                            refine pure_ (i := 1) (N := some 30) (v := ?_) (a' := ?_) #[true, true, false, false, false, false, false, false, false, false, false, false, false, false] rfl rfl (any_of HT_.out (by kernel_rfl)) (fun _ _ _ h => h) (Or.inl ⟨by rfl, ?_⟩) ?_ ?_
                            rotate_left
                            · intro w'
                              go_simp
                              with_reducible rfl
                            rotate_left
                            · simp only [Act.put, List.setIfInBounds_toArray, List.set_cons_zero, List.set_cons_succ, i64_w, i32_w]
                              rfl
                            refine pure_ (i := 2) (N := some 31) (v := ?_) (a' := ?_) #[true, true, true, false, false, false, false, false, false, false, false, false, false, false] rfl rfl (any_of HT_.out (by kernel_rfl)) (fun _ _ _ h => h) (Or.inl ⟨by rfl, ?_⟩) ?_ ?_
                            rotate_left
                            · intro w'
                              go_simp
                              with_reducible rfl
                            rotate_left
                            · simp only [Act.put, List.setIfInBounds_toArray, List.set_cons_zero, List.set_cons_succ, i64_w, i32_w]
                              rfl
                            refine pure_ (i := 3) (N := some 32) (v := ?_) (a' := ?_) #[true, true, true, true, false, false, false, false, false, false, false, false, false, false] rfl rfl (any_of HT_.out (by kernel_rfl)) (fun _ _ _ h => h) (Or.inl ⟨by rfl, ?_⟩) ?_ ?_
                            rotate_left
                            · intro w'
                              go_simp
                              with_reducible rfl
                            rotate_left
                            · simp only [Act.put, List.setIfInBounds_toArray, List.set_cons_zero, List.set_cons_succ, i64_w, i32_w]
                              rfl
                            refine pure_ (i := 4) (N := some 33) (v := ?_) (a' := ?_) #[true, true, true, true, true, false, false, false, false, false, false, false, false, false] rfl rfl (any_of HT_.out (by kernel_rfl)) (fun _ _ _ h => h) (Or.inl ⟨by rfl, ?_⟩) ?_ ?_
                            rotate_left
                            · intro w'
                              go_simp
                              with_reducible rfl
                            rotate_left
                            · simp only [Act.put, List.setIfInBounds_toArray, List.set_cons_zero, List.set_cons_succ, i64_w, i32_w]
                              rfl
                            refine pure_ (i := 5) (N := some 34) (v := ?_) (a' := ?_) #[true, true, true, true, true, true, false, false, false, false, false, false, false, false] rfl rfl (any_of HT_.out (by kernel_rfl)) (fun _ _ _ h => h) (Or.inl ⟨by rfl, ?_⟩) ?_ ?_
                            rotate_left
                            · intro w'
                              go_simp
                              with_reducible rfl
                            rotate_left
                            · simp only [Act.put, List.setIfInBounds_toArray, List.set_cons_zero, List.set_cons_succ, i64_w, i32_w]
                              rfl
                            refine pure_ (i := 6) (N := some 35) (v := ?_) (a' := ?_) #[true, true, true, true, true, true, true, false, false, false, false, false, false, false] rfl rfl (any_of HT_.out (by kernel_rfl)) (fun _ _ _ h => h) (Or.inl ⟨by rfl, ?_⟩) ?_ ?_
                            rotate_left
                            · intro w'
                              go_simp
                              with_reducible rfl
                            rotate_left
                            · simp only [Act.put, List.setIfInBounds_toArray, List.set_cons_zero, List.set_cons_succ, i64_w, i32_w]
                              rfl
                            refine pure_ (i := 8) (N := some 37) (v := ?_) (a' := ?_) #[true, true, true, true, true, true, true, false, true, false, false, false, false, false] rfl rfl (any_of HT_.out (by kernel_rfl)) (fun _ _ _ h => h) (Or.inl ⟨by rfl, ?_⟩) ?_ ?_
                            rotate_left
                            · intro w'
                              go_simp
                              with_reducible rfl
                            rotate_left
                            · simp only [Act.put, List.setIfInBounds_toArray, List.set_cons_zero, List.set_cons_succ, i64_w, i32_w]
                              rfl
                            refine pure_ (i := 9) (N := some 38) (v := ?_) (a' := ?_) #[true, true, true, true, true, true, true, false, true, true, false, false, false, false] rfl rfl (any_of HT_.out (by kernel_rfl)) (fun _ _ _ h => h) (Or.inl ⟨by rfl, ?_⟩) ?_ ?_
                            rotate_left
                            · intro w'
                              go_simp
                              with_reducible rfl
                            rotate_left
                            · simp only [Act.put, List.setIfInBounds_toArray, List.set_cons_zero, List.set_cons_succ, i64_w, i32_w]
                              rfl
                            refine pure_ (i := 10) (N := some 39) (v := ?_) (a' := ?_) #[true, true, true, true, true, true, true, false, true, true, true, false, false, false] rfl rfl (any_of HT_.out (by kernel_rfl)) (fun _ _ _ h => h) (Or.inl ⟨by rfl, ?_⟩) ?_ ?_
                            rotate_left
                            · intro w'
                              go_simp
                              with_reducible rfl
                            rotate_left
                            · simp only [Act.put, List.setIfInBounds_toArray, List.set_cons_zero, List.set_cons_succ, i64_w, i32_w]
                              rfl
                            refine take_ (i := 7) (N := some 36) (v := ?_) (a' := ?_) #[true, true, true, true, true, true, true, true, true, true, true, false, false, false] rfl rfl (take_ofW HT_.out HW_.out (by kernel_rfl)) (fun _ _ _ h => h) (Or.inl ⟨by rfl, ?_⟩) hHeld ?_ ?_
                            rotate_left
                            · rintro w' ⟨s0, s1⟩
                              go_simp
                              with_reducible rfl
                            rotate_left
                            · simp only [Act.put, List.setIfInBounds_toArray, List.set_cons_zero, List.set_cons_succ, i64_w, i32_w]
                              rfl
                            refine take_ (i := 11) (N := some 40) (v := ?_) (a' := ?_) #[true, true, true, true, true, true, true, true, true, true, true, true, false, false] rfl rfl (take_ofW HT_.out HW_.out (by kernel_rfl)) (fun _ _ _ h => h) (Or.inl ⟨by rfl, ?_⟩) hHeld ?_ ?_
                            rotate_left
                            · rintro w' ⟨s0, s1⟩
                              go_simp
                              with_reducible rfl
                            rotate_left
                            · simp only [Act.put, List.setIfInBounds_toArray, List.set_cons_zero, List.set_cons_succ, i64_w, i32_w]
                              rfl
                            refine one_ (i := 12) (N := some 41) #[true, true, true, true, true, true, true, true, true, true, true, true, true, false] rfl rfl (one_of HT_.out (by kernel_rfl)) (by decide) (fun K hK => ?_)
                            refine goes_ Tryd.func31 (by kernel_rfl) rfl #[.string (rdOf ByteArray.empty l0 x5_2), .string (rdOf ByteArray.empty l0 x4_1), .int .i64 0] (by rfl) rfl rfl (by (try simp only [List.map_toArray, List.map_cons, List.map_nil]); first | done | rfl | (simp only [List.length_drop, List.length_take]; rfl)) ?_
                            with_reducible refine (spec_l01At.calls (rdOf ByteArray.empty l0 x5_2) (rdOf ByteArray.empty l0 x4_1) 0 true _ A11.out).mono ?_
                            rintro e w' ⟨rfl, ⟨nd, rfl⟩⟩
                            refine ⟨_, rfl, ?_⟩
                            refine hK.out _ _ ⟨((HB.out.cell (World.block_lt_of_cell? w _ hw139_0)).trans hw139_0), ((HB.out.cell (World.block_lt_of_cell? w _ hw140_0)).trans hw140_0)⟩ (fun hHeld => ?_)
                            clear hK K
                            refine norm_ (a' := ?_) ?_ ?_
                            rotate_left
                            · show Act.put _ (some 41) _ = _
                              simp only [Act.put, List.setIfInBounds_toArray, List.set_cons_zero, List.set_cons_succ, i64_w, i32_w]
                              rfl
                            refine pure_ (i := 13) (N := some 42) (v := ?_) (a' := ?_) #[true, true, true, true, true, true, true, true, true, true, true, true, true, true] rfl rfl (any_of HT_.out (by kernel_rfl)) (fun _ _ _ h => h) (Or.inl ⟨by rfl, ?_⟩) ?_ ?_
                            rotate_left
                            · intro w'
                              go_simp
                              with_reducible rfl
                            rotate_left
                            · simp only [Act.put, List.setIfInBounds_toArray, List.set_cons_zero, List.set_cons_succ, i64_w, i32_w]
                              rfl
                            refine done_ (done_of HT_.out (by kernel_rfl)) ?_
                            try go_wp2
                            (try (rw [drewN_self w16]; generalize hq_ : World.drewN w16 _ = w16; have n0_ : Aside0 (Kd.R k48 48 w16 w.heap.size (fun _ => True) u3 x3_2) := ⟨by rw [← hq_]; exact (by (with_reducible repeat (first | apply Kd.R_alloc | apply Kd.R_drewN | apply Kd.R_drew)); exact HO_3.out)⟩; have n1_ : Aside0 (Below w.heap.size w w16) := ⟨by rw [← hq_]; exact (by repeat (first | (with_reducible first | exact HB.out | apply below_alloc | apply pw_below_drewN | apply below_drew1) | exact HB.out))⟩; clear HO_3 HB hq_; have HO_3 := n0_; have HB := n1_; clear n0_ n1_))
                            have n0_ := Aside0.mk (Kd.R_drew HO_3.out)
                            have n1_ := Aside0.mk (below_drew1 HB.out)
                            clear HO_3
                            clear HB
                            have HO_3 := n0_
                            have HB := n1_
                            clear n0_ n1_
                            have p142 : 0 ≤ (x5_2 : Int) := of_decide_eq_true (by first | (with_reducible assumption) | assumption)
                            have q142 : x5_2 < (l0.length : Int) := of_decide_eq_true (by first | (with_reducible assumption) | assumption)
                            obtain ⟨ad142, e142, hx142_0⟩ := Kd.at_string HR0.out x5_2 p142 q142
                            have hw142_0 := hx142_0
                            obtain rfl : ad139 = ad142 := (by injection e142)
                            replace hx142_0 := (HB.out.cell (World.block_lt_of_cell? w _ hx142_0)).trans hx142_0
                            replace p142 := eq_true p142
                            replace q142 := eq_true q142
                            have p143 : 0 ≤ (x4_1 : Int) := of_decide_eq_true (by first | (with_reducible assumption) | assumption)
                            have q143 : x4_1 < (l0.length : Int) := of_decide_eq_true (by first | (with_reducible assumption) | assumption)
                            obtain ⟨ad143, e143, hx143_0⟩ := Kd.at_string HR0.out x4_1 p143 q143
                            have hw143_0 := hx143_0
                            obtain rfl : ad139 = ad143 := (by injection e143)
                            replace hx143_0 := (HB.out.cell (World.block_lt_of_cell? w _ hx143_0)).trans hx143_0
                            replace p143 := eq_true p143
                            replace q143 := eq_true q143
                            have p144 : 0 ≤ (x5_2 : Int) := of_decide_eq_true (by first | (with_reducible assumption) | assumption)
                            have q144 : x5_2 < (l0.length : Int) := of_decide_eq_true (by first | (with_reducible assumption) | assumption)
                            obtain ⟨ad144, e144, hx144_0⟩ := Kd.at_string HR0.out x5_2 p144 q144
                            have hw144_0 := hx144_0
                            obtain rfl : ad139 = ad144 := (by injection e144)
                            replace hx144_0 := (HB.out.cell (World.block_lt_of_cell? w _ hx144_0)).trans hx144_0
                            replace p144 := eq_true p144
                            replace q144 := eq_true q144
                            obtain ⟨Ao18, co18, eo18⟩ := Kd.R_slice HO_3.out
                            (first | subst eo18 | (injection eo18 with f1_ f2_ f3_; have f4_ := f1_.symm; have f5_ := f3_.symm; clear f1_ f2_ f3_; subst f4_; subst f5_))
                            refine start_ (n := 18) (S := fun w' => w'.cell? (ad139.add (x5_2).toNat) = some (.string (rdOf ByteArray.empty l0 x5_2)) ∧ w'.cell? (ad139.add (x4_1).toNat) = some (.string (rdOf ByteArray.empty l0 x4_1)) ∧ w'.cell? (ad139.add (x5_2).toNat) = some (.string (rdOf ByteArray.empty l0 x5_2))) (ds := []) #[false, false, false, false, false, false, false, false, false, false, false, false, false, false, false, false, false, false] (by kernel_rfl) rfl rfl ⟨((HB.out.cell (World.block_lt_of_cell? w _ hw142_0)).trans hw142_0), ((HB.out.cell (World.block_lt_of_cell? w _ hw143_0)).trans hw143_0), ((HB.out.cell (World.block_lt_of_cell? w _ hw144_0)).trans hw144_0)⟩ (fun hHeld => ?_); refine with_tabW spec_l05Clash.tab9 spec_l05Clash.bits9 (fun HT_ HW_ => ?_)
                            generalize w16.drew = w17 at HO_3 HB hx142_0 hx143_0 hx144_0 hHeld ⊢
                            refine pure_ (i := 0) (N := some 43) (v := ?_) (a' := ?_) #[true, false, false, false, false, false, false, false, false, false, false, false, false, false, false, false, false, false] rfl rfl (any_of HT_.out (by kernel_rfl)) (fun _ _ _ h => h) (Or.inl ⟨by rfl, ?_⟩) ?_ ?_
                            rotate_left
                            · intro w'
                              go_simp
                              with_reducible rfl
                            rotate_left
                            · simp only [Act.put, List.setIfInBounds_toArray, List.set_cons_zero, List.set_cons_succ, i64_w, i32_w]
                              rfl
                            refine pure_ (i := 1) (N := some 44) (v := ?_) (a' := ?_) #[true, true, false, false, false, false, false, false, false, false, false, false, false, false, false, false, false, false] rfl rfl (any_of HT_.out (by kernel_rfl)) (fun _ _ _ h => h) (Or.inl ⟨by rfl, ?_⟩) ?_ ?_
                            rotate_left
                            · intro w'
                              go_simp
                              with_reducible rfl
                            rotate_left
                            · simp only [Act.put, List.setIfInBounds_toArray, List.set_cons_zero, List.set_cons_succ, i64_w, i32_w]
                              rfl
                            refine pure_ (i := 2) (N := some 45) (v := ?_) (a' := ?_) #[true, true, true, false, false, false, false, false, false, false, false, false, false, false, false, false, false, false] rfl rfl (any_of HT_.out (by kernel_rfl)) (fun _ _ _ h => h) (Or.inl ⟨by rfl, ?_⟩) ?_ ?_
                            rotate_left
                            · intro w'
                              go_simp
                              with_reducible rfl
                            rotate_left
                            · simp only [Act.put, List.setIfInBounds_toArray, List.set_cons_zero, List.set_cons_succ, i64_w, i32_w]
                              rfl
                            refine pure_ (i := 3) (N := some 46) (v := ?_) (a' := ?_) #[true, true, true, true, false, false, false, false, false, false, false, false, false, false, false, false, false, false] rfl rfl (any_of HT_.out (by kernel_rfl)) (fun _ _ _ h => h) (Or.inl ⟨by rfl, ?_⟩) ?_ ?_
                            rotate_left
                            · intro w'
                              go_simp
                              with_reducible rfl
                            rotate_left
                            · simp only [Act.put, List.setIfInBounds_toArray, List.set_cons_zero, List.set_cons_succ, i64_w, i32_w]
                              rfl
                            refine pure_ (i := 5) (N := some 48) (v := ?_) (a' := ?_) #[true, true, true, true, false, true, false, false, false, false, false, false, false, false, false, false, false, false] rfl rfl (any_of HT_.out (by kernel_rfl)) (fun _ _ _ h => h) (Or.inl ⟨by rfl, ?_⟩) ?_ ?_
                            rotate_left
                            · intro w'
                              go_simp
                              with_reducible rfl
                            rotate_left
                            · simp only [Act.put, List.setIfInBounds_toArray, List.set_cons_zero, List.set_cons_succ, i64_w, i32_w]
                              rfl
                            refine pure_ (i := 6) (N := some 49) (v := ?_) (a' := ?_) #[true, true, true, true, false, true, true, false, false, false, false, false, false, false, false, false, false, false] rfl rfl (any_of HT_.out (by kernel_rfl)) (fun _ _ _ h => h) (Or.inl ⟨by rfl, ?_⟩) ?_ ?_
                            rotate_left
                            · intro w'
                              go_simp
                              with_reducible rfl
                            rotate_left
                            · simp only [Act.put, List.setIfInBounds_toArray, List.set_cons_zero, List.set_cons_succ, i64_w, i32_w]
                              rfl
                            refine pure_ (i := 7) (N := some 50) (v := ?_) (a' := ?_) #[true, true, true, true, false, true, true, true, false, false, false, false, false, false, false, false, false, false] rfl rfl (any_of HT_.out (by kernel_rfl)) (fun _ _ _ h => h) (Or.inl ⟨by rfl, ?_⟩) ?_ ?_
                            rotate_left
                            · intro w'
                              go_simp
                              with_reducible rfl
                            rotate_left
                            · simp only [Act.put, List.setIfInBounds_toArray, List.set_cons_zero, List.set_cons_succ, i64_w, i32_w]
                              rfl
                            refine pure_ (i := 11) (N := some 54) (v := ?_) (a' := ?_) #[true, true, true, true, false, true, true, true, false, false, false, true, false, false, false, false, false, false] rfl rfl (any_of HT_.out (by kernel_rfl)) (fun _ _ _ h => h) (Or.inl ⟨by rfl, ?_⟩) ?_ ?_
                            rotate_left
                            · intro w'
                              go_simp
                              with_reducible rfl
                            rotate_left
                            · simp only [Act.put, List.setIfInBounds_toArray, List.set_cons_zero, List.set_cons_succ, i64_w, i32_w]
                              rfl
                            refine pure_ (i := 12) (N := some 55) (v := ?_) (a' := ?_) #[true, true, true, true, false, true, true, true, false, false, false, true, true, false, false, false, false, false] rfl rfl (any_of HT_.out (by kernel_rfl)) (fun _ _ _ h => h) (Or.inl ⟨by rfl, ?_⟩) ?_ ?_
                            rotate_left
                            · intro w'
                              go_simp
                              with_reducible rfl
                            rotate_left
                            · simp only [Act.put, List.setIfInBounds_toArray, List.set_cons_zero, List.set_cons_succ, i64_w, i32_w]
                              rfl
                            refine pure_ (i := 13) (N := some 56) (v := ?_) (a' := ?_) #[true, true, true, true, false, true, true, true, false, false, false, true, true, true, false, false, false, false] rfl rfl (any_of HT_.out (by kernel_rfl)) (fun _ _ _ h => h) (Or.inl ⟨by rfl, ?_⟩) ?_ ?_
                            rotate_left
                            · intro w'
                              go_simp
                              with_reducible rfl
                            rotate_left
                            · simp only [Act.put, List.setIfInBounds_toArray, List.set_cons_zero, List.set_cons_succ, i64_w, i32_w]
                              rfl
                            refine take_ (i := 4) (N := some 47) (v := ?_) (a' := ?_) #[true, true, true, true, true, true, true, true, false, false, false, true, true, true, false, false, false, false] rfl rfl (take_ofW HT_.out HW_.out (by kernel_rfl)) (fun _ _ _ h => h) (Or.inl ⟨by rfl, ?_⟩) hHeld ?_ ?_
                            rotate_left
                            · rintro w' ⟨s0, s1, s2⟩
                              go_simp
                              with_reducible rfl
                            rotate_left
                            · simp only [Act.put, List.setIfInBounds_toArray, List.set_cons_zero, List.set_cons_succ, i64_w, i32_w]
                              rfl
                            refine take_ (i := 8) (N := some 51) (v := ?_) (a' := ?_) #[true, true, true, true, true, true, true, true, true, false, false, true, true, true, false, false, false, false] rfl rfl (take_ofW HT_.out HW_.out (by kernel_rfl)) (fun _ _ _ h => h) (Or.inl ⟨by rfl, ?_⟩) hHeld ?_ ?_
                            rotate_left
                            · rintro w' ⟨s0, s1, s2⟩
                              go_simp
                              with_reducible rfl
                            rotate_left
                            · simp only [Act.put, List.setIfInBounds_toArray, List.set_cons_zero, List.set_cons_succ, i64_w, i32_w]
                              rfl
                            refine pure_ (i := 9) (N := some 52) (v := ?_) (a' := ?_) #[true, true, true, true, true, true, true, true, true, true, false, true, true, true, false, false, false, false] rfl rfl (any_of HT_.out (by kernel_rfl)) (fun _ _ _ h => h) (Or.inl ⟨by rfl, ?_⟩) ?_ ?_
                            rotate_left
                            · intro w'
                              go_simp
                              with_reducible rfl
                            rotate_left
                            · simp only [Act.put, List.setIfInBounds_toArray, List.set_cons_zero, List.set_cons_succ, i64_w, i32_w]
                              rfl
                            refine pure_ (i := 10) (N := some 53) (v := ?_) (a' := ?_) #[true, true, true, true, true, true, true, true, true, true, true, true, true, true, false, false, false, false] rfl rfl (any_of HT_.out (by kernel_rfl)) (fun _ _ _ h => h) (Or.inl ⟨by rfl, ?_⟩) ?_ ?_
                            rotate_left
                            · intro w'
                              go_simp
                              with_reducible rfl
                            rotate_left
                            · simp only [Act.put, List.setIfInBounds_toArray, List.set_cons_zero, List.set_cons_succ, i64_w, i32_w]
                              rfl
                            refine take_ (i := 14) (N := some 57) (v := ?_) (a' := ?_) #[true, true, true, true, true, true, true, true, true, true, true, true, true, true, true, false, false, false] rfl rfl (take_ofW HT_.out HW_.out (by kernel_rfl)) (fun _ _ _ h => h) (Or.inl ⟨by rfl, ?_⟩) hHeld ?_ ?_
                            rotate_left
                            · rintro w' ⟨s0, s1, s2⟩
                              go_simp
                              with_reducible rfl
                            rotate_left
                            · simp only [Act.put, List.setIfInBounds_toArray, List.set_cons_zero, List.set_cons_succ, i64_w, i32_w]
                              rfl
                            refine pure_ (i := 15) (N := some 58) (v := ?_) (a' := ?_) #[true, true, true, true, true, true, true, true, true, true, true, true, true, true, true, true, false, false] rfl rfl (any_of HT_.out (by kernel_rfl)) (fun _ _ _ h => h) (Or.inl ⟨by rfl, ?_⟩) ?_ ?_
                            rotate_left
                            · intro w'
                              go_simp
                              with_reducible rfl
                            rotate_left
                            · simp only [Act.put, List.setIfInBounds_toArray, List.set_cons_zero, List.set_cons_succ, i64_w, i32_w]
                              rfl
                            refine one_ (i := 16) (N := some 59) #[true, true, true, true, true, true, true, true, true, true, true, true, true, true, true, true, true, false] rfl rfl (one_of HT_.out (by kernel_rfl)) (by decide) (fun K hK => ?_)
                            refine goes_ Tryd.func32 (by kernel_rfl) rfl #[.slice Ao18 x3_2.length co18, .agg #[.string ((rdOf ByteArray.empty l0 x5_2).extract (((rdOf ByteArray.empty l0 x4_1).size : Int) : Int).toNat (rdOf ByteArray.empty l0 x5_2).size), .string (rdOf ByteArray.empty l0 x5_2)]] (by rfl) rfl rfl (by (try simp only [List.map_toArray, List.map_cons, List.map_nil]); first | done | rfl | (simp only [List.length_drop, List.length_take]; rfl)) ?_
                            with_reducible refine (spec_l05Put.calls k2 (fun k_ => some k_ = (.slice Ao18 x3_2.length co18 : Value).ownBlock) (.slice Ao18 x3_2.length co18) x3_2 ((rdOf ByteArray.empty l0 x5_2).extract (((rdOf ByteArray.empty l0 x4_1).size : Int) : Int).toNat (rdOf ByteArray.empty l0 x5_2).size) (rdOf ByteArray.empty l0 x5_2) t145 w _ ?side1 ?side2 A15.out).mono ?_
                            (case side1 => repeat (first | (with_reducible first | exact HB.out | apply below_alloc | apply pw_below_drewN | apply below_drew1) | exact HB.out))
                            (case side2 => exact Kd.R_tight rfl HO_3.out)
                            rintro e w19 ⟨v146, rfl, ho0, hb, hkp⟩
                            refine ⟨_, rfl, ?_⟩
                            have n0_ := Aside0.mk (Kd.R_mono (ok' := fun k_ => True) ho0 (fun k_ hk_ => trivial))
                            have n1_ := Aside0.mk (hb)
                            clear HB
                            clear HO_3
                            have HO147 := n0_
                            have HB := n1_
                            clear n0_ n1_
                            (try clear hb)
                            (try clear hkp)
                            (try clear ho0)
                            refine hK.out _ _ ⟨((HB.out.cell (World.block_lt_of_cell? w _ hw142_0)).trans hw142_0), ((HB.out.cell (World.block_lt_of_cell? w _ hw143_0)).trans hw143_0), ((HB.out.cell (World.block_lt_of_cell? w _ hw144_0)).trans hw144_0)⟩ (fun hHeld => ?_)
                            clear hK K
                            refine norm_ (a' := ?_) ?_ ?_
                            rotate_left
                            · show Act.put _ (some 59) _ = _
                              simp only [Act.put, List.setIfInBounds_toArray, List.set_cons_zero, List.set_cons_succ, i64_w, i32_w]
                              rfl
                            refine pure_ (i := 17) (N := some 3) (v := ?_) (a' := ?_) #[true, true, true, true, true, true, true, true, true, true, true, true, true, true, true, true, true, true] rfl rfl (any_of HT_.out (by kernel_rfl)) (fun _ _ _ h => h) (Or.inl ⟨by rfl, ?_⟩) ?_ ?_
                            rotate_left
                            · intro w'
                              go_simp
                              with_reducible rfl
                            rotate_left
                            · simp only [Act.put, List.setIfInBounds_toArray, List.set_cons_zero, List.set_cons_succ, i64_w, i32_w]
                              rfl
                            refine done_ (done_of HT_.out (by kernel_rfl)) ?_
                            try go_wp2
                            go_roundg k2
                            case measure => have := HK1.out; have := HK2.out; omega
                            case rel => exact ⟨(t145), (wrap64 (x5_2 + 1)), (by first | rfl | (simp; done) | (simp [*]; done)), H', ⟨by have := HK1.out; have := HK2.out; omega⟩, ⟨by (with_reducible repeat (first | apply Kd.R_alloc | apply Kd.R_drewN | apply Kd.R_drew)); exact HO147.out⟩, ⟨by repeat (first | (with_reducible first | exact HB.out | apply below_alloc | apply pw_below_drewN | apply below_drew1) | exact HB.out)⟩⟩
                          · rw [if_neg c14] at H
                            exact absurd H (by simp)
                        · rw [if_neg c13] at H
                          exact absurd H (by simp)
                      · replace c12 := Bool.eq_false_iff.mpr c12
                        subst c12
                        have H1 : (spec_l05Clash.l1 k2 l0 x3_2 x4_1 (wrap64 (x5_2 + 1))) = some r := by rw [if_neg (show ¬ (false = true) by decide)] at H; exact H
                        clear H
                        have H := H1
                        clear H1
                        have H' := Aside0.mk H
                        clear H
                        try go_wp2
                        have n0_ := Aside0.mk (Kd.R_drew HO_3.out)
                        have n1_ := Aside0.mk (below_drew1 HB.out)
                        clear HO_3
                        clear HB
                        have HO_3 := n0_
                        have HB := n1_
                        clear n0_ n1_
                        have p139 : 0 ≤ (x5_2 : Int) := of_decide_eq_true (by first | (with_reducible assumption) | assumption)
                        have q139 : x5_2 < (l0.length : Int) := of_decide_eq_true (by first | (with_reducible assumption) | assumption)
                        obtain ⟨ad139, e139, hx139_0⟩ := Kd.at_string HR0.out x5_2 p139 q139
                        have hw139_0 := hx139_0
                        cases e139
                        replace hx139_0 := (HB.out.cell (World.block_lt_of_cell? w _ hx139_0)).trans hx139_0
                        replace p139 := eq_true p139
                        replace q139 := eq_true q139
                        have p140 : 0 ≤ (x4_1 : Int) := of_decide_eq_true (by first | (with_reducible assumption) | assumption)
                        have q140 : x4_1 < (l0.length : Int) := of_decide_eq_true (by first | (with_reducible assumption) | assumption)
                        obtain ⟨ad140, e140, hx140_0⟩ := Kd.at_string HR0.out x4_1 p140 q140
                        have hw140_0 := hx140_0
                        obtain rfl : ad139 = ad140 := (by injection e140)
                        replace hx140_0 := (HB.out.cell (World.block_lt_of_cell? w _ hx140_0)).trans hx140_0
                        replace p140 := eq_true p140
                        replace q140 := eq_true q140
                        refine start_ (n := 14) (S := fun w' => w'.cell? (ad139.add (x5_2).toNat) = some (.string (rdOf ByteArray.empty l0 x5_2)) ∧ w'.cell? (ad139.add (x4_1).toNat) = some (.string (rdOf ByteArray.empty l0 x4_1))) (ds := []) #[false, false, false, false, false, false, false, false, false, false, false, false, false, false] (by kernel_rfl) rfl rfl ⟨((HB.out.cell (World.block_lt_of_cell? w _ hw139_0)).trans hw139_0), ((HB.out.cell (World.block_lt_of_cell? w _ hw140_0)).trans hw140_0)⟩ (fun hHeld => ?_); refine with_tabW spec_l05Clash.tab8 spec_l05Clash.bits8 (fun HT_ HW_ => ?_)
                        generalize wr.drew = w20 at HO_3 HB hx139_0 hx140_0 hHeld ⊢
                        refine pure_ (i := 0) (N := some 29) (v := ?_) (a' := ?_) #[true, false, false, false, false, false, false, false, false, false, false, false, false, false] rfl rfl (any_of HT_.out (by kernel_rfl)) (fun _ _ _ h => h) (Or.inl ⟨by rfl, ?_⟩) ?_ ?_
                        rotate_left
                        · intro w'
                          go_simp
                          with_reducible rfl
                        rotate_left
                        · simp only [Act.put, List.setIfInBounds_toArray, List.set_cons_zero, List.set_cons_succ, i64_w, i32_w]
                          rfl
                        refine pure_ (i := 1) (N := some 30) (v := ?_) (a' := ?_) #[true, true, false, false, false, false, false, false, false, false, false, false, false, false] rfl rfl (any_of HT_.out (by kernel_rfl)) (fun _ _ _ h => h) (Or.inl ⟨by rfl, ?_⟩) ?_ ?_
                        rotate_left
                        · intro w'
                          go_simp
                          with_reducible rfl
                        rotate_left
                        · simp only [Act.put, List.setIfInBounds_toArray, List.set_cons_zero, List.set_cons_succ, i64_w, i32_w]
                          rfl
                        refine pure_ (i := 2) (N := some 31) (v := ?_) (a' := ?_) #[true, true, true, false, false, false, false, false, false, false, false, false, false, false] rfl rfl (any_of HT_.out (by kernel_rfl)) (fun _ _ _ h => h) (Or.inl ⟨by rfl, ?_⟩) ?_ ?_
                        rotate_left
                        · intro w'
                          go_simp
                          with_reducible rfl
                        rotate_left
                        · simp only [Act.put, List.setIfInBounds_toArray, List.set_cons_zero, List.set_cons_succ, i64_w, i32_w]
                          rfl
                        refine pure_ (i := 3) (N := some 32) (v := ?_) (a' := ?_) #[true, true, true, true, false, false, false, false, false, false, false, false, false, false] rfl rfl (any_of HT_.out (by kernel_rfl)) (fun _ _ _ h => h) (Or.inl ⟨by rfl, ?_⟩) ?_ ?_
                        rotate_left
                        · intro w'
                          go_simp
                          with_reducible rfl
                        rotate_left
                        · simp only [Act.put, List.setIfInBounds_toArray, List.set_cons_zero, List.set_cons_succ, i64_w, i32_w]
                          rfl
                        refine pure_ (i := 4) (N := some 33) (v := ?_) (a' := ?_) #[true, true, true, true, true, false, false, false, false, false, false, false, false, false] rfl rfl (any_of HT_.out (by kernel_rfl)) (fun _ _ _ h => h) (Or.inl ⟨by rfl, ?_⟩) ?_ ?_
                        rotate_left
                        · intro w'
                          go_simp
                          with_reducible rfl
                        rotate_left
                        · simp only [Act.put, List.setIfInBounds_toArray, List.set_cons_zero, List.set_cons_succ, i64_w, i32_w]
                          rfl
                        refine pure_ (i := 5) (N := some 34) (v := ?_) (a' := ?_) #[true, true, true, true, true, true, false, false, false, false, false, false, false, false] rfl rfl (any_of HT_.out (by kernel_rfl)) (fun _ _ _ h => h) (Or.inl ⟨by rfl, ?_⟩) ?_ ?_
                        rotate_left
                        · intro w'
                          go_simp
                          with_reducible rfl
                        rotate_left
                        · simp only [Act.put, List.setIfInBounds_toArray, List.set_cons_zero, List.set_cons_succ, i64_w, i32_w]
                          rfl
                        refine pure_ (i := 6) (N := some 35) (v := ?_) (a' := ?_) #[true, true, true, true, true, true, true, false, false, false, false, false, false, false] rfl rfl (any_of HT_.out (by kernel_rfl)) (fun _ _ _ h => h) (Or.inl ⟨by rfl, ?_⟩) ?_ ?_
                        rotate_left
                        · intro w'
                          go_simp
                          with_reducible rfl
                        rotate_left
                        · simp only [Act.put, List.setIfInBounds_toArray, List.set_cons_zero, List.set_cons_succ, i64_w, i32_w]
                          rfl
                        refine pure_ (i := 8) (N := some 37) (v := ?_) (a' := ?_) #[true, true, true, true, true, true, true, false, true, false, false, false, false, false] rfl rfl (any_of HT_.out (by kernel_rfl)) (fun _ _ _ h => h) (Or.inl ⟨by rfl, ?_⟩) ?_ ?_
                        rotate_left
                        · intro w'
                          go_simp
                          with_reducible rfl
                        rotate_left
                        · simp only [Act.put, List.setIfInBounds_toArray, List.set_cons_zero, List.set_cons_succ, i64_w, i32_w]
                          rfl
                        refine pure_ (i := 9) (N := some 38) (v := ?_) (a' := ?_) #[true, true, true, true, true, true, true, false, true, true, false, false, false, false] rfl rfl (any_of HT_.out (by kernel_rfl)) (fun _ _ _ h => h) (Or.inl ⟨by rfl, ?_⟩) ?_ ?_
                        rotate_left
                        · intro w'
                          go_simp
                          with_reducible rfl
                        rotate_left
                        · simp only [Act.put, List.setIfInBounds_toArray, List.set_cons_zero, List.set_cons_succ, i64_w, i32_w]
                          rfl
                        refine pure_ (i := 10) (N := some 39) (v := ?_) (a' := ?_) #[true, true, true, true, true, true, true, false, true, true, true, false, false, false] rfl rfl (any_of HT_.out (by kernel_rfl)) (fun _ _ _ h => h) (Or.inl ⟨by rfl, ?_⟩) ?_ ?_
                        rotate_left
                        · intro w'
                          go_simp
                          with_reducible rfl
                        rotate_left
                        · simp only [Act.put, List.setIfInBounds_toArray, List.set_cons_zero, List.set_cons_succ, i64_w, i32_w]
                          rfl
                        refine take_ (i := 7) (N := some 36) (v := ?_) (a' := ?_) #[true, true, true, true, true, true, true, true, true, true, true, false, false, false] rfl rfl (take_ofW HT_.out HW_.out (by kernel_rfl)) (fun _ _ _ h => h) (Or.inl ⟨by rfl, ?_⟩) hHeld ?_ ?_
                        rotate_left
                        · rintro w' ⟨s0, s1⟩
                          go_simp
                          with_reducible rfl
                        rotate_left
                        · simp only [Act.put, List.setIfInBounds_toArray, List.set_cons_zero, List.set_cons_succ, i64_w, i32_w]
                          rfl
                        refine take_ (i := 11) (N := some 40) (v := ?_) (a' := ?_) #[true, true, true, true, true, true, true, true, true, true, true, true, false, false] rfl rfl (take_ofW HT_.out HW_.out (by kernel_rfl)) (fun _ _ _ h => h) (Or.inl ⟨by rfl, ?_⟩) hHeld ?_ ?_
                        rotate_left
                        · rintro w' ⟨s0, s1⟩
                          go_simp
                          with_reducible rfl
                        rotate_left
                        · simp only [Act.put, List.setIfInBounds_toArray, List.set_cons_zero, List.set_cons_succ, i64_w, i32_w]
                          rfl
                        refine one_ (i := 12) (N := some 41) #[true, true, true, true, true, true, true, true, true, true, true, true, true, false] rfl rfl (one_of HT_.out (by kernel_rfl)) (by decide) (fun K hK => ?_)
                        refine goes_ Tryd.func31 (by kernel_rfl) rfl #[.string (rdOf ByteArray.empty l0 x5_2), .string (rdOf ByteArray.empty l0 x4_1), .int .i64 0] (by rfl) rfl rfl (by (try simp only [List.map_toArray, List.map_cons, List.map_nil]); first | done | rfl | (simp only [List.length_drop, List.length_take]; rfl)) ?_
                        with_reducible refine (spec_l01At.calls (rdOf ByteArray.empty l0 x5_2) (rdOf ByteArray.empty l0 x4_1) 0 false _ A11.out).mono ?_
                        rintro e w' ⟨rfl, ⟨nd, rfl⟩⟩
                        refine ⟨_, rfl, ?_⟩
                        refine hK.out _ _ ⟨((HB.out.cell (World.block_lt_of_cell? w _ hw139_0)).trans hw139_0), ((HB.out.cell (World.block_lt_of_cell? w _ hw140_0)).trans hw140_0)⟩ (fun hHeld => ?_)
                        clear hK K
                        refine norm_ (a' := ?_) ?_ ?_
                        rotate_left
                        · show Act.put _ (some 41) _ = _
                          simp only [Act.put, List.setIfInBounds_toArray, List.set_cons_zero, List.set_cons_succ, i64_w, i32_w]
                          rfl
                        refine pure_ (i := 13) (N := some 42) (v := ?_) (a' := ?_) #[true, true, true, true, true, true, true, true, true, true, true, true, true, true] rfl rfl (any_of HT_.out (by kernel_rfl)) (fun _ _ _ h => h) (Or.inl ⟨by rfl, ?_⟩) ?_ ?_
                        rotate_left
                        · intro w'
                          go_simp
                          with_reducible rfl
                        rotate_left
                        · simp only [Act.put, List.setIfInBounds_toArray, List.set_cons_zero, List.set_cons_succ, i64_w, i32_w]
                          rfl
                        refine done_ (done_of HT_.out (by kernel_rfl)) ?_
                        try go_wp2
                        go_roundg k2
                        case measure => have := HK1.out; have := HK2.out; omega
                        case rel => exact ⟨(x3_2), (wrap64 (x5_2 + 1)), (by first | rfl | (simp; done) | (simp [*]; done)), H', ⟨by have := HK1.out; have := HK2.out; omega⟩, ⟨by (with_reducible repeat (first | apply Kd.R_alloc | apply Kd.R_drewN | apply Kd.R_drew)); exact HO_3.out⟩, ⟨by repeat (first | (with_reducible first | exact HB.out | apply below_alloc | apply pw_below_drewN | apply below_drew1) | exact HB.out)⟩⟩
                    · rw [if_neg c10] at H
                      exact absurd H (by simp)
                  · rw [if_neg c9] at H
                    exact absurd H (by simp)
                · rw [if_neg c8] at H
                  exact absurd H (by simp)
            · rw [if_neg c5] at H
              have c5b0 : decide (x5_2 < (l0.length : Int)) = false := decide_eq_false c5
              clear c5
              have H' := Aside0.mk H
              clear H
              go_wp2
              go_roundg k2
              case measure => have := HK1.out; have := HK2.out; omega
              case rel => exact ⟨(x3_2), (wrap64 (x4_1 + 1)), (by first | rfl | (simp; done) | (simp [*]; done)), H', ⟨by have := HK1.out; have := HK2.out; omega⟩, ⟨by (with_reducible repeat (first | apply Kd.R_alloc | apply Kd.R_drewN | apply Kd.R_drew)); exact HO_3.out⟩, ⟨by repeat (first | (with_reducible first | exact HB.out | apply below_alloc | apply pw_below_drewN | apply below_drew1) | exact HB.out)⟩⟩
      · rw [if_neg c4] at H
        have c4b0 : decide (x4_1 < (l0.length : Int)) = false := decide_eq_false c4
        clear c4
        obtain ⟨y148, hy148⟩ : ∃ y_ : List ByteArray, y_ = (([] : List ByteArray)) := ⟨_, rfl⟩
        replace H : (spec_l05Clash.l2 k1 l0 x3_1 y148) = some r := by first | (rw [hy148]; with_reducible exact H) | (have H2_ := (Option.bind_some _ _).symm.trans H; rw [hy148]; with_reducible exact H2_) | (have H2_ := (Option.bind_some _ _).symm.trans H; with_reducible exact H2_) | with_reducible exact H | (rw [hy148]; exact H) | exact H
        have Ny148 := Aside0.mk hy148
        clear hy148
        have H' := Aside0.mk H
        clear H
        go_wp2_with (first | ((with_reducible refine gate_dst (N := 60) rfl ?_); (try (refine gate_guard (by rfl) ?_; dsimp only)); refine Kd.R_lit Kd.string _ 9 ?hg (N := 60) ?hd (xs := ([] : List ByteArray)) (inner := []) (ok := fun _ => True) (okp := fun _ => True) ?hr ?hp (fun _ hk => hk) trivial (Below.refl _ _) (Nat.le_refl _) (by simp) ?_; (case hd => rfl); (case hg => rfl); (case hr => first | (go_simp; done) | (go_simp; rfl)); (case hp => exact (Reps.none _ _)); intro v149 w21 ho22 hb hg_ hnew_; clear hg_ hnew_; (first | rw [← Ny148.out] at ho22 | (simp only [Int.reduceToNat] at ho22; rw [← Ny148.out] at ho22)); have n0_ := Aside0.mk (Kd.R_below (by (with_reducible repeat (first | apply Kd.R_alloc | apply Kd.R_drewN | apply Kd.R_drew)); exact HO_3.out) hb); have n1_ := Aside0.mk (Kd.R_lower ho22 (below_size (by repeat (first | (with_reducible first | exact HB.out | apply below_alloc | apply pw_below_drewN | apply below_drew1) | exact HB.out)))); have n2_ := Aside0.mk (below_step (by repeat (first | (with_reducible first | exact HB.out | apply below_alloc | apply pw_below_drewN | apply below_drew1) | exact HB.out)) hb); clear HO_3; clear HB; have HO_3 := n0_; have HO150 := n1_; have HB := n2_; clear n0_ n1_ n2_; clear hb ho22))
        go_loopg [3, 6] k1 (fun kq v3 v6 w' => ∃ (x3_2 : List (S48)) (x6_2 : List ByteArray), Aside0 (spec_l05Clash.l2 kq l0 x3_2 x6_2 = some r) ∧ Aside0 (kq ≤ k1) ∧ Aside0 (Kd.R k48 48 w' w.heap.size (fun _ => True) v3 x3_2) ∧ Aside0 (Kd.R Kd.string 9 w' w.heap.size (fun _ => True) v6 x6_2) ∧ Aside0 (Below w.heap.size w w'))
        case atStart => exact ⟨(x3_1), (y148), H', ⟨Nat.le_refl _⟩, ⟨by (with_reducible repeat (first | apply Kd.R_alloc | apply Kd.R_drewN | apply Kd.R_drew)); exact HO_3.out⟩, ⟨by (with_reducible repeat (first | apply Kd.R_alloc | apply Kd.R_drewN | apply Kd.R_drew)); exact HO150.out⟩, ⟨by repeat (first | (with_reducible first | exact HB.out | apply below_alloc | apply pw_below_drewN | apply below_drew1) | exact HB.out)⟩⟩
        case round =>
          clear H'
          try clear c1
          try clear p1
          try clear q1
          try clear hx1
          try clear p2
          try clear c3
          try clear c4
          try clear c4b0
          try clear c5
          try clear c5b0
          try clear c6
          try clear c6b0
          try clear c6b1
          try clear p6
          try clear c8
          try clear c8b0
          try clear c9
          try clear c9b0
          try clear c10
          try clear c10b0
          try clear c12
          try clear c13
          try clear c13b0
          try clear c13b1
          try clear p13
          try clear q13
          try clear hx13
          try clear c14
          try clear c14b0
          try clear c14b1
          try clear p14
          try clear q14
          try clear hx14
          try clear hx139_0
          try clear hx140_0
          try clear hx142_0
          try clear hx143_0
          try clear hx144_0
          try clear p139
          try clear p140
          try clear p142
          try clear p143
          try clear p144
          try clear q139
          try clear q140
          try clear q142
          try clear q143
          try clear q144
          obtain ⟨x3_2, x6_2, HA, HK2, HO_3, HO_6, HB⟩ := hrel
          cases gk with
          | zero => exact absurd HA.out (by simp [spec_l05Clash.l2])
          | succ k2 =>
            have H := HA.out
            clear HA
            simp only [spec_l05Clash.l2] at H
            by_cases c23 : (x3_2.length : Int) > 0
            · rw [if_pos c23] at H
              have c23b0 : decide (0 < (x3_2.length : Int)) = true := decide_eq_true c23
              have c23b1 : decide (0 < x3_2.length) = true := decide_eq_true (by omega)
              clear c23
              have H' := Aside0.mk H
              clear H
              obtain ⟨Ao24, co24, eo24⟩ := Kd.R_slice HO_3.out
              subst eo24
              go_wp2
              go_loopg [7, 8] k2 (fun kq v7 v8 w' => ∃ (x7_3 : Int) (x8_3 : Int), v7 = .int .i64 x7_3 ∧ v8 = .int .i64 x8_3 ∧ Aside0 (spec_l05Clash.l3 kq l0 x3_2 x6_2 x7_3 x8_3 = some r) ∧ Aside0 (kq ≤ k2) ∧ Aside0 (Kd.R k48 48 w' w.heap.size (fun _ => True) (.slice Ao24 x3_2.length co24) x3_2) ∧ Aside0 (Kd.R Kd.string 9 w' w.heap.size (fun _ => True) u6 x6_2) ∧ Aside0 (Below w.heap.size w w'))
              case atStart => exact ⟨(0), (1), (by first | rfl | (simp; done) | (simp [*]; done)), (by first | rfl | (simp; done) | (simp [*]; done)), H', ⟨Nat.le_refl _⟩, ⟨by (with_reducible repeat (first | apply Kd.R_alloc | apply Kd.R_drewN | apply Kd.R_drew)); exact HO_3.out⟩, ⟨by (with_reducible repeat (first | apply Kd.R_alloc | apply Kd.R_drewN | apply Kd.R_drew)); exact HO_6.out⟩, ⟨by repeat (first | (with_reducible first | exact HB.out | apply below_alloc | apply pw_below_drewN | apply below_drew1) | exact HB.out)⟩⟩
              case round =>
                clear H'
                try clear c1
                try clear p1
                try clear q1
                try clear hx1
                try clear c2
                try clear p2
                try clear c3
                try clear c4
                try clear c4b0
                try clear c5
                try clear c5b0
                try clear c6
                try clear c6b0
                try clear c6b1
                try clear p6
                try clear c8
                try clear c8b0
                try clear c9
                try clear c9b0
                try clear c10
                try clear c10b0
                try clear c12
                try clear c13
                try clear c13b0
                try clear c13b1
                try clear p13
                try clear q13
                try clear hx13
                try clear c14
                try clear c14b0
                try clear c14b1
                try clear p14
                try clear q14
                try clear hx14
                try clear c23
                try clear c23b0
                try clear c23b1
                try clear hx139_0
                try clear hx140_0
                try clear hx142_0
                try clear hx143_0
                try clear hx144_0
                try clear p1
                try clear p13
                try clear p139
                try clear p14
                try clear p140
                try clear p142
                try clear p143
                try clear p144
                try clear p2
                try clear p6
                try clear q1
                try clear q13
                try clear q139
                try clear q14
                try clear q140
                try clear q142
                try clear q143
                try clear q144
                obtain ⟨x7_3, x8_3, rfl, rfl, HA, HK3, HO_3, HO_6, HB⟩ := hrel
                cases gk with
                | zero => exact absurd HA.out (by simp [spec_l05Clash.l3])
                | succ k3 =>
                  have H := HA.out
                  clear HA
                  simp only [spec_l05Clash.l3] at H
                  by_cases c25 : x8_3 < (x3_2.length : Int)
                  · rw [if_pos c25] at H
                    have c25b0 : decide (x8_3 < (x3_2.length : Int)) = true := decide_eq_true c25
                    clear c25
                    by_cases c26 : 0 ≤ x8_3
                    · rw [if_pos c26] at H
                      have c26b0 : decide (0 ≤ x8_3) = true := decide_eq_true c26
                      clear c26
                      by_cases c27 : 0 ≤ x7_3
                      · rw [if_pos c27] at H
                        have c27b0 : decide (0 ≤ x7_3) = true := decide_eq_true c27
                        clear c27
                        by_cases c28 : x7_3 < (x3_2.length : Int)
                        · rw [if_pos c28] at H
                          have c28b0 : decide (x7_3 < (x3_2.length : Int)) = true := decide_eq_true c28
                          clear c28
                          by_cases c29 : (((rd_T48 x3_2 x8_3).f1).size : Int) < (((rd_T48 x3_2 x7_3).f1).size : Int)
                          · rw [if_pos c29] at H
                            have c29b0 : decide ((((rd_T48 x3_2 x8_3).f1).size : Int) < (((rd_T48 x3_2 x7_3).f1).size : Int)) = true := decide_eq_true c29
                            have c29b1 : decide (((rd_T48 x3_2 x8_3).f1).size < ((rd_T48 x3_2 x7_3).f1).size) = true := decide_eq_true (Int.ofNat_lt.mp c29)
                            clear c29
                            have H' := Aside0.mk H
                            clear H
                            have p151 : 0 ≤ (x8_3 : Int) := of_decide_eq_true (by first | (with_reducible assumption) | assumption)
                            have q151 : x8_3 < (x3_2.length : Int) := of_decide_eq_true (by first | (with_reducible assumption) | assumption)
                            obtain ⟨ad151, e151, hx151_0, hx151_1⟩ := at_T48 (Kd.R_reads' HO_3.out).2.2 x8_3 p151 q151
                            cases e151
                            replace p151 := eq_true p151
                            replace q151 := eq_true q151
                            have p152 : 0 ≤ (x7_3 : Int) := of_decide_eq_true (by first | (with_reducible assumption) | assumption)
                            have q152 : x7_3 < (x3_2.length : Int) := of_decide_eq_true (by first | (with_reducible assumption) | assumption)
                            obtain ⟨ad152, e152, hx152_0, hx152_1⟩ := at_T48 (Kd.R_reads' HO_3.out).2.2 x7_3 p152 q152
                            obtain rfl : ad151 = ad152 := (by injection e152)
                            replace p152 := eq_true p152
                            replace q152 := eq_true q152
                            go_wp2
                            go_roundg k3
                            case measure => have := HK1.out; have := HK2.out; have := HK3.out; omega
                            case rel => exact ⟨(x8_3), (wrap64 (x8_3 + 1)), (by first | rfl | (simp; done) | (simp [*]; done)), (by first | rfl | (simp; done) | (simp [*]; done)), H', ⟨by have := HK1.out; have := HK2.out; have := HK3.out; omega⟩, ⟨by (with_reducible repeat (first | apply Kd.R_alloc | apply Kd.R_drewN | apply Kd.R_drew)); exact HO_3.out⟩, ⟨by (with_reducible repeat (first | apply Kd.R_alloc | apply Kd.R_drewN | apply Kd.R_drew)); exact HO_6.out⟩, ⟨by repeat (first | (with_reducible first | exact HB.out | apply below_alloc | apply pw_below_drewN | apply below_drew1) | exact HB.out)⟩⟩
                          · rw [if_neg c29] at H
                            have c29b0 : decide ((((rd_T48 x3_2 x8_3).f1).size : Int) < (((rd_T48 x3_2 x7_3).f1).size : Int)) = false := decide_eq_false c29
                            have c29b1 : decide (((rd_T48 x3_2 x8_3).f1).size < ((rd_T48 x3_2 x7_3).f1).size) = false := decide_eq_false (fun h => c29 (Int.ofNat_lt.mpr h))
                            clear c29
                            by_cases c30 : (((rd_T48 x3_2 x8_3).f1).size : Int) = (((rd_T48 x3_2 x7_3).f1).size : Int)
                            · rw [if_pos c30] at H
                              have c30b0 : ((((rd_T48 x3_2 x8_3).f1).size : Int) == (((rd_T48 x3_2 x7_3).f1).size : Int)) = true := beq_iff_eq.mpr c30
                              have c30b1 : ((((rd_T48 x3_2 x8_3).f1).size : Int) != (((rd_T48 x3_2 x7_3).f1).size : Int)) = false := bne_eq_false_iff_eq.mpr c30
                              have c30b2 : (((rd_T48 x3_2 x8_3).f1).size == ((rd_T48 x3_2 x7_3).f1).size) = true := by first | simpa using c30 | (simp at c30 ⊢; omega)
                              clear c30
                              by_cases c31 : (Op.bytesLess (((rd_T48 x3_2 x8_3).f1).toList) (((rd_T48 x3_2 x7_3).f1).toList)) = true
                              · rw [if_pos c31] at H
                                have c31b0 : (Op.bytesLess (((rd_T48 x3_2 x8_3).f1).toList) (((rd_T48 x3_2 x7_3).f1).toList)) = true := c31
                                clear c31
                                have H' := Aside0.mk H
                                clear H
                                have p151 : 0 ≤ (x8_3 : Int) := of_decide_eq_true (by first | (with_reducible assumption) | assumption)
                                have q151 : x8_3 < (x3_2.length : Int) := of_decide_eq_true (by first | (with_reducible assumption) | assumption)
                                obtain ⟨ad151, e151, hx151_0, hx151_1⟩ := at_T48 (Kd.R_reads' HO_3.out).2.2 x8_3 p151 q151
                                cases e151
                                replace p151 := eq_true p151
                                replace q151 := eq_true q151
                                have p152 : 0 ≤ (x7_3 : Int) := of_decide_eq_true (by first | (with_reducible assumption) | assumption)
                                have q152 : x7_3 < (x3_2.length : Int) := of_decide_eq_true (by first | (with_reducible assumption) | assumption)
                                obtain ⟨ad152, e152, hx152_0, hx152_1⟩ := at_T48 (Kd.R_reads' HO_3.out).2.2 x7_3 p152 q152
                                obtain rfl : ad151 = ad152 := (by injection e152)
                                replace p152 := eq_true p152
                                replace q152 := eq_true q152
                                go_wp2
                                go_roundg k3
                                case measure => have := HK1.out; have := HK2.out; have := HK3.out; omega
                                case rel => exact ⟨(x8_3), (wrap64 (x8_3 + 1)), (by first | rfl | (simp; done) | (simp [*]; done)), (by first | rfl | (simp; done) | (simp [*]; done)), H', ⟨by have := HK1.out; have := HK2.out; have := HK3.out; omega⟩, ⟨by (with_reducible repeat (first | apply Kd.R_alloc | apply Kd.R_drewN | apply Kd.R_drew)); exact HO_3.out⟩, ⟨by (with_reducible repeat (first | apply Kd.R_alloc | apply Kd.R_drewN | apply Kd.R_drew)); exact HO_6.out⟩, ⟨by repeat (first | (with_reducible first | exact HB.out | apply below_alloc | apply pw_below_drewN | apply below_drew1) | exact HB.out)⟩⟩
                              · rw [if_neg c31] at H
                                have c31b0 : (Op.bytesLess (((rd_T48 x3_2 x8_3).f1).toList) (((rd_T48 x3_2 x7_3).f1).toList)) = false := by simpa using c31
                                clear c31
                                have H' := Aside0.mk H
                                clear H
                                have p151 : 0 ≤ (x8_3 : Int) := of_decide_eq_true (by first | (with_reducible assumption) | assumption)
                                have q151 : x8_3 < (x3_2.length : Int) := of_decide_eq_true (by first | (with_reducible assumption) | assumption)
                                obtain ⟨ad151, e151, hx151_0, hx151_1⟩ := at_T48 (Kd.R_reads' HO_3.out).2.2 x8_3 p151 q151
                                cases e151
                                replace p151 := eq_true p151
                                replace q151 := eq_true q151
                                have p152 : 0 ≤ (x7_3 : Int) := of_decide_eq_true (by first | (with_reducible assumption) | assumption)
                                have q152 : x7_3 < (x3_2.length : Int) := of_decide_eq_true (by first | (with_reducible assumption) | assumption)
                                obtain ⟨ad152, e152, hx152_0, hx152_1⟩ := at_T48 (Kd.R_reads' HO_3.out).2.2 x7_3 p152 q152
                                obtain rfl : ad151 = ad152 := (by injection e152)
                                replace p152 := eq_true p152
                                replace q152 := eq_true q152
                                go_wp2
                                go_roundg k3
                                case measure => have := HK1.out; have := HK2.out; have := HK3.out; omega
                                case rel => exact ⟨(x7_3), (wrap64 (x8_3 + 1)), (by first | rfl | (simp; done) | (simp [*]; done)), (by first | rfl | (simp; done) | (simp [*]; done)), H', ⟨by have := HK1.out; have := HK2.out; have := HK3.out; omega⟩, ⟨by (with_reducible repeat (first | apply Kd.R_alloc | apply Kd.R_drewN | apply Kd.R_drew)); exact HO_3.out⟩, ⟨by (with_reducible repeat (first | apply Kd.R_alloc | apply Kd.R_drewN | apply Kd.R_drew)); exact HO_6.out⟩, ⟨by repeat (first | (with_reducible first | exact HB.out | apply below_alloc | apply pw_below_drewN | apply below_drew1) | exact HB.out)⟩⟩
                            · rw [if_neg c30] at H
                              have c30b0 : ((((rd_T48 x3_2 x8_3).f1).size : Int) == (((rd_T48 x3_2 x7_3).f1).size : Int)) = false := beq_eq_false_iff_ne.mpr c30
                              have c30b1 : ((((rd_T48 x3_2 x8_3).f1).size : Int) != (((rd_T48 x3_2 x7_3).f1).size : Int)) = true := bne_iff_ne.mpr c30
                              have c30b2 : (((rd_T48 x3_2 x8_3).f1).size == ((rd_T48 x3_2 x7_3).f1).size) = false := by first | simpa using c30 | (simp at c30 ⊢; omega)
                              have H' := Aside0.mk H
                              clear H
                              have p151 : 0 ≤ (x8_3 : Int) := of_decide_eq_true (by first | (with_reducible assumption) | assumption)
                              have q151 : x8_3 < (x3_2.length : Int) := of_decide_eq_true (by first | (with_reducible assumption) | assumption)
                              obtain ⟨ad151, e151, hx151_0, hx151_1⟩ := at_T48 (Kd.R_reads' HO_3.out).2.2 x8_3 p151 q151
                              cases e151
                              replace p151 := eq_true p151
                              replace q151 := eq_true q151
                              have p152 : 0 ≤ (x7_3 : Int) := of_decide_eq_true (by first | (with_reducible assumption) | assumption)
                              have q152 : x7_3 < (x3_2.length : Int) := of_decide_eq_true (by first | (with_reducible assumption) | assumption)
                              obtain ⟨ad152, e152, hx152_0, hx152_1⟩ := at_T48 (Kd.R_reads' HO_3.out).2.2 x7_3 p152 q152
                              obtain rfl : ad151 = ad152 := (by injection e152)
                              replace p152 := eq_true p152
                              replace q152 := eq_true q152
                              go_wp2
                              go_roundg k3
                              case measure => have := HK1.out; have := HK2.out; have := HK3.out; omega
                              case rel => exact ⟨(x7_3), (wrap64 (x8_3 + 1)), (by first | rfl | (simp; done) | (simp [*]; done)), (by first | rfl | (simp; done) | (simp [*]; done)), H', ⟨by have := HK1.out; have := HK2.out; have := HK3.out; omega⟩, ⟨by (with_reducible repeat (first | apply Kd.R_alloc | apply Kd.R_drewN | apply Kd.R_drew)); exact HO_3.out⟩, ⟨by (with_reducible repeat (first | apply Kd.R_alloc | apply Kd.R_drewN | apply Kd.R_drew)); exact HO_6.out⟩, ⟨by repeat (first | (with_reducible first | exact HB.out | apply below_alloc | apply pw_below_drewN | apply below_drew1) | exact HB.out)⟩⟩
                        · rw [if_neg c28] at H
                          exact absurd H (by simp)
                      · rw [if_neg c27] at H
                        exact absurd H (by simp)
                    · rw [if_neg c26] at H
                      exact absurd H (by simp)
                  · rw [if_neg c25] at H
                    have c25b0 : decide (x8_3 < (x3_2.length : Int)) = false := decide_eq_false c25
                    clear c25
                    by_cases c32 : 0 ≤ x7_3
                    · rw [if_pos c32] at H
                      have c32b0 : decide (0 ≤ x7_3) = true := decide_eq_true c32
                      clear c32
                      by_cases c33 : x7_3 < (x3_2.length : Int)
                      · rw [if_pos c33] at H
                        have c33b0 : decide (x7_3 < (x3_2.length : Int)) = true := decide_eq_true c33
                        clear c33
                        obtain ⟨y155, hy155⟩ : ∃ y_ : List (S48), y_ = (([] : List (S48))) := ⟨_, rfl⟩
                        replace H : (if x7_3 ≤ (x3_2.length : Int) then ((some (x3_2.take (x7_3 : Int).toNat : List (S48))).bind fun y158 => (if y155.length + y158.length < 4398046511104 then ((some (y155 ++ y158 : List (S48))).bind fun y162 => (if 0 ≤ (wrap64 (x7_3 + 1)) then (if (wrap64 (x7_3 + 1)) ≤ (x3_2.length : Int) then ((some (x3_2.drop ((wrap64 (x7_3 + 1)) : Int).toNat : List (S48))).bind fun y165 => (if y162.length + y165.length < 4398046511104 then (if ((rd_T48 x3_2 x7_3).f0).toList = ([] : List UInt8) then (some ((rd_T48 x3_2 x7_3).f1)) else (if x6_2.length < 8796093022208 then (spec_l05Clash.l4 k3 l0 (y162 ++ y165) (x6_2 ++ [(rd_T48 x3_2 x7_3).f0]) 0 ((rd_T48 x3_2 x7_3).f0) ((rd_T48 x3_2 x7_3).f1)) else (none))) else (none))) else (none)) else (none))) else (none))) else (none)) = some r := by first | (rw [hy155]; with_reducible exact H) | (have H2_ := (Option.bind_some _ _).symm.trans H; rw [hy155]; with_reducible exact H2_) | (have H2_ := (Option.bind_some _ _).symm.trans H; with_reducible exact H2_) | with_reducible exact H | (rw [hy155]; exact H) | exact H
                        have Ny155 := Aside0.mk hy155
                        clear hy155
                        have c34b0 := eq_true (of_decide_eq_true (by first | (with_reducible assumption) | assumption) : 0 ≤ x7_3)
                        by_cases c35 : x7_3 ≤ (x3_2.length : Int)
                        · rw [if_pos c35] at H
                          have c35b0 := eq_true c35
                          have c35b1 : decide (x7_3 ≤ (x3_2.length : Int)) = true := decide_eq_true c35
                          clear c35
                          obtain ⟨y158, hy158⟩ : ∃ y_ : List (S48), y_ = (x3_2.take (x7_3 : Int).toNat) := ⟨_, rfl⟩
                          replace H : (if y155.length + y158.length < 4398046511104 then ((some (y155 ++ y158 : List (S48))).bind fun y162 => (if 0 ≤ (wrap64 (x7_3 + 1)) then (if (wrap64 (x7_3 + 1)) ≤ (x3_2.length : Int) then ((some (x3_2.drop ((wrap64 (x7_3 + 1)) : Int).toNat : List (S48))).bind fun y165 => (if y162.length + y165.length < 4398046511104 then (if ((rd_T48 x3_2 x7_3).f0).toList = ([] : List UInt8) then (some ((rd_T48 x3_2 x7_3).f1)) else (if x6_2.length < 8796093022208 then (spec_l05Clash.l4 k3 l0 (y162 ++ y165) (x6_2 ++ [(rd_T48 x3_2 x7_3).f0]) 0 ((rd_T48 x3_2 x7_3).f0) ((rd_T48 x3_2 x7_3).f1)) else (none))) else (none))) else (none)) else (none))) else (none)) = some r := by first | (rw [hy158]; with_reducible exact H) | (have H2_ := (Option.bind_some _ _).symm.trans H; rw [hy158]; with_reducible exact H2_) | (have H2_ := (Option.bind_some _ _).symm.trans H; with_reducible exact H2_) | with_reducible exact H | (rw [hy158]; exact H) | exact H
                          have Ny158 := Aside0.mk hy158
                          clear hy158
                          by_cases c36 : y155.length + y158.length < 4398046511104
                          · rw [if_pos c36] at H
                            have LMc36 := Aside0.mk c36
                            clear c36
                            obtain ⟨y162, hy162⟩ : ∃ y_ : List (S48), y_ = (y155 ++ y158) := ⟨_, rfl⟩
                            replace H : (if 0 ≤ (wrap64 (x7_3 + 1)) then (if (wrap64 (x7_3 + 1)) ≤ (x3_2.length : Int) then ((some (x3_2.drop ((wrap64 (x7_3 + 1)) : Int).toNat : List (S48))).bind fun y165 => (if y162.length + y165.length < 4398046511104 then (if ((rd_T48 x3_2 x7_3).f0).toList = ([] : List UInt8) then (some ((rd_T48 x3_2 x7_3).f1)) else (if x6_2.length < 8796093022208 then (spec_l05Clash.l4 k3 l0 (y162 ++ y165) (x6_2 ++ [(rd_T48 x3_2 x7_3).f0]) 0 ((rd_T48 x3_2 x7_3).f0) ((rd_T48 x3_2 x7_3).f1)) else (none))) else (none))) else (none)) else (none)) = some r := by first | (rw [hy162]; with_reducible exact H) | (have H2_ := (Option.bind_some _ _).symm.trans H; rw [hy162]; with_reducible exact H2_) | (have H2_ := (Option.bind_some _ _).symm.trans H; with_reducible exact H2_) | with_reducible exact H | (rw [hy162]; exact H) | exact H
                            have Ny162 := Aside0.mk hy162
                            clear hy162
                            obtain ⟨ji37, hji37⟩ : ∃ j_ : Int, (wrap64 (x7_3 + 1)) = j_ := ⟨_, rfl⟩
                            replace H : (if 0 ≤ (ji37) then (if (ji37) ≤ (x3_2.length : Int) then ((some (x3_2.drop ((ji37) : Int).toNat : List (S48))).bind fun y165 => (if y162.length + y165.length < 4398046511104 then (if ((rd_T48 x3_2 x7_3).f0).toList = ([] : List UInt8) then (some ((rd_T48 x3_2 x7_3).f1)) else (if x6_2.length < 8796093022208 then (spec_l05Clash.l4 k3 l0 (y162 ++ y165) (x6_2 ++ [(rd_T48 x3_2 x7_3).f0]) 0 ((rd_T48 x3_2 x7_3).f0) ((rd_T48 x3_2 x7_3).f1)) else (none))) else (none))) else (none)) else (none)) = some r := by first | (rw [hji37] at H; exact H) | (simp only [hji37] at H ⊢; exact H)
                            have hji37w : (IntKind.i64.wrap (x7_3 + 1)) = ji37 := (i64_w _).trans hji37
                            by_cases c38 : 0 ≤ (ji37)
                            · rw [if_pos c38] at H
                              have c38b0 := eq_true c38
                              have c38b1 : decide (0 ≤ (ji37)) = true := decide_eq_true c38
                              clear c38
                              by_cases c39 : (ji37) ≤ (x3_2.length : Int)
                              · rw [if_pos c39] at H
                                have c39b0 := eq_true c39
                                have c39b1 : decide ((ji37) ≤ (x3_2.length : Int)) = true := decide_eq_true c39
                                clear c39
                                obtain ⟨y165, hy165⟩ : ∃ y_ : List (S48), y_ = (x3_2.drop ((ji37) : Int).toNat) := ⟨_, rfl⟩
                                replace H : (if y162.length + y165.length < 4398046511104 then (if ((rd_T48 x3_2 x7_3).f0).toList = ([] : List UInt8) then (some ((rd_T48 x3_2 x7_3).f1)) else (if x6_2.length < 8796093022208 then (spec_l05Clash.l4 k3 l0 (y162 ++ y165) (x6_2 ++ [(rd_T48 x3_2 x7_3).f0]) 0 ((rd_T48 x3_2 x7_3).f0) ((rd_T48 x3_2 x7_3).f1)) else (none))) else (none)) = some r := by first | (rw [hy165]; with_reducible exact H) | (have H2_ := (Option.bind_some _ _).symm.trans H; rw [hy165]; with_reducible exact H2_) | (have H2_ := (Option.bind_some _ _).symm.trans H; with_reducible exact H2_) | with_reducible exact H | (rw [hy165]; exact H) | exact H
                                have Ny165 := Aside0.mk hy165
                                clear hy165
                                by_cases c40 : y162.length + y165.length < 4398046511104
                                · rw [if_pos c40] at H
                                  have LMc40 := Aside0.mk c40
                                  clear c40
                                  obtain ⟨y169, hy169⟩ : ∃ y_ : List (S48), y_ = (y162 ++ y165) := ⟨_, rfl⟩
                                  replace H : (if ((rd_T48 x3_2 x7_3).f0).toList = ([] : List UInt8) then (some ((rd_T48 x3_2 x7_3).f1)) else (if x6_2.length < 8796093022208 then (spec_l05Clash.l4 k3 l0 y169 (x6_2 ++ [(rd_T48 x3_2 x7_3).f0]) 0 ((rd_T48 x3_2 x7_3).f0) ((rd_T48 x3_2 x7_3).f1)) else (none))) = some r := by first | (rw [hy169]; with_reducible exact H) | (have H2_ := (Option.bind_some _ _).symm.trans H; rw [hy169]; with_reducible exact H2_) | (have H2_ := (Option.bind_some _ _).symm.trans H; with_reducible exact H2_) | with_reducible exact H | (rw [hy169]; exact H) | exact H
                                  have Ny169 := Aside0.mk hy169
                                  clear hy169
                                  by_cases c41 : ((rd_T48 x3_2 x7_3).f0).toList = ([] : List UInt8)
                                  · rw [if_pos c41] at H
                                    have c41b0 : (((rd_T48 x3_2 x7_3).f0).toList == ([] : List UInt8)) = true := beq_iff_eq.mpr c41
                                    have c41b1 : (((rd_T48 x3_2 x7_3).f0).toList != ([] : List UInt8)) = false := bne_eq_false_iff_eq.mpr c41
                                    clear c41
                                    obtain rfl := Option.some.inj H
                                    have p153 : 0 ≤ (x7_3 : Int) := of_decide_eq_true (by first | (with_reducible assumption) | assumption)
                                    have q153 : x7_3 < (x3_2.length : Int) := of_decide_eq_true (by first | (with_reducible assumption) | assumption)
                                    obtain ⟨ad153, e153, hx153_0, hx153_1⟩ := at_T48 (Kd.R_reads' HO_3.out).2.2 x7_3 p153 q153
                                    cases e153
                                    replace p153 := eq_true p153
                                    replace q153 := eq_true q153
                                    go_wp2_with (first | ((with_reducible refine gate_dst (N := 11) rfl ?_); (try (refine gate_guard (by rfl) ?_; dsimp only)); refine box_event ?hg (N := 11) ?hd (cs := #[.string (⟨#[]⟩ : ByteArray), .string (⟨#[]⟩ : ByteArray)]) (t := 48) ?hr ?_; (case hd => rfl); (case hg => rfl); (case hr => first | (go_simp; done) | (go_simp; rfl)); intro gb154 hg w42 hbox hb; have n0_ := Aside0.mk (Kd.R_below (Kd.R_elderB (by (with_reducible repeat (first | apply Kd.R_alloc | apply Kd.R_drewN | apply Kd.R_drew)); exact HO_3.out) gb154 (Nat.le_of_eq hg.symm)) hb); have n1_ := Aside0.mk (Kd.R_below (by (with_reducible repeat (first | apply Kd.R_alloc | apply Kd.R_drewN | apply Kd.R_drew)); exact HO_6.out) hb); have n2_ := Aside0.mk (below_step (by repeat (first | (with_reducible first | exact HB.out | apply below_alloc | apply pw_below_drewN | apply below_drew1) | exact HB.out)) hb); have n3_ := Aside0.mk (hbox); have n4_ := Aside0.mk ((by rw [hg]; exact (below_size (by repeat (first | (with_reducible first | exact HB.out | apply below_alloc | apply pw_below_drewN | apply below_drew1) | exact HB.out))) : w.heap.size ≤ gb154)); have n5_ := Aside0.mk ((by rw [hg]; exact (below_size (by repeat (first | (with_reducible first | exact HB.out | apply below_alloc | apply pw_below_drewN | apply below_drew1) | exact HB.out))) : w.heap.size ≤ gb154)); clear HO_3; clear HO_6; clear HB; have HO_3 := n0_; have HO_6 := n1_; have HB := n2_; have BK154 := n3_; have GW154 := n4_; have GE154 := n5_; clear n0_ n1_ n2_ n3_ n4_ n5_; clear hb hbox hg; have hcz43_0 : w42.cell? ⟨gb154, 0, none⟩ = some (.string (⟨#[]⟩ : ByteArray)) := (blk_cell BK154.out 0).trans rfl; have hcz43_1 : w42.cell? ⟨gb154, 1, none⟩ = some (.string (⟨#[]⟩ : ByteArray)) := (blk_cell BK154.out 1).trans rfl; have hfz43_0 := blk_frozen BK154.out 0; have hfz43_1 := blk_frozen BK154.out 1) | ((with_reducible refine gate_dst (N := 102) rfl ?_); (try (refine gate_guard (by rfl) ?_; dsimp only)); refine Kd.R_lit k48 _ 48 ?hg (N := 102) ?hd (xs := ([] : List (S48))) (inner := []) (ok := fun _ => True) (okp := fun _ => True) ?hr ?hp (fun _ hk => hk) trivial (Below.refl _ _) (Nat.le_refl _) (by simp) ?_; (case hd => rfl); (case hg => rfl); (case hr => first | (go_simp; done) | (go_simp; rfl)); (case hp => exact (Reps.none _ _)); intro v156 w44 ho45 hb hg_ hnew_; clear hg_ hnew_; (first | rw [← Ny155.out] at ho45 | (simp only [Int.reduceToNat] at ho45; rw [← Ny155.out] at ho45)); have n0_ := Aside0.mk (Kd.R_elder' (by (with_reducible repeat (first | apply Kd.R_alloc | apply Kd.R_drewN | apply Kd.R_drew)); exact (Kd.R_mono (Kd.R_far (p := ⟨gb154, 1, none⟩) (Kd.R_far (p := ⟨gb154, 0, none⟩) (Kd.R_mono HO_3.out (fun k_ hk => (⟨hk, hk.2⟩ : _ ∧ k_ ≠ gb154))) (fun _ hk => hk.2) (.string ((rd_T48 x3_2 x7_3).f0))) (fun _ hk => hk.2) (.string ((rd_T48 x3_2 x7_3).f1))) (fun _ h_ => h_.1))) (Kd.R_base ho45) hb); have n1_ := Aside0.mk (Kd.R_below (by (with_reducible repeat (first | apply Kd.R_alloc | apply Kd.R_drewN | apply Kd.R_drew)); exact (Kd.R_mono (Kd.R_far (p := ⟨gb154, 1, none⟩) (Kd.R_far (p := ⟨gb154, 0, none⟩) (Kd.R_types HO_6.out BK154.out (by decide)) (fun _ hk => hk.2) (.string ((rd_T48 x3_2 x7_3).f0))) (fun _ hk => hk.2) (.string ((rd_T48 x3_2 x7_3).f1))) (fun _ h_ => h_.1))) hb); have n2_ := Aside0.mk (Kd.R_lower (Kd.R_newB (Kd.R_new' ho45 (Kd.R_lt (by (with_reducible repeat (first | apply Kd.R_alloc | apply Kd.R_drewN | apply Kd.R_drew)); exact (Kd.R_mono (Kd.R_far (p := ⟨gb154, 1, none⟩) (Kd.R_far (p := ⟨gb154, 0, none⟩) (Kd.R_mono HO_3.out (fun k_ hk => (⟨hk, hk.2⟩ : _ ∧ k_ ≠ gb154))) (fun _ hk => hk.2) (.string ((rd_T48 x3_2 x7_3).f0))) (fun _ hk => hk.2) (.string ((rd_T48 x3_2 x7_3).f1))) (fun _ h_ => h_.1))))) (g := gb154) (o := .cells #[.string ((rd_T48 x3_2 x7_3).f0), .string ((rd_T48 x3_2 x7_3).f1)] 48 (0, 0)) (by (with_reducible repeat (first | refine blk_drewN ?_ _ | refine blk_drew ?_ | refine blk_alloc ?_ _)); refine blk_put (cs := #[.string ((rd_T48 x3_2 x7_3).f0), .string (⟨#[]⟩ : ByteArray)]) ?_ 1 _ rfl; (with_reducible repeat (first | refine blk_drewN ?_ _ | refine blk_drew ?_ | refine blk_alloc ?_ _)); refine blk_put (cs := #[.string (⟨#[]⟩ : ByteArray), .string (⟨#[]⟩ : ByteArray)]) ?_ 0 _ rfl; (with_reducible repeat (first | refine blk_drewN ?_ _ | refine blk_drew ?_ | refine blk_alloc ?_ _)); exact BK154.out)) (below_size (by repeat (first | (with_reducible first | exact HB.out | apply below_alloc | apply pw_below_drewN | apply below_drew1 | refine below_set ?_ GE154.out) | exact HB.out)))); have n3_ := Aside0.mk (blk_below (g := gb154) (o := .cells #[.string ((rd_T48 x3_2 x7_3).f0), .string ((rd_T48 x3_2 x7_3).f1)] 48 (0, 0)) (by (with_reducible repeat (first | refine blk_drewN ?_ _ | refine blk_drew ?_ | refine blk_alloc ?_ _)); refine blk_put (cs := #[.string ((rd_T48 x3_2 x7_3).f0), .string (⟨#[]⟩ : ByteArray)]) ?_ 1 _ rfl; (with_reducible repeat (first | refine blk_drewN ?_ _ | refine blk_drew ?_ | refine blk_alloc ?_ _)); refine blk_put (cs := #[.string (⟨#[]⟩ : ByteArray), .string (⟨#[]⟩ : ByteArray)]) ?_ 0 _ rfl; (with_reducible repeat (first | refine blk_drewN ?_ _ | refine blk_drew ?_ | refine blk_alloc ?_ _)); exact BK154.out) hb); have n4_ := Aside0.mk (below_step (by repeat (first | (with_reducible first | exact HB.out | apply below_alloc | apply pw_below_drewN | apply below_drew1 | refine below_set ?_ GE154.out) | exact HB.out)) hb); clear HO_3; clear HO_6; clear BK154; clear HB; have HO_3 := n0_; have HO_6 := n1_; have HO157 := n2_; have BK154 := n3_; have HB := n4_; clear n0_ n1_ n2_ n3_ n4_; clear hb ho45; have q46 : (x7_3 : Int) ≤ ((x3_2.length : Int) : Int) := of_decide_eq_true (by first | (with_reducible assumption) | assumption); obtain ⟨i046, hi046, _, hsz46, _⟩ := info_parts info48; have hroom46 : x3_2.length ≤ co24 := (Kd.R_reads' HO_3.out).2.1; have hC46 : Kd.C k48 _ (some ad153) x3_2.length x3_2 := (Kd.R_reads' HO_3.out).2.2; have hcut46 := cut_to (P := Tryd.prog) 44 48 .i64 Tryd.underlying44 hi046 (some ad153) x3_2.length co24 x7_3 (of_decide_eq_true (by first | (with_reducible assumption) | assumption)) q46 hroom46; have hr46 := Kd.C_take (m := (x7_3 : Int).toNat) hC46 (by omega); have hy46 : y158.length = (x7_3 : Int).toNat := (by rw [Ny158.out, List.length_take]; omega); rw [← Ny158.out] at hr46; rw [← hy46] at hcut46; have HR161 := Aside0.mk hr46; have HC161 := Aside0.mk (show y158.length ≤ co24 from by omega); clear hr46 hC46 hroom46 hi046 hsz46; have KY46 := Aside0.mk hy46; clear hy46; have KL46 := Aside0.mk (show (x7_3 : Int).toNat ≤ x3_2.length from by omega); replace q46 := eq_true q46) | ((with_reducible refine gate_builtin (b := .append) (xs := #[.tmp 102, .tmp 105]) rfl ?_); (try (refine gate_guard (by rfl) ?_; dsimp only)); at_builtin; refine Kd.R_append_rows k48 (w0 := w) w.heap.size rfl (.tmp 102) (.tmp 105) 44 48 (.agg #[(.string ⟨#[]⟩), (.string ⟨#[]⟩)]) 32 rfl Tryd.underlying44 info48 rfl (by decide) (by omega) v156 y155 y158 _ _ _ (fun k_ => some k_ ≠ (.slice (some ad153) x3_2.length co24 : Value).ownBlock ∧ k_ ≠ gb154) (fun _ => False) rfl rfl ?aO ?aR (fun _ _ h => h) (fun _ h => h.elim) ?aF ?aB ?aS ?aL ?_; (case aR => repeat (first | exact (by repeat (first | (with_reducible exact HR161.out) | (with_reducible refine Kd.C_alloc ?_ _) | (with_reducible refine Kd.C_drewN ?_ _) | (with_reducible refine Kd.C_drew ?_) | exact HR161.out)) | (with_reducible refine Kd.C_alloc ?_ _) | (with_reducible refine Kd.C_drewN ?_ _) | (with_reducible refine Kd.C_drew ?_))); (case aB => exact (by repeat (first | (with_reducible first | exact HB.out | apply below_alloc | apply pw_below_drewN | apply below_drew1 | refine below_set ?_ GE154.out) | exact HB.out))); (case aF => exact (fun k_ hk => ⟨Kd.fresh' (Kd.R_lt (by (with_reducible repeat (first | apply Kd.R_alloc | apply Kd.R_drewN | apply Kd.R_drew)); exact HO_3.out)) k_ hk, Kd.freshB (g := gb154) (o := .cells #[.string ((rd_T48 x3_2 x7_3).f0), .string ((rd_T48 x3_2 x7_3).f1)] 48 (0, 0)) (by (with_reducible repeat (first | refine blk_drewN ?_ _ | refine blk_drew ?_ | refine blk_alloc ?_ _)); exact BK154.out) k_ hk⟩)); (case aO => exact (by (with_reducible repeat (first | apply Kd.R_alloc | apply Kd.R_drewN | apply Kd.R_drew)); exact Kd.R_mono HO157.out (fun _ hk => ⟨hk.1.2, hk.2⟩))); (case aS => exact (below_size (by repeat (first | (with_reducible first | exact HB.out | apply below_alloc | apply pw_below_drewN | apply below_drew1 | refine below_set ?_ GE154.out) | exact HB.out)))); (case aL => have := LMc36.out; omega); intro v163 w47 ho hb hg hat; rw [← Ny162.out] at ho; have n0_ := Aside0.mk (Kd.R_after (ok := (fun k_ => k_ ≠ gb154)) (by (with_reducible repeat (first | apply Kd.R_alloc | apply Kd.R_drewN | apply Kd.R_drew)); exact Kd.R_mono HO_3.out (fun _ hk => ⟨hk.1.2, hk.2⟩)) hg hat); have n1_ := Aside0.mk (Kd.R_over' (by (with_reducible repeat (first | apply Kd.R_alloc | apply Kd.R_drewN | apply Kd.R_drew)); exact HO_6.out) (Kd.R_typed (by (with_reducible repeat (first | apply Kd.R_alloc | apply Kd.R_drewN | apply Kd.R_drew)); exact HO157.out)) (by decide) hg); have n2_ := Aside0.mk (blk_grown (g := gb154) (o := .cells #[.string ((rd_T48 x3_2 x7_3).f0), .string ((rd_T48 x3_2 x7_3).f1)] 48 (0, 0)) (by (with_reducible repeat (first | refine blk_drewN ?_ _ | refine blk_drew ?_ | refine blk_alloc ?_ _)); exact BK154.out) hg (Kd.R_away HO157.out (fun _ hk => hk.2))); have n3_ := Aside0.mk (hb); have n4_ := Aside0.mk ((show Kd.C k48 w47 (some ad153) y158.length y158 from by rw [Ny158.out]; exact Kd.C_take (m := (x7_3 : Int).toNat) ((Kd.R_reads' (Kd.R_after (ok := (fun k_ => k_ ≠ gb154)) (by (with_reducible repeat (first | apply Kd.R_alloc | apply Kd.R_drewN | apply Kd.R_drew)); exact Kd.R_mono HO_3.out (fun _ hk => ⟨hk.1.2, hk.2⟩)) hg hat)).2.2) KL46.out)); have n5_ := Aside0.mk (ho); clear HO_3; clear HO_6; clear BK154; clear HB; clear HR161; clear HO157; have HO_3 := n0_; have HO_6 := n1_; have BK154 := n2_; have HB := n3_; have HR161 := n4_; have HO164 := n5_; clear n0_ n1_ n2_ n3_ n4_ n5_; clear ho hb hg hat; have q48 : ((ji37) : Int) ≤ ((x3_2.length : Int) : Int) := of_decide_eq_true (by first | (with_reducible assumption) | assumption); obtain ⟨i048, hi048, _, hsz48, _⟩ := info_parts info48; have hroom48 : x3_2.length ≤ co24 := (Kd.R_reads' HO_3.out).2.1; have hC48 : Kd.C k48 _ (some ad153) x3_2.length x3_2 := (Kd.R_reads' HO_3.out).2.2; have q048 : (0 : Int) ≤ ((ji37) : Int) := of_decide_eq_true (by first | (with_reducible assumption) | assumption); have hcut48 := cut_from (P := Tryd.prog) 44 48 .i64 Tryd.underlying44 hi048 2 hsz48 (some ad153) x3_2.length co24 (ji37) q048 q48; have hr48 := Kd.C_drop (m := ((ji37) : Int).toNat) (c := co24) hC48 (by omega) hroom48; obtain ⟨A48, hA48⟩ : ∃ A1, A1 = (if co24 = ((ji37) : Int).toNat then (some ad153) else ((some ad153) : Option Addr).map (·.add (((ji37) : Int).toNat * 2))) := ⟨_, rfl⟩; obtain ⟨c48, hc48⟩ : ∃ c1, c1 = co24 - ((ji37) : Int).toNat := ⟨_, rfl⟩; have hy48 : y165.length = x3_2.length - ((ji37) : Int).toNat := (by rw [Ny165.out, List.length_drop] <;> omega); rw [show (x3_2).drop ((ji37) : Int).toNat = y165 from Ny165.out.symm] at hr48; replace hr48 : Kd.C k48 _ A48 y165.length y165 := (by rw [hA48]; exact hr48); rw [← hy48, ← hA48, ← hc48] at hcut48; have HR168 := Aside0.mk hr48; have HC168 := Aside0.mk (show y165.length ≤ c48 from by rw [hy48, hc48]; exact Nat.sub_le_sub_right hroom48 _); clear hr48 hC48 hroom48 hi048 hsz48 hc48; have KY48 := Aside0.mk hy48; have KA48 := Aside0.mk hA48; clear hy48 hA48; have KL48 := Aside0.mk (show ((ji37) : Int).toNat ≤ x3_2.length from by omega); replace q48 := eq_true q48) | ((with_reducible refine gate_builtin (b := .append) (xs := #[.tmp 107, .tmp 111]) rfl ?_); (try (refine gate_guard (by rfl) ?_; dsimp only)); at_builtin; refine Kd.R_append_rows k48 (w0 := w) w.heap.size rfl (.tmp 107) (.tmp 111) 44 48 (.agg #[(.string ⟨#[]⟩), (.string ⟨#[]⟩)]) 32 rfl Tryd.underlying44 info48 rfl (by decide) (by omega) v163 y162 y165 _ _ _ (fun k_ => some k_ ≠ (.slice (some ad153) x3_2.length co24 : Value).ownBlock ∧ k_ ≠ gb154) (fun _ => False) rfl rfl ?aO ?aR (fun _ _ h => h) (fun _ h => h.elim) ?aF ?aB ?aS ?aL ?_; (case aR => repeat (first | exact (by repeat (first | (with_reducible exact HR168.out) | (with_reducible refine Kd.C_alloc ?_ _) | (with_reducible refine Kd.C_drewN ?_ _) | (with_reducible refine Kd.C_drew ?_) | exact HR168.out)) | (with_reducible refine Kd.C_alloc ?_ _) | (with_reducible refine Kd.C_drewN ?_ _) | (with_reducible refine Kd.C_drew ?_))); (case aB => exact (by repeat (first | (with_reducible first | exact HB.out | apply below_alloc | apply pw_below_drewN | apply below_drew1 | refine below_set ?_ GE154.out) | exact HB.out))); (case aF => exact (fun k_ hk => ⟨Kd.fresh' (Kd.R_lt (by (with_reducible repeat (first | apply Kd.R_alloc | apply Kd.R_drewN | apply Kd.R_drew)); exact HO_3.out)) k_ hk, Kd.freshB (g := gb154) (o := .cells #[.string ((rd_T48 x3_2 x7_3).f0), .string ((rd_T48 x3_2 x7_3).f1)] 48 (0, 0)) (by (with_reducible repeat (first | refine blk_drewN ?_ _ | refine blk_drew ?_ | refine blk_alloc ?_ _)); exact BK154.out) k_ hk⟩)); (case aO => exact (by (with_reducible repeat (first | apply Kd.R_alloc | apply Kd.R_drewN | apply Kd.R_drew)); exact HO164.out)); (case aS => exact (below_size (by repeat (first | (with_reducible first | exact HB.out | apply below_alloc | apply pw_below_drewN | apply below_drew1 | refine below_set ?_ GE154.out) | exact HB.out)))); (case aL => have := LMc40.out; omega); intro v170 w49 ho hb hg hat; rw [← Ny169.out] at ho; have n0_ := Aside0.mk (Kd.R_after (ok := (fun k_ => k_ ≠ gb154)) (by (with_reducible repeat (first | apply Kd.R_alloc | apply Kd.R_drewN | apply Kd.R_drew)); exact HO_3.out) hg hat); have n1_ := Aside0.mk (Kd.R_over' (by (with_reducible repeat (first | apply Kd.R_alloc | apply Kd.R_drewN | apply Kd.R_drew)); exact HO_6.out) (Kd.R_typed (by (with_reducible repeat (first | apply Kd.R_alloc | apply Kd.R_drewN | apply Kd.R_drew)); exact HO164.out)) (by decide) hg); have n2_ := Aside0.mk (blk_grown (g := gb154) (o := .cells #[.string ((rd_T48 x3_2 x7_3).f0), .string ((rd_T48 x3_2 x7_3).f1)] 48 (0, 0)) (by (with_reducible repeat (first | refine blk_drewN ?_ _ | refine blk_drew ?_ | refine blk_alloc ?_ _)); exact BK154.out) hg (Kd.R_away HO164.out (fun _ hk => hk.2))); have n3_ := Aside0.mk (hb); have n4_ := Aside0.mk ((show Kd.C k48 w49 (some ad153) y158.length y158 from by rw [Ny158.out]; exact Kd.C_take (m := (x7_3 : Int).toNat) ((Kd.R_reads' (Kd.R_after (ok := (fun k_ => k_ ≠ gb154)) (by (with_reducible repeat (first | apply Kd.R_alloc | apply Kd.R_drewN | apply Kd.R_drew)); exact HO_3.out) hg hat)).2.2) KL46.out)); have n5_ := Aside0.mk ((show Kd.C k48 w49 A48 y165.length y165 from by rw [Ny165.out, KA48.out]; exact Kd.C_drop (m := ((ji37) : Int).toNat) (c := co24) ((Kd.R_reads' (Kd.R_after (ok := (fun k_ => k_ ≠ gb154)) (by (with_reducible repeat (first | apply Kd.R_alloc | apply Kd.R_drewN | apply Kd.R_drew)); exact HO_3.out) hg hat)).2.2) KL48.out ((Kd.R_reads' (Kd.R_after (ok := (fun k_ => k_ ≠ gb154)) (by (with_reducible repeat (first | apply Kd.R_alloc | apply Kd.R_drewN | apply Kd.R_drew)); exact HO_3.out) hg hat)).2.1))); have n6_ := Aside0.mk (ho); clear HO_3; clear HO_6; clear BK154; clear HB; clear HR161; clear HR168; clear HO164; have HO_3 := n0_; have HO_6 := n1_; have BK154 := n2_; have HB := n3_; have HR161 := n4_; have HR168 := n5_; have HO171 := n6_; clear n0_ n1_ n2_ n3_ n4_ n5_ n6_; clear ho hb hg hat; have hcz50_0 : w49.cell? ⟨gb154, 0, none⟩ = some (.string ((rd_T48 x3_2 x7_3).f0)) := (blk_cell BK154.out 0).trans rfl; have hcz50_1 : w49.cell? ⟨gb154, 1, none⟩ = some (.string ((rd_T48 x3_2 x7_3).f1)) := (blk_cell BK154.out 1).trans rfl; have hfz50_0 := blk_frozen BK154.out 0; have hfz50_1 := blk_frozen BK154.out 1))
                                    go_ret
                                    exact ⟨by first | rfl | (simp [errW_none, errW_some] <;> rfl) | (simp only [← hji37]; first | rfl | (simp [errW_none, errW_some] <;> rfl)) | (simp [*, errW_none, errW_some] <;> rfl), by repeat (first | (with_reducible first | exact HB.out | apply below_alloc | apply pw_below_drewN | apply below_drew1 | refine below_set ?_ GE154.out) | exact HB.out)⟩
                                  · rw [if_neg c41] at H
                                    have c41b0 : (((rd_T48 x3_2 x7_3).f0).toList == ([] : List UInt8)) = false := beq_eq_false_iff_ne.mpr c41
                                    have c41b1 : (((rd_T48 x3_2 x7_3).f0).toList != ([] : List UInt8)) = true := bne_iff_ne.mpr c41
                                    by_cases c51 : x6_2.length < 8796093022208
                                    · rw [if_pos c51] at H
                                      have LMc51 := Aside0.mk c51
                                      clear c51
                                      obtain ⟨y172, hy172⟩ : ∃ y_ : List ByteArray, y_ = (x6_2 ++ [(rd_T48 x3_2 x7_3).f0]) := ⟨_, rfl⟩
                                      replace H : (spec_l05Clash.l4 k3 l0 y169 y172 0 ((rd_T48 x3_2 x7_3).f0) ((rd_T48 x3_2 x7_3).f1)) = some r := by first | (rw [hy172]; with_reducible exact H) | (have H2_ := (Option.bind_some _ _).symm.trans H; rw [hy172]; with_reducible exact H2_) | (have H2_ := (Option.bind_some _ _).symm.trans H; with_reducible exact H2_) | with_reducible exact H | (rw [hy172]; exact H) | exact H
                                      have Ny172 := Aside0.mk hy172
                                      clear hy172
                                      have H' := Aside0.mk H
                                      clear H
                                      have p153 : 0 ≤ (x7_3 : Int) := of_decide_eq_true (by first | (with_reducible assumption) | assumption)
                                      have q153 : x7_3 < (x3_2.length : Int) := of_decide_eq_true (by first | (with_reducible assumption) | assumption)
                                      obtain ⟨ad153, e153, hx153_0, hx153_1⟩ := at_T48 (Kd.R_reads' HO_3.out).2.2 x7_3 p153 q153
                                      cases e153
                                      replace p153 := eq_true p153
                                      replace q153 := eq_true q153
                                      go_wp2_with (first | ((with_reducible refine gate_dst (N := 11) rfl ?_); (try (refine gate_guard (by rfl) ?_; dsimp only)); refine box_event ?hg (N := 11) ?hd (cs := #[.string (⟨#[]⟩ : ByteArray), .string (⟨#[]⟩ : ByteArray)]) (t := 48) ?hr ?_; (case hd => rfl); (case hg => rfl); (case hr => first | (go_simp; done) | (go_simp; rfl)); intro gb154 hg w52 hbox hb; have n0_ := Aside0.mk (Kd.R_below (Kd.R_elderB (by (with_reducible repeat (first | apply Kd.R_alloc | apply Kd.R_drewN | apply Kd.R_drew)); exact HO_3.out) gb154 (Nat.le_of_eq hg.symm)) hb); have n1_ := Aside0.mk (Kd.R_below (by (with_reducible repeat (first | apply Kd.R_alloc | apply Kd.R_drewN | apply Kd.R_drew)); exact HO_6.out) hb); have n2_ := Aside0.mk (below_step (by repeat (first | (with_reducible first | exact HB.out | apply below_alloc | apply pw_below_drewN | apply below_drew1) | exact HB.out)) hb); have n3_ := Aside0.mk (hbox); have n4_ := Aside0.mk ((by rw [hg]; exact (below_size (by repeat (first | (with_reducible first | exact HB.out | apply below_alloc | apply pw_below_drewN | apply below_drew1) | exact HB.out))) : w.heap.size ≤ gb154)); have n5_ := Aside0.mk ((by rw [hg]; exact (below_size (by repeat (first | (with_reducible first | exact HB.out | apply below_alloc | apply pw_below_drewN | apply below_drew1) | exact HB.out))) : w.heap.size ≤ gb154)); clear HO_3; clear HO_6; clear HB; have HO_3 := n0_; have HO_6 := n1_; have HB := n2_; have BK154 := n3_; have GW154 := n4_; have GE154 := n5_; clear n0_ n1_ n2_ n3_ n4_ n5_; clear hb hbox hg; have hcz53_0 : w52.cell? ⟨gb154, 0, none⟩ = some (.string (⟨#[]⟩ : ByteArray)) := (blk_cell BK154.out 0).trans rfl; have hcz53_1 : w52.cell? ⟨gb154, 1, none⟩ = some (.string (⟨#[]⟩ : ByteArray)) := (blk_cell BK154.out 1).trans rfl; have hfz53_0 := blk_frozen BK154.out 0; have hfz53_1 := blk_frozen BK154.out 1) | ((with_reducible refine gate_dst (N := 102) rfl ?_); (try (refine gate_guard (by rfl) ?_; dsimp only)); refine Kd.R_lit k48 _ 48 ?hg (N := 102) ?hd (xs := ([] : List (S48))) (inner := []) (ok := fun _ => True) (okp := fun _ => True) ?hr ?hp (fun _ hk => hk) trivial (Below.refl _ _) (Nat.le_refl _) (by simp) ?_; (case hd => rfl); (case hg => rfl); (case hr => first | (go_simp; done) | (go_simp; rfl)); (case hp => exact (Reps.none _ _)); intro v156 w54 ho55 hb hg_ hnew_; clear hg_ hnew_; (first | rw [← Ny155.out] at ho55 | (simp only [Int.reduceToNat] at ho55; rw [← Ny155.out] at ho55)); have n0_ := Aside0.mk (Kd.R_elder' (by (with_reducible repeat (first | apply Kd.R_alloc | apply Kd.R_drewN | apply Kd.R_drew)); exact (Kd.R_mono (Kd.R_far (p := ⟨gb154, 1, none⟩) (Kd.R_far (p := ⟨gb154, 0, none⟩) (Kd.R_mono HO_3.out (fun k_ hk => (⟨hk, hk.2⟩ : _ ∧ k_ ≠ gb154))) (fun _ hk => hk.2) (.string ((rd_T48 x3_2 x7_3).f0))) (fun _ hk => hk.2) (.string ((rd_T48 x3_2 x7_3).f1))) (fun _ h_ => h_.1))) (Kd.R_base ho55) hb); have n1_ := Aside0.mk (Kd.R_below (by (with_reducible repeat (first | apply Kd.R_alloc | apply Kd.R_drewN | apply Kd.R_drew)); exact (Kd.R_mono (Kd.R_far (p := ⟨gb154, 1, none⟩) (Kd.R_far (p := ⟨gb154, 0, none⟩) (Kd.R_types HO_6.out BK154.out (by decide)) (fun _ hk => hk.2) (.string ((rd_T48 x3_2 x7_3).f0))) (fun _ hk => hk.2) (.string ((rd_T48 x3_2 x7_3).f1))) (fun _ h_ => h_.1))) hb); have n2_ := Aside0.mk (Kd.R_lower (Kd.R_newB (Kd.R_new' ho55 (Kd.R_lt (by (with_reducible repeat (first | apply Kd.R_alloc | apply Kd.R_drewN | apply Kd.R_drew)); exact (Kd.R_mono (Kd.R_far (p := ⟨gb154, 1, none⟩) (Kd.R_far (p := ⟨gb154, 0, none⟩) (Kd.R_mono HO_3.out (fun k_ hk => (⟨hk, hk.2⟩ : _ ∧ k_ ≠ gb154))) (fun _ hk => hk.2) (.string ((rd_T48 x3_2 x7_3).f0))) (fun _ hk => hk.2) (.string ((rd_T48 x3_2 x7_3).f1))) (fun _ h_ => h_.1))))) (g := gb154) (o := .cells #[.string ((rd_T48 x3_2 x7_3).f0), .string ((rd_T48 x3_2 x7_3).f1)] 48 (0, 0)) (by (with_reducible repeat (first | refine blk_drewN ?_ _ | refine blk_drew ?_ | refine blk_alloc ?_ _)); refine blk_put (cs := #[.string ((rd_T48 x3_2 x7_3).f0), .string (⟨#[]⟩ : ByteArray)]) ?_ 1 _ rfl; (with_reducible repeat (first | refine blk_drewN ?_ _ | refine blk_drew ?_ | refine blk_alloc ?_ _)); refine blk_put (cs := #[.string (⟨#[]⟩ : ByteArray), .string (⟨#[]⟩ : ByteArray)]) ?_ 0 _ rfl; (with_reducible repeat (first | refine blk_drewN ?_ _ | refine blk_drew ?_ | refine blk_alloc ?_ _)); exact BK154.out)) (below_size (by repeat (first | (with_reducible first | exact HB.out | apply below_alloc | apply pw_below_drewN | apply below_drew1 | refine below_set ?_ GE154.out) | exact HB.out)))); have n3_ := Aside0.mk (blk_below (g := gb154) (o := .cells #[.string ((rd_T48 x3_2 x7_3).f0), .string ((rd_T48 x3_2 x7_3).f1)] 48 (0, 0)) (by (with_reducible repeat (first | refine blk_drewN ?_ _ | refine blk_drew ?_ | refine blk_alloc ?_ _)); refine blk_put (cs := #[.string ((rd_T48 x3_2 x7_3).f0), .string (⟨#[]⟩ : ByteArray)]) ?_ 1 _ rfl; (with_reducible repeat (first | refine blk_drewN ?_ _ | refine blk_drew ?_ | refine blk_alloc ?_ _)); refine blk_put (cs := #[.string (⟨#[]⟩ : ByteArray), .string (⟨#[]⟩ : ByteArray)]) ?_ 0 _ rfl; (with_reducible repeat (first | refine blk_drewN ?_ _ | refine blk_drew ?_ | refine blk_alloc ?_ _)); exact BK154.out) hb); have n4_ := Aside0.mk (below_step (by repeat (first | (with_reducible first | exact HB.out | apply below_alloc | apply pw_below_drewN | apply below_drew1 | refine below_set ?_ GE154.out) | exact HB.out)) hb); clear HO_3; clear HO_6; clear BK154; clear HB; have HO_3 := n0_; have HO_6 := n1_; have HO157 := n2_; have BK154 := n3_; have HB := n4_; clear n0_ n1_ n2_ n3_ n4_; clear hb ho55; have q56 : (x7_3 : Int) ≤ ((x3_2.length : Int) : Int) := of_decide_eq_true (by first | (with_reducible assumption) | assumption); obtain ⟨i056, hi056, _, hsz56, _⟩ := info_parts info48; have hroom56 : x3_2.length ≤ co24 := (Kd.R_reads' HO_3.out).2.1; have hC56 : Kd.C k48 _ (some ad153) x3_2.length x3_2 := (Kd.R_reads' HO_3.out).2.2; have hcut56 := cut_to (P := Tryd.prog) 44 48 .i64 Tryd.underlying44 hi056 (some ad153) x3_2.length co24 x7_3 (of_decide_eq_true (by first | (with_reducible assumption) | assumption)) q56 hroom56; have hr56 := Kd.C_take (m := (x7_3 : Int).toNat) hC56 (by omega); have hy56 : y158.length = (x7_3 : Int).toNat := (by rw [Ny158.out, List.length_take]; omega); rw [← Ny158.out] at hr56; rw [← hy56] at hcut56; have HR161 := Aside0.mk hr56; have HC161 := Aside0.mk (show y158.length ≤ co24 from by omega); clear hr56 hC56 hroom56 hi056 hsz56; have KY56 := Aside0.mk hy56; clear hy56; have KL56 := Aside0.mk (show (x7_3 : Int).toNat ≤ x3_2.length from by omega); replace q56 := eq_true q56) | ((with_reducible refine gate_builtin (b := .append) (xs := #[.tmp 102, .tmp 105]) rfl ?_); (try (refine gate_guard (by rfl) ?_; dsimp only)); at_builtin; refine Kd.R_append_rows k48 (w0 := w) w.heap.size rfl (.tmp 102) (.tmp 105) 44 48 (.agg #[(.string ⟨#[]⟩), (.string ⟨#[]⟩)]) 32 rfl Tryd.underlying44 info48 rfl (by decide) (by omega) v156 y155 y158 _ _ _ (fun k_ => some k_ ≠ (.slice (some ad153) x3_2.length co24 : Value).ownBlock ∧ k_ ≠ gb154) (fun _ => False) rfl rfl ?aO ?aR (fun _ _ h => h) (fun _ h => h.elim) ?aF ?aB ?aS ?aL ?_; (case aR => repeat (first | exact (by repeat (first | (with_reducible exact HR161.out) | (with_reducible refine Kd.C_alloc ?_ _) | (with_reducible refine Kd.C_drewN ?_ _) | (with_reducible refine Kd.C_drew ?_) | exact HR161.out)) | (with_reducible refine Kd.C_alloc ?_ _) | (with_reducible refine Kd.C_drewN ?_ _) | (with_reducible refine Kd.C_drew ?_))); (case aB => exact (by repeat (first | (with_reducible first | exact HB.out | apply below_alloc | apply pw_below_drewN | apply below_drew1 | refine below_set ?_ GE154.out) | exact HB.out))); (case aF => exact (fun k_ hk => ⟨Kd.fresh' (Kd.R_lt (by (with_reducible repeat (first | apply Kd.R_alloc | apply Kd.R_drewN | apply Kd.R_drew)); exact HO_3.out)) k_ hk, Kd.freshB (g := gb154) (o := .cells #[.string ((rd_T48 x3_2 x7_3).f0), .string ((rd_T48 x3_2 x7_3).f1)] 48 (0, 0)) (by (with_reducible repeat (first | refine blk_drewN ?_ _ | refine blk_drew ?_ | refine blk_alloc ?_ _)); exact BK154.out) k_ hk⟩)); (case aO => exact (by (with_reducible repeat (first | apply Kd.R_alloc | apply Kd.R_drewN | apply Kd.R_drew)); exact Kd.R_mono HO157.out (fun _ hk => ⟨hk.1.2, hk.2⟩))); (case aS => exact (below_size (by repeat (first | (with_reducible first | exact HB.out | apply below_alloc | apply pw_below_drewN | apply below_drew1 | refine below_set ?_ GE154.out) | exact HB.out)))); (case aL => have := LMc36.out; omega); intro v163 w57 ho hb hg hat; rw [← Ny162.out] at ho; have n0_ := Aside0.mk (Kd.R_after (ok := (fun k_ => k_ ≠ gb154)) (by (with_reducible repeat (first | apply Kd.R_alloc | apply Kd.R_drewN | apply Kd.R_drew)); exact Kd.R_mono HO_3.out (fun _ hk => ⟨hk.1.2, hk.2⟩)) hg hat); have n1_ := Aside0.mk (Kd.R_over' (by (with_reducible repeat (first | apply Kd.R_alloc | apply Kd.R_drewN | apply Kd.R_drew)); exact HO_6.out) (Kd.R_typed (by (with_reducible repeat (first | apply Kd.R_alloc | apply Kd.R_drewN | apply Kd.R_drew)); exact HO157.out)) (by decide) hg); have n2_ := Aside0.mk (blk_grown (g := gb154) (o := .cells #[.string ((rd_T48 x3_2 x7_3).f0), .string ((rd_T48 x3_2 x7_3).f1)] 48 (0, 0)) (by (with_reducible repeat (first | refine blk_drewN ?_ _ | refine blk_drew ?_ | refine blk_alloc ?_ _)); exact BK154.out) hg (Kd.R_away HO157.out (fun _ hk => hk.2))); have n3_ := Aside0.mk (hb); have n4_ := Aside0.mk ((show Kd.C k48 w57 (some ad153) y158.length y158 from by rw [Ny158.out]; exact Kd.C_take (m := (x7_3 : Int).toNat) ((Kd.R_reads' (Kd.R_after (ok := (fun k_ => k_ ≠ gb154)) (by (with_reducible repeat (first | apply Kd.R_alloc | apply Kd.R_drewN | apply Kd.R_drew)); exact Kd.R_mono HO_3.out (fun _ hk => ⟨hk.1.2, hk.2⟩)) hg hat)).2.2) KL56.out)); have n5_ := Aside0.mk (ho); clear HO_3; clear HO_6; clear BK154; clear HB; clear HR161; clear HO157; have HO_3 := n0_; have HO_6 := n1_; have BK154 := n2_; have HB := n3_; have HR161 := n4_; have HO164 := n5_; clear n0_ n1_ n2_ n3_ n4_ n5_; clear ho hb hg hat; have q58 : ((ji37) : Int) ≤ ((x3_2.length : Int) : Int) := of_decide_eq_true (by first | (with_reducible assumption) | assumption); obtain ⟨i058, hi058, _, hsz58, _⟩ := info_parts info48; have hroom58 : x3_2.length ≤ co24 := (Kd.R_reads' HO_3.out).2.1; have hC58 : Kd.C k48 _ (some ad153) x3_2.length x3_2 := (Kd.R_reads' HO_3.out).2.2; have q058 : (0 : Int) ≤ ((ji37) : Int) := of_decide_eq_true (by first | (with_reducible assumption) | assumption); have hcut58 := cut_from (P := Tryd.prog) 44 48 .i64 Tryd.underlying44 hi058 2 hsz58 (some ad153) x3_2.length co24 (ji37) q058 q58; have hr58 := Kd.C_drop (m := ((ji37) : Int).toNat) (c := co24) hC58 (by omega) hroom58; obtain ⟨A58, hA58⟩ : ∃ A1, A1 = (if co24 = ((ji37) : Int).toNat then (some ad153) else ((some ad153) : Option Addr).map (·.add (((ji37) : Int).toNat * 2))) := ⟨_, rfl⟩; obtain ⟨c58, hc58⟩ : ∃ c1, c1 = co24 - ((ji37) : Int).toNat := ⟨_, rfl⟩; have hy58 : y165.length = x3_2.length - ((ji37) : Int).toNat := (by rw [Ny165.out, List.length_drop] <;> omega); rw [show (x3_2).drop ((ji37) : Int).toNat = y165 from Ny165.out.symm] at hr58; replace hr58 : Kd.C k48 _ A58 y165.length y165 := (by rw [hA58]; exact hr58); rw [← hy58, ← hA58, ← hc58] at hcut58; have HR168 := Aside0.mk hr58; have HC168 := Aside0.mk (show y165.length ≤ c58 from by rw [hy58, hc58]; exact Nat.sub_le_sub_right hroom58 _); clear hr58 hC58 hroom58 hi058 hsz58 hc58; have KY58 := Aside0.mk hy58; have KA58 := Aside0.mk hA58; clear hy58 hA58; have KL58 := Aside0.mk (show ((ji37) : Int).toNat ≤ x3_2.length from by omega); replace q58 := eq_true q58) | ((with_reducible refine gate_builtin (b := .append) (xs := #[.tmp 107, .tmp 111]) rfl ?_); (try (refine gate_guard (by rfl) ?_; dsimp only)); at_builtin; refine Kd.R_append_rows k48 (w0 := w) w.heap.size rfl (.tmp 107) (.tmp 111) 44 48 (.agg #[(.string ⟨#[]⟩), (.string ⟨#[]⟩)]) 32 rfl Tryd.underlying44 info48 rfl (by decide) (by omega) v163 y162 y165 _ _ _ (fun k_ => some k_ ≠ (.slice (some ad153) x3_2.length co24 : Value).ownBlock ∧ k_ ≠ gb154) (fun _ => False) rfl rfl ?aO ?aR (fun _ _ h => h) (fun _ h => h.elim) ?aF ?aB ?aS ?aL ?_; (case aR => repeat (first | exact (by repeat (first | (with_reducible exact HR168.out) | (with_reducible refine Kd.C_alloc ?_ _) | (with_reducible refine Kd.C_drewN ?_ _) | (with_reducible refine Kd.C_drew ?_) | exact HR168.out)) | (with_reducible refine Kd.C_alloc ?_ _) | (with_reducible refine Kd.C_drewN ?_ _) | (with_reducible refine Kd.C_drew ?_))); (case aB => exact (by repeat (first | (with_reducible first | exact HB.out | apply below_alloc | apply pw_below_drewN | apply below_drew1 | refine below_set ?_ GE154.out) | exact HB.out))); (case aF => exact (fun k_ hk => ⟨Kd.fresh' (Kd.R_lt (by (with_reducible repeat (first | apply Kd.R_alloc | apply Kd.R_drewN | apply Kd.R_drew)); exact HO_3.out)) k_ hk, Kd.freshB (g := gb154) (o := .cells #[.string ((rd_T48 x3_2 x7_3).f0), .string ((rd_T48 x3_2 x7_3).f1)] 48 (0, 0)) (by (with_reducible repeat (first | refine blk_drewN ?_ _ | refine blk_drew ?_ | refine blk_alloc ?_ _)); exact BK154.out) k_ hk⟩)); (case aO => exact (by (with_reducible repeat (first | apply Kd.R_alloc | apply Kd.R_drewN | apply Kd.R_drew)); exact HO164.out)); (case aS => exact (below_size (by repeat (first | (with_reducible first | exact HB.out | apply below_alloc | apply pw_below_drewN | apply below_drew1 | refine below_set ?_ GE154.out) | exact HB.out)))); (case aL => have := LMc40.out; omega); intro v170 w59 ho hb hg hat; rw [← Ny169.out] at ho; have n0_ := Aside0.mk (Kd.R_after (ok := (fun k_ => k_ ≠ gb154)) (by (with_reducible repeat (first | apply Kd.R_alloc | apply Kd.R_drewN | apply Kd.R_drew)); exact HO_3.out) hg hat); have n1_ := Aside0.mk (Kd.R_over' (by (with_reducible repeat (first | apply Kd.R_alloc | apply Kd.R_drewN | apply Kd.R_drew)); exact HO_6.out) (Kd.R_typed (by (with_reducible repeat (first | apply Kd.R_alloc | apply Kd.R_drewN | apply Kd.R_drew)); exact HO164.out)) (by decide) hg); have n2_ := Aside0.mk (blk_grown (g := gb154) (o := .cells #[.string ((rd_T48 x3_2 x7_3).f0), .string ((rd_T48 x3_2 x7_3).f1)] 48 (0, 0)) (by (with_reducible repeat (first | refine blk_drewN ?_ _ | refine blk_drew ?_ | refine blk_alloc ?_ _)); exact BK154.out) hg (Kd.R_away HO164.out (fun _ hk => hk.2))); have n3_ := Aside0.mk (hb); have n4_ := Aside0.mk ((show Kd.C k48 w59 (some ad153) y158.length y158 from by rw [Ny158.out]; exact Kd.C_take (m := (x7_3 : Int).toNat) ((Kd.R_reads' (Kd.R_after (ok := (fun k_ => k_ ≠ gb154)) (by (with_reducible repeat (first | apply Kd.R_alloc | apply Kd.R_drewN | apply Kd.R_drew)); exact HO_3.out) hg hat)).2.2) KL56.out)); have n5_ := Aside0.mk ((show Kd.C k48 w59 A58 y165.length y165 from by rw [Ny165.out, KA58.out]; exact Kd.C_drop (m := ((ji37) : Int).toNat) (c := co24) ((Kd.R_reads' (Kd.R_after (ok := (fun k_ => k_ ≠ gb154)) (by (with_reducible repeat (first | apply Kd.R_alloc | apply Kd.R_drewN | apply Kd.R_drew)); exact HO_3.out) hg hat)).2.2) KL58.out ((Kd.R_reads' (Kd.R_after (ok := (fun k_ => k_ ≠ gb154)) (by (with_reducible repeat (first | apply Kd.R_alloc | apply Kd.R_drewN | apply Kd.R_drew)); exact HO_3.out) hg hat)).2.1))); have n6_ := Aside0.mk (ho); clear HO_3; clear HO_6; clear BK154; clear HB; clear HR161; clear HR168; clear HO164; have HO_3 := n0_; have HO_6 := n1_; have BK154 := n2_; have HB := n3_; have HR161 := n4_; have HR168 := n5_; have HO171 := n6_; clear n0_ n1_ n2_ n3_ n4_ n5_ n6_; clear ho hb hg hat; have hcz60_0 : w59.cell? ⟨gb154, 0, none⟩ = some (.string ((rd_T48 x3_2 x7_3).f0)) := (blk_cell BK154.out 0).trans rfl; have hcz60_1 : w59.cell? ⟨gb154, 1, none⟩ = some (.string ((rd_T48 x3_2 x7_3).f1)) := (blk_cell BK154.out 1).trans rfl; have hfz60_0 := blk_frozen BK154.out 0; have hfz60_1 := blk_frozen BK154.out 1) | ((with_reducible refine gate_builtin (b := .append) (xs := #[.tmp 118, .tmp 121]) rfl ?_); (try (refine gate_guard (by rfl) ?_; dsimp only)); at_builtin; refine Kd.R_append Kd.string (w0 := w) w.heap.size rfl (.tmp 118) (.tmp 121) 22 9 (.string ⟨#[]⟩) 16 rfl Tryd.underlying22 info9 rfl (by decide) (by omega) u6 x6_2 ((rd_T48 x3_2 x7_3).f0) [.string ((rd_T48 x3_2 x7_3).f0)] (fun _ => True) (fun _ => False) rfl rfl ?aP (fun _ hk => hk.elim) ?aF ?aO ?aB ?aS ?aL ?_; (case aP => exact rfl); (case aB => exact (by repeat (first | (with_reducible first | exact HB.out | apply below_alloc | apply pw_below_drewN | apply below_drew1 | refine below_set ?_ GE154.out) | exact HB.out))); (case aF => exact (fun _ _ => trivial)); (case aO => exact (by (with_reducible repeat (first | apply Kd.R_alloc | apply Kd.R_drewN | apply Kd.R_drew)); exact HO_6.out)); (case aS => exact (below_size (by repeat (first | (with_reducible first | exact HB.out | apply below_alloc | apply pw_below_drewN | apply below_drew1 | refine below_set ?_ GE154.out) | exact HB.out)))); (case aL => have := LMc51.out; omega); intro v173 w61 ho hb hg hat; rw [← Ny172.out] at ho; have n0_ := Aside0.mk (Kd.R_over' (by (with_reducible repeat (first | apply Kd.R_alloc | apply Kd.R_drewN | apply Kd.R_drew)); exact HO_3.out) (Kd.R_typed (by (with_reducible repeat (first | apply Kd.R_alloc | apply Kd.R_drewN | apply Kd.R_drew)); exact HO_6.out)) (by decide) hg); have n1_ := Aside0.mk (blk_grown (g := gb154) (o := .cells #[.string ((rd_T48 x3_2 x7_3).f0), .string ((rd_T48 x3_2 x7_3).f1)] 48 (0, 0)) (by (with_reducible repeat (first | refine blk_drewN ?_ _ | refine blk_drew ?_ | refine blk_alloc ?_ _)); exact BK154.out) hg (Kd.R_ne HO_6.out BK154.out (by decide))); have n2_ := Aside0.mk (Kd.R_over' (by (with_reducible repeat (first | apply Kd.R_alloc | apply Kd.R_drewN | apply Kd.R_drew)); exact HO171.out) (Kd.R_typed (by (with_reducible repeat (first | apply Kd.R_alloc | apply Kd.R_drewN | apply Kd.R_drew)); exact HO_6.out)) (by decide) hg); have n3_ := Aside0.mk (hb); have n4_ := Aside0.mk ((show Kd.C k48 w61 (some ad153) y158.length y158 from by rw [Ny158.out]; exact Kd.C_take (m := (x7_3 : Int).toNat) ((Kd.R_reads' (Kd.R_over' (by (with_reducible repeat (first | apply Kd.R_alloc | apply Kd.R_drewN | apply Kd.R_drew)); exact HO_3.out) (Kd.R_typed (by (with_reducible repeat (first | apply Kd.R_alloc | apply Kd.R_drewN | apply Kd.R_drew)); exact HO_6.out)) (by decide) hg)).2.2) KL56.out)); have n5_ := Aside0.mk ((show Kd.C k48 w61 A58 y165.length y165 from by rw [Ny165.out, KA58.out]; exact Kd.C_drop (m := ((ji37) : Int).toNat) (c := co24) ((Kd.R_reads' (Kd.R_over' (by (with_reducible repeat (first | apply Kd.R_alloc | apply Kd.R_drewN | apply Kd.R_drew)); exact HO_3.out) (Kd.R_typed (by (with_reducible repeat (first | apply Kd.R_alloc | apply Kd.R_drewN | apply Kd.R_drew)); exact HO_6.out)) (by decide) hg)).2.2) KL58.out ((Kd.R_reads' (Kd.R_over' (by (with_reducible repeat (first | apply Kd.R_alloc | apply Kd.R_drewN | apply Kd.R_drew)); exact HO_3.out) (Kd.R_typed (by (with_reducible repeat (first | apply Kd.R_alloc | apply Kd.R_drewN | apply Kd.R_drew)); exact HO_6.out)) (by decide) hg)).2.1))); have n6_ := Aside0.mk (ho); clear HO_3; clear BK154; clear HO171; clear HB; clear HR161; clear HR168; clear HO_6; have HO_3 := n0_; have BK154 := n1_; have HO171 := n2_; have HB := n3_; have HR161 := n4_; have HR168 := n5_; have HO174 := n6_; clear n0_ n1_ n2_ n3_ n4_ n5_ n6_; clear ho hb hg hat))
                                      go_loopg [3, 13] k3 (fun kq v3 v13 w' => ∃ (x3_4 : List (S48)) (x13_4 : Int), v13 = .int .i64 x13_4 ∧ Aside0 (spec_l05Clash.l4 kq l0 x3_4 y172 x13_4 ((rd_T48 x3_2 x7_3).f0) ((rd_T48 x3_2 x7_3).f1) = some r) ∧ Aside0 (kq ≤ k3) ∧ Aside0 (Kd.R k48 48 w' w.heap.size (fun k_ => k_ ≠ gb154) v3 x3_4) ∧ Aside0 (Kd.R Kd.string 9 w' w.heap.size (fun _ => True) v173 y172) ∧ Aside0 (w'.heap[gb154]? = some (.cells #[.string ((rd_T48 x3_2 x7_3).f0), .string ((rd_T48 x3_2 x7_3).f1)] 48 (0, 0))) ∧ Aside0 (Below w.heap.size w w'))
                                      case atStart => exact ⟨(y169), (0), (by first | rfl | (simp; done) | (simp [*]; done)), H', ⟨Nat.le_refl _⟩, ⟨by (with_reducible repeat (first | apply Kd.R_alloc | apply Kd.R_drewN | apply Kd.R_drew)); exact Kd.R_mono HO171.out (fun _ hk => hk.2)⟩, ⟨by (with_reducible repeat (first | apply Kd.R_alloc | apply Kd.R_drewN | apply Kd.R_drew)); exact HO174.out⟩, ⟨by (with_reducible repeat (first | refine blk_drewN ?_ _ | refine blk_drew ?_ | refine blk_alloc ?_ _)); exact BK154.out⟩, ⟨by repeat (first | (with_reducible first | exact HB.out | apply below_alloc | apply pw_below_drewN | apply below_drew1 | refine below_set ?_ GE154.out) | exact HB.out)⟩⟩
                                      case round =>
                                        clear H'
                                        try clear c1
                                        try clear p1
                                        try clear q1
                                        try clear hx1
                                        try clear c2
                                        try clear p2
                                        try clear c3
                                        try clear c4
                                        try clear c4b0
                                        try clear q4
                                        try clear c5
                                        try clear c5b0
                                        try clear q5
                                        try clear c6
                                        try clear c6b0
                                        try clear c6b1
                                        try clear p6
                                        try clear c8
                                        try clear c8b0
                                        try clear c9
                                        try clear c9b0
                                        try clear c10
                                        try clear c10b0
                                        try clear c12
                                        try clear c13
                                        try clear c13b0
                                        try clear c13b1
                                        try clear p13
                                        try clear q13
                                        try clear hx13
                                        try clear c14
                                        try clear c14b0
                                        try clear c14b1
                                        try clear p14
                                        try clear q14
                                        try clear hx14
                                        try clear p15
                                        try clear q15
                                        try clear hx15
                                        try clear c23
                                        try clear c23b0
                                        try clear c23b1
                                        try clear c25
                                        try clear c25b0
                                        try clear c26
                                        try clear c26b0
                                        try clear c27
                                        try clear c27b0
                                        try clear c28
                                        try clear c28b0
                                        try clear c29
                                        try clear c29b0
                                        try clear c29b1
                                        try clear c30
                                        try clear c30b0
                                        try clear c30b1
                                        try clear c30b2
                                        try clear c31
                                        try clear c31b0
                                        try clear c32
                                        try clear c32b0
                                        try clear c33
                                        try clear c33b0
                                        try clear c34
                                        try clear c34b0
                                        try clear c35
                                        try clear c35b0
                                        try clear c35b1
                                        try clear c36
                                        try clear c38
                                        try clear c38b0
                                        try clear c38b1
                                        try clear c39
                                        try clear c39b0
                                        try clear c39b1
                                        try clear c40
                                        try clear c41
                                        try clear c41b0
                                        try clear c41b1
                                        try clear q46
                                        try clear c48
                                        try clear q48
                                        try clear c51
                                        try clear q56
                                        try clear c58
                                        try clear q58
                                        try clear hcz43_0
                                        try clear hcz43_1
                                        try clear hcz50_0
                                        try clear hcz50_1
                                        try clear hcz53_0
                                        try clear hcz53_1
                                        try clear hcz60_0
                                        try clear hcz60_1
                                        try clear hfz43_0
                                        try clear hfz43_1
                                        try clear hfz50_0
                                        try clear hfz50_1
                                        try clear hfz53_0
                                        try clear hfz53_1
                                        try clear hfz60_0
                                        try clear hfz60_1
                                        try clear hx139_0
                                        try clear hx140_0
                                        try clear hx142_0
                                        try clear hx143_0
                                        try clear hx144_0
                                        try clear hx151_0
                                        try clear hx151_1
                                        try clear hx152_0
                                        try clear hx152_1
                                        try clear hx153_0
                                        try clear hx153_1
                                        try clear p1
                                        try clear p13
                                        try clear p139
                                        try clear p14
                                        try clear p140
                                        try clear p142
                                        try clear p143
                                        try clear p144
                                        try clear p151
                                        try clear p152
                                        try clear p153
                                        try clear p2
                                        try clear p6
                                        try clear q048
                                        try clear q058
                                        try clear q1
                                        try clear q13
                                        try clear q139
                                        try clear q14
                                        try clear q140
                                        try clear q142
                                        try clear q143
                                        try clear q144
                                        try clear q151
                                        try clear q152
                                        try clear q153
                                        try clear q46
                                        try clear q48
                                        try clear q56
                                        try clear q58
                                        obtain ⟨x3_4, x13_4, rfl, HA, HK4, HO_3, HO_6, BK154, HB⟩ := hrel
                                        cases gk with
                                        | zero => exact absurd HA.out (by simp [spec_l05Clash.l4])
                                        | succ k4 =>
                                          have H := HA.out
                                          clear HA
                                          simp only [spec_l05Clash.l4] at H
                                          by_cases c62 : x13_4 < (l0.length : Int)
                                          · rw [if_pos c62] at H
                                            have c62b0 : decide (x13_4 < (l0.length : Int)) = true := decide_eq_true c62
                                            clear c62
                                            by_cases c63 : 0 ≤ x13_4
                                            · rw [if_pos c63] at H
                                              have c63b0 : decide (0 ≤ x13_4) = true := decide_eq_true c63
                                              clear c63
                                              have HC64 := Aside0.mk H
                                              clear H
                                              have p175 : 0 ≤ (x13_4 : Int) := of_decide_eq_true (by first | (with_reducible assumption) | assumption)
                                              have q175 : x13_4 < (l0.length : Int) := of_decide_eq_true (by first | (with_reducible assumption) | assumption)
                                              obtain ⟨ad175, e175, hx175_0⟩ := Kd.at_string HR0.out x13_4 p175 q175
                                              cases e175
                                              replace hx175_0 := (HB.out.cell (World.block_lt_of_cell? w _ hx175_0)).trans hx175_0
                                              replace p175 := eq_true p175
                                              replace q175 := eq_true q175
                                              have hcz65_0 : wr.cell? ⟨gb154, 0, none⟩ = some (.string ((rd_T48 x3_2 x7_3).f0)) := (blk_cell BK154.out 0).trans rfl
                                              have hcz65_1 : wr.cell? ⟨gb154, 1, none⟩ = some (.string ((rd_T48 x3_2 x7_3).f1)) := (blk_cell BK154.out 1).trans rfl
                                              have hfz65_0 := blk_frozen BK154.out 0
                                              have hfz65_1 := blk_frozen BK154.out 1
                                              go_upto_block 10 with (first | ((with_reducible refine gate_dst (N := 15) rfl ?_); (try (refine gate_guard (by rfl) ?_; dsimp only)); refine box_event ?hg (N := 15) ?hd (cs := #[.string (⟨#[]⟩ : ByteArray), .string (⟨#[]⟩ : ByteArray)]) (t := 48) ?hr ?_; (case hd => rfl); (case hg => rfl); (case hr => first | (go_simp; done) | (go_simp; rfl)); intro gb176 hg w66 hbox hb; have n0_ := Aside0.mk (Kd.R_below (Kd.R_elderB (by (with_reducible repeat (first | apply Kd.R_alloc | apply Kd.R_drewN | apply Kd.R_drew)); exact HO_3.out) gb176 (Nat.le_of_eq hg.symm)) hb); have n1_ := Aside0.mk (Kd.R_below (by (with_reducible repeat (first | apply Kd.R_alloc | apply Kd.R_drewN | apply Kd.R_drew)); exact HO_6.out) hb); have n2_ := Aside0.mk (blk_below (g := gb154) (o := .cells #[.string ((rd_T48 x3_2 x7_3).f0), .string ((rd_T48 x3_2 x7_3).f1)] 48 (0, 0)) (by (with_reducible repeat (first | refine blk_drewN ?_ _ | refine blk_drew ?_ | refine blk_alloc ?_ _)); exact BK154.out) hb); have n3_ := Aside0.mk (below_step (by repeat (first | (with_reducible first | exact HB.out | apply below_alloc | apply pw_below_drewN | apply below_drew1 | refine below_set ?_ GE154.out) | exact HB.out)) hb); have n4_ := Aside0.mk (hbox); have n5_ := Aside0.mk ((by rw [hg]; exact (below_size (by repeat (first | (with_reducible first | exact HB.out | apply below_alloc | apply pw_below_drewN | apply below_drew1 | refine below_set ?_ GE154.out) | exact HB.out))) : w.heap.size ≤ gb176)); have n6_ := Aside0.mk ((by rw [hg]; exact (below_size (by repeat (first | (with_reducible first | exact HB.out | apply below_alloc | apply pw_below_drewN | apply below_drew1 | refine below_set ?_ GE154.out) | exact HB.out))) : w.heap.size ≤ gb176)); have n7_ := Aside0.mk ((by rw [hg]; exact Nat.ne_of_lt (blk_lt (g := gb154) (o := .cells #[.string ((rd_T48 x3_2 x7_3).f0), .string ((rd_T48 x3_2 x7_3).f1)] 48 (0, 0)) (by (with_reducible repeat (first | refine blk_drewN ?_ _ | refine blk_drew ?_ | refine blk_alloc ?_ _)); exact BK154.out)) : gb154 ≠ gb176)); have n8_ := Aside0.mk ((by rw [hg]; exact Nat.ne_of_gt (blk_lt (g := gb154) (o := .cells #[.string ((rd_T48 x3_2 x7_3).f0), .string ((rd_T48 x3_2 x7_3).f1)] 48 (0, 0)) (by (with_reducible repeat (first | refine blk_drewN ?_ _ | refine blk_drew ?_ | refine blk_alloc ?_ _)); exact BK154.out)) : gb176 ≠ gb154)); clear HO_3; clear HO_6; clear BK154; clear HB; have HO_3 := n0_; have HO_6 := n1_; have BK154 := n2_; have HB := n3_; have BK176 := n4_; have GW176 := n5_; have GE176 := n6_; have NB154_176 := n7_; have NB176_154 := n8_; clear n0_ n1_ n2_ n3_ n4_ n5_ n6_ n7_ n8_; clear hb hbox hg; have hnb67 := NB176_154.out; have hnc67 := NB154_176.out; have hcz68_0 : w66.cell? ⟨gb176, 0, none⟩ = some (.string (⟨#[]⟩ : ByteArray)) := (blk_cell BK176.out 0).trans rfl; have hcz68_1 : w66.cell? ⟨gb176, 1, none⟩ = some (.string (⟨#[]⟩ : ByteArray)) := (blk_cell BK176.out 1).trans rfl; have hfz68_0 := blk_frozen BK176.out 0; have hfz68_1 := blk_frozen BK176.out 1))
                                              (try simp only [Act.put, List.setIfInBounds_toArray, List.set_cons_zero, List.set_cons_succ])
                                              go_cut [] (fun wc => ∃ (kq : Nat) (x177000_63 : ByteArray) (x177001_63 : ByteArray), Aside0 (spec_l05Clash.j5 kq l0 x3_4 y172 x13_4 ((rd_T48 x3_2 x7_3).f0) ((rd_T48 x3_2 x7_3).f1) x177000_63 x177001_63 = some r) ∧ Aside0 (kq ≤ k4) ∧ Aside0 (Kd.R k48 48 wc w.heap.size (fun k_ => k_ ≠ gb154 ∧ k_ ≠ gb176) u3 x3_4) ∧ Aside0 (Kd.R Kd.string 9 wc w.heap.size (fun _ => True) v173 y172) ∧ Aside0 (wc.heap[gb154]? = some (.cells #[.string ((rd_T48 x3_2 x7_3).f0), .string ((rd_T48 x3_2 x7_3).f1)] 48 (0, 0))) ∧ Aside0 (wc.heap[gb176]? = some (.cells #[.string x177000_63, .string x177001_63] 48 (0, 0))) ∧ Aside0 (Below w.heap.size w wc))
                                              case first =>
                                                have H := HC64.out
                                                clear HC64
                                                replace H := Option.bind_eq_some_iff.mp H
                                                obtain ⟨t177, A690, H⟩ := H
                                                replace H : (if t177 = true then (if 0 ≤ ((rdOf ByteArray.empty l0 x13_4).size : Int) then (if ((rdOf ByteArray.empty l0 x13_4).size : Int) ≤ (((rd_T48 x3_2 x7_3).f0).size : Int) then (spec_l05Clash.j5 k4 l0 x3_4 y172 x13_4 ((rd_T48 x3_2 x7_3).f0) ((rd_T48 x3_2 x7_3).f1) (((rd_T48 x3_2 x7_3).f0).extract (((rdOf ByteArray.empty l0 x13_4).size : Int) : Int).toNat ((rd_T48 x3_2 x7_3).f0).size) ((rd_T48 x3_2 x7_3).f1)) else (none)) else (none)) else ((spec_l01At.f (rdOf ByteArray.empty l0 x13_4) ((rd_T48 x3_2 x7_3).f0) 0).bind fun t178 => (if t178 = true then (if 0 ≤ (((rd_T48 x3_2 x7_3).f0).size : Int) then (if (((rd_T48 x3_2 x7_3).f0).size : Int) ≤ ((rdOf ByteArray.empty l0 x13_4).size : Int) then (if ((rd_T48 x3_2 x7_3).f1).size + ((rdOf ByteArray.empty l0 x13_4).extract ((((rd_T48 x3_2 x7_3).f0).size : Int) : Int).toNat (rdOf ByteArray.empty l0 x13_4).size).size ≤ 9223372036854775807 then (spec_l05Clash.j5 k4 l0 x3_4 y172 x13_4 ((rd_T48 x3_2 x7_3).f0) ((rd_T48 x3_2 x7_3).f1) ((rdOf ByteArray.empty l0 x13_4).extract ((((rd_T48 x3_2 x7_3).f0).size : Int) : Int).toNat (rdOf ByteArray.empty l0 x13_4).size) (((rd_T48 x3_2 x7_3).f1) ++ ((rdOf ByteArray.empty l0 x13_4).extract ((((rd_T48 x3_2 x7_3).f0).size : Int) : Int).toNat (rdOf ByteArray.empty l0 x13_4).size))) else (none)) else (none)) else (none)) else (spec_l05Clash.l4 k4 l0 x3_4 y172 (wrap64 (x13_4 + 1)) ((rd_T48 x3_2 x7_3).f0) ((rd_T48 x3_2 x7_3).f1))))) = some r := H
                                                have A69 := Aside0.mk A690
                                                clear A690
                                                by_cases c70 : t177 = true
                                                · subst c70
                                                  have H1 : (if 0 ≤ ((rdOf ByteArray.empty l0 x13_4).size : Int) then (if ((rdOf ByteArray.empty l0 x13_4).size : Int) ≤ (((rd_T48 x3_2 x7_3).f0).size : Int) then (spec_l05Clash.j5 k4 l0 x3_4 y172 x13_4 ((rd_T48 x3_2 x7_3).f0) ((rd_T48 x3_2 x7_3).f1) (((rd_T48 x3_2 x7_3).f0).extract (((rdOf ByteArray.empty l0 x13_4).size : Int) : Int).toNat ((rd_T48 x3_2 x7_3).f0).size) ((rd_T48 x3_2 x7_3).f1)) else (none)) else (none)) = some r := by rw [if_pos rfl] at H; exact H
                                                  clear H
                                                  have H := H1
                                                  clear H1
                                                  by_cases c71 : 0 ≤ ((rdOf ByteArray.empty l0 x13_4).size : Int)
                                                  · rw [if_pos c71] at H
                                                    have c71b0 := eq_true c71
                                                    have c71b1 : decide (0 ≤ ((rdOf ByteArray.empty l0 x13_4).size : Int)) = true := decide_eq_true c71
                                                    clear c71
                                                    by_cases c72 : ((rdOf ByteArray.empty l0 x13_4).size : Int) ≤ (((rd_T48 x3_2 x7_3).f0).size : Int)
                                                    · rw [if_pos c72] at H
                                                      have c72b0 := eq_true c72
                                                      have c72b1 : decide (((rdOf ByteArray.empty l0 x13_4).size : Int) ≤ (((rd_T48 x3_2 x7_3).f0).size : Int)) = true := decide_eq_true c72
                                                      clear c72
                                                      have H' := Aside0.mk H
                                                      clear H
                                                      have hnb73 := NB154_176.out
                                                      have hnc73 := NB176_154.out
                                                      have hcz74_0 : w66.cell? ⟨gb154, 0, none⟩ = some (.string ((rd_T48 x3_2 x7_3).f0)) := (blk_cell BK154.out 0).trans rfl
                                                      have hcz74_1 : w66.cell? ⟨gb154, 1, none⟩ = some (.string ((rd_T48 x3_2 x7_3).f1)) := (blk_cell BK154.out 1).trans rfl
                                                      have hfz74_0 := blk_frozen BK154.out 0
                                                      have hfz74_1 := blk_frozen BK154.out 1
                                                      go_wp2_with (first | ((with_reducible refine gate_callee (f := 31) rfl ?_); refine goesL_ (some 142) rfl rfl Tryd.func31 (by kernel_rfl) rfl #[.string ((rd_T48 x3_2 x7_3).f0), .string (rdOf ByteArray.empty l0 x13_4), .int .i64 0] rfl (by (try simp only [List.map_toArray, List.map_cons, List.map_nil]); first | done | rfl | (simp only [List.length_drop, List.length_take]; rfl)) ?_; (with_reducible refine (spec_l01At.calls ((rd_T48 x3_2 x7_3).f0) (rdOf ByteArray.empty l0 x13_4) 0 true _ A69.out).mono ?_); rintro e w' ⟨rfl, ⟨nd, rfl⟩⟩; refine ⟨_, rfl, ?_⟩; have hcz75_0 : w66.cell? ⟨gb176, 0, none⟩ = some (.string (⟨#[]⟩ : ByteArray)) := (blk_cell BK176.out 0).trans rfl; have hcz75_1 : w66.cell? ⟨gb176, 1, none⟩ = some (.string (⟨#[]⟩ : ByteArray)) := (blk_cell BK176.out 1).trans rfl; have hfz75_0 := blk_frozen BK176.out 0; have hfz75_1 := blk_frozen BK176.out 1))
                                                      go_meet
                                                      case rel => exact ⟨_, (((rd_T48 x3_2 x7_3).f0).extract (((rdOf ByteArray.empty l0 x13_4).size : Int) : Int).toNat ((rd_T48 x3_2 x7_3).f0).size), (((rd_T48 x3_2 x7_3).f1)), H', ⟨by have := HK1.out; have := HK2.out; have := HK3.out; have := HK4.out; first | omega | exact Nat.le_refl _⟩, ⟨by (with_reducible repeat (first | apply Kd.R_alloc | apply Kd.R_drewN | apply Kd.R_drew)); exact Kd.R_mono (Kd.R_far (p := ⟨gb176, 0, none⟩) (Kd.R_far (p := ⟨gb176, 1, none⟩) (Kd.R_far (p := ⟨gb176, 0, none⟩) (Kd.R_mono HO_3.out (fun k_ hk => (⟨hk, hk.2⟩ : _ ∧ k_ ≠ gb176))) (fun _ hk => hk.2) (.string ((rd_T48 x3_2 x7_3).f0))) (fun _ hk => hk.2) (.string ((rd_T48 x3_2 x7_3).f1))) (fun _ hk => hk.2) (.string (((rd_T48 x3_2 x7_3).f0).extract (((rdOf ByteArray.empty l0 x13_4).size : Int) : Int).toNat ((rd_T48 x3_2 x7_3).f0).size))) (fun _ hk => ⟨hk.1.1, hk.1.2⟩)⟩, ⟨by (with_reducible repeat (first | apply Kd.R_alloc | apply Kd.R_drewN | apply Kd.R_drew)); exact Kd.R_mono (Kd.R_far (p := ⟨gb176, 0, none⟩) (Kd.R_far (p := ⟨gb176, 1, none⟩) (Kd.R_far (p := ⟨gb176, 0, none⟩) (Kd.R_types HO_6.out BK176.out (by decide)) (fun _ hk => hk.2) (.string ((rd_T48 x3_2 x7_3).f0))) (fun _ hk => hk.2) (.string ((rd_T48 x3_2 x7_3).f1))) (fun _ hk => hk.2) (.string (((rd_T48 x3_2 x7_3).f0).extract (((rdOf ByteArray.empty l0 x13_4).size : Int) : Int).toNat ((rd_T48 x3_2 x7_3).f0).size))) (fun _ hk => trivial)⟩, ⟨by (with_reducible repeat (first | refine blk_drewN ?_ _ | refine blk_drew ?_ | refine blk_alloc ?_ _)); refine blk_far ?_ NB154_176.out _; (with_reducible repeat (first | refine blk_drewN ?_ _ | refine blk_drew ?_ | refine blk_alloc ?_ _)); refine blk_far ?_ NB154_176.out _; (with_reducible repeat (first | refine blk_drewN ?_ _ | refine blk_drew ?_ | refine blk_alloc ?_ _)); refine blk_far ?_ NB154_176.out _; (with_reducible repeat (first | refine blk_drewN ?_ _ | refine blk_drew ?_ | refine blk_alloc ?_ _)); exact BK154.out⟩, ⟨by (with_reducible repeat (first | refine blk_drewN ?_ _ | refine blk_drew ?_ | refine blk_alloc ?_ _)); refine blk_put (cs := #[.string ((rd_T48 x3_2 x7_3).f0), .string ((rd_T48 x3_2 x7_3).f1)]) ?_ 0 _ rfl; (with_reducible repeat (first | refine blk_drewN ?_ _ | refine blk_drew ?_ | refine blk_alloc ?_ _)); refine blk_put (cs := #[.string ((rd_T48 x3_2 x7_3).f0), .string (⟨#[]⟩ : ByteArray)]) ?_ 1 _ rfl; (with_reducible repeat (first | refine blk_drewN ?_ _ | refine blk_drew ?_ | refine blk_alloc ?_ _)); refine blk_put (cs := #[.string (⟨#[]⟩ : ByteArray), .string (⟨#[]⟩ : ByteArray)]) ?_ 0 _ rfl; (with_reducible repeat (first | refine blk_drewN ?_ _ | refine blk_drew ?_ | refine blk_alloc ?_ _)); exact BK176.out⟩, ⟨by repeat (first | (with_reducible first | exact HB.out | apply below_alloc | apply pw_below_drewN | apply below_drew1 | refine below_set ?_ GE154.out | refine below_set ?_ GE176.out) | exact HB.out)⟩⟩
                                                    · rw [if_neg c72] at H
                                                      exact absurd H (by simp)
                                                  · rw [if_neg c71] at H
                                                    exact absurd H (by simp)
                                                · replace c70 := Bool.eq_false_iff.mpr c70
                                                  subst c70
                                                  have H1 : ((spec_l01At.f (rdOf ByteArray.empty l0 x13_4) ((rd_T48 x3_2 x7_3).f0) 0).bind fun t178 => (if t178 = true then (if 0 ≤ (((rd_T48 x3_2 x7_3).f0).size : Int) then (if (((rd_T48 x3_2 x7_3).f0).size : Int) ≤ ((rdOf ByteArray.empty l0 x13_4).size : Int) then (if ((rd_T48 x3_2 x7_3).f1).size + ((rdOf ByteArray.empty l0 x13_4).extract ((((rd_T48 x3_2 x7_3).f0).size : Int) : Int).toNat (rdOf ByteArray.empty l0 x13_4).size).size ≤ 9223372036854775807 then (spec_l05Clash.j5 k4 l0 x3_4 y172 x13_4 ((rd_T48 x3_2 x7_3).f0) ((rd_T48 x3_2 x7_3).f1) ((rdOf ByteArray.empty l0 x13_4).extract ((((rd_T48 x3_2 x7_3).f0).size : Int) : Int).toNat (rdOf ByteArray.empty l0 x13_4).size) (((rd_T48 x3_2 x7_3).f1) ++ ((rdOf ByteArray.empty l0 x13_4).extract ((((rd_T48 x3_2 x7_3).f0).size : Int) : Int).toNat (rdOf ByteArray.empty l0 x13_4).size))) else (none)) else (none)) else (none)) else (spec_l05Clash.l4 k4 l0 x3_4 y172 (wrap64 (x13_4 + 1)) ((rd_T48 x3_2 x7_3).f0) ((rd_T48 x3_2 x7_3).f1)))) = some r := by rw [if_neg (show ¬ (false = true) by decide)] at H; exact H
                                                  clear H
                                                  have H := H1
                                                  clear H1
                                                  replace H := Option.bind_eq_some_iff.mp H
                                                  obtain ⟨t178, A760, H⟩ := H
                                                  replace H : (if t178 = true then (if 0 ≤ (((rd_T48 x3_2 x7_3).f0).size : Int) then (if (((rd_T48 x3_2 x7_3).f0).size : Int) ≤ ((rdOf ByteArray.empty l0 x13_4).size : Int) then (if ((rd_T48 x3_2 x7_3).f1).size + ((rdOf ByteArray.empty l0 x13_4).extract ((((rd_T48 x3_2 x7_3).f0).size : Int) : Int).toNat (rdOf ByteArray.empty l0 x13_4).size).size ≤ 9223372036854775807 then (spec_l05Clash.j5 k4 l0 x3_4 y172 x13_4 ((rd_T48 x3_2 x7_3).f0) ((rd_T48 x3_2 x7_3).f1) ((rdOf ByteArray.empty l0 x13_4).extract ((((rd_T48 x3_2 x7_3).f0).size : Int) : Int).toNat (rdOf ByteArray.empty l0 x13_4).size) (((rd_T48 x3_2 x7_3).f1) ++ ((rdOf ByteArray.empty l0 x13_4).extract ((((rd_T48 x3_2 x7_3).f0).size : Int) : Int).toNat (rdOf ByteArray.empty l0 x13_4).size))) else (none)) else (none)) else (none)) else (spec_l05Clash.l4 k4 l0 x3_4 y172 (wrap64 (x13_4 + 1)) ((rd_T48 x3_2 x7_3).f0) ((rd_T48 x3_2 x7_3).f1))) = some r := H
                                                  have A76 := Aside0.mk A760
                                                  clear A760
                                                  by_cases c77 : t178 = true
                                                  · subst c77
                                                    have H1 : (if 0 ≤ (((rd_T48 x3_2 x7_3).f0).size : Int) then (if (((rd_T48 x3_2 x7_3).f0).size : Int) ≤ ((rdOf ByteArray.empty l0 x13_4).size : Int) then (if ((rd_T48 x3_2 x7_3).f1).size + ((rdOf ByteArray.empty l0 x13_4).extract ((((rd_T48 x3_2 x7_3).f0).size : Int) : Int).toNat (rdOf ByteArray.empty l0 x13_4).size).size ≤ 9223372036854775807 then (spec_l05Clash.j5 k4 l0 x3_4 y172 x13_4 ((rd_T48 x3_2 x7_3).f0) ((rd_T48 x3_2 x7_3).f1) ((rdOf ByteArray.empty l0 x13_4).extract ((((rd_T48 x3_2 x7_3).f0).size : Int) : Int).toNat (rdOf ByteArray.empty l0 x13_4).size) (((rd_T48 x3_2 x7_3).f1) ++ ((rdOf ByteArray.empty l0 x13_4).extract ((((rd_T48 x3_2 x7_3).f0).size : Int) : Int).toNat (rdOf ByteArray.empty l0 x13_4).size))) else (none)) else (none)) else (none)) = some r := by rw [if_pos rfl] at H; exact H
                                                    clear H
                                                    have H := H1
                                                    clear H1
                                                    by_cases c78 : 0 ≤ (((rd_T48 x3_2 x7_3).f0).size : Int)
                                                    · rw [if_pos c78] at H
                                                      have c78b0 := eq_true c78
                                                      have c78b1 : decide (0 ≤ (((rd_T48 x3_2 x7_3).f0).size : Int)) = true := decide_eq_true c78
                                                      clear c78
                                                      by_cases c79 : (((rd_T48 x3_2 x7_3).f0).size : Int) ≤ ((rdOf ByteArray.empty l0 x13_4).size : Int)
                                                      · rw [if_pos c79] at H
                                                        have c79b0 := eq_true c79
                                                        have c79b1 : decide ((((rd_T48 x3_2 x7_3).f0).size : Int) ≤ ((rdOf ByteArray.empty l0 x13_4).size : Int)) = true := decide_eq_true c79
                                                        clear c79
                                                        by_cases c80 : ((rd_T48 x3_2 x7_3).f1).size + ((rdOf ByteArray.empty l0 x13_4).extract ((((rd_T48 x3_2 x7_3).f0).size : Int) : Int).toNat (rdOf ByteArray.empty l0 x13_4).size).size ≤ 9223372036854775807
                                                        · rw [if_pos c80] at H
                                                          have c80b0 := eq_true c80
                                                          have c80b1 : decide (((rd_T48 x3_2 x7_3).f1).size + ((rdOf ByteArray.empty l0 x13_4).extract ((((rd_T48 x3_2 x7_3).f0).size : Int) : Int).toNat (rdOf ByteArray.empty l0 x13_4).size).size ≤ 9223372036854775807) = true := decide_eq_true c80
                                                          try have c80b2 : (9223372036854775807 < ((rd_T48 x3_2 x7_3).f1).size + ((rdOf ByteArray.empty l0 x13_4).extract ((((rd_T48 x3_2 x7_3).f0).size : Int) : Int).toNat (rdOf ByteArray.empty l0 x13_4).size).size) = False := eq_false (Nat.not_lt.2 c80)
                                                          try (have c80b4 := c80b2; simp only [Int.toNat_natCast] at c80b4)
                                                          try (have c80b5 := c80b2; simp only [Int.toNat_natCast, ByteArray.size_extract, Nat.min_self] at c80b5)
                                                          have H' := Aside0.mk H
                                                          clear H
                                                          have hnb81 := NB154_176.out
                                                          have hnc81 := NB176_154.out
                                                          have hcz82_0 : w66.cell? ⟨gb154, 0, none⟩ = some (.string ((rd_T48 x3_2 x7_3).f0)) := (blk_cell BK154.out 0).trans rfl
                                                          have hcz82_1 : w66.cell? ⟨gb154, 1, none⟩ = some (.string ((rd_T48 x3_2 x7_3).f1)) := (blk_cell BK154.out 1).trans rfl
                                                          have hfz82_0 := blk_frozen BK154.out 0
                                                          have hfz82_1 := blk_frozen BK154.out 1
                                                          go_wp2_with (first | ((with_reducible refine gate_callee (f := 31) rfl ?_); refine goesL_ (some 142) rfl rfl Tryd.func31 (by kernel_rfl) rfl #[.string ((rd_T48 x3_2 x7_3).f0), .string (rdOf ByteArray.empty l0 x13_4), .int .i64 0] rfl (by (try simp only [List.map_toArray, List.map_cons, List.map_nil]); first | done | rfl | (simp only [List.length_drop, List.length_take]; rfl)) ?_; (with_reducible refine (spec_l01At.calls ((rd_T48 x3_2 x7_3).f0) (rdOf ByteArray.empty l0 x13_4) 0 false _ A69.out).mono ?_); rintro e w' ⟨rfl, ⟨nd, rfl⟩⟩; refine ⟨_, rfl, ?_⟩) | ((with_reducible refine gate_callee (f := 31) rfl ?_); refine goesL_ (some 153) rfl rfl Tryd.func31 (by kernel_rfl) rfl #[.string (rdOf ByteArray.empty l0 x13_4), .string ((rd_T48 x3_2 x7_3).f0), .int .i64 0] rfl (by (try simp only [List.map_toArray, List.map_cons, List.map_nil]); first | done | rfl | (simp only [List.length_drop, List.length_take]; rfl)) ?_; (with_reducible refine (spec_l01At.calls (rdOf ByteArray.empty l0 x13_4) ((rd_T48 x3_2 x7_3).f0) 0 true _ A76.out).mono ?_); rintro e w' ⟨rfl, ⟨nd, rfl⟩⟩; refine ⟨_, rfl, ?_⟩; have hcz83_0 : w66.cell? ⟨gb176, 0, none⟩ = some (.string (⟨#[]⟩ : ByteArray)) := (blk_cell BK176.out 0).trans rfl; have hcz83_1 : w66.cell? ⟨gb176, 1, none⟩ = some (.string (⟨#[]⟩ : ByteArray)) := (blk_cell BK176.out 1).trans rfl; have hfz83_0 := blk_frozen BK176.out 0; have hfz83_1 := blk_frozen BK176.out 1))
                                                          go_meet
                                                          case rel => exact ⟨_, ((rdOf ByteArray.empty l0 x13_4).extract ((((rd_T48 x3_2 x7_3).f0).size : Int) : Int).toNat (rdOf ByteArray.empty l0 x13_4).size), (((rd_T48 x3_2 x7_3).f1) ++ ((rdOf ByteArray.empty l0 x13_4).extract ((((rd_T48 x3_2 x7_3).f0).size : Int) : Int).toNat (rdOf ByteArray.empty l0 x13_4).size)), H', ⟨by have := HK1.out; have := HK2.out; have := HK3.out; have := HK4.out; first | omega | exact Nat.le_refl _⟩, ⟨by (with_reducible repeat (first | apply Kd.R_alloc | apply Kd.R_drewN | apply Kd.R_drew)); exact Kd.R_mono (Kd.R_far (p := ⟨gb176, 1, none⟩) (Kd.R_far (p := ⟨gb176, 0, none⟩) (Kd.R_far (p := ⟨gb176, 1, none⟩) (Kd.R_far (p := ⟨gb176, 0, none⟩) (Kd.R_mono HO_3.out (fun k_ hk => (⟨hk, hk.2⟩ : _ ∧ k_ ≠ gb176))) (fun _ hk => hk.2) (.string ((rd_T48 x3_2 x7_3).f0))) (fun _ hk => hk.2) (.string ((rd_T48 x3_2 x7_3).f1))) (fun _ hk => hk.2) (.string ((rdOf ByteArray.empty l0 x13_4).extract ((((rd_T48 x3_2 x7_3).f0).size : Int) : Int).toNat (rdOf ByteArray.empty l0 x13_4).size))) (fun _ hk => hk.2) (.string (((rd_T48 x3_2 x7_3).f1) ++ ((rdOf ByteArray.empty l0 x13_4).extract ((((rd_T48 x3_2 x7_3).f0).size : Int) : Int).toNat (rdOf ByteArray.empty l0 x13_4).size)))) (fun _ hk => ⟨hk.1.1, hk.1.2⟩)⟩, ⟨by (with_reducible repeat (first | apply Kd.R_alloc | apply Kd.R_drewN | apply Kd.R_drew)); exact Kd.R_mono (Kd.R_far (p := ⟨gb176, 1, none⟩) (Kd.R_far (p := ⟨gb176, 0, none⟩) (Kd.R_far (p := ⟨gb176, 1, none⟩) (Kd.R_far (p := ⟨gb176, 0, none⟩) (Kd.R_types HO_6.out BK176.out (by decide)) (fun _ hk => hk.2) (.string ((rd_T48 x3_2 x7_3).f0))) (fun _ hk => hk.2) (.string ((rd_T48 x3_2 x7_3).f1))) (fun _ hk => hk.2) (.string ((rdOf ByteArray.empty l0 x13_4).extract ((((rd_T48 x3_2 x7_3).f0).size : Int) : Int).toNat (rdOf ByteArray.empty l0 x13_4).size))) (fun _ hk => hk.2) (.string (((rd_T48 x3_2 x7_3).f1) ++ ((rdOf ByteArray.empty l0 x13_4).extract ((((rd_T48 x3_2 x7_3).f0).size : Int) : Int).toNat (rdOf ByteArray.empty l0 x13_4).size)))) (fun _ hk => trivial)⟩, ⟨by (with_reducible repeat (first | refine blk_drewN ?_ _ | refine blk_drew ?_ | refine blk_alloc ?_ _)); refine blk_far ?_ NB154_176.out _; (with_reducible repeat (first | refine blk_drewN ?_ _ | refine blk_drew ?_ | refine blk_alloc ?_ _)); refine blk_far ?_ NB154_176.out _; (with_reducible repeat (first | refine blk_drewN ?_ _ | refine blk_drew ?_ | refine blk_alloc ?_ _)); refine blk_far ?_ NB154_176.out _; (with_reducible repeat (first | refine blk_drewN ?_ _ | refine blk_drew ?_ | refine blk_alloc ?_ _)); refine blk_far ?_ NB154_176.out _; (with_reducible repeat (first | refine blk_drewN ?_ _ | refine blk_drew ?_ | refine blk_alloc ?_ _)); exact BK154.out⟩, ⟨by (with_reducible repeat (first | refine blk_drewN ?_ _ | refine blk_drew ?_ | refine blk_alloc ?_ _)); refine blk_put (cs := #[.string ((rdOf ByteArray.empty l0 x13_4).extract ((((rd_T48 x3_2 x7_3).f0).size : Int) : Int).toNat (rdOf ByteArray.empty l0 x13_4).size), .string ((rd_T48 x3_2 x7_3).f1)]) ?_ 1 _ rfl; (with_reducible repeat (first | refine blk_drewN ?_ _ | refine blk_drew ?_ | refine blk_alloc ?_ _)); refine blk_put (cs := #[.string ((rd_T48 x3_2 x7_3).f0), .string ((rd_T48 x3_2 x7_3).f1)]) ?_ 0 _ rfl; (with_reducible repeat (first | refine blk_drewN ?_ _ | refine blk_drew ?_ | refine blk_alloc ?_ _)); refine blk_put (cs := #[.string ((rd_T48 x3_2 x7_3).f0), .string (⟨#[]⟩ : ByteArray)]) ?_ 1 _ rfl; (with_reducible repeat (first | refine blk_drewN ?_ _ | refine blk_drew ?_ | refine blk_alloc ?_ _)); refine blk_put (cs := #[.string (⟨#[]⟩ : ByteArray), .string (⟨#[]⟩ : ByteArray)]) ?_ 0 _ rfl; (with_reducible repeat (first | refine blk_drewN ?_ _ | refine blk_drew ?_ | refine blk_alloc ?_ _)); exact BK176.out⟩, ⟨by repeat (first | (with_reducible first | exact HB.out | apply below_alloc | apply pw_below_drewN | apply below_drew1 | refine below_set ?_ GE154.out | refine below_set ?_ GE176.out) | exact HB.out)⟩⟩
                                                        · rw [if_neg c80] at H
                                                          exact absurd H (by simp)
                                                      · rw [if_neg c79] at H
                                                        exact absurd H (by simp)
                                                    · rw [if_neg c78] at H
                                                      exact absurd H (by simp)
                                                  · replace c77 := Bool.eq_false_iff.mpr c77
                                                    subst c77
                                                    have H1 : (spec_l05Clash.l4 k4 l0 x3_4 y172 (wrap64 (x13_4 + 1)) ((rd_T48 x3_2 x7_3).f0) ((rd_T48 x3_2 x7_3).f1)) = some r := by rw [if_neg (show ¬ (false = true) by decide)] at H; exact H
                                                    clear H
                                                    have H := H1
                                                    clear H1
                                                    have H' := Aside0.mk H
                                                    clear H
                                                    have hnb84 := NB154_176.out
                                                    have hnc84 := NB176_154.out
                                                    have hcz85_0 : w66.cell? ⟨gb154, 0, none⟩ = some (.string ((rd_T48 x3_2 x7_3).f0)) := (blk_cell BK154.out 0).trans rfl
                                                    have hcz85_1 : w66.cell? ⟨gb154, 1, none⟩ = some (.string ((rd_T48 x3_2 x7_3).f1)) := (blk_cell BK154.out 1).trans rfl
                                                    have hfz85_0 := blk_frozen BK154.out 0
                                                    have hfz85_1 := blk_frozen BK154.out 1
                                                    go_wp2_with (first | ((with_reducible refine gate_callee (f := 31) rfl ?_); refine goesL_ (some 142) rfl rfl Tryd.func31 (by kernel_rfl) rfl #[.string ((rd_T48 x3_2 x7_3).f0), .string (rdOf ByteArray.empty l0 x13_4), .int .i64 0] rfl (by (try simp only [List.map_toArray, List.map_cons, List.map_nil]); first | done | rfl | (simp only [List.length_drop, List.length_take]; rfl)) ?_; (with_reducible refine (spec_l01At.calls ((rd_T48 x3_2 x7_3).f0) (rdOf ByteArray.empty l0 x13_4) 0 false _ A69.out).mono ?_); rintro e w' ⟨rfl, ⟨nd, rfl⟩⟩; refine ⟨_, rfl, ?_⟩) | ((with_reducible refine gate_callee (f := 31) rfl ?_); refine goesL_ (some 153) rfl rfl Tryd.func31 (by kernel_rfl) rfl #[.string (rdOf ByteArray.empty l0 x13_4), .string ((rd_T48 x3_2 x7_3).f0), .int .i64 0] rfl (by (try simp only [List.map_toArray, List.map_cons, List.map_nil]); first | done | rfl | (simp only [List.length_drop, List.length_take]; rfl)) ?_; (with_reducible refine (spec_l01At.calls (rdOf ByteArray.empty l0 x13_4) ((rd_T48 x3_2 x7_3).f0) 0 false _ A76.out).mono ?_); rintro e w' ⟨rfl, ⟨nd, rfl⟩⟩; refine ⟨_, rfl, ?_⟩))
                                                    go_roundg k4
                                                    case measure => have := HK1.out; have := HK2.out; have := HK3.out; have := HK4.out; omega
                                                    case rel => exact ⟨(x3_4), (wrap64 (x13_4 + 1)), (by first | rfl | (simp; done) | (simp [*]; done)), H', ⟨by have := HK1.out; have := HK2.out; have := HK3.out; have := HK4.out; omega⟩, ⟨by (with_reducible repeat (first | apply Kd.R_alloc | apply Kd.R_drewN | apply Kd.R_drew)); exact Kd.R_mono (Kd.R_far (p := ⟨gb176, 1, none⟩) (Kd.R_far (p := ⟨gb176, 0, none⟩) (Kd.R_mono HO_3.out (fun k_ hk => (⟨hk, hk.2⟩ : _ ∧ k_ ≠ gb176))) (fun _ hk => hk.2) (.string ((rd_T48 x3_2 x7_3).f0))) (fun _ hk => hk.2) (.string ((rd_T48 x3_2 x7_3).f1))) (fun _ hk => hk.1.1)⟩, ⟨by (with_reducible repeat (first | apply Kd.R_alloc | apply Kd.R_drewN | apply Kd.R_drew)); exact Kd.R_mono (Kd.R_far (p := ⟨gb176, 1, none⟩) (Kd.R_far (p := ⟨gb176, 0, none⟩) (Kd.R_types HO_6.out BK176.out (by decide)) (fun _ hk => hk.2) (.string ((rd_T48 x3_2 x7_3).f0))) (fun _ hk => hk.2) (.string ((rd_T48 x3_2 x7_3).f1))) (fun _ hk => trivial)⟩, ⟨by (with_reducible repeat (first | refine blk_drewN ?_ _ | refine blk_drew ?_ | refine blk_alloc ?_ _)); refine blk_far ?_ NB154_176.out _; (with_reducible repeat (first | refine blk_drewN ?_ _ | refine blk_drew ?_ | refine blk_alloc ?_ _)); refine blk_far ?_ NB154_176.out _; (with_reducible repeat (first | refine blk_drewN ?_ _ | refine blk_drew ?_ | refine blk_alloc ?_ _)); exact BK154.out⟩, ⟨by repeat (first | (with_reducible first | exact HB.out | apply below_alloc | apply pw_below_drewN | apply below_drew1 | refine below_set ?_ GE154.out | refine below_set ?_ GE176.out) | exact HB.out)⟩⟩
                                              case rest =>
                                                clear HC64
                                                try clear c1
                                                try clear p1
                                                try clear q1
                                                try clear hx1
                                                try clear c2
                                                try clear p2
                                                try clear c3
                                                try clear c4
                                                try clear c4b0
                                                try clear q4
                                                try clear c5
                                                try clear c5b0
                                                try clear q5
                                                try clear c6
                                                try clear c6b0
                                                try clear c6b1
                                                try clear p6
                                                try clear c7
                                                try clear c8
                                                try clear c8b0
                                                try clear c9
                                                try clear c9b0
                                                try clear c10
                                                try clear c10b0
                                                try clear c12
                                                try clear c13
                                                try clear c13b0
                                                try clear c13b1
                                                try clear p13
                                                try clear q13
                                                try clear hx13
                                                try clear c14
                                                try clear c14b0
                                                try clear c14b1
                                                try clear p14
                                                try clear q14
                                                try clear hx14
                                                try clear p15
                                                try clear q15
                                                try clear hx15
                                                try clear p17
                                                try clear q17
                                                try clear hx17
                                                try clear c23
                                                try clear c23b0
                                                try clear c23b1
                                                try clear c25
                                                try clear c25b0
                                                try clear c26
                                                try clear c26b0
                                                try clear c27
                                                try clear c27b0
                                                try clear c28
                                                try clear c28b0
                                                try clear c29
                                                try clear c29b0
                                                try clear c29b1
                                                try clear c30
                                                try clear c30b0
                                                try clear c30b1
                                                try clear c30b2
                                                try clear c31
                                                try clear c31b0
                                                try clear c32
                                                try clear c32b0
                                                try clear c33
                                                try clear c33b0
                                                try clear c34
                                                try clear c34b0
                                                try clear c35
                                                try clear c35b0
                                                try clear c35b1
                                                try clear c36
                                                try clear c38
                                                try clear c38b0
                                                try clear c38b1
                                                try clear c39
                                                try clear c39b0
                                                try clear c39b1
                                                try clear c40
                                                try clear c41
                                                try clear c41b0
                                                try clear c41b1
                                                try clear q46
                                                try clear c48
                                                try clear q48
                                                try clear c51
                                                try clear q56
                                                try clear c58
                                                try clear q58
                                                try clear c62
                                                try clear c62b0
                                                try clear c63
                                                try clear c63b0
                                                try clear p64
                                                try clear c67
                                                try clear c70
                                                try clear c71
                                                try clear c71b0
                                                try clear c71b1
                                                try clear c72
                                                try clear c72b0
                                                try clear c72b1
                                                try clear c73
                                                try clear c77
                                                try clear c78
                                                try clear c78b0
                                                try clear c78b1
                                                try clear c79
                                                try clear c79b0
                                                try clear c79b1
                                                try clear c80
                                                try clear c80b0
                                                try clear c80b1
                                                try clear c80b2
                                                try clear c81
                                                try clear c84
                                                try clear hcz43_0
                                                try clear hcz43_1
                                                try clear hcz50_0
                                                try clear hcz50_1
                                                try clear hcz53_0
                                                try clear hcz53_1
                                                try clear hcz60_0
                                                try clear hcz60_1
                                                try clear hcz65_0
                                                try clear hcz65_1
                                                try clear hcz68_0
                                                try clear hcz68_1
                                                try clear hcz74_0
                                                try clear hcz74_1
                                                try clear hcz75_0
                                                try clear hcz75_1
                                                try clear hcz82_0
                                                try clear hcz82_1
                                                try clear hcz83_0
                                                try clear hcz83_1
                                                try clear hcz85_0
                                                try clear hcz85_1
                                                try clear hfz43_0
                                                try clear hfz43_1
                                                try clear hfz50_0
                                                try clear hfz50_1
                                                try clear hfz53_0
                                                try clear hfz53_1
                                                try clear hfz60_0
                                                try clear hfz60_1
                                                try clear hfz65_0
                                                try clear hfz65_1
                                                try clear hfz68_0
                                                try clear hfz68_1
                                                try clear hfz74_0
                                                try clear hfz74_1
                                                try clear hfz75_0
                                                try clear hfz75_1
                                                try clear hfz82_0
                                                try clear hfz82_1
                                                try clear hfz83_0
                                                try clear hfz83_1
                                                try clear hfz85_0
                                                try clear hfz85_1
                                                try clear hx139_0
                                                try clear hx140_0
                                                try clear hx142_0
                                                try clear hx143_0
                                                try clear hx144_0
                                                try clear hx151_0
                                                try clear hx151_1
                                                try clear hx152_0
                                                try clear hx152_1
                                                try clear hx153_0
                                                try clear hx153_1
                                                try clear hx175_0
                                                try clear p1
                                                try clear p13
                                                try clear p139
                                                try clear p14
                                                try clear p140
                                                try clear p142
                                                try clear p143
                                                try clear p144
                                                try clear p15
                                                try clear p151
                                                try clear p152
                                                try clear p153
                                                try clear p175
                                                try clear p2
                                                try clear p6
                                                try clear q048
                                                try clear q058
                                                try clear q1
                                                try clear q13
                                                try clear q139
                                                try clear q14
                                                try clear q140
                                                try clear q142
                                                try clear q143
                                                try clear q144
                                                try clear q15
                                                try clear q151
                                                try clear q152
                                                try clear q153
                                                try clear q175
                                                try clear q4
                                                try clear q46
                                                try clear q48
                                                try clear q5
                                                try clear q56
                                                try clear q58
                                                obtain ⟨kq, x177000_63, x177001_63, HA, HJ63, HO_3, HO_6, BK154, BK176, HB⟩ := hcut
                                                cases kq with
                                                | zero => exact absurd HA.out (by simp [spec_l05Clash.j5])
                                                | succ kj63 =>
                                                  have H := HA.out
                                                  clear HA
                                                  simp only [spec_l05Clash.j5] at H
                                                  replace H := Option.bind_eq_some_iff.mp H
                                                  obtain ⟨t179, A860, H⟩ := H
                                                  replace H : (if t179 < 0 then ((spec_l05Put.f kj63 x3_4 x177000_63 x177001_63).bind fun t180 => (spec_l05Clash.l4 kj63 l0 t180 y172 (wrap64 (x13_4 + 1)) ((rd_T48 x3_2 x7_3).f0) ((rd_T48 x3_2 x7_3).f1))) else (spec_l05Clash.l4 kj63 l0 x3_4 y172 (wrap64 (x13_4 + 1)) ((rd_T48 x3_2 x7_3).f0) ((rd_T48 x3_2 x7_3).f1))) = some r := H
                                                  have A86 := Aside0.mk A860
                                                  clear A860
                                                  by_cases c87 : t179 < 0
                                                  · rw [if_pos c87] at H
                                                    have c87b0 : decide (t179 < 0) = true := decide_eq_true c87
                                                    clear c87
                                                    replace H := Option.bind_eq_some_iff.mp H
                                                    obtain ⟨t180, A880, H⟩ := H
                                                    replace H : (spec_l05Clash.l4 kj63 l0 t180 y172 (wrap64 (x13_4 + 1)) ((rd_T48 x3_2 x7_3).f0) ((rd_T48 x3_2 x7_3).f1)) = some r := H
                                                    have A88 := Aside0.mk A880
                                                    clear A880
                                                    have H' := Aside0.mk H
                                                    clear H
                                                    have hnb89 := NB176_154.out
                                                    have hnc89 := NB154_176.out
                                                    have hcz90_0 : wc.cell? ⟨gb176, 0, none⟩ = some (.string x177000_63) := (blk_cell BK176.out 0).trans rfl
                                                    have hcz90_1 : wc.cell? ⟨gb176, 1, none⟩ = some (.string x177001_63) := (blk_cell BK176.out 1).trans rfl
                                                    have hfz90_0 := blk_frozen BK176.out 0
                                                    have hfz90_1 := blk_frozen BK176.out 1
                                                    obtain ⟨Ao91, co91, eo91⟩ := Kd.R_slice HO_6.out
                                                    subst eo91
                                                    go_wp2_with (first | ((with_reducible refine gate_callee (f := 30) rfl ?_); refine goesL_ (some 169) rfl rfl Tryd.func30 (by kernel_rfl) rfl #[.slice Ao91 y172.length co91, .string x177000_63] rfl (by (try simp only [List.map_toArray, List.map_cons, List.map_nil]); first | done | rfl | (simp only [List.length_drop, List.length_take]; rfl)) ?_; (with_reducible refine (spec_l03Index.calls kj63 _ _ y172 x177000_63 t179 _ ?side1 ?side2 A86.out).mono ?_); (case side1 => repeat (first | exact (Kd.R_reads' HO_6.out).2.2 | (with_reducible refine Kd.C_alloc ?_ _) | (with_reducible refine Kd.C_drewN ?_ _) | (with_reducible refine Kd.C_drew ?_))); (case side2 => exact (Kd.R_reads' HO_6.out).2.1); rintro e w' ⟨rfl, ⟨nd, rfl⟩⟩; refine ⟨_, rfl, ?_⟩; obtain ⟨Ao92, co92, eo92⟩ := Kd.R_slice HO_3.out; subst eo92) | ((with_reducible refine gate_callee (f := 32) rfl ?_); refine goesL_ (some 173) rfl rfl Tryd.func32 (by kernel_rfl) rfl #[.slice Ao92 x3_4.length co92, .agg #[.string x177000_63, .string x177001_63]] rfl (by (try simp only [List.map_toArray, List.map_cons, List.map_nil]); first | done | rfl | (simp only [List.length_drop, List.length_take]; rfl)) ?_; (with_reducible refine (spec_l05Put.calls kj63 (fun k_ => some k_ = (.slice Ao92 x3_4.length co92 : Value).ownBlock) (.slice Ao92 x3_4.length co92) x3_4 x177000_63 x177001_63 t180 w _ ?side1 ?side2 A88.out).mono ?_); (case side1 => repeat (first | (with_reducible first | exact HB.out | apply below_alloc | apply pw_below_drewN | apply below_drew1 | refine below_set ?_ GE154.out | refine below_set ?_ GE176.out) | exact HB.out)); (case side2 => exact Kd.R_tight rfl HO_3.out); rintro e w93 ⟨v181, rfl, ho0, hb, hkp⟩; refine ⟨_, rfl, ?_⟩; have n0_ := Aside0.mk (Kd.R_mono (ok' := fun k_ => True) (Kd.R_keptB ((Kd.R_apart' HO_6.out (Kd.R_typed HO_3.out) (by decide))) hkp (fun k_ hk_ hs_ => (hk_.2) hs_)) (fun k_ hk_ => trivial)); have n1_ := Aside0.mk (blk_kept (by (with_reducible repeat (first | refine blk_drewN ?_ _ | refine blk_drew ?_ | refine blk_alloc ?_ _)); exact BK154.out) hkp (fun hs_ => (fun e_ => (Kd.R_away HO_3.out (fun _ hk => hk.1)) e_) hs_)); have n2_ := Aside0.mk (blk_kept (by (with_reducible repeat (first | refine blk_drewN ?_ _ | refine blk_drew ?_ | refine blk_alloc ?_ _)); exact BK176.out) hkp (fun hs_ => (fun e_ => (Kd.R_away HO_3.out (fun _ hk => hk.2)) e_) hs_)); have n3_ := Aside0.mk (Kd.R_mono (ok' := fun k_ => k_ ≠ gb154 ∧ k_ ≠ gb176) ho0 (fun k_ hk_ => ⟨Or.elim hk_ (fun hs_ => fun e_ => (Kd.R_away HO_3.out (fun _ hk => hk.1)) (by rw [← e_]; exact hs_)) (fun hn_ => (Kd.freshB (g := gb154) (o := .cells #[.string ((rd_T48 x3_2 x7_3).f0), .string ((rd_T48 x3_2 x7_3).f1)] 48 (0, 0)) (by (with_reducible repeat (first | refine blk_drewN ?_ _ | refine blk_drew ?_ | refine blk_alloc ?_ _)); exact BK154.out) k_ hn_)), Or.elim hk_ (fun hs_ => fun e_ => (Kd.R_away HO_3.out (fun _ hk => hk.2)) (by rw [← e_]; exact hs_)) (fun hn_ => (Kd.freshB (g := gb176) (o := .cells #[.string x177000_63, .string x177001_63] 48 (0, 0)) (by (with_reducible repeat (first | refine blk_drewN ?_ _ | refine blk_drew ?_ | refine blk_alloc ?_ _)); exact BK176.out) k_ hn_))⟩)); have n4_ := Aside0.mk (hb); clear HO_6; clear BK154; clear BK176; clear HB; clear HO_3; have HO_6 := n0_; have BK154 := n1_; have BK176 := n2_; have HO182 := n3_; have HB := n4_; clear n0_ n1_ n2_ n3_ n4_; (try clear hb); (try clear hkp); (try clear ho0)))
                                                    go_roundg kj63
                                                    case measure => have := HK1.out; have := HK2.out; have := HK3.out; have := HK4.out; have := HJ63.out; omega
                                                    case rel => exact ⟨(t180), (wrap64 (x13_4 + 1)), (by first | rfl | (simp; done) | (simp [*]; done)), H', ⟨by have := HK1.out; have := HK2.out; have := HK3.out; have := HK4.out; have := HJ63.out; omega⟩, ⟨by (with_reducible repeat (first | apply Kd.R_alloc | apply Kd.R_drewN | apply Kd.R_drew)); exact Kd.R_mono HO182.out (fun _ hk => hk.1)⟩, ⟨by (with_reducible repeat (first | apply Kd.R_alloc | apply Kd.R_drewN | apply Kd.R_drew)); exact HO_6.out⟩, ⟨by (with_reducible repeat (first | refine blk_drewN ?_ _ | refine blk_drew ?_ | refine blk_alloc ?_ _)); exact BK154.out⟩, ⟨by repeat (first | (with_reducible first | exact HB.out | apply below_alloc | apply pw_below_drewN | apply below_drew1 | refine below_set ?_ GE154.out | refine below_set ?_ GE176.out) | exact HB.out)⟩⟩
                                                  · rw [if_neg c87] at H
                                                    have c87b0 : decide (t179 < 0) = false := decide_eq_false c87
                                                    clear c87
                                                    have H' := Aside0.mk H
                                                    clear H
                                                    have hnb94 := NB176_154.out
                                                    have hnc94 := NB154_176.out
                                                    have hcz95_0 : wc.cell? ⟨gb176, 0, none⟩ = some (.string x177000_63) := (blk_cell BK176.out 0).trans rfl
                                                    have hcz95_1 : wc.cell? ⟨gb176, 1, none⟩ = some (.string x177001_63) := (blk_cell BK176.out 1).trans rfl
                                                    have hfz95_0 := blk_frozen BK176.out 0
                                                    have hfz95_1 := blk_frozen BK176.out 1
                                                    obtain ⟨Ao96, co96, eo96⟩ := Kd.R_slice HO_6.out
                                                    subst eo96
                                                    go_wp2_with (first | ((with_reducible refine gate_callee (f := 30) rfl ?_); refine goesL_ (some 169) rfl rfl Tryd.func30 (by kernel_rfl) rfl #[.slice Ao96 y172.length co96, .string x177000_63] rfl (by (try simp only [List.map_toArray, List.map_cons, List.map_nil]); first | done | rfl | (simp only [List.length_drop, List.length_take]; rfl)) ?_; (with_reducible refine (spec_l03Index.calls kj63 _ _ y172 x177000_63 t179 _ ?side1 ?side2 A86.out).mono ?_); (case side1 => repeat (first | exact (Kd.R_reads' HO_6.out).2.2 | (with_reducible refine Kd.C_alloc ?_ _) | (with_reducible refine Kd.C_drewN ?_ _) | (with_reducible refine Kd.C_drew ?_))); (case side2 => exact (Kd.R_reads' HO_6.out).2.1); rintro e w' ⟨rfl, ⟨nd, rfl⟩⟩; refine ⟨_, rfl, ?_⟩))
                                                    go_roundg kj63
                                                    case measure => have := HK1.out; have := HK2.out; have := HK3.out; have := HK4.out; have := HJ63.out; omega
                                                    case rel => exact ⟨(x3_4), (wrap64 (x13_4 + 1)), (by first | rfl | (simp; done) | (simp [*]; done)), H', ⟨by have := HK1.out; have := HK2.out; have := HK3.out; have := HK4.out; have := HJ63.out; omega⟩, ⟨by (with_reducible repeat (first | apply Kd.R_alloc | apply Kd.R_drewN | apply Kd.R_drew)); exact Kd.R_mono HO_3.out (fun _ hk => hk.1)⟩, ⟨by (with_reducible repeat (first | apply Kd.R_alloc | apply Kd.R_drewN | apply Kd.R_drew)); exact HO_6.out⟩, ⟨by (with_reducible repeat (first | refine blk_drewN ?_ _ | refine blk_drew ?_ | refine blk_alloc ?_ _)); exact BK154.out⟩, ⟨by repeat (first | (with_reducible first | exact HB.out | apply below_alloc | apply pw_below_drewN | apply below_drew1 | refine below_set ?_ GE154.out | refine below_set ?_ GE176.out) | exact HB.out)⟩⟩
                                            · rw [if_neg c63] at H
                                              exact absurd H (by simp)
                                          · rw [if_neg c62] at H
                                            have c62b0 : decide (x13_4 < (l0.length : Int)) = false := decide_eq_false c62
                                            clear c62
                                            have H' := Aside0.mk H
                                            clear H
                                            go_wp2
                                            go_roundg k4
                                            case measure => have := HK1.out; have := HK2.out; have := HK3.out; have := HK4.out; omega
                                            case rel => exact ⟨(x3_4), (y172), H', ⟨by have := HK1.out; have := HK2.out; have := HK3.out; have := HK4.out; omega⟩, ⟨by (with_reducible repeat (first | apply Kd.R_alloc | apply Kd.R_drewN | apply Kd.R_drew)); exact Kd.R_mono HO_3.out (fun _ hk => trivial)⟩, ⟨by (with_reducible repeat (first | apply Kd.R_alloc | apply Kd.R_drewN | apply Kd.R_drew)); exact HO_6.out⟩, ⟨by repeat (first | (with_reducible first | exact HB.out | apply below_alloc | apply pw_below_drewN | apply below_drew1 | refine below_set ?_ GE154.out) | exact HB.out)⟩⟩
                                    · rw [if_neg c51] at H
                                      exact absurd H (by simp)
                                · rw [if_neg c40] at H
                                  exact absurd H (by simp)
                              · rw [if_neg c39] at H
                                exact absurd H (by simp)
                            · rw [if_neg c38] at H
                              exact absurd H (by simp)
                          · rw [if_neg c36] at H
                            exact absurd H (by simp)
                        · rw [if_neg c35] at H
                          exact absurd H (by simp)
                      · rw [if_neg c33] at H
                        exact absurd H (by simp)
                    · rw [if_neg c32] at H
                      exact absurd H (by simp)
            · rw [if_neg c23] at H
              have c23b0 : decide (0 < (x3_2.length : Int)) = false := decide_eq_false c23
              have c23b1 : decide (0 < x3_2.length) = false := decide_eq_false (by omega)
              clear c23
              obtain rfl := Option.some.inj H
              obtain ⟨Ao97, co97, eo97⟩ := Kd.R_slice HO_3.out
              subst eo97
              go_wp2
              go_ret
              exact ⟨by first | rfl | (simp [errW_none, errW_some] <;> rfl) | (simp [*, errW_none, errW_some] <;> rfl), by repeat (first | (with_reducible first | exact HB.out | apply below_alloc | apply pw_below_drewN | apply below_drew1) | exact HB.out)⟩

end Go.Proofs.YtkpobdcnggdjaaaDoor.PFnExactDecodeWords
