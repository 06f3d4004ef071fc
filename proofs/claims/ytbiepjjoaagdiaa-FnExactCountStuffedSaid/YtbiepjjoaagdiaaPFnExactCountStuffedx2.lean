-- Written by a program of this session (mkprint.py) over the print of the translation. Not trusted: Lean checks it.
import Derived.Test.YtbiepjjoaagdiaaPFnExactCountStuffedx0
import Derived.Test.YtbiepjjoaagdiaaPFnExactCountStuffedx1
namespace Go.Proofs.Ytbiepjjoaagdiaa.PFnExactCountStuffed
open Go.RowKit Go.Proofs.YtbiepjjoaagdiaaW.PrintWords Go.Proofs.YtbiepjjoaagdiaaW.PrintLast Go.Proofs.YtbiepjjoaagdiaaW.PrintMore
attribute [local go_sem] max2_int min2_int max_two min_two max_three min_three max_four min_four   -- for this text's walks alone
set_option linter.unusedVariables false
set_option linter.unusedSimpArgs false

/-! ### spec_CountStuffed: function 4 -/
mutual
def spec_CountStuffed.j0 : Nat → Int → Bool → Int → Int → Option (List Int × Bool)
  | 0, _, _, _, _ => none
  | k + 1, x1, x22, x105000, x105001 => if x22 = true then (some (([] : List Int), false)) else (if x105000 = 0 then (none) else (if 0 ≤ (wrap64 (x105000 * (wrap64 ((wrap64 (Int.tdiv x1 x105000)) + 1)))) then (if (wrap64 (x105000 * (wrap64 ((wrap64 (Int.tdiv x1 x105000)) + 1))) : Int).toNat ≤ 35184372088832 then ((some (List.replicate (wrap64 (x105000 * (wrap64 ((wrap64 (Int.tdiv x1 x105000)) + 1))) : Int).toNat 0 : List Int)).bind fun y107 => (if 0 < (y107.length : Int) then (spec_CountStuffed.l0 k x1 (wrap64 ((wrap64 (Int.tdiv x1 x105000)) + 1)) (y107.set (0 : Int).toNat 1) 0 x105000 x105001) else (none))) else (none)) else (none)))
def spec_CountStuffed.l0 : Nat → Int → Int → List Int → Int → Int → Int → Option (List Int × Bool)
  | 0, _, _, _, _, _, _ => none
  | k + 1, x1, x6, x7, x8, x105000, x105001 => if x8 < x1 then (if 0 ≤ (wrap64 (x105000 * x6)) then (if (wrap64 (x105000 * x6) : Int).toNat ≤ 35184372088832 then (spec_CountStuffed.l1 k x1 x6 x7 x8 (List.replicate (wrap64 (x105000 * x6) : Int).toNat 0) 0 x105000 x105001) else (none)) else (none)) else (if 0 ≤ x6 then (if (x6 : Int).toNat ≤ 35184372088832 then (spec_CountStuffed.l3 k x6 x7 (List.replicate (x6 : Int).toNat 0) 0 x105000 x105001) else (none)) else (none))
def spec_CountStuffed.l1 : Nat → Int → Int → List Int → Int → List Int → Int → Int → Int → Option (List Int × Bool)
  | 0, _, _, _, _, _, _, _, _ => none
  | k + 1, x1, x6, x7, x8, x9, x10, x105000, x105001 => if x10 < x105000 then (spec_CountStuffed.l2 k x1 x6 x7 x8 x9 x10 0 x105000 x105001) else (spec_CountStuffed.l0 k x1 x6 x9 (wrap64 (x8 + 1)) x105000 x105001)
def spec_CountStuffed.l2 : Nat → Int → Int → List Int → Int → List Int → Int → Int → Int → Int → Option (List Int × Bool)
  | 0, _, _, _, _, _, _, _, _, _ => none
  | k + 1, x1, x6, x7, x8, x9, x10, x11, x105000, x105001 => if x11 < x6 then (if 0 ≤ (wrap64 ((wrap64 (x10 * x6)) + x11)) then (if (wrap64 ((wrap64 (x10 * x6)) + x11)) < (x7.length : Int) then (if (rd x7 (wrap64 ((wrap64 (x10 * x6)) + x11))) = 0 then (spec_CountStuffed.l2 k x1 x6 x7 x8 x9 x10 (wrap64 (x11 + 1)) x105000 x105001) else (if 0 ≤ x11 then (if x11 < (x9.length : Int) then ((some (x9.set (x11 : Int).toNat (wrap64 ((rd x9 x11) + (rd x7 (wrap64 ((wrap64 (x10 * x6)) + x11))))) : List Int)).bind fun y116 => (if (wrap64 (x10 + 1)) < x105000 then (if 0 ≤ (wrap64 ((wrap64 ((wrap64 (x10 + 1)) * x6)) + x11)) then (if (wrap64 ((wrap64 ((wrap64 (x10 + 1)) * x6)) + x11)) < (x9.length : Int) then (spec_CountStuffed.l2 k x1 x6 x7 x8 (y116.set ((wrap64 ((wrap64 ((wrap64 (x10 + 1)) * x6)) + x11)) : Int).toNat (wrap64 ((rd y116 (wrap64 ((wrap64 ((wrap64 (x10 + 1)) * x6)) + x11))) + (rd x7 (wrap64 ((wrap64 (x10 * x6)) + x11)))))) x10 (wrap64 (x11 + 1)) x105000 x105001) else (none)) else (none)) else (if 0 ≤ (wrap64 (x11 + 1)) then (if (wrap64 (x11 + 1)) < (x9.length : Int) then (spec_CountStuffed.l2 k x1 x6 x7 x8 (y116.set ((wrap64 (x11 + 1)) : Int).toNat (wrap64 ((rd y116 (wrap64 (x11 + 1))) + (rd x7 (wrap64 ((wrap64 (x10 * x6)) + x11)))))) x10 (wrap64 (x11 + 1)) x105000 x105001) else (none)) else (none)))) else (none)) else (none))) else (none)) else (none)) else (spec_CountStuffed.l1 k x1 x6 x7 x8 x9 (wrap64 (x10 + 1)) x105000 x105001)
def spec_CountStuffed.l3 : Nat → Int → List Int → List Int → Int → Int → Int → Option (List Int × Bool)
  | 0, _, _, _, _, _, _ => none
  | k + 1, x6, x7, x13, x14, x105000, x105001 => if x14 < x105000 then (spec_CountStuffed.l4 k x6 x7 x13 x14 0 x105000 x105001) else (some (x13, true))
def spec_CountStuffed.l4 : Nat → Int → List Int → List Int → Int → Int → Int → Int → Option (List Int × Bool)
  | 0, _, _, _, _, _, _, _ => none
  | k + 1, x6, x7, x13, x14, x15, x105000, x105001 => if x15 < x6 then (if 0 ≤ x15 then (if x15 < (x13.length : Int) then (if 0 ≤ (wrap64 ((wrap64 (x14 * x6)) + x15)) then (if (wrap64 ((wrap64 (x14 * x6)) + x15)) < (x7.length : Int) then (spec_CountStuffed.l4 k x6 x7 (x13.set (x15 : Int).toNat (wrap64 ((rd x13 x15) + (rd x7 (wrap64 ((wrap64 (x14 * x6)) + x15)))))) x14 (wrap64 (x15 + 1)) x105000 x105001) else (none)) else (none)) else (none)) else (none)) else (spec_CountStuffed.l3 k x6 x7 x13 (wrap64 (x14 + 1)) x105000 x105001)
end
def spec_CountStuffed.f (k : Nat) (a0_0 : Int) (a0_1 : Int) (a1 : Int) : Option (List Int × Bool) := (spec_l04Is.f a0_0 a0_1).bind fun t105 => (if t105 = true then ((spec_l00In.f a1 0 60).bind fun t106 => (spec_CountStuffed.j0 k a1 (!t106) a0_0 a0_1)) else (spec_CountStuffed.j0 k a1 true a0_0 a0_1))
theorem spec_CountStuffed.mono_l : ∀ k, (∀ y0 y1 y2 y3, LeO (spec_CountStuffed.j0 k y0 y1 y2 y3) (spec_CountStuffed.j0 (k + 1) y0 y1 y2 y3)) ∧ (∀ y0 y1 y2 y3 y4 y5, LeO (spec_CountStuffed.l0 k y0 y1 y2 y3 y4 y5) (spec_CountStuffed.l0 (k + 1) y0 y1 y2 y3 y4 y5)) ∧ (∀ y0 y1 y2 y3 y4 y5 y6 y7, LeO (spec_CountStuffed.l1 k y0 y1 y2 y3 y4 y5 y6 y7) (spec_CountStuffed.l1 (k + 1) y0 y1 y2 y3 y4 y5 y6 y7)) ∧ (∀ y0 y1 y2 y3 y4 y5 y6 y7 y8, LeO (spec_CountStuffed.l2 k y0 y1 y2 y3 y4 y5 y6 y7 y8) (spec_CountStuffed.l2 (k + 1) y0 y1 y2 y3 y4 y5 y6 y7 y8)) ∧ (∀ y0 y1 y2 y3 y4 y5, LeO (spec_CountStuffed.l3 k y0 y1 y2 y3 y4 y5) (spec_CountStuffed.l3 (k + 1) y0 y1 y2 y3 y4 y5)) ∧ (∀ y0 y1 y2 y3 y4 y5 y6, LeO (spec_CountStuffed.l4 k y0 y1 y2 y3 y4 y5 y6) (spec_CountStuffed.l4 (k + 1) y0 y1 y2 y3 y4 y5 y6))
  | 0 => ⟨fun _ _ _ _ r h => by simp [spec_CountStuffed.j0] at h, fun _ _ _ _ _ _ r h => by simp [spec_CountStuffed.l0] at h, fun _ _ _ _ _ _ _ _ r h => by simp [spec_CountStuffed.l1] at h, fun _ _ _ _ _ _ _ _ _ r h => by simp [spec_CountStuffed.l2] at h, fun _ _ _ _ _ _ r h => by simp [spec_CountStuffed.l3] at h, fun _ _ _ _ _ _ _ r h => by simp [spec_CountStuffed.l4] at h⟩
  | k + 1 => by
    obtain ⟨ih0, ih1, ih2, ih3, ih4, ih5⟩ := spec_CountStuffed.mono_l k
    refine ⟨?_, ?_, ?_, ?_, ?_, ?_⟩
    · intro y0 y1 y2 y3
      unfold spec_CountStuffed.j0
      repeat' first
      | (with_reducible exact ih0 _ _ _ _)
      | (with_reducible exact ih1 _ _ _ _ _ _)
      | (with_reducible exact ih2 _ _ _ _ _ _ _ _)
      | (with_reducible exact ih3 _ _ _ _ _ _ _ _ _)
      | (with_reducible exact ih4 _ _ _ _ _ _)
      | (with_reducible exact ih5 _ _ _ _ _ _ _)
      | (with_reducible exact LeO.refl _)
      | (with_reducible exact LeO.none _)
      | (with_reducible refine LeO.ite ?_ ?_)
      | (with_reducible refine LeO.bind ?_ (fun _ => ?_))
      | exact ih0 _ _ _ _
      | exact ih1 _ _ _ _ _ _
      | exact ih2 _ _ _ _ _ _ _ _
      | exact ih3 _ _ _ _ _ _ _ _ _
      | exact ih4 _ _ _ _ _ _
      | exact ih5 _ _ _ _ _ _ _
      | exact LeO.none _
      | refine LeO.ite ?_ ?_
      | refine LeO.bind ?_ (fun _ => ?_)
    · intro y0 y1 y2 y3 y4 y5
      unfold spec_CountStuffed.l0
      repeat' first
      | (with_reducible exact ih0 _ _ _ _)
      | (with_reducible exact ih1 _ _ _ _ _ _)
      | (with_reducible exact ih2 _ _ _ _ _ _ _ _)
      | (with_reducible exact ih3 _ _ _ _ _ _ _ _ _)
      | (with_reducible exact ih4 _ _ _ _ _ _)
      | (with_reducible exact ih5 _ _ _ _ _ _ _)
      | (with_reducible exact LeO.refl _)
      | (with_reducible exact LeO.none _)
      | (with_reducible refine LeO.ite ?_ ?_)
      | (with_reducible refine LeO.bind ?_ (fun _ => ?_))
      | exact ih0 _ _ _ _
      | exact ih1 _ _ _ _ _ _
      | exact ih2 _ _ _ _ _ _ _ _
      | exact ih3 _ _ _ _ _ _ _ _ _
      | exact ih4 _ _ _ _ _ _
      | exact ih5 _ _ _ _ _ _ _
      | exact LeO.none _
      | refine LeO.ite ?_ ?_
      | refine LeO.bind ?_ (fun _ => ?_)
    · intro y0 y1 y2 y3 y4 y5 y6 y7
      unfold spec_CountStuffed.l1
      repeat' first
      | (with_reducible exact ih0 _ _ _ _)
      | (with_reducible exact ih1 _ _ _ _ _ _)
      | (with_reducible exact ih2 _ _ _ _ _ _ _ _)
      | (with_reducible exact ih3 _ _ _ _ _ _ _ _ _)
      | (with_reducible exact ih4 _ _ _ _ _ _)
      | (with_reducible exact ih5 _ _ _ _ _ _ _)
      | (with_reducible exact LeO.refl _)
      | (with_reducible exact LeO.none _)
      | (with_reducible refine LeO.ite ?_ ?_)
      | (with_reducible refine LeO.bind ?_ (fun _ => ?_))
      | exact ih0 _ _ _ _
      | exact ih1 _ _ _ _ _ _
      | exact ih2 _ _ _ _ _ _ _ _
      | exact ih3 _ _ _ _ _ _ _ _ _
      | exact ih4 _ _ _ _ _ _
      | exact ih5 _ _ _ _ _ _ _
      | exact LeO.none _
      | refine LeO.ite ?_ ?_
      | refine LeO.bind ?_ (fun _ => ?_)
    · intro y0 y1 y2 y3 y4 y5 y6 y7 y8
      unfold spec_CountStuffed.l2
      repeat' first
      | (with_reducible exact ih0 _ _ _ _)
      | (with_reducible exact ih1 _ _ _ _ _ _)
      | (with_reducible exact ih2 _ _ _ _ _ _ _ _)
      | (with_reducible exact ih3 _ _ _ _ _ _ _ _ _)
      | (with_reducible exact ih4 _ _ _ _ _ _)
      | (with_reducible exact ih5 _ _ _ _ _ _ _)
      | (with_reducible exact LeO.refl _)
      | (with_reducible exact LeO.none _)
      | (with_reducible refine LeO.ite ?_ ?_)
      | (with_reducible refine LeO.bind ?_ (fun _ => ?_))
      | exact ih0 _ _ _ _
      | exact ih1 _ _ _ _ _ _
      | exact ih2 _ _ _ _ _ _ _ _
      | exact ih3 _ _ _ _ _ _ _ _ _
      | exact ih4 _ _ _ _ _ _
      | exact ih5 _ _ _ _ _ _ _
      | exact LeO.none _
      | refine LeO.ite ?_ ?_
      | refine LeO.bind ?_ (fun _ => ?_)
    · intro y0 y1 y2 y3 y4 y5
      unfold spec_CountStuffed.l3
      repeat' first
      | (with_reducible exact ih0 _ _ _ _)
      | (with_reducible exact ih1 _ _ _ _ _ _)
      | (with_reducible exact ih2 _ _ _ _ _ _ _ _)
      | (with_reducible exact ih3 _ _ _ _ _ _ _ _ _)
      | (with_reducible exact ih4 _ _ _ _ _ _)
      | (with_reducible exact ih5 _ _ _ _ _ _ _)
      | (with_reducible exact LeO.refl _)
      | (with_reducible exact LeO.none _)
      | (with_reducible refine LeO.ite ?_ ?_)
      | (with_reducible refine LeO.bind ?_ (fun _ => ?_))
      | exact ih0 _ _ _ _
      | exact ih1 _ _ _ _ _ _
      | exact ih2 _ _ _ _ _ _ _ _
      | exact ih3 _ _ _ _ _ _ _ _ _
      | exact ih4 _ _ _ _ _ _
      | exact ih5 _ _ _ _ _ _ _
      | exact LeO.none _
      | refine LeO.ite ?_ ?_
      | refine LeO.bind ?_ (fun _ => ?_)
    · intro y0 y1 y2 y3 y4 y5 y6
      unfold spec_CountStuffed.l4
      repeat' first
      | (with_reducible exact ih0 _ _ _ _)
      | (with_reducible exact ih1 _ _ _ _ _ _)
      | (with_reducible exact ih2 _ _ _ _ _ _ _ _)
      | (with_reducible exact ih3 _ _ _ _ _ _ _ _ _)
      | (with_reducible exact ih4 _ _ _ _ _ _)
      | (with_reducible exact ih5 _ _ _ _ _ _ _)
      | (with_reducible exact LeO.refl _)
      | (with_reducible exact LeO.none _)
      | (with_reducible refine LeO.ite ?_ ?_)
      | (with_reducible refine LeO.bind ?_ (fun _ => ?_))
      | exact ih0 _ _ _ _
      | exact ih1 _ _ _ _ _ _
      | exact ih2 _ _ _ _ _ _ _ _
      | exact ih3 _ _ _ _ _ _ _ _ _
      | exact ih4 _ _ _ _ _ _
      | exact ih5 _ _ _ _ _ _ _
      | exact LeO.none _
      | refine LeO.ite ?_ ?_
      | refine LeO.bind ?_ (fun _ => ?_)
theorem spec_CountStuffed.mono : ∀ a0 a1 a2 k, LeO (spec_CountStuffed.f k a0 a1 a2) (spec_CountStuffed.f (k + 1) a0 a1 a2) := by
  intro a0 a1 a2 k
  obtain ⟨ih0, ih1, ih2, ih3, ih4, ih5⟩ := spec_CountStuffed.mono_l k
  unfold spec_CountStuffed.f
  repeat' first
      | (with_reducible exact ih0 _ _ _ _)
      | (with_reducible exact ih1 _ _ _ _ _ _)
      | (with_reducible exact ih2 _ _ _ _ _ _ _ _)
      | (with_reducible exact ih3 _ _ _ _ _ _ _ _ _)
      | (with_reducible exact ih4 _ _ _ _ _ _)
      | (with_reducible exact ih5 _ _ _ _ _ _ _)
      | (with_reducible exact LeO.refl _)
      | (with_reducible exact LeO.none _)
      | (with_reducible refine LeO.ite ?_ ?_)
      | (with_reducible refine LeO.bind ?_ (fun _ => ?_))
      | exact ih0 _ _ _ _
      | exact ih1 _ _ _ _ _ _
      | exact ih2 _ _ _ _ _ _ _ _
      | exact ih3 _ _ _ _ _ _ _ _ _
      | exact ih4 _ _ _ _ _ _
      | exact ih5 _ _ _ _ _ _ _
      | exact LeO.none _
      | refine LeO.ite ?_ ?_
      | refine LeO.bind ?_ (fun _ => ?_)
def spec_CountStuffed.T30 : Bool × List (List Nat × List Nat) := (true, [([], []), ([], []), ([0, 1], [0, 1]), ([2], [2]), ([], []), ([], []), ([], []), ([5, 6], [5, 6]), ([], []), ([7, 8], [7, 8]), ([4, 9], [4, 9]), ([10], [10]), ([3, 11], [3, 11]), ([0, 1, 0, 1, 2, 3, 4, 5, 6, 7, 8, 9, 10, 11, 12], [0, 1]), ([13, 12, 0, 1, 2, 3, 4, 5, 6, 7, 8, 9, 10, 11, 12], [12, 13])])
def spec_CountStuffed.B30 : List Nat := [0, 0, 3, 7, 0, 0, 0, 96, 0, 480, 1008, 2032, 4095, 8191, 16383]
theorem spec_CountStuffed.tab30 : rtab .any (opsOf Try.f4 30) = spec_CountStuffed.T30 := by kernel_rfl
theorem spec_CountStuffed.bits30 : waitsOk spec_CountStuffed.T30.2 spec_CountStuffed.B30 = true := by kernel_rfl
set_option maxHeartbeats 8000000 in
set_option maxRecDepth 100000 in
theorem spec_CountStuffed.calls (k : Nat) (a0_0 : Int) (a0_1 : Int) (a1 : Int) (r1 : List Int) (r2 : Bool) (w : World) (h : spec_CountStuffed.f k a0_0 a0_1 a1 = some (r1, r2)) :
    Calls Try.prog 4 #[.agg #[.int .i64 a0_0, .int .i64 a0_1], .int .i64 a1] w fun e w' => ∃ v0_ : Value, e = .returned (.tuple #[v0_, .bool r2]) ∧ Kd.R (Kd.int .i64) 2 w' w.heap.size (fun _ => True) v0_ r1 ∧ Below w.heap.size w w' := by
  have hu27 := Try.underlying27
  have HB := Aside0.mk (Below.refl w.heap.size w)
  have H : ((spec_l04Is.f a0_0 a0_1).bind fun t105 => (if t105 = true then ((spec_l00In.f a1 0 60).bind fun t106 => (spec_CountStuffed.j0 k a1 (!t106) a0_0 a0_1)) else (spec_CountStuffed.j0 k a1 true a0_0 a0_1))) = some (r1, r2) := h
  clear h
  have HC3 := Aside0.mk H
  clear H
  go_enter Try.func4, Try.ntmps4
  go_upto_region 1 with (first | ((with_reducible refine gate_dst (N := 2) rfl ?_); refine box_event ?hg (N := 2) ?hd (cs := #[.int .i64 a0_0, .int .i64 a0_1]) (t := 27) ?hr ?_; (case hd => rfl); (case hg => rfl); (case hr => first | (go_simp; done) | (go_simp; rfl)); intro gb104 hg w4 hbox hb; have n0_ := Aside0.mk (below_step (by repeat (first | (with_reducible first | exact HB.out | apply below_alloc | apply pw_below_drewN | apply below_drew1) | exact HB.out)) hb); have n1_ := Aside0.mk (hbox); have n2_ := Aside0.mk ((by rw [hg]; exact (below_size (by repeat (first | (with_reducible first | exact HB.out | apply below_alloc | apply pw_below_drewN | apply below_drew1) | exact HB.out))) : w.heap.size ≤ gb104)); have n3_ := Aside0.mk ((by rw [hg]; exact (below_size (by repeat (first | (with_reducible first | exact HB.out | apply below_alloc | apply pw_below_drewN | apply below_drew1) | exact HB.out))) : w.heap.size ≤ gb104)); clear HB; have HB := n0_; have BK104 := n1_; have GW104 := n2_; have GE104 := n3_; clear n0_ n1_ n2_ n3_; clear hb hbox hg))
  (try simp only [Act.put, List.setIfInBounds_toArray, List.set_cons_zero, List.set_cons_succ])
  go_cut [22] (fun v22 wc => ∃ (kq : Nat) (x22_2 : Bool), v22 = .bool x22_2 ∧ Aside0 (spec_CountStuffed.j0 kq a1 x22_2 a0_0 a0_1 = some (r1, r2)) ∧ Aside0 (kq ≤ k) ∧ Aside0 (wc.heap[gb104]? = some (.cells #[.int .i64 a0_0, .int .i64 a0_1] 27 (0, 0))) ∧ Aside0 (Below w.heap.size w wc))
  case first =>
    have H := HC3.out
    clear HC3
    replace H := Option.bind_eq_some_iff.mp H
    obtain ⟨t105, A50, H⟩ := H
    replace H : (if t105 = true then ((spec_l00In.f a1 0 60).bind fun t106 => (spec_CountStuffed.j0 k a1 (!t106) a0_0 a0_1)) else (spec_CountStuffed.j0 k a1 true a0_0 a0_1)) = some (r1, r2) := H
    have A5 := Aside0.mk A50
    clear A50
    by_cases c6 : t105 = true
    · subst c6
      have H1 : ((spec_l00In.f a1 0 60).bind fun t106 => (spec_CountStuffed.j0 k a1 (!t106) a0_0 a0_1)) = some (r1, r2) := by rw [if_pos rfl] at H; exact H
      clear H
      have H := H1
      clear H1
      replace H := Option.bind_eq_some_iff.mp H
      obtain ⟨t106, A70, H⟩ := H
      replace H : (spec_CountStuffed.j0 k a1 (!t106) a0_0 a0_1) = some (r1, r2) := H
      have A7 := Aside0.mk A70
      clear A70
      have H' := Aside0.mk H
      clear H
      go_wp2_with (first | ((with_reducible refine gate_callee (f := 10) rfl ?_); refine goesL_ (some 16) rfl rfl Try.func10 (by kernel_rfl) rfl #[.pointer (some ⟨gb104, 0, none⟩)] rfl (by (try simp only [List.map_toArray, List.map_cons, List.map_nil]); first | done | rfl | (simp only [List.length_drop, List.length_take]; rfl)) ?_; (with_reducible refine (spec_l04Is.calls gb104 a0_0 a0_1 true _ ?side1 A5.out).mono ?_); (case side1 => exact (by (with_reducible repeat (first | refine blk_drewN ?_ _ | refine blk_drew ?_ | refine blk_alloc ?_ _)); exact BK104.out)); rintro e w8 ⟨rfl, hb⟩; refine ⟨_, rfl, ?_⟩; have n0_ := Aside0.mk (blk_below (g := gb104) (o := .cells #[.int .i64 a0_0, .int .i64 a0_1] 27 (0, 0)) (by (with_reducible repeat (first | refine blk_drewN ?_ _ | refine blk_drew ?_ | refine blk_alloc ?_ _)); exact BK104.out) hb); have n1_ := Aside0.mk (below_step (by repeat (first | (with_reducible first | exact HB.out | apply below_alloc | apply pw_below_drewN | apply below_drew1 | refine below_set ?_ GE104.out) | exact HB.out)) hb); clear BK104; clear HB; have BK104 := n0_; have HB := n1_; clear n0_ n1_; (try clear hb); (try clear hb2); (try clear hk); (try clear hi)) | (go_at_call 11; (with_reducible refine (spec_l00In.calls a1 0 60 t106 _ A7.out).mono ?_); rintro e w' ⟨rfl, ⟨nd, rfl⟩⟩))
      go_meet
      case rel => exact ⟨_, (!t106), (by first | rfl | (simp; done) | (simp [*]; done)), H', ⟨by first | omega | exact Nat.le_refl _⟩, ⟨by (with_reducible repeat (first | refine blk_drewN ?_ _ | refine blk_drew ?_ | refine blk_alloc ?_ _)); exact BK104.out⟩, ⟨by repeat (first | (with_reducible first | exact HB.out | apply below_alloc | apply pw_below_drewN | apply below_drew1 | refine below_set ?_ GE104.out) | exact HB.out)⟩⟩
    · replace c6 := Bool.eq_false_iff.mpr c6
      subst c6
      have H1 : (spec_CountStuffed.j0 k a1 true a0_0 a0_1) = some (r1, r2) := by rw [if_neg (show ¬ (false = true) by decide)] at H; exact H
      clear H
      have H := H1
      clear H1
      have H' := Aside0.mk H
      clear H
      go_wp2_with (first | ((with_reducible refine gate_callee (f := 10) rfl ?_); refine goesL_ (some 16) rfl rfl Try.func10 (by kernel_rfl) rfl #[.pointer (some ⟨gb104, 0, none⟩)] rfl (by (try simp only [List.map_toArray, List.map_cons, List.map_nil]); first | done | rfl | (simp only [List.length_drop, List.length_take]; rfl)) ?_; (with_reducible refine (spec_l04Is.calls gb104 a0_0 a0_1 false _ ?side1 A5.out).mono ?_); (case side1 => exact (by (with_reducible repeat (first | refine blk_drewN ?_ _ | refine blk_drew ?_ | refine blk_alloc ?_ _)); exact BK104.out)); rintro e w9 ⟨rfl, hb⟩; refine ⟨_, rfl, ?_⟩; have n0_ := Aside0.mk (blk_below (g := gb104) (o := .cells #[.int .i64 a0_0, .int .i64 a0_1] 27 (0, 0)) (by (with_reducible repeat (first | refine blk_drewN ?_ _ | refine blk_drew ?_ | refine blk_alloc ?_ _)); exact BK104.out) hb); have n1_ := Aside0.mk (below_step (by repeat (first | (with_reducible first | exact HB.out | apply below_alloc | apply pw_below_drewN | apply below_drew1 | refine below_set ?_ GE104.out) | exact HB.out)) hb); clear BK104; clear HB; have BK104 := n0_; have HB := n1_; clear n0_ n1_; (try clear hb); (try clear hb2); (try clear hk); (try clear hi)))
      go_meet
      case rel => exact ⟨_, (true), (by first | rfl | (simp; done) | (simp [*]; done)), H', ⟨by first | omega | exact Nat.le_refl _⟩, ⟨by (with_reducible repeat (first | refine blk_drewN ?_ _ | refine blk_drew ?_ | refine blk_alloc ?_ _)); exact BK104.out⟩, ⟨by repeat (first | (with_reducible first | exact HB.out | apply below_alloc | apply pw_below_drewN | apply below_drew1 | refine below_set ?_ GE104.out) | exact HB.out)⟩⟩
  case rest =>
    clear HC3
    try clear c1
    try clear p2
    try clear c4
    try clear c6
    obtain ⟨kq, x22_2, rfl, HA, HJ2, BK104, HB⟩ := hcut
    cases kq with
    | zero => exact absurd HA.out (by simp [spec_CountStuffed.j0])
    | succ kj2 =>
      have H := HA.out
      clear HA
      simp only [spec_CountStuffed.j0] at H
      by_cases c10 : x22_2 = true
      · subst c10
        have H1 : (some (([] : List Int), false)) = some (r1, r2) := by rw [if_pos rfl] at H; exact H
        clear H
        have H := H1
        clear H1
        simp only [Option.some.injEq, Prod.mk.injEq] at H
        obtain ⟨rfl, rfl⟩ := H
        go_wp2
        go_ret2
        exact ⟨_, by first | rfl | (simp [errW_none, errW_some] <;> rfl) | (simp [*, errW_none, errW_some] <;> rfl), by first | exact Kd.R_nil _ _ _ _ _ | exact Kd.N_nil _ _ _ _ _ | exact Kd.V_nil _ _ _ _ _ | exact Kd.Q_nil _ _ _ _ _ | exact Kd.S_nil _ _ _ _ _, by repeat (first | (with_reducible first | exact HB.out | apply below_alloc | apply pw_below_drewN | apply below_drew1 | refine below_set ?_ GE104.out) | exact HB.out)⟩
      · replace c10 := Bool.eq_false_iff.mpr c10
        subst c10
        have H1 : (if a0_0 = 0 then (none) else (if 0 ≤ (wrap64 (a0_0 * (wrap64 ((wrap64 (Int.tdiv a1 a0_0)) + 1)))) then (if (wrap64 (a0_0 * (wrap64 ((wrap64 (Int.tdiv a1 a0_0)) + 1))) : Int).toNat ≤ 35184372088832 then ((some (List.replicate (wrap64 (a0_0 * (wrap64 ((wrap64 (Int.tdiv a1 a0_0)) + 1))) : Int).toNat 0 : List Int)).bind fun y107 => (if 0 < (y107.length : Int) then (spec_CountStuffed.l0 kj2 a1 (wrap64 ((wrap64 (Int.tdiv a1 a0_0)) + 1)) (y107.set (0 : Int).toNat 1) 0 a0_0 a0_1) else (none))) else (none)) else (none))) = some (r1, r2) := by rw [if_neg (show ¬ (false = true) by decide)] at H; exact H
        clear H
        have H := H1
        clear H1
        by_cases c11 : a0_0 = 0
        · rw [if_pos c11] at H
          exact absurd H (by simp)
        · rw [if_neg c11] at H
          have c11b0 : (a0_0 == 0) = false := beq_eq_false_iff_ne.mpr c11
          have c11b1 : (a0_0 != 0) = true := bne_iff_ne.mpr c11
          obtain ⟨ji12, hji12⟩ : ∃ j_ : Int, (wrap64 (a0_0 * (wrap64 ((wrap64 (Int.tdiv a1 a0_0)) + 1)))) = j_ := ⟨_, rfl⟩
          replace H : (if 0 ≤ (ji12) then (if (ji12 : Int).toNat ≤ 35184372088832 then ((some (List.replicate (ji12 : Int).toNat 0 : List Int)).bind fun y107 => (if 0 < (y107.length : Int) then (spec_CountStuffed.l0 kj2 a1 (wrap64 ((wrap64 (Int.tdiv a1 a0_0)) + 1)) (y107.set (0 : Int).toNat 1) 0 a0_0 a0_1) else (none))) else (none)) else (none)) = some (r1, r2) := by first | (rw [hji12] at H; exact H) | (simp only [hji12] at H ⊢; exact H)
          have hji12w : (IntKind.i64.wrap (a0_0 * (wrap64 ((wrap64 (Int.tdiv a1 a0_0)) + 1)))) = ji12 := (i64_w _).trans hji12
          by_cases c13 : 0 ≤ (ji12)
          · rw [if_pos c13] at H
            have c13b0 := eq_true c13
            have c13b1 : decide (0 ≤ (ji12)) = true := decide_eq_true c13
            clear c13
            by_cases c14 : (ji12 : Int).toNat ≤ 35184372088832
            · rw [if_pos c14] at H
              have c14b0 := eq_true c14
              have c14b1 : decide ((ji12 : Int).toNat ≤ 35184372088832) = true := decide_eq_true c14
              clear c14
              obtain ⟨y107, hy107⟩ : ∃ y_ : List Int, y_ = (List.replicate (ji12 : Int).toNat 0) := ⟨_, rfl⟩
              replace H : (if 0 < (y107.length : Int) then (spec_CountStuffed.l0 kj2 a1 (wrap64 ((wrap64 (Int.tdiv a1 a0_0)) + 1)) (y107.set (0 : Int).toNat 1) 0 a0_0 a0_1) else (none)) = some (r1, r2) := by first | (rw [hy107]; with_reducible exact H) | (have H2_ := (Option.bind_some _ _).symm.trans H; rw [hy107]; with_reducible exact H2_) | (have H2_ := (Option.bind_some _ _).symm.trans H; with_reducible exact H2_) | with_reducible exact H | (rw [hy107]; exact H) | exact H
              have Ny107 := Aside0.mk hy107
              clear hy107
              by_cases c15 : 0 < (y107.length : Int)
              · rw [if_pos c15] at H
                have c15b0 : decide (0 < (y107.length : Int)) = true := decide_eq_true c15
                have c15b1 : decide (0 < y107.length) = true := decide_eq_true (by omega)
                clear c15
                obtain ⟨y110, hy110⟩ : ∃ y_ : List Int, y_ = (y107.set (0 : Int).toNat 1) := ⟨_, rfl⟩
                replace H : (spec_CountStuffed.l0 kj2 a1 (wrap64 ((wrap64 (Int.tdiv a1 a0_0)) + 1)) y110 0 a0_0 a0_1) = some (r1, r2) := by first | (rw [hy110]; with_reducible exact H) | (have H2_ := (Option.bind_some _ _).symm.trans H; rw [hy110]; with_reducible exact H2_) | (have H2_ := (Option.bind_some _ _).symm.trans H; with_reducible exact H2_) | with_reducible exact H | (rw [hy110]; exact H) | exact H
                have Ny110 := Aside0.mk hy110
                clear hy110
                have H' := Aside0.mk H
                clear H
                have hcz17_0 : wc.cell? ⟨gb104, 0, none⟩ = some (.int .i64 a0_0) := (blk_cell BK104.out 0).trans rfl
                have hcz17_1 : wc.cell? ⟨gb104, 1, none⟩ = some (.int .i64 a0_1) := (blk_cell BK104.out 1).trans rfl
                have hfz17_0 := blk_frozen BK104.out 0
                have hfz17_1 := blk_frozen BK104.out 1
                go_wp2_with (first | ((with_reducible refine gate_dst (N := 32) rfl ?_); refine Kd.R_make (Kd.int .i64) _ 2 rfl (N := 32) rfl 24 _ _ rfl ji12 (by first | rfl | exact congrArg (Value.int .i64) hji12 | exact congrArg (Value.int .i64) (hji23.symm.trans hji12)) (by first | rfl | exact congrArg (Value.int .i64) hji12 | exact congrArg (Value.int .i64) (hji23.symm.trans hji12)) Try.underlying24 (.int .i64 0) 8 info2 rfl (by decide) (by omega) 0 (ok := fun _ => True) (okp := fun _ => True) rfl (fun _ hk => hk) trivial (of_decide_eq_true (by first | (with_reducible assumption) | assumption)) (Nat.le_trans (Nat.mul_le_mul_right _ (of_decide_eq_true (by first | (with_reducible assumption) | assumption) : ji12.toNat ≤ 35184372088832)) (by omega)) (Below.refl _ _) (Nat.le_refl _) ?_; intro v108 w18 ho19 hb hg_ hnew_; clear hg_ hnew_; (first | rw [← Ny107.out] at ho19 | (simp only [Int.reduceToNat] at ho19; rw [← Ny107.out] at ho19)); have n0_ := Aside0.mk (Kd.R_lower ho19 (below_size (by repeat (first | (with_reducible first | exact HB.out | apply below_alloc | apply pw_below_drewN | apply below_drew1 | refine below_set ?_ GE104.out) | exact HB.out)))); have n1_ := Aside0.mk (blk_below (g := gb104) (o := .cells #[.int .i64 a0_0, .int .i64 a0_1] 27 (0, 0)) (by (with_reducible repeat (first | refine blk_drewN ?_ _ | refine blk_drew ?_ | refine blk_alloc ?_ _)); exact BK104.out) hb); have n2_ := Aside0.mk (below_step (by repeat (first | (with_reducible first | exact HB.out | apply below_alloc | apply pw_below_drewN | apply below_drew1 | refine below_set ?_ GE104.out) | exact HB.out)) hb); clear BK104; clear HB; have HO109 := n0_; have BK104 := n1_; have HB := n2_; clear n0_ n1_ n2_; clear hb ho19; have p16 : 0 ≤ (0 : Int) := (by omega); have q16 : (0 : Int) < ((y107.length : Int) : Int) := of_decide_eq_true (by first | (with_reducible assumption) | assumption); have qi16 : (0 < y107.length) = True := eq_true (by omega); obtain ⟨go16, co16, eo16, gb16, gl16, cl16, HG16⟩ := Kd.R_form HO109.out (by omega); (first | cases eo16 | (injection eo16 with ea_ en_ ec_; (first | subst ea_ | (injection ea_ with ea_; subst ea_)); subst ec_; clear en_)); have GB16 := Aside0.mk gb16; have GG16 := Aside0.mk HG16; clear gb16 gl16 HG16; obtain ⟨hx16_0, hf16_0⟩ := Kd.R_celln 0 HO109.out (0 : Int) p16 q16; (try rw [show ((0 : Int)).toNat = 0 from rfl] at hx16_0); (try simp only [Nat.reduceMul, Nat.zero_mul, Nat.zero_add, Nat.reduceAdd] at hx16_0); (try rw [show ((0 : Int)).toNat = 0 from rfl] at hf16_0); (try simp only [Nat.reduceMul, Nat.zero_mul, Nat.zero_add, Nat.reduceAdd] at hf16_0); replace p16 := eq_true p16; replace q16 := eq_true q16; obtain ⟨hy20_, hz20_⟩ := Kd.R_celln 0 HO109.out (0 : Int) (by omega) (of_decide_eq_true (by first | (with_reducible assumption) | assumption)); (try simp only [Int.reduceToNat, Int.toNat_zero, Int.toNat_ofNat, Nat.reduceMul, Nat.zero_mul, Nat.zero_add] at hy20_ hz20_); (try rw [show ((0 : Int)).toNat = 0 from rfl] at hy20_); (try rw [show ((0 : Int)).toNat = 0 from rfl] at hz20_); have HP20 := Kd.R_putg HO109.out (0 : Int) 1) | ((with_reducible refine gate_store (t := 2) (p := 34) rfl ?_); refine store_event (t := 2) (p := 34) (v := ?vo_w21) (w1 := (w18.setCell ⟨go16, (0 : Int).toNat, none⟩ (.int .i64 1))) ?hg ?ho ?hn ?hr ?_; (case ho => rfl); (case hg => rfl); (case hn => rfl); (case hr => first | (go_simp; done) | (go_simp; rfl)); intro w21 hw; have hg : w18.grownBy w21 (some go16) := (by rw [hw]; exact HP20.2); have hp_ : Kd.R (Kd.int .i64) 2 w21 w.heap.size (fun _ => True) (.slice (some ⟨go16, 0, none⟩) y107.length co16) y110 := (by rw [hw, Ny110.out]; exact HP20.1); clear HP20; have n0_ := Aside0.mk (blk_grown (g := gb104) (o := .cells #[.int .i64 a0_0, .int .i64 a0_1] 27 (0, 0)) (by (with_reducible repeat (first | refine blk_drewN ?_ _ | refine blk_drew ?_ | refine blk_alloc ?_ _)); exact BK104.out) hg (Kd.R_ne HO109.out BK104.out (by decide))); have n1_ := Aside0.mk (hp_); have n2_ := Aside0.mk ((by rw [hw]; exact below_set (HB.out) GB16.out : Below w.heap.size w w21)); clear BK104; clear HO109; clear HB; have BK104 := n0_; have HO109 := n1_; have HB := n2_; clear n0_ n1_ n2_; clear hg hw hp_))
                go_loopg [7, 8] kj2 (fun kq v7 v8 w' => ∃ (x7_2 : List Int) (x8_2 : Int), v8 = .int .i64 x8_2 ∧ Aside0 (spec_CountStuffed.l0 kq a1 (wrap64 ((wrap64 (Int.tdiv a1 a0_0)) + 1)) x7_2 x8_2 a0_0 a0_1 = some (r1, r2)) ∧ Aside0 (kq ≤ kj2) ∧ Aside0 (Kd.R (Kd.int .i64) 2 w' w.heap.size (fun _ => True) v7 x7_2) ∧ Aside0 (w'.heap[gb104]? = some (.cells #[.int .i64 a0_0, .int .i64 a0_1] 27 (0, 0))) ∧ Aside0 (Below w.heap.size w w'))
                case atStart => exact ⟨(y110), (0), (by first | rfl | (simp; done) | (simp [*]; done)), H', ⟨Nat.le_refl _⟩, ⟨by (with_reducible repeat (first | apply Kd.R_alloc | apply Kd.R_drewN | apply Kd.R_drew)); exact HO109.out⟩, ⟨by (with_reducible repeat (first | refine blk_drewN ?_ _ | refine blk_drew ?_ | refine blk_alloc ?_ _)); exact BK104.out⟩, ⟨by repeat (first | (with_reducible first | exact HB.out | apply below_alloc | apply pw_below_drewN | apply below_drew1 | refine below_set ?_ GE104.out) | exact HB.out)⟩⟩
                case round =>
                  clear H'
                  try clear c1
                  try clear p1
                  try clear q1
                  try clear hx1
                  try clear qi1
                  try clear p2
                  try clear c4
                  try clear c6
                  try clear p6
                  try clear c10
                  try clear c11
                  try clear c11b0
                  try clear c11b1
                  try clear c13
                  try clear c13b0
                  try clear c13b1
                  try clear c14
                  try clear c14b0
                  try clear c14b1
                  try clear c15
                  try clear c15b0
                  try clear c15b1
                  try clear p16
                  try clear q16
                  try clear hx16
                  try clear qi16
                  try clear hf16
                  try clear hcz17_0
                  try clear hcz17_1
                  try clear hfz17_0
                  try clear hfz17_1
                  try clear hx16_0
                  try clear p16
                  try clear p2
                  try clear q16
                  obtain ⟨x7_2, x8_2, rfl, HA, HK2, HO_7, BK104, HB⟩ := hrel
                  cases gk with
                  | zero => exact absurd HA.out (by simp [spec_CountStuffed.l0])
                  | succ k2 =>
                    have H := HA.out
                    clear HA
                    simp only [spec_CountStuffed.l0] at H
                    by_cases c22 : x8_2 < a1
                    · rw [if_pos c22] at H
                      have c22b0 : decide (x8_2 < a1) = true := decide_eq_true c22
                      clear c22
                      obtain ⟨ji23, hji23⟩ : ∃ j_ : Int, (wrap64 (a0_0 * (wrap64 ((wrap64 (Int.tdiv a1 a0_0)) + 1)))) = j_ := ⟨_, rfl⟩
                      replace H : (if 0 ≤ (ji23) then (if (ji23 : Int).toNat ≤ 35184372088832 then (spec_CountStuffed.l1 k2 a1 (wrap64 ((wrap64 (Int.tdiv a1 a0_0)) + 1)) x7_2 x8_2 (List.replicate (ji23 : Int).toNat 0) 0 a0_0 a0_1) else (none)) else (none)) = some (r1, r2) := by first | (rw [hji23] at H; exact H) | (simp only [hji23] at H ⊢; exact H)
                      have hji23w : (IntKind.i64.wrap (a0_0 * (wrap64 ((wrap64 (Int.tdiv a1 a0_0)) + 1)))) = ji23 := (i64_w _).trans hji23
                      by_cases c24 : 0 ≤ (ji23)
                      · rw [if_pos c24] at H
                        have c24b0 := eq_true c24
                        have c24b1 : decide (0 ≤ (ji23)) = true := decide_eq_true c24
                        clear c24
                        by_cases c25 : (ji23 : Int).toNat ≤ 35184372088832
                        · rw [if_pos c25] at H
                          have c25b0 := eq_true c25
                          have c25b1 : decide ((ji23 : Int).toNat ≤ 35184372088832) = true := decide_eq_true c25
                          clear c25
                          obtain ⟨y111, hy111⟩ : ∃ y_ : List Int, y_ = (List.replicate (ji23 : Int).toNat 0) := ⟨_, rfl⟩
                          replace H : (spec_CountStuffed.l1 k2 a1 (wrap64 ((wrap64 (Int.tdiv a1 a0_0)) + 1)) x7_2 x8_2 y111 0 a0_0 a0_1) = some (r1, r2) := by first | (rw [hy111]; with_reducible exact H) | (have H2_ := (Option.bind_some _ _).symm.trans H; rw [hy111]; with_reducible exact H2_) | (have H2_ := (Option.bind_some _ _).symm.trans H; with_reducible exact H2_) | with_reducible exact H | (rw [hy111]; exact H) | exact H
                          have Ny111 := Aside0.mk hy111
                          clear hy111
                          have H' := Aside0.mk H
                          clear H
                          have hcz26_0 : wr.cell? ⟨gb104, 0, none⟩ = some (.int .i64 a0_0) := (blk_cell BK104.out 0).trans rfl
                          have hcz26_1 : wr.cell? ⟨gb104, 1, none⟩ = some (.int .i64 a0_1) := (blk_cell BK104.out 1).trans rfl
                          have hfz26_0 := blk_frozen BK104.out 0
                          have hfz26_1 := blk_frozen BK104.out 1
                          go_wp2_with (first | ((with_reducible refine gate_dst (N := 44) rfl ?_); refine Kd.R_make (Kd.int .i64) _ 2 rfl (N := 44) rfl 24 _ _ rfl ji23 (by first | rfl | exact congrArg (Value.int .i64) hji23 | exact congrArg (Value.int .i64) (hji12.symm.trans hji23)) (by first | rfl | exact congrArg (Value.int .i64) hji23 | exact congrArg (Value.int .i64) (hji12.symm.trans hji23)) Try.underlying24 (.int .i64 0) 8 info2 rfl (by decide) (by omega) 0 (ok := fun _ => True) (okp := fun _ => True) rfl (fun _ hk => hk) trivial (of_decide_eq_true (by first | (with_reducible assumption) | assumption)) (Nat.le_trans (Nat.mul_le_mul_right _ (of_decide_eq_true (by first | (with_reducible assumption) | assumption) : ji23.toNat ≤ 35184372088832)) (by omega)) (Below.refl _ _) (Nat.le_refl _) ?_; intro v112 w27 ho28 hb hg_ hnew_; clear hg_ hnew_; (first | rw [← Ny111.out] at ho28 | (simp only [Int.reduceToNat] at ho28; rw [← Ny111.out] at ho28)); have n0_ := Aside0.mk (Kd.R_elder' (by (with_reducible repeat (first | apply Kd.R_alloc | apply Kd.R_drewN | apply Kd.R_drew)); exact HO_7.out) (Kd.R_base ho28) hb); have n1_ := Aside0.mk (Kd.R_lower (Kd.R_new' ho28 (Kd.R_lt (by (with_reducible repeat (first | apply Kd.R_alloc | apply Kd.R_drewN | apply Kd.R_drew)); exact HO_7.out))) (below_size (by repeat (first | (with_reducible first | exact HB.out | apply below_alloc | apply pw_below_drewN | apply below_drew1 | refine below_set ?_ GE104.out) | exact HB.out)))); have n2_ := Aside0.mk (blk_below (g := gb104) (o := .cells #[.int .i64 a0_0, .int .i64 a0_1] 27 (0, 0)) (by (with_reducible repeat (first | refine blk_drewN ?_ _ | refine blk_drew ?_ | refine blk_alloc ?_ _)); exact BK104.out) hb); have n3_ := Aside0.mk (below_step (by repeat (first | (with_reducible first | exact HB.out | apply below_alloc | apply pw_below_drewN | apply below_drew1 | refine below_set ?_ GE104.out) | exact HB.out)) hb); clear HO_7; clear BK104; clear HB; have HO_7 := n0_; have HO113 := n1_; have BK104 := n2_; have HB := n3_; clear n0_ n1_ n2_ n3_; clear hb ho28))
                          go_loopg [10] k2 (fun kq v10 w' => ∃ (x9_3 : List Int) (x10_3 : Int), v10 = .int .i64 x10_3 ∧ Aside0 (spec_CountStuffed.l1 kq a1 (wrap64 ((wrap64 (Int.tdiv a1 a0_0)) + 1)) x7_2 x8_2 x9_3 x10_3 a0_0 a0_1 = some (r1, r2)) ∧ Aside0 (kq ≤ k2) ∧ Aside0 (Kd.R (Kd.int .i64) 2 w' w.heap.size (fun k_ => some k_ ≠ (v112 : Value).ownBlock) u7 x7_2) ∧ Aside0 (Kd.R (Kd.int .i64) 2 w' w.heap.size (fun k_ => some k_ ≠ (u7 : Value).ownBlock) v112 x9_3) ∧ Aside0 (w'.heap[gb104]? = some (.cells #[.int .i64 a0_0, .int .i64 a0_1] 27 (0, 0))) ∧ Aside0 (Below w.heap.size w w'))
                          case atStart => exact ⟨(y111), (0), (by first | rfl | (simp; done) | (simp [*]; done)), H', ⟨Nat.le_refl _⟩, ⟨by (with_reducible repeat (first | apply Kd.R_alloc | apply Kd.R_drewN | apply Kd.R_drew)); exact Kd.R_mono HO_7.out (fun _ hk => hk.2)⟩, ⟨by (with_reducible repeat (first | apply Kd.R_alloc | apply Kd.R_drewN | apply Kd.R_drew)); exact Kd.R_mono HO113.out (fun _ hk => hk.2)⟩, ⟨by (with_reducible repeat (first | refine blk_drewN ?_ _ | refine blk_drew ?_ | refine blk_alloc ?_ _)); exact BK104.out⟩, ⟨by repeat (first | (with_reducible first | exact HB.out | apply below_alloc | apply pw_below_drewN | apply below_drew1 | refine below_set ?_ GE104.out) | exact HB.out)⟩⟩
                          case round =>
                            clear H'
                            try clear c1
                            try clear p1
                            try clear q1
                            try clear hx1
                            try clear qi1
                            try clear c2
                            try clear p2
                            try clear c4
                            try clear c6
                            try clear p6
                            try clear c10
                            try clear c11
                            try clear c11b0
                            try clear c11b1
                            try clear c13
                            try clear c13b0
                            try clear c13b1
                            try clear c14
                            try clear c14b0
                            try clear c14b1
                            try clear c15
                            try clear c15b0
                            try clear c15b1
                            try clear p16
                            try clear q16
                            try clear hx16
                            try clear qi16
                            try clear hf16
                            try clear c22
                            try clear c22b0
                            try clear c24
                            try clear c24b0
                            try clear c24b1
                            try clear c25
                            try clear c25b0
                            try clear c25b1
                            try clear hcz17_0
                            try clear hcz17_1
                            try clear hcz26_0
                            try clear hcz26_1
                            try clear hfz17_0
                            try clear hfz17_1
                            try clear hfz26_0
                            try clear hfz26_1
                            try clear hx16_0
                            try clear p1
                            try clear p16
                            try clear p2
                            try clear p6
                            try clear q1
                            try clear q16
                            obtain ⟨x9_3, x10_3, rfl, HA, HK3, HO_7, HO_9, BK104, HB⟩ := hrel
                            cases gk with
                            | zero => exact absurd HA.out (by simp [spec_CountStuffed.l1])
                            | succ k3 =>
                              have H := HA.out
                              clear HA
                              simp only [spec_CountStuffed.l1] at H
                              by_cases c29 : x10_3 < a0_0
                              · rw [if_pos c29] at H
                                have c29b0 : decide (x10_3 < a0_0) = true := decide_eq_true c29
                                clear c29
                                have H' := Aside0.mk H
                                clear H
                                have hcz30_0 : wr.cell? ⟨gb104, 0, none⟩ = some (.int .i64 a0_0) := (blk_cell BK104.out 0).trans rfl
                                have hcz30_1 : wr.cell? ⟨gb104, 1, none⟩ = some (.int .i64 a0_1) := (blk_cell BK104.out 1).trans rfl
                                have hfz30_0 := blk_frozen BK104.out 0
                                have hfz30_1 := blk_frozen BK104.out 1
                                go_wp2
                                go_loopg [11] k3 (fun kq v11 w' => ∃ (x9_4 : List Int) (x11_4 : Int), v11 = .int .i64 x11_4 ∧ Aside0 (spec_CountStuffed.l2 kq a1 (wrap64 ((wrap64 (Int.tdiv a1 a0_0)) + 1)) x7_2 x8_2 x9_4 x10_3 x11_4 a0_0 a0_1 = some (r1, r2)) ∧ Aside0 (kq ≤ k3) ∧ Aside0 (Kd.R (Kd.int .i64) 2 w' w.heap.size (fun k_ => some k_ ≠ (v112 : Value).ownBlock) u7 x7_2) ∧ Aside0 (Kd.R (Kd.int .i64) 2 w' w.heap.size (fun k_ => some k_ ≠ (u7 : Value).ownBlock) v112 x9_4) ∧ Aside0 (w'.heap[gb104]? = some (.cells #[.int .i64 a0_0, .int .i64 a0_1] 27 (0, 0))) ∧ Aside0 (Below w.heap.size w w'))
                                case atStart => exact ⟨(x9_3), (0), (by first | rfl | (simp; done) | (simp [*]; done)), H', ⟨Nat.le_refl _⟩, ⟨by (with_reducible repeat (first | apply Kd.R_alloc | apply Kd.R_drewN | apply Kd.R_drew)); exact HO_7.out⟩, ⟨by (with_reducible repeat (first | apply Kd.R_alloc | apply Kd.R_drewN | apply Kd.R_drew)); exact HO_9.out⟩, ⟨by (with_reducible repeat (first | refine blk_drewN ?_ _ | refine blk_drew ?_ | refine blk_alloc ?_ _)); exact BK104.out⟩, ⟨by repeat (first | (with_reducible first | exact HB.out | apply below_alloc | apply pw_below_drewN | apply below_drew1 | refine below_set ?_ GE104.out) | exact HB.out)⟩⟩
                                case round =>
                                  clear H'
                                  try clear c1
                                  try clear p1
                                  try clear q1
                                  try clear hx1
                                  try clear qi1
                                  try clear c2
                                  try clear p2
                                  try clear c4
                                  try clear c6
                                  try clear p6
                                  try clear c10
                                  try clear c11
                                  try clear c11b0
                                  try clear c11b1
                                  try clear c13
                                  try clear c13b0
                                  try clear c13b1
                                  try clear c14
                                  try clear c14b0
                                  try clear c14b1
                                  try clear c15
                                  try clear c15b0
                                  try clear c15b1
                                  try clear p16
                                  try clear q16
                                  try clear hx16
                                  try clear qi16
                                  try clear hf16
                                  try clear c22
                                  try clear c22b0
                                  try clear c24
                                  try clear c24b0
                                  try clear c24b1
                                  try clear c25
                                  try clear c25b0
                                  try clear c25b1
                                  try clear c29
                                  try clear c29b0
                                  try clear hcz17_0
                                  try clear hcz17_1
                                  try clear hcz26_0
                                  try clear hcz26_1
                                  try clear hcz30_0
                                  try clear hcz30_1
                                  try clear hfz17_0
                                  try clear hfz17_1
                                  try clear hfz26_0
                                  try clear hfz26_1
                                  try clear hfz30_0
                                  try clear hfz30_1
                                  try clear hx16_0
                                  try clear p1
                                  try clear p16
                                  try clear p2
                                  try clear p6
                                  try clear q1
                                  try clear q16
                                  obtain ⟨x9_4, x11_4, rfl, HA, HK4, HO_7, HO_9, BK104, HB⟩ := hrel
                                  cases gk with
                                  | zero => exact absurd HA.out (by simp [spec_CountStuffed.l2])
                                  | succ k4 =>
                                    have H := HA.out
                                    clear HA
                                    simp only [spec_CountStuffed.l2] at H
                                    by_cases c31 : x11_4 < (wrap64 ((wrap64 (Int.tdiv a1 a0_0)) + 1))
                                    · rw [if_pos c31] at H
                                      have c31b0 : decide (x11_4 < (wrap64 ((wrap64 (Int.tdiv a1 a0_0)) + 1))) = true := decide_eq_true c31
                                      clear c31
                                      obtain ⟨ji32, hji32⟩ : ∃ j_ : Int, (wrap64 ((wrap64 (x10_3 * (wrap64 ((wrap64 (Int.tdiv a1 a0_0)) + 1)))) + x11_4)) = j_ := ⟨_, rfl⟩
                                      replace H : (if 0 ≤ (ji32) then (if (ji32) < (x7_2.length : Int) then (if (rd x7_2 (ji32)) = 0 then (spec_CountStuffed.l2 k4 a1 (wrap64 ((wrap64 (Int.tdiv a1 a0_0)) + 1)) x7_2 x8_2 x9_4 x10_3 (wrap64 (x11_4 + 1)) a0_0 a0_1) else (if 0 ≤ x11_4 then (if x11_4 < (x9_4.length : Int) then ((some (x9_4.set (x11_4 : Int).toNat (wrap64 ((rd x9_4 x11_4) + (rd x7_2 (ji32)))) : List Int)).bind fun y116 => (if (wrap64 (x10_3 + 1)) < a0_0 then (if 0 ≤ (wrap64 ((wrap64 ((wrap64 (x10_3 + 1)) * (wrap64 ((wrap64 (Int.tdiv a1 a0_0)) + 1)))) + x11_4)) then (if (wrap64 ((wrap64 ((wrap64 (x10_3 + 1)) * (wrap64 ((wrap64 (Int.tdiv a1 a0_0)) + 1)))) + x11_4)) < (x9_4.length : Int) then (spec_CountStuffed.l2 k4 a1 (wrap64 ((wrap64 (Int.tdiv a1 a0_0)) + 1)) x7_2 x8_2 (y116.set ((wrap64 ((wrap64 ((wrap64 (x10_3 + 1)) * (wrap64 ((wrap64 (Int.tdiv a1 a0_0)) + 1)))) + x11_4)) : Int).toNat (wrap64 ((rd y116 (wrap64 ((wrap64 ((wrap64 (x10_3 + 1)) * (wrap64 ((wrap64 (Int.tdiv a1 a0_0)) + 1)))) + x11_4))) + (rd x7_2 (ji32))))) x10_3 (wrap64 (x11_4 + 1)) a0_0 a0_1) else (none)) else (none)) else (if 0 ≤ (wrap64 (x11_4 + 1)) then (if (wrap64 (x11_4 + 1)) < (x9_4.length : Int) then (spec_CountStuffed.l2 k4 a1 (wrap64 ((wrap64 (Int.tdiv a1 a0_0)) + 1)) x7_2 x8_2 (y116.set ((wrap64 (x11_4 + 1)) : Int).toNat (wrap64 ((rd y116 (wrap64 (x11_4 + 1))) + (rd x7_2 (ji32))))) x10_3 (wrap64 (x11_4 + 1)) a0_0 a0_1) else (none)) else (none)))) else (none)) else (none))) else (none)) else (none)) = some (r1, r2) := by first | (rw [hji32] at H; exact H) | (simp only [hji32] at H ⊢; exact H)
                                      have hji32w : (IntKind.i64.wrap ((wrap64 (x10_3 * (wrap64 ((wrap64 (Int.tdiv a1 a0_0)) + 1)))) + x11_4)) = ji32 := (i64_w _).trans hji32
                                      by_cases c33 : 0 ≤ (ji32)
                                      · rw [if_pos c33] at H
                                        have c33b0 : decide (0 ≤ (ji32)) = true := decide_eq_true c33
                                        clear c33
                                        by_cases c34 : (ji32) < (x7_2.length : Int)
                                        · rw [if_pos c34] at H
                                          have c34b0 : decide ((ji32) < (x7_2.length : Int)) = true := decide_eq_true c34
                                          clear c34
                                          by_cases c35 : (rd x7_2 (ji32)) = 0
                                          · rw [if_pos c35] at H
                                            have c35b0 : ((rd x7_2 (ji32)) == 0) = true := beq_iff_eq.mpr c35
                                            have c35b1 : ((rd x7_2 (ji32)) != 0) = false := bne_eq_false_iff_eq.mpr c35
                                            clear c35
                                            have H' := Aside0.mk H
                                            clear H
                                            obtain ⟨Ao36, co36, eo36⟩ := Kd.R_slice HO_7.out
                                            subst eo36
                                            have p114 : 0 ≤ ((ji32) : Int) := of_decide_eq_true (by first | (with_reducible assumption) | assumption)
                                            have q114 : (ji32) < (x7_2.length : Int) := of_decide_eq_true (by first | (with_reducible assumption) | assumption)
                                            obtain ⟨ad114, e114, hx114_0⟩ := Kd.at_int (Kd.R_reads' HO_7.out).2.2 (ji32) p114 q114
                                            cases e114
                                            replace p114 := eq_true p114
                                            replace q114 := eq_true q114
                                            go_wp2
                                            go_roundg k4
                                            case measure => have := HJ2.out; have := HK2.out; have := HK3.out; have := HK4.out; omega
                                            case rel => exact ⟨(x9_4), (wrap64 (x11_4 + 1)), (by first | rfl | (simp; done) | (simp [*]; done)), H', ⟨by have := HJ2.out; have := HK2.out; have := HK3.out; have := HK4.out; omega⟩, ⟨by (with_reducible repeat (first | apply Kd.R_alloc | apply Kd.R_drewN | apply Kd.R_drew)); exact HO_7.out⟩, ⟨by (with_reducible repeat (first | apply Kd.R_alloc | apply Kd.R_drewN | apply Kd.R_drew)); exact HO_9.out⟩, ⟨by (with_reducible repeat (first | refine blk_drewN ?_ _ | refine blk_drew ?_ | refine blk_alloc ?_ _)); exact BK104.out⟩, ⟨by repeat (first | (with_reducible first | exact HB.out | apply below_alloc | apply pw_below_drewN | apply below_drew1 | refine below_set ?_ GE104.out) | exact HB.out)⟩⟩
                                          · rw [if_neg c35] at H
                                            have c35b0 : ((rd x7_2 (ji32)) == 0) = false := beq_eq_false_iff_ne.mpr c35
                                            have c35b1 : ((rd x7_2 (ji32)) != 0) = true := bne_iff_ne.mpr c35
                                            by_cases c37 : 0 ≤ x11_4
                                            · rw [if_pos c37] at H
                                              have c37b0 : decide (0 ≤ x11_4) = true := decide_eq_true c37
                                              clear c37
                                              by_cases c38 : x11_4 < (x9_4.length : Int)
                                              · rw [if_pos c38] at H
                                                have c38b0 : decide (x11_4 < (x9_4.length : Int)) = true := decide_eq_true c38
                                                clear c38
                                                obtain ⟨y116, hy116⟩ : ∃ y_ : List Int, y_ = (x9_4.set (x11_4 : Int).toNat (wrap64 ((rd x9_4 x11_4) + (rd x7_2 (ji32))))) := ⟨_, rfl⟩
                                                replace H : (if (wrap64 (x10_3 + 1)) < a0_0 then (if 0 ≤ (wrap64 ((wrap64 ((wrap64 (x10_3 + 1)) * (wrap64 ((wrap64 (Int.tdiv a1 a0_0)) + 1)))) + x11_4)) then (if (wrap64 ((wrap64 ((wrap64 (x10_3 + 1)) * (wrap64 ((wrap64 (Int.tdiv a1 a0_0)) + 1)))) + x11_4)) < (x9_4.length : Int) then (spec_CountStuffed.l2 k4 a1 (wrap64 ((wrap64 (Int.tdiv a1 a0_0)) + 1)) x7_2 x8_2 (y116.set ((wrap64 ((wrap64 ((wrap64 (x10_3 + 1)) * (wrap64 ((wrap64 (Int.tdiv a1 a0_0)) + 1)))) + x11_4)) : Int).toNat (wrap64 ((rd y116 (wrap64 ((wrap64 ((wrap64 (x10_3 + 1)) * (wrap64 ((wrap64 (Int.tdiv a1 a0_0)) + 1)))) + x11_4))) + (rd x7_2 (ji32))))) x10_3 (wrap64 (x11_4 + 1)) a0_0 a0_1) else (none)) else (none)) else (if 0 ≤ (wrap64 (x11_4 + 1)) then (if (wrap64 (x11_4 + 1)) < (x9_4.length : Int) then (spec_CountStuffed.l2 k4 a1 (wrap64 ((wrap64 (Int.tdiv a1 a0_0)) + 1)) x7_2 x8_2 (y116.set ((wrap64 (x11_4 + 1)) : Int).toNat (wrap64 ((rd y116 (wrap64 (x11_4 + 1))) + (rd x7_2 (ji32))))) x10_3 (wrap64 (x11_4 + 1)) a0_0 a0_1) else (none)) else (none))) = some (r1, r2) := by first | (rw [hy116]; with_reducible exact H) | (have H2_ := (Option.bind_some _ _).symm.trans H; rw [hy116]; with_reducible exact H2_) | (have H2_ := (Option.bind_some _ _).symm.trans H; with_reducible exact H2_) | with_reducible exact H | (rw [hy116]; exact H) | exact H
                                                have Ny116 := Aside0.mk hy116
                                                clear hy116
                                                by_cases c40 : (wrap64 (x10_3 + 1)) < a0_0
                                                · rw [if_pos c40] at H
                                                  have c40b0 : decide ((wrap64 (x10_3 + 1)) < a0_0) = true := decide_eq_true c40
                                                  clear c40
                                                  obtain ⟨ji41, hji41⟩ : ∃ j_ : Int, (wrap64 ((wrap64 ((wrap64 (x10_3 + 1)) * (wrap64 ((wrap64 (Int.tdiv a1 a0_0)) + 1)))) + x11_4)) = j_ := ⟨_, rfl⟩
                                                  replace H : (if 0 ≤ (ji41) then (if (ji41) < (x9_4.length : Int) then (spec_CountStuffed.l2 k4 a1 (wrap64 ((wrap64 (Int.tdiv a1 a0_0)) + 1)) x7_2 x8_2 (y116.set ((ji41) : Int).toNat (wrap64 ((rd y116 (ji41)) + (rd x7_2 (ji32))))) x10_3 (wrap64 (x11_4 + 1)) a0_0 a0_1) else (none)) else (none)) = some (r1, r2) := by first | (rw [hji41] at H; exact H) | (simp only [hji41] at H ⊢; exact H)
                                                  have hji41w : (IntKind.i64.wrap ((wrap64 ((wrap64 (x10_3 + 1)) * (wrap64 ((wrap64 (Int.tdiv a1 a0_0)) + 1)))) + x11_4)) = ji41 := (i64_w _).trans hji41
                                                  by_cases c42 : 0 ≤ (ji41)
                                                  · rw [if_pos c42] at H
                                                    have c42b0 : decide (0 ≤ (ji41)) = true := decide_eq_true c42
                                                    clear c42
                                                    by_cases c43 : (ji41) < (x9_4.length : Int)
                                                    · rw [if_pos c43] at H
                                                      have c43b0 : decide ((ji41) < (x9_4.length : Int)) = true := decide_eq_true c43
                                                      clear c43
                                                      obtain ⟨y118, hy118⟩ : ∃ y_ : List Int, y_ = (y116.set ((ji41) : Int).toNat (wrap64 ((rd y116 (ji41)) + (rd x7_2 (ji32))))) := ⟨_, rfl⟩
                                                      replace H : (spec_CountStuffed.l2 k4 a1 (wrap64 ((wrap64 (Int.tdiv a1 a0_0)) + 1)) x7_2 x8_2 y118 x10_3 (wrap64 (x11_4 + 1)) a0_0 a0_1) = some (r1, r2) := by first | (rw [hy118]; with_reducible exact H) | (have H2_ := (Option.bind_some _ _).symm.trans H; rw [hy118]; with_reducible exact H2_) | (have H2_ := (Option.bind_some _ _).symm.trans H; with_reducible exact H2_) | with_reducible exact H | (rw [hy118]; exact H) | exact H
                                                      have Ny118 := Aside0.mk hy118
                                                      clear hy118
                                                      have H' := Aside0.mk H
                                                      clear H
                                                      obtain ⟨Ao45, co45, eo45⟩ := Kd.R_slice HO_7.out
                                                      subst eo45
                                                      have p114 : 0 ≤ ((ji32) : Int) := of_decide_eq_true (by first | (with_reducible assumption) | assumption)
                                                      have q114 : (ji32) < (x7_2.length : Int) := of_decide_eq_true (by first | (with_reducible assumption) | assumption)
                                                      obtain ⟨ad114, e114, hx114_0⟩ := Kd.at_int (Kd.R_reads' HO_7.out).2.2 (ji32) p114 q114
                                                      cases e114
                                                      replace p114 := eq_true p114
                                                      replace q114 := eq_true q114
                                                      obtain ⟨Ao46, co46, eo46⟩ := Kd.R_slice HO_9.out
                                                      subst eo46
                                                      have p115 : 0 ≤ (x11_4 : Int) := of_decide_eq_true (by first | (with_reducible assumption) | assumption)
                                                      have q115 : x11_4 < (x9_4.length : Int) := of_decide_eq_true (by first | (with_reducible assumption) | assumption)
                                                      obtain ⟨ad115, e115, hx115_0⟩ := Kd.at_int (Kd.R_reads' HO_9.out).2.2 x11_4 p115 q115
                                                      cases e115
                                                      replace p115 := eq_true p115
                                                      replace q115 := eq_true q115
                                                      have p39 : 0 ≤ (x11_4 : Int) := of_decide_eq_true (by first | (with_reducible assumption) | assumption)
                                                      have q39 : (x11_4 : Int) < ((x9_4.length : Int) : Int) := of_decide_eq_true (by first | (with_reducible assumption) | assumption)
                                                      obtain ⟨go39, co39, eo39, gb39, gl39, cl39, HG39⟩ := Kd.R_form HO_9.out (by omega)
                                                      (first | cases eo39 | (injection eo39 with ea_ en_ ec_; (first | subst ea_ | (injection ea_ with ea_; subst ea_)); subst ec_; clear en_))
                                                      have GB39 := Aside0.mk gb39
                                                      have GG39 := Aside0.mk HG39
                                                      clear gb39 gl39 HG39
                                                      (first | simp only [add_plain] at hx115_0 | skip)
                                                      obtain ⟨hx39_0, hf39_0⟩ := Kd.R_celln 0 HO_9.out (x11_4 : Int) p39 q39
                                                      replace p39 := eq_true p39
                                                      replace q39 := eq_true q39
                                                      have HP47 := Kd.R_putg HO_9.out (x11_4 : Int) (wrap64 ((rd x9_4 x11_4) + (rd x7_2 (ji32))))
                                                      go_wp2_with (first | ((with_reducible refine gate_store (t := 2) (p := 72) rfl ?_); refine store_event (t := 2) (p := 72) (v := ?vo_w48) (w1 := (wr.setCell ⟨go39, (x11_4 : Int).toNat, none⟩ (.int .i64 (wrap64 ((rd x9_4 x11_4) + (rd x7_2 (ji32))))))) ?hg ?ho ?hn ?hr ?_; (case ho => rfl); (case hg => rfl); (case hn => rfl); (case hr => first | (go_simp; done) | (go_simp; rfl)); intro w48 hw; have hg : wr.grownBy w48 (some go39) := (by rw [hw]; exact HP47.2); have hp_ : Kd.R (Kd.int .i64) 2 w48 w.heap.size (fun k_ => some k_ ≠ (.slice (some ad114) x7_2.length co45 : Value).ownBlock) (.slice (some ⟨go39, 0, none⟩) x9_4.length co46) y116 := (by rw [hw, Ny116.out]; exact HP47.1); clear HP47; have n0_ := Aside0.mk (Kd.R_after (v := (.slice (some ⟨go39, 0, none⟩) x9_4.length co46)) (v1 := (.slice (some ⟨go39, 0, none⟩) x9_4.length co46)) (ok := (fun _ => True)) (by (with_reducible repeat (first | apply Kd.R_alloc | apply Kd.R_drewN | apply Kd.R_drew)); exact Kd.R_mono HO_7.out (fun _ hk => ⟨trivial, hk⟩)) hg (.inl rfl)); have n1_ := Aside0.mk (hp_); have n2_ := Aside0.mk (blk_grown (g := gb104) (o := .cells #[.int .i64 a0_0, .int .i64 a0_1] 27 (0, 0)) (by (with_reducible repeat (first | refine blk_drewN ?_ _ | refine blk_drew ?_ | refine blk_alloc ?_ _)); exact BK104.out) hg (Kd.R_ne HO_9.out BK104.out (by decide))); have n3_ := Aside0.mk ((by rw [hw]; exact below_set (HB.out) GB39.out : Below w.heap.size w w48)); clear HO_7; clear HO_9; clear BK104; clear HB; have HO_7 := n0_; have HO_9 := n1_; have BK104 := n2_; have HB := n3_; clear n0_ n1_ n2_ n3_; clear hg hw hp_; have hcz49_0 : w48.cell? ⟨gb104, 0, none⟩ = some (.int .i64 a0_0) := (blk_cell BK104.out 0).trans rfl; have hcz49_1 : w48.cell? ⟨gb104, 1, none⟩ = some (.int .i64 a0_1) := (blk_cell BK104.out 1).trans rfl; have hfz49_0 := blk_frozen BK104.out 0; have hfz49_1 := blk_frozen BK104.out 1; have p117 : 0 ≤ ((ji41) : Int) := of_decide_eq_true (by first | (with_reducible assumption) | assumption); have q117 : (ji41) < (y116.length : Int) := (by have h_ : ((ji41) : Int) < ((x9_4.length : Int) : Int) := of_decide_eq_true (by first | (with_reducible assumption) | assumption); first | (have e_ := (Kd.R_reads' HO_9.out).1; omega) | simpa only [Ny116.out, List.length_set] using h_); have ql117 : (((ji41) : Int) < ((x9_4.length : Int) : Int)) = True := eq_true (of_decide_eq_true (by first | (with_reducible assumption) | assumption)); obtain ⟨ad117, e117, hx117_0⟩ := Kd.at_int (Kd.R_reads' HO_9.out).2.2 (ji41) p117 q117; obtain rfl : (⟨go39, 0, none⟩ : Addr) = ad117 := (by injection e117); (first | simp only [add_plain] at hx117_0 | simp only [add_at] at hx117_0 | simp only [Addr.add, Nat.zero_add] at hx117_0 | skip); replace p117 := eq_true p117; replace q117 := eq_true q117; have p44 : 0 ≤ ((ji41) : Int) := of_decide_eq_true (by first | (with_reducible assumption) | assumption); have q44 : ((ji41) : Int) < ((x9_4.length : Int) : Int) := of_decide_eq_true (by first | (with_reducible assumption) | assumption); obtain ⟨hx44_0, hf44_0⟩ := Kd.R_celln 0 HO_9.out ((ji41) : Int) p44 q44; replace p44 := eq_true p44; replace q44 := eq_true q44; obtain ⟨hy50_, hz50_⟩ := Kd.R_celln 0 HO_9.out ((ji41) : Int) (of_decide_eq_true (by first | (with_reducible assumption) | assumption)) (of_decide_eq_true (by first | (with_reducible assumption) | assumption)); have HP50 := Kd.R_putg HO_9.out ((ji41) : Int) (wrap64 ((rd y116 (ji41)) + (rd x7_2 (ji32))))) | ((with_reducible refine gate_store (t := 2) (p := 89) rfl ?_); refine store_event (t := 2) (p := 89) (v := ?vo_w51) (w1 := (w48.setCell ⟨go39, ((ji41) : Int).toNat, none⟩ (.int .i64 (wrap64 ((rd y116 (ji41)) + (rd x7_2 (ji32))))))) ?hg ?ho ?hn ?hr ?_; (case ho => rfl); (case hg => rfl); (case hn => rfl); (case hr => first | (go_simp; done) | (go_simp; rfl)); intro w51 hw; have hg : w48.grownBy w51 (some go39) := (by rw [hw]; exact HP50.2); have hp_ : Kd.R (Kd.int .i64) 2 w51 w.heap.size (fun k_ => some k_ ≠ (.slice (some ad114) x7_2.length co45 : Value).ownBlock) (.slice (some ⟨go39, 0, none⟩) x9_4.length co46) y118 := (by rw [hw, Ny118.out]; exact HP50.1); clear HP50; have n0_ := Aside0.mk (Kd.R_after (v := (.slice (some ⟨go39, 0, none⟩) x9_4.length co46)) (v1 := (.slice (some ⟨go39, 0, none⟩) x9_4.length co46)) (ok := (fun _ => True)) (by (with_reducible repeat (first | apply Kd.R_alloc | apply Kd.R_drewN | apply Kd.R_drew)); exact HO_7.out) hg (.inl rfl)); have n1_ := Aside0.mk (hp_); have n2_ := Aside0.mk (blk_grown (g := gb104) (o := .cells #[.int .i64 a0_0, .int .i64 a0_1] 27 (0, 0)) (by (with_reducible repeat (first | refine blk_drewN ?_ _ | refine blk_drew ?_ | refine blk_alloc ?_ _)); exact BK104.out) hg (Kd.R_ne HO_9.out BK104.out (by decide))); have n3_ := Aside0.mk ((by rw [hw]; exact below_set (HB.out) GB39.out : Below w.heap.size w w51)); clear HO_7; clear HO_9; clear BK104; clear HB; have HO_7 := n0_; have HO_9 := n1_; have BK104 := n2_; have HB := n3_; clear n0_ n1_ n2_ n3_; clear hg hw hp_))
                                                      go_roundg k4
                                                      case measure => have := HJ2.out; have := HK2.out; have := HK3.out; have := HK4.out; omega
                                                      case rel => exact ⟨(y118), (wrap64 (x11_4 + 1)), (by first | rfl | (simp; done) | (simp [*]; done)), H', ⟨by have := HJ2.out; have := HK2.out; have := HK3.out; have := HK4.out; omega⟩, ⟨by (with_reducible repeat (first | apply Kd.R_alloc | apply Kd.R_drewN | apply Kd.R_drew)); exact Kd.R_mono HO_7.out (fun _ hk => hk.2)⟩, ⟨by (with_reducible repeat (first | apply Kd.R_alloc | apply Kd.R_drewN | apply Kd.R_drew)); exact HO_9.out⟩, ⟨by (with_reducible repeat (first | refine blk_drewN ?_ _ | refine blk_drew ?_ | refine blk_alloc ?_ _)); exact BK104.out⟩, ⟨by repeat (first | (with_reducible first | exact HB.out | apply below_alloc | apply pw_below_drewN | apply below_drew1 | refine below_set ?_ GE104.out) | exact HB.out)⟩⟩
                                                    · rw [if_neg c43] at H
                                                      exact absurd H (by simp)
                                                  · rw [if_neg c42] at H
                                                    exact absurd H (by simp)
                                                · rw [if_neg c40] at H
                                                  have c40b0 : decide ((wrap64 (x10_3 + 1)) < a0_0) = false := decide_eq_false c40
                                                  clear c40
                                                  obtain ⟨ji52, hji52⟩ : ∃ j_ : Int, (wrap64 (x11_4 + 1)) = j_ := ⟨_, rfl⟩
                                                  replace H : (if 0 ≤ (ji52) then (if (ji52) < (x9_4.length : Int) then (spec_CountStuffed.l2 k4 a1 (wrap64 ((wrap64 (Int.tdiv a1 a0_0)) + 1)) x7_2 x8_2 (y116.set ((ji52) : Int).toNat (wrap64 ((rd y116 (ji52)) + (rd x7_2 (ji32))))) x10_3 ji52 a0_0 a0_1) else (none)) else (none)) = some (r1, r2) := by first | (rw [hji52] at H; exact H) | (simp only [hji52] at H ⊢; exact H)
                                                  have hji52w : (IntKind.i64.wrap (x11_4 + 1)) = ji52 := (i64_w _).trans hji52
                                                  by_cases c53 : 0 ≤ (ji52)
                                                  · rw [if_pos c53] at H
                                                    have c53b0 : decide (0 ≤ (ji52)) = true := decide_eq_true c53
                                                    clear c53
                                                    by_cases c54 : (ji52) < (x9_4.length : Int)
                                                    · rw [if_pos c54] at H
                                                      have c54b0 : decide ((ji52) < (x9_4.length : Int)) = true := decide_eq_true c54
                                                      clear c54
                                                      obtain ⟨y120, hy120⟩ : ∃ y_ : List Int, y_ = (y116.set ((ji52) : Int).toNat (wrap64 ((rd y116 (ji52)) + (rd x7_2 (ji32))))) := ⟨_, rfl⟩
                                                      replace H : (spec_CountStuffed.l2 k4 a1 (wrap64 ((wrap64 (Int.tdiv a1 a0_0)) + 1)) x7_2 x8_2 y120 x10_3 ji52 a0_0 a0_1) = some (r1, r2) := by first | (rw [hy120]; with_reducible exact H) | (have H2_ := (Option.bind_some _ _).symm.trans H; rw [hy120]; with_reducible exact H2_) | (have H2_ := (Option.bind_some _ _).symm.trans H; with_reducible exact H2_) | with_reducible exact H | (rw [hy120]; exact H) | exact H
                                                      have Ny120 := Aside0.mk hy120
                                                      clear hy120
                                                      have H' := Aside0.mk H
                                                      clear H
                                                      obtain ⟨Ao56, co56, eo56⟩ := Kd.R_slice HO_7.out
                                                      subst eo56
                                                      have p114 : 0 ≤ ((ji32) : Int) := of_decide_eq_true (by first | (with_reducible assumption) | assumption)
                                                      have q114 : (ji32) < (x7_2.length : Int) := of_decide_eq_true (by first | (with_reducible assumption) | assumption)
                                                      obtain ⟨ad114, e114, hx114_0⟩ := Kd.at_int (Kd.R_reads' HO_7.out).2.2 (ji32) p114 q114
                                                      cases e114
                                                      replace p114 := eq_true p114
                                                      replace q114 := eq_true q114
                                                      obtain ⟨Ao57, co57, eo57⟩ := Kd.R_slice HO_9.out
                                                      subst eo57
                                                      have p115 : 0 ≤ (x11_4 : Int) := of_decide_eq_true (by first | (with_reducible assumption) | assumption)
                                                      have q115 : x11_4 < (x9_4.length : Int) := of_decide_eq_true (by first | (with_reducible assumption) | assumption)
                                                      obtain ⟨ad115, e115, hx115_0⟩ := Kd.at_int (Kd.R_reads' HO_9.out).2.2 x11_4 p115 q115
                                                      cases e115
                                                      replace p115 := eq_true p115
                                                      replace q115 := eq_true q115
                                                      have p39 : 0 ≤ (x11_4 : Int) := of_decide_eq_true (by first | (with_reducible assumption) | assumption)
                                                      have q39 : (x11_4 : Int) < ((x9_4.length : Int) : Int) := of_decide_eq_true (by first | (with_reducible assumption) | assumption)
                                                      obtain ⟨go39, co39, eo39, gb39, gl39, cl39, HG39⟩ := Kd.R_form HO_9.out (by omega)
                                                      (first | cases eo39 | (injection eo39 with ea_ en_ ec_; (first | subst ea_ | (injection ea_ with ea_; subst ea_)); subst ec_; clear en_))
                                                      have GB39 := Aside0.mk gb39
                                                      have GG39 := Aside0.mk HG39
                                                      clear gb39 gl39 HG39
                                                      (first | simp only [add_plain] at hx115_0 | skip)
                                                      obtain ⟨hx39_0, hf39_0⟩ := Kd.R_celln 0 HO_9.out (x11_4 : Int) p39 q39
                                                      replace p39 := eq_true p39
                                                      replace q39 := eq_true q39
                                                      have HP58 := Kd.R_putg HO_9.out (x11_4 : Int) (wrap64 ((rd x9_4 x11_4) + (rd x7_2 (ji32))))
                                                      go_wp2_with (first | ((with_reducible refine gate_store (t := 2) (p := 72) rfl ?_); refine store_event (t := 2) (p := 72) (v := ?vo_w59) (w1 := (wr.setCell ⟨go39, (x11_4 : Int).toNat, none⟩ (.int .i64 (wrap64 ((rd x9_4 x11_4) + (rd x7_2 (ji32))))))) ?hg ?ho ?hn ?hr ?_; (case ho => rfl); (case hg => rfl); (case hn => rfl); (case hr => first | (go_simp; done) | (go_simp; rfl)); intro w59 hw; have hg : wr.grownBy w59 (some go39) := (by rw [hw]; exact HP58.2); have hp_ : Kd.R (Kd.int .i64) 2 w59 w.heap.size (fun k_ => some k_ ≠ (.slice (some ad114) x7_2.length co56 : Value).ownBlock) (.slice (some ⟨go39, 0, none⟩) x9_4.length co57) y116 := (by rw [hw, Ny116.out]; exact HP58.1); clear HP58; have n0_ := Aside0.mk (Kd.R_after (v := (.slice (some ⟨go39, 0, none⟩) x9_4.length co57)) (v1 := (.slice (some ⟨go39, 0, none⟩) x9_4.length co57)) (ok := (fun _ => True)) (by (with_reducible repeat (first | apply Kd.R_alloc | apply Kd.R_drewN | apply Kd.R_drew)); exact Kd.R_mono HO_7.out (fun _ hk => ⟨trivial, hk⟩)) hg (.inl rfl)); have n1_ := Aside0.mk (hp_); have n2_ := Aside0.mk (blk_grown (g := gb104) (o := .cells #[.int .i64 a0_0, .int .i64 a0_1] 27 (0, 0)) (by (with_reducible repeat (first | refine blk_drewN ?_ _ | refine blk_drew ?_ | refine blk_alloc ?_ _)); exact BK104.out) hg (Kd.R_ne HO_9.out BK104.out (by decide))); have n3_ := Aside0.mk ((by rw [hw]; exact below_set (HB.out) GB39.out : Below w.heap.size w w59)); clear HO_7; clear HO_9; clear BK104; clear HB; have HO_7 := n0_; have HO_9 := n1_; have BK104 := n2_; have HB := n3_; clear n0_ n1_ n2_ n3_; clear hg hw hp_; have hcz60_0 : w59.cell? ⟨gb104, 0, none⟩ = some (.int .i64 a0_0) := (blk_cell BK104.out 0).trans rfl; have hcz60_1 : w59.cell? ⟨gb104, 1, none⟩ = some (.int .i64 a0_1) := (blk_cell BK104.out 1).trans rfl; have hfz60_0 := blk_frozen BK104.out 0; have hfz60_1 := blk_frozen BK104.out 1; have p119 : 0 ≤ ((ji52) : Int) := of_decide_eq_true (by first | (with_reducible assumption) | assumption); have q119 : (ji52) < (y116.length : Int) := (by have h_ : ((ji52) : Int) < ((x9_4.length : Int) : Int) := of_decide_eq_true (by first | (with_reducible assumption) | assumption); first | (have e_ := (Kd.R_reads' HO_9.out).1; omega) | simpa only [Ny116.out, List.length_set] using h_); have ql119 : (((ji52) : Int) < ((x9_4.length : Int) : Int)) = True := eq_true (of_decide_eq_true (by first | (with_reducible assumption) | assumption)); obtain ⟨ad119, e119, hx119_0⟩ := Kd.at_int (Kd.R_reads' HO_9.out).2.2 (ji52) p119 q119; obtain rfl : (⟨go39, 0, none⟩ : Addr) = ad119 := (by injection e119); (first | simp only [add_plain] at hx119_0 | simp only [add_at] at hx119_0 | simp only [Addr.add, Nat.zero_add] at hx119_0 | skip); replace p119 := eq_true p119; replace q119 := eq_true q119; have p55 : 0 ≤ ((ji52) : Int) := of_decide_eq_true (by first | (with_reducible assumption) | assumption); have q55 : ((ji52) : Int) < ((x9_4.length : Int) : Int) := of_decide_eq_true (by first | (with_reducible assumption) | assumption); obtain ⟨hx55_0, hf55_0⟩ := Kd.R_celln 0 HO_9.out ((ji52) : Int) p55 q55; replace p55 := eq_true p55; replace q55 := eq_true q55; obtain ⟨hy61_, hz61_⟩ := Kd.R_celln 0 HO_9.out ((ji52) : Int) (of_decide_eq_true (by first | (with_reducible assumption) | assumption)) (of_decide_eq_true (by first | (with_reducible assumption) | assumption)); have HP61 := Kd.R_putg HO_9.out ((ji52) : Int) (wrap64 ((rd y116 (ji52)) + (rd x7_2 (ji32))))) | ((with_reducible refine gate_store (t := 2) (p := 97) rfl ?_); refine store_event (t := 2) (p := 97) (v := ?vo_w62) (w1 := (w59.setCell ⟨go39, ((ji52) : Int).toNat, none⟩ (.int .i64 (wrap64 ((rd y116 (ji52)) + (rd x7_2 (ji32))))))) ?hg ?ho ?hn ?hr ?_; (case ho => rfl); (case hg => rfl); (case hn => rfl); (case hr => first | (go_simp; done) | (go_simp; rfl)); intro w62 hw; have hg : w59.grownBy w62 (some go39) := (by rw [hw]; exact HP61.2); have hp_ : Kd.R (Kd.int .i64) 2 w62 w.heap.size (fun k_ => some k_ ≠ (.slice (some ad114) x7_2.length co56 : Value).ownBlock) (.slice (some ⟨go39, 0, none⟩) x9_4.length co57) y120 := (by rw [hw, Ny120.out]; exact HP61.1); clear HP61; have n0_ := Aside0.mk (Kd.R_after (v := (.slice (some ⟨go39, 0, none⟩) x9_4.length co57)) (v1 := (.slice (some ⟨go39, 0, none⟩) x9_4.length co57)) (ok := (fun _ => True)) (by (with_reducible repeat (first | apply Kd.R_alloc | apply Kd.R_drewN | apply Kd.R_drew)); exact HO_7.out) hg (.inl rfl)); have n1_ := Aside0.mk (hp_); have n2_ := Aside0.mk (blk_grown (g := gb104) (o := .cells #[.int .i64 a0_0, .int .i64 a0_1] 27 (0, 0)) (by (with_reducible repeat (first | refine blk_drewN ?_ _ | refine blk_drew ?_ | refine blk_alloc ?_ _)); exact BK104.out) hg (Kd.R_ne HO_9.out BK104.out (by decide))); have n3_ := Aside0.mk ((by rw [hw]; exact below_set (HB.out) GB39.out : Below w.heap.size w w62)); clear HO_7; clear HO_9; clear BK104; clear HB; have HO_7 := n0_; have HO_9 := n1_; have BK104 := n2_; have HB := n3_; clear n0_ n1_ n2_ n3_; clear hg hw hp_))
                                                      go_roundg k4
                                                      case measure => have := HJ2.out; have := HK2.out; have := HK3.out; have := HK4.out; omega
                                                      case rel => exact ⟨(y120), (ji52), (by first | rfl | (simp; done) | (simp only [← hji52] <;> (first | rfl | simp)) | (simp [*]; done)), H', ⟨by have := HJ2.out; have := HK2.out; have := HK3.out; have := HK4.out; omega⟩, ⟨by (with_reducible repeat (first | apply Kd.R_alloc | apply Kd.R_drewN | apply Kd.R_drew)); exact Kd.R_mono HO_7.out (fun _ hk => hk.2)⟩, ⟨by (with_reducible repeat (first | apply Kd.R_alloc | apply Kd.R_drewN | apply Kd.R_drew)); exact HO_9.out⟩, ⟨by (with_reducible repeat (first | refine blk_drewN ?_ _ | refine blk_drew ?_ | refine blk_alloc ?_ _)); exact BK104.out⟩, ⟨by repeat (first | (with_reducible first | exact HB.out | apply below_alloc | apply pw_below_drewN | apply below_drew1 | refine below_set ?_ GE104.out) | exact HB.out)⟩⟩
                                                    · rw [if_neg c54] at H
                                                      exact absurd H (by simp)
                                                  · rw [if_neg c53] at H
                                                    exact absurd H (by simp)
                                              · rw [if_neg c38] at H
                                                exact absurd H (by simp)
                                            · rw [if_neg c37] at H
                                              exact absurd H (by simp)
                                        · rw [if_neg c34] at H
                                          exact absurd H (by simp)
                                      · rw [if_neg c33] at H
                                        exact absurd H (by simp)
                                    · rw [if_neg c31] at H
                                      have c31b0 : decide (x11_4 < (wrap64 ((wrap64 (Int.tdiv a1 a0_0)) + 1))) = false := decide_eq_false c31
                                      clear c31
                                      have H' := Aside0.mk H
                                      clear H
                                      go_wp2
                                      go_roundg k4
                                      case measure => have := HJ2.out; have := HK2.out; have := HK3.out; have := HK4.out; omega
                                      case rel => exact ⟨(x9_4), (wrap64 (x10_3 + 1)), (by first | rfl | (simp; done) | (simp [*]; done)), H', ⟨by have := HJ2.out; have := HK2.out; have := HK3.out; have := HK4.out; omega⟩, ⟨by (with_reducible repeat (first | apply Kd.R_alloc | apply Kd.R_drewN | apply Kd.R_drew)); exact HO_7.out⟩, ⟨by (with_reducible repeat (first | apply Kd.R_alloc | apply Kd.R_drewN | apply Kd.R_drew)); exact HO_9.out⟩, ⟨by (with_reducible repeat (first | refine blk_drewN ?_ _ | refine blk_drew ?_ | refine blk_alloc ?_ _)); exact BK104.out⟩, ⟨by repeat (first | (with_reducible first | exact HB.out | apply below_alloc | apply pw_below_drewN | apply below_drew1 | refine below_set ?_ GE104.out) | exact HB.out)⟩⟩
                              · rw [if_neg c29] at H
                                have c29b0 : decide (x10_3 < a0_0) = false := decide_eq_false c29
                                clear c29
                                have H' := Aside0.mk H
                                clear H
                                have hcz63_0 : wr.cell? ⟨gb104, 0, none⟩ = some (.int .i64 a0_0) := (blk_cell BK104.out 0).trans rfl
                                have hcz63_1 : wr.cell? ⟨gb104, 1, none⟩ = some (.int .i64 a0_1) := (blk_cell BK104.out 1).trans rfl
                                have hfz63_0 := blk_frozen BK104.out 0
                                have hfz63_1 := blk_frozen BK104.out 1
                                go_wp2
                                go_roundg k3
                                case measure => have := HJ2.out; have := HK2.out; have := HK3.out; omega
                                case rel => exact ⟨(x9_3), (wrap64 (x8_2 + 1)), (by first | rfl | (simp; done) | (simp [*]; done)), H', ⟨by have := HJ2.out; have := HK2.out; have := HK3.out; omega⟩, ⟨by (with_reducible repeat (first | apply Kd.R_alloc | apply Kd.R_drewN | apply Kd.R_drew)); exact Kd.R_mono HO_9.out (fun _ hk => trivial)⟩, ⟨by (with_reducible repeat (first | refine blk_drewN ?_ _ | refine blk_drew ?_ | refine blk_alloc ?_ _)); exact BK104.out⟩, ⟨by repeat (first | (with_reducible first | exact HB.out | apply below_alloc | apply pw_below_drewN | apply below_drew1 | refine below_set ?_ GE104.out) | exact HB.out)⟩⟩
                        · rw [if_neg c25] at H
                          exact absurd H (by simp)
                      · rw [if_neg c24] at H
                        exact absurd H (by simp)
                    · rw [if_neg c22] at H
                      have c22b0 : decide (x8_2 < a1) = false := decide_eq_false c22
                      clear c22
                      obtain ⟨ji64, hji64⟩ : ∃ j_ : Int, (wrap64 ((wrap64 (Int.tdiv a1 a0_0)) + 1)) = j_ := ⟨_, rfl⟩
                      replace H : (if 0 ≤ (ji64) then (if ((ji64) : Int).toNat ≤ 35184372088832 then (spec_CountStuffed.l3 k2 (ji64) x7_2 (List.replicate ((ji64) : Int).toNat 0) 0 a0_0 a0_1) else (none)) else (none)) = some (r1, r2) := by first | (rw [hji64] at H; exact H) | (simp only [hji64] at H ⊢; exact H)
                      have hji64w : (IntKind.i64.wrap ((wrap64 (Int.tdiv a1 a0_0)) + 1)) = ji64 := (i64_w _).trans hji64
                      by_cases c65 : 0 ≤ (ji64)
                      · rw [if_pos c65] at H
                        have c65b0 := eq_true c65
                        have c65b1 : decide (0 ≤ (ji64)) = true := decide_eq_true c65
                        clear c65
                        by_cases c66 : ((ji64) : Int).toNat ≤ 35184372088832
                        · rw [if_pos c66] at H
                          have c66b0 := eq_true c66
                          have c66b1 : decide (((ji64) : Int).toNat ≤ 35184372088832) = true := decide_eq_true c66
                          clear c66
                          obtain ⟨y121, hy121⟩ : ∃ y_ : List Int, y_ = (List.replicate ((ji64) : Int).toNat 0) := ⟨_, rfl⟩
                          replace H : (spec_CountStuffed.l3 k2 (ji64) x7_2 y121 0 a0_0 a0_1) = some (r1, r2) := by first | (rw [hy121]; with_reducible exact H) | (have H2_ := (Option.bind_some _ _).symm.trans H; rw [hy121]; with_reducible exact H2_) | (have H2_ := (Option.bind_some _ _).symm.trans H; with_reducible exact H2_) | with_reducible exact H | (rw [hy121]; exact H) | exact H
                          have Ny121 := Aside0.mk hy121
                          clear hy121
                          have H' := Aside0.mk H
                          clear H
                          go_wp2_with (first | ((with_reducible refine gate_dst (N := 100) rfl ?_); refine Kd.R_make (Kd.int .i64) _ 2 rfl (N := 100) rfl 24 _ _ rfl (ji64) (by first | rfl | exact congrArg (Value.int .i64) hji64 | exact congrArg (Value.int .i64) (hji12.symm.trans hji64) | exact congrArg (Value.int .i64) (hji23.symm.trans hji64)) (by first | rfl | exact congrArg (Value.int .i64) hji64 | exact congrArg (Value.int .i64) (hji12.symm.trans hji64) | exact congrArg (Value.int .i64) (hji23.symm.trans hji64)) Try.underlying24 (.int .i64 0) 8 info2 rfl (by decide) (by omega) 0 (ok := fun _ => True) (okp := fun _ => True) rfl (fun _ hk => hk) trivial (of_decide_eq_true (by first | (with_reducible assumption) | assumption)) (Nat.le_trans (Nat.mul_le_mul_right _ (of_decide_eq_true (by first | (with_reducible assumption) | assumption) : (ji64).toNat ≤ 35184372088832)) (by omega)) (Below.refl _ _) (Nat.le_refl _) ?_; intro v122 w67 ho68 hb hg_ hnew_; clear hg_ hnew_; (first | rw [← Ny121.out] at ho68 | (simp only [Int.reduceToNat] at ho68; rw [← Ny121.out] at ho68)); have n0_ := Aside0.mk (Kd.R_elder' (by (with_reducible repeat (first | apply Kd.R_alloc | apply Kd.R_drewN | apply Kd.R_drew)); exact HO_7.out) (Kd.R_base ho68) hb); have n1_ := Aside0.mk (Kd.R_lower (Kd.R_new' ho68 (Kd.R_lt (by (with_reducible repeat (first | apply Kd.R_alloc | apply Kd.R_drewN | apply Kd.R_drew)); exact HO_7.out))) (below_size (by repeat (first | (with_reducible first | exact HB.out | apply below_alloc | apply pw_below_drewN | apply below_drew1 | refine below_set ?_ GE104.out) | exact HB.out)))); have n2_ := Aside0.mk (blk_below (g := gb104) (o := .cells #[.int .i64 a0_0, .int .i64 a0_1] 27 (0, 0)) (by (with_reducible repeat (first | refine blk_drewN ?_ _ | refine blk_drew ?_ | refine blk_alloc ?_ _)); exact BK104.out) hb); have n3_ := Aside0.mk (below_step (by repeat (first | (with_reducible first | exact HB.out | apply below_alloc | apply pw_below_drewN | apply below_drew1 | refine below_set ?_ GE104.out) | exact HB.out)) hb); clear HO_7; clear BK104; clear HB; have HO_7 := n0_; have HO123 := n1_; have BK104 := n2_; have HB := n3_; clear n0_ n1_ n2_ n3_; clear hb ho68))
                          go_loopg [14] k2 (fun kq v14 w' => ∃ (x13_3 : List Int) (x14_3 : Int), v14 = .int .i64 x14_3 ∧ Aside0 (spec_CountStuffed.l3 kq (ji64) x7_2 x13_3 x14_3 a0_0 a0_1 = some (r1, r2)) ∧ Aside0 (kq ≤ k2) ∧ Aside0 (Kd.R (Kd.int .i64) 2 w' w.heap.size (fun k_ => some k_ ≠ (v122 : Value).ownBlock) u7 x7_2) ∧ Aside0 (Kd.R (Kd.int .i64) 2 w' w.heap.size (fun k_ => some k_ ≠ (u7 : Value).ownBlock) v122 x13_3) ∧ Aside0 (w'.heap[gb104]? = some (.cells #[.int .i64 a0_0, .int .i64 a0_1] 27 (0, 0))) ∧ Aside0 (Below w.heap.size w w'))
                          case atStart => exact ⟨(y121), (0), (by first | rfl | (simp; done) | (simp [*]; done)), H', ⟨Nat.le_refl _⟩, ⟨by (with_reducible repeat (first | apply Kd.R_alloc | apply Kd.R_drewN | apply Kd.R_drew)); exact Kd.R_mono HO_7.out (fun _ hk => hk.2)⟩, ⟨by (with_reducible repeat (first | apply Kd.R_alloc | apply Kd.R_drewN | apply Kd.R_drew)); exact Kd.R_mono HO123.out (fun _ hk => hk.2)⟩, ⟨by (with_reducible repeat (first | refine blk_drewN ?_ _ | refine blk_drew ?_ | refine blk_alloc ?_ _)); exact BK104.out⟩, ⟨by repeat (first | (with_reducible first | exact HB.out | apply below_alloc | apply pw_below_drewN | apply below_drew1 | refine below_set ?_ GE104.out) | exact HB.out)⟩⟩
                          case round =>
                            clear H'
                            try clear c1
                            try clear p1
                            try clear q1
                            try clear hx1
                            try clear qi1
                            try clear c2
                            try clear p2
                            try clear c3
                            try clear p3
                            try clear q3
                            try clear hx3
                            try clear hf3
                            try clear c4
                            try clear p4
                            try clear q4
                            try clear hx4
                            try clear hf4
                            try clear c5
                            try clear p5
                            try clear q5
                            try clear hx5
                            try clear hf5
                            try clear c6
                            try clear p6
                            try clear c10
                            try clear c11
                            try clear c11b0
                            try clear c11b1
                            try clear p11
                            try clear q11
                            try clear hx11
                            try clear c13
                            try clear c13b0
                            try clear c13b1
                            try clear c14
                            try clear c14b0
                            try clear c14b1
                            try clear c15
                            try clear c15b0
                            try clear c15b1
                            try clear p16
                            try clear q16
                            try clear hx16
                            try clear qi16
                            try clear hf16
                            try clear c22
                            try clear c22b0
                            try clear c24
                            try clear c24b0
                            try clear c24b1
                            try clear c25
                            try clear c25b0
                            try clear c25b1
                            try clear c29
                            try clear c29b0
                            try clear c31
                            try clear c31b0
                            try clear c33
                            try clear c33b0
                            try clear c34
                            try clear c34b0
                            try clear c35
                            try clear c35b0
                            try clear c35b1
                            try clear c37
                            try clear c37b0
                            try clear c38
                            try clear c38b0
                            try clear p39
                            try clear q39
                            try clear hx39
                            try clear hf39
                            try clear c40
                            try clear c40b0
                            try clear c42
                            try clear c42b0
                            try clear c43
                            try clear c43b0
                            try clear p44
                            try clear q44
                            try clear hx44
                            try clear hf44
                            try clear c53
                            try clear c53b0
                            try clear c54
                            try clear c54b0
                            try clear p55
                            try clear q55
                            try clear hx55
                            try clear hf55
                            try clear p64
                            try clear c65
                            try clear c65b0
                            try clear c65b1
                            try clear c66
                            try clear c66b0
                            try clear c66b1
                            try clear hcz17_0
                            try clear hcz17_1
                            try clear hcz26_0
                            try clear hcz26_1
                            try clear hcz30_0
                            try clear hcz30_1
                            try clear hcz49_0
                            try clear hcz49_1
                            try clear hcz60_0
                            try clear hcz60_1
                            try clear hcz63_0
                            try clear hcz63_1
                            try clear hfz17_0
                            try clear hfz17_1
                            try clear hfz26_0
                            try clear hfz26_1
                            try clear hfz30_0
                            try clear hfz30_1
                            try clear hfz49_0
                            try clear hfz49_1
                            try clear hfz60_0
                            try clear hfz60_1
                            try clear hfz63_0
                            try clear hfz63_1
                            try clear hx114_0
                            try clear hx115_0
                            try clear hx117_0
                            try clear hx119_0
                            try clear hx16_0
                            try clear hx39_0
                            try clear hx44_0
                            try clear hx55_0
                            try clear p1
                            try clear p114
                            try clear p115
                            try clear p117
                            try clear p119
                            try clear p16
                            try clear p2
                            try clear p39
                            try clear p44
                            try clear p55
                            try clear p6
                            try clear q1
                            try clear q114
                            try clear q115
                            try clear q117
                            try clear q119
                            try clear q16
                            try clear q39
                            try clear q44
                            try clear q55
                            obtain ⟨x13_3, x14_3, rfl, HA, HK3, HO_7, HO_13, BK104, HB⟩ := hrel
                            cases gk with
                            | zero => exact absurd HA.out (by simp [spec_CountStuffed.l3])
                            | succ k3 =>
                              have H := HA.out
                              clear HA
                              simp only [spec_CountStuffed.l3] at H
                              by_cases c69 : x14_3 < a0_0
                              · rw [if_pos c69] at H
                                have c69b0 : decide (x14_3 < a0_0) = true := decide_eq_true c69
                                clear c69
                                have H' := Aside0.mk H
                                clear H
                                have hcz70_0 : wr.cell? ⟨gb104, 0, none⟩ = some (.int .i64 a0_0) := (blk_cell BK104.out 0).trans rfl
                                have hcz70_1 : wr.cell? ⟨gb104, 1, none⟩ = some (.int .i64 a0_1) := (blk_cell BK104.out 1).trans rfl
                                have hfz70_0 := blk_frozen BK104.out 0
                                have hfz70_1 := blk_frozen BK104.out 1
                                go_wp2
                                go_loopg [15] k3 (fun kq v15 w' => ∃ (x13_4 : List Int) (x15_4 : Int), v15 = .int .i64 x15_4 ∧ Aside0 (spec_CountStuffed.l4 kq (ji64) x7_2 x13_4 x14_3 x15_4 a0_0 a0_1 = some (r1, r2)) ∧ Aside0 (kq ≤ k3) ∧ Aside0 (Kd.R (Kd.int .i64) 2 w' w.heap.size (fun k_ => some k_ ≠ (v122 : Value).ownBlock) u7 x7_2) ∧ Aside0 (Kd.R (Kd.int .i64) 2 w' w.heap.size (fun k_ => some k_ ≠ (u7 : Value).ownBlock) v122 x13_4) ∧ Aside0 (w'.heap[gb104]? = some (.cells #[.int .i64 a0_0, .int .i64 a0_1] 27 (0, 0))) ∧ Aside0 (Below w.heap.size w w'))
                                case atStart => exact ⟨(x13_3), (0), (by first | rfl | (simp; done) | (simp [*]; done)), H', ⟨Nat.le_refl _⟩, ⟨by (with_reducible repeat (first | apply Kd.R_alloc | apply Kd.R_drewN | apply Kd.R_drew)); exact HO_7.out⟩, ⟨by (with_reducible repeat (first | apply Kd.R_alloc | apply Kd.R_drewN | apply Kd.R_drew)); exact HO_13.out⟩, ⟨by (with_reducible repeat (first | refine blk_drewN ?_ _ | refine blk_drew ?_ | refine blk_alloc ?_ _)); exact BK104.out⟩, ⟨by repeat (first | (with_reducible first | exact HB.out | apply below_alloc | apply pw_below_drewN | apply below_drew1 | refine below_set ?_ GE104.out) | exact HB.out)⟩⟩
                                case round =>
                                  clear H'
                                  try clear c1
                                  try clear p1
                                  try clear q1
                                  try clear hx1
                                  try clear qi1
                                  try clear c2
                                  try clear p2
                                  try clear c3
                                  try clear p3
                                  try clear q3
                                  try clear hx3
                                  try clear hf3
                                  try clear c4
                                  try clear p4
                                  try clear q4
                                  try clear hx4
                                  try clear hf4
                                  try clear c5
                                  try clear p5
                                  try clear q5
                                  try clear hx5
                                  try clear hf5
                                  try clear c6
                                  try clear p6
                                  try clear c10
                                  try clear c11
                                  try clear c11b0
                                  try clear c11b1
                                  try clear p11
                                  try clear q11
                                  try clear hx11
                                  try clear c13
                                  try clear c13b0
                                  try clear c13b1
                                  try clear c14
                                  try clear c14b0
                                  try clear c14b1
                                  try clear c15
                                  try clear c15b0
                                  try clear c15b1
                                  try clear p16
                                  try clear q16
                                  try clear hx16
                                  try clear qi16
                                  try clear hf16
                                  try clear c22
                                  try clear c22b0
                                  try clear c24
                                  try clear c24b0
                                  try clear c24b1
                                  try clear c25
                                  try clear c25b0
                                  try clear c25b1
                                  try clear c29
                                  try clear c29b0
                                  try clear c31
                                  try clear c31b0
                                  try clear c33
                                  try clear c33b0
                                  try clear c34
                                  try clear c34b0
                                  try clear c35
                                  try clear c35b0
                                  try clear c35b1
                                  try clear c37
                                  try clear c37b0
                                  try clear c38
                                  try clear c38b0
                                  try clear p39
                                  try clear q39
                                  try clear hx39
                                  try clear hf39
                                  try clear c40
                                  try clear c40b0
                                  try clear c42
                                  try clear c42b0
                                  try clear c43
                                  try clear c43b0
                                  try clear p44
                                  try clear q44
                                  try clear hx44
                                  try clear hf44
                                  try clear c53
                                  try clear c53b0
                                  try clear c54
                                  try clear c54b0
                                  try clear p55
                                  try clear q55
                                  try clear hx55
                                  try clear hf55
                                  try clear p64
                                  try clear c65
                                  try clear c65b0
                                  try clear c65b1
                                  try clear c66
                                  try clear c66b0
                                  try clear c66b1
                                  try clear c69
                                  try clear c69b0
                                  try clear hcz17_0
                                  try clear hcz17_1
                                  try clear hcz26_0
                                  try clear hcz26_1
                                  try clear hcz30_0
                                  try clear hcz30_1
                                  try clear hcz49_0
                                  try clear hcz49_1
                                  try clear hcz60_0
                                  try clear hcz60_1
                                  try clear hcz63_0
                                  try clear hcz63_1
                                  try clear hcz70_0
                                  try clear hcz70_1
                                  try clear hfz17_0
                                  try clear hfz17_1
                                  try clear hfz26_0
                                  try clear hfz26_1
                                  try clear hfz30_0
                                  try clear hfz30_1
                                  try clear hfz49_0
                                  try clear hfz49_1
                                  try clear hfz60_0
                                  try clear hfz60_1
                                  try clear hfz63_0
                                  try clear hfz63_1
                                  try clear hfz70_0
                                  try clear hfz70_1
                                  try clear hx114_0
                                  try clear hx115_0
                                  try clear hx117_0
                                  try clear hx119_0
                                  try clear hx16_0
                                  try clear hx39_0
                                  try clear hx44_0
                                  try clear hx55_0
                                  try clear p1
                                  try clear p11
                                  try clear p114
                                  try clear p115
                                  try clear p117
                                  try clear p119
                                  try clear p16
                                  try clear p2
                                  try clear p3
                                  try clear p39
                                  try clear p4
                                  try clear p44
                                  try clear p5
                                  try clear p55
                                  try clear p6
                                  try clear p64
                                  try clear q1
                                  try clear q11
                                  try clear q114
                                  try clear q115
                                  try clear q117
                                  try clear q119
                                  try clear q16
                                  try clear q3
                                  try clear q39
                                  try clear q4
                                  try clear q44
                                  try clear q5
                                  try clear q55
                                  obtain ⟨x13_4, x15_4, rfl, HA, HK4, HO_7, HO_13, BK104, HB⟩ := hrel
                                  cases gk with
                                  | zero => exact absurd HA.out (by simp [spec_CountStuffed.l4])
                                  | succ k4 =>
                                    have H := HA.out
                                    clear HA
                                    simp only [spec_CountStuffed.l4] at H
                                    by_cases c71 : x15_4 < (ji64)
                                    · rw [if_pos c71] at H
                                      have c71b0 : decide (x15_4 < (ji64)) = true := decide_eq_true c71
                                      clear c71
                                      by_cases c72 : 0 ≤ x15_4
                                      · rw [if_pos c72] at H
                                        have c72b0 : decide (0 ≤ x15_4) = true := decide_eq_true c72
                                        clear c72
                                        by_cases c73 : x15_4 < (x13_4.length : Int)
                                        · rw [if_pos c73] at H
                                          have c73b0 : decide (x15_4 < (x13_4.length : Int)) = true := decide_eq_true c73
                                          clear c73
                                          obtain ⟨ji74, hji74⟩ : ∃ j_ : Int, (wrap64 ((wrap64 (x14_3 * (ji64))) + x15_4)) = j_ := ⟨_, rfl⟩
                                          replace H : (if 0 ≤ (ji74) then (if (ji74) < (x7_2.length : Int) then (spec_CountStuffed.l4 k4 (ji64) x7_2 (x13_4.set (x15_4 : Int).toNat (wrap64 ((rd x13_4 x15_4) + (rd x7_2 (ji74))))) x14_3 (wrap64 (x15_4 + 1)) a0_0 a0_1) else (none)) else (none)) = some (r1, r2) := by first | (rw [hji74] at H; exact H) | (simp only [hji74] at H ⊢; exact H)
                                          have hji74w : (IntKind.i64.wrap ((wrap64 (x14_3 * (ji64))) + x15_4)) = ji74 := (i64_w _).trans hji74
                                          by_cases c75 : 0 ≤ (ji74)
                                          · rw [if_pos c75] at H
                                            have c75b0 : decide (0 ≤ (ji74)) = true := decide_eq_true c75
                                            clear c75
                                            by_cases c76 : (ji74) < (x7_2.length : Int)
                                            · rw [if_pos c76] at H
                                              have c76b0 : decide ((ji74) < (x7_2.length : Int)) = true := decide_eq_true c76
                                              clear c76
                                              obtain ⟨y126, hy126⟩ : ∃ y_ : List Int, y_ = (x13_4.set (x15_4 : Int).toNat (wrap64 ((rd x13_4 x15_4) + (rd x7_2 (ji74))))) := ⟨_, rfl⟩
                                              replace H : (spec_CountStuffed.l4 k4 (ji64) x7_2 y126 x14_3 (wrap64 (x15_4 + 1)) a0_0 a0_1) = some (r1, r2) := by first | (rw [hy126]; with_reducible exact H) | (have H2_ := (Option.bind_some _ _).symm.trans H; rw [hy126]; with_reducible exact H2_) | (have H2_ := (Option.bind_some _ _).symm.trans H; with_reducible exact H2_) | with_reducible exact H | (rw [hy126]; exact H) | exact H
                                              have Ny126 := Aside0.mk hy126
                                              clear hy126
                                              have H' := Aside0.mk H
                                              clear H
                                              try go_wp2
                                              have n0_ := Aside0.mk (Kd.R_drew HO_7.out)
                                              have n1_ := Aside0.mk (Kd.R_drew HO_13.out)
                                              have n2_ := Aside0.mk (blk_drew BK104.out)
                                              have n3_ := Aside0.mk (below_drew1 HB.out)
                                              clear HO_7
                                              clear HO_13
                                              clear BK104
                                              clear HB
                                              have HO_7 := n0_
                                              have HO_13 := n1_
                                              have BK104 := n2_
                                              have HB := n3_
                                              clear n0_ n1_ n2_ n3_
                                              obtain ⟨Ao79, co79, eo79⟩ := Kd.R_slice HO_13.out
                                              (first | subst eo79 | (injection eo79 with f1_ f2_ f3_; have f4_ := f1_.symm; have f5_ := f3_.symm; clear f1_ f2_ f3_; subst f4_; subst f5_))
                                              have p124 : 0 ≤ (x15_4 : Int) := of_decide_eq_true (by first | (with_reducible assumption) | assumption)
                                              have q124 : x15_4 < (x13_4.length : Int) := of_decide_eq_true (by first | (with_reducible assumption) | assumption)
                                              obtain ⟨ad124, e124, hx124_0⟩ := Kd.at_int (Kd.R_reads' HO_13.out).2.2 x15_4 p124 q124
                                              cases e124
                                              replace p124 := eq_true p124
                                              replace q124 := eq_true q124
                                              obtain ⟨Ao80, co80, eo80⟩ := Kd.R_slice HO_7.out
                                              (first | subst eo80 | (injection eo80 with f1_ f2_ f3_; have f4_ := f1_.symm; have f5_ := f3_.symm; clear f1_ f2_ f3_; subst f4_; subst f5_))
                                              have p125 : 0 ≤ ((ji74) : Int) := of_decide_eq_true (by first | (with_reducible assumption) | assumption)
                                              have q125 : (ji74) < (x7_2.length : Int) := of_decide_eq_true (by first | (with_reducible assumption) | assumption)
                                              obtain ⟨ad125, e125, hx125_0⟩ := Kd.at_int (Kd.R_reads' HO_7.out).2.2 (ji74) p125 q125
                                              cases e125
                                              replace p125 := eq_true p125
                                              replace q125 := eq_true q125
                                              have p77 : 0 ≤ (x15_4 : Int) := of_decide_eq_true (by first | (with_reducible assumption) | assumption)
                                              have q77 : (x15_4 : Int) < ((x13_4.length : Int) : Int) := of_decide_eq_true (by first | (with_reducible assumption) | assumption)
                                              obtain ⟨go77, co77, eo77, gb77, gl77, cl77, HG77⟩ := Kd.R_form HO_13.out (by omega)
                                              (first | cases eo77 | (injection eo77 with ea_ en_ ec_; (first | subst ea_ | (injection ea_ with ea_; subst ea_)); subst ec_; clear en_))
                                              have GB77 := Aside0.mk gb77
                                              have GG77 := Aside0.mk HG77
                                              clear gb77 gl77 HG77
                                              (first | simp only [add_plain] at hx124_0 | skip)
                                              obtain ⟨hx77_0, hf77_0⟩ := Kd.R_celln 0 HO_13.out (x15_4 : Int) p77 q77
                                              replace p77 := eq_true p77
                                              replace q77 := eq_true q77
                                              have HP81 := Kd.R_putn HO_13.out (x15_4 : Int) (wrap64 ((rd x13_4 x15_4) + (rd x7_2 (ji74))))
                                              rw [← Ny126.out] at HP81
                                              have HQ81 := Aside0.mk HP81
                                              clear HP81
                                              refine start_ (n := 15) (S := fun w' => w'.cell? ⟨go77, (x15_4).toNat, none⟩ = some (.int .i64 (rd x13_4 x15_4)) ∧ w'.cell? (ad125.add ((ji74)).toNat) = some (.int .i64 (rd x7_2 (ji74)))) (ds := [14]) #[false, false, false, false, false, false, false, false, false, false, false, false, false, false, false] (by kernel_rfl) rfl rfl ⟨hx124_0, hx125_0⟩ (fun hHeld => ?_); refine with_tabW spec_CountStuffed.tab30 spec_CountStuffed.bits30 (fun HT_ HW_ => ?_)
                                              generalize wr.drew = w78 at HO_7 HO_13 BK104 HB GG77 HQ81 hf77_0 hx124_0 hx125_0 hx77_0 hHeld ⊢
                                              refine pure_ (i := 0) (N := some 112) (v := ?_) (a' := ?_) #[true, false, false, false, false, false, false, false, false, false, false, false, false, false, false] rfl rfl (any_of HT_.out (by kernel_rfl)) (fun _ _ _ h => h) (Or.inl ⟨by rfl, ?_⟩) ?_ ?_
                                              rotate_left
                                              · intro w'
                                                go_simp
                                                with_reducible rfl
                                              rotate_left
                                              · simp only [Act.put, List.setIfInBounds_toArray, List.set_cons_zero, List.set_cons_succ, i64_w, i32_w]
                                                rfl
                                              refine pure_ (i := 1) (N := some 113) (v := ?_) (a' := ?_) #[true, true, false, false, false, false, false, false, false, false, false, false, false, false, false] rfl rfl (any_of HT_.out (by kernel_rfl)) (fun _ _ _ h => h) (Or.inl ⟨by rfl, ?_⟩) ?_ ?_
                                              rotate_left
                                              · intro w'
                                                go_simp
                                                with_reducible rfl
                                              rotate_left
                                              · simp only [Act.put, List.setIfInBounds_toArray, List.set_cons_zero, List.set_cons_succ, i64_w, i32_w]
                                                rfl
                                              refine pure_ (i := 2) (N := some 114) (v := ?_) (a' := ?_) #[true, true, true, false, false, false, false, false, false, false, false, false, false, false, false] rfl rfl (any_of HT_.out (by kernel_rfl)) (fun _ _ _ h => h) (Or.inl ⟨by rfl, ?_⟩) ?_ ?_
                                              rotate_left
                                              · intro w'
                                                go_simp
                                                with_reducible rfl
                                              rotate_left
                                              · simp only [Act.put, List.setIfInBounds_toArray, List.set_cons_zero, List.set_cons_succ, i64_w, i32_w]
                                                rfl
                                              refine pure_ (i := 4) (N := some 116) (v := ?_) (a' := ?_) #[true, true, true, false, true, false, false, false, false, false, false, false, false, false, false] rfl rfl (any_of HT_.out (by kernel_rfl)) (fun _ _ _ h => h) (Or.inl ⟨by rfl, ?_⟩) ?_ ?_
                                              rotate_left
                                              · intro w'
                                                go_simp
                                                with_reducible rfl
                                              rotate_left
                                              · simp only [Act.put, List.setIfInBounds_toArray, List.set_cons_zero, List.set_cons_succ, i64_w, i32_w]
                                                rfl
                                              refine pure_ (i := 5) (N := some 117) (v := ?_) (a' := ?_) #[true, true, true, false, true, true, false, false, false, false, false, false, false, false, false] rfl rfl (any_of HT_.out (by kernel_rfl)) (fun _ _ _ h => h) (Or.inl ⟨by rfl, ?_⟩) ?_ ?_
                                              rotate_left
                                              · intro w'
                                                go_simp
                                                with_reducible rfl
                                              rotate_left
                                              · simp only [Act.put, List.setIfInBounds_toArray, List.set_cons_zero, List.set_cons_succ, i64_w, i32_w]
                                                rfl
                                              refine pure_ (i := 6) (N := some 118) (v := ?_) (a' := ?_) #[true, true, true, false, true, true, true, false, false, false, false, false, false, false, false] rfl rfl (any_of HT_.out (by kernel_rfl)) (fun _ _ _ h => h) (Or.inl ⟨by rfl, ?_⟩) ?_ ?_
                                              rotate_left
                                              · intro w'
                                                go_simp
                                                with_reducible rfl
                                              rotate_left
                                              · simp only [Act.put, List.setIfInBounds_toArray, List.set_cons_zero, List.set_cons_succ, i64_w, i32_w]
                                                rfl
                                              refine pure_ (i := 7) (N := some 119) (v := ?_) (a' := ?_) #[true, true, true, false, true, true, true, true, false, false, false, false, false, false, false] rfl rfl (any_of HT_.out (by kernel_rfl)) (fun _ _ _ h => h) (Or.inl ⟨by rfl, ?_⟩) ?_ ?_
                                              rotate_left
                                              · intro w'
                                                go_simp
                                                with_reducible rfl
                                              rotate_left
                                              · simp only [Act.put, List.setIfInBounds_toArray, List.set_cons_zero, List.set_cons_succ, i64_w, i32_w]
                                                rfl
                                              refine pure_ (i := 8) (N := some 120) (v := ?_) (a' := ?_) #[true, true, true, false, true, true, true, true, true, false, false, false, false, false, false] rfl rfl (any_of HT_.out (by kernel_rfl)) (fun _ _ _ h => h) (Or.inl ⟨by rfl, ?_⟩) ?_ ?_
                                              rotate_left
                                              · intro w'
                                                go_simp
                                                with_reducible rfl
                                              rotate_left
                                              · simp only [Act.put, List.setIfInBounds_toArray, List.set_cons_zero, List.set_cons_succ, i64_w, i32_w]
                                                rfl
                                              refine pure_ (i := 9) (N := some 121) (v := ?_) (a' := ?_) #[true, true, true, false, true, true, true, true, true, true, false, false, false, false, false] rfl rfl (any_of HT_.out (by kernel_rfl)) (fun _ _ _ h => h) (Or.inl ⟨by rfl, ?_⟩) ?_ ?_
                                              rotate_left
                                              · intro w'
                                                go_simp
                                                with_reducible rfl
                                              rotate_left
                                              · simp only [Act.put, List.setIfInBounds_toArray, List.set_cons_zero, List.set_cons_succ, i64_w, i32_w]
                                                rfl
                                              refine pure_ (i := 10) (N := some 122) (v := ?_) (a' := ?_) #[true, true, true, false, true, true, true, true, true, true, true, false, false, false, false] rfl rfl (any_of HT_.out (by kernel_rfl)) (fun _ _ _ h => h) (Or.inl ⟨by rfl, ?_⟩) ?_ ?_
                                              rotate_left
                                              · intro w'
                                                go_simp
                                                with_reducible rfl
                                              rotate_left
                                              · simp only [Act.put, List.setIfInBounds_toArray, List.set_cons_zero, List.set_cons_succ, i64_w, i32_w]
                                                rfl
                                              refine take_ (i := 3) (N := some 115) (v := ?_) (a' := ?_) #[true, true, true, true, true, true, true, true, true, true, true, false, false, false, false] rfl rfl (take_ofW HT_.out HW_.out (by kernel_rfl)) (fun _ _ _ h => h) (Or.inl ⟨by rfl, ?_⟩) hHeld ?_ ?_
                                              rotate_left
                                              · rintro w' ⟨s0, s1⟩
                                                go_simp
                                                with_reducible rfl
                                              rotate_left
                                              · simp only [Act.put, List.setIfInBounds_toArray, List.set_cons_zero, List.set_cons_succ, i64_w, i32_w]
                                                rfl
                                              refine take_ (i := 11) (N := some 123) (v := ?_) (a' := ?_) #[true, true, true, true, true, true, true, true, true, true, true, true, false, false, false] rfl rfl (take_ofW HT_.out HW_.out (by kernel_rfl)) (fun _ _ _ h => h) (Or.inl ⟨by rfl, ?_⟩) hHeld ?_ ?_
                                              rotate_left
                                              · rintro w' ⟨s0, s1⟩
                                                go_simp
                                                with_reducible rfl
                                              rotate_left
                                              · simp only [Act.put, List.setIfInBounds_toArray, List.set_cons_zero, List.set_cons_succ, i64_w, i32_w]
                                                rfl
                                              refine pure_ (i := 12) (N := some 124) (v := ?_) (a' := ?_) #[true, true, true, true, true, true, true, true, true, true, true, true, true, false, false] rfl rfl (any_of HT_.out (by kernel_rfl)) (fun _ _ _ h => h) (Or.inl ⟨by rfl, ?_⟩) ?_ ?_
                                              rotate_left
                                              · intro w'
                                                go_simp
                                                with_reducible rfl
                                              rotate_left
                                              · simp only [Act.put, List.setIfInBounds_toArray, List.set_cons_zero, List.set_cons_succ, i64_w, i32_w]
                                                rfl
                                              refine pure_ (i := 13) (N := some 125) (v := ?_) (a' := ?_) #[true, true, true, true, true, true, true, true, true, true, true, true, true, true, false] rfl rfl (any_of HT_.out (by kernel_rfl)) (fun _ _ _ h => h) (Or.inl ⟨by rfl, ?_⟩) ?_ ?_
                                              rotate_left
                                              · intro w'
                                                go_simp
                                                with_reducible rfl
                                              rotate_left
                                              · simp only [Act.put, List.setIfInBounds_toArray, List.set_cons_zero, List.set_cons_succ, i64_w, i32_w]
                                                rfl
                                              refine last_ (i := 14) (N := none) #[true, true, true, true, true, true, true, true, true, true, true, true, true, true, true] rfl rfl (one_of HT_.out (by kernel_rfl)) (by decide) (fun K hK => ?_)
                                              refine skip_ (w1 := ?_) (by rfl) rfl ?_ ?_
                                              rotate_left
                                              · go_simp
                                                rfl
                                              refine hK.out _ _ ?_
                                              clear hK K
                                              refine done_ (done_of HT_.out (by kernel_rfl)) ?_
                                              try go_wp2
                                              go_roundg k4
                                              case measure => have := HJ2.out; have := HK2.out; have := HK3.out; have := HK4.out; omega
                                              case rel => exact ⟨(y126), (wrap64 (x15_4 + 1)), (by first | rfl | (simp; done) | (simp [*]; done)), H', ⟨by have := HJ2.out; have := HK2.out; have := HK3.out; have := HK4.out; omega⟩, ⟨by (with_reducible repeat (first | apply Kd.R_alloc | apply Kd.R_drewN | apply Kd.R_drew)); exact Kd.R_mono (Kd.R_far (p := ⟨go77, (x15_4 : Int).toNat, none⟩) (Kd.R_mono HO_7.out (fun k_ hk => (⟨hk, fun e_ => hk (by rw [e_]; rfl)⟩ : _ ∧ k_ ≠ go77))) (fun _ hk => hk.2) (.int .i64 (wrap64 ((rd x13_4 x15_4) + (rd x7_2 (ji74)))))) (fun _ hk => hk.1)⟩, ⟨by (with_reducible repeat (first | apply Kd.R_alloc | apply Kd.R_drewN | apply Kd.R_drew)); exact HQ81.out⟩, ⟨by (with_reducible repeat (first | refine blk_drewN ?_ _ | refine blk_drew ?_ | refine blk_alloc ?_ _)); refine blk_far ?_ (by have h_ := Kd.R_ne HO_13.out BK104.out (by decide); intro e_; exact h_ (by rw [e_]; rfl)) _; (with_reducible repeat (first | refine blk_drewN ?_ _ | refine blk_drew ?_ | refine blk_alloc ?_ _)); exact BK104.out⟩, ⟨by repeat (first | (with_reducible first | exact HB.out | apply below_alloc | apply pw_below_drewN | apply below_drew1 | refine below_set ?_ GB77.out | refine below_set ?_ GE104.out) | exact HB.out)⟩⟩
                                            · rw [if_neg c76] at H
                                              exact absurd H (by simp)
                                          · rw [if_neg c75] at H
                                            exact absurd H (by simp)
                                        · rw [if_neg c73] at H
                                          exact absurd H (by simp)
                                      · rw [if_neg c72] at H
                                        exact absurd H (by simp)
                                    · rw [if_neg c71] at H
                                      have c71b0 : decide (x15_4 < (ji64)) = false := decide_eq_false c71
                                      clear c71
                                      have H' := Aside0.mk H
                                      clear H
                                      go_wp2
                                      go_roundg k4
                                      case measure => have := HJ2.out; have := HK2.out; have := HK3.out; have := HK4.out; omega
                                      case rel => exact ⟨(x13_4), (wrap64 (x14_3 + 1)), (by first | rfl | (simp; done) | (simp [*]; done)), H', ⟨by have := HJ2.out; have := HK2.out; have := HK3.out; have := HK4.out; omega⟩, ⟨by (with_reducible repeat (first | apply Kd.R_alloc | apply Kd.R_drewN | apply Kd.R_drew)); exact HO_7.out⟩, ⟨by (with_reducible repeat (first | apply Kd.R_alloc | apply Kd.R_drewN | apply Kd.R_drew)); exact HO_13.out⟩, ⟨by (with_reducible repeat (first | refine blk_drewN ?_ _ | refine blk_drew ?_ | refine blk_alloc ?_ _)); exact BK104.out⟩, ⟨by repeat (first | (with_reducible first | exact HB.out | apply below_alloc | apply pw_below_drewN | apply below_drew1 | refine below_set ?_ GE104.out) | exact HB.out)⟩⟩
                              · rw [if_neg c69] at H
                                have c69b0 : decide (x14_3 < a0_0) = false := decide_eq_false c69
                                clear c69
                                simp only [Option.some.injEq, Prod.mk.injEq] at H
                                obtain ⟨rfl, rfl⟩ := H
                                have hcz82_0 : wr.cell? ⟨gb104, 0, none⟩ = some (.int .i64 a0_0) := (blk_cell BK104.out 0).trans rfl
                                have hcz82_1 : wr.cell? ⟨gb104, 1, none⟩ = some (.int .i64 a0_1) := (blk_cell BK104.out 1).trans rfl
                                have hfz82_0 := blk_frozen BK104.out 0
                                have hfz82_1 := blk_frozen BK104.out 1
                                go_wp2
                                go_ret2
                                exact ⟨_, by first | rfl | (simp [errW_none, errW_some] <;> rfl) | (simp only [← hji12, ← hji64]; first | rfl | (simp [errW_none, errW_some] <;> rfl)) | (simp [*, errW_none, errW_some] <;> rfl), by (with_reducible repeat (first | apply Kd.R_alloc | apply Kd.R_drewN | apply Kd.R_drew)); exact Kd.R_mono HO_13.out (fun _ hk => trivial), by repeat (first | (with_reducible first | exact HB.out | apply below_alloc | apply pw_below_drewN | apply below_drew1 | refine below_set ?_ GE104.out) | exact HB.out)⟩
                        · rw [if_neg c66] at H
                          exact absurd H (by simp)
                      · rw [if_neg c65] at H
                        exact absurd H (by simp)
              · rw [if_neg c15] at H
                exact absurd H (by simp)
            · rw [if_neg c14] at H
              exact absurd H (by simp)
          · rw [if_neg c13] at H
            exact absurd H (by simp)

end Go.Proofs.Ytbiepjjoaagdiaa.PFnExactCountStuffed
