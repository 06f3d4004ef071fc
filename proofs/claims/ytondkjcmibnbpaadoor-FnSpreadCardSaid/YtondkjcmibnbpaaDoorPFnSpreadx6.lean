-- Written by a program of this session (mkprint.py) over the print of the translation. Not trusted: Lean checks it.
import Derived.Test.YtondkjcmibnbpaaDoorPFnSpreadx0
import Derived.Test.YtondkjcmibnbpaaDoorPFnSpreadx1
import Derived.Test.YtondkjcmibnbpaaDoorPFnSpreadx2
import Derived.Test.YtondkjcmibnbpaaDoorPFnSpreadx3
import Derived.Test.YtondkjcmibnbpaaDoorPFnSpreadx4
import Derived.Test.YtondkjcmibnbpaaDoorPFnSpreadx5
namespace Go.Proofs.YtondkjcmibnbpaaDoor.PFnSpread
open Go.RowKit Go.Proofs.YtondkjcmibnbpaaDoorW.PrintWords Go.Proofs.YtondkjcmibnbpaaDoorW.PrintLast Go.Proofs.YtondkjcmibnbpaaDoorW.PrintMore
attribute [local go_sem] max2_int min2_int max_two min_two max_three min_three max_four min_four   -- for this text's walks alone
set_option linter.unusedVariables false
set_option linter.unusedSimpArgs false

/-! ### impl_SpreadOf: function 45 -/
def impl_SpreadOf.f (k : Nat) (l0_0 : List Int) (a0_1 : ByteArray) : Option (Int × Bool) := (impl_ValidScrambler.f k l0_0 a0_1).bind fun t250 => (if t250 = true then (some (wrap64 ((l0_0.length : Int) + 1), true)) else (some (0, false)))
theorem impl_SpreadOf.mono : ∀ a0 a1 k, LeO (impl_SpreadOf.f k a0 a1) (impl_SpreadOf.f (k + 1) a0 a1) := by
  intro a0 a1 k
  unfold impl_SpreadOf.f
  repeat' first
      | (with_reducible exact impl_ValidScrambler.mono _ _ _)
      | (with_reducible exact LeO.refl _)
      | (with_reducible exact LeO.none _)
      | (with_reducible refine LeO.ite ?_ ?_)
      | (with_reducible refine LeO.bind ?_ (fun _ => ?_))
      | exact impl_ValidScrambler.mono _ _ _
      | exact LeO.none _
      | refine LeO.ite ?_ ?_
      | refine LeO.bind ?_ (fun _ => ?_)
set_option maxHeartbeats 8000000 in
set_option maxRecDepth 100000 in
theorem impl_SpreadOf.calls (k : Nat) (A0_0 : Option Addr) (c0_0 : Nat) (l0_0 : List Int) (a0_1 : ByteArray) (r1 : Int) (r2 : Bool) (w : World) (hr0_0 : Kd.C (Kd.int .i64) w A0_0 l0_0.length l0_0) (hc0_0 : l0_0.length ≤ c0_0) (h : impl_SpreadOf.f k l0_0 a0_1 = some (r1, r2)) :
    Calls Tryd.prog 45 #[.agg #[.slice A0_0 l0_0.length c0_0, .string a0_1]] w fun e w' => e = .returned (.tuple #[.int .i64 r1, .bool r2]) ∧ Below w.heap.size w w' := by
  have hu38 := Tryd.underlying38
  have HR0_0 := Aside0.mk hr0_0
  have HC0_0 := Aside0.mk hc0_0
  clear hr0_0 hc0_0
  have HB := Aside0.mk (Below.refl w.heap.size w)
  have H : ((impl_ValidScrambler.f k l0_0 a0_1).bind fun t250 => (if t250 = true then (some (wrap64 ((l0_0.length : Int) + 1), true)) else (some (0, false)))) = some (r1, r2) := h
  clear h
  replace H := Option.bind_eq_some_iff.mp H
  obtain ⟨t250, A20, H⟩ := H
  replace H : (if t250 = true then (some (wrap64 ((l0_0.length : Int) + 1), true)) else (some (0, false))) = some (r1, r2) := H
  have A2 := Aside0.mk A20
  clear A20
  by_cases c3 : t250 = true
  · subst c3
    have H1 : (some (wrap64 ((l0_0.length : Int) + 1), true)) = some (r1, r2) := by rw [if_pos rfl] at H; exact H
    clear H
    have H := H1
    clear H1
    simp only [Option.some.injEq, Prod.mk.injEq] at H
    obtain ⟨rfl, rfl⟩ := H
    go_enter Tryd.func45, Tryd.ntmps45
    go_wp2_with (first | ((with_reducible refine gate_dst (N := 1) rfl ?_); refine box_event ?hg (N := 1) ?hd (cs := #[.slice A0_0 l0_0.length c0_0, .string a0_1]) (t := 38) ?hr ?_; (case hd => rfl); (case hg => rfl); (case hr => first | (go_simp; done) | (go_simp; rfl)); intro gb249 hg w4 hbox hb; have n0_ := Aside0.mk (below_step (by repeat (first | (with_reducible first | exact HB.out | apply below_alloc | apply pw_below_drewN | apply below_drew1) | exact HB.out)) hb); have n1_ := Aside0.mk (hbox); have n2_ := Aside0.mk ((by rw [hg]; exact (below_size (by repeat (first | (with_reducible first | exact HB.out | apply below_alloc | apply pw_below_drewN | apply below_drew1) | exact HB.out))) : w.heap.size ≤ gb249)); have n3_ := Aside0.mk ((by rw [hg]; exact (below_size (by repeat (first | (with_reducible first | exact HB.out | apply below_alloc | apply pw_below_drewN | apply below_drew1) | exact HB.out))) : w.heap.size ≤ gb249)); clear HB; have HB := n0_; have BK249 := n1_; have GW249 := n2_; have GE249 := n3_; clear n0_ n1_ n2_ n3_; clear hb hbox hg; have hcz5_0 : w4.cell? ⟨gb249, 0, none⟩ = some (.slice A0_0 l0_0.length c0_0) := (blk_cell BK249.out 0).trans rfl; have hcz5_1 : w4.cell? ⟨gb249, 1, none⟩ = some (.string a0_1) := (blk_cell BK249.out 1).trans rfl; have hfz5_0 := blk_frozen BK249.out 0; have hfz5_1 := blk_frozen BK249.out 1) | ((with_reducible refine gate_callee (f := 41) rfl ?_); refine goesL_ (some 5) rfl rfl Tryd.func41 (by kernel_rfl) rfl #[.agg #[.slice A0_0 l0_0.length c0_0, .string a0_1]] rfl (by (try simp only [List.map_toArray, List.map_cons, List.map_nil]); first | done | rfl | (simp only [List.length_drop, List.length_take]; rfl)) ?_; (with_reducible refine (impl_ValidScrambler.calls k _ _ l0_0 a0_1 true _ ?side1 ?side2 A2.out).mono ?_); (case side1 => repeat (first | exact (Kd.C_below HR0_0.out HB.out) | (with_reducible refine Kd.C_alloc ?_ _) | (with_reducible refine Kd.C_drewN ?_ _) | (with_reducible refine Kd.C_drew ?_))); (case side2 => exact HC0_0.out); rintro e w6 ⟨rfl, hb⟩; refine ⟨_, rfl, ?_⟩; have n0_ := Aside0.mk (blk_below (g := gb249) (o := .cells #[.slice A0_0 l0_0.length c0_0, .string a0_1] 38 (0, 0)) (by (with_reducible repeat (first | refine blk_drewN ?_ _ | refine blk_drew ?_ | refine blk_alloc ?_ _)); exact BK249.out) hb); have n1_ := Aside0.mk (below_step (by repeat (first | (with_reducible first | exact HB.out | apply below_alloc | apply pw_below_drewN | apply below_drew1 | refine below_set ?_ GE249.out) | exact HB.out)) hb); clear BK249; clear HB; have BK249 := n0_; have HB := n1_; clear n0_ n1_; (try clear hb); (try clear hb2); (try clear hk); (try clear hi); have hcz7_0 : w6.cell? ⟨gb249, 0, none⟩ = some (.slice A0_0 l0_0.length c0_0) := (blk_cell BK249.out 0).trans rfl; have hcz7_1 : w6.cell? ⟨gb249, 1, none⟩ = some (.string a0_1) := (blk_cell BK249.out 1).trans rfl; have hfz7_0 := blk_frozen BK249.out 0; have hfz7_1 := blk_frozen BK249.out 1))
    go_ret2
    exact ⟨by first | rfl | (simp [errW_none, errW_some] <;> rfl) | (simp [*, errW_none, errW_some] <;> rfl), by repeat (first | (with_reducible first | exact HB.out | apply below_alloc | apply pw_below_drewN | apply below_drew1 | refine below_set ?_ GE249.out) | exact HB.out)⟩
  · replace c3 := Bool.eq_false_iff.mpr c3
    subst c3
    have H1 : (some (0, false)) = some (r1, r2) := by rw [if_neg (show ¬ (false = true) by decide)] at H; exact H
    clear H
    have H := H1
    clear H1
    simp only [Option.some.injEq, Prod.mk.injEq] at H
    obtain ⟨rfl, rfl⟩ := H
    go_enter Tryd.func45, Tryd.ntmps45
    go_wp2_with (first | ((with_reducible refine gate_dst (N := 1) rfl ?_); refine box_event ?hg (N := 1) ?hd (cs := #[.slice A0_0 l0_0.length c0_0, .string a0_1]) (t := 38) ?hr ?_; (case hd => rfl); (case hg => rfl); (case hr => first | (go_simp; done) | (go_simp; rfl)); intro gb249 hg w8 hbox hb; have n0_ := Aside0.mk (below_step (by repeat (first | (with_reducible first | exact HB.out | apply below_alloc | apply pw_below_drewN | apply below_drew1) | exact HB.out)) hb); have n1_ := Aside0.mk (hbox); have n2_ := Aside0.mk ((by rw [hg]; exact (below_size (by repeat (first | (with_reducible first | exact HB.out | apply below_alloc | apply pw_below_drewN | apply below_drew1) | exact HB.out))) : w.heap.size ≤ gb249)); have n3_ := Aside0.mk ((by rw [hg]; exact (below_size (by repeat (first | (with_reducible first | exact HB.out | apply below_alloc | apply pw_below_drewN | apply below_drew1) | exact HB.out))) : w.heap.size ≤ gb249)); clear HB; have HB := n0_; have BK249 := n1_; have GW249 := n2_; have GE249 := n3_; clear n0_ n1_ n2_ n3_; clear hb hbox hg; have hcz9_0 : w8.cell? ⟨gb249, 0, none⟩ = some (.slice A0_0 l0_0.length c0_0) := (blk_cell BK249.out 0).trans rfl; have hcz9_1 : w8.cell? ⟨gb249, 1, none⟩ = some (.string a0_1) := (blk_cell BK249.out 1).trans rfl; have hfz9_0 := blk_frozen BK249.out 0; have hfz9_1 := blk_frozen BK249.out 1) | ((with_reducible refine gate_callee (f := 41) rfl ?_); refine goesL_ (some 5) rfl rfl Tryd.func41 (by kernel_rfl) rfl #[.agg #[.slice A0_0 l0_0.length c0_0, .string a0_1]] rfl (by (try simp only [List.map_toArray, List.map_cons, List.map_nil]); first | done | rfl | (simp only [List.length_drop, List.length_take]; rfl)) ?_; (with_reducible refine (impl_ValidScrambler.calls k _ _ l0_0 a0_1 false _ ?side1 ?side2 A2.out).mono ?_); (case side1 => repeat (first | exact (Kd.C_below HR0_0.out HB.out) | (with_reducible refine Kd.C_alloc ?_ _) | (with_reducible refine Kd.C_drewN ?_ _) | (with_reducible refine Kd.C_drew ?_))); (case side2 => exact HC0_0.out); rintro e w10 ⟨rfl, hb⟩; refine ⟨_, rfl, ?_⟩; have n0_ := Aside0.mk (blk_below (g := gb249) (o := .cells #[.slice A0_0 l0_0.length c0_0, .string a0_1] 38 (0, 0)) (by (with_reducible repeat (first | refine blk_drewN ?_ _ | refine blk_drew ?_ | refine blk_alloc ?_ _)); exact BK249.out) hb); have n1_ := Aside0.mk (below_step (by repeat (first | (with_reducible first | exact HB.out | apply below_alloc | apply pw_below_drewN | apply below_drew1 | refine below_set ?_ GE249.out) | exact HB.out)) hb); clear BK249; clear HB; have BK249 := n0_; have HB := n1_; clear n0_ n1_; (try clear hb); (try clear hb2); (try clear hk); (try clear hi)))
    go_ret2
    exact ⟨by first | rfl | (simp [errW_none, errW_some] <;> rfl) | (simp [*, errW_none, errW_some] <;> rfl), by repeat (first | (with_reducible first | exact HB.out | apply below_alloc | apply pw_below_drewN | apply below_drew1 | refine below_set ?_ GE249.out) | exact HB.out)⟩

/-! ### laws_FnSpread: function 9 -/
mutual
def laws_FnSpread.l0 : Nat → List Int → ByteArray → ByteArray → Int → List Int → ByteArray → Option (Bool)
  | 0, _, _, _, _, _, _ => none
  | k + 1, x0, x6, x7, x8, x257000, x257001 => if x8 < (x6.size : Int) then ((laws_r8At.f x0 x8 3).bind fun t258 => ((some (([(wrap64 (48 + (wrap64 (Int.tdiv t258 2)))) % 256] : List Int) : List Int)).bind fun y259 => (if x7.size + (strOfNums y259).size ≤ 9223372036854775807 then (laws_FnSpread.l0 k x0 x6 (x7 ++ (strOfNums y259)) (wrap64 (x8 + 1)) x257000 x257001) else (none)))) else ((impl_SelfScramble.f k x257000 x257001 x6).bind fun bt262 => ((impl_XorBits.f bt262.1 x7).bind fun bt264 => ((impl_SelfDescramble.f k x257000 x257001 bt264.1).bind fun bt266 => ((impl_XorBits.f bt266.1 x6).bind fun bt268 => ((impl_ErrorsBehind.f k x257000 x257001 x7).bind fun bt270 => ((impl_ErrorsBehind.f k x257000 x257001 (⟨#[48, 48, 49, 48, 48, 48, 48, 48, 48, 48, 48]⟩ : ByteArray)).bind fun bt272 => ((impl_SpreadOf.f k x257000 x257001).bind fun bt274 => (if bt262.2 = true then (if bt264.2 = true then (if bt266.2 = true then (if bt268.2 = true then (if bt270.2 = true then (if bt272.2 = true then (if bt274.2 = true then (laws_FnSpread.j1 k bt272.1 bt274.1 (bt268.1.toList != bt270.1.toList) x257000 x257001) else (laws_FnSpread.j1 k bt272.1 bt274.1 true x257000 x257001)) else (laws_FnSpread.j1 k bt272.1 bt274.1 true x257000 x257001)) else (laws_FnSpread.j1 k bt272.1 bt274.1 true x257000 x257001)) else (laws_FnSpread.j1 k bt272.1 bt274.1 true x257000 x257001)) else (laws_FnSpread.j1 k bt272.1 bt274.1 true x257000 x257001)) else (laws_FnSpread.j1 k bt272.1 bt274.1 true x257000 x257001)) else (laws_FnSpread.j1 k bt272.1 bt274.1 true x257000 x257001)))))))))
def laws_FnSpread.j1 : Nat → ByteArray → Int → Bool → List Int → ByteArray → Option (Bool)
  | 0, _, _, _, _, _ => none
  | k + 1, x19, x21, x119, x257000, x257001 => if x119 = true then (some false) else (laws_FnSpread.l1 k x19 x21 0 0 x257000 x257001)
def laws_FnSpread.l1 : Nat → ByteArray → Int → Int → Int → List Int → ByteArray → Option (Bool)
  | 0, _, _, _, _, _, _ => none
  | k + 1, x19, x21, x23, x24, x257000, x257001 => if x24 < (x19.size : Int) then (if 0 ≤ x24 then (if (bt x19 x24) = 49 then (laws_FnSpread.l1 k x19 x21 (wrap64 (x23 + 1)) (wrap64 (x24 + 1)) x257000 x257001) else (laws_FnSpread.l1 k x19 x21 x23 (wrap64 (x24 + 1)) x257000 x257001)) else (none)) else (if x23 = x21 then (some (x21 == (wrap64 ((x257000.length : Int) + 1)))) else (some false))
end
def laws_FnSpread.f (k : Nat) (l0 : List Int) (l1 : List Int) : Option (Bool) := (laws_r8Long.f l0 l1).bind fun t251 => (if t251 = true then (some true) else ((spec_R8Scrambler.f k l0).bind fun bt252 => ((spec_R8Bits.f k l1 20).bind fun t257 => (if t257.size + 8 ≤ 9223372036854775807 then (laws_FnSpread.l0 k l0 (t257 ++ (⟨#[48, 48, 48, 48, 48, 48, 48, 48]⟩ : ByteArray)) (⟨#[]⟩ : ByteArray) 0 bt252.1 bt252.2) else (none)))))
theorem laws_FnSpread.mono_l : ∀ k, (∀ y0 y1 y2 y3 y4 y5, LeO (laws_FnSpread.l0 k y0 y1 y2 y3 y4 y5) (laws_FnSpread.l0 (k + 1) y0 y1 y2 y3 y4 y5)) ∧ (∀ y0 y1 y2 y3 y4, LeO (laws_FnSpread.j1 k y0 y1 y2 y3 y4) (laws_FnSpread.j1 (k + 1) y0 y1 y2 y3 y4)) ∧ (∀ y0 y1 y2 y3 y4 y5, LeO (laws_FnSpread.l1 k y0 y1 y2 y3 y4 y5) (laws_FnSpread.l1 (k + 1) y0 y1 y2 y3 y4 y5))
  | 0 => ⟨fun _ _ _ _ _ _ r h => by simp [laws_FnSpread.l0] at h, fun _ _ _ _ _ r h => by simp [laws_FnSpread.j1] at h, fun _ _ _ _ _ _ r h => by simp [laws_FnSpread.l1] at h⟩
  | k + 1 => by
    obtain ⟨ih0, ih1, ih2⟩ := laws_FnSpread.mono_l k
    refine ⟨?_, ?_, ?_⟩
    · intro y0 y1 y2 y3 y4 y5
      unfold laws_FnSpread.l0
      repeat' first
      | (with_reducible exact ih0 _ _ _ _ _ _)
      | (with_reducible exact ih1 _ _ _ _ _)
      | (with_reducible exact ih2 _ _ _ _ _ _)
      | (with_reducible exact impl_ErrorsBehind.mono _ _ _ _)
      | (with_reducible exact impl_SelfDescramble.mono _ _ _ _)
      | (with_reducible exact impl_SelfScramble.mono _ _ _ _)
      | (with_reducible exact impl_SpreadOf.mono _ _ _)
      | (with_reducible exact spec_R8Bits.mono _ _ _)
      | (with_reducible exact spec_R8Scrambler.mono _ _)
      | (with_reducible exact LeO.refl _)
      | (with_reducible exact LeO.none _)
      | (with_reducible refine LeO.ite ?_ ?_)
      | (with_reducible refine LeO.bind ?_ (fun _ => ?_))
      | exact ih0 _ _ _ _ _ _
      | exact ih1 _ _ _ _ _
      | exact ih2 _ _ _ _ _ _
      | exact impl_ErrorsBehind.mono _ _ _ _
      | exact impl_SelfDescramble.mono _ _ _ _
      | exact impl_SelfScramble.mono _ _ _ _
      | exact impl_SpreadOf.mono _ _ _
      | exact spec_R8Bits.mono _ _ _
      | exact spec_R8Scrambler.mono _ _
      | exact LeO.none _
      | refine LeO.ite ?_ ?_
      | refine LeO.bind ?_ (fun _ => ?_)
    · intro y0 y1 y2 y3 y4
      unfold laws_FnSpread.j1
      repeat' first
      | (with_reducible exact ih0 _ _ _ _ _ _)
      | (with_reducible exact ih1 _ _ _ _ _)
      | (with_reducible exact ih2 _ _ _ _ _ _)
      | (with_reducible exact impl_ErrorsBehind.mono _ _ _ _)
      | (with_reducible exact impl_SelfDescramble.mono _ _ _ _)
      | (with_reducible exact impl_SelfScramble.mono _ _ _ _)
      | (with_reducible exact impl_SpreadOf.mono _ _ _)
      | (with_reducible exact spec_R8Bits.mono _ _ _)
      | (with_reducible exact spec_R8Scrambler.mono _ _)
      | (with_reducible exact LeO.refl _)
      | (with_reducible exact LeO.none _)
      | (with_reducible refine LeO.ite ?_ ?_)
      | (with_reducible refine LeO.bind ?_ (fun _ => ?_))
      | exact ih0 _ _ _ _ _ _
      | exact ih1 _ _ _ _ _
      | exact ih2 _ _ _ _ _ _
      | exact impl_ErrorsBehind.mono _ _ _ _
      | exact impl_SelfDescramble.mono _ _ _ _
      | exact impl_SelfScramble.mono _ _ _ _
      | exact impl_SpreadOf.mono _ _ _
      | exact spec_R8Bits.mono _ _ _
      | exact spec_R8Scrambler.mono _ _
      | exact LeO.none _
      | refine LeO.ite ?_ ?_
      | refine LeO.bind ?_ (fun _ => ?_)
    · intro y0 y1 y2 y3 y4 y5
      unfold laws_FnSpread.l1
      repeat' first
      | (with_reducible exact ih0 _ _ _ _ _ _)
      | (with_reducible exact ih1 _ _ _ _ _)
      | (with_reducible exact ih2 _ _ _ _ _ _)
      | (with_reducible exact impl_ErrorsBehind.mono _ _ _ _)
      | (with_reducible exact impl_SelfDescramble.mono _ _ _ _)
      | (with_reducible exact impl_SelfScramble.mono _ _ _ _)
      | (with_reducible exact impl_SpreadOf.mono _ _ _)
      | (with_reducible exact spec_R8Bits.mono _ _ _)
      | (with_reducible exact spec_R8Scrambler.mono _ _)
      | (with_reducible exact LeO.refl _)
      | (with_reducible exact LeO.none _)
      | (with_reducible refine LeO.ite ?_ ?_)
      | (with_reducible refine LeO.bind ?_ (fun _ => ?_))
      | exact ih0 _ _ _ _ _ _
      | exact ih1 _ _ _ _ _
      | exact ih2 _ _ _ _ _ _
      | exact impl_ErrorsBehind.mono _ _ _ _
      | exact impl_SelfDescramble.mono _ _ _ _
      | exact impl_SelfScramble.mono _ _ _ _
      | exact impl_SpreadOf.mono _ _ _
      | exact spec_R8Bits.mono _ _ _
      | exact spec_R8Scrambler.mono _ _
      | exact LeO.none _
      | refine LeO.ite ?_ ?_
      | refine LeO.bind ?_ (fun _ => ?_)
theorem laws_FnSpread.mono : ∀ a0 a1 k, LeO (laws_FnSpread.f k a0 a1) (laws_FnSpread.f (k + 1) a0 a1) := by
  intro a0 a1 k
  obtain ⟨ih0, ih1, ih2⟩ := laws_FnSpread.mono_l k
  unfold laws_FnSpread.f
  repeat' first
      | (with_reducible exact ih0 _ _ _ _ _ _)
      | (with_reducible exact ih1 _ _ _ _ _)
      | (with_reducible exact ih2 _ _ _ _ _ _)
      | (with_reducible exact impl_ErrorsBehind.mono _ _ _ _)
      | (with_reducible exact impl_SelfDescramble.mono _ _ _ _)
      | (with_reducible exact impl_SelfScramble.mono _ _ _ _)
      | (with_reducible exact impl_SpreadOf.mono _ _ _)
      | (with_reducible exact spec_R8Bits.mono _ _ _)
      | (with_reducible exact spec_R8Scrambler.mono _ _)
      | (with_reducible exact LeO.refl _)
      | (with_reducible exact LeO.none _)
      | (with_reducible refine LeO.ite ?_ ?_)
      | (with_reducible refine LeO.bind ?_ (fun _ => ?_))
      | exact ih0 _ _ _ _ _ _
      | exact ih1 _ _ _ _ _
      | exact ih2 _ _ _ _ _ _
      | exact impl_ErrorsBehind.mono _ _ _ _
      | exact impl_SelfDescramble.mono _ _ _ _
      | exact impl_SelfScramble.mono _ _ _ _
      | exact impl_SpreadOf.mono _ _ _
      | exact spec_R8Bits.mono _ _ _
      | exact spec_R8Scrambler.mono _ _
      | exact LeO.none _
      | refine LeO.ite ?_ ?_
      | refine LeO.bind ?_ (fun _ => ?_)
set_option maxHeartbeats 8000000 in
set_option maxRecDepth 100000 in
theorem laws_FnSpread.calls (k : Nat) (A0 : Option Addr) (c0 : Nat) (l0 : List Int) (A1 : Option Addr) (c1 : Nat) (l1 : List Int) (r : Bool) (w : World) (hr0 : Kd.C (Kd.int .u8) w A0 l0.length l0) (hc0 : l0.length ≤ c0) (hr1 : Kd.C (Kd.int .u8) w A1 l1.length l1) (hc1 : l1.length ≤ c1) (h : laws_FnSpread.f k l0 l1 = some r) :
    Calls Tryd.prog 9 #[.slice A0 l0.length c0, .slice A1 l1.length c1] w fun e w' => e = .returned (.bool r) ∧ Below w.heap.size w w' := by
  have hu38 := Tryd.underlying38
  have HR0 := Aside0.mk hr0
  have HC0 := Aside0.mk hc0
  clear hr0 hc0
  have HR1 := Aside0.mk hr1
  have HC1 := Aside0.mk hc1
  clear hr1 hc1
  have HB := Aside0.mk (Below.refl w.heap.size w)
  have H : ((laws_r8Long.f l0 l1).bind fun t251 => (if t251 = true then (some true) else ((spec_R8Scrambler.f k l0).bind fun bt252 => ((spec_R8Bits.f k l1 20).bind fun t257 => (if t257.size + 8 ≤ 9223372036854775807 then (laws_FnSpread.l0 k l0 (t257 ++ (⟨#[48, 48, 48, 48, 48, 48, 48, 48]⟩ : ByteArray)) (⟨#[]⟩ : ByteArray) 0 bt252.1 bt252.2) else (none)))))) = some r := h
  clear h
  replace H := Option.bind_eq_some_iff.mp H
  obtain ⟨t251, A30, H⟩ := H
  replace H : (if t251 = true then (some true) else ((spec_R8Scrambler.f k l0).bind fun bt252 => ((spec_R8Bits.f k l1 20).bind fun t257 => (if t257.size + 8 ≤ 9223372036854775807 then (laws_FnSpread.l0 k l0 (t257 ++ (⟨#[48, 48, 48, 48, 48, 48, 48, 48]⟩ : ByteArray)) (⟨#[]⟩ : ByteArray) 0 bt252.1 bt252.2) else (none))))) = some r := H
  have A3 := Aside0.mk A30
  clear A30
  by_cases c4 : t251 = true
  · subst c4
    have H1 : (some true) = some r := by rw [if_pos rfl] at H; exact H
    clear H
    have H := H1
    clear H1
    obtain rfl := Option.some.inj H
    go_enter Tryd.func9, Tryd.ntmps9
    go_wp2_with (first | ((with_reducible refine gate_callee (f := 21) rfl ?_); refine goesL_ (some 27) rfl rfl Tryd.func21 (by kernel_rfl) rfl #[.slice A0 l0.length c0, .slice A1 l1.length c1] rfl (by (try simp only [List.map_toArray, List.map_cons, List.map_nil]); first | done | rfl | (simp only [List.length_drop, List.length_take]; rfl)) ?_; (with_reducible refine (laws_r8Long.calls _ _ l0 _ _ l1 true _ ?side1 ?side2 ?side3 ?side4 A3.out).mono ?_); (case side1 => repeat (first | exact HR0.out | (with_reducible refine Kd.C_alloc ?_ _) | (with_reducible refine Kd.C_drewN ?_ _) | (with_reducible refine Kd.C_drew ?_))); (case side2 => exact HC0.out); (case side3 => repeat (first | exact HR1.out | (with_reducible refine Kd.C_alloc ?_ _) | (with_reducible refine Kd.C_drewN ?_ _) | (with_reducible refine Kd.C_drew ?_))); (case side4 => exact HC1.out); rintro e w' ⟨rfl, ⟨nd, rfl⟩⟩; refine ⟨_, rfl, ?_⟩))
    go_ret
    exact ⟨by first | rfl | (simp [errW_none, errW_some] <;> rfl) | (simp [*, errW_none, errW_some] <;> rfl), by repeat (first | (with_reducible first | exact HB.out | apply below_alloc | apply pw_below_drewN | apply below_drew1) | exact HB.out)⟩
  · replace c4 := Bool.eq_false_iff.mpr c4
    subst c4
    have H1 : ((spec_R8Scrambler.f k l0).bind fun bt252 => ((spec_R8Bits.f k l1 20).bind fun t257 => (if t257.size + 8 ≤ 9223372036854775807 then (laws_FnSpread.l0 k l0 (t257 ++ (⟨#[48, 48, 48, 48, 48, 48, 48, 48]⟩ : ByteArray)) (⟨#[]⟩ : ByteArray) 0 bt252.1 bt252.2) else (none)))) = some r := by rw [if_neg (show ¬ (false = true) by decide)] at H; exact H
    clear H
    have H := H1
    clear H1
    replace H := Option.bind_eq_some_iff.mp H
    obtain ⟨⟨t252, t255⟩, A50, H⟩ := H
    replace H : ((spec_R8Bits.f k l1 20).bind fun t257 => (if t257.size + 8 ≤ 9223372036854775807 then (laws_FnSpread.l0 k l0 (t257 ++ (⟨#[48, 48, 48, 48, 48, 48, 48, 48]⟩ : ByteArray)) (⟨#[]⟩ : ByteArray) 0 t252 t255) else (none))) = some r := H
    have A5 := Aside0.mk A50
    clear A50
    replace H := Option.bind_eq_some_iff.mp H
    obtain ⟨t257, A60, H⟩ := H
    replace H : (if t257.size + 8 ≤ 9223372036854775807 then (laws_FnSpread.l0 k l0 (t257 ++ (⟨#[48, 48, 48, 48, 48, 48, 48, 48]⟩ : ByteArray)) (⟨#[]⟩ : ByteArray) 0 t252 t255) else (none)) = some r := H
    have A6 := Aside0.mk A60
    clear A60
    by_cases c7 : t257.size + 8 ≤ 9223372036854775807
    · rw [if_pos c7] at H
      have c7b0 := eq_true c7
      have c7b1 : decide (t257.size + 8 ≤ 9223372036854775807) = true := decide_eq_true c7
      try have c7b2 : (9223372036854775807 < t257.size + 8) = False := eq_false (Nat.not_lt.2 c7)
      have H' := Aside0.mk H
      clear H
      go_enter Tryd.func9, Tryd.ntmps9
      go_wp2_with (first | ((with_reducible refine gate_callee (f := 21) rfl ?_); refine goesL_ (some 27) rfl rfl Tryd.func21 (by kernel_rfl) rfl #[.slice A0 l0.length c0, .slice A1 l1.length c1] rfl (by (try simp only [List.map_toArray, List.map_cons, List.map_nil]); first | done | rfl | (simp only [List.length_drop, List.length_take]; rfl)) ?_; (with_reducible refine (laws_r8Long.calls _ _ l0 _ _ l1 false _ ?side1 ?side2 ?side3 ?side4 A3.out).mono ?_); (case side1 => repeat (first | exact HR0.out | (with_reducible refine Kd.C_alloc ?_ _) | (with_reducible refine Kd.C_drewN ?_ _) | (with_reducible refine Kd.C_drew ?_))); (case side2 => exact HC0.out); (case side3 => repeat (first | exact HR1.out | (with_reducible refine Kd.C_alloc ?_ _) | (with_reducible refine Kd.C_drewN ?_ _) | (with_reducible refine Kd.C_drew ?_))); (case side4 => exact HC1.out); rintro e w' ⟨rfl, ⟨nd, rfl⟩⟩; refine ⟨_, rfl, ?_⟩) | ((with_reducible refine gate_callee (f := 22) rfl ?_); refine goesL_ (some 29) rfl rfl Tryd.func22 (by kernel_rfl) rfl #[.slice A0 l0.length c0] rfl (by (try simp only [List.map_toArray, List.map_cons, List.map_nil]); first | done | rfl | (simp only [List.length_drop, List.length_take]; rfl)) ?_; (with_reducible refine (spec_R8Scrambler.calls k _ _ l0 t252 t255 _ ?side1 ?side2 A5.out).mono ?_); (case side1 => repeat (first | exact HR0.out | (with_reducible refine Kd.C_alloc ?_ _) | (with_reducible refine Kd.C_drewN ?_ _) | (with_reducible refine Kd.C_drew ?_))); (case side2 => exact HC0.out); rintro e w8 ⟨v253, rfl, ho0, hb⟩; refine ⟨_, rfl, ?_⟩; have n0_ := Aside0.mk (Kd.R_lower ho0 (below_size (by repeat (first | (with_reducible first | exact HB.out | apply below_alloc | apply pw_below_drewN | apply below_drew1) | exact HB.out)))); have n1_ := Aside0.mk (below_step (by repeat (first | (with_reducible first | exact HB.out | apply below_alloc | apply pw_below_drewN | apply below_drew1) | exact HB.out)) hb); clear HB; have HO254 := n0_; have HB := n1_; clear n0_ n1_; (try clear hb); (try clear hb2); (try clear hk); (try clear hi); (try clear ho0)) | ((with_reducible refine gate_dst (N := 5) rfl ?_); (try (refine gate_guard (by rfl) ?_; dsimp only)); refine box_event ?hg (N := 5) ?hd (cs := #[.slice none 0 0, .string (⟨#[]⟩ : ByteArray)]) (t := 38) ?hr ?_; (case hd => rfl); (case hg => rfl); (case hr => first | (go_simp; done) | (go_simp; rfl)); intro gb256 hg w9 hbox hb; have n0_ := Aside0.mk (Kd.R_below (by (with_reducible repeat (first | apply Kd.R_alloc | apply Kd.R_drewN | apply Kd.R_drew)); exact HO254.out) hb); have n1_ := Aside0.mk (below_step (by repeat (first | (with_reducible first | exact HB.out | apply below_alloc | apply pw_below_drewN | apply below_drew1) | exact HB.out)) hb); have n2_ := Aside0.mk (hbox); have n3_ := Aside0.mk ((by rw [hg]; exact (below_size (by repeat (first | (with_reducible first | exact HB.out | apply below_alloc | apply pw_below_drewN | apply below_drew1) | exact HB.out))) : w.heap.size ≤ gb256)); have n4_ := Aside0.mk ((by rw [hg]; exact (below_size (by repeat (first | (with_reducible first | exact HB.out | apply below_alloc | apply pw_below_drewN | apply below_drew1) | exact HB.out))) : w.heap.size ≤ gb256)); clear HO254; clear HB; have HO254 := n0_; have HB := n1_; have BK256 := n2_; have GW256 := n3_; have GE256 := n4_; clear n0_ n1_ n2_ n3_ n4_; clear hb hbox hg; obtain ⟨Ao10, co10, eo10⟩ := Kd.R_slice HO254.out; subst eo10; have hcz11_0 : w9.cell? ⟨gb256, 0, none⟩ = some (.slice none 0 0) := (blk_cell BK256.out 0).trans rfl; have hcz11_1 : w9.cell? ⟨gb256, 1, none⟩ = some (.string (⟨#[]⟩ : ByteArray)) := (blk_cell BK256.out 1).trans rfl; have hfz11_0 := blk_frozen BK256.out 0; have hfz11_1 := blk_frozen BK256.out 1) | ((with_reducible refine gate_callee (f := 26) rfl ?_); refine goesL_ (some 31) rfl rfl Tryd.func26 (by kernel_rfl) rfl #[.slice A1 l1.length c1, .int .i64 20] rfl (by (try simp only [List.map_toArray, List.map_cons, List.map_nil]); first | done | rfl | (simp only [List.length_drop, List.length_take]; rfl)) ?_; (with_reducible refine (spec_R8Bits.calls k _ _ l1 20 t257 _ ?side1 ?side2 A6.out).mono ?_); (case side1 => exact Kd.C_below HR1.out (by repeat (first | (with_reducible first | exact HB.out | apply below_alloc | apply pw_below_drewN | apply below_drew1 | refine below_set ?_ GE256.out) | exact HB.out))); (case side2 => exact HC1.out); rintro e w12 ⟨rfl, hb⟩; refine ⟨_, rfl, ?_⟩; have n0_ := Aside0.mk (Kd.R_below (by (with_reducible repeat (first | apply Kd.R_alloc | apply Kd.R_drewN | apply Kd.R_drew)); exact (Kd.R_mono (Kd.R_far (p := ⟨gb256, 1, none⟩) (Kd.R_far (p := ⟨gb256, 0, none⟩) (Kd.R_types HO254.out BK256.out (by decide)) (fun _ hk => hk.2) (.slice Ao10 t252.length co10)) (fun _ hk => hk.2) (.string t255)) (fun _ h_ => h_.1))) hb); have n1_ := Aside0.mk (blk_below (g := gb256) (o := .cells #[.slice Ao10 t252.length co10, .string t255] 38 (0, 0)) (by (with_reducible repeat (first | refine blk_drewN ?_ _ | refine blk_drew ?_ | refine blk_alloc ?_ _)); refine blk_put (cs := #[.slice Ao10 t252.length co10, .string (⟨#[]⟩ : ByteArray)]) ?_ 1 _ rfl; (with_reducible repeat (first | refine blk_drewN ?_ _ | refine blk_drew ?_ | refine blk_alloc ?_ _)); refine blk_put (cs := #[.slice none 0 0, .string (⟨#[]⟩ : ByteArray)]) ?_ 0 _ rfl; (with_reducible repeat (first | refine blk_drewN ?_ _ | refine blk_drew ?_ | refine blk_alloc ?_ _)); exact BK256.out) hb); have n2_ := Aside0.mk (below_step (by repeat (first | (with_reducible first | exact HB.out | apply below_alloc | apply pw_below_drewN | apply below_drew1 | refine below_set ?_ GE256.out) | exact HB.out)) hb); clear HO254; clear BK256; clear HB; have HO254 := n0_; have BK256 := n1_; have HB := n2_; clear n0_ n1_ n2_; (try clear hb); (try clear hb2); (try clear hk); (try clear hi)))
      go_loopg [7, 8] k (fun kq v7 v8 w' => ∃ (x7_1 : ByteArray) (x8_1 : Int), v7 = .string x7_1 ∧ v8 = .int .i64 x8_1 ∧ Aside0 (laws_FnSpread.l0 kq l0 (t257 ++ (⟨#[48, 48, 48, 48, 48, 48, 48, 48]⟩ : ByteArray)) x7_1 x8_1 t252 t255 = some r) ∧ Aside0 (kq ≤ k) ∧ Aside0 (Kd.R (Kd.int .i64) 2 w' w.heap.size (fun _ => True) (.slice Ao10 t252.length co10) t252) ∧ Aside0 (w'.heap[gb256]? = some (.cells #[(.slice Ao10 t252.length co10), .string t255] 38 (0, 0))) ∧ Aside0 (Below w.heap.size w w'))
      case atStart => exact ⟨((⟨#[]⟩ : ByteArray)), (0), (by first | rfl | (simp; done) | (simp [*]; done)), (by first | rfl | (simp; done) | (simp [*]; done)), H', ⟨Nat.le_refl _⟩, ⟨by (with_reducible repeat (first | apply Kd.R_alloc | apply Kd.R_drewN | apply Kd.R_drew)); exact HO254.out⟩, ⟨by (with_reducible repeat (first | refine blk_drewN ?_ _ | refine blk_drew ?_ | refine blk_alloc ?_ _)); exact BK256.out⟩, ⟨by repeat (first | (with_reducible first | exact HB.out | apply below_alloc | apply pw_below_drewN | apply below_drew1 | refine below_set ?_ GE256.out) | exact HB.out)⟩⟩
      case round =>
        clear H'
        try clear c1
        try clear c2
        try clear p2
        try clear c4
        try clear c7
        try clear c7b0
        try clear c7b1
        try clear c7b2
        try clear c9
        try clear hcz11_0
        try clear hcz11_1
        try clear hfz11_0
        try clear hfz11_1
        obtain ⟨x7_1, x8_1, rfl, rfl, HA, HK1, HO_257000, BK256, HB⟩ := hrel
        cases gk with
        | zero => exact absurd HA.out (by simp [laws_FnSpread.l0])
        | succ k1 =>
          have H := HA.out
          clear HA
          simp only [laws_FnSpread.l0] at H
          by_cases c13 : x8_1 < ((t257 ++ (⟨#[48, 48, 48, 48, 48, 48, 48, 48]⟩ : ByteArray)).size : Int)
          · rw [if_pos c13] at H
            have c13b0 : decide (x8_1 < ((t257 ++ (⟨#[48, 48, 48, 48, 48, 48, 48, 48]⟩ : ByteArray)).size : Int)) = true := decide_eq_true c13
            try (have c13b5 : decide (x8_1 < ((t257.size : Int) + 8)) = true := (by have h5 := c13b0; simp only [ByteArray.size_append, Int.natCast_add] at h5; exact h5))
            try (have c13b4 := c13b0; simp only [ByteArray.size_append, Int.natCast_add] at c13b4)
            clear c13
            replace H := Option.bind_eq_some_iff.mp H
            obtain ⟨t258, A140, H⟩ := H
            replace H : ((some (([(wrap64 (48 + (wrap64 (Int.tdiv t258 2)))) % 256] : List Int) : List Int)).bind fun y259 => (if x7_1.size + (strOfNums y259).size ≤ 9223372036854775807 then (laws_FnSpread.l0 k1 l0 (t257 ++ (⟨#[48, 48, 48, 48, 48, 48, 48, 48]⟩ : ByteArray)) (x7_1 ++ (strOfNums y259)) (wrap64 (x8_1 + 1)) t252 t255) else (none))) = some r := H
            have A14 := Aside0.mk A140
            clear A140
            obtain ⟨y259, hy259⟩ : ∃ y_ : List Int, y_ = (([(wrap64 (48 + (wrap64 (Int.tdiv t258 2)))) % 256] : List Int)) := ⟨_, rfl⟩
            replace H : (if x7_1.size + (strOfNums y259).size ≤ 9223372036854775807 then (laws_FnSpread.l0 k1 l0 (t257 ++ (⟨#[48, 48, 48, 48, 48, 48, 48, 48]⟩ : ByteArray)) (x7_1 ++ (strOfNums y259)) (wrap64 (x8_1 + 1)) t252 t255) else (none)) = some r := by first | (rw [hy259]; with_reducible exact H) | (have H2_ := (Option.bind_some _ _).symm.trans H; rw [hy259]; with_reducible exact H2_) | (have H2_ := (Option.bind_some _ _).symm.trans H; with_reducible exact H2_) | with_reducible exact H | (rw [hy259]; exact H) | exact H
            have Ny259 := Aside0.mk hy259
            clear hy259
            by_cases c15 : x7_1.size + (strOfNums y259).size ≤ 9223372036854775807
            · rw [if_pos c15] at H
              have c15b0 := eq_true c15
              have c15b1 : decide (x7_1.size + (strOfNums y259).size ≤ 9223372036854775807) = true := decide_eq_true c15
              try have c15b2 : (9223372036854775807 < x7_1.size + (strOfNums y259).size) = False := eq_false (Nat.not_lt.2 c15)
              have H' := Aside0.mk H
              clear H
              go_wp2_with (first | ((with_reducible refine gate_callee (f := 25) rfl ?_); refine goesL_ (some 42) rfl rfl Tryd.func25 (by kernel_rfl) rfl #[.slice A0 l0.length c0, .int .i64 x8_1, .int .i64 3] rfl (by (try simp only [List.map_toArray, List.map_cons, List.map_nil]); first | done | rfl | (simp only [List.length_drop, List.length_take]; rfl)) ?_; (with_reducible refine (laws_r8At.calls _ _ l0 x8_1 3 t258 _ ?side1 ?side2 A14.out).mono ?_); (case side1 => repeat (first | exact (Kd.C_below HR0.out HB.out) | (with_reducible refine Kd.C_alloc ?_ _) | (with_reducible refine Kd.C_drewN ?_ _) | (with_reducible refine Kd.C_drew ?_))); (case side2 => exact HC0.out); rintro e w' ⟨rfl, ⟨nd, rfl⟩⟩; refine ⟨_, rfl, ?_⟩) | ((with_reducible refine gate_dst (N := 46) rfl ?_); (try (refine gate_guard (by rfl) ?_; dsimp only)); refine Kd.R_lit (Kd.int .u8) _ 5 ?hg (N := 46) ?hd (xs := ([(wrap64 (48 + (wrap64 (Int.tdiv t258 2)))) % 256] : List Int)) (inner := [.int .u8 ((wrap64 (48 + (wrap64 (Int.tdiv t258 2)))) % 256)]) (ok := fun _ => True) (okp := fun _ => True) ?hr ?hp (fun _ hk => hk) trivial (Below.refl _ _) (Nat.le_refl _) (by simp) ?_; (case hd => rfl); (case hg => rfl); (case hr => first | (go_simp; done) | (go_simp; rfl)); (case hp => exact (Reps.one (show Kd.M (Kd.int .u8) _ _ _ ((wrap64 (48 + (wrap64 (Int.tdiv t258 2)))) % 256) [.int .u8 ((wrap64 (48 + (wrap64 (Int.tdiv t258 2)))) % 256)] from rfl) (Reps.none _ _))); intro v260 w16 ho17 hb hg_ hnew_; clear hg_ hnew_; (first | rw [← Ny259.out] at ho17 | (simp only [Int.reduceToNat] at ho17; rw [← Ny259.out] at ho17)); have n0_ := Aside0.mk (Kd.R_below (by (with_reducible repeat (first | apply Kd.R_alloc | apply Kd.R_drewN | apply Kd.R_drew)); exact HO_257000.out) hb); have n1_ := Aside0.mk (Kd.R_lower ho17 (below_size (by repeat (first | (with_reducible first | exact HB.out | apply below_alloc | apply pw_below_drewN | apply below_drew1 | refine below_set ?_ GE256.out) | exact HB.out)))); have n2_ := Aside0.mk (blk_below (g := gb256) (o := .cells #[.slice Ao10 t252.length co10, .string t255] 38 (0, 0)) (by (with_reducible repeat (first | refine blk_drewN ?_ _ | refine blk_drew ?_ | refine blk_alloc ?_ _)); exact BK256.out) hb); have n3_ := Aside0.mk (below_step (by repeat (first | (with_reducible first | exact HB.out | apply below_alloc | apply pw_below_drewN | apply below_drew1 | refine below_set ?_ GE256.out) | exact HB.out)) hb); clear HO_257000; clear BK256; clear HB; have HO_257000 := n0_; have HO261 := n1_; have BK256 := n2_; have HB := n3_; clear n0_ n1_ n2_ n3_; clear hb ho17; have hcv18 := own_string (P := Tryd.prog) Tryd.underlying22 Tryd.underlying5 Tryd.underlying9 (Kd.own_of_R HO261.out)))
              go_roundg k1
              case measure => have := HK1.out; omega
              case rel => exact ⟨(x7_1 ++ (strOfNums y259)), (wrap64 (x8_1 + 1)), (by first | rfl | (simp; done) | (simp [*]; done)), (by first | rfl | (simp; done) | (simp [*]; done)), H', ⟨by have := HK1.out; omega⟩, ⟨by (with_reducible repeat (first | apply Kd.R_alloc | apply Kd.R_drewN | apply Kd.R_drew)); exact HO_257000.out⟩, ⟨by (with_reducible repeat (first | refine blk_drewN ?_ _ | refine blk_drew ?_ | refine blk_alloc ?_ _)); exact BK256.out⟩, ⟨by repeat (first | (with_reducible first | exact HB.out | apply below_alloc | apply pw_below_drewN | apply below_drew1 | refine below_set ?_ GE256.out) | exact HB.out)⟩⟩
            · rw [if_neg c15] at H
              exact absurd H (by simp)
          · rw [if_neg c13] at H
            have c13b0 : decide (x8_1 < ((t257 ++ (⟨#[48, 48, 48, 48, 48, 48, 48, 48]⟩ : ByteArray)).size : Int)) = false := decide_eq_false c13
            try (have c13b5 : decide (x8_1 < ((t257.size : Int) + 8)) = false := (by have h5 := c13b0; simp only [ByteArray.size_append, Int.natCast_add] at h5; exact h5))
            try (have c13b4 := c13b0; simp only [ByteArray.size_append, Int.natCast_add] at c13b4)
            clear c13
            replace H := Option.bind_eq_some_iff.mp H
            obtain ⟨⟨t262, t263⟩, A190, H⟩ := H
            replace H : ((impl_XorBits.f t262 x7_1).bind fun bt264 => ((impl_SelfDescramble.f k1 t252 t255 bt264.1).bind fun bt266 => ((impl_XorBits.f bt266.1 (t257 ++ (⟨#[48, 48, 48, 48, 48, 48, 48, 48]⟩ : ByteArray))).bind fun bt268 => ((impl_ErrorsBehind.f k1 t252 t255 x7_1).bind fun bt270 => ((impl_ErrorsBehind.f k1 t252 t255 (⟨#[48, 48, 49, 48, 48, 48, 48, 48, 48, 48, 48]⟩ : ByteArray)).bind fun bt272 => ((impl_SpreadOf.f k1 t252 t255).bind fun bt274 => (if t263 = true then (if bt264.2 = true then (if bt266.2 = true then (if bt268.2 = true then (if bt270.2 = true then (if bt272.2 = true then (if bt274.2 = true then (laws_FnSpread.j1 k1 bt272.1 bt274.1 (bt268.1.toList != bt270.1.toList) t252 t255) else (laws_FnSpread.j1 k1 bt272.1 bt274.1 true t252 t255)) else (laws_FnSpread.j1 k1 bt272.1 bt274.1 true t252 t255)) else (laws_FnSpread.j1 k1 bt272.1 bt274.1 true t252 t255)) else (laws_FnSpread.j1 k1 bt272.1 bt274.1 true t252 t255)) else (laws_FnSpread.j1 k1 bt272.1 bt274.1 true t252 t255)) else (laws_FnSpread.j1 k1 bt272.1 bt274.1 true t252 t255)) else (laws_FnSpread.j1 k1 bt272.1 bt274.1 true t252 t255)))))))) = some r := H
            have A19 := Aside0.mk A190
            clear A190
            replace H := Option.bind_eq_some_iff.mp H
            obtain ⟨⟨t264, t265⟩, A200, H⟩ := H
            replace H : ((impl_SelfDescramble.f k1 t252 t255 t264).bind fun bt266 => ((impl_XorBits.f bt266.1 (t257 ++ (⟨#[48, 48, 48, 48, 48, 48, 48, 48]⟩ : ByteArray))).bind fun bt268 => ((impl_ErrorsBehind.f k1 t252 t255 x7_1).bind fun bt270 => ((impl_ErrorsBehind.f k1 t252 t255 (⟨#[48, 48, 49, 48, 48, 48, 48, 48, 48, 48, 48]⟩ : ByteArray)).bind fun bt272 => ((impl_SpreadOf.f k1 t252 t255).bind fun bt274 => (if t263 = true then (if t265 = true then (if bt266.2 = true then (if bt268.2 = true then (if bt270.2 = true then (if bt272.2 = true then (if bt274.2 = true then (laws_FnSpread.j1 k1 bt272.1 bt274.1 (bt268.1.toList != bt270.1.toList) t252 t255) else (laws_FnSpread.j1 k1 bt272.1 bt274.1 true t252 t255)) else (laws_FnSpread.j1 k1 bt272.1 bt274.1 true t252 t255)) else (laws_FnSpread.j1 k1 bt272.1 bt274.1 true t252 t255)) else (laws_FnSpread.j1 k1 bt272.1 bt274.1 true t252 t255)) else (laws_FnSpread.j1 k1 bt272.1 bt274.1 true t252 t255)) else (laws_FnSpread.j1 k1 bt272.1 bt274.1 true t252 t255)) else (laws_FnSpread.j1 k1 bt272.1 bt274.1 true t252 t255))))))) = some r := H
            have A20 := Aside0.mk A200
            clear A200
            replace H := Option.bind_eq_some_iff.mp H
            obtain ⟨⟨t266, t267⟩, A210, H⟩ := H
            replace H : ((impl_XorBits.f t266 (t257 ++ (⟨#[48, 48, 48, 48, 48, 48, 48, 48]⟩ : ByteArray))).bind fun bt268 => ((impl_ErrorsBehind.f k1 t252 t255 x7_1).bind fun bt270 => ((impl_ErrorsBehind.f k1 t252 t255 (⟨#[48, 48, 49, 48, 48, 48, 48, 48, 48, 48, 48]⟩ : ByteArray)).bind fun bt272 => ((impl_SpreadOf.f k1 t252 t255).bind fun bt274 => (if t263 = true then (if t265 = true then (if t267 = true then (if bt268.2 = true then (if bt270.2 = true then (if bt272.2 = true then (if bt274.2 = true then (laws_FnSpread.j1 k1 bt272.1 bt274.1 (bt268.1.toList != bt270.1.toList) t252 t255) else (laws_FnSpread.j1 k1 bt272.1 bt274.1 true t252 t255)) else (laws_FnSpread.j1 k1 bt272.1 bt274.1 true t252 t255)) else (laws_FnSpread.j1 k1 bt272.1 bt274.1 true t252 t255)) else (laws_FnSpread.j1 k1 bt272.1 bt274.1 true t252 t255)) else (laws_FnSpread.j1 k1 bt272.1 bt274.1 true t252 t255)) else (laws_FnSpread.j1 k1 bt272.1 bt274.1 true t252 t255)) else (laws_FnSpread.j1 k1 bt272.1 bt274.1 true t252 t255)))))) = some r := H
            have A21 := Aside0.mk A210
            clear A210
            replace H := Option.bind_eq_some_iff.mp H
            obtain ⟨⟨t268, t269⟩, A220, H⟩ := H
            replace H : ((impl_ErrorsBehind.f k1 t252 t255 x7_1).bind fun bt270 => ((impl_ErrorsBehind.f k1 t252 t255 (⟨#[48, 48, 49, 48, 48, 48, 48, 48, 48, 48, 48]⟩ : ByteArray)).bind fun bt272 => ((impl_SpreadOf.f k1 t252 t255).bind fun bt274 => (if t263 = true then (if t265 = true then (if t267 = true then (if t269 = true then (if bt270.2 = true then (if bt272.2 = true then (if bt274.2 = true then (laws_FnSpread.j1 k1 bt272.1 bt274.1 (t268.toList != bt270.1.toList) t252 t255) else (laws_FnSpread.j1 k1 bt272.1 bt274.1 true t252 t255)) else (laws_FnSpread.j1 k1 bt272.1 bt274.1 true t252 t255)) else (laws_FnSpread.j1 k1 bt272.1 bt274.1 true t252 t255)) else (laws_FnSpread.j1 k1 bt272.1 bt274.1 true t252 t255)) else (laws_FnSpread.j1 k1 bt272.1 bt274.1 true t252 t255)) else (laws_FnSpread.j1 k1 bt272.1 bt274.1 true t252 t255)) else (laws_FnSpread.j1 k1 bt272.1 bt274.1 true t252 t255))))) = some r := H
            have A22 := Aside0.mk A220
            clear A220
            replace H := Option.bind_eq_some_iff.mp H
            obtain ⟨⟨t270, t271⟩, A230, H⟩ := H
            replace H : ((impl_ErrorsBehind.f k1 t252 t255 (⟨#[48, 48, 49, 48, 48, 48, 48, 48, 48, 48, 48]⟩ : ByteArray)).bind fun bt272 => ((impl_SpreadOf.f k1 t252 t255).bind fun bt274 => (if t263 = true then (if t265 = true then (if t267 = true then (if t269 = true then (if t271 = true then (if bt272.2 = true then (if bt274.2 = true then (laws_FnSpread.j1 k1 bt272.1 bt274.1 (t268.toList != t270.toList) t252 t255) else (laws_FnSpread.j1 k1 bt272.1 bt274.1 true t252 t255)) else (laws_FnSpread.j1 k1 bt272.1 bt274.1 true t252 t255)) else (laws_FnSpread.j1 k1 bt272.1 bt274.1 true t252 t255)) else (laws_FnSpread.j1 k1 bt272.1 bt274.1 true t252 t255)) else (laws_FnSpread.j1 k1 bt272.1 bt274.1 true t252 t255)) else (laws_FnSpread.j1 k1 bt272.1 bt274.1 true t252 t255)) else (laws_FnSpread.j1 k1 bt272.1 bt274.1 true t252 t255)))) = some r := H
            have A23 := Aside0.mk A230
            clear A230
            replace H := Option.bind_eq_some_iff.mp H
            obtain ⟨⟨t272, t273⟩, A240, H⟩ := H
            replace H : ((impl_SpreadOf.f k1 t252 t255).bind fun bt274 => (if t263 = true then (if t265 = true then (if t267 = true then (if t269 = true then (if t271 = true then (if t273 = true then (if bt274.2 = true then (laws_FnSpread.j1 k1 t272 bt274.1 (t268.toList != t270.toList) t252 t255) else (laws_FnSpread.j1 k1 t272 bt274.1 true t252 t255)) else (laws_FnSpread.j1 k1 t272 bt274.1 true t252 t255)) else (laws_FnSpread.j1 k1 t272 bt274.1 true t252 t255)) else (laws_FnSpread.j1 k1 t272 bt274.1 true t252 t255)) else (laws_FnSpread.j1 k1 t272 bt274.1 true t252 t255)) else (laws_FnSpread.j1 k1 t272 bt274.1 true t252 t255)) else (laws_FnSpread.j1 k1 t272 bt274.1 true t252 t255))) = some r := H
            have A24 := Aside0.mk A240
            clear A240
            replace H := Option.bind_eq_some_iff.mp H
            obtain ⟨⟨t274, t275⟩, A250, H⟩ := H
            replace H : (if t263 = true then (if t265 = true then (if t267 = true then (if t269 = true then (if t271 = true then (if t273 = true then (if t275 = true then (laws_FnSpread.j1 k1 t272 t274 (t268.toList != t270.toList) t252 t255) else (laws_FnSpread.j1 k1 t272 t274 true t252 t255)) else (laws_FnSpread.j1 k1 t272 t274 true t252 t255)) else (laws_FnSpread.j1 k1 t272 t274 true t252 t255)) else (laws_FnSpread.j1 k1 t272 t274 true t252 t255)) else (laws_FnSpread.j1 k1 t272 t274 true t252 t255)) else (laws_FnSpread.j1 k1 t272 t274 true t252 t255)) else (laws_FnSpread.j1 k1 t272 t274 true t252 t255)) = some r := H
            have A25 := Aside0.mk A250
            clear A250
            have HC26 := Aside0.mk H
            clear H
            have hcz27_0 : wr.cell? ⟨gb256, 0, none⟩ = some (.slice Ao10 t252.length co10) := (blk_cell BK256.out 0).trans rfl
            have hcz27_1 : wr.cell? ⟨gb256, 1, none⟩ = some (.string t255) := (blk_cell BK256.out 1).trans rfl
            have hfz27_0 := blk_frozen BK256.out 0
            have hfz27_1 := blk_frozen BK256.out 1
            go_upto_region 17 with (first | ((with_reducible refine gate_callee (f := 30) rfl ?_); refine goesL_ (some 52) rfl rfl Tryd.func30 (by kernel_rfl) rfl #[.agg #[.slice Ao10 t252.length co10, .string t255], .string (t257 ++ (⟨#[48, 48, 48, 48, 48, 48, 48, 48]⟩ : ByteArray))] rfl (by (try simp only [List.map_toArray, List.map_cons, List.map_nil]); first | done | rfl | (simp only [List.length_drop, List.length_take]; rfl)) ?_; (with_reducible refine (impl_SelfScramble.calls k1 _ _ t252 t255 (t257 ++ (⟨#[48, 48, 48, 48, 48, 48, 48, 48]⟩ : ByteArray)) t262 t263 _ ?side1 ?side2 A19.out).mono ?_); (case side1 => repeat (first | exact (Kd.R_reads' HO_257000.out).2.2 | (with_reducible refine Kd.C_alloc ?_ _) | (with_reducible refine Kd.C_drewN ?_ _) | (with_reducible refine Kd.C_drew ?_))); (case side2 => exact (Kd.R_reads' HO_257000.out).2.1); rintro e w28 ⟨rfl, hb⟩; refine ⟨_, rfl, ?_⟩; have n0_ := Aside0.mk (Kd.R_below (by (with_reducible repeat (first | apply Kd.R_alloc | apply Kd.R_drewN | apply Kd.R_drew)); exact HO_257000.out) hb); have n1_ := Aside0.mk (blk_below (g := gb256) (o := .cells #[.slice Ao10 t252.length co10, .string t255] 38 (0, 0)) (by (with_reducible repeat (first | refine blk_drewN ?_ _ | refine blk_drew ?_ | refine blk_alloc ?_ _)); exact BK256.out) hb); have n2_ := Aside0.mk (below_step (by repeat (first | (with_reducible first | exact HB.out | apply below_alloc | apply pw_below_drewN | apply below_drew1 | refine below_set ?_ GE256.out) | exact HB.out)) hb); clear HO_257000; clear BK256; clear HB; have HO_257000 := n0_; have BK256 := n1_; have HB := n2_; clear n0_ n1_ n2_; (try clear hb); (try clear hb2); (try clear hk); (try clear hi)) | ((with_reducible refine gate_callee (f := 43) rfl ?_); refine goesL_ (some 58) rfl rfl Tryd.func43 (by kernel_rfl) rfl #[.string t262, .string x7_1] rfl (by (try simp only [List.map_toArray, List.map_cons, List.map_nil]); first | done | rfl | (simp only [List.length_drop, List.length_take]; rfl)) ?_; (with_reducible refine (impl_XorBits.calls t262 x7_1 t264 t265 _ A20.out).mono ?_); rintro e w29 ⟨rfl, hb⟩; refine ⟨_, rfl, ?_⟩; have n0_ := Aside0.mk (Kd.R_below (by (with_reducible repeat (first | apply Kd.R_alloc | apply Kd.R_drewN | apply Kd.R_drew)); exact HO_257000.out) hb); have n1_ := Aside0.mk (blk_below (g := gb256) (o := .cells #[.slice Ao10 t252.length co10, .string t255] 38 (0, 0)) (by (with_reducible repeat (first | refine blk_drewN ?_ _ | refine blk_drew ?_ | refine blk_alloc ?_ _)); exact BK256.out) hb); have n2_ := Aside0.mk (below_step (by repeat (first | (with_reducible first | exact HB.out | apply below_alloc | apply pw_below_drewN | apply below_drew1 | refine below_set ?_ GE256.out) | exact HB.out)) hb); clear HO_257000; clear BK256; clear HB; have HO_257000 := n0_; have BK256 := n1_; have HB := n2_; clear n0_ n1_ n2_; (try clear hb); (try clear hb2); (try clear hk); (try clear hi); have hcz30_0 : w29.cell? ⟨gb256, 0, none⟩ = some (.slice Ao10 t252.length co10) := (blk_cell BK256.out 0).trans rfl; have hcz30_1 : w29.cell? ⟨gb256, 1, none⟩ = some (.string t255) := (blk_cell BK256.out 1).trans rfl; have hfz30_0 := blk_frozen BK256.out 0; have hfz30_1 := blk_frozen BK256.out 1) | ((with_reducible refine gate_callee (f := 39) rfl ?_); refine goesL_ (some 64) rfl rfl Tryd.func39 (by kernel_rfl) rfl #[.agg #[.slice Ao10 t252.length co10, .string t255], .string t264] rfl (by (try simp only [List.map_toArray, List.map_cons, List.map_nil]); first | done | rfl | (simp only [List.length_drop, List.length_take]; rfl)) ?_; (with_reducible refine (impl_SelfDescramble.calls k1 _ _ t252 t255 t264 t266 t267 _ ?side1 ?side2 A21.out).mono ?_); (case side1 => repeat (first | exact (Kd.R_reads' HO_257000.out).2.2 | (with_reducible refine Kd.C_alloc ?_ _) | (with_reducible refine Kd.C_drewN ?_ _) | (with_reducible refine Kd.C_drew ?_))); (case side2 => exact (Kd.R_reads' HO_257000.out).2.1); rintro e w31 ⟨rfl, hb⟩; refine ⟨_, rfl, ?_⟩; have n0_ := Aside0.mk (Kd.R_below (by (with_reducible repeat (first | apply Kd.R_alloc | apply Kd.R_drewN | apply Kd.R_drew)); exact HO_257000.out) hb); have n1_ := Aside0.mk (blk_below (g := gb256) (o := .cells #[.slice Ao10 t252.length co10, .string t255] 38 (0, 0)) (by (with_reducible repeat (first | refine blk_drewN ?_ _ | refine blk_drew ?_ | refine blk_alloc ?_ _)); exact BK256.out) hb); have n2_ := Aside0.mk (below_step (by repeat (first | (with_reducible first | exact HB.out | apply below_alloc | apply pw_below_drewN | apply below_drew1 | refine below_set ?_ GE256.out) | exact HB.out)) hb); clear HO_257000; clear BK256; clear HB; have HO_257000 := n0_; have BK256 := n1_; have HB := n2_; clear n0_ n1_ n2_; (try clear hb); (try clear hb2); (try clear hk); (try clear hi)) | ((with_reducible refine gate_callee (f := 43) rfl ?_); refine goesL_ (some 70) rfl rfl Tryd.func43 (by kernel_rfl) rfl #[.string t266, .string (t257 ++ (⟨#[48, 48, 48, 48, 48, 48, 48, 48]⟩ : ByteArray))] rfl (by (try simp only [List.map_toArray, List.map_cons, List.map_nil]); first | done | rfl | (simp only [List.length_drop, List.length_take]; rfl)) ?_; (with_reducible refine (impl_XorBits.calls t266 (t257 ++ (⟨#[48, 48, 48, 48, 48, 48, 48, 48]⟩ : ByteArray)) t268 t269 _ A22.out).mono ?_); rintro e w32 ⟨rfl, hb⟩; refine ⟨_, rfl, ?_⟩; have n0_ := Aside0.mk (Kd.R_below (by (with_reducible repeat (first | apply Kd.R_alloc | apply Kd.R_drewN | apply Kd.R_drew)); exact HO_257000.out) hb); have n1_ := Aside0.mk (blk_below (g := gb256) (o := .cells #[.slice Ao10 t252.length co10, .string t255] 38 (0, 0)) (by (with_reducible repeat (first | refine blk_drewN ?_ _ | refine blk_drew ?_ | refine blk_alloc ?_ _)); exact BK256.out) hb); have n2_ := Aside0.mk (below_step (by repeat (first | (with_reducible first | exact HB.out | apply below_alloc | apply pw_below_drewN | apply below_drew1 | refine below_set ?_ GE256.out) | exact HB.out)) hb); clear HO_257000; clear BK256; clear HB; have HO_257000 := n0_; have BK256 := n1_; have HB := n2_; clear n0_ n1_ n2_; (try clear hb); (try clear hb2); (try clear hk); (try clear hi); have hcz33_0 : w32.cell? ⟨gb256, 0, none⟩ = some (.slice Ao10 t252.length co10) := (blk_cell BK256.out 0).trans rfl; have hcz33_1 : w32.cell? ⟨gb256, 1, none⟩ = some (.string t255) := (blk_cell BK256.out 1).trans rfl; have hfz33_0 := blk_frozen BK256.out 0; have hfz33_1 := blk_frozen BK256.out 1) | ((with_reducible refine gate_callee (f := 44) rfl ?_); refine goesL_ (some 76) rfl rfl Tryd.func44 (by kernel_rfl) rfl #[.agg #[.slice Ao10 t252.length co10, .string t255], .string x7_1] rfl (by (try simp only [List.map_toArray, List.map_cons, List.map_nil]); first | done | rfl | (simp only [List.length_drop, List.length_take]; rfl)) ?_; (with_reducible refine (impl_ErrorsBehind.calls k1 _ _ t252 t255 x7_1 t270 t271 _ ?side1 ?side2 A23.out).mono ?_); (case side1 => repeat (first | exact (Kd.R_reads' HO_257000.out).2.2 | (with_reducible refine Kd.C_alloc ?_ _) | (with_reducible refine Kd.C_drewN ?_ _) | (with_reducible refine Kd.C_drew ?_))); (case side2 => exact (Kd.R_reads' HO_257000.out).2.1); rintro e w34 ⟨rfl, hb⟩; refine ⟨_, rfl, ?_⟩; have n0_ := Aside0.mk (Kd.R_below (by (with_reducible repeat (first | apply Kd.R_alloc | apply Kd.R_drewN | apply Kd.R_drew)); exact HO_257000.out) hb); have n1_ := Aside0.mk (blk_below (g := gb256) (o := .cells #[.slice Ao10 t252.length co10, .string t255] 38 (0, 0)) (by (with_reducible repeat (first | refine blk_drewN ?_ _ | refine blk_drew ?_ | refine blk_alloc ?_ _)); exact BK256.out) hb); have n2_ := Aside0.mk (below_step (by repeat (first | (with_reducible first | exact HB.out | apply below_alloc | apply pw_below_drewN | apply below_drew1 | refine below_set ?_ GE256.out) | exact HB.out)) hb); clear HO_257000; clear BK256; clear HB; have HO_257000 := n0_; have BK256 := n1_; have HB := n2_; clear n0_ n1_ n2_; (try clear hb); (try clear hb2); (try clear hk); (try clear hi); have hcz35_0 : w34.cell? ⟨gb256, 0, none⟩ = some (.slice Ao10 t252.length co10) := (blk_cell BK256.out 0).trans rfl; have hcz35_1 : w34.cell? ⟨gb256, 1, none⟩ = some (.string t255) := (blk_cell BK256.out 1).trans rfl; have hfz35_0 := blk_frozen BK256.out 0; have hfz35_1 := blk_frozen BK256.out 1) | ((with_reducible refine gate_callee (f := 44) rfl ?_); refine goesL_ (some 81) rfl rfl Tryd.func44 (by kernel_rfl) rfl #[.agg #[.slice Ao10 t252.length co10, .string t255], .string (⟨#[48, 48, 49, 48, 48, 48, 48, 48, 48, 48, 48]⟩ : ByteArray)] rfl (by (try simp only [List.map_toArray, List.map_cons, List.map_nil]); first | done | rfl | (simp only [List.length_drop, List.length_take]; rfl)) ?_; (with_reducible refine (impl_ErrorsBehind.calls k1 _ _ t252 t255 (⟨#[48, 48, 49, 48, 48, 48, 48, 48, 48, 48, 48]⟩ : ByteArray) t272 t273 _ ?side1 ?side2 A24.out).mono ?_); (case side1 => repeat (first | exact (Kd.R_reads' HO_257000.out).2.2 | (with_reducible refine Kd.C_alloc ?_ _) | (with_reducible refine Kd.C_drewN ?_ _) | (with_reducible refine Kd.C_drew ?_))); (case side2 => exact (Kd.R_reads' HO_257000.out).2.1); rintro e w36 ⟨rfl, hb⟩; refine ⟨_, rfl, ?_⟩; have n0_ := Aside0.mk (Kd.R_below (by (with_reducible repeat (first | apply Kd.R_alloc | apply Kd.R_drewN | apply Kd.R_drew)); exact HO_257000.out) hb); have n1_ := Aside0.mk (blk_below (g := gb256) (o := .cells #[.slice Ao10 t252.length co10, .string t255] 38 (0, 0)) (by (with_reducible repeat (first | refine blk_drewN ?_ _ | refine blk_drew ?_ | refine blk_alloc ?_ _)); exact BK256.out) hb); have n2_ := Aside0.mk (below_step (by repeat (first | (with_reducible first | exact HB.out | apply below_alloc | apply pw_below_drewN | apply below_drew1 | refine below_set ?_ GE256.out) | exact HB.out)) hb); clear HO_257000; clear BK256; clear HB; have HO_257000 := n0_; have BK256 := n1_; have HB := n2_; clear n0_ n1_ n2_; (try clear hb); (try clear hb2); (try clear hk); (try clear hi); have hcz37_0 : w36.cell? ⟨gb256, 0, none⟩ = some (.slice Ao10 t252.length co10) := (blk_cell BK256.out 0).trans rfl; have hcz37_1 : w36.cell? ⟨gb256, 1, none⟩ = some (.string t255) := (blk_cell BK256.out 1).trans rfl; have hfz37_0 := blk_frozen BK256.out 0; have hfz37_1 := blk_frozen BK256.out 1) | ((with_reducible refine gate_callee (f := 45) rfl ?_); refine goesL_ (some 86) rfl rfl Tryd.func45 (by kernel_rfl) rfl #[.agg #[.slice Ao10 t252.length co10, .string t255]] rfl (by (try simp only [List.map_toArray, List.map_cons, List.map_nil]); first | done | rfl | (simp only [List.length_drop, List.length_take]; rfl)) ?_; (with_reducible refine (impl_SpreadOf.calls k1 _ _ t252 t255 t274 t275 _ ?side1 ?side2 A25.out).mono ?_); (case side1 => repeat (first | exact (Kd.R_reads' HO_257000.out).2.2 | (with_reducible refine Kd.C_alloc ?_ _) | (with_reducible refine Kd.C_drewN ?_ _) | (with_reducible refine Kd.C_drew ?_))); (case side2 => exact (Kd.R_reads' HO_257000.out).2.1); rintro e w38 ⟨rfl, hb⟩; refine ⟨_, rfl, ?_⟩; have n0_ := Aside0.mk (Kd.R_below (by (with_reducible repeat (first | apply Kd.R_alloc | apply Kd.R_drewN | apply Kd.R_drew)); exact HO_257000.out) hb); have n1_ := Aside0.mk (blk_below (g := gb256) (o := .cells #[.slice Ao10 t252.length co10, .string t255] 38 (0, 0)) (by (with_reducible repeat (first | refine blk_drewN ?_ _ | refine blk_drew ?_ | refine blk_alloc ?_ _)); exact BK256.out) hb); have n2_ := Aside0.mk (below_step (by repeat (first | (with_reducible first | exact HB.out | apply below_alloc | apply pw_below_drewN | apply below_drew1 | refine below_set ?_ GE256.out) | exact HB.out)) hb); clear HO_257000; clear BK256; clear HB; have HO_257000 := n0_; have BK256 := n1_; have HB := n2_; clear n0_ n1_ n2_; (try clear hb); (try clear hb2); (try clear hk); (try clear hi)))
            (try simp only [Act.put, List.setIfInBounds_toArray, List.set_cons_zero, List.set_cons_succ])
            go_cut [119] (fun v119 wc => ∃ (kq : Nat) (x119_25 : Bool), v119 = .bool x119_25 ∧ Aside0 (laws_FnSpread.j1 kq t272 t274 x119_25 t252 t255 = some r) ∧ Aside0 (kq ≤ k1) ∧ Aside0 (Kd.R (Kd.int .i64) 2 wc w.heap.size (fun _ => True) (.slice Ao10 t252.length co10) t252) ∧ Aside0 (wc.heap[gb256]? = some (.cells #[(.slice Ao10 t252.length co10), .string t255] 38 (0, 0))) ∧ Aside0 (Below w.heap.size w wc))
            case first =>
              have H := HC26.out
              clear HC26
              by_cases c39 : t263 = true
              · subst c39
                have H1 : (if t265 = true then (if t267 = true then (if t269 = true then (if t271 = true then (if t273 = true then (if t275 = true then (laws_FnSpread.j1 k1 t272 t274 (t268.toList != t270.toList) t252 t255) else (laws_FnSpread.j1 k1 t272 t274 true t252 t255)) else (laws_FnSpread.j1 k1 t272 t274 true t252 t255)) else (laws_FnSpread.j1 k1 t272 t274 true t252 t255)) else (laws_FnSpread.j1 k1 t272 t274 true t252 t255)) else (laws_FnSpread.j1 k1 t272 t274 true t252 t255)) else (laws_FnSpread.j1 k1 t272 t274 true t252 t255)) = some r := by rw [if_pos rfl] at H; exact H
                clear H
                have H := H1
                clear H1
                by_cases c40 : t265 = true
                · subst c40
                  have H1 : (if t267 = true then (if t269 = true then (if t271 = true then (if t273 = true then (if t275 = true then (laws_FnSpread.j1 k1 t272 t274 (t268.toList != t270.toList) t252 t255) else (laws_FnSpread.j1 k1 t272 t274 true t252 t255)) else (laws_FnSpread.j1 k1 t272 t274 true t252 t255)) else (laws_FnSpread.j1 k1 t272 t274 true t252 t255)) else (laws_FnSpread.j1 k1 t272 t274 true t252 t255)) else (laws_FnSpread.j1 k1 t272 t274 true t252 t255)) = some r := by rw [if_pos rfl] at H; exact H
                  clear H
                  have H := H1
                  clear H1
                  by_cases c41 : t267 = true
                  · subst c41
                    have H1 : (if t269 = true then (if t271 = true then (if t273 = true then (if t275 = true then (laws_FnSpread.j1 k1 t272 t274 (t268.toList != t270.toList) t252 t255) else (laws_FnSpread.j1 k1 t272 t274 true t252 t255)) else (laws_FnSpread.j1 k1 t272 t274 true t252 t255)) else (laws_FnSpread.j1 k1 t272 t274 true t252 t255)) else (laws_FnSpread.j1 k1 t272 t274 true t252 t255)) = some r := by rw [if_pos rfl] at H; exact H
                    clear H
                    have H := H1
                    clear H1
                    by_cases c42 : t269 = true
                    · subst c42
                      have H1 : (if t271 = true then (if t273 = true then (if t275 = true then (laws_FnSpread.j1 k1 t272 t274 (t268.toList != t270.toList) t252 t255) else (laws_FnSpread.j1 k1 t272 t274 true t252 t255)) else (laws_FnSpread.j1 k1 t272 t274 true t252 t255)) else (laws_FnSpread.j1 k1 t272 t274 true t252 t255)) = some r := by rw [if_pos rfl] at H; exact H
                      clear H
                      have H := H1
                      clear H1
                      by_cases c43 : t271 = true
                      · subst c43
                        have H1 : (if t273 = true then (if t275 = true then (laws_FnSpread.j1 k1 t272 t274 (t268.toList != t270.toList) t252 t255) else (laws_FnSpread.j1 k1 t272 t274 true t252 t255)) else (laws_FnSpread.j1 k1 t272 t274 true t252 t255)) = some r := by rw [if_pos rfl] at H; exact H
                        clear H
                        have H := H1
                        clear H1
                        by_cases c44 : t273 = true
                        · subst c44
                          have H1 : (if t275 = true then (laws_FnSpread.j1 k1 t272 t274 (t268.toList != t270.toList) t252 t255) else (laws_FnSpread.j1 k1 t272 t274 true t252 t255)) = some r := by rw [if_pos rfl] at H; exact H
                          clear H
                          have H := H1
                          clear H1
                          by_cases c45 : t275 = true
                          · subst c45
                            have H1 : (laws_FnSpread.j1 k1 t272 t274 (t268.toList != t270.toList) t252 t255) = some r := by rw [if_pos rfl] at H; exact H
                            clear H
                            have H := H1
                            clear H1
                            have H' := Aside0.mk H
                            clear H
                            go_wp2
                            go_meet
                            case rel => exact ⟨_, ((t268.toList != t270.toList)), (by first | rfl | (simp; done) | (simp [*]; done)), H', ⟨by have := HK1.out; first | omega | exact Nat.le_refl _⟩, ⟨by (with_reducible repeat (first | apply Kd.R_alloc | apply Kd.R_drewN | apply Kd.R_drew)); exact HO_257000.out⟩, ⟨by (with_reducible repeat (first | refine blk_drewN ?_ _ | refine blk_drew ?_ | refine blk_alloc ?_ _)); exact BK256.out⟩, ⟨by repeat (first | (with_reducible first | exact HB.out | apply below_alloc | apply pw_below_drewN | apply below_drew1 | refine below_set ?_ GE256.out) | exact HB.out)⟩⟩
                          · replace c45 := Bool.eq_false_iff.mpr c45
                            subst c45
                            have H1 : (laws_FnSpread.j1 k1 t272 t274 true t252 t255) = some r := by rw [if_neg (show ¬ (false = true) by decide)] at H; exact H
                            clear H
                            have H := H1
                            clear H1
                            have H' := Aside0.mk H
                            clear H
                            go_wp2
                            go_meet
                            case rel => exact ⟨_, (true), (by first | rfl | (simp; done) | (simp [*]; done)), H', ⟨by have := HK1.out; first | omega | exact Nat.le_refl _⟩, ⟨by (with_reducible repeat (first | apply Kd.R_alloc | apply Kd.R_drewN | apply Kd.R_drew)); exact HO_257000.out⟩, ⟨by (with_reducible repeat (first | refine blk_drewN ?_ _ | refine blk_drew ?_ | refine blk_alloc ?_ _)); exact BK256.out⟩, ⟨by repeat (first | (with_reducible first | exact HB.out | apply below_alloc | apply pw_below_drewN | apply below_drew1 | refine below_set ?_ GE256.out) | exact HB.out)⟩⟩
                        · replace c44 := Bool.eq_false_iff.mpr c44
                          subst c44
                          have H1 : (laws_FnSpread.j1 k1 t272 t274 true t252 t255) = some r := by rw [if_neg (show ¬ (false = true) by decide)] at H; exact H
                          clear H
                          have H := H1
                          clear H1
                          have H' := Aside0.mk H
                          clear H
                          go_wp2
                          go_meet
                          case rel => exact ⟨_, (true), (by first | rfl | (simp; done) | (simp [*]; done)), H', ⟨by have := HK1.out; first | omega | exact Nat.le_refl _⟩, ⟨by (with_reducible repeat (first | apply Kd.R_alloc | apply Kd.R_drewN | apply Kd.R_drew)); exact HO_257000.out⟩, ⟨by (with_reducible repeat (first | refine blk_drewN ?_ _ | refine blk_drew ?_ | refine blk_alloc ?_ _)); exact BK256.out⟩, ⟨by repeat (first | (with_reducible first | exact HB.out | apply below_alloc | apply pw_below_drewN | apply below_drew1 | refine below_set ?_ GE256.out) | exact HB.out)⟩⟩
                      · replace c43 := Bool.eq_false_iff.mpr c43
                        subst c43
                        have H1 : (laws_FnSpread.j1 k1 t272 t274 true t252 t255) = some r := by rw [if_neg (show ¬ (false = true) by decide)] at H; exact H
                        clear H
                        have H := H1
                        clear H1
                        have H' := Aside0.mk H
                        clear H
                        go_wp2
                        go_meet
                        case rel => exact ⟨_, (true), (by first | rfl | (simp; done) | (simp [*]; done)), H', ⟨by have := HK1.out; first | omega | exact Nat.le_refl _⟩, ⟨by (with_reducible repeat (first | apply Kd.R_alloc | apply Kd.R_drewN | apply Kd.R_drew)); exact HO_257000.out⟩, ⟨by (with_reducible repeat (first | refine blk_drewN ?_ _ | refine blk_drew ?_ | refine blk_alloc ?_ _)); exact BK256.out⟩, ⟨by repeat (first | (with_reducible first | exact HB.out | apply below_alloc | apply pw_below_drewN | apply below_drew1 | refine below_set ?_ GE256.out) | exact HB.out)⟩⟩
                    · replace c42 := Bool.eq_false_iff.mpr c42
                      subst c42
                      have H1 : (laws_FnSpread.j1 k1 t272 t274 true t252 t255) = some r := by rw [if_neg (show ¬ (false = true) by decide)] at H; exact H
                      clear H
                      have H := H1
                      clear H1
                      have H' := Aside0.mk H
                      clear H
                      go_wp2
                      go_meet
                      case rel => exact ⟨_, (true), (by first | rfl | (simp; done) | (simp [*]; done)), H', ⟨by have := HK1.out; first | omega | exact Nat.le_refl _⟩, ⟨by (with_reducible repeat (first | apply Kd.R_alloc | apply Kd.R_drewN | apply Kd.R_drew)); exact HO_257000.out⟩, ⟨by (with_reducible repeat (first | refine blk_drewN ?_ _ | refine blk_drew ?_ | refine blk_alloc ?_ _)); exact BK256.out⟩, ⟨by repeat (first | (with_reducible first | exact HB.out | apply below_alloc | apply pw_below_drewN | apply below_drew1 | refine below_set ?_ GE256.out) | exact HB.out)⟩⟩
                  · replace c41 := Bool.eq_false_iff.mpr c41
                    subst c41
                    have H1 : (laws_FnSpread.j1 k1 t272 t274 true t252 t255) = some r := by rw [if_neg (show ¬ (false = true) by decide)] at H; exact H
                    clear H
                    have H := H1
                    clear H1
                    have H' := Aside0.mk H
                    clear H
                    go_wp2
                    go_meet
                    case rel => exact ⟨_, (true), (by first | rfl | (simp; done) | (simp [*]; done)), H', ⟨by have := HK1.out; first | omega | exact Nat.le_refl _⟩, ⟨by (with_reducible repeat (first | apply Kd.R_alloc | apply Kd.R_drewN | apply Kd.R_drew)); exact HO_257000.out⟩, ⟨by (with_reducible repeat (first | refine blk_drewN ?_ _ | refine blk_drew ?_ | refine blk_alloc ?_ _)); exact BK256.out⟩, ⟨by repeat (first | (with_reducible first | exact HB.out | apply below_alloc | apply pw_below_drewN | apply below_drew1 | refine below_set ?_ GE256.out) | exact HB.out)⟩⟩
                · replace c40 := Bool.eq_false_iff.mpr c40
                  subst c40
                  have H1 : (laws_FnSpread.j1 k1 t272 t274 true t252 t255) = some r := by rw [if_neg (show ¬ (false = true) by decide)] at H; exact H
                  clear H
                  have H := H1
                  clear H1
                  have H' := Aside0.mk H
                  clear H
                  go_wp2
                  go_meet
                  case rel => exact ⟨_, (true), (by first | rfl | (simp; done) | (simp [*]; done)), H', ⟨by have := HK1.out; first | omega | exact Nat.le_refl _⟩, ⟨by (with_reducible repeat (first | apply Kd.R_alloc | apply Kd.R_drewN | apply Kd.R_drew)); exact HO_257000.out⟩, ⟨by (with_reducible repeat (first | refine blk_drewN ?_ _ | refine blk_drew ?_ | refine blk_alloc ?_ _)); exact BK256.out⟩, ⟨by repeat (first | (with_reducible first | exact HB.out | apply below_alloc | apply pw_below_drewN | apply below_drew1 | refine below_set ?_ GE256.out) | exact HB.out)⟩⟩
              · replace c39 := Bool.eq_false_iff.mpr c39
                subst c39
                have H1 : (laws_FnSpread.j1 k1 t272 t274 true t252 t255) = some r := by rw [if_neg (show ¬ (false = true) by decide)] at H; exact H
                clear H
                have H := H1
                clear H1
                have H' := Aside0.mk H
                clear H
                go_wp2
                go_meet
                case rel => exact ⟨_, (true), (by first | rfl | (simp; done) | (simp [*]; done)), H', ⟨by have := HK1.out; first | omega | exact Nat.le_refl _⟩, ⟨by (with_reducible repeat (first | apply Kd.R_alloc | apply Kd.R_drewN | apply Kd.R_drew)); exact HO_257000.out⟩, ⟨by (with_reducible repeat (first | refine blk_drewN ?_ _ | refine blk_drew ?_ | refine blk_alloc ?_ _)); exact BK256.out⟩, ⟨by repeat (first | (with_reducible first | exact HB.out | apply below_alloc | apply pw_below_drewN | apply below_drew1 | refine below_set ?_ GE256.out) | exact HB.out)⟩⟩
            case rest =>
              clear HC26
              try clear c1
              try clear hcv1
              try clear c2
              try clear p2
              try clear c3
              try clear c4
              try clear p6
              try clear c7
              try clear c7b0
              try clear c7b1
              try clear c7b2
              try clear c9
              try clear c13
              try clear c13b0
              try clear c15
              try clear c15b0
              try clear c15b1
              try clear c15b2
              try clear hcv18
              try clear c21
              try clear c22
              try clear c25
              try clear c26
              try clear c30
              try clear c39
              try clear c40
              try clear c41
              try clear c42
              try clear c43
              try clear c44
              try clear c45
              try clear hcz11_0
              try clear hcz11_1
              try clear hcz27_0
              try clear hcz27_1
              try clear hcz30_0
              try clear hcz30_1
              try clear hcz33_0
              try clear hcz33_1
              try clear hcz35_0
              try clear hcz35_1
              try clear hcz37_0
              try clear hcz37_1
              try clear hfz11_0
              try clear hfz11_1
              try clear hfz27_0
              try clear hfz27_1
              try clear hfz30_0
              try clear hfz30_1
              try clear hfz33_0
              try clear hfz33_1
              try clear hfz35_0
              try clear hfz35_1
              try clear hfz37_0
              try clear hfz37_1
              try clear p2
              obtain ⟨kq, x119_25, rfl, HA, HJ25, HO_257000, BK256, HB⟩ := hcut
              cases kq with
              | zero => exact absurd HA.out (by simp [laws_FnSpread.j1])
              | succ kj25 =>
                have H := HA.out
                clear HA
                simp only [laws_FnSpread.j1] at H
                by_cases c46 : x119_25 = true
                · subst c46
                  have H1 : (some false) = some r := by rw [if_pos rfl] at H; exact H
                  clear H
                  have H := H1
                  clear H1
                  obtain rfl := Option.some.inj H
                  go_wp2
                  go_ret
                  exact ⟨by first | rfl | (simp [errW_none, errW_some] <;> rfl) | (simp [*, errW_none, errW_some] <;> rfl), by repeat (first | (with_reducible first | exact HB.out | apply below_alloc | apply pw_below_drewN | apply below_drew1 | refine below_set ?_ GE256.out) | exact HB.out)⟩
                · replace c46 := Bool.eq_false_iff.mpr c46
                  subst c46
                  have H1 : (laws_FnSpread.l1 kj25 t272 t274 0 0 t252 t255) = some r := by rw [if_neg (show ¬ (false = true) by decide)] at H; exact H
                  clear H
                  have H := H1
                  clear H1
                  have H' := Aside0.mk H
                  clear H
                  go_wp2
                  go_loopg [23, 24] kj25 (fun kq v23 v24 w' => ∃ (x23_3 : Int) (x24_3 : Int), v23 = .int .i64 x23_3 ∧ v24 = .int .i64 x24_3 ∧ Aside0 (laws_FnSpread.l1 kq t272 t274 x23_3 x24_3 t252 t255 = some r) ∧ Aside0 (kq ≤ kj25) ∧ Aside0 (Kd.R (Kd.int .i64) 2 w' w.heap.size (fun _ => True) (.slice Ao10 t252.length co10) t252) ∧ Aside0 (w'.heap[gb256]? = some (.cells #[(.slice Ao10 t252.length co10), .string t255] 38 (0, 0))) ∧ Aside0 (Below w.heap.size w w'))
                  case atStart => exact ⟨(0), (0), (by first | rfl | (simp; done) | (simp [*]; done)), (by first | rfl | (simp; done) | (simp [*]; done)), H', ⟨Nat.le_refl _⟩, ⟨by (with_reducible repeat (first | apply Kd.R_alloc | apply Kd.R_drewN | apply Kd.R_drew)); exact HO_257000.out⟩, ⟨by (with_reducible repeat (first | refine blk_drewN ?_ _ | refine blk_drew ?_ | refine blk_alloc ?_ _)); exact BK256.out⟩, ⟨by repeat (first | (with_reducible first | exact HB.out | apply below_alloc | apply pw_below_drewN | apply below_drew1 | refine below_set ?_ GE256.out) | exact HB.out)⟩⟩
                  case round =>
                    clear H'
                    try clear c1
                    try clear hcv1
                    try clear c2
                    try clear p2
                    try clear c3
                    try clear c4
                    try clear p6
                    try clear c7
                    try clear c7b0
                    try clear c7b1
                    try clear c7b2
                    try clear c9
                    try clear c13
                    try clear c13b0
                    try clear c15
                    try clear c15b0
                    try clear c15b1
                    try clear c15b2
                    try clear hcv18
                    try clear c21
                    try clear c22
                    try clear c25
                    try clear c26
                    try clear c30
                    try clear c39
                    try clear c40
                    try clear c41
                    try clear c42
                    try clear c43
                    try clear c44
                    try clear c45
                    try clear c46
                    try clear hcz11_0
                    try clear hcz11_1
                    try clear hcz27_0
                    try clear hcz27_1
                    try clear hcz30_0
                    try clear hcz30_1
                    try clear hcz33_0
                    try clear hcz33_1
                    try clear hcz35_0
                    try clear hcz35_1
                    try clear hcz37_0
                    try clear hcz37_1
                    try clear hfz11_0
                    try clear hfz11_1
                    try clear hfz27_0
                    try clear hfz27_1
                    try clear hfz30_0
                    try clear hfz30_1
                    try clear hfz33_0
                    try clear hfz33_1
                    try clear hfz35_0
                    try clear hfz35_1
                    try clear hfz37_0
                    try clear hfz37_1
                    try clear p2
                    try clear p6
                    obtain ⟨x23_3, x24_3, rfl, rfl, HA, HK3, HO_257000, BK256, HB⟩ := hrel
                    cases gk with
                    | zero => exact absurd HA.out (by simp [laws_FnSpread.l1])
                    | succ k3 =>
                      have H := HA.out
                      clear HA
                      simp only [laws_FnSpread.l1] at H
                      by_cases c47 : x24_3 < (t272.size : Int)
                      · rw [if_pos c47] at H
                        have c47b0 : decide (x24_3 < (t272.size : Int)) = true := decide_eq_true c47
                        clear c47
                        by_cases c48 : 0 ≤ x24_3
                        · rw [if_pos c48] at H
                          have c48b0 : decide (0 ≤ x24_3) = true := decide_eq_true c48
                          clear c48
                          by_cases c50 : (bt t272 x24_3) = 49
                          · rw [if_pos c50] at H
                            have c50b0 : ((bt t272 x24_3) == 49) = true := beq_iff_eq.mpr c50
                            have c50b1 : ((bt t272 x24_3) != 49) = false := bne_eq_false_iff_eq.mpr c50
                            clear c50
                            have H' := Aside0.mk H
                            clear H
                            have p49 : 0 ≤ (x24_3 : Int) := of_decide_eq_true (by first | (with_reducible assumption) | assumption)
                            have q49 : x24_3 < (t272.size : Int) := of_decide_eq_true (by first | (with_reducible assumption) | assumption)
                            have hx49 := bt_at t272 x24_3
                            replace p49 := eq_true p49
                            replace q49 := eq_true q49
                            go_wp2
                            go_roundg k3
                            case measure => have := HK1.out; have := HJ25.out; have := HK3.out; omega
                            case rel => exact ⟨(wrap64 (x23_3 + 1)), (wrap64 (x24_3 + 1)), (by first | rfl | (simp; done) | (simp [*]; done)), (by first | rfl | (simp; done) | (simp [*]; done)), H', ⟨by have := HK1.out; have := HJ25.out; have := HK3.out; omega⟩, ⟨by (with_reducible repeat (first | apply Kd.R_alloc | apply Kd.R_drewN | apply Kd.R_drew)); exact HO_257000.out⟩, ⟨by (with_reducible repeat (first | refine blk_drewN ?_ _ | refine blk_drew ?_ | refine blk_alloc ?_ _)); exact BK256.out⟩, ⟨by repeat (first | (with_reducible first | exact HB.out | apply below_alloc | apply pw_below_drewN | apply below_drew1 | refine below_set ?_ GE256.out) | exact HB.out)⟩⟩
                          · rw [if_neg c50] at H
                            have c50b0 : ((bt t272 x24_3) == 49) = false := beq_eq_false_iff_ne.mpr c50
                            have c50b1 : ((bt t272 x24_3) != 49) = true := bne_iff_ne.mpr c50
                            have H' := Aside0.mk H
                            clear H
                            have p49 : 0 ≤ (x24_3 : Int) := of_decide_eq_true (by first | (with_reducible assumption) | assumption)
                            have q49 : x24_3 < (t272.size : Int) := of_decide_eq_true (by first | (with_reducible assumption) | assumption)
                            have hx49 := bt_at t272 x24_3
                            replace p49 := eq_true p49
                            replace q49 := eq_true q49
                            go_wp2
                            go_roundg k3
                            case measure => have := HK1.out; have := HJ25.out; have := HK3.out; omega
                            case rel => exact ⟨(x23_3), (wrap64 (x24_3 + 1)), (by first | rfl | (simp; done) | (simp [*]; done)), (by first | rfl | (simp; done) | (simp [*]; done)), H', ⟨by have := HK1.out; have := HJ25.out; have := HK3.out; omega⟩, ⟨by (with_reducible repeat (first | apply Kd.R_alloc | apply Kd.R_drewN | apply Kd.R_drew)); exact HO_257000.out⟩, ⟨by (with_reducible repeat (first | refine blk_drewN ?_ _ | refine blk_drew ?_ | refine blk_alloc ?_ _)); exact BK256.out⟩, ⟨by repeat (first | (with_reducible first | exact HB.out | apply below_alloc | apply pw_below_drewN | apply below_drew1 | refine below_set ?_ GE256.out) | exact HB.out)⟩⟩
                        · rw [if_neg c48] at H
                          exact absurd H (by simp)
                      · rw [if_neg c47] at H
                        have c47b0 : decide (x24_3 < (t272.size : Int)) = false := decide_eq_false c47
                        clear c47
                        by_cases c51 : x23_3 = t274
                        · rw [if_pos c51] at H
                          have c51b0 : (x23_3 == t274) = true := beq_iff_eq.mpr c51
                          have c51b1 : (x23_3 != t274) = false := bne_eq_false_iff_eq.mpr c51
                          clear c51
                          obtain rfl := Option.some.inj H
                          have hcz52_0 : wr.cell? ⟨gb256, 0, none⟩ = some (.slice Ao10 t252.length co10) := (blk_cell BK256.out 0).trans rfl
                          have hcz52_1 : wr.cell? ⟨gb256, 1, none⟩ = some (.string t255) := (blk_cell BK256.out 1).trans rfl
                          have hfz52_0 := blk_frozen BK256.out 0
                          have hfz52_1 := blk_frozen BK256.out 1
                          go_wp2
                          go_ret
                          exact ⟨by first | rfl | (simp [errW_none, errW_some] <;> rfl) | (simp [*, errW_none, errW_some] <;> rfl), by repeat (first | (with_reducible first | exact HB.out | apply below_alloc | apply pw_below_drewN | apply below_drew1 | refine below_set ?_ GE256.out) | exact HB.out)⟩
                        · rw [if_neg c51] at H
                          have c51b0 : (x23_3 == t274) = false := beq_eq_false_iff_ne.mpr c51
                          have c51b1 : (x23_3 != t274) = true := bne_iff_ne.mpr c51
                          obtain rfl := Option.some.inj H
                          go_wp2
                          go_ret
                          exact ⟨by first | rfl | (simp [errW_none, errW_some] <;> rfl) | (simp [*, errW_none, errW_some] <;> rfl), by repeat (first | (with_reducible first | exact HB.out | apply below_alloc | apply pw_below_drewN | apply below_drew1 | refine below_set ?_ GE256.out) | exact HB.out)⟩
    · rw [if_neg c7] at H
      exact absurd H (by simp)

/-- THE ONE PURE STATEMENT of laws_FnSpread: yours. -/
def laws_FnSpread.Pure : Prop := ∀ (l0 : List Int) (l1 : List Int), l0.length ≤ maxLen → l0.length * 1 ≤ 140737488351232 → (∀ x ∈ l0, (Lit.int .u8 x).wf = true) → l1.length ≤ maxLen → l1.length * 1 ≤ 140737488351232 → (∀ x ∈ l1, (Lit.int .u8 x).wf = true) → ∃ k, laws_FnSpread.f k l0 l1 = some true
theorem laws_FnSpread.walk (P : laws_FnSpread.Pure) (a0 : Option Addr) (len0 cap0 : Nat) (z0 : List Int) (a1 : Option Addr) (len1 cap1 : Nat) (z1 : List Int) (w : World) (w0 : (a0 = none ∧ len0 = 0 ∧ cap0 = 0 ∧ z0 = []) ∨ ∃ x, a0 = some x ∧ len0 ≤ cap0 ∧ cap0 ≤ maxLen ∧ z0.length = cap0 ∧ (∀ i, i < z0.length → w.cell? (x.add i) = some (.int .u8 (z0.getD i 0))) ∧ ∀ n ∈ z0, (Lit.int .u8 n).wf = true) (y0 : len0 * 1 ≤ 140737488351232) (w1 : (a1 = none ∧ len1 = 0 ∧ cap1 = 0 ∧ z1 = []) ∨ ∃ x, a1 = some x ∧ len1 ≤ cap1 ∧ cap1 ≤ maxLen ∧ z1.length = cap1 ∧ (∀ i, i < z1.length → w.cell? (x.add i) = some (.int .u8 (z1.getD i 0))) ∧ ∀ n ∈ z1, (Lit.int .u8 n).wf = true) (y1 : len1 * 1 ≤ 140737488351232) :
    Calls Tryd.prog 9 #[.slice a0 len0 cap0, .slice a1 len1 cap1] w fun e w' => e = .returned (.bool true) ∧ Below w.heap.size w w' := by
  obtain ⟨l0, rfl, hr0, hm0, hw0, hc0⟩ := ReadsInt.ofRowC w0
  obtain ⟨l1, rfl, hr1, hm1, hw1, hc1⟩ := ReadsInt.ofRowC w1
  obtain ⟨k, h⟩ := P l0 l1 hm0 y0 hw0 hm1 y1 hw1
  refine (laws_FnSpread.calls k _ _ l0 _ _ l1 true w (Kd.C_of_reads (d := (0 : Int)) (h1 := fun _ => rfl) hr0) hc0 (Kd.C_of_reads (d := (0 : Int)) (h1 := fun _ => rfl) hr1) hc1 h).mono ?_
  rintro e w' ⟨rfl, hd⟩
  exact ⟨rfl, hd⟩

end Go.Proofs.YtondkjcmibnbpaaDoor.PFnSpread
