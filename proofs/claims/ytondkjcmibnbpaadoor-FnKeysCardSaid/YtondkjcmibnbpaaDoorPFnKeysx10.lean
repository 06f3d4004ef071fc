-- Written by a program of this session (mkprint.py) over the print of the translation. Not trusted: Lean checks it.
import Derived.Test.YtondkjcmibnbpaaDoorPFnKeysx0
import Derived.Test.YtondkjcmibnbpaaDoorPFnKeysx1
import Derived.Test.YtondkjcmibnbpaaDoorPFnKeysx2
import Derived.Test.YtondkjcmibnbpaaDoorPFnKeysx4
import Derived.Test.YtondkjcmibnbpaaDoorPFnKeysx5
import Derived.Test.YtondkjcmibnbpaaDoorPFnKeysx6
import Derived.Test.YtondkjcmibnbpaaDoorPFnKeysx7
import Derived.Test.YtondkjcmibnbpaaDoorPFnKeysx8
import Derived.Test.YtondkjcmibnbpaaDoorPFnKeysx9
namespace Go.Proofs.YtondkjcmibnbpaaDoor.PFnKeys
open Go.RowKit Go.Proofs.YtondkjcmibnbpaaDoorW.PrintWords Go.Proofs.YtondkjcmibnbpaaDoorW.PrintLast Go.Proofs.YtondkjcmibnbpaaDoorW.PrintMore
attribute [local go_sem] max2_int min2_int max_two min_two max_three min_three max_four min_four   -- for this text's walks alone
set_option linter.unusedVariables false
set_option linter.unusedSimpArgs false

/-! ### laws_FnKeys: function 4 -/
mutual
def laws_FnKeys.j0 : Nat → List Int → Int → ByteArray → Bool → List Int → ByteArray → Option (Bool)
  | 0, _, _, _, _, _, _ => none
  | k + 1, x1, x6, x8, x57, x325000, x325001 => if x57 = true then (some false) else ((laws_r8At.f x1 0 x6).bind fun t329 => (laws_FnKeys.l0 k x1 x6 x8 (wrap64 (1 + t329)) true 0 x325000 x325001))
def laws_FnKeys.l0 : Nat → List Int → Int → ByteArray → Int → Bool → Int → List Int → ByteArray → Option (Bool)
  | 0, _, _, _, _, _, _, _, _ => none
  | k + 1, x1, x6, x8, x10, x11, x12, x325000, x325001 => if (wrap64 (x12 + x6)) < 300 then (if 0 ≤ x12 then (if x12 < (x8.size : Int) then (if 0 ≤ (wrap64 (x12 + x6)) then (if (wrap64 (x12 + x6)) < (x8.size : Int) then (if (bt x8 x12) = (bt x8 (wrap64 (x12 + x6))) then (if x11 = true then (if 0 ≤ (wrap64 (x12 + x10)) then (if (wrap64 (x12 + x10)) < (x8.size : Int) then (laws_FnKeys.l0 k x1 x6 x8 x10 ((bt x8 x12) == (bt x8 (wrap64 (x12 + x10)))) (wrap64 (x12 + 1)) x325000 x325001) else (none)) else (none)) else (laws_FnKeys.l0 k x1 x6 x8 x10 false (wrap64 (x12 + 1)) x325000 x325001)) else (some false)) else (none)) else (none)) else (none)) else (none)) else ((spec_R8Bits.f k x1 20).bind fun t330 => (if t330.size + 7 ≤ 9223372036854775807 then ((impl_AddScramble.f k x325000 x325001 (t330 ++ (⟨#[49, 48, 49, 48, 49, 48, 49]⟩ : ByteArray))).bind fun bt331 => ((impl_FindKey.f k x325000 bt331.1 (t330 ++ (⟨#[49, 48, 49, 48, 49, 48, 49]⟩ : ByteArray))).bind fun bt333 => ((impl_WorstBits.f k x325000 x325001 20).bind fun bt335 => ((impl_SelfScramble.f k x325000 x325001 bt335.1).bind fun bt337 => ((impl_LongestSame.f k bt337.1).bind fun bt339 => (if x10 = x6 then (if bt331.2 = true then (if bt333.2 = true then (if bt333.1.toList = x325001.toList then (if bt335.2 = true then (if bt337.2 = true then (if bt337.1.toList = ([48, 48, 48, 48, 48, 48, 48, 48, 48, 48, 48, 48, 48, 48, 48, 48, 48, 48, 48, 48] : List UInt8) then (if bt339.2 = true then (some (bt339.1 == 20)) else (some false)) else (some false)) else (some false)) else (some false)) else (some false)) else (some false)) else (some false)) else (if x11 = true then (some false) else (if bt331.2 = true then (if bt333.2 = true then (if bt333.1.toList = x325001.toList then (if bt335.2 = true then (if bt337.2 = true then (if bt337.1.toList = ([48, 48, 48, 48, 48, 48, 48, 48, 48, 48, 48, 48, 48, 48, 48, 48, 48, 48, 48, 48] : List UInt8) then (if bt339.2 = true then (some (bt339.1 == 20)) else (some false)) else (some false)) else (some false)) else (some false)) else (some false)) else (some false)) else (some false))))))))) else (none)))
end
def laws_FnKeys.f (k : Nat) (l0 : List Int) (l1 : List Int) : Option (Bool) := (laws_r8Long.f l0 l1).bind fun t319 => (if t319 = true then (some true) else ((spec_R8Scrambler.f k l0).bind fun bt320 => ((impl_KeyPeriod.f k bt320.1 bt320.2).bind fun bt325 => ((impl_KeyBits.f k bt320.1 bt320.2 300).bind fun bt327 => (if bt325.2 = true then (if bt327.2 = true then (if bt325.1 < 1 then (laws_FnKeys.j0 k l1 bt325.1 bt327.1 true bt320.1 bt320.2) else (if bt325.1 > 127 then (laws_FnKeys.j0 k l1 bt325.1 bt327.1 true bt320.1 bt320.2) else (laws_FnKeys.j0 k l1 bt325.1 bt327.1 ((bt327.1.size : Int) != 300) bt320.1 bt320.2))) else (laws_FnKeys.j0 k l1 bt325.1 bt327.1 true bt320.1 bt320.2)) else (laws_FnKeys.j0 k l1 bt325.1 bt327.1 true bt320.1 bt320.2))))))
theorem laws_FnKeys.mono_l : ∀ k, (∀ y0 y1 y2 y3 y4 y5, LeO (laws_FnKeys.j0 k y0 y1 y2 y3 y4 y5) (laws_FnKeys.j0 (k + 1) y0 y1 y2 y3 y4 y5)) ∧ (∀ y0 y1 y2 y3 y4 y5 y6 y7, LeO (laws_FnKeys.l0 k y0 y1 y2 y3 y4 y5 y6 y7) (laws_FnKeys.l0 (k + 1) y0 y1 y2 y3 y4 y5 y6 y7))
  | 0 => ⟨fun _ _ _ _ _ _ r h => by simp [laws_FnKeys.j0] at h, fun _ _ _ _ _ _ _ _ r h => by simp [laws_FnKeys.l0] at h⟩
  | k + 1 => by
    obtain ⟨ih0, ih1⟩ := laws_FnKeys.mono_l k
    refine ⟨?_, ?_⟩
    · intro y0 y1 y2 y3 y4 y5
      unfold laws_FnKeys.j0
      repeat' first
      | (with_reducible exact ih0 _ _ _ _ _ _)
      | (with_reducible exact ih1 _ _ _ _ _ _ _ _)
      | (with_reducible exact impl_AddScramble.mono _ _ _ _)
      | (with_reducible exact impl_FindKey.mono _ _ _ _)
      | (with_reducible exact impl_KeyBits.mono _ _ _ _)
      | (with_reducible exact impl_KeyPeriod.mono _ _ _)
      | (with_reducible exact impl_LongestSame.mono _ _)
      | (with_reducible exact impl_SelfScramble.mono _ _ _ _)
      | (with_reducible exact impl_WorstBits.mono _ _ _ _)
      | (with_reducible exact spec_R8Bits.mono _ _ _)
      | (with_reducible exact spec_R8Scrambler.mono _ _)
      | (with_reducible exact LeO.refl _)
      | (with_reducible exact LeO.none _)
      | (with_reducible refine LeO.ite ?_ ?_)
      | (with_reducible refine LeO.bind ?_ (fun _ => ?_))
      | exact ih0 _ _ _ _ _ _
      | exact ih1 _ _ _ _ _ _ _ _
      | exact impl_AddScramble.mono _ _ _ _
      | exact impl_FindKey.mono _ _ _ _
      | exact impl_KeyBits.mono _ _ _ _
      | exact impl_KeyPeriod.mono _ _ _
      | exact impl_LongestSame.mono _ _
      | exact impl_SelfScramble.mono _ _ _ _
      | exact impl_WorstBits.mono _ _ _ _
      | exact spec_R8Bits.mono _ _ _
      | exact spec_R8Scrambler.mono _ _
      | exact LeO.none _
      | refine LeO.ite ?_ ?_
      | refine LeO.bind ?_ (fun _ => ?_)
    · intro y0 y1 y2 y3 y4 y5 y6 y7
      unfold laws_FnKeys.l0
      repeat' first
      | (with_reducible exact ih0 _ _ _ _ _ _)
      | (with_reducible exact ih1 _ _ _ _ _ _ _ _)
      | (with_reducible exact impl_AddScramble.mono _ _ _ _)
      | (with_reducible exact impl_FindKey.mono _ _ _ _)
      | (with_reducible exact impl_KeyBits.mono _ _ _ _)
      | (with_reducible exact impl_KeyPeriod.mono _ _ _)
      | (with_reducible exact impl_LongestSame.mono _ _)
      | (with_reducible exact impl_SelfScramble.mono _ _ _ _)
      | (with_reducible exact impl_WorstBits.mono _ _ _ _)
      | (with_reducible exact spec_R8Bits.mono _ _ _)
      | (with_reducible exact spec_R8Scrambler.mono _ _)
      | (with_reducible exact LeO.refl _)
      | (with_reducible exact LeO.none _)
      | (with_reducible refine LeO.ite ?_ ?_)
      | (with_reducible refine LeO.bind ?_ (fun _ => ?_))
      | exact ih0 _ _ _ _ _ _
      | exact ih1 _ _ _ _ _ _ _ _
      | exact impl_AddScramble.mono _ _ _ _
      | exact impl_FindKey.mono _ _ _ _
      | exact impl_KeyBits.mono _ _ _ _
      | exact impl_KeyPeriod.mono _ _ _
      | exact impl_LongestSame.mono _ _
      | exact impl_SelfScramble.mono _ _ _ _
      | exact impl_WorstBits.mono _ _ _ _
      | exact spec_R8Bits.mono _ _ _
      | exact spec_R8Scrambler.mono _ _
      | exact LeO.none _
      | refine LeO.ite ?_ ?_
      | refine LeO.bind ?_ (fun _ => ?_)
theorem laws_FnKeys.mono : ∀ a0 a1 k, LeO (laws_FnKeys.f k a0 a1) (laws_FnKeys.f (k + 1) a0 a1) := by
  intro a0 a1 k
  obtain ⟨ih0, ih1⟩ := laws_FnKeys.mono_l k
  unfold laws_FnKeys.f
  repeat' first
      | (with_reducible exact ih0 _ _ _ _ _ _)
      | (with_reducible exact ih1 _ _ _ _ _ _ _ _)
      | (with_reducible exact impl_AddScramble.mono _ _ _ _)
      | (with_reducible exact impl_FindKey.mono _ _ _ _)
      | (with_reducible exact impl_KeyBits.mono _ _ _ _)
      | (with_reducible exact impl_KeyPeriod.mono _ _ _)
      | (with_reducible exact impl_LongestSame.mono _ _)
      | (with_reducible exact impl_SelfScramble.mono _ _ _ _)
      | (with_reducible exact impl_WorstBits.mono _ _ _ _)
      | (with_reducible exact spec_R8Bits.mono _ _ _)
      | (with_reducible exact spec_R8Scrambler.mono _ _)
      | (with_reducible exact LeO.refl _)
      | (with_reducible exact LeO.none _)
      | (with_reducible refine LeO.ite ?_ ?_)
      | (with_reducible refine LeO.bind ?_ (fun _ => ?_))
      | exact ih0 _ _ _ _ _ _
      | exact ih1 _ _ _ _ _ _ _ _
      | exact impl_AddScramble.mono _ _ _ _
      | exact impl_FindKey.mono _ _ _ _
      | exact impl_KeyBits.mono _ _ _ _
      | exact impl_KeyPeriod.mono _ _ _
      | exact impl_LongestSame.mono _ _
      | exact impl_SelfScramble.mono _ _ _ _
      | exact impl_WorstBits.mono _ _ _ _
      | exact spec_R8Bits.mono _ _ _
      | exact spec_R8Scrambler.mono _ _
      | exact LeO.none _
      | refine LeO.ite ?_ ?_
      | refine LeO.bind ?_ (fun _ => ?_)
set_option maxHeartbeats 8000000 in
set_option maxRecDepth 100000 in
theorem laws_FnKeys.calls (k : Nat) (A0 : Option Addr) (c0 : Nat) (l0 : List Int) (A1 : Option Addr) (c1 : Nat) (l1 : List Int) (r : Bool) (w : World) (hr0 : Kd.C (Kd.int .u8) w A0 l0.length l0) (hc0 : l0.length ≤ c0) (hr1 : Kd.C (Kd.int .u8) w A1 l1.length l1) (hc1 : l1.length ≤ c1) (h : laws_FnKeys.f k l0 l1 = some r) (hr_ : r = true) :
    Calls Tryd.prog 4 #[.slice A0 l0.length c0, .slice A1 l1.length c1] w fun e w' => e = .returned (.bool r) ∧ Below w.heap.size w w' := by
  have hu38 := Tryd.underlying38
  have HR0 := Aside0.mk hr0
  have HC0 := Aside0.mk hc0
  clear hr0 hc0
  have HR1 := Aside0.mk hr1
  have HC1 := Aside0.mk hc1
  clear hr1 hc1
  have HB := Aside0.mk (Below.refl w.heap.size w)
  have H : ((laws_r8Long.f l0 l1).bind fun t319 => (if t319 = true then (some true) else ((spec_R8Scrambler.f k l0).bind fun bt320 => ((impl_KeyPeriod.f k bt320.1 bt320.2).bind fun bt325 => ((impl_KeyBits.f k bt320.1 bt320.2 300).bind fun bt327 => (if bt325.2 = true then (if bt327.2 = true then (if bt325.1 < 1 then (laws_FnKeys.j0 k l1 bt325.1 bt327.1 true bt320.1 bt320.2) else (if bt325.1 > 127 then (laws_FnKeys.j0 k l1 bt325.1 bt327.1 true bt320.1 bt320.2) else (laws_FnKeys.j0 k l1 bt325.1 bt327.1 ((bt327.1.size : Int) != 300) bt320.1 bt320.2))) else (laws_FnKeys.j0 k l1 bt325.1 bt327.1 true bt320.1 bt320.2)) else (laws_FnKeys.j0 k l1 bt325.1 bt327.1 true bt320.1 bt320.2))))))) = some r := h
  clear h
  replace H := Option.bind_eq_some_iff.mp H
  obtain ⟨t319, A30, H⟩ := H
  replace H : (if t319 = true then (some true) else ((spec_R8Scrambler.f k l0).bind fun bt320 => ((impl_KeyPeriod.f k bt320.1 bt320.2).bind fun bt325 => ((impl_KeyBits.f k bt320.1 bt320.2 300).bind fun bt327 => (if bt325.2 = true then (if bt327.2 = true then (if bt325.1 < 1 then (laws_FnKeys.j0 k l1 bt325.1 bt327.1 true bt320.1 bt320.2) else (if bt325.1 > 127 then (laws_FnKeys.j0 k l1 bt325.1 bt327.1 true bt320.1 bt320.2) else (laws_FnKeys.j0 k l1 bt325.1 bt327.1 ((bt327.1.size : Int) != 300) bt320.1 bt320.2))) else (laws_FnKeys.j0 k l1 bt325.1 bt327.1 true bt320.1 bt320.2)) else (laws_FnKeys.j0 k l1 bt325.1 bt327.1 true bt320.1 bt320.2)))))) = some r := H
  have A3 := Aside0.mk A30
  clear A30
  by_cases c4 : t319 = true
  · subst c4
    have H1 : (some true) = some r := by rw [if_pos rfl] at H; exact H
    clear H
    have H := H1
    clear H1
    obtain rfl := Option.some.inj H
    go_enter Tryd.func4, Tryd.ntmps4
    go_wp2_with (first | (go_at_call 21; (with_reducible refine (laws_r8Long.calls _ _ l0 _ _ l1 true _ ?side1 ?side2 ?side3 ?side4 A3.out).mono ?_); (case side1 => repeat (first | exact HR0.out | (with_reducible refine Kd.C_alloc ?_ _) | (with_reducible refine Kd.C_drewN ?_ _) | (with_reducible refine Kd.C_drew ?_))); (case side2 => exact HC0.out); (case side3 => repeat (first | exact HR1.out | (with_reducible refine Kd.C_alloc ?_ _) | (with_reducible refine Kd.C_drewN ?_ _) | (with_reducible refine Kd.C_drew ?_))); (case side4 => exact HC1.out); rintro e w' ⟨rfl, ⟨nd, rfl⟩⟩; (try first | exact ⟨rfl, _, World.drewN_drewN _ _ _⟩ | exact ⟨rfl, _, Eq.trans (World.drewN_drewN _ _ _) (congrArg (World.drewN _) (Nat.add_assoc _ _ _))⟩)))
    repeat (go_quiet (first | (go_at_call 21; (with_reducible refine (laws_r8Long.calls _ _ l0 _ _ l1 true _ ?side1 ?side2 ?side3 ?side4 A3.out).mono ?_); (case side1 => repeat (first | exact HR0.out | (with_reducible refine Kd.C_alloc ?_ _) | (with_reducible refine Kd.C_drewN ?_ _) | (with_reducible refine Kd.C_drew ?_))); (case side2 => exact HC0.out); (case side3 => repeat (first | exact HR1.out | (with_reducible refine Kd.C_alloc ?_ _) | (with_reducible refine Kd.C_drewN ?_ _) | (with_reducible refine Kd.C_drew ?_))); (case side4 => exact HC1.out); rintro e w' ⟨rfl, ⟨nd, rfl⟩⟩; (try first | exact ⟨rfl, _, World.drewN_drewN _ _ _⟩ | exact ⟨rfl, _, Eq.trans (World.drewN_drewN _ _ _) (congrArg (World.drewN _) (Nat.add_assoc _ _ _))⟩))); try go_wp2_with (first | (go_at_call 21; (with_reducible refine (laws_r8Long.calls _ _ l0 _ _ l1 true _ ?side1 ?side2 ?side3 ?side4 A3.out).mono ?_); (case side1 => repeat (first | exact HR0.out | (with_reducible refine Kd.C_alloc ?_ _) | (with_reducible refine Kd.C_drewN ?_ _) | (with_reducible refine Kd.C_drew ?_))); (case side2 => exact HC0.out); (case side3 => repeat (first | exact HR1.out | (with_reducible refine Kd.C_alloc ?_ _) | (with_reducible refine Kd.C_drewN ?_ _) | (with_reducible refine Kd.C_drew ?_))); (case side4 => exact HC1.out); rintro e w' ⟨rfl, ⟨nd, rfl⟩⟩; (try first | exact ⟨rfl, _, World.drewN_drewN _ _ _⟩ | exact ⟨rfl, _, Eq.trans (World.drewN_drewN _ _ _) (congrArg (World.drewN _) (Nat.add_assoc _ _ _))⟩))))
    go_ret
    exact ⟨by first | rfl | (simp [errW_none, errW_some] <;> rfl) | (simp [*, errW_none, errW_some] <;> rfl), by repeat (first | (with_reducible first | exact HB.out | apply below_alloc | apply pw_below_drewN | apply below_drew1) | exact HB.out)⟩
  · replace c4 := Bool.eq_false_iff.mpr c4
    subst c4
    have H1 : ((spec_R8Scrambler.f k l0).bind fun bt320 => ((impl_KeyPeriod.f k bt320.1 bt320.2).bind fun bt325 => ((impl_KeyBits.f k bt320.1 bt320.2 300).bind fun bt327 => (if bt325.2 = true then (if bt327.2 = true then (if bt325.1 < 1 then (laws_FnKeys.j0 k l1 bt325.1 bt327.1 true bt320.1 bt320.2) else (if bt325.1 > 127 then (laws_FnKeys.j0 k l1 bt325.1 bt327.1 true bt320.1 bt320.2) else (laws_FnKeys.j0 k l1 bt325.1 bt327.1 ((bt327.1.size : Int) != 300) bt320.1 bt320.2))) else (laws_FnKeys.j0 k l1 bt325.1 bt327.1 true bt320.1 bt320.2)) else (laws_FnKeys.j0 k l1 bt325.1 bt327.1 true bt320.1 bt320.2))))) = some r := by rw [if_neg (show ¬ (false = true) by decide)] at H; exact H
    clear H
    have H := H1
    clear H1
    replace H := Option.bind_eq_some_iff.mp H
    obtain ⟨⟨t320, t323⟩, A50, H⟩ := H
    replace H : ((impl_KeyPeriod.f k t320 t323).bind fun bt325 => ((impl_KeyBits.f k t320 t323 300).bind fun bt327 => (if bt325.2 = true then (if bt327.2 = true then (if bt325.1 < 1 then (laws_FnKeys.j0 k l1 bt325.1 bt327.1 true t320 t323) else (if bt325.1 > 127 then (laws_FnKeys.j0 k l1 bt325.1 bt327.1 true t320 t323) else (laws_FnKeys.j0 k l1 bt325.1 bt327.1 ((bt327.1.size : Int) != 300) t320 t323))) else (laws_FnKeys.j0 k l1 bt325.1 bt327.1 true t320 t323)) else (laws_FnKeys.j0 k l1 bt325.1 bt327.1 true t320 t323)))) = some r := H
    have A5 := Aside0.mk A50
    clear A50
    replace H := Option.bind_eq_some_iff.mp H
    obtain ⟨⟨t325, t326⟩, A60, H⟩ := H
    replace H : ((impl_KeyBits.f k t320 t323 300).bind fun bt327 => (if t326 = true then (if bt327.2 = true then (if t325 < 1 then (laws_FnKeys.j0 k l1 t325 bt327.1 true t320 t323) else (if t325 > 127 then (laws_FnKeys.j0 k l1 t325 bt327.1 true t320 t323) else (laws_FnKeys.j0 k l1 t325 bt327.1 ((bt327.1.size : Int) != 300) t320 t323))) else (laws_FnKeys.j0 k l1 t325 bt327.1 true t320 t323)) else (laws_FnKeys.j0 k l1 t325 bt327.1 true t320 t323))) = some r := H
    have A6 := Aside0.mk A60
    clear A60
    replace H := Option.bind_eq_some_iff.mp H
    obtain ⟨⟨t327, t328⟩, A70, H⟩ := H
    replace H : (if t326 = true then (if t328 = true then (if t325 < 1 then (laws_FnKeys.j0 k l1 t325 t327 true t320 t323) else (if t325 > 127 then (laws_FnKeys.j0 k l1 t325 t327 true t320 t323) else (laws_FnKeys.j0 k l1 t325 t327 ((t327.size : Int) != 300) t320 t323))) else (laws_FnKeys.j0 k l1 t325 t327 true t320 t323)) else (laws_FnKeys.j0 k l1 t325 t327 true t320 t323)) = some r := H
    have A7 := Aside0.mk A70
    clear A70
    have HC8 := Aside0.mk H
    clear H
    go_enter Tryd.func4, Tryd.ntmps4
    go_upto_region 6 with (first | (go_at_call 21; (with_reducible refine (laws_r8Long.calls _ _ l0 _ _ l1 false _ ?side1 ?side2 ?side3 ?side4 A3.out).mono ?_); (case side1 => repeat (first | exact HR0.out | (with_reducible refine Kd.C_alloc ?_ _) | (with_reducible refine Kd.C_drewN ?_ _) | (with_reducible refine Kd.C_drew ?_))); (case side2 => exact HC0.out); (case side3 => repeat (first | exact HR1.out | (with_reducible refine Kd.C_alloc ?_ _) | (with_reducible refine Kd.C_drewN ?_ _) | (with_reducible refine Kd.C_drew ?_))); (case side4 => exact HC1.out); rintro e w' ⟨rfl, ⟨nd, rfl⟩⟩; (try first | exact ⟨rfl, _, World.drewN_drewN _ _ _⟩ | exact ⟨rfl, _, Eq.trans (World.drewN_drewN _ _ _) (congrArg (World.drewN _) (Nat.add_assoc _ _ _))⟩)) | (go_at_call 22; (with_reducible refine (spec_R8Scrambler.calls k _ _ l0 t320 t323 _ ?side1 ?side2 A5.out).mono ?_); (case side1 => repeat (first | exact HR0.out | (with_reducible refine Kd.C_alloc ?_ _) | (with_reducible refine Kd.C_drewN ?_ _) | (with_reducible refine Kd.C_drew ?_))); (case side2 => exact HC0.out); rintro e w9 ⟨v321, rfl, ho0, hb⟩; have n0_ := Aside0.mk (Kd.R_lower ho0 (below_size (by repeat (first | (with_reducible first | exact HB.out | apply below_alloc | apply pw_below_drewN | apply below_drew1) | exact HB.out)))); have n1_ := Aside0.mk (below_step (by repeat (first | (with_reducible first | exact HB.out | apply below_alloc | apply pw_below_drewN | apply below_drew1) | exact HB.out)) hb); clear HB; have HO322 := n0_; have HB := n1_; clear n0_ n1_; (try clear hb); (try clear hb2); (try clear hk); (try clear hi); (try clear ho0)) | ((with_reducible refine gate_dst (N := 5) rfl ?_); (try (refine gate_guard (by rfl) ?_; dsimp only)); refine box_event ?hg (N := 5) ?hd (cs := #[.slice none 0 0, .string (⟨#[]⟩ : ByteArray)]) (t := 38) ?hr ?_; (case hd => rfl); (case hg => rfl); (case hr => first | (go_simp; done) | (go_simp; rfl)); intro gb324 hg w10 hbox hb; have n0_ := Aside0.mk (Kd.R_below (by (with_reducible repeat (first | apply Kd.R_alloc | apply Kd.R_drewN | apply Kd.R_drew)); exact HO322.out) hb); have n1_ := Aside0.mk (below_step (by repeat (first | (with_reducible first | exact HB.out | apply below_alloc | apply pw_below_drewN | apply below_drew1) | exact HB.out)) hb); have n2_ := Aside0.mk (hbox); have n3_ := Aside0.mk ((by rw [hg]; exact (below_size (by repeat (first | (with_reducible first | exact HB.out | apply below_alloc | apply pw_below_drewN | apply below_drew1) | exact HB.out))) : w.heap.size ≤ gb324)); have n4_ := Aside0.mk ((by rw [hg]; exact (below_size (by repeat (first | (with_reducible first | exact HB.out | apply below_alloc | apply pw_below_drewN | apply below_drew1) | exact HB.out))) : w.heap.size ≤ gb324)); clear HO322; clear HB; have HO322 := n0_; have HB := n1_; have BK324 := n2_; have GW324 := n3_; have GE324 := n4_; clear n0_ n1_ n2_ n3_ n4_; clear hb hbox hg; obtain ⟨Ao11, co11, eo11⟩ := Kd.R_slice HO322.out; subst eo11; have hcz12_0 : w10.cell? ⟨gb324, 0, none⟩ = some (.slice none 0 0) := (blk_cell BK324.out 0).trans rfl; have hcz12_1 : w10.cell? ⟨gb324, 1, none⟩ = some (.string (⟨#[]⟩ : ByteArray)) := (blk_cell BK324.out 1).trans rfl; have hfz12_0 := blk_frozen BK324.out 0; have hfz12_1 := blk_frozen BK324.out 1) | (go_at_call 23; (with_reducible refine (impl_KeyPeriod.calls k _ _ t320 t323 t325 t326 _ ?side1 ?side2 A6.out).mono ?_); (case side1 => refine (Kd.R_reads' (e := 2) (base := w.heap.size) (ok := fun k_ => True) (n := t320.length) (c := co11) ?_).2.2; exact (by (with_reducible repeat (first | apply Kd.R_alloc | apply Kd.R_drewN | apply Kd.R_drew)); exact (Kd.R_mono (Kd.R_far (p := ⟨gb324, 1, none⟩) (Kd.R_far (p := ⟨gb324, 0, none⟩) (Kd.R_types HO322.out BK324.out (by decide)) (fun _ hk => hk.2) (.slice Ao11 t320.length co11)) (fun _ hk => hk.2) (.string t323)) (fun _ h_ => h_.1)))); (case side2 => exact (Kd.R_reads' HO322.out).2.1); rintro e w13 ⟨rfl, hb⟩; have n0_ := Aside0.mk (Kd.R_below (by (with_reducible repeat (first | apply Kd.R_alloc | apply Kd.R_drewN | apply Kd.R_drew)); exact (Kd.R_mono (Kd.R_far (p := ⟨gb324, 1, none⟩) (Kd.R_far (p := ⟨gb324, 0, none⟩) (Kd.R_types HO322.out BK324.out (by decide)) (fun _ hk => hk.2) (.slice Ao11 t320.length co11)) (fun _ hk => hk.2) (.string t323)) (fun _ h_ => h_.1))) hb); have n1_ := Aside0.mk (blk_below (g := gb324) (o := .cells #[.slice Ao11 t320.length co11, .string t323] 38 (0, 0)) (by (with_reducible repeat (first | refine blk_drewN ?_ _ | refine blk_drew ?_ | refine blk_alloc ?_ _)); refine blk_put (cs := #[.slice Ao11 t320.length co11, .string (⟨#[]⟩ : ByteArray)]) ?_ 1 _ rfl; (with_reducible repeat (first | refine blk_drewN ?_ _ | refine blk_drew ?_ | refine blk_alloc ?_ _)); refine blk_put (cs := #[.slice none 0 0, .string (⟨#[]⟩ : ByteArray)]) ?_ 0 _ rfl; (with_reducible repeat (first | refine blk_drewN ?_ _ | refine blk_drew ?_ | refine blk_alloc ?_ _)); exact BK324.out) hb); have n2_ := Aside0.mk (below_step (by repeat (first | (with_reducible first | exact HB.out | apply below_alloc | apply pw_below_drewN | apply below_drew1 | refine below_set ?_ GE324.out) | exact HB.out)) hb); clear HO322; clear BK324; clear HB; have HO322 := n0_; have BK324 := n1_; have HB := n2_; clear n0_ n1_ n2_; (try clear hb); (try clear hb2); (try clear hk); (try clear hi); have hcz14_0 : w13.cell? ⟨gb324, 0, none⟩ = some (.slice Ao11 t320.length co11) := (blk_cell BK324.out 0).trans rfl; have hcz14_1 : w13.cell? ⟨gb324, 1, none⟩ = some (.string t323) := (blk_cell BK324.out 1).trans rfl; have hfz14_0 := blk_frozen BK324.out 0; have hfz14_1 := blk_frozen BK324.out 1) | (go_at_call 24; (with_reducible refine (impl_KeyBits.calls k _ _ t320 t323 300 t327 t328 _ ?side1 ?side2 A7.out).mono ?_); (case side1 => repeat (first | exact (Kd.R_reads' HO322.out).2.2 | (with_reducible refine Kd.C_alloc ?_ _) | (with_reducible refine Kd.C_drewN ?_ _) | (with_reducible refine Kd.C_drew ?_))); (case side2 => exact (Kd.R_reads' HO322.out).2.1); rintro e w15 ⟨rfl, hb⟩; have n0_ := Aside0.mk (Kd.R_below (by (with_reducible repeat (first | apply Kd.R_alloc | apply Kd.R_drewN | apply Kd.R_drew)); exact HO322.out) hb); have n1_ := Aside0.mk (blk_below (g := gb324) (o := .cells #[.slice Ao11 t320.length co11, .string t323] 38 (0, 0)) (by (with_reducible repeat (first | refine blk_drewN ?_ _ | refine blk_drew ?_ | refine blk_alloc ?_ _)); exact BK324.out) hb); have n2_ := Aside0.mk (below_step (by repeat (first | (with_reducible first | exact HB.out | apply below_alloc | apply pw_below_drewN | apply below_drew1 | refine below_set ?_ GE324.out) | exact HB.out)) hb); clear HO322; clear BK324; clear HB; have HO322 := n0_; have BK324 := n1_; have HB := n2_; clear n0_ n1_ n2_; (try clear hb); (try clear hb2); (try clear hk); (try clear hi)))
    repeat (go_quiet (first | (go_at_call 21; (with_reducible refine (laws_r8Long.calls _ _ l0 _ _ l1 false _ ?side1 ?side2 ?side3 ?side4 A3.out).mono ?_); (case side1 => repeat (first | exact HR0.out | (with_reducible refine Kd.C_alloc ?_ _) | (with_reducible refine Kd.C_drewN ?_ _) | (with_reducible refine Kd.C_drew ?_))); (case side2 => exact HC0.out); (case side3 => repeat (first | exact HR1.out | (with_reducible refine Kd.C_alloc ?_ _) | (with_reducible refine Kd.C_drewN ?_ _) | (with_reducible refine Kd.C_drew ?_))); (case side4 => exact HC1.out); rintro e w' ⟨rfl, ⟨nd, rfl⟩⟩; (try first | exact ⟨rfl, _, World.drewN_drewN _ _ _⟩ | exact ⟨rfl, _, Eq.trans (World.drewN_drewN _ _ _) (congrArg (World.drewN _) (Nat.add_assoc _ _ _))⟩)) | (go_at_call 22; (with_reducible refine (spec_R8Scrambler.calls k _ _ l0 t320 t323 _ ?side1 ?side2 A5.out).mono ?_); (case side1 => repeat (first | exact HR0.out | (with_reducible refine Kd.C_alloc ?_ _) | (with_reducible refine Kd.C_drewN ?_ _) | (with_reducible refine Kd.C_drew ?_))); (case side2 => exact HC0.out); rintro e w9 ⟨v321, rfl, ho0, hb⟩; have n0_ := Aside0.mk (Kd.R_lower ho0 (below_size (by repeat (first | (with_reducible first | exact HB.out | apply below_alloc | apply pw_below_drewN | apply below_drew1) | exact HB.out)))); have n1_ := Aside0.mk (below_step (by repeat (first | (with_reducible first | exact HB.out | apply below_alloc | apply pw_below_drewN | apply below_drew1) | exact HB.out)) hb); clear HB; have HO322 := n0_; have HB := n1_; clear n0_ n1_; (try clear hb); (try clear hb2); (try clear hk); (try clear hi); (try clear ho0)) | ((with_reducible refine gate_dst (N := 5) rfl ?_); (try (refine gate_guard (by rfl) ?_; dsimp only)); refine box_event ?hg (N := 5) ?hd (cs := #[.slice none 0 0, .string (⟨#[]⟩ : ByteArray)]) (t := 38) ?hr ?_; (case hd => rfl); (case hg => rfl); (case hr => first | (go_simp; done) | (go_simp; rfl)); intro gb324 hg w10 hbox hb; have n0_ := Aside0.mk (Kd.R_below (by (with_reducible repeat (first | apply Kd.R_alloc | apply Kd.R_drewN | apply Kd.R_drew)); exact HO322.out) hb); have n1_ := Aside0.mk (below_step (by repeat (first | (with_reducible first | exact HB.out | apply below_alloc | apply pw_below_drewN | apply below_drew1) | exact HB.out)) hb); have n2_ := Aside0.mk (hbox); have n3_ := Aside0.mk ((by rw [hg]; exact (below_size (by repeat (first | (with_reducible first | exact HB.out | apply below_alloc | apply pw_below_drewN | apply below_drew1) | exact HB.out))) : w.heap.size ≤ gb324)); have n4_ := Aside0.mk ((by rw [hg]; exact (below_size (by repeat (first | (with_reducible first | exact HB.out | apply below_alloc | apply pw_below_drewN | apply below_drew1) | exact HB.out))) : w.heap.size ≤ gb324)); clear HO322; clear HB; have HO322 := n0_; have HB := n1_; have BK324 := n2_; have GW324 := n3_; have GE324 := n4_; clear n0_ n1_ n2_ n3_ n4_; clear hb hbox hg; obtain ⟨Ao11, co11, eo11⟩ := Kd.R_slice HO322.out; subst eo11; have hcz12_0 : w10.cell? ⟨gb324, 0, none⟩ = some (.slice none 0 0) := (blk_cell BK324.out 0).trans rfl; have hcz12_1 : w10.cell? ⟨gb324, 1, none⟩ = some (.string (⟨#[]⟩ : ByteArray)) := (blk_cell BK324.out 1).trans rfl; have hfz12_0 := blk_frozen BK324.out 0; have hfz12_1 := blk_frozen BK324.out 1) | (go_at_call 23; (with_reducible refine (impl_KeyPeriod.calls k _ _ t320 t323 t325 t326 _ ?side1 ?side2 A6.out).mono ?_); (case side1 => refine (Kd.R_reads' (e := 2) (base := w.heap.size) (ok := fun k_ => True) (n := t320.length) (c := co11) ?_).2.2; exact (by (with_reducible repeat (first | apply Kd.R_alloc | apply Kd.R_drewN | apply Kd.R_drew)); exact (Kd.R_mono (Kd.R_far (p := ⟨gb324, 1, none⟩) (Kd.R_far (p := ⟨gb324, 0, none⟩) (Kd.R_types HO322.out BK324.out (by decide)) (fun _ hk => hk.2) (.slice Ao11 t320.length co11)) (fun _ hk => hk.2) (.string t323)) (fun _ h_ => h_.1)))); (case side2 => exact (Kd.R_reads' HO322.out).2.1); rintro e w13 ⟨rfl, hb⟩; have n0_ := Aside0.mk (Kd.R_below (by (with_reducible repeat (first | apply Kd.R_alloc | apply Kd.R_drewN | apply Kd.R_drew)); exact (Kd.R_mono (Kd.R_far (p := ⟨gb324, 1, none⟩) (Kd.R_far (p := ⟨gb324, 0, none⟩) (Kd.R_types HO322.out BK324.out (by decide)) (fun _ hk => hk.2) (.slice Ao11 t320.length co11)) (fun _ hk => hk.2) (.string t323)) (fun _ h_ => h_.1))) hb); have n1_ := Aside0.mk (blk_below (g := gb324) (o := .cells #[.slice Ao11 t320.length co11, .string t323] 38 (0, 0)) (by (with_reducible repeat (first | refine blk_drewN ?_ _ | refine blk_drew ?_ | refine blk_alloc ?_ _)); refine blk_put (cs := #[.slice Ao11 t320.length co11, .string (⟨#[]⟩ : ByteArray)]) ?_ 1 _ rfl; (with_reducible repeat (first | refine blk_drewN ?_ _ | refine blk_drew ?_ | refine blk_alloc ?_ _)); refine blk_put (cs := #[.slice none 0 0, .string (⟨#[]⟩ : ByteArray)]) ?_ 0 _ rfl; (with_reducible repeat (first | refine blk_drewN ?_ _ | refine blk_drew ?_ | refine blk_alloc ?_ _)); exact BK324.out) hb); have n2_ := Aside0.mk (below_step (by repeat (first | (with_reducible first | exact HB.out | apply below_alloc | apply pw_below_drewN | apply below_drew1 | refine below_set ?_ GE324.out) | exact HB.out)) hb); clear HO322; clear BK324; clear HB; have HO322 := n0_; have BK324 := n1_; have HB := n2_; clear n0_ n1_ n2_; (try clear hb); (try clear hb2); (try clear hk); (try clear hi); have hcz14_0 : w13.cell? ⟨gb324, 0, none⟩ = some (.slice Ao11 t320.length co11) := (blk_cell BK324.out 0).trans rfl; have hcz14_1 : w13.cell? ⟨gb324, 1, none⟩ = some (.string t323) := (blk_cell BK324.out 1).trans rfl; have hfz14_0 := blk_frozen BK324.out 0; have hfz14_1 := blk_frozen BK324.out 1) | (go_at_call 24; (with_reducible refine (impl_KeyBits.calls k _ _ t320 t323 300 t327 t328 _ ?side1 ?side2 A7.out).mono ?_); (case side1 => repeat (first | exact (Kd.R_reads' HO322.out).2.2 | (with_reducible refine Kd.C_alloc ?_ _) | (with_reducible refine Kd.C_drewN ?_ _) | (with_reducible refine Kd.C_drew ?_))); (case side2 => exact (Kd.R_reads' HO322.out).2.1); rintro e w15 ⟨rfl, hb⟩; have n0_ := Aside0.mk (Kd.R_below (by (with_reducible repeat (first | apply Kd.R_alloc | apply Kd.R_drewN | apply Kd.R_drew)); exact HO322.out) hb); have n1_ := Aside0.mk (blk_below (g := gb324) (o := .cells #[.slice Ao11 t320.length co11, .string t323] 38 (0, 0)) (by (with_reducible repeat (first | refine blk_drewN ?_ _ | refine blk_drew ?_ | refine blk_alloc ?_ _)); exact BK324.out) hb); have n2_ := Aside0.mk (below_step (by repeat (first | (with_reducible first | exact HB.out | apply below_alloc | apply pw_below_drewN | apply below_drew1 | refine below_set ?_ GE324.out) | exact HB.out)) hb); clear HO322; clear BK324; clear HB; have HO322 := n0_; have BK324 := n1_; have HB := n2_; clear n0_ n1_ n2_; (try clear hb); (try clear hb2); (try clear hk); (try clear hi))); go_upto_region 6 with (first | (go_at_call 21; (with_reducible refine (laws_r8Long.calls _ _ l0 _ _ l1 false _ ?side1 ?side2 ?side3 ?side4 A3.out).mono ?_); (case side1 => repeat (first | exact HR0.out | (with_reducible refine Kd.C_alloc ?_ _) | (with_reducible refine Kd.C_drewN ?_ _) | (with_reducible refine Kd.C_drew ?_))); (case side2 => exact HC0.out); (case side3 => repeat (first | exact HR1.out | (with_reducible refine Kd.C_alloc ?_ _) | (with_reducible refine Kd.C_drewN ?_ _) | (with_reducible refine Kd.C_drew ?_))); (case side4 => exact HC1.out); rintro e w' ⟨rfl, ⟨nd, rfl⟩⟩; (try first | exact ⟨rfl, _, World.drewN_drewN _ _ _⟩ | exact ⟨rfl, _, Eq.trans (World.drewN_drewN _ _ _) (congrArg (World.drewN _) (Nat.add_assoc _ _ _))⟩)) | (go_at_call 22; (with_reducible refine (spec_R8Scrambler.calls k _ _ l0 t320 t323 _ ?side1 ?side2 A5.out).mono ?_); (case side1 => repeat (first | exact HR0.out | (with_reducible refine Kd.C_alloc ?_ _) | (with_reducible refine Kd.C_drewN ?_ _) | (with_reducible refine Kd.C_drew ?_))); (case side2 => exact HC0.out); rintro e w9 ⟨v321, rfl, ho0, hb⟩; have n0_ := Aside0.mk (Kd.R_lower ho0 (below_size (by repeat (first | (with_reducible first | exact HB.out | apply below_alloc | apply pw_below_drewN | apply below_drew1) | exact HB.out)))); have n1_ := Aside0.mk (below_step (by repeat (first | (with_reducible first | exact HB.out | apply below_alloc | apply pw_below_drewN | apply below_drew1) | exact HB.out)) hb); clear HB; have HO322 := n0_; have HB := n1_; clear n0_ n1_; (try clear hb); (try clear hb2); (try clear hk); (try clear hi); (try clear ho0)) | ((with_reducible refine gate_dst (N := 5) rfl ?_); (try (refine gate_guard (by rfl) ?_; dsimp only)); refine box_event ?hg (N := 5) ?hd (cs := #[.slice none 0 0, .string (⟨#[]⟩ : ByteArray)]) (t := 38) ?hr ?_; (case hd => rfl); (case hg => rfl); (case hr => first | (go_simp; done) | (go_simp; rfl)); intro gb324 hg w10 hbox hb; have n0_ := Aside0.mk (Kd.R_below (by (with_reducible repeat (first | apply Kd.R_alloc | apply Kd.R_drewN | apply Kd.R_drew)); exact HO322.out) hb); have n1_ := Aside0.mk (below_step (by repeat (first | (with_reducible first | exact HB.out | apply below_alloc | apply pw_below_drewN | apply below_drew1) | exact HB.out)) hb); have n2_ := Aside0.mk (hbox); have n3_ := Aside0.mk ((by rw [hg]; exact (below_size (by repeat (first | (with_reducible first | exact HB.out | apply below_alloc | apply pw_below_drewN | apply below_drew1) | exact HB.out))) : w.heap.size ≤ gb324)); have n4_ := Aside0.mk ((by rw [hg]; exact (below_size (by repeat (first | (with_reducible first | exact HB.out | apply below_alloc | apply pw_below_drewN | apply below_drew1) | exact HB.out))) : w.heap.size ≤ gb324)); clear HO322; clear HB; have HO322 := n0_; have HB := n1_; have BK324 := n2_; have GW324 := n3_; have GE324 := n4_; clear n0_ n1_ n2_ n3_ n4_; clear hb hbox hg; obtain ⟨Ao11, co11, eo11⟩ := Kd.R_slice HO322.out; subst eo11; have hcz12_0 : w10.cell? ⟨gb324, 0, none⟩ = some (.slice none 0 0) := (blk_cell BK324.out 0).trans rfl; have hcz12_1 : w10.cell? ⟨gb324, 1, none⟩ = some (.string (⟨#[]⟩ : ByteArray)) := (blk_cell BK324.out 1).trans rfl; have hfz12_0 := blk_frozen BK324.out 0; have hfz12_1 := blk_frozen BK324.out 1) | (go_at_call 23; (with_reducible refine (impl_KeyPeriod.calls k _ _ t320 t323 t325 t326 _ ?side1 ?side2 A6.out).mono ?_); (case side1 => refine (Kd.R_reads' (e := 2) (base := w.heap.size) (ok := fun k_ => True) (n := t320.length) (c := co11) ?_).2.2; exact (by (with_reducible repeat (first | apply Kd.R_alloc | apply Kd.R_drewN | apply Kd.R_drew)); exact (Kd.R_mono (Kd.R_far (p := ⟨gb324, 1, none⟩) (Kd.R_far (p := ⟨gb324, 0, none⟩) (Kd.R_types HO322.out BK324.out (by decide)) (fun _ hk => hk.2) (.slice Ao11 t320.length co11)) (fun _ hk => hk.2) (.string t323)) (fun _ h_ => h_.1)))); (case side2 => exact (Kd.R_reads' HO322.out).2.1); rintro e w13 ⟨rfl, hb⟩; have n0_ := Aside0.mk (Kd.R_below (by (with_reducible repeat (first | apply Kd.R_alloc | apply Kd.R_drewN | apply Kd.R_drew)); exact (Kd.R_mono (Kd.R_far (p := ⟨gb324, 1, none⟩) (Kd.R_far (p := ⟨gb324, 0, none⟩) (Kd.R_types HO322.out BK324.out (by decide)) (fun _ hk => hk.2) (.slice Ao11 t320.length co11)) (fun _ hk => hk.2) (.string t323)) (fun _ h_ => h_.1))) hb); have n1_ := Aside0.mk (blk_below (g := gb324) (o := .cells #[.slice Ao11 t320.length co11, .string t323] 38 (0, 0)) (by (with_reducible repeat (first | refine blk_drewN ?_ _ | refine blk_drew ?_ | refine blk_alloc ?_ _)); refine blk_put (cs := #[.slice Ao11 t320.length co11, .string (⟨#[]⟩ : ByteArray)]) ?_ 1 _ rfl; (with_reducible repeat (first | refine blk_drewN ?_ _ | refine blk_drew ?_ | refine blk_alloc ?_ _)); refine blk_put (cs := #[.slice none 0 0, .string (⟨#[]⟩ : ByteArray)]) ?_ 0 _ rfl; (with_reducible repeat (first | refine blk_drewN ?_ _ | refine blk_drew ?_ | refine blk_alloc ?_ _)); exact BK324.out) hb); have n2_ := Aside0.mk (below_step (by repeat (first | (with_reducible first | exact HB.out | apply below_alloc | apply pw_below_drewN | apply below_drew1 | refine below_set ?_ GE324.out) | exact HB.out)) hb); clear HO322; clear BK324; clear HB; have HO322 := n0_; have BK324 := n1_; have HB := n2_; clear n0_ n1_ n2_; (try clear hb); (try clear hb2); (try clear hk); (try clear hi); have hcz14_0 : w13.cell? ⟨gb324, 0, none⟩ = some (.slice Ao11 t320.length co11) := (blk_cell BK324.out 0).trans rfl; have hcz14_1 : w13.cell? ⟨gb324, 1, none⟩ = some (.string t323) := (blk_cell BK324.out 1).trans rfl; have hfz14_0 := blk_frozen BK324.out 0; have hfz14_1 := blk_frozen BK324.out 1) | (go_at_call 24; (with_reducible refine (impl_KeyBits.calls k _ _ t320 t323 300 t327 t328 _ ?side1 ?side2 A7.out).mono ?_); (case side1 => repeat (first | exact (Kd.R_reads' HO322.out).2.2 | (with_reducible refine Kd.C_alloc ?_ _) | (with_reducible refine Kd.C_drewN ?_ _) | (with_reducible refine Kd.C_drew ?_))); (case side2 => exact (Kd.R_reads' HO322.out).2.1); rintro e w15 ⟨rfl, hb⟩; have n0_ := Aside0.mk (Kd.R_below (by (with_reducible repeat (first | apply Kd.R_alloc | apply Kd.R_drewN | apply Kd.R_drew)); exact HO322.out) hb); have n1_ := Aside0.mk (blk_below (g := gb324) (o := .cells #[.slice Ao11 t320.length co11, .string t323] 38 (0, 0)) (by (with_reducible repeat (first | refine blk_drewN ?_ _ | refine blk_drew ?_ | refine blk_alloc ?_ _)); exact BK324.out) hb); have n2_ := Aside0.mk (below_step (by repeat (first | (with_reducible first | exact HB.out | apply below_alloc | apply pw_below_drewN | apply below_drew1 | refine below_set ?_ GE324.out) | exact HB.out)) hb); clear HO322; clear BK324; clear HB; have HO322 := n0_; have BK324 := n1_; have HB := n2_; clear n0_ n1_ n2_; (try clear hb); (try clear hb2); (try clear hk); (try clear hi))))
    (try simp only [Act.put, List.setIfInBounds_toArray, List.set_cons_zero, List.set_cons_succ])
    go_cut [57] (fun v57 wc => ∃ (kq : Nat) (x57_7 : Bool), v57 = .bool x57_7 ∧ Aside0 (laws_FnKeys.j0 kq l1 t325 t327 x57_7 t320 t323 = some r) ∧ Aside0 (kq ≤ k) ∧ Aside0 (Kd.R (Kd.int .i64) 2 wc w.heap.size (fun _ => True) (.slice Ao11 t320.length co11) t320) ∧ Aside0 (wc.heap[gb324]? = some (.cells #[(.slice Ao11 t320.length co11), .string t323] 38 (0, 0))) ∧ Aside0 (Below w.heap.size w wc))
    case first =>
      have H := HC8.out
      clear HC8
      by_cases c16 : t326 = true
      · subst c16
        have H1 : (if t328 = true then (if t325 < 1 then (laws_FnKeys.j0 k l1 t325 t327 true t320 t323) else (if t325 > 127 then (laws_FnKeys.j0 k l1 t325 t327 true t320 t323) else (laws_FnKeys.j0 k l1 t325 t327 ((t327.size : Int) != 300) t320 t323))) else (laws_FnKeys.j0 k l1 t325 t327 true t320 t323)) = some r := by rw [if_pos rfl] at H; exact H
        clear H
        have H := H1
        clear H1
        by_cases c17 : t328 = true
        · subst c17
          have H1 : (if t325 < 1 then (laws_FnKeys.j0 k l1 t325 t327 true t320 t323) else (if t325 > 127 then (laws_FnKeys.j0 k l1 t325 t327 true t320 t323) else (laws_FnKeys.j0 k l1 t325 t327 ((t327.size : Int) != 300) t320 t323))) = some r := by rw [if_pos rfl] at H; exact H
          clear H
          have H := H1
          clear H1
          by_cases c18 : t325 < 1
          · rw [if_pos c18] at H
            have c18b0 : decide (t325 < 1) = true := decide_eq_true c18
            clear c18
            (first | rw [c18b0] | (simp only [i64_w, i32_w]; rw [c18b0]) | skip)
            have H' := Aside0.mk H
            clear H
            go_wp2
            repeat (go_quiet (fail); try go_wp2)
            go_meet
            case rel => exact ⟨_, (true), (by first | rfl | (simp; done) | (simp [*]; done)), H', ⟨by first | omega | exact Nat.le_refl _⟩, ⟨by (with_reducible repeat (first | apply Kd.R_alloc | apply Kd.R_drewN | apply Kd.R_drew)); exact HO322.out⟩, ⟨by (with_reducible repeat (first | refine blk_drewN ?_ _ | refine blk_drew ?_ | refine blk_alloc ?_ _)); exact BK324.out⟩, ⟨by repeat (first | (with_reducible first | exact HB.out | apply below_alloc | apply pw_below_drewN | apply below_drew1 | refine below_set ?_ GE324.out) | exact HB.out)⟩⟩
          · rw [if_neg c18] at H
            have c18b0 : decide (t325 < 1) = false := decide_eq_false c18
            clear c18
            (first | rw [c18b0] | (simp only [i64_w, i32_w]; rw [c18b0]) | skip)
            by_cases c19 : t325 > 127
            · rw [if_pos c19] at H
              have c19b0 : decide (127 < t325) = true := decide_eq_true c19
              clear c19
              have H' := Aside0.mk H
              clear H
              go_wp2
              repeat (go_quiet (fail); try go_wp2)
              go_meet
              case rel => exact ⟨_, (true), (by first | rfl | (simp; done) | (simp [*]; done)), H', ⟨by first | omega | exact Nat.le_refl _⟩, ⟨by (with_reducible repeat (first | apply Kd.R_alloc | apply Kd.R_drewN | apply Kd.R_drew)); exact HO322.out⟩, ⟨by (with_reducible repeat (first | refine blk_drewN ?_ _ | refine blk_drew ?_ | refine blk_alloc ?_ _)); exact BK324.out⟩, ⟨by repeat (first | (with_reducible first | exact HB.out | apply below_alloc | apply pw_below_drewN | apply below_drew1 | refine below_set ?_ GE324.out) | exact HB.out)⟩⟩
            · rw [if_neg c19] at H
              have c19b0 : decide (127 < t325) = false := decide_eq_false c19
              clear c19
              have H' := Aside0.mk H
              clear H
              go_wp2
              repeat (go_quiet (fail); try go_wp2)
              go_meet
              case rel => exact ⟨_, (((t327.size : Int) != 300)), (by first | rfl | (simp; done) | (simp [*]; done)), H', ⟨by first | omega | exact Nat.le_refl _⟩, ⟨by (with_reducible repeat (first | apply Kd.R_alloc | apply Kd.R_drewN | apply Kd.R_drew)); exact HO322.out⟩, ⟨by (with_reducible repeat (first | refine blk_drewN ?_ _ | refine blk_drew ?_ | refine blk_alloc ?_ _)); exact BK324.out⟩, ⟨by repeat (first | (with_reducible first | exact HB.out | apply below_alloc | apply pw_below_drewN | apply below_drew1 | refine below_set ?_ GE324.out) | exact HB.out)⟩⟩
        · replace c17 := Bool.eq_false_iff.mpr c17
          subst c17
          have H1 : (laws_FnKeys.j0 k l1 t325 t327 true t320 t323) = some r := by rw [if_neg (show ¬ (false = true) by decide)] at H; exact H
          clear H
          have H := H1
          clear H1
          have H' := Aside0.mk H
          clear H
          go_wp2
          repeat (go_quiet (fail); try go_wp2)
          go_meet
          case rel => exact ⟨_, (true), (by first | rfl | (simp; done) | (simp [*]; done)), H', ⟨by first | omega | exact Nat.le_refl _⟩, ⟨by (with_reducible repeat (first | apply Kd.R_alloc | apply Kd.R_drewN | apply Kd.R_drew)); exact HO322.out⟩, ⟨by (with_reducible repeat (first | refine blk_drewN ?_ _ | refine blk_drew ?_ | refine blk_alloc ?_ _)); exact BK324.out⟩, ⟨by repeat (first | (with_reducible first | exact HB.out | apply below_alloc | apply pw_below_drewN | apply below_drew1 | refine below_set ?_ GE324.out) | exact HB.out)⟩⟩
      · replace c16 := Bool.eq_false_iff.mpr c16
        subst c16
        have H1 : (laws_FnKeys.j0 k l1 t325 t327 true t320 t323) = some r := by rw [if_neg (show ¬ (false = true) by decide)] at H; exact H
        clear H
        have H := H1
        clear H1
        have H' := Aside0.mk H
        clear H
        go_wp2
        repeat (go_quiet (fail); try go_wp2)
        go_meet
        case rel => exact ⟨_, (true), (by first | rfl | (simp; done) | (simp [*]; done)), H', ⟨by first | omega | exact Nat.le_refl _⟩, ⟨by (with_reducible repeat (first | apply Kd.R_alloc | apply Kd.R_drewN | apply Kd.R_drew)); exact HO322.out⟩, ⟨by (with_reducible repeat (first | refine blk_drewN ?_ _ | refine blk_drew ?_ | refine blk_alloc ?_ _)); exact BK324.out⟩, ⟨by repeat (first | (with_reducible first | exact HB.out | apply below_alloc | apply pw_below_drewN | apply below_drew1 | refine below_set ?_ GE324.out) | exact HB.out)⟩⟩
    case rest =>
      clear HC8
      try clear c1
      try clear p2
      try clear c4
      try clear c16
      try clear c17
      try clear c18
      try clear c18b0
      try clear c19
      try clear c19b0
      try clear hcz12_0
      try clear hcz12_1
      try clear hcz14_0
      try clear hcz14_1
      try clear hfz12_0
      try clear hfz12_1
      try clear hfz14_0
      try clear hfz14_1
      obtain ⟨kq, x57_7, rfl, HA, HJ7, HO_325000, BK324, HB⟩ := hcut
      cases kq with
      | zero => exact absurd HA.out (by simp [laws_FnKeys.j0])
      | succ kj7 =>
        have H := HA.out
        clear HA
        simp only [laws_FnKeys.j0] at H
        by_cases c20 : x57_7 = true
        · subst c20
          have H1 : (some false) = some r := by rw [if_pos rfl] at H; exact H
          clear H
          have H := H1
          clear H1
          exact absurd ((Option.some.inj H).trans hr_) Bool.false_ne_true
        · replace c20 := Bool.eq_false_iff.mpr c20
          subst c20
          have H1 : ((laws_r8At.f l1 0 t325).bind fun t329 => (laws_FnKeys.l0 kj7 l1 t325 t327 (wrap64 (1 + t329)) true 0 t320 t323)) = some r := by rw [if_neg (show ¬ (false = true) by decide)] at H; exact H
          clear H
          have H := H1
          clear H1
          replace H := Option.bind_eq_some_iff.mp H
          obtain ⟨t329, A210, H⟩ := H
          replace H : (laws_FnKeys.l0 kj7 l1 t325 t327 (wrap64 (1 + t329)) true 0 t320 t323) = some r := H
          have A21 := Aside0.mk A210
          clear A210
          have H' := Aside0.mk H
          clear H
          go_wp2_with (first | (go_at_call 25; (with_reducible refine (laws_r8At.calls _ _ l1 0 t325 t329 _ ?side1 ?side2 A21.out).mono ?_); (case side1 => repeat (first | exact (Kd.C_below HR1.out HB.out) | (with_reducible refine Kd.C_alloc ?_ _) | (with_reducible refine Kd.C_drewN ?_ _) | (with_reducible refine Kd.C_drew ?_))); (case side2 => exact HC1.out); rintro e w' ⟨rfl, ⟨nd, rfl⟩⟩; (try first | exact ⟨rfl, _, World.drewN_drewN _ _ _⟩ | exact ⟨rfl, _, Eq.trans (World.drewN_drewN _ _ _) (congrArg (World.drewN _) (Nat.add_assoc _ _ _))⟩)))
          repeat (go_quiet (first | (go_at_call 25; (with_reducible refine (laws_r8At.calls _ _ l1 0 t325 t329 _ ?side1 ?side2 A21.out).mono ?_); (case side1 => repeat (first | exact (Kd.C_below HR1.out HB.out) | (with_reducible refine Kd.C_alloc ?_ _) | (with_reducible refine Kd.C_drewN ?_ _) | (with_reducible refine Kd.C_drew ?_))); (case side2 => exact HC1.out); rintro e w' ⟨rfl, ⟨nd, rfl⟩⟩; (try first | exact ⟨rfl, _, World.drewN_drewN _ _ _⟩ | exact ⟨rfl, _, Eq.trans (World.drewN_drewN _ _ _) (congrArg (World.drewN _) (Nat.add_assoc _ _ _))⟩))); try go_wp2_with (first | (go_at_call 25; (with_reducible refine (laws_r8At.calls _ _ l1 0 t325 t329 _ ?side1 ?side2 A21.out).mono ?_); (case side1 => repeat (first | exact (Kd.C_below HR1.out HB.out) | (with_reducible refine Kd.C_alloc ?_ _) | (with_reducible refine Kd.C_drewN ?_ _) | (with_reducible refine Kd.C_drew ?_))); (case side2 => exact HC1.out); rintro e w' ⟨rfl, ⟨nd, rfl⟩⟩; (try first | exact ⟨rfl, _, World.drewN_drewN _ _ _⟩ | exact ⟨rfl, _, Eq.trans (World.drewN_drewN _ _ _) (congrArg (World.drewN _) (Nat.add_assoc _ _ _))⟩))))
          go_loopg [11, 12] kj7 (fun kq v11 v12 w' => ∃ (x11_2 : Bool) (x12_2 : Int), v11 = .bool x11_2 ∧ v12 = .int .i64 x12_2 ∧ Aside0 (laws_FnKeys.l0 kq l1 t325 t327 (wrap64 (1 + t329)) x11_2 x12_2 t320 t323 = some r) ∧ Aside0 (kq ≤ kj7) ∧ Aside0 (Kd.R (Kd.int .i64) 2 w' w.heap.size (fun _ => True) (.slice Ao11 t320.length co11) t320) ∧ Aside0 (w'.heap[gb324]? = some (.cells #[(.slice Ao11 t320.length co11), .string t323] 38 (0, 0))) ∧ Aside0 (Below w.heap.size w w'))
          case atStart => exact ⟨(true), (0), (by first | rfl | (simp; done) | (simp [*]; done)), (by first | rfl | (simp; done) | (simp [*]; done)), H', ⟨Nat.le_refl _⟩, ⟨by (with_reducible repeat (first | apply Kd.R_alloc | apply Kd.R_drewN | apply Kd.R_drew)); exact HO_325000.out⟩, ⟨by (with_reducible repeat (first | refine blk_drewN ?_ _ | refine blk_drew ?_ | refine blk_alloc ?_ _)); exact BK324.out⟩, ⟨by repeat (first | (with_reducible first | exact HB.out | apply below_alloc | apply pw_below_drewN | apply below_drew1 | refine below_set ?_ GE324.out) | exact HB.out)⟩⟩
          case round =>
            clear H'
            try clear c1
            try clear c2
            try clear p2
            try clear c4
            try clear p6
            try clear c16
            try clear c17
            try clear c18
            try clear c18b0
            try clear c19
            try clear c19b0
            try clear c20
            try clear hcz12_0
            try clear hcz12_1
            try clear hcz14_0
            try clear hcz14_1
            try clear hfz12_0
            try clear hfz12_1
            try clear hfz14_0
            try clear hfz14_1
            try clear p2
            obtain ⟨x11_2, x12_2, rfl, rfl, HA, HK2, HO_325000, BK324, HB⟩ := hrel
            cases gk with
            | zero => exact absurd HA.out (by simp [laws_FnKeys.l0])
            | succ k2 =>
              have H := HA.out
              clear HA
              simp only [laws_FnKeys.l0] at H
              by_cases c22 : (wrap64 (x12_2 + t325)) < 300
              · rw [if_pos c22] at H
                have c22b0 : decide ((wrap64 (x12_2 + t325)) < 300) = true := decide_eq_true c22
                clear c22
                by_cases c23 : 0 ≤ x12_2
                · rw [if_pos c23] at H
                  have c23b0 : decide (0 ≤ x12_2) = true := decide_eq_true c23
                  clear c23
                  by_cases c24 : x12_2 < (t327.size : Int)
                  · rw [if_pos c24] at H
                    have c24b0 : decide (x12_2 < (t327.size : Int)) = true := decide_eq_true c24
                    clear c24
                    obtain ⟨ji26, hji26⟩ : ∃ j_ : Int, (wrap64 (x12_2 + t325)) = j_ := ⟨_, rfl⟩
                    replace H : (if 0 ≤ (ji26) then (if (ji26) < (t327.size : Int) then (if (bt t327 x12_2) = (bt t327 (ji26)) then (if x11_2 = true then (if 0 ≤ (wrap64 (x12_2 + (wrap64 (1 + t329)))) then (if (wrap64 (x12_2 + (wrap64 (1 + t329)))) < (t327.size : Int) then (laws_FnKeys.l0 k2 l1 t325 t327 (wrap64 (1 + t329)) ((bt t327 x12_2) == (bt t327 (wrap64 (x12_2 + (wrap64 (1 + t329)))))) (wrap64 (x12_2 + 1)) t320 t323) else (none)) else (none)) else (laws_FnKeys.l0 k2 l1 t325 t327 (wrap64 (1 + t329)) false (wrap64 (x12_2 + 1)) t320 t323)) else (some false)) else (none)) else (none)) = some r := by first | (rw [hji26] at H; exact H) | (simp only [hji26] at H ⊢; exact H)
                    (try rw [hji26] at c22b0)
                    have hji26w : (IntKind.i64.wrap (x12_2 + t325)) = ji26 := (i64_w _).trans hji26
                    by_cases c27 : 0 ≤ (ji26)
                    · rw [if_pos c27] at H
                      have c27b0 : decide (0 ≤ (ji26)) = true := decide_eq_true c27
                      clear c27
                      by_cases c28 : (ji26) < (t327.size : Int)
                      · rw [if_pos c28] at H
                        have c28b0 : decide ((ji26) < (t327.size : Int)) = true := decide_eq_true c28
                        clear c28
                        by_cases c30 : (bt t327 x12_2) = (bt t327 (ji26))
                        · rw [if_pos c30] at H
                          have c30b0 : ((bt t327 x12_2) == (bt t327 (ji26))) = true := beq_iff_eq.mpr c30
                          have c30b1 : ((bt t327 x12_2) != (bt t327 (ji26))) = false := bne_eq_false_iff_eq.mpr c30
                          clear c30
                          by_cases c31 : x11_2 = true
                          · subst c31
                            have H1 : (if 0 ≤ (wrap64 (x12_2 + (wrap64 (1 + t329)))) then (if (wrap64 (x12_2 + (wrap64 (1 + t329)))) < (t327.size : Int) then (laws_FnKeys.l0 k2 l1 t325 t327 (wrap64 (1 + t329)) ((bt t327 x12_2) == (bt t327 (wrap64 (x12_2 + (wrap64 (1 + t329)))))) (wrap64 (x12_2 + 1)) t320 t323) else (none)) else (none)) = some r := by rw [if_pos rfl] at H; exact H
                            clear H
                            have H := H1
                            clear H1
                            obtain ⟨ji33, hji33⟩ : ∃ j_ : Int, (wrap64 (x12_2 + (wrap64 (1 + t329)))) = j_ := ⟨_, rfl⟩
                            replace H : (if 0 ≤ (ji33) then (if (ji33) < (t327.size : Int) then (laws_FnKeys.l0 k2 l1 t325 t327 (wrap64 (1 + t329)) ((bt t327 x12_2) == (bt t327 (ji33))) (wrap64 (x12_2 + 1)) t320 t323) else (none)) else (none)) = some r := by first | (rw [hji33] at H; exact H) | (simp only [hji33] at H ⊢; exact H)
                            have hji33w : (IntKind.i64.wrap (x12_2 + (wrap64 (1 + t329)))) = ji33 := (i64_w _).trans hji33
                            by_cases c34 : 0 ≤ (ji33)
                            · rw [if_pos c34] at H
                              have c34b0 : decide (0 ≤ (ji33)) = true := decide_eq_true c34
                              clear c34
                              by_cases c35 : (ji33) < (t327.size : Int)
                              · rw [if_pos c35] at H
                                have c35b0 : decide ((ji33) < (t327.size : Int)) = true := decide_eq_true c35
                                clear c35
                                have H' := Aside0.mk H
                                clear H
                                have p25 : 0 ≤ (x12_2 : Int) := of_decide_eq_true (by first | (with_reducible assumption) | assumption)
                                have q25 : x12_2 < (t327.size : Int) := of_decide_eq_true (by first | (with_reducible assumption) | assumption)
                                have hx25 := bt_at t327 x12_2
                                replace p25 := eq_true p25
                                replace q25 := eq_true q25
                                have p29 : 0 ≤ ((ji26) : Int) := of_decide_eq_true (by first | (with_reducible assumption) | assumption)
                                have q29 : (ji26) < (t327.size : Int) := of_decide_eq_true (by first | (with_reducible assumption) | assumption)
                                have hx29 := bt_at t327 (ji26)
                                replace p29 := eq_true p29
                                replace q29 := eq_true q29
                                have p32 : 0 ≤ (x12_2 : Int) := of_decide_eq_true (by first | (with_reducible assumption) | assumption)
                                have q32 : x12_2 < (t327.size : Int) := of_decide_eq_true (by first | (with_reducible assumption) | assumption)
                                have hx32 := bt_at t327 x12_2
                                replace p32 := eq_true p32
                                replace q32 := eq_true q32
                                have p36 : 0 ≤ ((ji33) : Int) := of_decide_eq_true (by first | (with_reducible assumption) | assumption)
                                have q36 : (ji33) < (t327.size : Int) := of_decide_eq_true (by first | (with_reducible assumption) | assumption)
                                have hx36 := bt_at t327 (ji33)
                                replace p36 := eq_true p36
                                replace q36 := eq_true q36
                                go_wp2
                                repeat (go_quiet (fail); try go_wp2)
                                go_roundg k2
                                case measure => have := HJ7.out; have := HK2.out; omega
                                case rel => exact ⟨(((bt t327 x12_2) == (bt t327 (ji33)))), (wrap64 (x12_2 + 1)), (by first | rfl | (simp; done) | (simp only [← hji33] <;> (first | rfl | simp)) | (simp [*]; done)), (by first | rfl | (simp; done) | (simp [*]; done)), H', ⟨by have := HJ7.out; have := HK2.out; omega⟩, ⟨by (with_reducible repeat (first | apply Kd.R_alloc | apply Kd.R_drewN | apply Kd.R_drew)); exact HO_325000.out⟩, ⟨by (with_reducible repeat (first | refine blk_drewN ?_ _ | refine blk_drew ?_ | refine blk_alloc ?_ _)); exact BK324.out⟩, ⟨by repeat (first | (with_reducible first | exact HB.out | apply below_alloc | apply pw_below_drewN | apply below_drew1 | refine below_set ?_ GE324.out) | exact HB.out)⟩⟩
                              · rw [if_neg c35] at H
                                exact absurd H (by simp)
                            · rw [if_neg c34] at H
                              exact absurd H (by simp)
                          · replace c31 := Bool.eq_false_iff.mpr c31
                            subst c31
                            have H1 : (laws_FnKeys.l0 k2 l1 t325 t327 (wrap64 (1 + t329)) false (wrap64 (x12_2 + 1)) t320 t323) = some r := by rw [if_neg (show ¬ (false = true) by decide)] at H; exact H
                            clear H
                            have H := H1
                            clear H1
                            have H' := Aside0.mk H
                            clear H
                            have p25 : 0 ≤ (x12_2 : Int) := of_decide_eq_true (by first | (with_reducible assumption) | assumption)
                            have q25 : x12_2 < (t327.size : Int) := of_decide_eq_true (by first | (with_reducible assumption) | assumption)
                            have hx25 := bt_at t327 x12_2
                            replace p25 := eq_true p25
                            replace q25 := eq_true q25
                            have p29 : 0 ≤ ((ji26) : Int) := of_decide_eq_true (by first | (with_reducible assumption) | assumption)
                            have q29 : (ji26) < (t327.size : Int) := of_decide_eq_true (by first | (with_reducible assumption) | assumption)
                            have hx29 := bt_at t327 (ji26)
                            replace p29 := eq_true p29
                            replace q29 := eq_true q29
                            go_wp2
                            repeat (go_quiet (fail); try go_wp2)
                            go_roundg k2
                            case measure => have := HJ7.out; have := HK2.out; omega
                            case rel => exact ⟨(false), (wrap64 (x12_2 + 1)), (by first | rfl | (simp; done) | (simp [*]; done)), (by first | rfl | (simp; done) | (simp [*]; done)), H', ⟨by have := HJ7.out; have := HK2.out; omega⟩, ⟨by (with_reducible repeat (first | apply Kd.R_alloc | apply Kd.R_drewN | apply Kd.R_drew)); exact HO_325000.out⟩, ⟨by (with_reducible repeat (first | refine blk_drewN ?_ _ | refine blk_drew ?_ | refine blk_alloc ?_ _)); exact BK324.out⟩, ⟨by repeat (first | (with_reducible first | exact HB.out | apply below_alloc | apply pw_below_drewN | apply below_drew1 | refine below_set ?_ GE324.out) | exact HB.out)⟩⟩
                        · rw [if_neg c30] at H
                          have c30b0 : ((bt t327 x12_2) == (bt t327 (ji26))) = false := beq_eq_false_iff_ne.mpr c30
                          have c30b1 : ((bt t327 x12_2) != (bt t327 (ji26))) = true := bne_iff_ne.mpr c30
                          exact absurd ((Option.some.inj H).trans hr_) Bool.false_ne_true
                      · rw [if_neg c28] at H
                        exact absurd H (by simp)
                    · rw [if_neg c27] at H
                      exact absurd H (by simp)
                  · rw [if_neg c24] at H
                    exact absurd H (by simp)
                · rw [if_neg c23] at H
                  exact absurd H (by simp)
              · rw [if_neg c22] at H
                have c22b0 : decide ((wrap64 (x12_2 + t325)) < 300) = false := decide_eq_false c22
                clear c22
                replace H := Option.bind_eq_some_iff.mp H
                obtain ⟨t330, A370, H⟩ := H
                replace H : (if t330.size + 7 ≤ 9223372036854775807 then ((impl_AddScramble.f k2 t320 t323 (t330 ++ (⟨#[49, 48, 49, 48, 49, 48, 49]⟩ : ByteArray))).bind fun bt331 => ((impl_FindKey.f k2 t320 bt331.1 (t330 ++ (⟨#[49, 48, 49, 48, 49, 48, 49]⟩ : ByteArray))).bind fun bt333 => ((impl_WorstBits.f k2 t320 t323 20).bind fun bt335 => ((impl_SelfScramble.f k2 t320 t323 bt335.1).bind fun bt337 => ((impl_LongestSame.f k2 bt337.1).bind fun bt339 => (if (wrap64 (1 + t329)) = t325 then (if bt331.2 = true then (if bt333.2 = true then (if bt333.1.toList = t323.toList then (if bt335.2 = true then (if bt337.2 = true then (if bt337.1.toList = ([48, 48, 48, 48, 48, 48, 48, 48, 48, 48, 48, 48, 48, 48, 48, 48, 48, 48, 48, 48] : List UInt8) then (if bt339.2 = true then (some (bt339.1 == 20)) else (some false)) else (some false)) else (some false)) else (some false)) else (some false)) else (some false)) else (some false)) else (if x11_2 = true then (some false) else (if bt331.2 = true then (if bt333.2 = true then (if bt333.1.toList = t323.toList then (if bt335.2 = true then (if bt337.2 = true then (if bt337.1.toList = ([48, 48, 48, 48, 48, 48, 48, 48, 48, 48, 48, 48, 48, 48, 48, 48, 48, 48, 48, 48] : List UInt8) then (if bt339.2 = true then (some (bt339.1 == 20)) else (some false)) else (some false)) else (some false)) else (some false)) else (some false)) else (some false)) else (some false))))))))) else (none)) = some r := H
                have A37 := Aside0.mk A370
                clear A370
                by_cases c38 : t330.size + 7 ≤ 9223372036854775807
                · rw [if_pos c38] at H
                  have c38b0 := eq_true c38
                  have c38b1 : decide (t330.size + 7 ≤ 9223372036854775807) = true := decide_eq_true c38
                  try have c38b2 : (9223372036854775807 < t330.size + 7) = False := eq_false (Nat.not_lt.2 c38)
                  replace H := Option.bind_eq_some_iff.mp H
                  obtain ⟨⟨t331, t332⟩, A390, H⟩ := H
                  replace H : ((impl_FindKey.f k2 t320 t331 (t330 ++ (⟨#[49, 48, 49, 48, 49, 48, 49]⟩ : ByteArray))).bind fun bt333 => ((impl_WorstBits.f k2 t320 t323 20).bind fun bt335 => ((impl_SelfScramble.f k2 t320 t323 bt335.1).bind fun bt337 => ((impl_LongestSame.f k2 bt337.1).bind fun bt339 => (if (wrap64 (1 + t329)) = t325 then (if t332 = true then (if bt333.2 = true then (if bt333.1.toList = t323.toList then (if bt335.2 = true then (if bt337.2 = true then (if bt337.1.toList = ([48, 48, 48, 48, 48, 48, 48, 48, 48, 48, 48, 48, 48, 48, 48, 48, 48, 48, 48, 48] : List UInt8) then (if bt339.2 = true then (some (bt339.1 == 20)) else (some false)) else (some false)) else (some false)) else (some false)) else (some false)) else (some false)) else (some false)) else (if x11_2 = true then (some false) else (if t332 = true then (if bt333.2 = true then (if bt333.1.toList = t323.toList then (if bt335.2 = true then (if bt337.2 = true then (if bt337.1.toList = ([48, 48, 48, 48, 48, 48, 48, 48, 48, 48, 48, 48, 48, 48, 48, 48, 48, 48, 48, 48] : List UInt8) then (if bt339.2 = true then (some (bt339.1 == 20)) else (some false)) else (some false)) else (some false)) else (some false)) else (some false)) else (some false)) else (some false)))))))) = some r := H
                  have A39 := Aside0.mk A390
                  clear A390
                  replace H := Option.bind_eq_some_iff.mp H
                  obtain ⟨⟨t333, t334⟩, A400, H⟩ := H
                  replace H : ((impl_WorstBits.f k2 t320 t323 20).bind fun bt335 => ((impl_SelfScramble.f k2 t320 t323 bt335.1).bind fun bt337 => ((impl_LongestSame.f k2 bt337.1).bind fun bt339 => (if (wrap64 (1 + t329)) = t325 then (if t332 = true then (if t334 = true then (if t333.toList = t323.toList then (if bt335.2 = true then (if bt337.2 = true then (if bt337.1.toList = ([48, 48, 48, 48, 48, 48, 48, 48, 48, 48, 48, 48, 48, 48, 48, 48, 48, 48, 48, 48] : List UInt8) then (if bt339.2 = true then (some (bt339.1 == 20)) else (some false)) else (some false)) else (some false)) else (some false)) else (some false)) else (some false)) else (some false)) else (if x11_2 = true then (some false) else (if t332 = true then (if t334 = true then (if t333.toList = t323.toList then (if bt335.2 = true then (if bt337.2 = true then (if bt337.1.toList = ([48, 48, 48, 48, 48, 48, 48, 48, 48, 48, 48, 48, 48, 48, 48, 48, 48, 48, 48, 48] : List UInt8) then (if bt339.2 = true then (some (bt339.1 == 20)) else (some false)) else (some false)) else (some false)) else (some false)) else (some false)) else (some false)) else (some false))))))) = some r := H
                  have A40 := Aside0.mk A400
                  clear A400
                  replace H := Option.bind_eq_some_iff.mp H
                  obtain ⟨⟨t335, t336⟩, A410, H⟩ := H
                  replace H : ((impl_SelfScramble.f k2 t320 t323 t335).bind fun bt337 => ((impl_LongestSame.f k2 bt337.1).bind fun bt339 => (if (wrap64 (1 + t329)) = t325 then (if t332 = true then (if t334 = true then (if t333.toList = t323.toList then (if t336 = true then (if bt337.2 = true then (if bt337.1.toList = ([48, 48, 48, 48, 48, 48, 48, 48, 48, 48, 48, 48, 48, 48, 48, 48, 48, 48, 48, 48] : List UInt8) then (if bt339.2 = true then (some (bt339.1 == 20)) else (some false)) else (some false)) else (some false)) else (some false)) else (some false)) else (some false)) else (some false)) else (if x11_2 = true then (some false) else (if t332 = true then (if t334 = true then (if t333.toList = t323.toList then (if t336 = true then (if bt337.2 = true then (if bt337.1.toList = ([48, 48, 48, 48, 48, 48, 48, 48, 48, 48, 48, 48, 48, 48, 48, 48, 48, 48, 48, 48] : List UInt8) then (if bt339.2 = true then (some (bt339.1 == 20)) else (some false)) else (some false)) else (some false)) else (some false)) else (some false)) else (some false)) else (some false)))))) = some r := H
                  have A41 := Aside0.mk A410
                  clear A410
                  replace H := Option.bind_eq_some_iff.mp H
                  obtain ⟨⟨t337, t338⟩, A420, H⟩ := H
                  replace H : ((impl_LongestSame.f k2 t337).bind fun bt339 => (if (wrap64 (1 + t329)) = t325 then (if t332 = true then (if t334 = true then (if t333.toList = t323.toList then (if t336 = true then (if t338 = true then (if t337.toList = ([48, 48, 48, 48, 48, 48, 48, 48, 48, 48, 48, 48, 48, 48, 48, 48, 48, 48, 48, 48] : List UInt8) then (if bt339.2 = true then (some (bt339.1 == 20)) else (some false)) else (some false)) else (some false)) else (some false)) else (some false)) else (some false)) else (some false)) else (if x11_2 = true then (some false) else (if t332 = true then (if t334 = true then (if t333.toList = t323.toList then (if t336 = true then (if t338 = true then (if t337.toList = ([48, 48, 48, 48, 48, 48, 48, 48, 48, 48, 48, 48, 48, 48, 48, 48, 48, 48, 48, 48] : List UInt8) then (if bt339.2 = true then (some (bt339.1 == 20)) else (some false)) else (some false)) else (some false)) else (some false)) else (some false)) else (some false)) else (some false))))) = some r := H
                  have A42 := Aside0.mk A420
                  clear A420
                  replace H := Option.bind_eq_some_iff.mp H
                  obtain ⟨⟨t339, t340⟩, A430, H⟩ := H
                  replace H : (if (wrap64 (1 + t329)) = t325 then (if t332 = true then (if t334 = true then (if t333.toList = t323.toList then (if t336 = true then (if t338 = true then (if t337.toList = ([48, 48, 48, 48, 48, 48, 48, 48, 48, 48, 48, 48, 48, 48, 48, 48, 48, 48, 48, 48] : List UInt8) then (if t340 = true then (some (t339 == 20)) else (some false)) else (some false)) else (some false)) else (some false)) else (some false)) else (some false)) else (some false)) else (if x11_2 = true then (some false) else (if t332 = true then (if t334 = true then (if t333.toList = t323.toList then (if t336 = true then (if t338 = true then (if t337.toList = ([48, 48, 48, 48, 48, 48, 48, 48, 48, 48, 48, 48, 48, 48, 48, 48, 48, 48, 48, 48] : List UInt8) then (if t340 = true then (some (t339 == 20)) else (some false)) else (some false)) else (some false)) else (some false)) else (some false)) else (some false)) else (some false)))) = some r := H
                  have A43 := Aside0.mk A430
                  clear A430
                  by_cases c44 : (wrap64 (1 + t329)) = t325
                  · rw [if_pos c44] at H
                    have c44b0 : ((wrap64 (1 + t329)) == t325) = true := beq_iff_eq.mpr c44
                    have c44b1 : ((wrap64 (1 + t329)) != t325) = false := bne_eq_false_iff_eq.mpr c44
                    clear c44
                    by_cases c45 : t332 = true
                    · subst c45
                      have H1 : (if t334 = true then (if t333.toList = t323.toList then (if t336 = true then (if t338 = true then (if t337.toList = ([48, 48, 48, 48, 48, 48, 48, 48, 48, 48, 48, 48, 48, 48, 48, 48, 48, 48, 48, 48] : List UInt8) then (if t340 = true then (some (t339 == 20)) else (some false)) else (some false)) else (some false)) else (some false)) else (some false)) else (some false)) = some r := by rw [if_pos rfl] at H; exact H
                      clear H
                      have H := H1
                      clear H1
                      by_cases c46 : t334 = true
                      · subst c46
                        have H1 : (if t333.toList = t323.toList then (if t336 = true then (if t338 = true then (if t337.toList = ([48, 48, 48, 48, 48, 48, 48, 48, 48, 48, 48, 48, 48, 48, 48, 48, 48, 48, 48, 48] : List UInt8) then (if t340 = true then (some (t339 == 20)) else (some false)) else (some false)) else (some false)) else (some false)) else (some false)) = some r := by rw [if_pos rfl] at H; exact H
                        clear H
                        have H := H1
                        clear H1
                        by_cases c47 : t333.toList = t323.toList
                        · rw [if_pos c47] at H
                          have c47b0 : (t333.toList == t323.toList) = true := beq_iff_eq.mpr c47
                          have c47b1 : (t333.toList != t323.toList) = false := bne_eq_false_iff_eq.mpr c47
                          clear c47
                          by_cases c48 : t336 = true
                          · subst c48
                            have H1 : (if t338 = true then (if t337.toList = ([48, 48, 48, 48, 48, 48, 48, 48, 48, 48, 48, 48, 48, 48, 48, 48, 48, 48, 48, 48] : List UInt8) then (if t340 = true then (some (t339 == 20)) else (some false)) else (some false)) else (some false)) = some r := by rw [if_pos rfl] at H; exact H
                            clear H
                            have H := H1
                            clear H1
                            by_cases c49 : t338 = true
                            · subst c49
                              have H1 : (if t337.toList = ([48, 48, 48, 48, 48, 48, 48, 48, 48, 48, 48, 48, 48, 48, 48, 48, 48, 48, 48, 48] : List UInt8) then (if t340 = true then (some (t339 == 20)) else (some false)) else (some false)) = some r := by rw [if_pos rfl] at H; exact H
                              clear H
                              have H := H1
                              clear H1
                              by_cases c50 : t337.toList = ([48, 48, 48, 48, 48, 48, 48, 48, 48, 48, 48, 48, 48, 48, 48, 48, 48, 48, 48, 48] : List UInt8)
                              · rw [if_pos c50] at H
                                have c50b0 : (t337.toList == ([48, 48, 48, 48, 48, 48, 48, 48, 48, 48, 48, 48, 48, 48, 48, 48, 48, 48, 48, 48] : List UInt8)) = true := beq_iff_eq.mpr c50
                                have c50b1 : (t337.toList != ([48, 48, 48, 48, 48, 48, 48, 48, 48, 48, 48, 48, 48, 48, 48, 48, 48, 48, 48, 48] : List UInt8)) = false := bne_eq_false_iff_eq.mpr c50
                                clear c50
                                by_cases c51 : t340 = true
                                · subst c51
                                  have H1 : (some (t339 == 20)) = some r := by rw [if_pos rfl] at H; exact H
                                  clear H
                                  have H := H1
                                  clear H1
                                  obtain rfl := Option.some.inj H
                                  go_wp2_with (first | (go_at_call 26; (with_reducible refine (spec_R8Bits.calls k2 _ _ l1 20 t330 _ ?side1 ?side2 A37.out).mono ?_); (case side1 => repeat (first | exact (Kd.C_below HR1.out HB.out) | (with_reducible refine Kd.C_alloc ?_ _) | (with_reducible refine Kd.C_drewN ?_ _) | (with_reducible refine Kd.C_drew ?_))); (case side2 => exact HC1.out); rintro e w52 ⟨rfl, hb⟩; have n0_ := Aside0.mk (Kd.R_below (by (with_reducible repeat (first | apply Kd.R_alloc | apply Kd.R_drewN | apply Kd.R_drew)); exact HO_325000.out) hb); have n1_ := Aside0.mk (blk_below (g := gb324) (o := .cells #[.slice Ao11 t320.length co11, .string t323] 38 (0, 0)) (by (with_reducible repeat (first | refine blk_drewN ?_ _ | refine blk_drew ?_ | refine blk_alloc ?_ _)); exact BK324.out) hb); have n2_ := Aside0.mk (below_step (by repeat (first | (with_reducible first | exact HB.out | apply below_alloc | apply pw_below_drewN | apply below_drew1 | refine below_set ?_ GE324.out) | exact HB.out)) hb); clear HO_325000; clear BK324; clear HB; have HO_325000 := n0_; have BK324 := n1_; have HB := n2_; clear n0_ n1_ n2_; (try clear hb); (try clear hb2); (try clear hk); (try clear hi); have hcz53_0 : w52.cell? ⟨gb324, 0, none⟩ = some (.slice Ao11 t320.length co11) := (blk_cell BK324.out 0).trans rfl; have hcz53_1 : w52.cell? ⟨gb324, 1, none⟩ = some (.string t323) := (blk_cell BK324.out 1).trans rfl; have hfz53_0 := blk_frozen BK324.out 0; have hfz53_1 := blk_frozen BK324.out 1) | (go_at_call 27; (with_reducible refine (impl_AddScramble.calls k2 _ _ t320 t323 (t330 ++ (⟨#[49, 48, 49, 48, 49, 48, 49]⟩ : ByteArray)) t331 true _ ?side1 ?side2 A39.out).mono ?_); (case side1 => repeat (first | exact (Kd.R_reads' HO_325000.out).2.2 | (with_reducible refine Kd.C_alloc ?_ _) | (with_reducible refine Kd.C_drewN ?_ _) | (with_reducible refine Kd.C_drew ?_))); (case side2 => exact (Kd.R_reads' HO_325000.out).2.1); rintro e w54 ⟨rfl, hb⟩; have n0_ := Aside0.mk (Kd.R_below (by (with_reducible repeat (first | apply Kd.R_alloc | apply Kd.R_drewN | apply Kd.R_drew)); exact HO_325000.out) hb); have n1_ := Aside0.mk (blk_below (g := gb324) (o := .cells #[.slice Ao11 t320.length co11, .string t323] 38 (0, 0)) (by (with_reducible repeat (first | refine blk_drewN ?_ _ | refine blk_drew ?_ | refine blk_alloc ?_ _)); exact BK324.out) hb); have n2_ := Aside0.mk (below_step (by repeat (first | (with_reducible first | exact HB.out | apply below_alloc | apply pw_below_drewN | apply below_drew1 | refine below_set ?_ GE324.out) | exact HB.out)) hb); clear HO_325000; clear BK324; clear HB; have HO_325000 := n0_; have BK324 := n1_; have HB := n2_; clear n0_ n1_ n2_; (try clear hb); (try clear hb2); (try clear hk); (try clear hi); have hcz55_0 : w54.cell? ⟨gb324, 0, none⟩ = some (.slice Ao11 t320.length co11) := (blk_cell BK324.out 0).trans rfl; have hcz55_1 : w54.cell? ⟨gb324, 1, none⟩ = some (.string t323) := (blk_cell BK324.out 1).trans rfl; have hfz55_0 := blk_frozen BK324.out 0; have hfz55_1 := blk_frozen BK324.out 1) | (go_at_call 28; (with_reducible refine (impl_FindKey.calls k2 _ _ t320 t331 (t330 ++ (⟨#[49, 48, 49, 48, 49, 48, 49]⟩ : ByteArray)) t333 true _ ?side1 ?side2 A40.out).mono ?_); (case side1 => repeat (first | exact (Kd.R_reads' HO_325000.out).2.2 | (with_reducible refine Kd.C_alloc ?_ _) | (with_reducible refine Kd.C_drewN ?_ _) | (with_reducible refine Kd.C_drew ?_))); (case side2 => exact (Kd.R_reads' HO_325000.out).2.1); rintro e w56 ⟨rfl, hb⟩; have n0_ := Aside0.mk (Kd.R_below (by (with_reducible repeat (first | apply Kd.R_alloc | apply Kd.R_drewN | apply Kd.R_drew)); exact HO_325000.out) hb); have n1_ := Aside0.mk (blk_below (g := gb324) (o := .cells #[.slice Ao11 t320.length co11, .string t323] 38 (0, 0)) (by (with_reducible repeat (first | refine blk_drewN ?_ _ | refine blk_drew ?_ | refine blk_alloc ?_ _)); exact BK324.out) hb); have n2_ := Aside0.mk (below_step (by repeat (first | (with_reducible first | exact HB.out | apply below_alloc | apply pw_below_drewN | apply below_drew1 | refine below_set ?_ GE324.out) | exact HB.out)) hb); clear HO_325000; clear BK324; clear HB; have HO_325000 := n0_; have BK324 := n1_; have HB := n2_; clear n0_ n1_ n2_; (try clear hb); (try clear hb2); (try clear hk); (try clear hi); have hcz57_0 : w56.cell? ⟨gb324, 0, none⟩ = some (.slice Ao11 t320.length co11) := (blk_cell BK324.out 0).trans rfl; have hcz57_1 : w56.cell? ⟨gb324, 1, none⟩ = some (.string t323) := (blk_cell BK324.out 1).trans rfl; have hfz57_0 := blk_frozen BK324.out 0; have hfz57_1 := blk_frozen BK324.out 1) | (go_at_call 29; (with_reducible refine (impl_WorstBits.calls k2 _ _ t320 t323 20 t335 true _ ?side1 ?side2 A41.out).mono ?_); (case side1 => repeat (first | exact (Kd.R_reads' HO_325000.out).2.2 | (with_reducible refine Kd.C_alloc ?_ _) | (with_reducible refine Kd.C_drewN ?_ _) | (with_reducible refine Kd.C_drew ?_))); (case side2 => exact (Kd.R_reads' HO_325000.out).2.1); rintro e w58 ⟨rfl, hb⟩; have n0_ := Aside0.mk (Kd.R_below (by (with_reducible repeat (first | apply Kd.R_alloc | apply Kd.R_drewN | apply Kd.R_drew)); exact HO_325000.out) hb); have n1_ := Aside0.mk (blk_below (g := gb324) (o := .cells #[.slice Ao11 t320.length co11, .string t323] 38 (0, 0)) (by (with_reducible repeat (first | refine blk_drewN ?_ _ | refine blk_drew ?_ | refine blk_alloc ?_ _)); exact BK324.out) hb); have n2_ := Aside0.mk (below_step (by repeat (first | (with_reducible first | exact HB.out | apply below_alloc | apply pw_below_drewN | apply below_drew1 | refine below_set ?_ GE324.out) | exact HB.out)) hb); clear HO_325000; clear BK324; clear HB; have HO_325000 := n0_; have BK324 := n1_; have HB := n2_; clear n0_ n1_ n2_; (try clear hb); (try clear hb2); (try clear hk); (try clear hi); have hcz59_0 : w58.cell? ⟨gb324, 0, none⟩ = some (.slice Ao11 t320.length co11) := (blk_cell BK324.out 0).trans rfl; have hcz59_1 : w58.cell? ⟨gb324, 1, none⟩ = some (.string t323) := (blk_cell BK324.out 1).trans rfl; have hfz59_0 := blk_frozen BK324.out 0; have hfz59_1 := blk_frozen BK324.out 1) | (go_at_call 30; (with_reducible refine (impl_SelfScramble.calls k2 _ _ t320 t323 t335 t337 true _ ?side1 ?side2 A42.out).mono ?_); (case side1 => repeat (first | exact (Kd.R_reads' HO_325000.out).2.2 | (with_reducible refine Kd.C_alloc ?_ _) | (with_reducible refine Kd.C_drewN ?_ _) | (with_reducible refine Kd.C_drew ?_))); (case side2 => exact (Kd.R_reads' HO_325000.out).2.1); rintro e w60 ⟨rfl, hb⟩; have n0_ := Aside0.mk (Kd.R_below (by (with_reducible repeat (first | apply Kd.R_alloc | apply Kd.R_drewN | apply Kd.R_drew)); exact HO_325000.out) hb); have n1_ := Aside0.mk (blk_below (g := gb324) (o := .cells #[.slice Ao11 t320.length co11, .string t323] 38 (0, 0)) (by (with_reducible repeat (first | refine blk_drewN ?_ _ | refine blk_drew ?_ | refine blk_alloc ?_ _)); exact BK324.out) hb); have n2_ := Aside0.mk (below_step (by repeat (first | (with_reducible first | exact HB.out | apply below_alloc | apply pw_below_drewN | apply below_drew1 | refine below_set ?_ GE324.out) | exact HB.out)) hb); clear HO_325000; clear BK324; clear HB; have HO_325000 := n0_; have BK324 := n1_; have HB := n2_; clear n0_ n1_ n2_; (try clear hb); (try clear hb2); (try clear hk); (try clear hi)) | (go_at_call 31; (with_reducible refine (impl_LongestSame.calls k2 t337 t339 true _ A43.out).mono ?_); rintro e w61 ⟨rfl, hb⟩; have n0_ := Aside0.mk (Kd.R_below (by (with_reducible repeat (first | apply Kd.R_alloc | apply Kd.R_drewN | apply Kd.R_drew)); exact HO_325000.out) hb); have n1_ := Aside0.mk (blk_below (g := gb324) (o := .cells #[.slice Ao11 t320.length co11, .string t323] 38 (0, 0)) (by (with_reducible repeat (first | refine blk_drewN ?_ _ | refine blk_drew ?_ | refine blk_alloc ?_ _)); exact BK324.out) hb); have n2_ := Aside0.mk (below_step (by repeat (first | (with_reducible first | exact HB.out | apply below_alloc | apply pw_below_drewN | apply below_drew1 | refine below_set ?_ GE324.out) | exact HB.out)) hb); clear HO_325000; clear BK324; clear HB; have HO_325000 := n0_; have BK324 := n1_; have HB := n2_; clear n0_ n1_ n2_; (try clear hb); (try clear hb2); (try clear hk); (try clear hi); have hcz62_0 : w61.cell? ⟨gb324, 0, none⟩ = some (.slice Ao11 t320.length co11) := (blk_cell BK324.out 0).trans rfl; have hcz62_1 : w61.cell? ⟨gb324, 1, none⟩ = some (.string t323) := (blk_cell BK324.out 1).trans rfl; have hfz62_0 := blk_frozen BK324.out 0; have hfz62_1 := blk_frozen BK324.out 1))
                                  repeat (go_quiet (first | (go_at_call 26; (with_reducible refine (spec_R8Bits.calls k2 _ _ l1 20 t330 _ ?side1 ?side2 A37.out).mono ?_); (case side1 => repeat (first | exact (Kd.C_below HR1.out HB.out) | (with_reducible refine Kd.C_alloc ?_ _) | (with_reducible refine Kd.C_drewN ?_ _) | (with_reducible refine Kd.C_drew ?_))); (case side2 => exact HC1.out); rintro e w52 ⟨rfl, hb⟩; have n0_ := Aside0.mk (Kd.R_below (by (with_reducible repeat (first | apply Kd.R_alloc | apply Kd.R_drewN | apply Kd.R_drew)); exact HO_325000.out) hb); have n1_ := Aside0.mk (blk_below (g := gb324) (o := .cells #[.slice Ao11 t320.length co11, .string t323] 38 (0, 0)) (by (with_reducible repeat (first | refine blk_drewN ?_ _ | refine blk_drew ?_ | refine blk_alloc ?_ _)); exact BK324.out) hb); have n2_ := Aside0.mk (below_step (by repeat (first | (with_reducible first | exact HB.out | apply below_alloc | apply pw_below_drewN | apply below_drew1 | refine below_set ?_ GE324.out) | exact HB.out)) hb); clear HO_325000; clear BK324; clear HB; have HO_325000 := n0_; have BK324 := n1_; have HB := n2_; clear n0_ n1_ n2_; (try clear hb); (try clear hb2); (try clear hk); (try clear hi); have hcz53_0 : w52.cell? ⟨gb324, 0, none⟩ = some (.slice Ao11 t320.length co11) := (blk_cell BK324.out 0).trans rfl; have hcz53_1 : w52.cell? ⟨gb324, 1, none⟩ = some (.string t323) := (blk_cell BK324.out 1).trans rfl; have hfz53_0 := blk_frozen BK324.out 0; have hfz53_1 := blk_frozen BK324.out 1) | (go_at_call 27; (with_reducible refine (impl_AddScramble.calls k2 _ _ t320 t323 (t330 ++ (⟨#[49, 48, 49, 48, 49, 48, 49]⟩ : ByteArray)) t331 true _ ?side1 ?side2 A39.out).mono ?_); (case side1 => repeat (first | exact (Kd.R_reads' HO_325000.out).2.2 | (with_reducible refine Kd.C_alloc ?_ _) | (with_reducible refine Kd.C_drewN ?_ _) | (with_reducible refine Kd.C_drew ?_))); (case side2 => exact (Kd.R_reads' HO_325000.out).2.1); rintro e w54 ⟨rfl, hb⟩; have n0_ := Aside0.mk (Kd.R_below (by (with_reducible repeat (first | apply Kd.R_alloc | apply Kd.R_drewN | apply Kd.R_drew)); exact HO_325000.out) hb); have n1_ := Aside0.mk (blk_below (g := gb324) (o := .cells #[.slice Ao11 t320.length co11, .string t323] 38 (0, 0)) (by (with_reducible repeat (first | refine blk_drewN ?_ _ | refine blk_drew ?_ | refine blk_alloc ?_ _)); exact BK324.out) hb); have n2_ := Aside0.mk (below_step (by repeat (first | (with_reducible first | exact HB.out | apply below_alloc | apply pw_below_drewN | apply below_drew1 | refine below_set ?_ GE324.out) | exact HB.out)) hb); clear HO_325000; clear BK324; clear HB; have HO_325000 := n0_; have BK324 := n1_; have HB := n2_; clear n0_ n1_ n2_; (try clear hb); (try clear hb2); (try clear hk); (try clear hi); have hcz55_0 : w54.cell? ⟨gb324, 0, none⟩ = some (.slice Ao11 t320.length co11) := (blk_cell BK324.out 0).trans rfl; have hcz55_1 : w54.cell? ⟨gb324, 1, none⟩ = some (.string t323) := (blk_cell BK324.out 1).trans rfl; have hfz55_0 := blk_frozen BK324.out 0; have hfz55_1 := blk_frozen BK324.out 1) | (go_at_call 28; (with_reducible refine (impl_FindKey.calls k2 _ _ t320 t331 (t330 ++ (⟨#[49, 48, 49, 48, 49, 48, 49]⟩ : ByteArray)) t333 true _ ?side1 ?side2 A40.out).mono ?_); (case side1 => repeat (first | exact (Kd.R_reads' HO_325000.out).2.2 | (with_reducible refine Kd.C_alloc ?_ _) | (with_reducible refine Kd.C_drewN ?_ _) | (with_reducible refine Kd.C_drew ?_))); (case side2 => exact (Kd.R_reads' HO_325000.out).2.1); rintro e w56 ⟨rfl, hb⟩; have n0_ := Aside0.mk (Kd.R_below (by (with_reducible repeat (first | apply Kd.R_alloc | apply Kd.R_drewN | apply Kd.R_drew)); exact HO_325000.out) hb); have n1_ := Aside0.mk (blk_below (g := gb324) (o := .cells #[.slice Ao11 t320.length co11, .string t323] 38 (0, 0)) (by (with_reducible repeat (first | refine blk_drewN ?_ _ | refine blk_drew ?_ | refine blk_alloc ?_ _)); exact BK324.out) hb); have n2_ := Aside0.mk (below_step (by repeat (first | (with_reducible first | exact HB.out | apply below_alloc | apply pw_below_drewN | apply below_drew1 | refine below_set ?_ GE324.out) | exact HB.out)) hb); clear HO_325000; clear BK324; clear HB; have HO_325000 := n0_; have BK324 := n1_; have HB := n2_; clear n0_ n1_ n2_; (try clear hb); (try clear hb2); (try clear hk); (try clear hi); have hcz57_0 : w56.cell? ⟨gb324, 0, none⟩ = some (.slice Ao11 t320.length co11) := (blk_cell BK324.out 0).trans rfl; have hcz57_1 : w56.cell? ⟨gb324, 1, none⟩ = some (.string t323) := (blk_cell BK324.out 1).trans rfl; have hfz57_0 := blk_frozen BK324.out 0; have hfz57_1 := blk_frozen BK324.out 1) | (go_at_call 29; (with_reducible refine (impl_WorstBits.calls k2 _ _ t320 t323 20 t335 true _ ?side1 ?side2 A41.out).mono ?_); (case side1 => repeat (first | exact (Kd.R_reads' HO_325000.out).2.2 | (with_reducible refine Kd.C_alloc ?_ _) | (with_reducible refine Kd.C_drewN ?_ _) | (with_reducible refine Kd.C_drew ?_))); (case side2 => exact (Kd.R_reads' HO_325000.out).2.1); rintro e w58 ⟨rfl, hb⟩; have n0_ := Aside0.mk (Kd.R_below (by (with_reducible repeat (first | apply Kd.R_alloc | apply Kd.R_drewN | apply Kd.R_drew)); exact HO_325000.out) hb); have n1_ := Aside0.mk (blk_below (g := gb324) (o := .cells #[.slice Ao11 t320.length co11, .string t323] 38 (0, 0)) (by (with_reducible repeat (first | refine blk_drewN ?_ _ | refine blk_drew ?_ | refine blk_alloc ?_ _)); exact BK324.out) hb); have n2_ := Aside0.mk (below_step (by repeat (first | (with_reducible first | exact HB.out | apply below_alloc | apply pw_below_drewN | apply below_drew1 | refine below_set ?_ GE324.out) | exact HB.out)) hb); clear HO_325000; clear BK324; clear HB; have HO_325000 := n0_; have BK324 := n1_; have HB := n2_; clear n0_ n1_ n2_; (try clear hb); (try clear hb2); (try clear hk); (try clear hi); have hcz59_0 : w58.cell? ⟨gb324, 0, none⟩ = some (.slice Ao11 t320.length co11) := (blk_cell BK324.out 0).trans rfl; have hcz59_1 : w58.cell? ⟨gb324, 1, none⟩ = some (.string t323) := (blk_cell BK324.out 1).trans rfl; have hfz59_0 := blk_frozen BK324.out 0; have hfz59_1 := blk_frozen BK324.out 1) | (go_at_call 30; (with_reducible refine (impl_SelfScramble.calls k2 _ _ t320 t323 t335 t337 true _ ?side1 ?side2 A42.out).mono ?_); (case side1 => repeat (first | exact (Kd.R_reads' HO_325000.out).2.2 | (with_reducible refine Kd.C_alloc ?_ _) | (with_reducible refine Kd.C_drewN ?_ _) | (with_reducible refine Kd.C_drew ?_))); (case side2 => exact (Kd.R_reads' HO_325000.out).2.1); rintro e w60 ⟨rfl, hb⟩; have n0_ := Aside0.mk (Kd.R_below (by (with_reducible repeat (first | apply Kd.R_alloc | apply Kd.R_drewN | apply Kd.R_drew)); exact HO_325000.out) hb); have n1_ := Aside0.mk (blk_below (g := gb324) (o := .cells #[.slice Ao11 t320.length co11, .string t323] 38 (0, 0)) (by (with_reducible repeat (first | refine blk_drewN ?_ _ | refine blk_drew ?_ | refine blk_alloc ?_ _)); exact BK324.out) hb); have n2_ := Aside0.mk (below_step (by repeat (first | (with_reducible first | exact HB.out | apply below_alloc | apply pw_below_drewN | apply below_drew1 | refine below_set ?_ GE324.out) | exact HB.out)) hb); clear HO_325000; clear BK324; clear HB; have HO_325000 := n0_; have BK324 := n1_; have HB := n2_; clear n0_ n1_ n2_; (try clear hb); (try clear hb2); (try clear hk); (try clear hi)) | (go_at_call 31; (with_reducible refine (impl_LongestSame.calls k2 t337 t339 true _ A43.out).mono ?_); rintro e w61 ⟨rfl, hb⟩; have n0_ := Aside0.mk (Kd.R_below (by (with_reducible repeat (first | apply Kd.R_alloc | apply Kd.R_drewN | apply Kd.R_drew)); exact HO_325000.out) hb); have n1_ := Aside0.mk (blk_below (g := gb324) (o := .cells #[.slice Ao11 t320.length co11, .string t323] 38 (0, 0)) (by (with_reducible repeat (first | refine blk_drewN ?_ _ | refine blk_drew ?_ | refine blk_alloc ?_ _)); exact BK324.out) hb); have n2_ := Aside0.mk (below_step (by repeat (first | (with_reducible first | exact HB.out | apply below_alloc | apply pw_below_drewN | apply below_drew1 | refine below_set ?_ GE324.out) | exact HB.out)) hb); clear HO_325000; clear BK324; clear HB; have HO_325000 := n0_; have BK324 := n1_; have HB := n2_; clear n0_ n1_ n2_; (try clear hb); (try clear hb2); (try clear hk); (try clear hi); have hcz62_0 : w61.cell? ⟨gb324, 0, none⟩ = some (.slice Ao11 t320.length co11) := (blk_cell BK324.out 0).trans rfl; have hcz62_1 : w61.cell? ⟨gb324, 1, none⟩ = some (.string t323) := (blk_cell BK324.out 1).trans rfl; have hfz62_0 := blk_frozen BK324.out 0; have hfz62_1 := blk_frozen BK324.out 1)); try go_wp2_with (first | (go_at_call 26; (with_reducible refine (spec_R8Bits.calls k2 _ _ l1 20 t330 _ ?side1 ?side2 A37.out).mono ?_); (case side1 => repeat (first | exact (Kd.C_below HR1.out HB.out) | (with_reducible refine Kd.C_alloc ?_ _) | (with_reducible refine Kd.C_drewN ?_ _) | (with_reducible refine Kd.C_drew ?_))); (case side2 => exact HC1.out); rintro e w52 ⟨rfl, hb⟩; have n0_ := Aside0.mk (Kd.R_below (by (with_reducible repeat (first | apply Kd.R_alloc | apply Kd.R_drewN | apply Kd.R_drew)); exact HO_325000.out) hb); have n1_ := Aside0.mk (blk_below (g := gb324) (o := .cells #[.slice Ao11 t320.length co11, .string t323] 38 (0, 0)) (by (with_reducible repeat (first | refine blk_drewN ?_ _ | refine blk_drew ?_ | refine blk_alloc ?_ _)); exact BK324.out) hb); have n2_ := Aside0.mk (below_step (by repeat (first | (with_reducible first | exact HB.out | apply below_alloc | apply pw_below_drewN | apply below_drew1 | refine below_set ?_ GE324.out) | exact HB.out)) hb); clear HO_325000; clear BK324; clear HB; have HO_325000 := n0_; have BK324 := n1_; have HB := n2_; clear n0_ n1_ n2_; (try clear hb); (try clear hb2); (try clear hk); (try clear hi); have hcz53_0 : w52.cell? ⟨gb324, 0, none⟩ = some (.slice Ao11 t320.length co11) := (blk_cell BK324.out 0).trans rfl; have hcz53_1 : w52.cell? ⟨gb324, 1, none⟩ = some (.string t323) := (blk_cell BK324.out 1).trans rfl; have hfz53_0 := blk_frozen BK324.out 0; have hfz53_1 := blk_frozen BK324.out 1) | (go_at_call 27; (with_reducible refine (impl_AddScramble.calls k2 _ _ t320 t323 (t330 ++ (⟨#[49, 48, 49, 48, 49, 48, 49]⟩ : ByteArray)) t331 true _ ?side1 ?side2 A39.out).mono ?_); (case side1 => repeat (first | exact (Kd.R_reads' HO_325000.out).2.2 | (with_reducible refine Kd.C_alloc ?_ _) | (with_reducible refine Kd.C_drewN ?_ _) | (with_reducible refine Kd.C_drew ?_))); (case side2 => exact (Kd.R_reads' HO_325000.out).2.1); rintro e w54 ⟨rfl, hb⟩; have n0_ := Aside0.mk (Kd.R_below (by (with_reducible repeat (first | apply Kd.R_alloc | apply Kd.R_drewN | apply Kd.R_drew)); exact HO_325000.out) hb); have n1_ := Aside0.mk (blk_below (g := gb324) (o := .cells #[.slice Ao11 t320.length co11, .string t323] 38 (0, 0)) (by (with_reducible repeat (first | refine blk_drewN ?_ _ | refine blk_drew ?_ | refine blk_alloc ?_ _)); exact BK324.out) hb); have n2_ := Aside0.mk (below_step (by repeat (first | (with_reducible first | exact HB.out | apply below_alloc | apply pw_below_drewN | apply below_drew1 | refine below_set ?_ GE324.out) | exact HB.out)) hb); clear HO_325000; clear BK324; clear HB; have HO_325000 := n0_; have BK324 := n1_; have HB := n2_; clear n0_ n1_ n2_; (try clear hb); (try clear hb2); (try clear hk); (try clear hi); have hcz55_0 : w54.cell? ⟨gb324, 0, none⟩ = some (.slice Ao11 t320.length co11) := (blk_cell BK324.out 0).trans rfl; have hcz55_1 : w54.cell? ⟨gb324, 1, none⟩ = some (.string t323) := (blk_cell BK324.out 1).trans rfl; have hfz55_0 := blk_frozen BK324.out 0; have hfz55_1 := blk_frozen BK324.out 1) | (go_at_call 28; (with_reducible refine (impl_FindKey.calls k2 _ _ t320 t331 (t330 ++ (⟨#[49, 48, 49, 48, 49, 48, 49]⟩ : ByteArray)) t333 true _ ?side1 ?side2 A40.out).mono ?_); (case side1 => repeat (first | exact (Kd.R_reads' HO_325000.out).2.2 | (with_reducible refine Kd.C_alloc ?_ _) | (with_reducible refine Kd.C_drewN ?_ _) | (with_reducible refine Kd.C_drew ?_))); (case side2 => exact (Kd.R_reads' HO_325000.out).2.1); rintro e w56 ⟨rfl, hb⟩; have n0_ := Aside0.mk (Kd.R_below (by (with_reducible repeat (first | apply Kd.R_alloc | apply Kd.R_drewN | apply Kd.R_drew)); exact HO_325000.out) hb); have n1_ := Aside0.mk (blk_below (g := gb324) (o := .cells #[.slice Ao11 t320.length co11, .string t323] 38 (0, 0)) (by (with_reducible repeat (first | refine blk_drewN ?_ _ | refine blk_drew ?_ | refine blk_alloc ?_ _)); exact BK324.out) hb); have n2_ := Aside0.mk (below_step (by repeat (first | (with_reducible first | exact HB.out | apply below_alloc | apply pw_below_drewN | apply below_drew1 | refine below_set ?_ GE324.out) | exact HB.out)) hb); clear HO_325000; clear BK324; clear HB; have HO_325000 := n0_; have BK324 := n1_; have HB := n2_; clear n0_ n1_ n2_; (try clear hb); (try clear hb2); (try clear hk); (try clear hi); have hcz57_0 : w56.cell? ⟨gb324, 0, none⟩ = some (.slice Ao11 t320.length co11) := (blk_cell BK324.out 0).trans rfl; have hcz57_1 : w56.cell? ⟨gb324, 1, none⟩ = some (.string t323) := (blk_cell BK324.out 1).trans rfl; have hfz57_0 := blk_frozen BK324.out 0; have hfz57_1 := blk_frozen BK324.out 1) | (go_at_call 29; (with_reducible refine (impl_WorstBits.calls k2 _ _ t320 t323 20 t335 true _ ?side1 ?side2 A41.out).mono ?_); (case side1 => repeat (first | exact (Kd.R_reads' HO_325000.out).2.2 | (with_reducible refine Kd.C_alloc ?_ _) | (with_reducible refine Kd.C_drewN ?_ _) | (with_reducible refine Kd.C_drew ?_))); (case side2 => exact (Kd.R_reads' HO_325000.out).2.1); rintro e w58 ⟨rfl, hb⟩; have n0_ := Aside0.mk (Kd.R_below (by (with_reducible repeat (first | apply Kd.R_alloc | apply Kd.R_drewN | apply Kd.R_drew)); exact HO_325000.out) hb); have n1_ := Aside0.mk (blk_below (g := gb324) (o := .cells #[.slice Ao11 t320.length co11, .string t323] 38 (0, 0)) (by (with_reducible repeat (first | refine blk_drewN ?_ _ | refine blk_drew ?_ | refine blk_alloc ?_ _)); exact BK324.out) hb); have n2_ := Aside0.mk (below_step (by repeat (first | (with_reducible first | exact HB.out | apply below_alloc | apply pw_below_drewN | apply below_drew1 | refine below_set ?_ GE324.out) | exact HB.out)) hb); clear HO_325000; clear BK324; clear HB; have HO_325000 := n0_; have BK324 := n1_; have HB := n2_; clear n0_ n1_ n2_; (try clear hb); (try clear hb2); (try clear hk); (try clear hi); have hcz59_0 : w58.cell? ⟨gb324, 0, none⟩ = some (.slice Ao11 t320.length co11) := (blk_cell BK324.out 0).trans rfl; have hcz59_1 : w58.cell? ⟨gb324, 1, none⟩ = some (.string t323) := (blk_cell BK324.out 1).trans rfl; have hfz59_0 := blk_frozen BK324.out 0; have hfz59_1 := blk_frozen BK324.out 1) | (go_at_call 30; (with_reducible refine (impl_SelfScramble.calls k2 _ _ t320 t323 t335 t337 true _ ?side1 ?side2 A42.out).mono ?_); (case side1 => repeat (first | exact (Kd.R_reads' HO_325000.out).2.2 | (with_reducible refine Kd.C_alloc ?_ _) | (with_reducible refine Kd.C_drewN ?_ _) | (with_reducible refine Kd.C_drew ?_))); (case side2 => exact (Kd.R_reads' HO_325000.out).2.1); rintro e w60 ⟨rfl, hb⟩; have n0_ := Aside0.mk (Kd.R_below (by (with_reducible repeat (first | apply Kd.R_alloc | apply Kd.R_drewN | apply Kd.R_drew)); exact HO_325000.out) hb); have n1_ := Aside0.mk (blk_below (g := gb324) (o := .cells #[.slice Ao11 t320.length co11, .string t323] 38 (0, 0)) (by (with_reducible repeat (first | refine blk_drewN ?_ _ | refine blk_drew ?_ | refine blk_alloc ?_ _)); exact BK324.out) hb); have n2_ := Aside0.mk (below_step (by repeat (first | (with_reducible first | exact HB.out | apply below_alloc | apply pw_below_drewN | apply below_drew1 | refine below_set ?_ GE324.out) | exact HB.out)) hb); clear HO_325000; clear BK324; clear HB; have HO_325000 := n0_; have BK324 := n1_; have HB := n2_; clear n0_ n1_ n2_; (try clear hb); (try clear hb2); (try clear hk); (try clear hi)) | (go_at_call 31; (with_reducible refine (impl_LongestSame.calls k2 t337 t339 true _ A43.out).mono ?_); rintro e w61 ⟨rfl, hb⟩; have n0_ := Aside0.mk (Kd.R_below (by (with_reducible repeat (first | apply Kd.R_alloc | apply Kd.R_drewN | apply Kd.R_drew)); exact HO_325000.out) hb); have n1_ := Aside0.mk (blk_below (g := gb324) (o := .cells #[.slice Ao11 t320.length co11, .string t323] 38 (0, 0)) (by (with_reducible repeat (first | refine blk_drewN ?_ _ | refine blk_drew ?_ | refine blk_alloc ?_ _)); exact BK324.out) hb); have n2_ := Aside0.mk (below_step (by repeat (first | (with_reducible first | exact HB.out | apply below_alloc | apply pw_below_drewN | apply below_drew1 | refine below_set ?_ GE324.out) | exact HB.out)) hb); clear HO_325000; clear BK324; clear HB; have HO_325000 := n0_; have BK324 := n1_; have HB := n2_; clear n0_ n1_ n2_; (try clear hb); (try clear hb2); (try clear hk); (try clear hi); have hcz62_0 : w61.cell? ⟨gb324, 0, none⟩ = some (.slice Ao11 t320.length co11) := (blk_cell BK324.out 0).trans rfl; have hcz62_1 : w61.cell? ⟨gb324, 1, none⟩ = some (.string t323) := (blk_cell BK324.out 1).trans rfl; have hfz62_0 := blk_frozen BK324.out 0; have hfz62_1 := blk_frozen BK324.out 1)))
                                  go_ret
                                  exact ⟨by first | rfl | (simp [errW_none, errW_some] <;> rfl) | (simp [*, errW_none, errW_some] <;> rfl), by repeat (first | (with_reducible first | exact HB.out | apply below_alloc | apply pw_below_drewN | apply below_drew1 | refine below_set ?_ GE324.out) | exact HB.out)⟩
                                · replace c51 := Bool.eq_false_iff.mpr c51
                                  subst c51
                                  have H1 : (some false) = some r := by rw [if_neg (show ¬ (false = true) by decide)] at H; exact H
                                  clear H
                                  have H := H1
                                  clear H1
                                  exact absurd ((Option.some.inj H).trans hr_) Bool.false_ne_true
                              · rw [if_neg c50] at H
                                have c50b0 : (t337.toList == ([48, 48, 48, 48, 48, 48, 48, 48, 48, 48, 48, 48, 48, 48, 48, 48, 48, 48, 48, 48] : List UInt8)) = false := beq_eq_false_iff_ne.mpr c50
                                have c50b1 : (t337.toList != ([48, 48, 48, 48, 48, 48, 48, 48, 48, 48, 48, 48, 48, 48, 48, 48, 48, 48, 48, 48] : List UInt8)) = true := bne_iff_ne.mpr c50
                                exact absurd ((Option.some.inj H).trans hr_) Bool.false_ne_true
                            · replace c49 := Bool.eq_false_iff.mpr c49
                              subst c49
                              have H1 : (some false) = some r := by rw [if_neg (show ¬ (false = true) by decide)] at H; exact H
                              clear H
                              have H := H1
                              clear H1
                              exact absurd ((Option.some.inj H).trans hr_) Bool.false_ne_true
                          · replace c48 := Bool.eq_false_iff.mpr c48
                            subst c48
                            have H1 : (some false) = some r := by rw [if_neg (show ¬ (false = true) by decide)] at H; exact H
                            clear H
                            have H := H1
                            clear H1
                            exact absurd ((Option.some.inj H).trans hr_) Bool.false_ne_true
                        · rw [if_neg c47] at H
                          have c47b0 : (t333.toList == t323.toList) = false := beq_eq_false_iff_ne.mpr c47
                          have c47b1 : (t333.toList != t323.toList) = true := bne_iff_ne.mpr c47
                          exact absurd ((Option.some.inj H).trans hr_) Bool.false_ne_true
                      · replace c46 := Bool.eq_false_iff.mpr c46
                        subst c46
                        have H1 : (some false) = some r := by rw [if_neg (show ¬ (false = true) by decide)] at H; exact H
                        clear H
                        have H := H1
                        clear H1
                        exact absurd ((Option.some.inj H).trans hr_) Bool.false_ne_true
                    · replace c45 := Bool.eq_false_iff.mpr c45
                      subst c45
                      have H1 : (some false) = some r := by rw [if_neg (show ¬ (false = true) by decide)] at H; exact H
                      clear H
                      have H := H1
                      clear H1
                      exact absurd ((Option.some.inj H).trans hr_) Bool.false_ne_true
                  · rw [if_neg c44] at H
                    have c44b0 : ((wrap64 (1 + t329)) == t325) = false := beq_eq_false_iff_ne.mpr c44
                    have c44b1 : ((wrap64 (1 + t329)) != t325) = true := bne_iff_ne.mpr c44
                    by_cases c138 : x11_2 = true
                    · subst c138
                      have H1 : (some false) = some r := by rw [if_pos rfl] at H; exact H
                      clear H
                      have H := H1
                      clear H1
                      exact absurd ((Option.some.inj H).trans hr_) Bool.false_ne_true
                    · replace c138 := Bool.eq_false_iff.mpr c138
                      subst c138
                      have H1 : (if t332 = true then (if t334 = true then (if t333.toList = t323.toList then (if t336 = true then (if t338 = true then (if t337.toList = ([48, 48, 48, 48, 48, 48, 48, 48, 48, 48, 48, 48, 48, 48, 48, 48, 48, 48, 48, 48] : List UInt8) then (if t340 = true then (some (t339 == 20)) else (some false)) else (some false)) else (some false)) else (some false)) else (some false)) else (some false)) else (some false)) = some r := by rw [if_neg (show ¬ (false = true) by decide)] at H; exact H
                      clear H
                      have H := H1
                      clear H1
                      by_cases c149 : t332 = true
                      · subst c149
                        have H1 : (if t334 = true then (if t333.toList = t323.toList then (if t336 = true then (if t338 = true then (if t337.toList = ([48, 48, 48, 48, 48, 48, 48, 48, 48, 48, 48, 48, 48, 48, 48, 48, 48, 48, 48, 48] : List UInt8) then (if t340 = true then (some (t339 == 20)) else (some false)) else (some false)) else (some false)) else (some false)) else (some false)) else (some false)) = some r := by rw [if_pos rfl] at H; exact H
                        clear H
                        have H := H1
                        clear H1
                        by_cases c150 : t334 = true
                        · subst c150
                          have H1 : (if t333.toList = t323.toList then (if t336 = true then (if t338 = true then (if t337.toList = ([48, 48, 48, 48, 48, 48, 48, 48, 48, 48, 48, 48, 48, 48, 48, 48, 48, 48, 48, 48] : List UInt8) then (if t340 = true then (some (t339 == 20)) else (some false)) else (some false)) else (some false)) else (some false)) else (some false)) = some r := by rw [if_pos rfl] at H; exact H
                          clear H
                          have H := H1
                          clear H1
                          by_cases c151 : t333.toList = t323.toList
                          · rw [if_pos c151] at H
                            have c151b0 : (t333.toList == t323.toList) = true := beq_iff_eq.mpr c151
                            have c151b1 : (t333.toList != t323.toList) = false := bne_eq_false_iff_eq.mpr c151
                            clear c151
                            by_cases c152 : t336 = true
                            · subst c152
                              have H1 : (if t338 = true then (if t337.toList = ([48, 48, 48, 48, 48, 48, 48, 48, 48, 48, 48, 48, 48, 48, 48, 48, 48, 48, 48, 48] : List UInt8) then (if t340 = true then (some (t339 == 20)) else (some false)) else (some false)) else (some false)) = some r := by rw [if_pos rfl] at H; exact H
                              clear H
                              have H := H1
                              clear H1
                              by_cases c153 : t338 = true
                              · subst c153
                                have H1 : (if t337.toList = ([48, 48, 48, 48, 48, 48, 48, 48, 48, 48, 48, 48, 48, 48, 48, 48, 48, 48, 48, 48] : List UInt8) then (if t340 = true then (some (t339 == 20)) else (some false)) else (some false)) = some r := by rw [if_pos rfl] at H; exact H
                                clear H
                                have H := H1
                                clear H1
                                by_cases c154 : t337.toList = ([48, 48, 48, 48, 48, 48, 48, 48, 48, 48, 48, 48, 48, 48, 48, 48, 48, 48, 48, 48] : List UInt8)
                                · rw [if_pos c154] at H
                                  have c154b0 : (t337.toList == ([48, 48, 48, 48, 48, 48, 48, 48, 48, 48, 48, 48, 48, 48, 48, 48, 48, 48, 48, 48] : List UInt8)) = true := beq_iff_eq.mpr c154
                                  have c154b1 : (t337.toList != ([48, 48, 48, 48, 48, 48, 48, 48, 48, 48, 48, 48, 48, 48, 48, 48, 48, 48, 48, 48] : List UInt8)) = false := bne_eq_false_iff_eq.mpr c154
                                  clear c154
                                  by_cases c155 : t340 = true
                                  · subst c155
                                    have H1 : (some (t339 == 20)) = some r := by rw [if_pos rfl] at H; exact H
                                    clear H
                                    have H := H1
                                    clear H1
                                    obtain rfl := Option.some.inj H
                                    go_wp2_with (first | (go_at_call 26; (with_reducible refine (spec_R8Bits.calls k2 _ _ l1 20 t330 _ ?side1 ?side2 A37.out).mono ?_); (case side1 => repeat (first | exact (Kd.C_below HR1.out HB.out) | (with_reducible refine Kd.C_alloc ?_ _) | (with_reducible refine Kd.C_drewN ?_ _) | (with_reducible refine Kd.C_drew ?_))); (case side2 => exact HC1.out); rintro e w156 ⟨rfl, hb⟩; have n0_ := Aside0.mk (Kd.R_below (by (with_reducible repeat (first | apply Kd.R_alloc | apply Kd.R_drewN | apply Kd.R_drew)); exact HO_325000.out) hb); have n1_ := Aside0.mk (blk_below (g := gb324) (o := .cells #[.slice Ao11 t320.length co11, .string t323] 38 (0, 0)) (by (with_reducible repeat (first | refine blk_drewN ?_ _ | refine blk_drew ?_ | refine blk_alloc ?_ _)); exact BK324.out) hb); have n2_ := Aside0.mk (below_step (by repeat (first | (with_reducible first | exact HB.out | apply below_alloc | apply pw_below_drewN | apply below_drew1 | refine below_set ?_ GE324.out) | exact HB.out)) hb); clear HO_325000; clear BK324; clear HB; have HO_325000 := n0_; have BK324 := n1_; have HB := n2_; clear n0_ n1_ n2_; (try clear hb); (try clear hb2); (try clear hk); (try clear hi); have hcz157_0 : w156.cell? ⟨gb324, 0, none⟩ = some (.slice Ao11 t320.length co11) := (blk_cell BK324.out 0).trans rfl; have hcz157_1 : w156.cell? ⟨gb324, 1, none⟩ = some (.string t323) := (blk_cell BK324.out 1).trans rfl; have hfz157_0 := blk_frozen BK324.out 0; have hfz157_1 := blk_frozen BK324.out 1) | (go_at_call 27; (with_reducible refine (impl_AddScramble.calls k2 _ _ t320 t323 (t330 ++ (⟨#[49, 48, 49, 48, 49, 48, 49]⟩ : ByteArray)) t331 true _ ?side1 ?side2 A39.out).mono ?_); (case side1 => repeat (first | exact (Kd.R_reads' HO_325000.out).2.2 | (with_reducible refine Kd.C_alloc ?_ _) | (with_reducible refine Kd.C_drewN ?_ _) | (with_reducible refine Kd.C_drew ?_))); (case side2 => exact (Kd.R_reads' HO_325000.out).2.1); rintro e w158 ⟨rfl, hb⟩; have n0_ := Aside0.mk (Kd.R_below (by (with_reducible repeat (first | apply Kd.R_alloc | apply Kd.R_drewN | apply Kd.R_drew)); exact HO_325000.out) hb); have n1_ := Aside0.mk (blk_below (g := gb324) (o := .cells #[.slice Ao11 t320.length co11, .string t323] 38 (0, 0)) (by (with_reducible repeat (first | refine blk_drewN ?_ _ | refine blk_drew ?_ | refine blk_alloc ?_ _)); exact BK324.out) hb); have n2_ := Aside0.mk (below_step (by repeat (first | (with_reducible first | exact HB.out | apply below_alloc | apply pw_below_drewN | apply below_drew1 | refine below_set ?_ GE324.out) | exact HB.out)) hb); clear HO_325000; clear BK324; clear HB; have HO_325000 := n0_; have BK324 := n1_; have HB := n2_; clear n0_ n1_ n2_; (try clear hb); (try clear hb2); (try clear hk); (try clear hi); have hcz159_0 : w158.cell? ⟨gb324, 0, none⟩ = some (.slice Ao11 t320.length co11) := (blk_cell BK324.out 0).trans rfl; have hcz159_1 : w158.cell? ⟨gb324, 1, none⟩ = some (.string t323) := (blk_cell BK324.out 1).trans rfl; have hfz159_0 := blk_frozen BK324.out 0; have hfz159_1 := blk_frozen BK324.out 1) | (go_at_call 28; (with_reducible refine (impl_FindKey.calls k2 _ _ t320 t331 (t330 ++ (⟨#[49, 48, 49, 48, 49, 48, 49]⟩ : ByteArray)) t333 true _ ?side1 ?side2 A40.out).mono ?_); (case side1 => repeat (first | exact (Kd.R_reads' HO_325000.out).2.2 | (with_reducible refine Kd.C_alloc ?_ _) | (with_reducible refine Kd.C_drewN ?_ _) | (with_reducible refine Kd.C_drew ?_))); (case side2 => exact (Kd.R_reads' HO_325000.out).2.1); rintro e w160 ⟨rfl, hb⟩; have n0_ := Aside0.mk (Kd.R_below (by (with_reducible repeat (first | apply Kd.R_alloc | apply Kd.R_drewN | apply Kd.R_drew)); exact HO_325000.out) hb); have n1_ := Aside0.mk (blk_below (g := gb324) (o := .cells #[.slice Ao11 t320.length co11, .string t323] 38 (0, 0)) (by (with_reducible repeat (first | refine blk_drewN ?_ _ | refine blk_drew ?_ | refine blk_alloc ?_ _)); exact BK324.out) hb); have n2_ := Aside0.mk (below_step (by repeat (first | (with_reducible first | exact HB.out | apply below_alloc | apply pw_below_drewN | apply below_drew1 | refine below_set ?_ GE324.out) | exact HB.out)) hb); clear HO_325000; clear BK324; clear HB; have HO_325000 := n0_; have BK324 := n1_; have HB := n2_; clear n0_ n1_ n2_; (try clear hb); (try clear hb2); (try clear hk); (try clear hi); have hcz161_0 : w160.cell? ⟨gb324, 0, none⟩ = some (.slice Ao11 t320.length co11) := (blk_cell BK324.out 0).trans rfl; have hcz161_1 : w160.cell? ⟨gb324, 1, none⟩ = some (.string t323) := (blk_cell BK324.out 1).trans rfl; have hfz161_0 := blk_frozen BK324.out 0; have hfz161_1 := blk_frozen BK324.out 1) | (go_at_call 29; (with_reducible refine (impl_WorstBits.calls k2 _ _ t320 t323 20 t335 true _ ?side1 ?side2 A41.out).mono ?_); (case side1 => repeat (first | exact (Kd.R_reads' HO_325000.out).2.2 | (with_reducible refine Kd.C_alloc ?_ _) | (with_reducible refine Kd.C_drewN ?_ _) | (with_reducible refine Kd.C_drew ?_))); (case side2 => exact (Kd.R_reads' HO_325000.out).2.1); rintro e w162 ⟨rfl, hb⟩; have n0_ := Aside0.mk (Kd.R_below (by (with_reducible repeat (first | apply Kd.R_alloc | apply Kd.R_drewN | apply Kd.R_drew)); exact HO_325000.out) hb); have n1_ := Aside0.mk (blk_below (g := gb324) (o := .cells #[.slice Ao11 t320.length co11, .string t323] 38 (0, 0)) (by (with_reducible repeat (first | refine blk_drewN ?_ _ | refine blk_drew ?_ | refine blk_alloc ?_ _)); exact BK324.out) hb); have n2_ := Aside0.mk (below_step (by repeat (first | (with_reducible first | exact HB.out | apply below_alloc | apply pw_below_drewN | apply below_drew1 | refine below_set ?_ GE324.out) | exact HB.out)) hb); clear HO_325000; clear BK324; clear HB; have HO_325000 := n0_; have BK324 := n1_; have HB := n2_; clear n0_ n1_ n2_; (try clear hb); (try clear hb2); (try clear hk); (try clear hi); have hcz163_0 : w162.cell? ⟨gb324, 0, none⟩ = some (.slice Ao11 t320.length co11) := (blk_cell BK324.out 0).trans rfl; have hcz163_1 : w162.cell? ⟨gb324, 1, none⟩ = some (.string t323) := (blk_cell BK324.out 1).trans rfl; have hfz163_0 := blk_frozen BK324.out 0; have hfz163_1 := blk_frozen BK324.out 1) | (go_at_call 30; (with_reducible refine (impl_SelfScramble.calls k2 _ _ t320 t323 t335 t337 true _ ?side1 ?side2 A42.out).mono ?_); (case side1 => repeat (first | exact (Kd.R_reads' HO_325000.out).2.2 | (with_reducible refine Kd.C_alloc ?_ _) | (with_reducible refine Kd.C_drewN ?_ _) | (with_reducible refine Kd.C_drew ?_))); (case side2 => exact (Kd.R_reads' HO_325000.out).2.1); rintro e w164 ⟨rfl, hb⟩; have n0_ := Aside0.mk (Kd.R_below (by (with_reducible repeat (first | apply Kd.R_alloc | apply Kd.R_drewN | apply Kd.R_drew)); exact HO_325000.out) hb); have n1_ := Aside0.mk (blk_below (g := gb324) (o := .cells #[.slice Ao11 t320.length co11, .string t323] 38 (0, 0)) (by (with_reducible repeat (first | refine blk_drewN ?_ _ | refine blk_drew ?_ | refine blk_alloc ?_ _)); exact BK324.out) hb); have n2_ := Aside0.mk (below_step (by repeat (first | (with_reducible first | exact HB.out | apply below_alloc | apply pw_below_drewN | apply below_drew1 | refine below_set ?_ GE324.out) | exact HB.out)) hb); clear HO_325000; clear BK324; clear HB; have HO_325000 := n0_; have BK324 := n1_; have HB := n2_; clear n0_ n1_ n2_; (try clear hb); (try clear hb2); (try clear hk); (try clear hi)) | (go_at_call 31; (with_reducible refine (impl_LongestSame.calls k2 t337 t339 true _ A43.out).mono ?_); rintro e w165 ⟨rfl, hb⟩; have n0_ := Aside0.mk (Kd.R_below (by (with_reducible repeat (first | apply Kd.R_alloc | apply Kd.R_drewN | apply Kd.R_drew)); exact HO_325000.out) hb); have n1_ := Aside0.mk (blk_below (g := gb324) (o := .cells #[.slice Ao11 t320.length co11, .string t323] 38 (0, 0)) (by (with_reducible repeat (first | refine blk_drewN ?_ _ | refine blk_drew ?_ | refine blk_alloc ?_ _)); exact BK324.out) hb); have n2_ := Aside0.mk (below_step (by repeat (first | (with_reducible first | exact HB.out | apply below_alloc | apply pw_below_drewN | apply below_drew1 | refine below_set ?_ GE324.out) | exact HB.out)) hb); clear HO_325000; clear BK324; clear HB; have HO_325000 := n0_; have BK324 := n1_; have HB := n2_; clear n0_ n1_ n2_; (try clear hb); (try clear hb2); (try clear hk); (try clear hi); have hcz166_0 : w165.cell? ⟨gb324, 0, none⟩ = some (.slice Ao11 t320.length co11) := (blk_cell BK324.out 0).trans rfl; have hcz166_1 : w165.cell? ⟨gb324, 1, none⟩ = some (.string t323) := (blk_cell BK324.out 1).trans rfl; have hfz166_0 := blk_frozen BK324.out 0; have hfz166_1 := blk_frozen BK324.out 1))
                                    repeat (go_quiet (first | (go_at_call 26; (with_reducible refine (spec_R8Bits.calls k2 _ _ l1 20 t330 _ ?side1 ?side2 A37.out).mono ?_); (case side1 => repeat (first | exact (Kd.C_below HR1.out HB.out) | (with_reducible refine Kd.C_alloc ?_ _) | (with_reducible refine Kd.C_drewN ?_ _) | (with_reducible refine Kd.C_drew ?_))); (case side2 => exact HC1.out); rintro e w156 ⟨rfl, hb⟩; have n0_ := Aside0.mk (Kd.R_below (by (with_reducible repeat (first | apply Kd.R_alloc | apply Kd.R_drewN | apply Kd.R_drew)); exact HO_325000.out) hb); have n1_ := Aside0.mk (blk_below (g := gb324) (o := .cells #[.slice Ao11 t320.length co11, .string t323] 38 (0, 0)) (by (with_reducible repeat (first | refine blk_drewN ?_ _ | refine blk_drew ?_ | refine blk_alloc ?_ _)); exact BK324.out) hb); have n2_ := Aside0.mk (below_step (by repeat (first | (with_reducible first | exact HB.out | apply below_alloc | apply pw_below_drewN | apply below_drew1 | refine below_set ?_ GE324.out) | exact HB.out)) hb); clear HO_325000; clear BK324; clear HB; have HO_325000 := n0_; have BK324 := n1_; have HB := n2_; clear n0_ n1_ n2_; (try clear hb); (try clear hb2); (try clear hk); (try clear hi); have hcz157_0 : w156.cell? ⟨gb324, 0, none⟩ = some (.slice Ao11 t320.length co11) := (blk_cell BK324.out 0).trans rfl; have hcz157_1 : w156.cell? ⟨gb324, 1, none⟩ = some (.string t323) := (blk_cell BK324.out 1).trans rfl; have hfz157_0 := blk_frozen BK324.out 0; have hfz157_1 := blk_frozen BK324.out 1) | (go_at_call 27; (with_reducible refine (impl_AddScramble.calls k2 _ _ t320 t323 (t330 ++ (⟨#[49, 48, 49, 48, 49, 48, 49]⟩ : ByteArray)) t331 true _ ?side1 ?side2 A39.out).mono ?_); (case side1 => repeat (first | exact (Kd.R_reads' HO_325000.out).2.2 | (with_reducible refine Kd.C_alloc ?_ _) | (with_reducible refine Kd.C_drewN ?_ _) | (with_reducible refine Kd.C_drew ?_))); (case side2 => exact (Kd.R_reads' HO_325000.out).2.1); rintro e w158 ⟨rfl, hb⟩; have n0_ := Aside0.mk (Kd.R_below (by (with_reducible repeat (first | apply Kd.R_alloc | apply Kd.R_drewN | apply Kd.R_drew)); exact HO_325000.out) hb); have n1_ := Aside0.mk (blk_below (g := gb324) (o := .cells #[.slice Ao11 t320.length co11, .string t323] 38 (0, 0)) (by (with_reducible repeat (first | refine blk_drewN ?_ _ | refine blk_drew ?_ | refine blk_alloc ?_ _)); exact BK324.out) hb); have n2_ := Aside0.mk (below_step (by repeat (first | (with_reducible first | exact HB.out | apply below_alloc | apply pw_below_drewN | apply below_drew1 | refine below_set ?_ GE324.out) | exact HB.out)) hb); clear HO_325000; clear BK324; clear HB; have HO_325000 := n0_; have BK324 := n1_; have HB := n2_; clear n0_ n1_ n2_; (try clear hb); (try clear hb2); (try clear hk); (try clear hi); have hcz159_0 : w158.cell? ⟨gb324, 0, none⟩ = some (.slice Ao11 t320.length co11) := (blk_cell BK324.out 0).trans rfl; have hcz159_1 : w158.cell? ⟨gb324, 1, none⟩ = some (.string t323) := (blk_cell BK324.out 1).trans rfl; have hfz159_0 := blk_frozen BK324.out 0; have hfz159_1 := blk_frozen BK324.out 1) | (go_at_call 28; (with_reducible refine (impl_FindKey.calls k2 _ _ t320 t331 (t330 ++ (⟨#[49, 48, 49, 48, 49, 48, 49]⟩ : ByteArray)) t333 true _ ?side1 ?side2 A40.out).mono ?_); (case side1 => repeat (first | exact (Kd.R_reads' HO_325000.out).2.2 | (with_reducible refine Kd.C_alloc ?_ _) | (with_reducible refine Kd.C_drewN ?_ _) | (with_reducible refine Kd.C_drew ?_))); (case side2 => exact (Kd.R_reads' HO_325000.out).2.1); rintro e w160 ⟨rfl, hb⟩; have n0_ := Aside0.mk (Kd.R_below (by (with_reducible repeat (first | apply Kd.R_alloc | apply Kd.R_drewN | apply Kd.R_drew)); exact HO_325000.out) hb); have n1_ := Aside0.mk (blk_below (g := gb324) (o := .cells #[.slice Ao11 t320.length co11, .string t323] 38 (0, 0)) (by (with_reducible repeat (first | refine blk_drewN ?_ _ | refine blk_drew ?_ | refine blk_alloc ?_ _)); exact BK324.out) hb); have n2_ := Aside0.mk (below_step (by repeat (first | (with_reducible first | exact HB.out | apply below_alloc | apply pw_below_drewN | apply below_drew1 | refine below_set ?_ GE324.out) | exact HB.out)) hb); clear HO_325000; clear BK324; clear HB; have HO_325000 := n0_; have BK324 := n1_; have HB := n2_; clear n0_ n1_ n2_; (try clear hb); (try clear hb2); (try clear hk); (try clear hi); have hcz161_0 : w160.cell? ⟨gb324, 0, none⟩ = some (.slice Ao11 t320.length co11) := (blk_cell BK324.out 0).trans rfl; have hcz161_1 : w160.cell? ⟨gb324, 1, none⟩ = some (.string t323) := (blk_cell BK324.out 1).trans rfl; have hfz161_0 := blk_frozen BK324.out 0; have hfz161_1 := blk_frozen BK324.out 1) | (go_at_call 29; (with_reducible refine (impl_WorstBits.calls k2 _ _ t320 t323 20 t335 true _ ?side1 ?side2 A41.out).mono ?_); (case side1 => repeat (first | exact (Kd.R_reads' HO_325000.out).2.2 | (with_reducible refine Kd.C_alloc ?_ _) | (with_reducible refine Kd.C_drewN ?_ _) | (with_reducible refine Kd.C_drew ?_))); (case side2 => exact (Kd.R_reads' HO_325000.out).2.1); rintro e w162 ⟨rfl, hb⟩; have n0_ := Aside0.mk (Kd.R_below (by (with_reducible repeat (first | apply Kd.R_alloc | apply Kd.R_drewN | apply Kd.R_drew)); exact HO_325000.out) hb); have n1_ := Aside0.mk (blk_below (g := gb324) (o := .cells #[.slice Ao11 t320.length co11, .string t323] 38 (0, 0)) (by (with_reducible repeat (first | refine blk_drewN ?_ _ | refine blk_drew ?_ | refine blk_alloc ?_ _)); exact BK324.out) hb); have n2_ := Aside0.mk (below_step (by repeat (first | (with_reducible first | exact HB.out | apply below_alloc | apply pw_below_drewN | apply below_drew1 | refine below_set ?_ GE324.out) | exact HB.out)) hb); clear HO_325000; clear BK324; clear HB; have HO_325000 := n0_; have BK324 := n1_; have HB := n2_; clear n0_ n1_ n2_; (try clear hb); (try clear hb2); (try clear hk); (try clear hi); have hcz163_0 : w162.cell? ⟨gb324, 0, none⟩ = some (.slice Ao11 t320.length co11) := (blk_cell BK324.out 0).trans rfl; have hcz163_1 : w162.cell? ⟨gb324, 1, none⟩ = some (.string t323) := (blk_cell BK324.out 1).trans rfl; have hfz163_0 := blk_frozen BK324.out 0; have hfz163_1 := blk_frozen BK324.out 1) | (go_at_call 30; (with_reducible refine (impl_SelfScramble.calls k2 _ _ t320 t323 t335 t337 true _ ?side1 ?side2 A42.out).mono ?_); (case side1 => repeat (first | exact (Kd.R_reads' HO_325000.out).2.2 | (with_reducible refine Kd.C_alloc ?_ _) | (with_reducible refine Kd.C_drewN ?_ _) | (with_reducible refine Kd.C_drew ?_))); (case side2 => exact (Kd.R_reads' HO_325000.out).2.1); rintro e w164 ⟨rfl, hb⟩; have n0_ := Aside0.mk (Kd.R_below (by (with_reducible repeat (first | apply Kd.R_alloc | apply Kd.R_drewN | apply Kd.R_drew)); exact HO_325000.out) hb); have n1_ := Aside0.mk (blk_below (g := gb324) (o := .cells #[.slice Ao11 t320.length co11, .string t323] 38 (0, 0)) (by (with_reducible repeat (first | refine blk_drewN ?_ _ | refine blk_drew ?_ | refine blk_alloc ?_ _)); exact BK324.out) hb); have n2_ := Aside0.mk (below_step (by repeat (first | (with_reducible first | exact HB.out | apply below_alloc | apply pw_below_drewN | apply below_drew1 | refine below_set ?_ GE324.out) | exact HB.out)) hb); clear HO_325000; clear BK324; clear HB; have HO_325000 := n0_; have BK324 := n1_; have HB := n2_; clear n0_ n1_ n2_; (try clear hb); (try clear hb2); (try clear hk); (try clear hi)) | (go_at_call 31; (with_reducible refine (impl_LongestSame.calls k2 t337 t339 true _ A43.out).mono ?_); rintro e w165 ⟨rfl, hb⟩; have n0_ := Aside0.mk (Kd.R_below (by (with_reducible repeat (first | apply Kd.R_alloc | apply Kd.R_drewN | apply Kd.R_drew)); exact HO_325000.out) hb); have n1_ := Aside0.mk (blk_below (g := gb324) (o := .cells #[.slice Ao11 t320.length co11, .string t323] 38 (0, 0)) (by (with_reducible repeat (first | refine blk_drewN ?_ _ | refine blk_drew ?_ | refine blk_alloc ?_ _)); exact BK324.out) hb); have n2_ := Aside0.mk (below_step (by repeat (first | (with_reducible first | exact HB.out | apply below_alloc | apply pw_below_drewN | apply below_drew1 | refine below_set ?_ GE324.out) | exact HB.out)) hb); clear HO_325000; clear BK324; clear HB; have HO_325000 := n0_; have BK324 := n1_; have HB := n2_; clear n0_ n1_ n2_; (try clear hb); (try clear hb2); (try clear hk); (try clear hi); have hcz166_0 : w165.cell? ⟨gb324, 0, none⟩ = some (.slice Ao11 t320.length co11) := (blk_cell BK324.out 0).trans rfl; have hcz166_1 : w165.cell? ⟨gb324, 1, none⟩ = some (.string t323) := (blk_cell BK324.out 1).trans rfl; have hfz166_0 := blk_frozen BK324.out 0; have hfz166_1 := blk_frozen BK324.out 1)); try go_wp2_with (first | (go_at_call 26; (with_reducible refine (spec_R8Bits.calls k2 _ _ l1 20 t330 _ ?side1 ?side2 A37.out).mono ?_); (case side1 => repeat (first | exact (Kd.C_below HR1.out HB.out) | (with_reducible refine Kd.C_alloc ?_ _) | (with_reducible refine Kd.C_drewN ?_ _) | (with_reducible refine Kd.C_drew ?_))); (case side2 => exact HC1.out); rintro e w156 ⟨rfl, hb⟩; have n0_ := Aside0.mk (Kd.R_below (by (with_reducible repeat (first | apply Kd.R_alloc | apply Kd.R_drewN | apply Kd.R_drew)); exact HO_325000.out) hb); have n1_ := Aside0.mk (blk_below (g := gb324) (o := .cells #[.slice Ao11 t320.length co11, .string t323] 38 (0, 0)) (by (with_reducible repeat (first | refine blk_drewN ?_ _ | refine blk_drew ?_ | refine blk_alloc ?_ _)); exact BK324.out) hb); have n2_ := Aside0.mk (below_step (by repeat (first | (with_reducible first | exact HB.out | apply below_alloc | apply pw_below_drewN | apply below_drew1 | refine below_set ?_ GE324.out) | exact HB.out)) hb); clear HO_325000; clear BK324; clear HB; have HO_325000 := n0_; have BK324 := n1_; have HB := n2_; clear n0_ n1_ n2_; (try clear hb); (try clear hb2); (try clear hk); (try clear hi); have hcz157_0 : w156.cell? ⟨gb324, 0, none⟩ = some (.slice Ao11 t320.length co11) := (blk_cell BK324.out 0).trans rfl; have hcz157_1 : w156.cell? ⟨gb324, 1, none⟩ = some (.string t323) := (blk_cell BK324.out 1).trans rfl; have hfz157_0 := blk_frozen BK324.out 0; have hfz157_1 := blk_frozen BK324.out 1) | (go_at_call 27; (with_reducible refine (impl_AddScramble.calls k2 _ _ t320 t323 (t330 ++ (⟨#[49, 48, 49, 48, 49, 48, 49]⟩ : ByteArray)) t331 true _ ?side1 ?side2 A39.out).mono ?_); (case side1 => repeat (first | exact (Kd.R_reads' HO_325000.out).2.2 | (with_reducible refine Kd.C_alloc ?_ _) | (with_reducible refine Kd.C_drewN ?_ _) | (with_reducible refine Kd.C_drew ?_))); (case side2 => exact (Kd.R_reads' HO_325000.out).2.1); rintro e w158 ⟨rfl, hb⟩; have n0_ := Aside0.mk (Kd.R_below (by (with_reducible repeat (first | apply Kd.R_alloc | apply Kd.R_drewN | apply Kd.R_drew)); exact HO_325000.out) hb); have n1_ := Aside0.mk (blk_below (g := gb324) (o := .cells #[.slice Ao11 t320.length co11, .string t323] 38 (0, 0)) (by (with_reducible repeat (first | refine blk_drewN ?_ _ | refine blk_drew ?_ | refine blk_alloc ?_ _)); exact BK324.out) hb); have n2_ := Aside0.mk (below_step (by repeat (first | (with_reducible first | exact HB.out | apply below_alloc | apply pw_below_drewN | apply below_drew1 | refine below_set ?_ GE324.out) | exact HB.out)) hb); clear HO_325000; clear BK324; clear HB; have HO_325000 := n0_; have BK324 := n1_; have HB := n2_; clear n0_ n1_ n2_; (try clear hb); (try clear hb2); (try clear hk); (try clear hi); have hcz159_0 : w158.cell? ⟨gb324, 0, none⟩ = some (.slice Ao11 t320.length co11) := (blk_cell BK324.out 0).trans rfl; have hcz159_1 : w158.cell? ⟨gb324, 1, none⟩ = some (.string t323) := (blk_cell BK324.out 1).trans rfl; have hfz159_0 := blk_frozen BK324.out 0; have hfz159_1 := blk_frozen BK324.out 1) | (go_at_call 28; (with_reducible refine (impl_FindKey.calls k2 _ _ t320 t331 (t330 ++ (⟨#[49, 48, 49, 48, 49, 48, 49]⟩ : ByteArray)) t333 true _ ?side1 ?side2 A40.out).mono ?_); (case side1 => repeat (first | exact (Kd.R_reads' HO_325000.out).2.2 | (with_reducible refine Kd.C_alloc ?_ _) | (with_reducible refine Kd.C_drewN ?_ _) | (with_reducible refine Kd.C_drew ?_))); (case side2 => exact (Kd.R_reads' HO_325000.out).2.1); rintro e w160 ⟨rfl, hb⟩; have n0_ := Aside0.mk (Kd.R_below (by (with_reducible repeat (first | apply Kd.R_alloc | apply Kd.R_drewN | apply Kd.R_drew)); exact HO_325000.out) hb); have n1_ := Aside0.mk (blk_below (g := gb324) (o := .cells #[.slice Ao11 t320.length co11, .string t323] 38 (0, 0)) (by (with_reducible repeat (first | refine blk_drewN ?_ _ | refine blk_drew ?_ | refine blk_alloc ?_ _)); exact BK324.out) hb); have n2_ := Aside0.mk (below_step (by repeat (first | (with_reducible first | exact HB.out | apply below_alloc | apply pw_below_drewN | apply below_drew1 | refine below_set ?_ GE324.out) | exact HB.out)) hb); clear HO_325000; clear BK324; clear HB; have HO_325000 := n0_; have BK324 := n1_; have HB := n2_; clear n0_ n1_ n2_; (try clear hb); (try clear hb2); (try clear hk); (try clear hi); have hcz161_0 : w160.cell? ⟨gb324, 0, none⟩ = some (.slice Ao11 t320.length co11) := (blk_cell BK324.out 0).trans rfl; have hcz161_1 : w160.cell? ⟨gb324, 1, none⟩ = some (.string t323) := (blk_cell BK324.out 1).trans rfl; have hfz161_0 := blk_frozen BK324.out 0; have hfz161_1 := blk_frozen BK324.out 1) | (go_at_call 29; (with_reducible refine (impl_WorstBits.calls k2 _ _ t320 t323 20 t335 true _ ?side1 ?side2 A41.out).mono ?_); (case side1 => repeat (first | exact (Kd.R_reads' HO_325000.out).2.2 | (with_reducible refine Kd.C_alloc ?_ _) | (with_reducible refine Kd.C_drewN ?_ _) | (with_reducible refine Kd.C_drew ?_))); (case side2 => exact (Kd.R_reads' HO_325000.out).2.1); rintro e w162 ⟨rfl, hb⟩; have n0_ := Aside0.mk (Kd.R_below (by (with_reducible repeat (first | apply Kd.R_alloc | apply Kd.R_drewN | apply Kd.R_drew)); exact HO_325000.out) hb); have n1_ := Aside0.mk (blk_below (g := gb324) (o := .cells #[.slice Ao11 t320.length co11, .string t323] 38 (0, 0)) (by (with_reducible repeat (first | refine blk_drewN ?_ _ | refine blk_drew ?_ | refine blk_alloc ?_ _)); exact BK324.out) hb); have n2_ := Aside0.mk (below_step (by repeat (first | (with_reducible first | exact HB.out | apply below_alloc | apply pw_below_drewN | apply below_drew1 | refine below_set ?_ GE324.out) | exact HB.out)) hb); clear HO_325000; clear BK324; clear HB; have HO_325000 := n0_; have BK324 := n1_; have HB := n2_; clear n0_ n1_ n2_; (try clear hb); (try clear hb2); (try clear hk); (try clear hi); have hcz163_0 : w162.cell? ⟨gb324, 0, none⟩ = some (.slice Ao11 t320.length co11) := (blk_cell BK324.out 0).trans rfl; have hcz163_1 : w162.cell? ⟨gb324, 1, none⟩ = some (.string t323) := (blk_cell BK324.out 1).trans rfl; have hfz163_0 := blk_frozen BK324.out 0; have hfz163_1 := blk_frozen BK324.out 1) | (go_at_call 30; (with_reducible refine (impl_SelfScramble.calls k2 _ _ t320 t323 t335 t337 true _ ?side1 ?side2 A42.out).mono ?_); (case side1 => repeat (first | exact (Kd.R_reads' HO_325000.out).2.2 | (with_reducible refine Kd.C_alloc ?_ _) | (with_reducible refine Kd.C_drewN ?_ _) | (with_reducible refine Kd.C_drew ?_))); (case side2 => exact (Kd.R_reads' HO_325000.out).2.1); rintro e w164 ⟨rfl, hb⟩; have n0_ := Aside0.mk (Kd.R_below (by (with_reducible repeat (first | apply Kd.R_alloc | apply Kd.R_drewN | apply Kd.R_drew)); exact HO_325000.out) hb); have n1_ := Aside0.mk (blk_below (g := gb324) (o := .cells #[.slice Ao11 t320.length co11, .string t323] 38 (0, 0)) (by (with_reducible repeat (first | refine blk_drewN ?_ _ | refine blk_drew ?_ | refine blk_alloc ?_ _)); exact BK324.out) hb); have n2_ := Aside0.mk (below_step (by repeat (first | (with_reducible first | exact HB.out | apply below_alloc | apply pw_below_drewN | apply below_drew1 | refine below_set ?_ GE324.out) | exact HB.out)) hb); clear HO_325000; clear BK324; clear HB; have HO_325000 := n0_; have BK324 := n1_; have HB := n2_; clear n0_ n1_ n2_; (try clear hb); (try clear hb2); (try clear hk); (try clear hi)) | (go_at_call 31; (with_reducible refine (impl_LongestSame.calls k2 t337 t339 true _ A43.out).mono ?_); rintro e w165 ⟨rfl, hb⟩; have n0_ := Aside0.mk (Kd.R_below (by (with_reducible repeat (first | apply Kd.R_alloc | apply Kd.R_drewN | apply Kd.R_drew)); exact HO_325000.out) hb); have n1_ := Aside0.mk (blk_below (g := gb324) (o := .cells #[.slice Ao11 t320.length co11, .string t323] 38 (0, 0)) (by (with_reducible repeat (first | refine blk_drewN ?_ _ | refine blk_drew ?_ | refine blk_alloc ?_ _)); exact BK324.out) hb); have n2_ := Aside0.mk (below_step (by repeat (first | (with_reducible first | exact HB.out | apply below_alloc | apply pw_below_drewN | apply below_drew1 | refine below_set ?_ GE324.out) | exact HB.out)) hb); clear HO_325000; clear BK324; clear HB; have HO_325000 := n0_; have BK324 := n1_; have HB := n2_; clear n0_ n1_ n2_; (try clear hb); (try clear hb2); (try clear hk); (try clear hi); have hcz166_0 : w165.cell? ⟨gb324, 0, none⟩ = some (.slice Ao11 t320.length co11) := (blk_cell BK324.out 0).trans rfl; have hcz166_1 : w165.cell? ⟨gb324, 1, none⟩ = some (.string t323) := (blk_cell BK324.out 1).trans rfl; have hfz166_0 := blk_frozen BK324.out 0; have hfz166_1 := blk_frozen BK324.out 1)))
                                    go_ret
                                    exact ⟨by first | rfl | (simp [errW_none, errW_some] <;> rfl) | (simp [*, errW_none, errW_some] <;> rfl), by repeat (first | (with_reducible first | exact HB.out | apply below_alloc | apply pw_below_drewN | apply below_drew1 | refine below_set ?_ GE324.out) | exact HB.out)⟩
                                  · replace c155 := Bool.eq_false_iff.mpr c155
                                    subst c155
                                    have H1 : (some false) = some r := by rw [if_neg (show ¬ (false = true) by decide)] at H; exact H
                                    clear H
                                    have H := H1
                                    clear H1
                                    exact absurd ((Option.some.inj H).trans hr_) Bool.false_ne_true
                                · rw [if_neg c154] at H
                                  have c154b0 : (t337.toList == ([48, 48, 48, 48, 48, 48, 48, 48, 48, 48, 48, 48, 48, 48, 48, 48, 48, 48, 48, 48] : List UInt8)) = false := beq_eq_false_iff_ne.mpr c154
                                  have c154b1 : (t337.toList != ([48, 48, 48, 48, 48, 48, 48, 48, 48, 48, 48, 48, 48, 48, 48, 48, 48, 48, 48, 48] : List UInt8)) = true := bne_iff_ne.mpr c154
                                  exact absurd ((Option.some.inj H).trans hr_) Bool.false_ne_true
                              · replace c153 := Bool.eq_false_iff.mpr c153
                                subst c153
                                have H1 : (some false) = some r := by rw [if_neg (show ¬ (false = true) by decide)] at H; exact H
                                clear H
                                have H := H1
                                clear H1
                                exact absurd ((Option.some.inj H).trans hr_) Bool.false_ne_true
                            · replace c152 := Bool.eq_false_iff.mpr c152
                              subst c152
                              have H1 : (some false) = some r := by rw [if_neg (show ¬ (false = true) by decide)] at H; exact H
                              clear H
                              have H := H1
                              clear H1
                              exact absurd ((Option.some.inj H).trans hr_) Bool.false_ne_true
                          · rw [if_neg c151] at H
                            have c151b0 : (t333.toList == t323.toList) = false := beq_eq_false_iff_ne.mpr c151
                            have c151b1 : (t333.toList != t323.toList) = true := bne_iff_ne.mpr c151
                            exact absurd ((Option.some.inj H).trans hr_) Bool.false_ne_true
                        · replace c150 := Bool.eq_false_iff.mpr c150
                          subst c150
                          have H1 : (some false) = some r := by rw [if_neg (show ¬ (false = true) by decide)] at H; exact H
                          clear H
                          have H := H1
                          clear H1
                          exact absurd ((Option.some.inj H).trans hr_) Bool.false_ne_true
                      · replace c149 := Bool.eq_false_iff.mpr c149
                        subst c149
                        have H1 : (some false) = some r := by rw [if_neg (show ¬ (false = true) by decide)] at H; exact H
                        clear H
                        have H := H1
                        clear H1
                        exact absurd ((Option.some.inj H).trans hr_) Bool.false_ne_true
                · rw [if_neg c38] at H
                  exact absurd H (by simp)

/-- THE ONE PURE STATEMENT of laws_FnKeys: yours. -/
def laws_FnKeys.Pure : Prop := ∀ (l0 : List Int) (l1 : List Int), l0.length ≤ maxLen → l0.length * 1 ≤ 140737488351232 → (∀ x ∈ l0, (Lit.int .u8 x).wf = true) → l1.length ≤ maxLen → l1.length * 1 ≤ 140737488351232 → (∀ x ∈ l1, (Lit.int .u8 x).wf = true) → ∃ k, laws_FnKeys.f k l0 l1 = some true
end Go.Proofs.YtondkjcmibnbpaaDoor.PFnKeys
