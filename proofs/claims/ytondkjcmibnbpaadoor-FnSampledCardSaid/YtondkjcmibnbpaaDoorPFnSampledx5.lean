-- Written by a program of this session (mkprint.py) over the print of the translation. Not trusted: Lean checks it.
import Derived.Test.YtondkjcmibnbpaaDoorPFnSampledx0
import Derived.Test.YtondkjcmibnbpaaDoorPFnSampledx1
import Derived.Test.YtondkjcmibnbpaaDoorPFnSampledx2
import Derived.Test.YtondkjcmibnbpaaDoorPFnSampledx3
import Derived.Test.YtondkjcmibnbpaaDoorPFnSampledx4
namespace Go.Proofs.YtondkjcmibnbpaaDoor.PFnSampled
open Go.RowKit Go.Proofs.YtondkjcmibnbpaaDoorW.PrintWords Go.Proofs.YtondkjcmibnbpaaDoorW.PrintLast Go.Proofs.YtondkjcmibnbpaaDoorW.PrintMore
attribute [local go_sem] max2_int min2_int max_two min_two max_three min_three max_four min_four   -- for this text's walks alone
set_option linter.unusedVariables false
set_option linter.unusedSimpArgs false

/-! ### laws_FnSampled: function 3 -/
mutual
def laws_FnSampled.j0 : Nat → List Int → List Int → Int → Int → Int → Bool → Bool → Option (Bool)
  | 0, _, _, _, _, _, _, _ => none
  | k + 1, x0, x1, x5, x6, x7, x10, x92 => if x92 = true then (some false) else ((spec_B10Runs.f k x1 x7).bind fun t200 => ((impl_EdgesOf.f k t200).bind fun bt201 => (if 0 ≤ (bt201.1.length : Int) then (if ((bt201.1.length : Int) : Int).toNat ≤ 35184372088832 then ((impl_ReceiveBits.f k t200 x5 x6 (List.replicate ((bt201.1.length : Int) : Int).toNat 0)).bind fun bt208 => (if bt201.2 = true then (if bt208.2 = true then (if x10 = true then (laws_FnSampled.j1 k x0 x5 x6 x7 x10 t200 bt201.1 (bt208.1.toList != t200.toList)) else (laws_FnSampled.j1 k x0 x5 x6 x7 x10 t200 bt201.1 false)) else (laws_FnSampled.j1 k x0 x5 x6 x7 x10 t200 bt201.1 true)) else (laws_FnSampled.j1 k x0 x5 x6 x7 x10 t200 bt201.1 true))) else (none)) else (none))))
def laws_FnSampled.j1 : Nat → List Int → Int → Int → Int → Bool → ByteArray → List Int → Bool → Option (Bool)
  | 0, _, _, _, _, _, _, _, _ => none
  | k + 1, x0, x5, x6, x7, x10, x14, x15, x124 => if x124 = true then (some false) else ((impl_JitterTolerated.f k x5 x6 x7).bind fun bt210 => ((spec_JitterTolerated.f k x5 x6 x7).bind fun bt212 => (if (bt210.2 != bt212.2) = true then (laws_FnSampled.j2 k x0 x5 x6 x14 x15 bt210.1 bt210.2 true) else (if bt210.2 = true then (laws_FnSampled.j2 k x0 x5 x6 x14 x15 bt210.1 bt210.2 (!x10)) else (laws_FnSampled.j2 k x0 x5 x6 x14 x15 bt210.1 bt210.2 false)))))
def laws_FnSampled.j2 : Nat → List Int → Int → Int → ByteArray → List Int → Int → Bool → Bool → Option (Bool)
  | 0, _, _, _, _, _, _, _, _ => none
  | k + 1, x0, x5, x6, x14, x15, x19, x20, x148 => if x148 = true then (some false) else (if x20 = true then (laws_FnSampled.l0 k x0 x5 x6 x14 x15 x19 (([] : List Int)) 0) else (some true))
def laws_FnSampled.l0 : Nat → List Int → Int → Int → ByteArray → List Int → Int → List Int → Int → Option (Bool)
  | 0, _, _, _, _, _, _, _, _ => none
  | k + 1, x0, x5, x6, x14, x15, x19, x23, x24 => if x24 < (x15.length : Int) then ((laws_b10At.f x0 (wrap64 (x24 + 2)) (wrap64 ((wrap64 (2 * x19)) + 1))).bind fun t217 => (if x24 = 0 then (if x23.length < 17592186044416 then (laws_FnSampled.l0 k x0 x5 x6 x14 x15 x19 (x23 ++ [0]) (wrap64 (x24 + 1))) else (none)) else (if x23.length < 17592186044416 then (laws_FnSampled.l0 k x0 x5 x6 x14 x15 x19 (x23 ++ [wrap64 (t217 - x19)]) (wrap64 (x24 + 1))) else (none)))) else ((impl_ReceiveBits.f k x14 x5 x6 x23).bind fun bt224 => (if bt224.2 = true then (if bt224.1.toList = x14.toList then (some (decide (x19 ≥ 0))) else (some false)) else (some false)))
end
def laws_FnSampled.f (k : Nat) (l0 : List Int) (l1 : List Int) : Option (Bool) := (laws_b10Long.f l0 l1).bind fun t190 => (if t190 = true then (some true) else ((laws_b10At.f l0 0 40).bind fun t191 => ((laws_b10At.f l0 1 5).bind fun t192 => ((laws_b10At.f l1 0 9).bind fun t193 => ((impl_LongestTolerated.f k (wrap64 (4 + t191)) (wrap64 ((wrap64 ((wrap64 (4 + t191)) + t192)) - 2))).bind fun bt194 => ((impl_IsTolerated.f k (wrap64 (4 + t191)) (wrap64 ((wrap64 ((wrap64 (4 + t191)) + t192)) - 2)) (wrap64 (1 + t193))).bind fun t196 => ((impl_TakeRange.f k (wrap64 (4 + t191)) (wrap64 (1 + t193))).bind fun bt197 => (if bt194.2 = true then (if (t196 != (decide (bt194.1 ≥ (wrap64 (1 + t193))))) = true then (laws_FnSampled.j0 k l0 l1 (wrap64 (4 + t191)) (wrap64 ((wrap64 ((wrap64 (4 + t191)) + t192)) - 2)) (wrap64 (1 + t193)) t196 true) else (if bt197.2.2 = true then (if bt197.1 > (wrap64 (4 + t191)) then (laws_FnSampled.j0 k l0 l1 (wrap64 (4 + t191)) (wrap64 ((wrap64 ((wrap64 (4 + t191)) + t192)) - 2)) (wrap64 (1 + t193)) t196 true) else (if bt197.2.1 < (wrap64 (4 + t191)) then (laws_FnSampled.j0 k l0 l1 (wrap64 (4 + t191)) (wrap64 ((wrap64 ((wrap64 (4 + t191)) + t192)) - 2)) (wrap64 (1 + t193)) t196 true) else (if (wrap64 ((wrap64 ((wrap64 (4 + t191)) + t192)) - 2)) ≥ bt197.1 then (laws_FnSampled.j0 k l0 l1 (wrap64 (4 + t191)) (wrap64 ((wrap64 ((wrap64 (4 + t191)) + t192)) - 2)) (wrap64 (1 + t193)) t196 (t196 != (decide ((wrap64 ((wrap64 ((wrap64 (4 + t191)) + t192)) - 2)) ≤ bt197.2.1)))) else (laws_FnSampled.j0 k l0 l1 (wrap64 (4 + t191)) (wrap64 ((wrap64 ((wrap64 (4 + t191)) + t192)) - 2)) (wrap64 (1 + t193)) t196 (t196 != false))))) else (laws_FnSampled.j0 k l0 l1 (wrap64 (4 + t191)) (wrap64 ((wrap64 ((wrap64 (4 + t191)) + t192)) - 2)) (wrap64 (1 + t193)) t196 true))) else (if (t196 != false) = true then (laws_FnSampled.j0 k l0 l1 (wrap64 (4 + t191)) (wrap64 ((wrap64 ((wrap64 (4 + t191)) + t192)) - 2)) (wrap64 (1 + t193)) t196 true) else (if bt197.2.2 = true then (if bt197.1 > (wrap64 (4 + t191)) then (laws_FnSampled.j0 k l0 l1 (wrap64 (4 + t191)) (wrap64 ((wrap64 ((wrap64 (4 + t191)) + t192)) - 2)) (wrap64 (1 + t193)) t196 true) else (if bt197.2.1 < (wrap64 (4 + t191)) then (laws_FnSampled.j0 k l0 l1 (wrap64 (4 + t191)) (wrap64 ((wrap64 ((wrap64 (4 + t191)) + t192)) - 2)) (wrap64 (1 + t193)) t196 true) else (if (wrap64 ((wrap64 ((wrap64 (4 + t191)) + t192)) - 2)) ≥ bt197.1 then (laws_FnSampled.j0 k l0 l1 (wrap64 (4 + t191)) (wrap64 ((wrap64 ((wrap64 (4 + t191)) + t192)) - 2)) (wrap64 (1 + t193)) t196 (t196 != (decide ((wrap64 ((wrap64 ((wrap64 (4 + t191)) + t192)) - 2)) ≤ bt197.2.1)))) else (laws_FnSampled.j0 k l0 l1 (wrap64 (4 + t191)) (wrap64 ((wrap64 ((wrap64 (4 + t191)) + t192)) - 2)) (wrap64 (1 + t193)) t196 (t196 != false))))) else (laws_FnSampled.j0 k l0 l1 (wrap64 (4 + t191)) (wrap64 ((wrap64 ((wrap64 (4 + t191)) + t192)) - 2)) (wrap64 (1 + t193)) t196 true)))))))))))
theorem laws_FnSampled.mono_l : ∀ k, (∀ y0 y1 y2 y3 y4 y5 y6, LeO (laws_FnSampled.j0 k y0 y1 y2 y3 y4 y5 y6) (laws_FnSampled.j0 (k + 1) y0 y1 y2 y3 y4 y5 y6)) ∧ (∀ y0 y1 y2 y3 y4 y5 y6 y7, LeO (laws_FnSampled.j1 k y0 y1 y2 y3 y4 y5 y6 y7) (laws_FnSampled.j1 (k + 1) y0 y1 y2 y3 y4 y5 y6 y7)) ∧ (∀ y0 y1 y2 y3 y4 y5 y6 y7, LeO (laws_FnSampled.j2 k y0 y1 y2 y3 y4 y5 y6 y7) (laws_FnSampled.j2 (k + 1) y0 y1 y2 y3 y4 y5 y6 y7)) ∧ (∀ y0 y1 y2 y3 y4 y5 y6 y7, LeO (laws_FnSampled.l0 k y0 y1 y2 y3 y4 y5 y6 y7) (laws_FnSampled.l0 (k + 1) y0 y1 y2 y3 y4 y5 y6 y7))
  | 0 => ⟨fun _ _ _ _ _ _ _ r h => by simp [laws_FnSampled.j0] at h, fun _ _ _ _ _ _ _ _ r h => by simp [laws_FnSampled.j1] at h, fun _ _ _ _ _ _ _ _ r h => by simp [laws_FnSampled.j2] at h, fun _ _ _ _ _ _ _ _ r h => by simp [laws_FnSampled.l0] at h⟩
  | k + 1 => by
    obtain ⟨ih0, ih1, ih2, ih3⟩ := laws_FnSampled.mono_l k
    refine ⟨?_, ?_, ?_, ?_⟩
    · intro y0 y1 y2 y3 y4 y5 y6
      unfold laws_FnSampled.j0
      repeat' first
      | (with_reducible exact ih0 _ _ _ _ _ _ _)
      | (with_reducible exact ih1 _ _ _ _ _ _ _ _)
      | (with_reducible exact ih2 _ _ _ _ _ _ _ _)
      | (with_reducible exact ih3 _ _ _ _ _ _ _ _)
      | (with_reducible exact impl_EdgesOf.mono _ _)
      | (with_reducible exact impl_IsTolerated.mono _ _ _ _)
      | (with_reducible exact impl_JitterTolerated.mono _ _ _ _)
      | (with_reducible exact impl_LongestTolerated.mono _ _ _)
      | (with_reducible exact impl_ReceiveBits.mono _ _ _ _ _)
      | (with_reducible exact impl_TakeRange.mono _ _ _)
      | (with_reducible exact spec_B10Runs.mono _ _ _)
      | (with_reducible exact spec_JitterTolerated.mono _ _ _ _)
      | (with_reducible exact LeO.refl _)
      | (with_reducible exact LeO.none _)
      | (with_reducible refine LeO.ite ?_ ?_)
      | (with_reducible refine LeO.bind ?_ (fun _ => ?_))
      | exact ih0 _ _ _ _ _ _ _
      | exact ih1 _ _ _ _ _ _ _ _
      | exact ih2 _ _ _ _ _ _ _ _
      | exact ih3 _ _ _ _ _ _ _ _
      | exact impl_EdgesOf.mono _ _
      | exact impl_IsTolerated.mono _ _ _ _
      | exact impl_JitterTolerated.mono _ _ _ _
      | exact impl_LongestTolerated.mono _ _ _
      | exact impl_ReceiveBits.mono _ _ _ _ _
      | exact impl_TakeRange.mono _ _ _
      | exact spec_B10Runs.mono _ _ _
      | exact spec_JitterTolerated.mono _ _ _ _
      | exact LeO.none _
      | refine LeO.ite ?_ ?_
      | refine LeO.bind ?_ (fun _ => ?_)
    · intro y0 y1 y2 y3 y4 y5 y6 y7
      unfold laws_FnSampled.j1
      repeat' first
      | (with_reducible exact ih0 _ _ _ _ _ _ _)
      | (with_reducible exact ih1 _ _ _ _ _ _ _ _)
      | (with_reducible exact ih2 _ _ _ _ _ _ _ _)
      | (with_reducible exact ih3 _ _ _ _ _ _ _ _)
      | (with_reducible exact impl_EdgesOf.mono _ _)
      | (with_reducible exact impl_IsTolerated.mono _ _ _ _)
      | (with_reducible exact impl_JitterTolerated.mono _ _ _ _)
      | (with_reducible exact impl_LongestTolerated.mono _ _ _)
      | (with_reducible exact impl_ReceiveBits.mono _ _ _ _ _)
      | (with_reducible exact impl_TakeRange.mono _ _ _)
      | (with_reducible exact spec_B10Runs.mono _ _ _)
      | (with_reducible exact spec_JitterTolerated.mono _ _ _ _)
      | (with_reducible exact LeO.refl _)
      | (with_reducible exact LeO.none _)
      | (with_reducible refine LeO.ite ?_ ?_)
      | (with_reducible refine LeO.bind ?_ (fun _ => ?_))
      | exact ih0 _ _ _ _ _ _ _
      | exact ih1 _ _ _ _ _ _ _ _
      | exact ih2 _ _ _ _ _ _ _ _
      | exact ih3 _ _ _ _ _ _ _ _
      | exact impl_EdgesOf.mono _ _
      | exact impl_IsTolerated.mono _ _ _ _
      | exact impl_JitterTolerated.mono _ _ _ _
      | exact impl_LongestTolerated.mono _ _ _
      | exact impl_ReceiveBits.mono _ _ _ _ _
      | exact impl_TakeRange.mono _ _ _
      | exact spec_B10Runs.mono _ _ _
      | exact spec_JitterTolerated.mono _ _ _ _
      | exact LeO.none _
      | refine LeO.ite ?_ ?_
      | refine LeO.bind ?_ (fun _ => ?_)
    · intro y0 y1 y2 y3 y4 y5 y6 y7
      unfold laws_FnSampled.j2
      repeat' first
      | (with_reducible exact ih0 _ _ _ _ _ _ _)
      | (with_reducible exact ih1 _ _ _ _ _ _ _ _)
      | (with_reducible exact ih2 _ _ _ _ _ _ _ _)
      | (with_reducible exact ih3 _ _ _ _ _ _ _ _)
      | (with_reducible exact impl_EdgesOf.mono _ _)
      | (with_reducible exact impl_IsTolerated.mono _ _ _ _)
      | (with_reducible exact impl_JitterTolerated.mono _ _ _ _)
      | (with_reducible exact impl_LongestTolerated.mono _ _ _)
      | (with_reducible exact impl_ReceiveBits.mono _ _ _ _ _)
      | (with_reducible exact impl_TakeRange.mono _ _ _)
      | (with_reducible exact spec_B10Runs.mono _ _ _)
      | (with_reducible exact spec_JitterTolerated.mono _ _ _ _)
      | (with_reducible exact LeO.refl _)
      | (with_reducible exact LeO.none _)
      | (with_reducible refine LeO.ite ?_ ?_)
      | (with_reducible refine LeO.bind ?_ (fun _ => ?_))
      | exact ih0 _ _ _ _ _ _ _
      | exact ih1 _ _ _ _ _ _ _ _
      | exact ih2 _ _ _ _ _ _ _ _
      | exact ih3 _ _ _ _ _ _ _ _
      | exact impl_EdgesOf.mono _ _
      | exact impl_IsTolerated.mono _ _ _ _
      | exact impl_JitterTolerated.mono _ _ _ _
      | exact impl_LongestTolerated.mono _ _ _
      | exact impl_ReceiveBits.mono _ _ _ _ _
      | exact impl_TakeRange.mono _ _ _
      | exact spec_B10Runs.mono _ _ _
      | exact spec_JitterTolerated.mono _ _ _ _
      | exact LeO.none _
      | refine LeO.ite ?_ ?_
      | refine LeO.bind ?_ (fun _ => ?_)
    · intro y0 y1 y2 y3 y4 y5 y6 y7
      unfold laws_FnSampled.l0
      repeat' first
      | (with_reducible exact ih0 _ _ _ _ _ _ _)
      | (with_reducible exact ih1 _ _ _ _ _ _ _ _)
      | (with_reducible exact ih2 _ _ _ _ _ _ _ _)
      | (with_reducible exact ih3 _ _ _ _ _ _ _ _)
      | (with_reducible exact impl_EdgesOf.mono _ _)
      | (with_reducible exact impl_IsTolerated.mono _ _ _ _)
      | (with_reducible exact impl_JitterTolerated.mono _ _ _ _)
      | (with_reducible exact impl_LongestTolerated.mono _ _ _)
      | (with_reducible exact impl_ReceiveBits.mono _ _ _ _ _)
      | (with_reducible exact impl_TakeRange.mono _ _ _)
      | (with_reducible exact spec_B10Runs.mono _ _ _)
      | (with_reducible exact spec_JitterTolerated.mono _ _ _ _)
      | (with_reducible exact LeO.refl _)
      | (with_reducible exact LeO.none _)
      | (with_reducible refine LeO.ite ?_ ?_)
      | (with_reducible refine LeO.bind ?_ (fun _ => ?_))
      | exact ih0 _ _ _ _ _ _ _
      | exact ih1 _ _ _ _ _ _ _ _
      | exact ih2 _ _ _ _ _ _ _ _
      | exact ih3 _ _ _ _ _ _ _ _
      | exact impl_EdgesOf.mono _ _
      | exact impl_IsTolerated.mono _ _ _ _
      | exact impl_JitterTolerated.mono _ _ _ _
      | exact impl_LongestTolerated.mono _ _ _
      | exact impl_ReceiveBits.mono _ _ _ _ _
      | exact impl_TakeRange.mono _ _ _
      | exact spec_B10Runs.mono _ _ _
      | exact spec_JitterTolerated.mono _ _ _ _
      | exact LeO.none _
      | refine LeO.ite ?_ ?_
      | refine LeO.bind ?_ (fun _ => ?_)
theorem laws_FnSampled.mono : ∀ a0 a1 k, LeO (laws_FnSampled.f k a0 a1) (laws_FnSampled.f (k + 1) a0 a1) := by
  intro a0 a1 k
  obtain ⟨ih0, ih1, ih2, ih3⟩ := laws_FnSampled.mono_l k
  unfold laws_FnSampled.f
  repeat' first
      | (with_reducible exact ih0 _ _ _ _ _ _ _)
      | (with_reducible exact ih1 _ _ _ _ _ _ _ _)
      | (with_reducible exact ih2 _ _ _ _ _ _ _ _)
      | (with_reducible exact ih3 _ _ _ _ _ _ _ _)
      | (with_reducible exact impl_EdgesOf.mono _ _)
      | (with_reducible exact impl_IsTolerated.mono _ _ _ _)
      | (with_reducible exact impl_JitterTolerated.mono _ _ _ _)
      | (with_reducible exact impl_LongestTolerated.mono _ _ _)
      | (with_reducible exact impl_ReceiveBits.mono _ _ _ _ _)
      | (with_reducible exact impl_TakeRange.mono _ _ _)
      | (with_reducible exact spec_B10Runs.mono _ _ _)
      | (with_reducible exact spec_JitterTolerated.mono _ _ _ _)
      | (with_reducible exact LeO.refl _)
      | (with_reducible exact LeO.none _)
      | (with_reducible refine LeO.ite ?_ ?_)
      | (with_reducible refine LeO.bind ?_ (fun _ => ?_))
      | exact ih0 _ _ _ _ _ _ _
      | exact ih1 _ _ _ _ _ _ _ _
      | exact ih2 _ _ _ _ _ _ _ _
      | exact ih3 _ _ _ _ _ _ _ _
      | exact impl_EdgesOf.mono _ _
      | exact impl_IsTolerated.mono _ _ _ _
      | exact impl_JitterTolerated.mono _ _ _ _
      | exact impl_LongestTolerated.mono _ _ _
      | exact impl_ReceiveBits.mono _ _ _ _ _
      | exact impl_TakeRange.mono _ _ _
      | exact spec_B10Runs.mono _ _ _
      | exact spec_JitterTolerated.mono _ _ _ _
      | exact LeO.none _
      | refine LeO.ite ?_ ?_
      | refine LeO.bind ?_ (fun _ => ?_)
set_option maxHeartbeats 8000000 in
set_option maxRecDepth 100000 in
theorem laws_FnSampled.calls (k : Nat) (A0 : Option Addr) (c0 : Nat) (l0 : List Int) (A1 : Option Addr) (c1 : Nat) (l1 : List Int) (r : Bool) (w : World) (hr0 : Kd.C (Kd.int .u8) w A0 l0.length l0) (hc0 : l0.length ≤ c0) (hr1 : Kd.C (Kd.int .u8) w A1 l1.length l1) (hc1 : l1.length ≤ c1) (h : laws_FnSampled.f k l0 l1 = some r) :
    Calls Tryd.prog 3 #[.slice A0 l0.length c0, .slice A1 l1.length c1] w fun e w' => e = .returned (.bool r) ∧ Below w.heap.size w w' := by
  have HR0 := Aside0.mk hr0
  have HC0 := Aside0.mk hc0
  clear hr0 hc0
  have HR1 := Aside0.mk hr1
  have HC1 := Aside0.mk hc1
  clear hr1 hc1
  have HB := Aside0.mk (Below.refl w.heap.size w)
  have H : ((laws_b10Long.f l0 l1).bind fun t190 => (if t190 = true then (some true) else ((laws_b10At.f l0 0 40).bind fun t191 => ((laws_b10At.f l0 1 5).bind fun t192 => ((laws_b10At.f l1 0 9).bind fun t193 => ((impl_LongestTolerated.f k (wrap64 (4 + t191)) (wrap64 ((wrap64 ((wrap64 (4 + t191)) + t192)) - 2))).bind fun bt194 => ((impl_IsTolerated.f k (wrap64 (4 + t191)) (wrap64 ((wrap64 ((wrap64 (4 + t191)) + t192)) - 2)) (wrap64 (1 + t193))).bind fun t196 => ((impl_TakeRange.f k (wrap64 (4 + t191)) (wrap64 (1 + t193))).bind fun bt197 => (if bt194.2 = true then (if (t196 != (decide (bt194.1 ≥ (wrap64 (1 + t193))))) = true then (laws_FnSampled.j0 k l0 l1 (wrap64 (4 + t191)) (wrap64 ((wrap64 ((wrap64 (4 + t191)) + t192)) - 2)) (wrap64 (1 + t193)) t196 true) else (if bt197.2.2 = true then (if bt197.1 > (wrap64 (4 + t191)) then (laws_FnSampled.j0 k l0 l1 (wrap64 (4 + t191)) (wrap64 ((wrap64 ((wrap64 (4 + t191)) + t192)) - 2)) (wrap64 (1 + t193)) t196 true) else (if bt197.2.1 < (wrap64 (4 + t191)) then (laws_FnSampled.j0 k l0 l1 (wrap64 (4 + t191)) (wrap64 ((wrap64 ((wrap64 (4 + t191)) + t192)) - 2)) (wrap64 (1 + t193)) t196 true) else (if (wrap64 ((wrap64 ((wrap64 (4 + t191)) + t192)) - 2)) ≥ bt197.1 then (laws_FnSampled.j0 k l0 l1 (wrap64 (4 + t191)) (wrap64 ((wrap64 ((wrap64 (4 + t191)) + t192)) - 2)) (wrap64 (1 + t193)) t196 (t196 != (decide ((wrap64 ((wrap64 ((wrap64 (4 + t191)) + t192)) - 2)) ≤ bt197.2.1)))) else (laws_FnSampled.j0 k l0 l1 (wrap64 (4 + t191)) (wrap64 ((wrap64 ((wrap64 (4 + t191)) + t192)) - 2)) (wrap64 (1 + t193)) t196 (t196 != false))))) else (laws_FnSampled.j0 k l0 l1 (wrap64 (4 + t191)) (wrap64 ((wrap64 ((wrap64 (4 + t191)) + t192)) - 2)) (wrap64 (1 + t193)) t196 true))) else (if (t196 != false) = true then (laws_FnSampled.j0 k l0 l1 (wrap64 (4 + t191)) (wrap64 ((wrap64 ((wrap64 (4 + t191)) + t192)) - 2)) (wrap64 (1 + t193)) t196 true) else (if bt197.2.2 = true then (if bt197.1 > (wrap64 (4 + t191)) then (laws_FnSampled.j0 k l0 l1 (wrap64 (4 + t191)) (wrap64 ((wrap64 ((wrap64 (4 + t191)) + t192)) - 2)) (wrap64 (1 + t193)) t196 true) else (if bt197.2.1 < (wrap64 (4 + t191)) then (laws_FnSampled.j0 k l0 l1 (wrap64 (4 + t191)) (wrap64 ((wrap64 ((wrap64 (4 + t191)) + t192)) - 2)) (wrap64 (1 + t193)) t196 true) else (if (wrap64 ((wrap64 ((wrap64 (4 + t191)) + t192)) - 2)) ≥ bt197.1 then (laws_FnSampled.j0 k l0 l1 (wrap64 (4 + t191)) (wrap64 ((wrap64 ((wrap64 (4 + t191)) + t192)) - 2)) (wrap64 (1 + t193)) t196 (t196 != (decide ((wrap64 ((wrap64 ((wrap64 (4 + t191)) + t192)) - 2)) ≤ bt197.2.1)))) else (laws_FnSampled.j0 k l0 l1 (wrap64 (4 + t191)) (wrap64 ((wrap64 ((wrap64 (4 + t191)) + t192)) - 2)) (wrap64 (1 + t193)) t196 (t196 != false))))) else (laws_FnSampled.j0 k l0 l1 (wrap64 (4 + t191)) (wrap64 ((wrap64 ((wrap64 (4 + t191)) + t192)) - 2)) (wrap64 (1 + t193)) t196 true)))))))))))) = some r := h
  clear h
  replace H := Option.bind_eq_some_iff.mp H
  obtain ⟨t190, A30, H⟩ := H
  replace H : (if t190 = true then (some true) else ((laws_b10At.f l0 0 40).bind fun t191 => ((laws_b10At.f l0 1 5).bind fun t192 => ((laws_b10At.f l1 0 9).bind fun t193 => ((impl_LongestTolerated.f k (wrap64 (4 + t191)) (wrap64 ((wrap64 ((wrap64 (4 + t191)) + t192)) - 2))).bind fun bt194 => ((impl_IsTolerated.f k (wrap64 (4 + t191)) (wrap64 ((wrap64 ((wrap64 (4 + t191)) + t192)) - 2)) (wrap64 (1 + t193))).bind fun t196 => ((impl_TakeRange.f k (wrap64 (4 + t191)) (wrap64 (1 + t193))).bind fun bt197 => (if bt194.2 = true then (if (t196 != (decide (bt194.1 ≥ (wrap64 (1 + t193))))) = true then (laws_FnSampled.j0 k l0 l1 (wrap64 (4 + t191)) (wrap64 ((wrap64 ((wrap64 (4 + t191)) + t192)) - 2)) (wrap64 (1 + t193)) t196 true) else (if bt197.2.2 = true then (if bt197.1 > (wrap64 (4 + t191)) then (laws_FnSampled.j0 k l0 l1 (wrap64 (4 + t191)) (wrap64 ((wrap64 ((wrap64 (4 + t191)) + t192)) - 2)) (wrap64 (1 + t193)) t196 true) else (if bt197.2.1 < (wrap64 (4 + t191)) then (laws_FnSampled.j0 k l0 l1 (wrap64 (4 + t191)) (wrap64 ((wrap64 ((wrap64 (4 + t191)) + t192)) - 2)) (wrap64 (1 + t193)) t196 true) else (if (wrap64 ((wrap64 ((wrap64 (4 + t191)) + t192)) - 2)) ≥ bt197.1 then (laws_FnSampled.j0 k l0 l1 (wrap64 (4 + t191)) (wrap64 ((wrap64 ((wrap64 (4 + t191)) + t192)) - 2)) (wrap64 (1 + t193)) t196 (t196 != (decide ((wrap64 ((wrap64 ((wrap64 (4 + t191)) + t192)) - 2)) ≤ bt197.2.1)))) else (laws_FnSampled.j0 k l0 l1 (wrap64 (4 + t191)) (wrap64 ((wrap64 ((wrap64 (4 + t191)) + t192)) - 2)) (wrap64 (1 + t193)) t196 (t196 != false))))) else (laws_FnSampled.j0 k l0 l1 (wrap64 (4 + t191)) (wrap64 ((wrap64 ((wrap64 (4 + t191)) + t192)) - 2)) (wrap64 (1 + t193)) t196 true))) else (if (t196 != false) = true then (laws_FnSampled.j0 k l0 l1 (wrap64 (4 + t191)) (wrap64 ((wrap64 ((wrap64 (4 + t191)) + t192)) - 2)) (wrap64 (1 + t193)) t196 true) else (if bt197.2.2 = true then (if bt197.1 > (wrap64 (4 + t191)) then (laws_FnSampled.j0 k l0 l1 (wrap64 (4 + t191)) (wrap64 ((wrap64 ((wrap64 (4 + t191)) + t192)) - 2)) (wrap64 (1 + t193)) t196 true) else (if bt197.2.1 < (wrap64 (4 + t191)) then (laws_FnSampled.j0 k l0 l1 (wrap64 (4 + t191)) (wrap64 ((wrap64 ((wrap64 (4 + t191)) + t192)) - 2)) (wrap64 (1 + t193)) t196 true) else (if (wrap64 ((wrap64 ((wrap64 (4 + t191)) + t192)) - 2)) ≥ bt197.1 then (laws_FnSampled.j0 k l0 l1 (wrap64 (4 + t191)) (wrap64 ((wrap64 ((wrap64 (4 + t191)) + t192)) - 2)) (wrap64 (1 + t193)) t196 (t196 != (decide ((wrap64 ((wrap64 ((wrap64 (4 + t191)) + t192)) - 2)) ≤ bt197.2.1)))) else (laws_FnSampled.j0 k l0 l1 (wrap64 (4 + t191)) (wrap64 ((wrap64 ((wrap64 (4 + t191)) + t192)) - 2)) (wrap64 (1 + t193)) t196 (t196 != false))))) else (laws_FnSampled.j0 k l0 l1 (wrap64 (4 + t191)) (wrap64 ((wrap64 ((wrap64 (4 + t191)) + t192)) - 2)) (wrap64 (1 + t193)) t196 true))))))))))) = some r := H
  have A3 := Aside0.mk A30
  clear A30
  by_cases c4 : t190 = true
  · subst c4
    have H1 : (some true) = some r := by rw [if_pos rfl] at H; exact H
    clear H
    have H := H1
    clear H1
    obtain rfl := Option.some.inj H
    go_enter Tryd.func3, Tryd.ntmps3
    go_wp2_with (first | ((with_reducible refine gate_callee (f := 11) rfl ?_); refine goesL_ (some 30) rfl rfl Tryd.func11 (by kernel_rfl) rfl #[.slice A0 l0.length c0, .slice A1 l1.length c1] rfl (by (try simp only [List.map_toArray, List.map_cons, List.map_nil]); first | done | rfl | (simp only [List.length_drop, List.length_take]; rfl)) ?_; (with_reducible refine (laws_b10Long.calls _ _ l0 _ _ l1 true _ ?side1 ?side2 ?side3 ?side4 A3.out).mono ?_); (case side1 => repeat (first | exact HR0.out | (with_reducible refine Kd.C_alloc ?_ _) | (with_reducible refine Kd.C_drewN ?_ _) | (with_reducible refine Kd.C_drew ?_))); (case side2 => exact HC0.out); (case side3 => repeat (first | exact HR1.out | (with_reducible refine Kd.C_alloc ?_ _) | (with_reducible refine Kd.C_drewN ?_ _) | (with_reducible refine Kd.C_drew ?_))); (case side4 => exact HC1.out); rintro e w' ⟨rfl, ⟨nd, rfl⟩⟩; refine ⟨_, rfl, ?_⟩))
    go_ret
    exact ⟨by first | rfl | (simp [errW_none, errW_some] <;> rfl) | (simp [*, errW_none, errW_some] <;> rfl), by repeat (first | (with_reducible first | exact HB.out | apply below_alloc | apply pw_below_drewN | apply below_drew1) | exact HB.out)⟩
  · replace c4 := Bool.eq_false_iff.mpr c4
    subst c4
    have H1 : ((laws_b10At.f l0 0 40).bind fun t191 => ((laws_b10At.f l0 1 5).bind fun t192 => ((laws_b10At.f l1 0 9).bind fun t193 => ((impl_LongestTolerated.f k (wrap64 (4 + t191)) (wrap64 ((wrap64 ((wrap64 (4 + t191)) + t192)) - 2))).bind fun bt194 => ((impl_IsTolerated.f k (wrap64 (4 + t191)) (wrap64 ((wrap64 ((wrap64 (4 + t191)) + t192)) - 2)) (wrap64 (1 + t193))).bind fun t196 => ((impl_TakeRange.f k (wrap64 (4 + t191)) (wrap64 (1 + t193))).bind fun bt197 => (if bt194.2 = true then (if (t196 != (decide (bt194.1 ≥ (wrap64 (1 + t193))))) = true then (laws_FnSampled.j0 k l0 l1 (wrap64 (4 + t191)) (wrap64 ((wrap64 ((wrap64 (4 + t191)) + t192)) - 2)) (wrap64 (1 + t193)) t196 true) else (if bt197.2.2 = true then (if bt197.1 > (wrap64 (4 + t191)) then (laws_FnSampled.j0 k l0 l1 (wrap64 (4 + t191)) (wrap64 ((wrap64 ((wrap64 (4 + t191)) + t192)) - 2)) (wrap64 (1 + t193)) t196 true) else (if bt197.2.1 < (wrap64 (4 + t191)) then (laws_FnSampled.j0 k l0 l1 (wrap64 (4 + t191)) (wrap64 ((wrap64 ((wrap64 (4 + t191)) + t192)) - 2)) (wrap64 (1 + t193)) t196 true) else (if (wrap64 ((wrap64 ((wrap64 (4 + t191)) + t192)) - 2)) ≥ bt197.1 then (laws_FnSampled.j0 k l0 l1 (wrap64 (4 + t191)) (wrap64 ((wrap64 ((wrap64 (4 + t191)) + t192)) - 2)) (wrap64 (1 + t193)) t196 (t196 != (decide ((wrap64 ((wrap64 ((wrap64 (4 + t191)) + t192)) - 2)) ≤ bt197.2.1)))) else (laws_FnSampled.j0 k l0 l1 (wrap64 (4 + t191)) (wrap64 ((wrap64 ((wrap64 (4 + t191)) + t192)) - 2)) (wrap64 (1 + t193)) t196 (t196 != false))))) else (laws_FnSampled.j0 k l0 l1 (wrap64 (4 + t191)) (wrap64 ((wrap64 ((wrap64 (4 + t191)) + t192)) - 2)) (wrap64 (1 + t193)) t196 true))) else (if (t196 != false) = true then (laws_FnSampled.j0 k l0 l1 (wrap64 (4 + t191)) (wrap64 ((wrap64 ((wrap64 (4 + t191)) + t192)) - 2)) (wrap64 (1 + t193)) t196 true) else (if bt197.2.2 = true then (if bt197.1 > (wrap64 (4 + t191)) then (laws_FnSampled.j0 k l0 l1 (wrap64 (4 + t191)) (wrap64 ((wrap64 ((wrap64 (4 + t191)) + t192)) - 2)) (wrap64 (1 + t193)) t196 true) else (if bt197.2.1 < (wrap64 (4 + t191)) then (laws_FnSampled.j0 k l0 l1 (wrap64 (4 + t191)) (wrap64 ((wrap64 ((wrap64 (4 + t191)) + t192)) - 2)) (wrap64 (1 + t193)) t196 true) else (if (wrap64 ((wrap64 ((wrap64 (4 + t191)) + t192)) - 2)) ≥ bt197.1 then (laws_FnSampled.j0 k l0 l1 (wrap64 (4 + t191)) (wrap64 ((wrap64 ((wrap64 (4 + t191)) + t192)) - 2)) (wrap64 (1 + t193)) t196 (t196 != (decide ((wrap64 ((wrap64 ((wrap64 (4 + t191)) + t192)) - 2)) ≤ bt197.2.1)))) else (laws_FnSampled.j0 k l0 l1 (wrap64 (4 + t191)) (wrap64 ((wrap64 ((wrap64 (4 + t191)) + t192)) - 2)) (wrap64 (1 + t193)) t196 (t196 != false))))) else (laws_FnSampled.j0 k l0 l1 (wrap64 (4 + t191)) (wrap64 ((wrap64 ((wrap64 (4 + t191)) + t192)) - 2)) (wrap64 (1 + t193)) t196 true)))))))))) = some r := by rw [if_neg (show ¬ (false = true) by decide)] at H; exact H
    clear H
    have H := H1
    clear H1
    replace H := Option.bind_eq_some_iff.mp H
    obtain ⟨t191, A50, H⟩ := H
    replace H : ((laws_b10At.f l0 1 5).bind fun t192 => ((laws_b10At.f l1 0 9).bind fun t193 => ((impl_LongestTolerated.f k (wrap64 (4 + t191)) (wrap64 ((wrap64 ((wrap64 (4 + t191)) + t192)) - 2))).bind fun bt194 => ((impl_IsTolerated.f k (wrap64 (4 + t191)) (wrap64 ((wrap64 ((wrap64 (4 + t191)) + t192)) - 2)) (wrap64 (1 + t193))).bind fun t196 => ((impl_TakeRange.f k (wrap64 (4 + t191)) (wrap64 (1 + t193))).bind fun bt197 => (if bt194.2 = true then (if (t196 != (decide (bt194.1 ≥ (wrap64 (1 + t193))))) = true then (laws_FnSampled.j0 k l0 l1 (wrap64 (4 + t191)) (wrap64 ((wrap64 ((wrap64 (4 + t191)) + t192)) - 2)) (wrap64 (1 + t193)) t196 true) else (if bt197.2.2 = true then (if bt197.1 > (wrap64 (4 + t191)) then (laws_FnSampled.j0 k l0 l1 (wrap64 (4 + t191)) (wrap64 ((wrap64 ((wrap64 (4 + t191)) + t192)) - 2)) (wrap64 (1 + t193)) t196 true) else (if bt197.2.1 < (wrap64 (4 + t191)) then (laws_FnSampled.j0 k l0 l1 (wrap64 (4 + t191)) (wrap64 ((wrap64 ((wrap64 (4 + t191)) + t192)) - 2)) (wrap64 (1 + t193)) t196 true) else (if (wrap64 ((wrap64 ((wrap64 (4 + t191)) + t192)) - 2)) ≥ bt197.1 then (laws_FnSampled.j0 k l0 l1 (wrap64 (4 + t191)) (wrap64 ((wrap64 ((wrap64 (4 + t191)) + t192)) - 2)) (wrap64 (1 + t193)) t196 (t196 != (decide ((wrap64 ((wrap64 ((wrap64 (4 + t191)) + t192)) - 2)) ≤ bt197.2.1)))) else (laws_FnSampled.j0 k l0 l1 (wrap64 (4 + t191)) (wrap64 ((wrap64 ((wrap64 (4 + t191)) + t192)) - 2)) (wrap64 (1 + t193)) t196 (t196 != false))))) else (laws_FnSampled.j0 k l0 l1 (wrap64 (4 + t191)) (wrap64 ((wrap64 ((wrap64 (4 + t191)) + t192)) - 2)) (wrap64 (1 + t193)) t196 true))) else (if (t196 != false) = true then (laws_FnSampled.j0 k l0 l1 (wrap64 (4 + t191)) (wrap64 ((wrap64 ((wrap64 (4 + t191)) + t192)) - 2)) (wrap64 (1 + t193)) t196 true) else (if bt197.2.2 = true then (if bt197.1 > (wrap64 (4 + t191)) then (laws_FnSampled.j0 k l0 l1 (wrap64 (4 + t191)) (wrap64 ((wrap64 ((wrap64 (4 + t191)) + t192)) - 2)) (wrap64 (1 + t193)) t196 true) else (if bt197.2.1 < (wrap64 (4 + t191)) then (laws_FnSampled.j0 k l0 l1 (wrap64 (4 + t191)) (wrap64 ((wrap64 ((wrap64 (4 + t191)) + t192)) - 2)) (wrap64 (1 + t193)) t196 true) else (if (wrap64 ((wrap64 ((wrap64 (4 + t191)) + t192)) - 2)) ≥ bt197.1 then (laws_FnSampled.j0 k l0 l1 (wrap64 (4 + t191)) (wrap64 ((wrap64 ((wrap64 (4 + t191)) + t192)) - 2)) (wrap64 (1 + t193)) t196 (t196 != (decide ((wrap64 ((wrap64 ((wrap64 (4 + t191)) + t192)) - 2)) ≤ bt197.2.1)))) else (laws_FnSampled.j0 k l0 l1 (wrap64 (4 + t191)) (wrap64 ((wrap64 ((wrap64 (4 + t191)) + t192)) - 2)) (wrap64 (1 + t193)) t196 (t196 != false))))) else (laws_FnSampled.j0 k l0 l1 (wrap64 (4 + t191)) (wrap64 ((wrap64 ((wrap64 (4 + t191)) + t192)) - 2)) (wrap64 (1 + t193)) t196 true))))))))) = some r := H
    have A5 := Aside0.mk A50
    clear A50
    replace H := Option.bind_eq_some_iff.mp H
    obtain ⟨t192, A60, H⟩ := H
    replace H : ((laws_b10At.f l1 0 9).bind fun t193 => ((impl_LongestTolerated.f k (wrap64 (4 + t191)) (wrap64 ((wrap64 ((wrap64 (4 + t191)) + t192)) - 2))).bind fun bt194 => ((impl_IsTolerated.f k (wrap64 (4 + t191)) (wrap64 ((wrap64 ((wrap64 (4 + t191)) + t192)) - 2)) (wrap64 (1 + t193))).bind fun t196 => ((impl_TakeRange.f k (wrap64 (4 + t191)) (wrap64 (1 + t193))).bind fun bt197 => (if bt194.2 = true then (if (t196 != (decide (bt194.1 ≥ (wrap64 (1 + t193))))) = true then (laws_FnSampled.j0 k l0 l1 (wrap64 (4 + t191)) (wrap64 ((wrap64 ((wrap64 (4 + t191)) + t192)) - 2)) (wrap64 (1 + t193)) t196 true) else (if bt197.2.2 = true then (if bt197.1 > (wrap64 (4 + t191)) then (laws_FnSampled.j0 k l0 l1 (wrap64 (4 + t191)) (wrap64 ((wrap64 ((wrap64 (4 + t191)) + t192)) - 2)) (wrap64 (1 + t193)) t196 true) else (if bt197.2.1 < (wrap64 (4 + t191)) then (laws_FnSampled.j0 k l0 l1 (wrap64 (4 + t191)) (wrap64 ((wrap64 ((wrap64 (4 + t191)) + t192)) - 2)) (wrap64 (1 + t193)) t196 true) else (if (wrap64 ((wrap64 ((wrap64 (4 + t191)) + t192)) - 2)) ≥ bt197.1 then (laws_FnSampled.j0 k l0 l1 (wrap64 (4 + t191)) (wrap64 ((wrap64 ((wrap64 (4 + t191)) + t192)) - 2)) (wrap64 (1 + t193)) t196 (t196 != (decide ((wrap64 ((wrap64 ((wrap64 (4 + t191)) + t192)) - 2)) ≤ bt197.2.1)))) else (laws_FnSampled.j0 k l0 l1 (wrap64 (4 + t191)) (wrap64 ((wrap64 ((wrap64 (4 + t191)) + t192)) - 2)) (wrap64 (1 + t193)) t196 (t196 != false))))) else (laws_FnSampled.j0 k l0 l1 (wrap64 (4 + t191)) (wrap64 ((wrap64 ((wrap64 (4 + t191)) + t192)) - 2)) (wrap64 (1 + t193)) t196 true))) else (if (t196 != false) = true then (laws_FnSampled.j0 k l0 l1 (wrap64 (4 + t191)) (wrap64 ((wrap64 ((wrap64 (4 + t191)) + t192)) - 2)) (wrap64 (1 + t193)) t196 true) else (if bt197.2.2 = true then (if bt197.1 > (wrap64 (4 + t191)) then (laws_FnSampled.j0 k l0 l1 (wrap64 (4 + t191)) (wrap64 ((wrap64 ((wrap64 (4 + t191)) + t192)) - 2)) (wrap64 (1 + t193)) t196 true) else (if bt197.2.1 < (wrap64 (4 + t191)) then (laws_FnSampled.j0 k l0 l1 (wrap64 (4 + t191)) (wrap64 ((wrap64 ((wrap64 (4 + t191)) + t192)) - 2)) (wrap64 (1 + t193)) t196 true) else (if (wrap64 ((wrap64 ((wrap64 (4 + t191)) + t192)) - 2)) ≥ bt197.1 then (laws_FnSampled.j0 k l0 l1 (wrap64 (4 + t191)) (wrap64 ((wrap64 ((wrap64 (4 + t191)) + t192)) - 2)) (wrap64 (1 + t193)) t196 (t196 != (decide ((wrap64 ((wrap64 ((wrap64 (4 + t191)) + t192)) - 2)) ≤ bt197.2.1)))) else (laws_FnSampled.j0 k l0 l1 (wrap64 (4 + t191)) (wrap64 ((wrap64 ((wrap64 (4 + t191)) + t192)) - 2)) (wrap64 (1 + t193)) t196 (t196 != false))))) else (laws_FnSampled.j0 k l0 l1 (wrap64 (4 + t191)) (wrap64 ((wrap64 ((wrap64 (4 + t191)) + t192)) - 2)) (wrap64 (1 + t193)) t196 true)))))))) = some r := H
    have A6 := Aside0.mk A60
    clear A60
    replace H := Option.bind_eq_some_iff.mp H
    obtain ⟨t193, A70, H⟩ := H
    replace H : ((impl_LongestTolerated.f k (wrap64 (4 + t191)) (wrap64 ((wrap64 ((wrap64 (4 + t191)) + t192)) - 2))).bind fun bt194 => ((impl_IsTolerated.f k (wrap64 (4 + t191)) (wrap64 ((wrap64 ((wrap64 (4 + t191)) + t192)) - 2)) (wrap64 (1 + t193))).bind fun t196 => ((impl_TakeRange.f k (wrap64 (4 + t191)) (wrap64 (1 + t193))).bind fun bt197 => (if bt194.2 = true then (if (t196 != (decide (bt194.1 ≥ (wrap64 (1 + t193))))) = true then (laws_FnSampled.j0 k l0 l1 (wrap64 (4 + t191)) (wrap64 ((wrap64 ((wrap64 (4 + t191)) + t192)) - 2)) (wrap64 (1 + t193)) t196 true) else (if bt197.2.2 = true then (if bt197.1 > (wrap64 (4 + t191)) then (laws_FnSampled.j0 k l0 l1 (wrap64 (4 + t191)) (wrap64 ((wrap64 ((wrap64 (4 + t191)) + t192)) - 2)) (wrap64 (1 + t193)) t196 true) else (if bt197.2.1 < (wrap64 (4 + t191)) then (laws_FnSampled.j0 k l0 l1 (wrap64 (4 + t191)) (wrap64 ((wrap64 ((wrap64 (4 + t191)) + t192)) - 2)) (wrap64 (1 + t193)) t196 true) else (if (wrap64 ((wrap64 ((wrap64 (4 + t191)) + t192)) - 2)) ≥ bt197.1 then (laws_FnSampled.j0 k l0 l1 (wrap64 (4 + t191)) (wrap64 ((wrap64 ((wrap64 (4 + t191)) + t192)) - 2)) (wrap64 (1 + t193)) t196 (t196 != (decide ((wrap64 ((wrap64 ((wrap64 (4 + t191)) + t192)) - 2)) ≤ bt197.2.1)))) else (laws_FnSampled.j0 k l0 l1 (wrap64 (4 + t191)) (wrap64 ((wrap64 ((wrap64 (4 + t191)) + t192)) - 2)) (wrap64 (1 + t193)) t196 (t196 != false))))) else (laws_FnSampled.j0 k l0 l1 (wrap64 (4 + t191)) (wrap64 ((wrap64 ((wrap64 (4 + t191)) + t192)) - 2)) (wrap64 (1 + t193)) t196 true))) else (if (t196 != false) = true then (laws_FnSampled.j0 k l0 l1 (wrap64 (4 + t191)) (wrap64 ((wrap64 ((wrap64 (4 + t191)) + t192)) - 2)) (wrap64 (1 + t193)) t196 true) else (if bt197.2.2 = true then (if bt197.1 > (wrap64 (4 + t191)) then (laws_FnSampled.j0 k l0 l1 (wrap64 (4 + t191)) (wrap64 ((wrap64 ((wrap64 (4 + t191)) + t192)) - 2)) (wrap64 (1 + t193)) t196 true) else (if bt197.2.1 < (wrap64 (4 + t191)) then (laws_FnSampled.j0 k l0 l1 (wrap64 (4 + t191)) (wrap64 ((wrap64 ((wrap64 (4 + t191)) + t192)) - 2)) (wrap64 (1 + t193)) t196 true) else (if (wrap64 ((wrap64 ((wrap64 (4 + t191)) + t192)) - 2)) ≥ bt197.1 then (laws_FnSampled.j0 k l0 l1 (wrap64 (4 + t191)) (wrap64 ((wrap64 ((wrap64 (4 + t191)) + t192)) - 2)) (wrap64 (1 + t193)) t196 (t196 != (decide ((wrap64 ((wrap64 ((wrap64 (4 + t191)) + t192)) - 2)) ≤ bt197.2.1)))) else (laws_FnSampled.j0 k l0 l1 (wrap64 (4 + t191)) (wrap64 ((wrap64 ((wrap64 (4 + t191)) + t192)) - 2)) (wrap64 (1 + t193)) t196 (t196 != false))))) else (laws_FnSampled.j0 k l0 l1 (wrap64 (4 + t191)) (wrap64 ((wrap64 ((wrap64 (4 + t191)) + t192)) - 2)) (wrap64 (1 + t193)) t196 true))))))) = some r := H
    have A7 := Aside0.mk A70
    clear A70
    replace H := Option.bind_eq_some_iff.mp H
    obtain ⟨⟨t194, t195⟩, A80, H⟩ := H
    replace H : ((impl_IsTolerated.f k (wrap64 (4 + t191)) (wrap64 ((wrap64 ((wrap64 (4 + t191)) + t192)) - 2)) (wrap64 (1 + t193))).bind fun t196 => ((impl_TakeRange.f k (wrap64 (4 + t191)) (wrap64 (1 + t193))).bind fun bt197 => (if t195 = true then (if (t196 != (decide (t194 ≥ (wrap64 (1 + t193))))) = true then (laws_FnSampled.j0 k l0 l1 (wrap64 (4 + t191)) (wrap64 ((wrap64 ((wrap64 (4 + t191)) + t192)) - 2)) (wrap64 (1 + t193)) t196 true) else (if bt197.2.2 = true then (if bt197.1 > (wrap64 (4 + t191)) then (laws_FnSampled.j0 k l0 l1 (wrap64 (4 + t191)) (wrap64 ((wrap64 ((wrap64 (4 + t191)) + t192)) - 2)) (wrap64 (1 + t193)) t196 true) else (if bt197.2.1 < (wrap64 (4 + t191)) then (laws_FnSampled.j0 k l0 l1 (wrap64 (4 + t191)) (wrap64 ((wrap64 ((wrap64 (4 + t191)) + t192)) - 2)) (wrap64 (1 + t193)) t196 true) else (if (wrap64 ((wrap64 ((wrap64 (4 + t191)) + t192)) - 2)) ≥ bt197.1 then (laws_FnSampled.j0 k l0 l1 (wrap64 (4 + t191)) (wrap64 ((wrap64 ((wrap64 (4 + t191)) + t192)) - 2)) (wrap64 (1 + t193)) t196 (t196 != (decide ((wrap64 ((wrap64 ((wrap64 (4 + t191)) + t192)) - 2)) ≤ bt197.2.1)))) else (laws_FnSampled.j0 k l0 l1 (wrap64 (4 + t191)) (wrap64 ((wrap64 ((wrap64 (4 + t191)) + t192)) - 2)) (wrap64 (1 + t193)) t196 (t196 != false))))) else (laws_FnSampled.j0 k l0 l1 (wrap64 (4 + t191)) (wrap64 ((wrap64 ((wrap64 (4 + t191)) + t192)) - 2)) (wrap64 (1 + t193)) t196 true))) else (if (t196 != false) = true then (laws_FnSampled.j0 k l0 l1 (wrap64 (4 + t191)) (wrap64 ((wrap64 ((wrap64 (4 + t191)) + t192)) - 2)) (wrap64 (1 + t193)) t196 true) else (if bt197.2.2 = true then (if bt197.1 > (wrap64 (4 + t191)) then (laws_FnSampled.j0 k l0 l1 (wrap64 (4 + t191)) (wrap64 ((wrap64 ((wrap64 (4 + t191)) + t192)) - 2)) (wrap64 (1 + t193)) t196 true) else (if bt197.2.1 < (wrap64 (4 + t191)) then (laws_FnSampled.j0 k l0 l1 (wrap64 (4 + t191)) (wrap64 ((wrap64 ((wrap64 (4 + t191)) + t192)) - 2)) (wrap64 (1 + t193)) t196 true) else (if (wrap64 ((wrap64 ((wrap64 (4 + t191)) + t192)) - 2)) ≥ bt197.1 then (laws_FnSampled.j0 k l0 l1 (wrap64 (4 + t191)) (wrap64 ((wrap64 ((wrap64 (4 + t191)) + t192)) - 2)) (wrap64 (1 + t193)) t196 (t196 != (decide ((wrap64 ((wrap64 ((wrap64 (4 + t191)) + t192)) - 2)) ≤ bt197.2.1)))) else (laws_FnSampled.j0 k l0 l1 (wrap64 (4 + t191)) (wrap64 ((wrap64 ((wrap64 (4 + t191)) + t192)) - 2)) (wrap64 (1 + t193)) t196 (t196 != false))))) else (laws_FnSampled.j0 k l0 l1 (wrap64 (4 + t191)) (wrap64 ((wrap64 ((wrap64 (4 + t191)) + t192)) - 2)) (wrap64 (1 + t193)) t196 true)))))) = some r := H
    have A8 := Aside0.mk A80
    clear A80
    replace H := Option.bind_eq_some_iff.mp H
    obtain ⟨t196, A90, H⟩ := H
    replace H : ((impl_TakeRange.f k (wrap64 (4 + t191)) (wrap64 (1 + t193))).bind fun bt197 => (if t195 = true then (if (t196 != (decide (t194 ≥ (wrap64 (1 + t193))))) = true then (laws_FnSampled.j0 k l0 l1 (wrap64 (4 + t191)) (wrap64 ((wrap64 ((wrap64 (4 + t191)) + t192)) - 2)) (wrap64 (1 + t193)) t196 true) else (if bt197.2.2 = true then (if bt197.1 > (wrap64 (4 + t191)) then (laws_FnSampled.j0 k l0 l1 (wrap64 (4 + t191)) (wrap64 ((wrap64 ((wrap64 (4 + t191)) + t192)) - 2)) (wrap64 (1 + t193)) t196 true) else (if bt197.2.1 < (wrap64 (4 + t191)) then (laws_FnSampled.j0 k l0 l1 (wrap64 (4 + t191)) (wrap64 ((wrap64 ((wrap64 (4 + t191)) + t192)) - 2)) (wrap64 (1 + t193)) t196 true) else (if (wrap64 ((wrap64 ((wrap64 (4 + t191)) + t192)) - 2)) ≥ bt197.1 then (laws_FnSampled.j0 k l0 l1 (wrap64 (4 + t191)) (wrap64 ((wrap64 ((wrap64 (4 + t191)) + t192)) - 2)) (wrap64 (1 + t193)) t196 (t196 != (decide ((wrap64 ((wrap64 ((wrap64 (4 + t191)) + t192)) - 2)) ≤ bt197.2.1)))) else (laws_FnSampled.j0 k l0 l1 (wrap64 (4 + t191)) (wrap64 ((wrap64 ((wrap64 (4 + t191)) + t192)) - 2)) (wrap64 (1 + t193)) t196 (t196 != false))))) else (laws_FnSampled.j0 k l0 l1 (wrap64 (4 + t191)) (wrap64 ((wrap64 ((wrap64 (4 + t191)) + t192)) - 2)) (wrap64 (1 + t193)) t196 true))) else (if (t196 != false) = true then (laws_FnSampled.j0 k l0 l1 (wrap64 (4 + t191)) (wrap64 ((wrap64 ((wrap64 (4 + t191)) + t192)) - 2)) (wrap64 (1 + t193)) t196 true) else (if bt197.2.2 = true then (if bt197.1 > (wrap64 (4 + t191)) then (laws_FnSampled.j0 k l0 l1 (wrap64 (4 + t191)) (wrap64 ((wrap64 ((wrap64 (4 + t191)) + t192)) - 2)) (wrap64 (1 + t193)) t196 true) else (if bt197.2.1 < (wrap64 (4 + t191)) then (laws_FnSampled.j0 k l0 l1 (wrap64 (4 + t191)) (wrap64 ((wrap64 ((wrap64 (4 + t191)) + t192)) - 2)) (wrap64 (1 + t193)) t196 true) else (if (wrap64 ((wrap64 ((wrap64 (4 + t191)) + t192)) - 2)) ≥ bt197.1 then (laws_FnSampled.j0 k l0 l1 (wrap64 (4 + t191)) (wrap64 ((wrap64 ((wrap64 (4 + t191)) + t192)) - 2)) (wrap64 (1 + t193)) t196 (t196 != (decide ((wrap64 ((wrap64 ((wrap64 (4 + t191)) + t192)) - 2)) ≤ bt197.2.1)))) else (laws_FnSampled.j0 k l0 l1 (wrap64 (4 + t191)) (wrap64 ((wrap64 ((wrap64 (4 + t191)) + t192)) - 2)) (wrap64 (1 + t193)) t196 (t196 != false))))) else (laws_FnSampled.j0 k l0 l1 (wrap64 (4 + t191)) (wrap64 ((wrap64 ((wrap64 (4 + t191)) + t192)) - 2)) (wrap64 (1 + t193)) t196 true))))) = some r := H
    have A9 := Aside0.mk A90
    clear A90
    replace H := Option.bind_eq_some_iff.mp H
    obtain ⟨⟨t197, t198, t199⟩, A100, H⟩ := H
    replace H : (if t195 = true then (if (t196 != (decide (t194 ≥ (wrap64 (1 + t193))))) = true then (laws_FnSampled.j0 k l0 l1 (wrap64 (4 + t191)) (wrap64 ((wrap64 ((wrap64 (4 + t191)) + t192)) - 2)) (wrap64 (1 + t193)) t196 true) else (if t199 = true then (if t197 > (wrap64 (4 + t191)) then (laws_FnSampled.j0 k l0 l1 (wrap64 (4 + t191)) (wrap64 ((wrap64 ((wrap64 (4 + t191)) + t192)) - 2)) (wrap64 (1 + t193)) t196 true) else (if t198 < (wrap64 (4 + t191)) then (laws_FnSampled.j0 k l0 l1 (wrap64 (4 + t191)) (wrap64 ((wrap64 ((wrap64 (4 + t191)) + t192)) - 2)) (wrap64 (1 + t193)) t196 true) else (if (wrap64 ((wrap64 ((wrap64 (4 + t191)) + t192)) - 2)) ≥ t197 then (laws_FnSampled.j0 k l0 l1 (wrap64 (4 + t191)) (wrap64 ((wrap64 ((wrap64 (4 + t191)) + t192)) - 2)) (wrap64 (1 + t193)) t196 (t196 != (decide ((wrap64 ((wrap64 ((wrap64 (4 + t191)) + t192)) - 2)) ≤ t198)))) else (laws_FnSampled.j0 k l0 l1 (wrap64 (4 + t191)) (wrap64 ((wrap64 ((wrap64 (4 + t191)) + t192)) - 2)) (wrap64 (1 + t193)) t196 (t196 != false))))) else (laws_FnSampled.j0 k l0 l1 (wrap64 (4 + t191)) (wrap64 ((wrap64 ((wrap64 (4 + t191)) + t192)) - 2)) (wrap64 (1 + t193)) t196 true))) else (if (t196 != false) = true then (laws_FnSampled.j0 k l0 l1 (wrap64 (4 + t191)) (wrap64 ((wrap64 ((wrap64 (4 + t191)) + t192)) - 2)) (wrap64 (1 + t193)) t196 true) else (if t199 = true then (if t197 > (wrap64 (4 + t191)) then (laws_FnSampled.j0 k l0 l1 (wrap64 (4 + t191)) (wrap64 ((wrap64 ((wrap64 (4 + t191)) + t192)) - 2)) (wrap64 (1 + t193)) t196 true) else (if t198 < (wrap64 (4 + t191)) then (laws_FnSampled.j0 k l0 l1 (wrap64 (4 + t191)) (wrap64 ((wrap64 ((wrap64 (4 + t191)) + t192)) - 2)) (wrap64 (1 + t193)) t196 true) else (if (wrap64 ((wrap64 ((wrap64 (4 + t191)) + t192)) - 2)) ≥ t197 then (laws_FnSampled.j0 k l0 l1 (wrap64 (4 + t191)) (wrap64 ((wrap64 ((wrap64 (4 + t191)) + t192)) - 2)) (wrap64 (1 + t193)) t196 (t196 != (decide ((wrap64 ((wrap64 ((wrap64 (4 + t191)) + t192)) - 2)) ≤ t198)))) else (laws_FnSampled.j0 k l0 l1 (wrap64 (4 + t191)) (wrap64 ((wrap64 ((wrap64 (4 + t191)) + t192)) - 2)) (wrap64 (1 + t193)) t196 (t196 != false))))) else (laws_FnSampled.j0 k l0 l1 (wrap64 (4 + t191)) (wrap64 ((wrap64 ((wrap64 (4 + t191)) + t192)) - 2)) (wrap64 (1 + t193)) t196 true)))) = some r := H
    have A10 := Aside0.mk A100
    clear A100
    have HC11 := Aside0.mk H
    clear H
    go_enter Tryd.func3, Tryd.ntmps3
    go_upto_region 9 with (first | ((with_reducible refine gate_callee (f := 11) rfl ?_); refine goesL_ (some 30) rfl rfl Tryd.func11 (by kernel_rfl) rfl #[.slice A0 l0.length c0, .slice A1 l1.length c1] rfl (by (try simp only [List.map_toArray, List.map_cons, List.map_nil]); first | done | rfl | (simp only [List.length_drop, List.length_take]; rfl)) ?_; (with_reducible refine (laws_b10Long.calls _ _ l0 _ _ l1 false _ ?side1 ?side2 ?side3 ?side4 A3.out).mono ?_); (case side1 => repeat (first | exact HR0.out | (with_reducible refine Kd.C_alloc ?_ _) | (with_reducible refine Kd.C_drewN ?_ _) | (with_reducible refine Kd.C_drew ?_))); (case side2 => exact HC0.out); (case side3 => repeat (first | exact HR1.out | (with_reducible refine Kd.C_alloc ?_ _) | (with_reducible refine Kd.C_drewN ?_ _) | (with_reducible refine Kd.C_drew ?_))); (case side4 => exact HC1.out); rintro e w' ⟨rfl, ⟨nd, rfl⟩⟩; refine ⟨_, rfl, ?_⟩) | ((with_reducible refine gate_callee (f := 12) rfl ?_); refine goesL_ (some 32) rfl rfl Tryd.func12 (by kernel_rfl) rfl #[.slice A0 l0.length c0, .int .i64 0, .int .i64 40] rfl (by (try simp only [List.map_toArray, List.map_cons, List.map_nil]); first | done | rfl | (simp only [List.length_drop, List.length_take]; rfl)) ?_; (with_reducible refine (laws_b10At.calls _ _ l0 0 40 t191 _ ?side1 ?side2 A5.out).mono ?_); (case side1 => repeat (first | exact HR0.out | (with_reducible refine Kd.C_alloc ?_ _) | (with_reducible refine Kd.C_drewN ?_ _) | (with_reducible refine Kd.C_drew ?_))); (case side2 => exact HC0.out); rintro e w' ⟨rfl, ⟨nd, rfl⟩⟩; refine ⟨_, rfl, ?_⟩) | ((with_reducible refine gate_callee (f := 12) rfl ?_); refine goesL_ (some 36) rfl rfl Tryd.func12 (by kernel_rfl) rfl #[.slice A0 l0.length c0, .int .i64 1, .int .i64 5] rfl (by (try simp only [List.map_toArray, List.map_cons, List.map_nil]); first | done | rfl | (simp only [List.length_drop, List.length_take]; rfl)) ?_; (with_reducible refine (laws_b10At.calls _ _ l0 1 5 t192 _ ?side1 ?side2 A6.out).mono ?_); (case side1 => repeat (first | exact HR0.out | (with_reducible refine Kd.C_alloc ?_ _) | (with_reducible refine Kd.C_drewN ?_ _) | (with_reducible refine Kd.C_drew ?_))); (case side2 => exact HC0.out); rintro e w' ⟨rfl, ⟨nd, rfl⟩⟩; refine ⟨_, rfl, ?_⟩) | ((with_reducible refine gate_callee (f := 12) rfl ?_); refine goesL_ (some 40) rfl rfl Tryd.func12 (by kernel_rfl) rfl #[.slice A1 l1.length c1, .int .i64 0, .int .i64 9] rfl (by (try simp only [List.map_toArray, List.map_cons, List.map_nil]); first | done | rfl | (simp only [List.length_drop, List.length_take]; rfl)) ?_; (with_reducible refine (laws_b10At.calls _ _ l1 0 9 t193 _ ?side1 ?side2 A7.out).mono ?_); (case side1 => repeat (first | exact HR1.out | (with_reducible refine Kd.C_alloc ?_ _) | (with_reducible refine Kd.C_drewN ?_ _) | (with_reducible refine Kd.C_drew ?_))); (case side2 => exact HC1.out); rintro e w' ⟨rfl, ⟨nd, rfl⟩⟩; refine ⟨_, rfl, ?_⟩) | ((with_reducible refine gate_callee (f := 13) rfl ?_); refine goesL_ (some 45) rfl rfl Tryd.func13 (by kernel_rfl) rfl #[.int .i64 (wrap64 (4 + t191)), .int .i64 (wrap64 ((wrap64 ((wrap64 (4 + t191)) + t192)) - 2))] rfl (by (try simp only [List.map_toArray, List.map_cons, List.map_nil]); first | done | rfl | (simp only [List.length_drop, List.length_take]; rfl)) ?_; (with_reducible refine (impl_LongestTolerated.calls k (wrap64 (4 + t191)) (wrap64 ((wrap64 ((wrap64 (4 + t191)) + t192)) - 2)) t194 t195 _ A8.out).mono ?_); rintro e w' ⟨rfl, ⟨nd, rfl⟩⟩; refine ⟨_, rfl, ?_⟩) | ((with_reducible refine gate_callee (f := 14) rfl ?_); refine goesL_ (some 51) rfl rfl Tryd.func14 (by kernel_rfl) rfl #[.int .i64 (wrap64 (4 + t191)), .int .i64 (wrap64 ((wrap64 ((wrap64 (4 + t191)) + t192)) - 2)), .int .i64 (wrap64 (1 + t193))] rfl (by (try simp only [List.map_toArray, List.map_cons, List.map_nil]); first | done | rfl | (simp only [List.length_drop, List.length_take]; rfl)) ?_; (with_reducible refine (impl_IsTolerated.calls k (wrap64 (4 + t191)) (wrap64 ((wrap64 ((wrap64 (4 + t191)) + t192)) - 2)) (wrap64 (1 + t193)) t196 _ A9.out).mono ?_); rintro e w' ⟨rfl, ⟨nd, rfl⟩⟩; refine ⟨_, rfl, ?_⟩) | ((with_reducible refine gate_callee (f := 15) rfl ?_); refine goesL_ (some 55) rfl rfl Tryd.func15 (by kernel_rfl) rfl #[.int .i64 (wrap64 (4 + t191)), .int .i64 (wrap64 (1 + t193))] rfl (by (try simp only [List.map_toArray, List.map_cons, List.map_nil]); first | done | rfl | (simp only [List.length_drop, List.length_take]; rfl)) ?_; (with_reducible refine (impl_TakeRange.calls k (wrap64 (4 + t191)) (wrap64 (1 + t193)) t197 t198 t199 _ A10.out).mono ?_); rintro e w' ⟨rfl, ⟨nd, rfl⟩⟩; refine ⟨_, rfl, ?_⟩))
    (try simp only [Act.put, List.setIfInBounds_toArray, List.set_cons_zero, List.set_cons_succ])
    go_cut [92] (fun v92 wc => ∃ (kq : Nat) (x92_10 : Bool), v92 = .bool x92_10 ∧ Aside0 (laws_FnSampled.j0 kq l0 l1 (wrap64 (4 + t191)) (wrap64 ((wrap64 ((wrap64 (4 + t191)) + t192)) - 2)) (wrap64 (1 + t193)) t196 x92_10 = some r) ∧ Aside0 (kq ≤ k) ∧ Aside0 (Below w.heap.size w wc))
    case first =>
      have H := HC11.out
      clear HC11
      by_cases c12 : t195 = true
      · subst c12
        have H1 : (if (t196 != (decide (t194 ≥ (wrap64 (1 + t193))))) = true then (laws_FnSampled.j0 k l0 l1 (wrap64 (4 + t191)) (wrap64 ((wrap64 ((wrap64 (4 + t191)) + t192)) - 2)) (wrap64 (1 + t193)) t196 true) else (if t199 = true then (if t197 > (wrap64 (4 + t191)) then (laws_FnSampled.j0 k l0 l1 (wrap64 (4 + t191)) (wrap64 ((wrap64 ((wrap64 (4 + t191)) + t192)) - 2)) (wrap64 (1 + t193)) t196 true) else (if t198 < (wrap64 (4 + t191)) then (laws_FnSampled.j0 k l0 l1 (wrap64 (4 + t191)) (wrap64 ((wrap64 ((wrap64 (4 + t191)) + t192)) - 2)) (wrap64 (1 + t193)) t196 true) else (if (wrap64 ((wrap64 ((wrap64 (4 + t191)) + t192)) - 2)) ≥ t197 then (laws_FnSampled.j0 k l0 l1 (wrap64 (4 + t191)) (wrap64 ((wrap64 ((wrap64 (4 + t191)) + t192)) - 2)) (wrap64 (1 + t193)) t196 (t196 != (decide ((wrap64 ((wrap64 ((wrap64 (4 + t191)) + t192)) - 2)) ≤ t198)))) else (laws_FnSampled.j0 k l0 l1 (wrap64 (4 + t191)) (wrap64 ((wrap64 ((wrap64 (4 + t191)) + t192)) - 2)) (wrap64 (1 + t193)) t196 (t196 != false))))) else (laws_FnSampled.j0 k l0 l1 (wrap64 (4 + t191)) (wrap64 ((wrap64 ((wrap64 (4 + t191)) + t192)) - 2)) (wrap64 (1 + t193)) t196 true))) = some r := by rw [if_pos rfl] at H; exact H
        clear H
        have H := H1
        clear H1
        by_cases c13 : (t196 != (decide (t194 ≥ (wrap64 (1 + t193))))) = true
        · rw [if_pos c13] at H
          have c13b0 : (t196 != (decide (t194 ≥ (wrap64 (1 + t193))))) = true := c13
          (try (have c13b1 : decide (t196 = (decide (t194 ≥ (wrap64 (1 + t193))))) = false := by simpa using c13))
          (try (have c13b2 : (t196 == (decide (t194 ≥ (wrap64 (1 + t193))))) = false := by simpa using c13))
          (try (have c13b3 : ¬ (t196 = (decide (t194 ≥ (wrap64 (1 + t193))))) := by simpa using c13))
          clear c13
          (first | rw [c13b0] | (simp only [i64_w, i32_w]; rw [c13b0]) | skip)
          have H' := Aside0.mk H
          clear H
          go_wp2
          go_meet
          case rel => exact ⟨_, (true), (by first | rfl | (simp; done) | (simp [*]; done)), H', ⟨by first | omega | exact Nat.le_refl _⟩, ⟨by repeat (first | (with_reducible first | exact HB.out | apply below_alloc | apply pw_below_drewN | apply below_drew1) | exact HB.out)⟩⟩
        · rw [if_neg c13] at H
          have c13b0 : (t196 != (decide (t194 ≥ (wrap64 (1 + t193))))) = false := by simpa using c13
          (try (have c13b1 : decide (t196 = (decide (t194 ≥ (wrap64 (1 + t193))))) = true := by simpa using c13))
          (try (have c13b2 : (t196 == (decide (t194 ≥ (wrap64 (1 + t193))))) = true := by simpa using c13))
          clear c13
          (first | rw [c13b0] | (simp only [i64_w, i32_w]; rw [c13b0]) | skip)
          by_cases c14 : t199 = true
          · subst c14
            have H1 : (if t197 > (wrap64 (4 + t191)) then (laws_FnSampled.j0 k l0 l1 (wrap64 (4 + t191)) (wrap64 ((wrap64 ((wrap64 (4 + t191)) + t192)) - 2)) (wrap64 (1 + t193)) t196 true) else (if t198 < (wrap64 (4 + t191)) then (laws_FnSampled.j0 k l0 l1 (wrap64 (4 + t191)) (wrap64 ((wrap64 ((wrap64 (4 + t191)) + t192)) - 2)) (wrap64 (1 + t193)) t196 true) else (if (wrap64 ((wrap64 ((wrap64 (4 + t191)) + t192)) - 2)) ≥ t197 then (laws_FnSampled.j0 k l0 l1 (wrap64 (4 + t191)) (wrap64 ((wrap64 ((wrap64 (4 + t191)) + t192)) - 2)) (wrap64 (1 + t193)) t196 (t196 != (decide ((wrap64 ((wrap64 ((wrap64 (4 + t191)) + t192)) - 2)) ≤ t198)))) else (laws_FnSampled.j0 k l0 l1 (wrap64 (4 + t191)) (wrap64 ((wrap64 ((wrap64 (4 + t191)) + t192)) - 2)) (wrap64 (1 + t193)) t196 (t196 != false))))) = some r := by rw [if_pos rfl] at H; exact H
            clear H
            have H := H1
            clear H1
            by_cases c15 : t197 > (wrap64 (4 + t191))
            · rw [if_pos c15] at H
              have c15b0 : decide ((wrap64 (4 + t191)) < t197) = true := decide_eq_true c15
              clear c15
              have H' := Aside0.mk H
              clear H
              go_wp2
              go_meet
              case rel => exact ⟨_, (true), (by first | rfl | (simp; done) | (simp [*]; done)), H', ⟨by first | omega | exact Nat.le_refl _⟩, ⟨by repeat (first | (with_reducible first | exact HB.out | apply below_alloc | apply pw_below_drewN | apply below_drew1) | exact HB.out)⟩⟩
            · rw [if_neg c15] at H
              have c15b0 : decide ((wrap64 (4 + t191)) < t197) = false := decide_eq_false c15
              clear c15
              by_cases c16 : t198 < (wrap64 (4 + t191))
              · rw [if_pos c16] at H
                have c16b0 : decide (t198 < (wrap64 (4 + t191))) = true := decide_eq_true c16
                clear c16
                have H' := Aside0.mk H
                clear H
                go_wp2
                go_meet
                case rel => exact ⟨_, (true), (by first | rfl | (simp; done) | (simp [*]; done)), H', ⟨by first | omega | exact Nat.le_refl _⟩, ⟨by repeat (first | (with_reducible first | exact HB.out | apply below_alloc | apply pw_below_drewN | apply below_drew1) | exact HB.out)⟩⟩
              · rw [if_neg c16] at H
                have c16b0 : decide (t198 < (wrap64 (4 + t191))) = false := decide_eq_false c16
                clear c16
                by_cases c17 : (wrap64 ((wrap64 ((wrap64 (4 + t191)) + t192)) - 2)) ≥ t197
                · rw [if_pos c17] at H
                  have c17b0 : decide (t197 ≤ (wrap64 ((wrap64 ((wrap64 (4 + t191)) + t192)) - 2))) = true := decide_eq_true c17
                  clear c17
                  have H' := Aside0.mk H
                  clear H
                  go_wp2
                  go_meet
                  case rel => exact ⟨_, ((t196 != (decide ((wrap64 ((wrap64 ((wrap64 (4 + t191)) + t192)) - 2)) ≤ t198)))), (by first | rfl | (simp; done) | (simp [*]; done)), H', ⟨by first | omega | exact Nat.le_refl _⟩, ⟨by repeat (first | (with_reducible first | exact HB.out | apply below_alloc | apply pw_below_drewN | apply below_drew1) | exact HB.out)⟩⟩
                · rw [if_neg c17] at H
                  have c17b0 : decide (t197 ≤ (wrap64 ((wrap64 ((wrap64 (4 + t191)) + t192)) - 2))) = false := decide_eq_false c17
                  clear c17
                  have H' := Aside0.mk H
                  clear H
                  go_wp2
                  go_meet
                  case rel => exact ⟨_, ((t196 != false)), (by first | rfl | (simp; done) | (simp [*]; done)), H', ⟨by first | omega | exact Nat.le_refl _⟩, ⟨by repeat (first | (with_reducible first | exact HB.out | apply below_alloc | apply pw_below_drewN | apply below_drew1) | exact HB.out)⟩⟩
          · replace c14 := Bool.eq_false_iff.mpr c14
            subst c14
            have H1 : (laws_FnSampled.j0 k l0 l1 (wrap64 (4 + t191)) (wrap64 ((wrap64 ((wrap64 (4 + t191)) + t192)) - 2)) (wrap64 (1 + t193)) t196 true) = some r := by rw [if_neg (show ¬ (false = true) by decide)] at H; exact H
            clear H
            have H := H1
            clear H1
            have H' := Aside0.mk H
            clear H
            go_wp2
            go_meet
            case rel => exact ⟨_, (true), (by first | rfl | (simp; done) | (simp [*]; done)), H', ⟨by first | omega | exact Nat.le_refl _⟩, ⟨by repeat (first | (with_reducible first | exact HB.out | apply below_alloc | apply pw_below_drewN | apply below_drew1) | exact HB.out)⟩⟩
      · replace c12 := Bool.eq_false_iff.mpr c12
        subst c12
        have H1 : (if (t196 != false) = true then (laws_FnSampled.j0 k l0 l1 (wrap64 (4 + t191)) (wrap64 ((wrap64 ((wrap64 (4 + t191)) + t192)) - 2)) (wrap64 (1 + t193)) t196 true) else (if t199 = true then (if t197 > (wrap64 (4 + t191)) then (laws_FnSampled.j0 k l0 l1 (wrap64 (4 + t191)) (wrap64 ((wrap64 ((wrap64 (4 + t191)) + t192)) - 2)) (wrap64 (1 + t193)) t196 true) else (if t198 < (wrap64 (4 + t191)) then (laws_FnSampled.j0 k l0 l1 (wrap64 (4 + t191)) (wrap64 ((wrap64 ((wrap64 (4 + t191)) + t192)) - 2)) (wrap64 (1 + t193)) t196 true) else (if (wrap64 ((wrap64 ((wrap64 (4 + t191)) + t192)) - 2)) ≥ t197 then (laws_FnSampled.j0 k l0 l1 (wrap64 (4 + t191)) (wrap64 ((wrap64 ((wrap64 (4 + t191)) + t192)) - 2)) (wrap64 (1 + t193)) t196 (t196 != (decide ((wrap64 ((wrap64 ((wrap64 (4 + t191)) + t192)) - 2)) ≤ t198)))) else (laws_FnSampled.j0 k l0 l1 (wrap64 (4 + t191)) (wrap64 ((wrap64 ((wrap64 (4 + t191)) + t192)) - 2)) (wrap64 (1 + t193)) t196 (t196 != false))))) else (laws_FnSampled.j0 k l0 l1 (wrap64 (4 + t191)) (wrap64 ((wrap64 ((wrap64 (4 + t191)) + t192)) - 2)) (wrap64 (1 + t193)) t196 true))) = some r := by rw [if_neg (show ¬ (false = true) by decide)] at H; exact H
        clear H
        have H := H1
        clear H1
        by_cases c18 : (t196 != false) = true
        · rw [if_pos c18] at H
          have c18b0 : (t196 != false) = true := c18
          (try (have c18b1 : decide (t196 = false) = false := by simpa using c18))
          (try (have c18b2 : (t196 == false) = false := by simpa using c18))
          (try (have c18b3 : ¬ (t196 = false) := by simpa using c18))
          clear c18
          have H' := Aside0.mk H
          clear H
          go_wp2
          go_meet
          case rel => exact ⟨_, (true), (by first | rfl | (simp; done) | (simp [*]; done)), H', ⟨by first | omega | exact Nat.le_refl _⟩, ⟨by repeat (first | (with_reducible first | exact HB.out | apply below_alloc | apply pw_below_drewN | apply below_drew1) | exact HB.out)⟩⟩
        · rw [if_neg c18] at H
          have c18b0 : (t196 != false) = false := by simpa using c18
          (try (have c18b1 : decide (t196 = false) = true := by simpa using c18))
          (try (have c18b2 : (t196 == false) = true := by simpa using c18))
          clear c18
          by_cases c19 : t199 = true
          · subst c19
            have H1 : (if t197 > (wrap64 (4 + t191)) then (laws_FnSampled.j0 k l0 l1 (wrap64 (4 + t191)) (wrap64 ((wrap64 ((wrap64 (4 + t191)) + t192)) - 2)) (wrap64 (1 + t193)) t196 true) else (if t198 < (wrap64 (4 + t191)) then (laws_FnSampled.j0 k l0 l1 (wrap64 (4 + t191)) (wrap64 ((wrap64 ((wrap64 (4 + t191)) + t192)) - 2)) (wrap64 (1 + t193)) t196 true) else (if (wrap64 ((wrap64 ((wrap64 (4 + t191)) + t192)) - 2)) ≥ t197 then (laws_FnSampled.j0 k l0 l1 (wrap64 (4 + t191)) (wrap64 ((wrap64 ((wrap64 (4 + t191)) + t192)) - 2)) (wrap64 (1 + t193)) t196 (t196 != (decide ((wrap64 ((wrap64 ((wrap64 (4 + t191)) + t192)) - 2)) ≤ t198)))) else (laws_FnSampled.j0 k l0 l1 (wrap64 (4 + t191)) (wrap64 ((wrap64 ((wrap64 (4 + t191)) + t192)) - 2)) (wrap64 (1 + t193)) t196 (t196 != false))))) = some r := by rw [if_pos rfl] at H; exact H
            clear H
            have H := H1
            clear H1
            by_cases c20 : t197 > (wrap64 (4 + t191))
            · rw [if_pos c20] at H
              have c20b0 : decide ((wrap64 (4 + t191)) < t197) = true := decide_eq_true c20
              clear c20
              have H' := Aside0.mk H
              clear H
              go_wp2
              go_meet
              case rel => exact ⟨_, (true), (by first | rfl | (simp; done) | (simp [*]; done)), H', ⟨by first | omega | exact Nat.le_refl _⟩, ⟨by repeat (first | (with_reducible first | exact HB.out | apply below_alloc | apply pw_below_drewN | apply below_drew1) | exact HB.out)⟩⟩
            · rw [if_neg c20] at H
              have c20b0 : decide ((wrap64 (4 + t191)) < t197) = false := decide_eq_false c20
              clear c20
              by_cases c21 : t198 < (wrap64 (4 + t191))
              · rw [if_pos c21] at H
                have c21b0 : decide (t198 < (wrap64 (4 + t191))) = true := decide_eq_true c21
                clear c21
                have H' := Aside0.mk H
                clear H
                go_wp2
                go_meet
                case rel => exact ⟨_, (true), (by first | rfl | (simp; done) | (simp [*]; done)), H', ⟨by first | omega | exact Nat.le_refl _⟩, ⟨by repeat (first | (with_reducible first | exact HB.out | apply below_alloc | apply pw_below_drewN | apply below_drew1) | exact HB.out)⟩⟩
              · rw [if_neg c21] at H
                have c21b0 : decide (t198 < (wrap64 (4 + t191))) = false := decide_eq_false c21
                clear c21
                by_cases c22 : (wrap64 ((wrap64 ((wrap64 (4 + t191)) + t192)) - 2)) ≥ t197
                · rw [if_pos c22] at H
                  have c22b0 : decide (t197 ≤ (wrap64 ((wrap64 ((wrap64 (4 + t191)) + t192)) - 2))) = true := decide_eq_true c22
                  clear c22
                  have H' := Aside0.mk H
                  clear H
                  go_wp2
                  go_meet
                  case rel => exact ⟨_, ((t196 != (decide ((wrap64 ((wrap64 ((wrap64 (4 + t191)) + t192)) - 2)) ≤ t198)))), (by first | rfl | (simp; done) | (simp [*]; done)), H', ⟨by first | omega | exact Nat.le_refl _⟩, ⟨by repeat (first | (with_reducible first | exact HB.out | apply below_alloc | apply pw_below_drewN | apply below_drew1) | exact HB.out)⟩⟩
                · rw [if_neg c22] at H
                  have c22b0 : decide (t197 ≤ (wrap64 ((wrap64 ((wrap64 (4 + t191)) + t192)) - 2))) = false := decide_eq_false c22
                  clear c22
                  have H' := Aside0.mk H
                  clear H
                  go_wp2
                  go_meet
                  case rel => exact ⟨_, ((t196 != false)), (by first | rfl | (simp; done) | (simp [*]; done)), H', ⟨by first | omega | exact Nat.le_refl _⟩, ⟨by repeat (first | (with_reducible first | exact HB.out | apply below_alloc | apply pw_below_drewN | apply below_drew1) | exact HB.out)⟩⟩
          · replace c19 := Bool.eq_false_iff.mpr c19
            subst c19
            have H1 : (laws_FnSampled.j0 k l0 l1 (wrap64 (4 + t191)) (wrap64 ((wrap64 ((wrap64 (4 + t191)) + t192)) - 2)) (wrap64 (1 + t193)) t196 true) = some r := by rw [if_neg (show ¬ (false = true) by decide)] at H; exact H
            clear H
            have H := H1
            clear H1
            have H' := Aside0.mk H
            clear H
            go_wp2
            go_meet
            case rel => exact ⟨_, (true), (by first | rfl | (simp; done) | (simp [*]; done)), H', ⟨by first | omega | exact Nat.le_refl _⟩, ⟨by repeat (first | (with_reducible first | exact HB.out | apply below_alloc | apply pw_below_drewN | apply below_drew1) | exact HB.out)⟩⟩
    case rest =>
      clear HC11
      try clear c1
      try clear c2
      try clear p2
      try clear c3
      try clear c4
      try clear p6
      try clear c11
      try clear c12
      try clear c13
      try clear c13b0
      try clear c13b1
      try clear c13b2
      try clear c14
      try clear c15
      try clear c15b0
      try clear c16
      try clear c16b0
      try clear c17
      try clear c17b0
      try clear c18
      try clear c18b0
      try clear c18b1
      try clear c18b2
      try clear c19
      try clear c20
      try clear c20b0
      try clear c21
      try clear c21b0
      try clear c22
      try clear c22b0
      obtain ⟨kq, x92_10, rfl, HA, HJ10, HB⟩ := hcut
      cases kq with
      | zero => exact absurd HA.out (by simp [laws_FnSampled.j0])
      | succ kj10 =>
        have H := HA.out
        clear HA
        simp only [laws_FnSampled.j0] at H
        by_cases c23 : x92_10 = true
        · subst c23
          have H1 : (some false) = some r := by rw [if_pos rfl] at H; exact H
          clear H
          have H := H1
          clear H1
          obtain rfl := Option.some.inj H
          go_wp2
          go_ret
          exact ⟨by first | rfl | (simp [errW_none, errW_some] <;> rfl) | (simp [*, errW_none, errW_some] <;> rfl), by repeat (first | (with_reducible first | exact HB.out | apply below_alloc | apply pw_below_drewN | apply below_drew1) | exact HB.out)⟩
        · replace c23 := Bool.eq_false_iff.mpr c23
          subst c23
          have H1 : ((spec_B10Runs.f kj10 l1 (wrap64 (1 + t193))).bind fun t200 => ((impl_EdgesOf.f kj10 t200).bind fun bt201 => (if 0 ≤ (bt201.1.length : Int) then (if ((bt201.1.length : Int) : Int).toNat ≤ 35184372088832 then ((impl_ReceiveBits.f kj10 t200 (wrap64 (4 + t191)) (wrap64 ((wrap64 ((wrap64 (4 + t191)) + t192)) - 2)) (List.replicate ((bt201.1.length : Int) : Int).toNat 0)).bind fun bt208 => (if bt201.2 = true then (if bt208.2 = true then (if t196 = true then (laws_FnSampled.j1 kj10 l0 (wrap64 (4 + t191)) (wrap64 ((wrap64 ((wrap64 (4 + t191)) + t192)) - 2)) (wrap64 (1 + t193)) t196 t200 bt201.1 (bt208.1.toList != t200.toList)) else (laws_FnSampled.j1 kj10 l0 (wrap64 (4 + t191)) (wrap64 ((wrap64 ((wrap64 (4 + t191)) + t192)) - 2)) (wrap64 (1 + t193)) t196 t200 bt201.1 false)) else (laws_FnSampled.j1 kj10 l0 (wrap64 (4 + t191)) (wrap64 ((wrap64 ((wrap64 (4 + t191)) + t192)) - 2)) (wrap64 (1 + t193)) t196 t200 bt201.1 true)) else (laws_FnSampled.j1 kj10 l0 (wrap64 (4 + t191)) (wrap64 ((wrap64 ((wrap64 (4 + t191)) + t192)) - 2)) (wrap64 (1 + t193)) t196 t200 bt201.1 true))) else (none)) else (none)))) = some r := by rw [if_neg (show ¬ (false = true) by decide)] at H; exact H
          clear H
          have H := H1
          clear H1
          replace H := Option.bind_eq_some_iff.mp H
          obtain ⟨t200, A240, H⟩ := H
          replace H : ((impl_EdgesOf.f kj10 t200).bind fun bt201 => (if 0 ≤ (bt201.1.length : Int) then (if ((bt201.1.length : Int) : Int).toNat ≤ 35184372088832 then ((impl_ReceiveBits.f kj10 t200 (wrap64 (4 + t191)) (wrap64 ((wrap64 ((wrap64 (4 + t191)) + t192)) - 2)) (List.replicate ((bt201.1.length : Int) : Int).toNat 0)).bind fun bt208 => (if bt201.2 = true then (if bt208.2 = true then (if t196 = true then (laws_FnSampled.j1 kj10 l0 (wrap64 (4 + t191)) (wrap64 ((wrap64 ((wrap64 (4 + t191)) + t192)) - 2)) (wrap64 (1 + t193)) t196 t200 bt201.1 (bt208.1.toList != t200.toList)) else (laws_FnSampled.j1 kj10 l0 (wrap64 (4 + t191)) (wrap64 ((wrap64 ((wrap64 (4 + t191)) + t192)) - 2)) (wrap64 (1 + t193)) t196 t200 bt201.1 false)) else (laws_FnSampled.j1 kj10 l0 (wrap64 (4 + t191)) (wrap64 ((wrap64 ((wrap64 (4 + t191)) + t192)) - 2)) (wrap64 (1 + t193)) t196 t200 bt201.1 true)) else (laws_FnSampled.j1 kj10 l0 (wrap64 (4 + t191)) (wrap64 ((wrap64 ((wrap64 (4 + t191)) + t192)) - 2)) (wrap64 (1 + t193)) t196 t200 bt201.1 true))) else (none)) else (none))) = some r := H
          have A24 := Aside0.mk A240
          clear A240
          replace H := Option.bind_eq_some_iff.mp H
          obtain ⟨⟨t201, t202⟩, A250, H⟩ := H
          replace H : (if 0 ≤ (t201.length : Int) then (if ((t201.length : Int) : Int).toNat ≤ 35184372088832 then ((impl_ReceiveBits.f kj10 t200 (wrap64 (4 + t191)) (wrap64 ((wrap64 ((wrap64 (4 + t191)) + t192)) - 2)) (List.replicate ((t201.length : Int) : Int).toNat 0)).bind fun bt208 => (if t202 = true then (if bt208.2 = true then (if t196 = true then (laws_FnSampled.j1 kj10 l0 (wrap64 (4 + t191)) (wrap64 ((wrap64 ((wrap64 (4 + t191)) + t192)) - 2)) (wrap64 (1 + t193)) t196 t200 t201 (bt208.1.toList != t200.toList)) else (laws_FnSampled.j1 kj10 l0 (wrap64 (4 + t191)) (wrap64 ((wrap64 ((wrap64 (4 + t191)) + t192)) - 2)) (wrap64 (1 + t193)) t196 t200 t201 false)) else (laws_FnSampled.j1 kj10 l0 (wrap64 (4 + t191)) (wrap64 ((wrap64 ((wrap64 (4 + t191)) + t192)) - 2)) (wrap64 (1 + t193)) t196 t200 t201 true)) else (laws_FnSampled.j1 kj10 l0 (wrap64 (4 + t191)) (wrap64 ((wrap64 ((wrap64 (4 + t191)) + t192)) - 2)) (wrap64 (1 + t193)) t196 t200 t201 true))) else (none)) else (none)) = some r := H
          have A25 := Aside0.mk A250
          clear A250
          by_cases c26 : 0 ≤ (t201.length : Int)
          · rw [if_pos c26] at H
            have c26b0 := eq_true c26
            have c26b1 : decide (0 ≤ (t201.length : Int)) = true := decide_eq_true c26
            clear c26
            by_cases c27 : ((t201.length : Int) : Int).toNat ≤ 35184372088832
            · rw [if_pos c27] at H
              have c27b0 := eq_true c27
              have c27b1 : decide (((t201.length : Int) : Int).toNat ≤ 35184372088832) = true := decide_eq_true c27
              clear c27
              obtain ⟨y205, hy205⟩ : ∃ y_ : List Int, y_ = (List.replicate ((t201.length : Int) : Int).toNat 0) := ⟨_, rfl⟩
              replace H : ((impl_ReceiveBits.f kj10 t200 (wrap64 (4 + t191)) (wrap64 ((wrap64 ((wrap64 (4 + t191)) + t192)) - 2)) y205).bind fun bt208 => (if t202 = true then (if bt208.2 = true then (if t196 = true then (laws_FnSampled.j1 kj10 l0 (wrap64 (4 + t191)) (wrap64 ((wrap64 ((wrap64 (4 + t191)) + t192)) - 2)) (wrap64 (1 + t193)) t196 t200 t201 (bt208.1.toList != t200.toList)) else (laws_FnSampled.j1 kj10 l0 (wrap64 (4 + t191)) (wrap64 ((wrap64 ((wrap64 (4 + t191)) + t192)) - 2)) (wrap64 (1 + t193)) t196 t200 t201 false)) else (laws_FnSampled.j1 kj10 l0 (wrap64 (4 + t191)) (wrap64 ((wrap64 ((wrap64 (4 + t191)) + t192)) - 2)) (wrap64 (1 + t193)) t196 t200 t201 true)) else (laws_FnSampled.j1 kj10 l0 (wrap64 (4 + t191)) (wrap64 ((wrap64 ((wrap64 (4 + t191)) + t192)) - 2)) (wrap64 (1 + t193)) t196 t200 t201 true))) = some r := by first | (rw [hy205]; with_reducible exact H) | (have H2_ := (Option.bind_some _ _).symm.trans H; rw [hy205]; with_reducible exact H2_) | (have H2_ := (Option.bind_some _ _).symm.trans H; with_reducible exact H2_) | with_reducible exact H | (rw [hy205]; exact H) | exact H
              have Ny205 := Aside0.mk hy205
              clear hy205
              replace H := Option.bind_eq_some_iff.mp H
              obtain ⟨⟨t208, t209⟩, A280, H⟩ := H
              replace H : (if t202 = true then (if t209 = true then (if t196 = true then (laws_FnSampled.j1 kj10 l0 (wrap64 (4 + t191)) (wrap64 ((wrap64 ((wrap64 (4 + t191)) + t192)) - 2)) (wrap64 (1 + t193)) t196 t200 t201 (t208.toList != t200.toList)) else (laws_FnSampled.j1 kj10 l0 (wrap64 (4 + t191)) (wrap64 ((wrap64 ((wrap64 (4 + t191)) + t192)) - 2)) (wrap64 (1 + t193)) t196 t200 t201 false)) else (laws_FnSampled.j1 kj10 l0 (wrap64 (4 + t191)) (wrap64 ((wrap64 ((wrap64 (4 + t191)) + t192)) - 2)) (wrap64 (1 + t193)) t196 t200 t201 true)) else (laws_FnSampled.j1 kj10 l0 (wrap64 (4 + t191)) (wrap64 ((wrap64 ((wrap64 (4 + t191)) + t192)) - 2)) (wrap64 (1 + t193)) t196 t200 t201 true)) = some r := H
              have A28 := Aside0.mk A280
              clear A280
              have HC29 := Aside0.mk H
              clear H
              go_upto_region 14 with (first | ((with_reducible refine gate_callee (f := 16) rfl ?_); refine goesL_ (some 95) rfl rfl Tryd.func16 (by kernel_rfl) rfl #[.slice A1 l1.length c1, .int .i64 (wrap64 (1 + t193))] rfl (by (try simp only [List.map_toArray, List.map_cons, List.map_nil]); first | done | rfl | (simp only [List.length_drop, List.length_take]; rfl)) ?_; (with_reducible refine (spec_B10Runs.calls kj10 _ _ l1 (wrap64 (1 + t193)) t200 _ ?side1 ?side2 A24.out).mono ?_); (case side1 => repeat (first | exact (Kd.C_below HR1.out HB.out) | (with_reducible refine Kd.C_alloc ?_ _) | (with_reducible refine Kd.C_drewN ?_ _) | (with_reducible refine Kd.C_drew ?_))); (case side2 => exact HC1.out); rintro e w30 ⟨rfl, hb⟩; refine ⟨_, rfl, ?_⟩; have n0_ := Aside0.mk (below_step (by repeat (first | (with_reducible first | exact HB.out | apply below_alloc | apply pw_below_drewN | apply below_drew1) | exact HB.out)) hb); clear HB; have HB := n0_; clear n0_; (try clear hb); (try clear hb2); (try clear hk); (try clear hi)) | ((with_reducible refine gate_callee (f := 17) rfl ?_); refine goesL_ (some 98) rfl rfl Tryd.func17 (by kernel_rfl) rfl #[.string t200] rfl (by (try simp only [List.map_toArray, List.map_cons, List.map_nil]); first | done | rfl | (simp only [List.length_drop, List.length_take]; rfl)) ?_; (with_reducible refine (impl_EdgesOf.calls kj10 t200 t201 t202 _ A25.out).mono ?_); rintro e w31 ⟨v203, rfl, ho0, hb⟩; refine ⟨_, rfl, ?_⟩; have n0_ := Aside0.mk (Kd.R_lower ho0 (below_size (by repeat (first | (with_reducible first | exact HB.out | apply below_alloc | apply pw_below_drewN | apply below_drew1) | exact HB.out)))); have n1_ := Aside0.mk (below_step (by repeat (first | (with_reducible first | exact HB.out | apply below_alloc | apply pw_below_drewN | apply below_drew1) | exact HB.out)) hb); clear HB; have HO204 := n0_; have HB := n1_; clear n0_ n1_; (try clear hb); (try clear hb2); (try clear hk); (try clear hi); (try clear ho0); obtain ⟨Ao32, co32, eo32⟩ := Kd.R_slice HO204.out; subst eo32) | ((with_reducible refine gate_dst (N := 107) rfl ?_); refine Kd.R_make (Kd.int .i64) _ 2 rfl (N := 107) rfl 31 _ _ rfl (t201.length : Int) rfl rfl Tryd.underlying31 (.int .i64 0) 8 info2 rfl (by decide) (by omega) 0 (ok := fun _ => True) (okp := fun _ => True) rfl (fun _ hk => hk) trivial (of_decide_eq_true (by first | (with_reducible assumption) | assumption)) (Nat.le_trans (Nat.mul_le_mul_right _ (of_decide_eq_true (by first | (with_reducible assumption) | assumption) : (t201.length : Int).toNat ≤ 35184372088832)) (by omega)) (Below.refl _ _) (Nat.le_refl _) ?_; intro v206 w33 ho34 hb hg_ hnew_; clear hg_ hnew_; (first | rw [← Ny205.out] at ho34 | (simp only [Int.reduceToNat] at ho34; rw [← Ny205.out] at ho34)); have n0_ := Aside0.mk (Kd.R_elder' (by (with_reducible repeat (first | apply Kd.R_alloc | apply Kd.R_drewN | apply Kd.R_drew)); exact HO204.out) (Kd.R_base ho34) hb); have n1_ := Aside0.mk (Kd.R_lower (Kd.R_new' ho34 (Kd.R_lt (by (with_reducible repeat (first | apply Kd.R_alloc | apply Kd.R_drewN | apply Kd.R_drew)); exact HO204.out))) (below_size (by repeat (first | (with_reducible first | exact HB.out | apply below_alloc | apply pw_below_drewN | apply below_drew1) | exact HB.out)))); have n2_ := Aside0.mk (below_step (by repeat (first | (with_reducible first | exact HB.out | apply below_alloc | apply pw_below_drewN | apply below_drew1) | exact HB.out)) hb); clear HO204; clear HB; have HO204 := n0_; have HO207 := n1_; have HB := n2_; clear n0_ n1_ n2_; clear hb ho34; obtain ⟨Ao35, co35, eo35⟩ := Kd.R_slice HO207.out; subst eo35) | ((with_reducible refine gate_callee (f := 18) rfl ?_); refine goesL_ (some 108) rfl rfl Tryd.func18 (by kernel_rfl) rfl #[.string t200, .int .i64 (wrap64 (4 + t191)), .int .i64 (wrap64 ((wrap64 ((wrap64 (4 + t191)) + t192)) - 2)), .slice Ao35 y205.length co35] rfl (by (try simp only [List.map_toArray, List.map_cons, List.map_nil]); first | done | rfl | (simp only [List.length_drop, List.length_take]; rfl)) ?_; (with_reducible refine (impl_ReceiveBits.calls kj10 t200 (wrap64 (4 + t191)) (wrap64 ((wrap64 ((wrap64 (4 + t191)) + t192)) - 2)) _ _ y205 t208 t209 _ ?side1 ?side2 A28.out).mono ?_); (case side1 => repeat (first | exact (Kd.R_reads' HO207.out).2.2 | (with_reducible refine Kd.C_alloc ?_ _) | (with_reducible refine Kd.C_drewN ?_ _) | (with_reducible refine Kd.C_drew ?_))); (case side2 => exact (Kd.R_reads' HO207.out).2.1); rintro e w36 ⟨rfl, hb⟩; refine ⟨_, rfl, ?_⟩; have n0_ := Aside0.mk (Kd.R_below (by (with_reducible repeat (first | apply Kd.R_alloc | apply Kd.R_drewN | apply Kd.R_drew)); exact HO204.out) hb); have n1_ := Aside0.mk (Kd.R_below (by (with_reducible repeat (first | apply Kd.R_alloc | apply Kd.R_drewN | apply Kd.R_drew)); exact HO207.out) hb); have n2_ := Aside0.mk (below_step (by repeat (first | (with_reducible first | exact HB.out | apply below_alloc | apply pw_below_drewN | apply below_drew1) | exact HB.out)) hb); clear HO204; clear HO207; clear HB; have HO204 := n0_; have HO207 := n1_; have HB := n2_; clear n0_ n1_ n2_; (try clear hb); (try clear hb2); (try clear hk); (try clear hi)))
              (try simp only [Act.put, List.setIfInBounds_toArray, List.set_cons_zero, List.set_cons_succ])
              go_cut [124] (fun v124 wc => ∃ (kq : Nat) (x124_28 : Bool), v124 = .bool x124_28 ∧ Aside0 (laws_FnSampled.j1 kq l0 (wrap64 (4 + t191)) (wrap64 ((wrap64 ((wrap64 (4 + t191)) + t192)) - 2)) (wrap64 (1 + t193)) t196 t200 t201 x124_28 = some r) ∧ Aside0 (kq ≤ kj10) ∧ Aside0 (Kd.R (Kd.int .i64) 2 wc w.heap.size (fun _ => True) (.slice Ao32 t201.length co32) t201) ∧ Aside0 (Below w.heap.size w wc))
              case first =>
                have H := HC29.out
                clear HC29
                by_cases c37 : t202 = true
                · subst c37
                  have H1 : (if t209 = true then (if t196 = true then (laws_FnSampled.j1 kj10 l0 (wrap64 (4 + t191)) (wrap64 ((wrap64 ((wrap64 (4 + t191)) + t192)) - 2)) (wrap64 (1 + t193)) t196 t200 t201 (t208.toList != t200.toList)) else (laws_FnSampled.j1 kj10 l0 (wrap64 (4 + t191)) (wrap64 ((wrap64 ((wrap64 (4 + t191)) + t192)) - 2)) (wrap64 (1 + t193)) t196 t200 t201 false)) else (laws_FnSampled.j1 kj10 l0 (wrap64 (4 + t191)) (wrap64 ((wrap64 ((wrap64 (4 + t191)) + t192)) - 2)) (wrap64 (1 + t193)) t196 t200 t201 true)) = some r := by rw [if_pos rfl] at H; exact H
                  clear H
                  have H := H1
                  clear H1
                  by_cases c38 : t209 = true
                  · subst c38
                    have H1 : (if t196 = true then (laws_FnSampled.j1 kj10 l0 (wrap64 (4 + t191)) (wrap64 ((wrap64 ((wrap64 (4 + t191)) + t192)) - 2)) (wrap64 (1 + t193)) t196 t200 t201 (t208.toList != t200.toList)) else (laws_FnSampled.j1 kj10 l0 (wrap64 (4 + t191)) (wrap64 ((wrap64 ((wrap64 (4 + t191)) + t192)) - 2)) (wrap64 (1 + t193)) t196 t200 t201 false)) = some r := by rw [if_pos rfl] at H; exact H
                    clear H
                    have H := H1
                    clear H1
                    by_cases c39 : t196 = true
                    · subst c39
                      have H1 : (laws_FnSampled.j1 kj10 l0 (wrap64 (4 + t191)) (wrap64 ((wrap64 ((wrap64 (4 + t191)) + t192)) - 2)) (wrap64 (1 + t193)) true t200 t201 (t208.toList != t200.toList)) = some r := by rw [if_pos rfl] at H; exact H
                      clear H
                      have H := H1
                      clear H1
                      have H' := Aside0.mk H
                      clear H
                      go_wp2
                      go_meet
                      case rel => exact ⟨_, ((t208.toList != t200.toList)), (by first | rfl | (simp; done) | (simp [*]; done)), H', ⟨by have := HJ10.out; first | omega | exact Nat.le_refl _⟩, ⟨by (with_reducible repeat (first | apply Kd.R_alloc | apply Kd.R_drewN | apply Kd.R_drew)); exact Kd.R_mono HO204.out (fun _ hk => trivial)⟩, ⟨by repeat (first | (with_reducible first | exact HB.out | apply below_alloc | apply pw_below_drewN | apply below_drew1) | exact HB.out)⟩⟩
                    · replace c39 := Bool.eq_false_iff.mpr c39
                      subst c39
                      have H1 : (laws_FnSampled.j1 kj10 l0 (wrap64 (4 + t191)) (wrap64 ((wrap64 ((wrap64 (4 + t191)) + t192)) - 2)) (wrap64 (1 + t193)) false t200 t201 false) = some r := by rw [if_neg (show ¬ (false = true) by decide)] at H; exact H
                      clear H
                      have H := H1
                      clear H1
                      have H' := Aside0.mk H
                      clear H
                      go_wp2
                      go_meet
                      case rel => exact ⟨_, (false), (by first | rfl | (simp; done) | (simp [*]; done)), H', ⟨by have := HJ10.out; first | omega | exact Nat.le_refl _⟩, ⟨by (with_reducible repeat (first | apply Kd.R_alloc | apply Kd.R_drewN | apply Kd.R_drew)); exact Kd.R_mono HO204.out (fun _ hk => trivial)⟩, ⟨by repeat (first | (with_reducible first | exact HB.out | apply below_alloc | apply pw_below_drewN | apply below_drew1) | exact HB.out)⟩⟩
                  · replace c38 := Bool.eq_false_iff.mpr c38
                    subst c38
                    have H1 : (laws_FnSampled.j1 kj10 l0 (wrap64 (4 + t191)) (wrap64 ((wrap64 ((wrap64 (4 + t191)) + t192)) - 2)) (wrap64 (1 + t193)) t196 t200 t201 true) = some r := by rw [if_neg (show ¬ (false = true) by decide)] at H; exact H
                    clear H
                    have H := H1
                    clear H1
                    have H' := Aside0.mk H
                    clear H
                    go_wp2
                    go_meet
                    case rel => exact ⟨_, (true), (by first | rfl | (simp; done) | (simp [*]; done)), H', ⟨by have := HJ10.out; first | omega | exact Nat.le_refl _⟩, ⟨by (with_reducible repeat (first | apply Kd.R_alloc | apply Kd.R_drewN | apply Kd.R_drew)); exact Kd.R_mono HO204.out (fun _ hk => trivial)⟩, ⟨by repeat (first | (with_reducible first | exact HB.out | apply below_alloc | apply pw_below_drewN | apply below_drew1) | exact HB.out)⟩⟩
                · replace c37 := Bool.eq_false_iff.mpr c37
                  subst c37
                  have H1 : (laws_FnSampled.j1 kj10 l0 (wrap64 (4 + t191)) (wrap64 ((wrap64 ((wrap64 (4 + t191)) + t192)) - 2)) (wrap64 (1 + t193)) t196 t200 t201 true) = some r := by rw [if_neg (show ¬ (false = true) by decide)] at H; exact H
                  clear H
                  have H := H1
                  clear H1
                  have H' := Aside0.mk H
                  clear H
                  go_wp2
                  go_meet
                  case rel => exact ⟨_, (true), (by first | rfl | (simp; done) | (simp [*]; done)), H', ⟨by have := HJ10.out; first | omega | exact Nat.le_refl _⟩, ⟨by (with_reducible repeat (first | apply Kd.R_alloc | apply Kd.R_drewN | apply Kd.R_drew)); exact Kd.R_mono HO204.out (fun _ hk => trivial)⟩, ⟨by repeat (first | (with_reducible first | exact HB.out | apply below_alloc | apply pw_below_drewN | apply below_drew1) | exact HB.out)⟩⟩
              case rest =>
                clear HC29
                try clear c1
                try clear c2
                try clear p2
                try clear c3
                try clear c4
                try clear p6
                try clear c11
                try clear c12
                try clear c13
                try clear c13b0
                try clear c13b1
                try clear c13b2
                try clear c14
                try clear c15
                try clear c15b0
                try clear c16
                try clear c16b0
                try clear c17
                try clear c17b0
                try clear c18
                try clear c18b0
                try clear c18b1
                try clear c18b2
                try clear c19
                try clear c20
                try clear c20b0
                try clear c21
                try clear c21b0
                try clear c22
                try clear c22b0
                try clear c23
                try clear c26
                try clear c26b0
                try clear c26b1
                try clear c27
                try clear c27b0
                try clear c27b1
                try clear c37
                try clear c38
                try clear c39
                try clear p2
                try clear p6
                obtain ⟨kq, x124_28, rfl, HA, HJ28, HO_15, HB⟩ := hcut
                cases kq with
                | zero => exact absurd HA.out (by simp [laws_FnSampled.j1])
                | succ kj28 =>
                  have H := HA.out
                  clear HA
                  simp only [laws_FnSampled.j1] at H
                  by_cases c40 : x124_28 = true
                  · subst c40
                    have H1 : (some false) = some r := by rw [if_pos rfl] at H; exact H
                    clear H
                    have H := H1
                    clear H1
                    obtain rfl := Option.some.inj H
                    go_wp2
                    go_ret
                    exact ⟨by first | rfl | (simp [errW_none, errW_some] <;> rfl) | (simp [*, errW_none, errW_some] <;> rfl), by repeat (first | (with_reducible first | exact HB.out | apply below_alloc | apply pw_below_drewN | apply below_drew1) | exact HB.out)⟩
                  · replace c40 := Bool.eq_false_iff.mpr c40
                    subst c40
                    have H1 : ((impl_JitterTolerated.f kj28 (wrap64 (4 + t191)) (wrap64 ((wrap64 ((wrap64 (4 + t191)) + t192)) - 2)) (wrap64 (1 + t193))).bind fun bt210 => ((spec_JitterTolerated.f kj28 (wrap64 (4 + t191)) (wrap64 ((wrap64 ((wrap64 (4 + t191)) + t192)) - 2)) (wrap64 (1 + t193))).bind fun bt212 => (if (bt210.2 != bt212.2) = true then (laws_FnSampled.j2 kj28 l0 (wrap64 (4 + t191)) (wrap64 ((wrap64 ((wrap64 (4 + t191)) + t192)) - 2)) t200 t201 bt210.1 bt210.2 true) else (if bt210.2 = true then (laws_FnSampled.j2 kj28 l0 (wrap64 (4 + t191)) (wrap64 ((wrap64 ((wrap64 (4 + t191)) + t192)) - 2)) t200 t201 bt210.1 bt210.2 (!t196)) else (laws_FnSampled.j2 kj28 l0 (wrap64 (4 + t191)) (wrap64 ((wrap64 ((wrap64 (4 + t191)) + t192)) - 2)) t200 t201 bt210.1 bt210.2 false))))) = some r := by rw [if_neg (show ¬ (false = true) by decide)] at H; exact H
                    clear H
                    have H := H1
                    clear H1
                    replace H := Option.bind_eq_some_iff.mp H
                    obtain ⟨⟨t210, t211⟩, A410, H⟩ := H
                    replace H : ((spec_JitterTolerated.f kj28 (wrap64 (4 + t191)) (wrap64 ((wrap64 ((wrap64 (4 + t191)) + t192)) - 2)) (wrap64 (1 + t193))).bind fun bt212 => (if (t211 != bt212.2) = true then (laws_FnSampled.j2 kj28 l0 (wrap64 (4 + t191)) (wrap64 ((wrap64 ((wrap64 (4 + t191)) + t192)) - 2)) t200 t201 t210 t211 true) else (if t211 = true then (laws_FnSampled.j2 kj28 l0 (wrap64 (4 + t191)) (wrap64 ((wrap64 ((wrap64 (4 + t191)) + t192)) - 2)) t200 t201 t210 t211 (!t196)) else (laws_FnSampled.j2 kj28 l0 (wrap64 (4 + t191)) (wrap64 ((wrap64 ((wrap64 (4 + t191)) + t192)) - 2)) t200 t201 t210 t211 false)))) = some r := H
                    have A41 := Aside0.mk A410
                    clear A410
                    replace H := Option.bind_eq_some_iff.mp H
                    obtain ⟨⟨t212, t213⟩, A420, H⟩ := H
                    replace H : (if (t211 != t213) = true then (laws_FnSampled.j2 kj28 l0 (wrap64 (4 + t191)) (wrap64 ((wrap64 ((wrap64 (4 + t191)) + t192)) - 2)) t200 t201 t210 t211 true) else (if t211 = true then (laws_FnSampled.j2 kj28 l0 (wrap64 (4 + t191)) (wrap64 ((wrap64 ((wrap64 (4 + t191)) + t192)) - 2)) t200 t201 t210 t211 (!t196)) else (laws_FnSampled.j2 kj28 l0 (wrap64 (4 + t191)) (wrap64 ((wrap64 ((wrap64 (4 + t191)) + t192)) - 2)) t200 t201 t210 t211 false))) = some r := H
                    have A42 := Aside0.mk A420
                    clear A420
                    have HC43 := Aside0.mk H
                    clear H
                    go_upto_region 18 with (first | ((with_reducible refine gate_callee (f := 19) rfl ?_); refine goesL_ (some 129) rfl rfl Tryd.func19 (by kernel_rfl) rfl #[.int .i64 (wrap64 (4 + t191)), .int .i64 (wrap64 ((wrap64 ((wrap64 (4 + t191)) + t192)) - 2)), .int .i64 (wrap64 (1 + t193))] rfl (by (try simp only [List.map_toArray, List.map_cons, List.map_nil]); first | done | rfl | (simp only [List.length_drop, List.length_take]; rfl)) ?_; (with_reducible refine (impl_JitterTolerated.calls kj28 (wrap64 (4 + t191)) (wrap64 ((wrap64 ((wrap64 (4 + t191)) + t192)) - 2)) (wrap64 (1 + t193)) t210 t211 _ A41.out).mono ?_); rintro e w44 ⟨rfl, hb⟩; refine ⟨_, rfl, ?_⟩; have n0_ := Aside0.mk (Kd.R_below (by (with_reducible repeat (first | apply Kd.R_alloc | apply Kd.R_drewN | apply Kd.R_drew)); exact HO_15.out) hb); have n1_ := Aside0.mk (below_step (by repeat (first | (with_reducible first | exact HB.out | apply below_alloc | apply pw_below_drewN | apply below_drew1) | exact HB.out)) hb); clear HO_15; clear HB; have HO_15 := n0_; have HB := n1_; clear n0_ n1_; (try clear hb); (try clear hb2); (try clear hk); (try clear hi)) | ((with_reducible refine gate_callee (f := 20) rfl ?_); refine goesL_ (some 136) rfl rfl Tryd.func20 (by kernel_rfl) rfl #[.int .i64 (wrap64 (4 + t191)), .int .i64 (wrap64 ((wrap64 ((wrap64 (4 + t191)) + t192)) - 2)), .int .i64 (wrap64 (1 + t193))] rfl (by (try simp only [List.map_toArray, List.map_cons, List.map_nil]); first | done | rfl | (simp only [List.length_drop, List.length_take]; rfl)) ?_; (with_reducible refine (spec_JitterTolerated.calls kj28 (wrap64 (4 + t191)) (wrap64 ((wrap64 ((wrap64 (4 + t191)) + t192)) - 2)) (wrap64 (1 + t193)) t212 t213 _ A42.out).mono ?_); rintro e w' ⟨rfl, ⟨nd, rfl⟩⟩; refine ⟨_, rfl, ?_⟩))
                    (try simp only [Act.put, List.setIfInBounds_toArray, List.set_cons_zero, List.set_cons_succ])
                    go_cut [148] (fun v148 wc => ∃ (kq : Nat) (x148_42 : Bool), v148 = .bool x148_42 ∧ Aside0 (laws_FnSampled.j2 kq l0 (wrap64 (4 + t191)) (wrap64 ((wrap64 ((wrap64 (4 + t191)) + t192)) - 2)) t200 t201 t210 t211 x148_42 = some r) ∧ Aside0 (kq ≤ kj28) ∧ Aside0 (Kd.R (Kd.int .i64) 2 wc w.heap.size (fun _ => True) (.slice Ao32 t201.length co32) t201) ∧ Aside0 (Below w.heap.size w wc))
                    case first =>
                      have H := HC43.out
                      clear HC43
                      by_cases c45 : (t211 != t213) = true
                      · rw [if_pos c45] at H
                        have c45b0 : (t211 != t213) = true := c45
                        (try (have c45b1 : decide (t211 = t213) = false := by simpa using c45))
                        (try (have c45b2 : (t211 == t213) = false := by simpa using c45))
                        (try (have c45b3 : ¬ (t211 = t213) := by simpa using c45))
                        clear c45
                        (first | rw [c45b0] | (simp only [i64_w, i32_w]; rw [c45b0]) | skip)
                        have H' := Aside0.mk H
                        clear H
                        go_wp2
                        go_meet
                        case rel => exact ⟨_, (true), (by first | rfl | (simp; done) | (simp [*]; done)), H', ⟨by have := HJ10.out; have := HJ28.out; first | omega | exact Nat.le_refl _⟩, ⟨by (with_reducible repeat (first | apply Kd.R_alloc | apply Kd.R_drewN | apply Kd.R_drew)); exact HO_15.out⟩, ⟨by repeat (first | (with_reducible first | exact HB.out | apply below_alloc | apply pw_below_drewN | apply below_drew1) | exact HB.out)⟩⟩
                      · rw [if_neg c45] at H
                        have c45b0 : (t211 != t213) = false := by simpa using c45
                        (try (have c45b1 : decide (t211 = t213) = true := by simpa using c45))
                        (try (have c45b2 : (t211 == t213) = true := by simpa using c45))
                        clear c45
                        (first | rw [c45b0] | (simp only [i64_w, i32_w]; rw [c45b0]) | skip)
                        by_cases c46 : t211 = true
                        · subst c46
                          have H1 : (laws_FnSampled.j2 kj28 l0 (wrap64 (4 + t191)) (wrap64 ((wrap64 ((wrap64 (4 + t191)) + t192)) - 2)) t200 t201 t210 true (!t196)) = some r := by rw [if_pos rfl] at H; exact H
                          clear H
                          have H := H1
                          clear H1
                          have H' := Aside0.mk H
                          clear H
                          go_wp2
                          go_meet
                          case rel => exact ⟨_, (!t196), (by first | rfl | (simp; done) | (simp [*]; done)), H', ⟨by have := HJ10.out; have := HJ28.out; first | omega | exact Nat.le_refl _⟩, ⟨by (with_reducible repeat (first | apply Kd.R_alloc | apply Kd.R_drewN | apply Kd.R_drew)); exact HO_15.out⟩, ⟨by repeat (first | (with_reducible first | exact HB.out | apply below_alloc | apply pw_below_drewN | apply below_drew1) | exact HB.out)⟩⟩
                        · replace c46 := Bool.eq_false_iff.mpr c46
                          subst c46
                          have H1 : (laws_FnSampled.j2 kj28 l0 (wrap64 (4 + t191)) (wrap64 ((wrap64 ((wrap64 (4 + t191)) + t192)) - 2)) t200 t201 t210 false false) = some r := by rw [if_neg (show ¬ (false = true) by decide)] at H; exact H
                          clear H
                          have H := H1
                          clear H1
                          have H' := Aside0.mk H
                          clear H
                          go_wp2
                          go_meet
                          case rel => exact ⟨_, (false), (by first | rfl | (simp; done) | (simp [*]; done)), H', ⟨by have := HJ10.out; have := HJ28.out; first | omega | exact Nat.le_refl _⟩, ⟨by (with_reducible repeat (first | apply Kd.R_alloc | apply Kd.R_drewN | apply Kd.R_drew)); exact HO_15.out⟩, ⟨by repeat (first | (with_reducible first | exact HB.out | apply below_alloc | apply pw_below_drewN | apply below_drew1) | exact HB.out)⟩⟩
                    case rest =>
                      clear HC43
                      try clear c1
                      try clear c2
                      try clear p2
                      try clear c3
                      try clear c4
                      try clear p6
                      try clear c11
                      try clear c12
                      try clear c13
                      try clear c13b0
                      try clear c13b1
                      try clear c13b2
                      try clear c14
                      try clear c15
                      try clear c15b0
                      try clear c16
                      try clear c16b0
                      try clear c17
                      try clear c17b0
                      try clear c18
                      try clear c18b0
                      try clear c18b1
                      try clear c18b2
                      try clear c19
                      try clear c20
                      try clear c20b0
                      try clear c21
                      try clear c21b0
                      try clear c22
                      try clear c22b0
                      try clear c23
                      try clear c26
                      try clear c26b0
                      try clear c26b1
                      try clear c27
                      try clear c27b0
                      try clear c27b1
                      try clear c37
                      try clear c38
                      try clear c39
                      try clear c40
                      try clear c45
                      try clear c45b0
                      try clear c45b1
                      try clear c45b2
                      try clear c46
                      try clear p2
                      try clear p6
                      obtain ⟨kq, x148_42, rfl, HA, HJ42, HO_15, HB⟩ := hcut
                      cases kq with
                      | zero => exact absurd HA.out (by simp [laws_FnSampled.j2])
                      | succ kj42 =>
                        have H := HA.out
                        clear HA
                        simp only [laws_FnSampled.j2] at H
                        by_cases c47 : x148_42 = true
                        · subst c47
                          have H1 : (some false) = some r := by rw [if_pos rfl] at H; exact H
                          clear H
                          have H := H1
                          clear H1
                          obtain rfl := Option.some.inj H
                          go_wp2
                          go_ret
                          exact ⟨by first | rfl | (simp [errW_none, errW_some] <;> rfl) | (simp [*, errW_none, errW_some] <;> rfl), by repeat (first | (with_reducible first | exact HB.out | apply below_alloc | apply pw_below_drewN | apply below_drew1) | exact HB.out)⟩
                        · replace c47 := Bool.eq_false_iff.mpr c47
                          subst c47
                          have H1 : (if t211 = true then (laws_FnSampled.l0 kj42 l0 (wrap64 (4 + t191)) (wrap64 ((wrap64 ((wrap64 (4 + t191)) + t192)) - 2)) t200 t201 t210 (([] : List Int)) 0) else (some true)) = some r := by rw [if_neg (show ¬ (false = true) by decide)] at H; exact H
                          clear H
                          have H := H1
                          clear H1
                          by_cases c48 : t211 = true
                          · subst c48
                            have H1 : (laws_FnSampled.l0 kj42 l0 (wrap64 (4 + t191)) (wrap64 ((wrap64 ((wrap64 (4 + t191)) + t192)) - 2)) t200 t201 t210 (([] : List Int)) 0) = some r := by rw [if_pos rfl] at H; exact H
                            clear H
                            have H := H1
                            clear H1
                            obtain ⟨y214, hy214⟩ : ∃ y_ : List Int, y_ = (([] : List Int)) := ⟨_, rfl⟩
                            replace H : (laws_FnSampled.l0 kj42 l0 (wrap64 (4 + t191)) (wrap64 ((wrap64 ((wrap64 (4 + t191)) + t192)) - 2)) t200 t201 t210 y214 0) = some r := by first | (rw [hy214]; with_reducible exact H) | (have H2_ := (Option.bind_some _ _).symm.trans H; rw [hy214]; with_reducible exact H2_) | (have H2_ := (Option.bind_some _ _).symm.trans H; with_reducible exact H2_) | with_reducible exact H | (rw [hy214]; exact H) | exact H
                            have Ny214 := Aside0.mk hy214
                            clear hy214
                            have H' := Aside0.mk H
                            clear H
                            go_wp2_with (first | ((with_reducible refine gate_dst (N := 151) rfl ?_); refine Kd.R_lit (Kd.int .i64) _ 2 ?hg (N := 151) ?hd (xs := ([] : List Int)) (inner := []) (ok := fun _ => True) (okp := fun _ => True) ?hr ?hp (fun _ hk => hk) trivial (Below.refl _ _) (Nat.le_refl _) (by simp) ?_; (case hd => rfl); (case hg => rfl); (case hr => first | (go_simp; done) | (go_simp; rfl)); (case hp => exact (Reps.none _ _)); intro v215 w49 ho50 hb hg_ hnew_; clear hg_ hnew_; (first | rw [← Ny214.out] at ho50 | (simp only [Int.reduceToNat] at ho50; rw [← Ny214.out] at ho50)); have n0_ := Aside0.mk (Kd.R_elder' (by (with_reducible repeat (first | apply Kd.R_alloc | apply Kd.R_drewN | apply Kd.R_drew)); exact HO_15.out) (Kd.R_base ho50) hb); have n1_ := Aside0.mk (Kd.R_lower (Kd.R_new' ho50 (Kd.R_lt (by (with_reducible repeat (first | apply Kd.R_alloc | apply Kd.R_drewN | apply Kd.R_drew)); exact HO_15.out))) (below_size (by repeat (first | (with_reducible first | exact HB.out | apply below_alloc | apply pw_below_drewN | apply below_drew1) | exact HB.out)))); have n2_ := Aside0.mk (below_step (by repeat (first | (with_reducible first | exact HB.out | apply below_alloc | apply pw_below_drewN | apply below_drew1) | exact HB.out)) hb); clear HO_15; clear HB; have HO_15 := n0_; have HO216 := n1_; have HB := n2_; clear n0_ n1_ n2_; clear hb ho50))
                            go_loopg [23, 24] kj42 (fun kq v23 v24 w' => ∃ (x23_4 : List Int) (x24_4 : Int), v24 = .int .i64 x24_4 ∧ Aside0 (laws_FnSampled.l0 kq l0 (wrap64 (4 + t191)) (wrap64 ((wrap64 ((wrap64 (4 + t191)) + t192)) - 2)) t200 t201 t210 x23_4 x24_4 = some r) ∧ Aside0 (kq ≤ kj42) ∧ Aside0 (Kd.R (Kd.int .i64) 2 w' w.heap.size (fun k_ => some k_ ≠ (v23 : Value).ownBlock) (.slice Ao32 t201.length co32) t201) ∧ Aside0 (Kd.R (Kd.int .i64) 2 w' w.heap.size (fun k_ => some k_ ≠ ((.slice Ao32 t201.length co32) : Value).ownBlock) v23 x23_4) ∧ Aside0 (Below w.heap.size w w'))
                            case atStart => exact ⟨(y214), (0), (by first | rfl | (simp; done) | (simp [*]; done)), H', ⟨Nat.le_refl _⟩, ⟨by (with_reducible repeat (first | apply Kd.R_alloc | apply Kd.R_drewN | apply Kd.R_drew)); exact Kd.R_mono HO_15.out (fun _ hk => hk.2)⟩, ⟨by (with_reducible repeat (first | apply Kd.R_alloc | apply Kd.R_drewN | apply Kd.R_drew)); exact Kd.R_mono HO216.out (fun _ hk => hk.2)⟩, ⟨by repeat (first | (with_reducible first | exact HB.out | apply below_alloc | apply pw_below_drewN | apply below_drew1) | exact HB.out)⟩⟩
                            case round =>
                              clear H'
                              try clear c1
                              try clear c2
                              try clear p2
                              try clear c3
                              try clear c4
                              try clear p6
                              try clear c11
                              try clear c12
                              try clear c13
                              try clear c13b0
                              try clear c13b1
                              try clear c13b2
                              try clear c14
                              try clear c15
                              try clear c15b0
                              try clear c16
                              try clear c16b0
                              try clear c17
                              try clear c17b0
                              try clear c18
                              try clear c18b0
                              try clear c18b1
                              try clear c18b2
                              try clear c19
                              try clear c20
                              try clear c20b0
                              try clear c21
                              try clear c21b0
                              try clear c22
                              try clear c22b0
                              try clear c23
                              try clear c26
                              try clear c26b0
                              try clear c26b1
                              try clear c27
                              try clear c27b0
                              try clear c27b1
                              try clear c37
                              try clear c38
                              try clear c39
                              try clear c40
                              try clear c45
                              try clear c45b0
                              try clear c45b1
                              try clear c45b2
                              try clear c46
                              try clear c47
                              try clear c48
                              try clear p2
                              try clear p6
                              obtain ⟨x23_4, x24_4, rfl, HA, HK4, HO_15, HO_23, HB⟩ := hrel
                              cases gk with
                              | zero => exact absurd HA.out (by simp [laws_FnSampled.l0])
                              | succ k4 =>
                                have H := HA.out
                                clear HA
                                simp only [laws_FnSampled.l0] at H
                                by_cases c51 : x24_4 < (t201.length : Int)
                                · rw [if_pos c51] at H
                                  have c51b0 : decide (x24_4 < (t201.length : Int)) = true := decide_eq_true c51
                                  clear c51
                                  replace H := Option.bind_eq_some_iff.mp H
                                  obtain ⟨t217, A520, H⟩ := H
                                  replace H : (if x24_4 = 0 then (if x23_4.length < 17592186044416 then (laws_FnSampled.l0 k4 l0 (wrap64 (4 + t191)) (wrap64 ((wrap64 ((wrap64 (4 + t191)) + t192)) - 2)) t200 t201 t210 (x23_4 ++ [0]) (wrap64 (x24_4 + 1))) else (none)) else (if x23_4.length < 17592186044416 then (laws_FnSampled.l0 k4 l0 (wrap64 (4 + t191)) (wrap64 ((wrap64 ((wrap64 (4 + t191)) + t192)) - 2)) t200 t201 t210 (x23_4 ++ [wrap64 (t217 - t210)]) (wrap64 (x24_4 + 1))) else (none))) = some r := H
                                  have A52 := Aside0.mk A520
                                  clear A520
                                  by_cases c53 : x24_4 = 0
                                  · rw [if_pos c53] at H
                                    have c53b0 : (x24_4 == 0) = true := beq_iff_eq.mpr c53
                                    have c53b1 : (x24_4 != 0) = false := bne_eq_false_iff_eq.mpr c53
                                    clear c53
                                    by_cases c54 : x23_4.length < 17592186044416
                                    · rw [if_pos c54] at H
                                      have LMc54 := Aside0.mk c54
                                      clear c54
                                      obtain ⟨y218, hy218⟩ : ∃ y_ : List Int, y_ = (x23_4 ++ [0]) := ⟨_, rfl⟩
                                      replace H : (laws_FnSampled.l0 k4 l0 (wrap64 (4 + t191)) (wrap64 ((wrap64 ((wrap64 (4 + t191)) + t192)) - 2)) t200 t201 t210 y218 (wrap64 (x24_4 + 1))) = some r := by first | (rw [hy218]; with_reducible exact H) | (have H2_ := (Option.bind_some _ _).symm.trans H; rw [hy218]; with_reducible exact H2_) | (have H2_ := (Option.bind_some _ _).symm.trans H; with_reducible exact H2_) | with_reducible exact H | (rw [hy218]; exact H) | exact H
                                      have Ny218 := Aside0.mk hy218
                                      clear hy218
                                      have H' := Aside0.mk H
                                      clear H
                                      go_wp2_with (first | ((with_reducible refine gate_callee (f := 12) rfl ?_); refine goesL_ (some 164) rfl rfl Tryd.func12 (by kernel_rfl) rfl #[.slice A0 l0.length c0, .int .i64 (wrap64 (x24_4 + 2)), .int .i64 (wrap64 ((wrap64 (2 * t210)) + 1))] rfl (by (try simp only [List.map_toArray, List.map_cons, List.map_nil]); first | done | rfl | (simp only [List.length_drop, List.length_take]; rfl)) ?_; (with_reducible refine (laws_b10At.calls _ _ l0 (wrap64 (x24_4 + 2)) (wrap64 ((wrap64 (2 * t210)) + 1)) t217 _ ?side1 ?side2 A52.out).mono ?_); (case side1 => repeat (first | exact (Kd.C_below HR0.out HB.out) | (with_reducible refine Kd.C_alloc ?_ _) | (with_reducible refine Kd.C_drewN ?_ _) | (with_reducible refine Kd.C_drew ?_))); (case side2 => exact HC0.out); rintro e w' ⟨rfl, ⟨nd, rfl⟩⟩; refine ⟨_, rfl, ?_⟩) | ((with_reducible refine gate_builtin (b := .append) (xs := #[.tmp 169, .tmp 171]) rfl ?_); at_builtin; refine Kd.R_append (Kd.int .i64) (w0 := w) w.heap.size rfl (.tmp 169) (.tmp 171) 31 2 (.int .i64 0) 8 rfl Tryd.underlying31 info2 rfl (by decide) (by omega) u23 x23_4 0 [.int .i64 0] (fun k_ => some k_ ≠ (.slice Ao32 t201.length co32 : Value).ownBlock) (fun _ => False) rfl rfl ?aP (fun _ hk => hk.elim) ?aF ?aO ?aB ?aS ?aL ?_; (case aP => exact rfl); (case aB => exact (by repeat (first | (with_reducible first | exact HB.out | apply below_alloc | apply pw_below_drewN | apply below_drew1) | exact HB.out))); (case aF => exact (fun k_ hk => Kd.fresh' (Kd.R_lt (by (with_reducible repeat (first | apply Kd.R_alloc | apply Kd.R_drewN | apply Kd.R_drew)); exact HO_15.out)) k_ hk)); (case aO => exact (by (with_reducible repeat (first | apply Kd.R_alloc | apply Kd.R_drewN | apply Kd.R_drew)); exact HO_23.out)); (case aS => exact (below_size (by repeat (first | (with_reducible first | exact HB.out | apply below_alloc | apply pw_below_drewN | apply below_drew1) | exact HB.out)))); (case aL => have := LMc54.out; omega); intro v219 w55 ho hb hg hat; rw [← Ny218.out] at ho; have n0_ := Aside0.mk (Kd.R_after (ok := (fun _ => True)) (by (with_reducible repeat (first | apply Kd.R_alloc | apply Kd.R_drewN | apply Kd.R_drew)); exact Kd.R_mono HO_15.out (fun _ hk => ⟨trivial, hk⟩)) hg hat); have n1_ := Aside0.mk (hb); have n2_ := Aside0.mk (ho); clear HO_15; clear HB; clear HO_23; have HO_15 := n0_; have HB := n1_; have HO220 := n2_; clear n0_ n1_ n2_; clear ho hb hg hat))
                                      go_roundg k4
                                      case measure => have := HJ10.out; have := HJ28.out; have := HJ42.out; have := HK4.out; omega
                                      case rel => exact ⟨(y218), (wrap64 (x24_4 + 1)), (by first | rfl | (simp; done) | (simp [*]; done)), H', ⟨by have := HJ10.out; have := HJ28.out; have := HJ42.out; have := HK4.out; omega⟩, ⟨by (with_reducible repeat (first | apply Kd.R_alloc | apply Kd.R_drewN | apply Kd.R_drew)); exact Kd.R_mono HO_15.out (fun _ hk => hk.2)⟩, ⟨by (with_reducible repeat (first | apply Kd.R_alloc | apply Kd.R_drewN | apply Kd.R_drew)); exact HO220.out⟩, ⟨by repeat (first | (with_reducible first | exact HB.out | apply below_alloc | apply pw_below_drewN | apply below_drew1) | exact HB.out)⟩⟩
                                    · rw [if_neg c54] at H
                                      exact absurd H (by simp)
                                  · rw [if_neg c53] at H
                                    have c53b0 : (x24_4 == 0) = false := beq_eq_false_iff_ne.mpr c53
                                    have c53b1 : (x24_4 != 0) = true := bne_iff_ne.mpr c53
                                    by_cases c56 : x23_4.length < 17592186044416
                                    · rw [if_pos c56] at H
                                      have LMc56 := Aside0.mk c56
                                      clear c56
                                      obtain ⟨y221, hy221⟩ : ∃ y_ : List Int, y_ = (x23_4 ++ [wrap64 (t217 - t210)]) := ⟨_, rfl⟩
                                      replace H : (laws_FnSampled.l0 k4 l0 (wrap64 (4 + t191)) (wrap64 ((wrap64 ((wrap64 (4 + t191)) + t192)) - 2)) t200 t201 t210 y221 (wrap64 (x24_4 + 1))) = some r := by first | (rw [hy221]; with_reducible exact H) | (have H2_ := (Option.bind_some _ _).symm.trans H; rw [hy221]; with_reducible exact H2_) | (have H2_ := (Option.bind_some _ _).symm.trans H; with_reducible exact H2_) | with_reducible exact H | (rw [hy221]; exact H) | exact H
                                      have Ny221 := Aside0.mk hy221
                                      clear hy221
                                      have H' := Aside0.mk H
                                      clear H
                                      go_wp2_with (first | ((with_reducible refine gate_callee (f := 12) rfl ?_); refine goesL_ (some 164) rfl rfl Tryd.func12 (by kernel_rfl) rfl #[.slice A0 l0.length c0, .int .i64 (wrap64 (x24_4 + 2)), .int .i64 (wrap64 ((wrap64 (2 * t210)) + 1))] rfl (by (try simp only [List.map_toArray, List.map_cons, List.map_nil]); first | done | rfl | (simp only [List.length_drop, List.length_take]; rfl)) ?_; (with_reducible refine (laws_b10At.calls _ _ l0 (wrap64 (x24_4 + 2)) (wrap64 ((wrap64 (2 * t210)) + 1)) t217 _ ?side1 ?side2 A52.out).mono ?_); (case side1 => repeat (first | exact (Kd.C_below HR0.out HB.out) | (with_reducible refine Kd.C_alloc ?_ _) | (with_reducible refine Kd.C_drewN ?_ _) | (with_reducible refine Kd.C_drew ?_))); (case side2 => exact HC0.out); rintro e w' ⟨rfl, ⟨nd, rfl⟩⟩; refine ⟨_, rfl, ?_⟩) | ((with_reducible refine gate_builtin (b := .append) (xs := #[.tmp 169, .tmp 171]) rfl ?_); at_builtin; refine Kd.R_append (Kd.int .i64) (w0 := w) w.heap.size rfl (.tmp 169) (.tmp 171) 31 2 (.int .i64 0) 8 rfl Tryd.underlying31 info2 rfl (by decide) (by omega) u23 x23_4 (wrap64 (t217 - t210)) [.int .i64 (wrap64 (t217 - t210))] (fun k_ => some k_ ≠ (.slice Ao32 t201.length co32 : Value).ownBlock) (fun _ => False) rfl rfl ?aP (fun _ hk => hk.elim) ?aF ?aO ?aB ?aS ?aL ?_; (case aP => exact rfl); (case aB => exact (by repeat (first | (with_reducible first | exact HB.out | apply below_alloc | apply pw_below_drewN | apply below_drew1) | exact HB.out))); (case aF => exact (fun k_ hk => Kd.fresh' (Kd.R_lt (by (with_reducible repeat (first | apply Kd.R_alloc | apply Kd.R_drewN | apply Kd.R_drew)); exact HO_15.out)) k_ hk)); (case aO => exact (by (with_reducible repeat (first | apply Kd.R_alloc | apply Kd.R_drewN | apply Kd.R_drew)); exact HO_23.out)); (case aS => exact (below_size (by repeat (first | (with_reducible first | exact HB.out | apply below_alloc | apply pw_below_drewN | apply below_drew1) | exact HB.out)))); (case aL => have := LMc56.out; omega); intro v222 w57 ho hb hg hat; rw [← Ny221.out] at ho; have n0_ := Aside0.mk (Kd.R_after (ok := (fun _ => True)) (by (with_reducible repeat (first | apply Kd.R_alloc | apply Kd.R_drewN | apply Kd.R_drew)); exact Kd.R_mono HO_15.out (fun _ hk => ⟨trivial, hk⟩)) hg hat); have n1_ := Aside0.mk (hb); have n2_ := Aside0.mk (ho); clear HO_15; clear HB; clear HO_23; have HO_15 := n0_; have HB := n1_; have HO223 := n2_; clear n0_ n1_ n2_; clear ho hb hg hat))
                                      go_roundg k4
                                      case measure => have := HJ10.out; have := HJ28.out; have := HJ42.out; have := HK4.out; omega
                                      case rel => exact ⟨(y221), (wrap64 (x24_4 + 1)), (by first | rfl | (simp; done) | (simp [*]; done)), H', ⟨by have := HJ10.out; have := HJ28.out; have := HJ42.out; have := HK4.out; omega⟩, ⟨by (with_reducible repeat (first | apply Kd.R_alloc | apply Kd.R_drewN | apply Kd.R_drew)); exact Kd.R_mono HO_15.out (fun _ hk => hk.2)⟩, ⟨by (with_reducible repeat (first | apply Kd.R_alloc | apply Kd.R_drewN | apply Kd.R_drew)); exact HO223.out⟩, ⟨by repeat (first | (with_reducible first | exact HB.out | apply below_alloc | apply pw_below_drewN | apply below_drew1) | exact HB.out)⟩⟩
                                    · rw [if_neg c56] at H
                                      exact absurd H (by simp)
                                · rw [if_neg c51] at H
                                  have c51b0 : decide (x24_4 < (t201.length : Int)) = false := decide_eq_false c51
                                  clear c51
                                  replace H := Option.bind_eq_some_iff.mp H
                                  obtain ⟨⟨t224, t225⟩, A580, H⟩ := H
                                  replace H : (if t225 = true then (if t224.toList = t200.toList then (some (decide (t210 ≥ 0))) else (some false)) else (some false)) = some r := H
                                  have A58 := Aside0.mk A580
                                  clear A580
                                  by_cases c59 : t225 = true
                                  · subst c59
                                    have H1 : (if t224.toList = t200.toList then (some (decide (t210 ≥ 0))) else (some false)) = some r := by rw [if_pos rfl] at H; exact H
                                    clear H
                                    have H := H1
                                    clear H1
                                    by_cases c60 : t224.toList = t200.toList
                                    · rw [if_pos c60] at H
                                      have c60b0 : (t224.toList == t200.toList) = true := beq_iff_eq.mpr c60
                                      have c60b1 : (t224.toList != t200.toList) = false := bne_eq_false_iff_eq.mpr c60
                                      clear c60
                                      obtain rfl := Option.some.inj H
                                      obtain ⟨Ao61, co61, eo61⟩ := Kd.R_slice HO_23.out
                                      subst eo61
                                      go_wp2_with (first | ((with_reducible refine gate_callee (f := 18) rfl ?_); refine goesL_ (some 178) rfl rfl Tryd.func18 (by kernel_rfl) rfl #[.string t200, .int .i64 (wrap64 (4 + t191)), .int .i64 (wrap64 ((wrap64 ((wrap64 (4 + t191)) + t192)) - 2)), .slice Ao61 x23_4.length co61] rfl (by (try simp only [List.map_toArray, List.map_cons, List.map_nil]); first | done | rfl | (simp only [List.length_drop, List.length_take]; rfl)) ?_; (with_reducible refine (impl_ReceiveBits.calls k4 t200 (wrap64 (4 + t191)) (wrap64 ((wrap64 ((wrap64 (4 + t191)) + t192)) - 2)) _ _ x23_4 t224 true _ ?side1 ?side2 A58.out).mono ?_); (case side1 => repeat (first | exact (Kd.R_reads' HO_23.out).2.2 | (with_reducible refine Kd.C_alloc ?_ _) | (with_reducible refine Kd.C_drewN ?_ _) | (with_reducible refine Kd.C_drew ?_))); (case side2 => exact (Kd.R_reads' HO_23.out).2.1); rintro e w62 ⟨rfl, hb⟩; refine ⟨_, rfl, ?_⟩; have n0_ := Aside0.mk (Kd.R_below (by (with_reducible repeat (first | apply Kd.R_alloc | apply Kd.R_drewN | apply Kd.R_drew)); exact HO_15.out) hb); have n1_ := Aside0.mk (Kd.R_below (by (with_reducible repeat (first | apply Kd.R_alloc | apply Kd.R_drewN | apply Kd.R_drew)); exact HO_23.out) hb); have n2_ := Aside0.mk (below_step (by repeat (first | (with_reducible first | exact HB.out | apply below_alloc | apply pw_below_drewN | apply below_drew1) | exact HB.out)) hb); clear HO_15; clear HO_23; clear HB; have HO_15 := n0_; have HO_23 := n1_; have HB := n2_; clear n0_ n1_ n2_; (try clear hb); (try clear hb2); (try clear hk); (try clear hi)))
                                      go_ret
                                      exact ⟨by first | rfl | (simp [errW_none, errW_some] <;> rfl) | (simp [*, errW_none, errW_some] <;> rfl), by repeat (first | (with_reducible first | exact HB.out | apply below_alloc | apply pw_below_drewN | apply below_drew1) | exact HB.out)⟩
                                    · rw [if_neg c60] at H
                                      have c60b0 : (t224.toList == t200.toList) = false := beq_eq_false_iff_ne.mpr c60
                                      have c60b1 : (t224.toList != t200.toList) = true := bne_iff_ne.mpr c60
                                      obtain rfl := Option.some.inj H
                                      obtain ⟨Ao63, co63, eo63⟩ := Kd.R_slice HO_23.out
                                      subst eo63
                                      go_wp2_with (first | ((with_reducible refine gate_callee (f := 18) rfl ?_); refine goesL_ (some 178) rfl rfl Tryd.func18 (by kernel_rfl) rfl #[.string t200, .int .i64 (wrap64 (4 + t191)), .int .i64 (wrap64 ((wrap64 ((wrap64 (4 + t191)) + t192)) - 2)), .slice Ao63 x23_4.length co63] rfl (by (try simp only [List.map_toArray, List.map_cons, List.map_nil]); first | done | rfl | (simp only [List.length_drop, List.length_take]; rfl)) ?_; (with_reducible refine (impl_ReceiveBits.calls k4 t200 (wrap64 (4 + t191)) (wrap64 ((wrap64 ((wrap64 (4 + t191)) + t192)) - 2)) _ _ x23_4 t224 true _ ?side1 ?side2 A58.out).mono ?_); (case side1 => repeat (first | exact (Kd.R_reads' HO_23.out).2.2 | (with_reducible refine Kd.C_alloc ?_ _) | (with_reducible refine Kd.C_drewN ?_ _) | (with_reducible refine Kd.C_drew ?_))); (case side2 => exact (Kd.R_reads' HO_23.out).2.1); rintro e w64 ⟨rfl, hb⟩; refine ⟨_, rfl, ?_⟩; have n0_ := Aside0.mk (Kd.R_below (by (with_reducible repeat (first | apply Kd.R_alloc | apply Kd.R_drewN | apply Kd.R_drew)); exact HO_15.out) hb); have n1_ := Aside0.mk (Kd.R_below (by (with_reducible repeat (first | apply Kd.R_alloc | apply Kd.R_drewN | apply Kd.R_drew)); exact HO_23.out) hb); have n2_ := Aside0.mk (below_step (by repeat (first | (with_reducible first | exact HB.out | apply below_alloc | apply pw_below_drewN | apply below_drew1) | exact HB.out)) hb); clear HO_15; clear HO_23; clear HB; have HO_15 := n0_; have HO_23 := n1_; have HB := n2_; clear n0_ n1_ n2_; (try clear hb); (try clear hb2); (try clear hk); (try clear hi)))
                                      go_ret
                                      exact ⟨by first | rfl | (simp [errW_none, errW_some] <;> rfl) | (simp [*, errW_none, errW_some] <;> rfl), by repeat (first | (with_reducible first | exact HB.out | apply below_alloc | apply pw_below_drewN | apply below_drew1) | exact HB.out)⟩
                                  · replace c59 := Bool.eq_false_iff.mpr c59
                                    subst c59
                                    have H1 : (some false) = some r := by rw [if_neg (show ¬ (false = true) by decide)] at H; exact H
                                    clear H
                                    have H := H1
                                    clear H1
                                    obtain rfl := Option.some.inj H
                                    obtain ⟨Ao65, co65, eo65⟩ := Kd.R_slice HO_23.out
                                    subst eo65
                                    go_wp2_with (first | ((with_reducible refine gate_callee (f := 18) rfl ?_); refine goesL_ (some 178) rfl rfl Tryd.func18 (by kernel_rfl) rfl #[.string t200, .int .i64 (wrap64 (4 + t191)), .int .i64 (wrap64 ((wrap64 ((wrap64 (4 + t191)) + t192)) - 2)), .slice Ao65 x23_4.length co65] rfl (by (try simp only [List.map_toArray, List.map_cons, List.map_nil]); first | done | rfl | (simp only [List.length_drop, List.length_take]; rfl)) ?_; (with_reducible refine (impl_ReceiveBits.calls k4 t200 (wrap64 (4 + t191)) (wrap64 ((wrap64 ((wrap64 (4 + t191)) + t192)) - 2)) _ _ x23_4 t224 false _ ?side1 ?side2 A58.out).mono ?_); (case side1 => repeat (first | exact (Kd.R_reads' HO_23.out).2.2 | (with_reducible refine Kd.C_alloc ?_ _) | (with_reducible refine Kd.C_drewN ?_ _) | (with_reducible refine Kd.C_drew ?_))); (case side2 => exact (Kd.R_reads' HO_23.out).2.1); rintro e w66 ⟨rfl, hb⟩; refine ⟨_, rfl, ?_⟩; have n0_ := Aside0.mk (Kd.R_below (by (with_reducible repeat (first | apply Kd.R_alloc | apply Kd.R_drewN | apply Kd.R_drew)); exact HO_15.out) hb); have n1_ := Aside0.mk (Kd.R_below (by (with_reducible repeat (first | apply Kd.R_alloc | apply Kd.R_drewN | apply Kd.R_drew)); exact HO_23.out) hb); have n2_ := Aside0.mk (below_step (by repeat (first | (with_reducible first | exact HB.out | apply below_alloc | apply pw_below_drewN | apply below_drew1) | exact HB.out)) hb); clear HO_15; clear HO_23; clear HB; have HO_15 := n0_; have HO_23 := n1_; have HB := n2_; clear n0_ n1_ n2_; (try clear hb); (try clear hb2); (try clear hk); (try clear hi)))
                                    go_ret
                                    exact ⟨by first | rfl | (simp [errW_none, errW_some] <;> rfl) | (simp [*, errW_none, errW_some] <;> rfl), by repeat (first | (with_reducible first | exact HB.out | apply below_alloc | apply pw_below_drewN | apply below_drew1) | exact HB.out)⟩
                          · replace c48 := Bool.eq_false_iff.mpr c48
                            subst c48
                            have H1 : (some true) = some r := by rw [if_neg (show ¬ (false = true) by decide)] at H; exact H
                            clear H
                            have H := H1
                            clear H1
                            obtain rfl := Option.some.inj H
                            go_wp2
                            go_ret
                            exact ⟨by first | rfl | (simp [errW_none, errW_some] <;> rfl) | (simp [*, errW_none, errW_some] <;> rfl), by repeat (first | (with_reducible first | exact HB.out | apply below_alloc | apply pw_below_drewN | apply below_drew1) | exact HB.out)⟩
            · rw [if_neg c27] at H
              exact absurd H (by simp)
          · rw [if_neg c26] at H
            exact absurd H (by simp)

/-- THE ONE PURE STATEMENT of laws_FnSampled: yours. -/
def laws_FnSampled.Pure : Prop := ∀ (l0 : List Int) (l1 : List Int), l0.length ≤ maxLen → l0.length * 1 ≤ 140737488351232 → (∀ x ∈ l0, (Lit.int .u8 x).wf = true) → l1.length ≤ maxLen → l1.length * 1 ≤ 140737488351232 → (∀ x ∈ l1, (Lit.int .u8 x).wf = true) → ∃ k, laws_FnSampled.f k l0 l1 = some true
theorem laws_FnSampled.walk (P : laws_FnSampled.Pure) (a0 : Option Addr) (len0 cap0 : Nat) (z0 : List Int) (a1 : Option Addr) (len1 cap1 : Nat) (z1 : List Int) (w : World) (w0 : (a0 = none ∧ len0 = 0 ∧ cap0 = 0 ∧ z0 = []) ∨ ∃ x, a0 = some x ∧ len0 ≤ cap0 ∧ cap0 ≤ maxLen ∧ z0.length = cap0 ∧ (∀ i, i < z0.length → w.cell? (x.add i) = some (.int .u8 (z0.getD i 0))) ∧ ∀ n ∈ z0, (Lit.int .u8 n).wf = true) (y0 : len0 * 1 ≤ 140737488351232) (w1 : (a1 = none ∧ len1 = 0 ∧ cap1 = 0 ∧ z1 = []) ∨ ∃ x, a1 = some x ∧ len1 ≤ cap1 ∧ cap1 ≤ maxLen ∧ z1.length = cap1 ∧ (∀ i, i < z1.length → w.cell? (x.add i) = some (.int .u8 (z1.getD i 0))) ∧ ∀ n ∈ z1, (Lit.int .u8 n).wf = true) (y1 : len1 * 1 ≤ 140737488351232) :
    Calls Tryd.prog 3 #[.slice a0 len0 cap0, .slice a1 len1 cap1] w fun e w' => e = .returned (.bool true) ∧ Below w.heap.size w w' := by
  obtain ⟨l0, rfl, hr0, hm0, hw0, hc0⟩ := ReadsInt.ofRowC w0
  obtain ⟨l1, rfl, hr1, hm1, hw1, hc1⟩ := ReadsInt.ofRowC w1
  obtain ⟨k, h⟩ := P l0 l1 hm0 y0 hw0 hm1 y1 hw1
  refine (laws_FnSampled.calls k _ _ l0 _ _ l1 true w (Kd.C_of_reads (d := (0 : Int)) (h1 := fun _ => rfl) hr0) hc0 (Kd.C_of_reads (d := (0 : Int)) (h1 := fun _ => rfl) hr1) hc1 h).mono ?_
  rintro e w' ⟨rfl, hd⟩
  exact ⟨rfl, hd⟩

end Go.Proofs.YtondkjcmibnbpaaDoor.PFnSampled
