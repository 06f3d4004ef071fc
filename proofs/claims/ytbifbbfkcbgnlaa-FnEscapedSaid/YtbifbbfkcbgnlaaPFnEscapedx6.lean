-- Written by a program of this session (mkprint.py) over the print of the translation. Not trusted: Lean checks it.
import Derived.Test.YtbifbbfkcbgnlaaPFnEscapedx0
import Derived.Test.YtbifbbfkcbgnlaaPFnEscapedx1
import Derived.Test.YtbifbbfkcbgnlaaPFnEscapedx2
import Derived.Test.YtbifbbfkcbgnlaaPFnEscapedx3
import Derived.Test.YtbifbbfkcbgnlaaPFnEscapedx4
import Derived.Test.YtbifbbfkcbgnlaaPFnEscapedx5
namespace Go.Proofs.Ytbifbbfkcbgnlaa.PFnEscaped
open Go.RowKit Go.Proofs.YtbifbbfkcbgnlaaW.PrintWords Go.Proofs.YtbifbbfkcbgnlaaW.PrintLast Go.Proofs.YtbifbbfkcbgnlaaW.PrintMore
attribute [local go_sem] max2_int min2_int max_two min_two max_three min_three max_four min_four   -- for this text's walks alone
set_option linter.unusedVariables false
set_option linter.unusedSimpArgs false

/-! ### laws_FnEscaped: function 7 -/
mutual
def laws_FnEscaped.j0 : Nat → List Int → List Int → List Int → Bool → Option (Bool)
  | 0, _, _, _, _ => none
  | k + 1, x5, x7, x11, x90 => if x90 = true then (some false) else (laws_FnEscaped.l0 k x5 x7 x11 0)
def laws_FnEscaped.l0 : Nat → List Int → List Int → List Int → Int → Option (Bool)
  | 0, _, _, _, _ => none
  | k + 1, x5, x7, x11, x15 => if x15 < (x7.length : Int) then (if 0 ≤ x15 then (if (rd x7 x15) = 125 then (laws_FnEscaped.l0 k x5 x7 x11 (wrap64 (x15 + 1))) else ((laws_r8Has.f k x5 (rd x7 x15)).bind fun t334 => (if t334 = true then (some false) else (laws_FnEscaped.l0 k x5 x7 x11 (wrap64 (x15 + 1)))))) else (none)) else ((laws_r8Has.f k x11 0).bind fun t335 => (some (!t335)))
end
def laws_FnEscaped.f (k : Nat) (l0 : List Int) (l1 : List Int) : Option (Bool) := (laws_r8Long.f l0 l1).bind fun t307 => (if t307 = true then (some true) else ((spec_R8Special.f k l0).bind fun t308 => ((spec_R8Bytes.f k l1).bind fun t311 => ((impl_EscapeBytes.f k t308 t311).bind fun bt314 => ((impl_UnescapeBytes.f k t308 bt314.1).bind fun bt318 => ((impl_CobsBytes.f k t311).bind fun bt322 => ((impl_UncobsBytes.f k bt322.1).bind fun bt326 => (if bt314.2 = true then (if bt318.2 = true then (if bt322.2 = true then (if bt326.2 = true then ((laws_r8Nums.f k bt318.1 t311).bind fun t330 => (if t330 = true then ((laws_r8Nums.f k bt326.1 t311).bind fun t331 => (if t331 = true then (if (bt322.1.length : Int) < (wrap64 ((t311.length : Int) + 1)) then (laws_FnEscaped.j0 k t308 bt314.1 bt322.1 true) else (laws_FnEscaped.j0 k t308 bt314.1 bt322.1 (decide ((bt322.1.length : Int) > (wrap64 ((wrap64 ((t311.length : Int) + 1)) + (wrap64 ((t311.length : Int) / 254)))))))) else (laws_FnEscaped.j0 k t308 bt314.1 bt322.1 true))) else (laws_FnEscaped.j0 k t308 bt314.1 bt322.1 true))) else (laws_FnEscaped.j0 k t308 bt314.1 bt322.1 true)) else (laws_FnEscaped.j0 k t308 bt314.1 bt322.1 true)) else (laws_FnEscaped.j0 k t308 bt314.1 bt322.1 true)) else (laws_FnEscaped.j0 k t308 bt314.1 bt322.1 true)))))))))
theorem laws_FnEscaped.mono_l : ∀ k, (∀ y0 y1 y2 y3, LeO (laws_FnEscaped.j0 k y0 y1 y2 y3) (laws_FnEscaped.j0 (k + 1) y0 y1 y2 y3)) ∧ (∀ y0 y1 y2 y3, LeO (laws_FnEscaped.l0 k y0 y1 y2 y3) (laws_FnEscaped.l0 (k + 1) y0 y1 y2 y3))
  | 0 => ⟨fun _ _ _ _ r h => by simp [laws_FnEscaped.j0] at h, fun _ _ _ _ r h => by simp [laws_FnEscaped.l0] at h⟩
  | k + 1 => by
    obtain ⟨ih0, ih1⟩ := laws_FnEscaped.mono_l k
    refine ⟨?_, ?_⟩
    · intro y0 y1 y2 y3
      unfold laws_FnEscaped.j0
      repeat' first
      | (with_reducible exact ih0 _ _ _ _)
      | (with_reducible exact ih1 _ _ _ _)
      | (with_reducible exact impl_CobsBytes.mono _ _)
      | (with_reducible exact impl_EscapeBytes.mono _ _ _)
      | (with_reducible exact impl_UncobsBytes.mono _ _)
      | (with_reducible exact impl_UnescapeBytes.mono _ _ _)
      | (with_reducible exact laws_r8Has.mono _ _ _)
      | (with_reducible exact laws_r8Nums.mono _ _ _)
      | (with_reducible exact spec_R8Bytes.mono _ _)
      | (with_reducible exact spec_R8Special.mono _ _)
      | (with_reducible exact LeO.refl _)
      | (with_reducible exact LeO.none _)
      | (with_reducible refine LeO.ite ?_ ?_)
      | (with_reducible refine LeO.bind ?_ (fun _ => ?_))
      | exact ih0 _ _ _ _
      | exact ih1 _ _ _ _
      | exact impl_CobsBytes.mono _ _
      | exact impl_EscapeBytes.mono _ _ _
      | exact impl_UncobsBytes.mono _ _
      | exact impl_UnescapeBytes.mono _ _ _
      | exact laws_r8Has.mono _ _ _
      | exact laws_r8Nums.mono _ _ _
      | exact spec_R8Bytes.mono _ _
      | exact spec_R8Special.mono _ _
      | exact LeO.none _
      | refine LeO.ite ?_ ?_
      | refine LeO.bind ?_ (fun _ => ?_)
    · intro y0 y1 y2 y3
      unfold laws_FnEscaped.l0
      repeat' first
      | (with_reducible exact ih0 _ _ _ _)
      | (with_reducible exact ih1 _ _ _ _)
      | (with_reducible exact impl_CobsBytes.mono _ _)
      | (with_reducible exact impl_EscapeBytes.mono _ _ _)
      | (with_reducible exact impl_UncobsBytes.mono _ _)
      | (with_reducible exact impl_UnescapeBytes.mono _ _ _)
      | (with_reducible exact laws_r8Has.mono _ _ _)
      | (with_reducible exact laws_r8Nums.mono _ _ _)
      | (with_reducible exact spec_R8Bytes.mono _ _)
      | (with_reducible exact spec_R8Special.mono _ _)
      | (with_reducible exact LeO.refl _)
      | (with_reducible exact LeO.none _)
      | (with_reducible refine LeO.ite ?_ ?_)
      | (with_reducible refine LeO.bind ?_ (fun _ => ?_))
      | exact ih0 _ _ _ _
      | exact ih1 _ _ _ _
      | exact impl_CobsBytes.mono _ _
      | exact impl_EscapeBytes.mono _ _ _
      | exact impl_UncobsBytes.mono _ _
      | exact impl_UnescapeBytes.mono _ _ _
      | exact laws_r8Has.mono _ _ _
      | exact laws_r8Nums.mono _ _ _
      | exact spec_R8Bytes.mono _ _
      | exact spec_R8Special.mono _ _
      | exact LeO.none _
      | refine LeO.ite ?_ ?_
      | refine LeO.bind ?_ (fun _ => ?_)
theorem laws_FnEscaped.mono : ∀ a0 a1 k, LeO (laws_FnEscaped.f k a0 a1) (laws_FnEscaped.f (k + 1) a0 a1) := by
  intro a0 a1 k
  obtain ⟨ih0, ih1⟩ := laws_FnEscaped.mono_l k
  unfold laws_FnEscaped.f
  repeat' first
      | (with_reducible exact ih0 _ _ _ _)
      | (with_reducible exact ih1 _ _ _ _)
      | (with_reducible exact impl_CobsBytes.mono _ _)
      | (with_reducible exact impl_EscapeBytes.mono _ _ _)
      | (with_reducible exact impl_UncobsBytes.mono _ _)
      | (with_reducible exact impl_UnescapeBytes.mono _ _ _)
      | (with_reducible exact laws_r8Has.mono _ _ _)
      | (with_reducible exact laws_r8Nums.mono _ _ _)
      | (with_reducible exact spec_R8Bytes.mono _ _)
      | (with_reducible exact spec_R8Special.mono _ _)
      | (with_reducible exact LeO.refl _)
      | (with_reducible exact LeO.none _)
      | (with_reducible refine LeO.ite ?_ ?_)
      | (with_reducible refine LeO.bind ?_ (fun _ => ?_))
      | exact ih0 _ _ _ _
      | exact ih1 _ _ _ _
      | exact impl_CobsBytes.mono _ _
      | exact impl_EscapeBytes.mono _ _ _
      | exact impl_UncobsBytes.mono _ _
      | exact impl_UnescapeBytes.mono _ _ _
      | exact laws_r8Has.mono _ _ _
      | exact laws_r8Nums.mono _ _ _
      | exact spec_R8Bytes.mono _ _
      | exact spec_R8Special.mono _ _
      | exact LeO.none _
      | refine LeO.ite ?_ ?_
      | refine LeO.bind ?_ (fun _ => ?_)
set_option maxHeartbeats 8000000 in
set_option maxRecDepth 100000 in
theorem laws_FnEscaped.calls (k : Nat) (A0 : Option Addr) (c0 : Nat) (l0 : List Int) (A1 : Option Addr) (c1 : Nat) (l1 : List Int) (r : Bool) (w : World) (hr0 : Kd.C (Kd.int .u8) w A0 l0.length l0) (hc0 : l0.length ≤ c0) (hr1 : Kd.C (Kd.int .u8) w A1 l1.length l1) (hc1 : l1.length ≤ c1) (h : laws_FnEscaped.f k l0 l1 = some r) :
    Calls Try.prog 7 #[.slice A0 l0.length c0, .slice A1 l1.length c1] w fun e w' => e = .returned (.bool r) ∧ Below w.heap.size w w' := by
  have HR0 := Aside0.mk hr0
  have HC0 := Aside0.mk hc0
  clear hr0 hc0
  have HR1 := Aside0.mk hr1
  have HC1 := Aside0.mk hc1
  clear hr1 hc1
  have HB := Aside0.mk (Below.refl w.heap.size w)
  have H : ((laws_r8Long.f l0 l1).bind fun t307 => (if t307 = true then (some true) else ((spec_R8Special.f k l0).bind fun t308 => ((spec_R8Bytes.f k l1).bind fun t311 => ((impl_EscapeBytes.f k t308 t311).bind fun bt314 => ((impl_UnescapeBytes.f k t308 bt314.1).bind fun bt318 => ((impl_CobsBytes.f k t311).bind fun bt322 => ((impl_UncobsBytes.f k bt322.1).bind fun bt326 => (if bt314.2 = true then (if bt318.2 = true then (if bt322.2 = true then (if bt326.2 = true then ((laws_r8Nums.f k bt318.1 t311).bind fun t330 => (if t330 = true then ((laws_r8Nums.f k bt326.1 t311).bind fun t331 => (if t331 = true then (if (bt322.1.length : Int) < (wrap64 ((t311.length : Int) + 1)) then (laws_FnEscaped.j0 k t308 bt314.1 bt322.1 true) else (laws_FnEscaped.j0 k t308 bt314.1 bt322.1 (decide ((bt322.1.length : Int) > (wrap64 ((wrap64 ((t311.length : Int) + 1)) + (wrap64 ((t311.length : Int) / 254)))))))) else (laws_FnEscaped.j0 k t308 bt314.1 bt322.1 true))) else (laws_FnEscaped.j0 k t308 bt314.1 bt322.1 true))) else (laws_FnEscaped.j0 k t308 bt314.1 bt322.1 true)) else (laws_FnEscaped.j0 k t308 bt314.1 bt322.1 true)) else (laws_FnEscaped.j0 k t308 bt314.1 bt322.1 true)) else (laws_FnEscaped.j0 k t308 bt314.1 bt322.1 true)))))))))) = some r := h
  clear h
  replace H := Option.bind_eq_some_iff.mp H
  obtain ⟨t307, A30, H⟩ := H
  replace H : (if t307 = true then (some true) else ((spec_R8Special.f k l0).bind fun t308 => ((spec_R8Bytes.f k l1).bind fun t311 => ((impl_EscapeBytes.f k t308 t311).bind fun bt314 => ((impl_UnescapeBytes.f k t308 bt314.1).bind fun bt318 => ((impl_CobsBytes.f k t311).bind fun bt322 => ((impl_UncobsBytes.f k bt322.1).bind fun bt326 => (if bt314.2 = true then (if bt318.2 = true then (if bt322.2 = true then (if bt326.2 = true then ((laws_r8Nums.f k bt318.1 t311).bind fun t330 => (if t330 = true then ((laws_r8Nums.f k bt326.1 t311).bind fun t331 => (if t331 = true then (if (bt322.1.length : Int) < (wrap64 ((t311.length : Int) + 1)) then (laws_FnEscaped.j0 k t308 bt314.1 bt322.1 true) else (laws_FnEscaped.j0 k t308 bt314.1 bt322.1 (decide ((bt322.1.length : Int) > (wrap64 ((wrap64 ((t311.length : Int) + 1)) + (wrap64 ((t311.length : Int) / 254)))))))) else (laws_FnEscaped.j0 k t308 bt314.1 bt322.1 true))) else (laws_FnEscaped.j0 k t308 bt314.1 bt322.1 true))) else (laws_FnEscaped.j0 k t308 bt314.1 bt322.1 true)) else (laws_FnEscaped.j0 k t308 bt314.1 bt322.1 true)) else (laws_FnEscaped.j0 k t308 bt314.1 bt322.1 true)) else (laws_FnEscaped.j0 k t308 bt314.1 bt322.1 true))))))))) = some r := H
  have A3 := Aside0.mk A30
  clear A30
  by_cases c4 : t307 = true
  · subst c4
    have H1 : (some true) = some r := by rw [if_pos rfl] at H; exact H
    clear H
    have H := H1
    clear H1
    obtain rfl := Option.some.inj H
    go_enter Try.func7, Try.ntmps7
    go_wp2_with (first | ((with_reducible refine gate_callee (f := 20) rfl ?_); refine goesL_ (some 18) rfl rfl Try.func20 (by kernel_rfl) rfl #[.slice A0 l0.length c0, .slice A1 l1.length c1] rfl (by (try simp only [List.map_toArray, List.map_cons, List.map_nil]); first | done | rfl | (simp only [List.length_drop, List.length_take]; rfl)) ?_; (with_reducible refine (laws_r8Long.calls _ _ l0 _ _ l1 true _ ?side1 ?side2 ?side3 ?side4 A3.out).mono ?_); (case side1 => repeat (first | exact HR0.out | (with_reducible refine Kd.C_alloc ?_ _) | (with_reducible refine Kd.C_drewN ?_ _) | (with_reducible refine Kd.C_drew ?_))); (case side2 => exact HC0.out); (case side3 => repeat (first | exact HR1.out | (with_reducible refine Kd.C_alloc ?_ _) | (with_reducible refine Kd.C_drewN ?_ _) | (with_reducible refine Kd.C_drew ?_))); (case side4 => exact HC1.out); rintro e w' ⟨rfl, ⟨nd, rfl⟩⟩; refine ⟨_, rfl, ?_⟩))
    go_ret
    exact ⟨by first | rfl | (simp [errW_none, errW_some] <;> rfl) | (simp [*, errW_none, errW_some] <;> rfl), by repeat (first | (with_reducible first | exact HB.out | apply below_alloc | apply pw_below_drewN | apply below_drew1) | exact HB.out)⟩
  · replace c4 := Bool.eq_false_iff.mpr c4
    subst c4
    have H1 : ((spec_R8Special.f k l0).bind fun t308 => ((spec_R8Bytes.f k l1).bind fun t311 => ((impl_EscapeBytes.f k t308 t311).bind fun bt314 => ((impl_UnescapeBytes.f k t308 bt314.1).bind fun bt318 => ((impl_CobsBytes.f k t311).bind fun bt322 => ((impl_UncobsBytes.f k bt322.1).bind fun bt326 => (if bt314.2 = true then (if bt318.2 = true then (if bt322.2 = true then (if bt326.2 = true then ((laws_r8Nums.f k bt318.1 t311).bind fun t330 => (if t330 = true then ((laws_r8Nums.f k bt326.1 t311).bind fun t331 => (if t331 = true then (if (bt322.1.length : Int) < (wrap64 ((t311.length : Int) + 1)) then (laws_FnEscaped.j0 k t308 bt314.1 bt322.1 true) else (laws_FnEscaped.j0 k t308 bt314.1 bt322.1 (decide ((bt322.1.length : Int) > (wrap64 ((wrap64 ((t311.length : Int) + 1)) + (wrap64 ((t311.length : Int) / 254)))))))) else (laws_FnEscaped.j0 k t308 bt314.1 bt322.1 true))) else (laws_FnEscaped.j0 k t308 bt314.1 bt322.1 true))) else (laws_FnEscaped.j0 k t308 bt314.1 bt322.1 true)) else (laws_FnEscaped.j0 k t308 bt314.1 bt322.1 true)) else (laws_FnEscaped.j0 k t308 bt314.1 bt322.1 true)) else (laws_FnEscaped.j0 k t308 bt314.1 bt322.1 true)))))))) = some r := by rw [if_neg (show ¬ (false = true) by decide)] at H; exact H
    clear H
    have H := H1
    clear H1
    replace H := Option.bind_eq_some_iff.mp H
    obtain ⟨t308, A50, H⟩ := H
    replace H : ((spec_R8Bytes.f k l1).bind fun t311 => ((impl_EscapeBytes.f k t308 t311).bind fun bt314 => ((impl_UnescapeBytes.f k t308 bt314.1).bind fun bt318 => ((impl_CobsBytes.f k t311).bind fun bt322 => ((impl_UncobsBytes.f k bt322.1).bind fun bt326 => (if bt314.2 = true then (if bt318.2 = true then (if bt322.2 = true then (if bt326.2 = true then ((laws_r8Nums.f k bt318.1 t311).bind fun t330 => (if t330 = true then ((laws_r8Nums.f k bt326.1 t311).bind fun t331 => (if t331 = true then (if (bt322.1.length : Int) < (wrap64 ((t311.length : Int) + 1)) then (laws_FnEscaped.j0 k t308 bt314.1 bt322.1 true) else (laws_FnEscaped.j0 k t308 bt314.1 bt322.1 (decide ((bt322.1.length : Int) > (wrap64 ((wrap64 ((t311.length : Int) + 1)) + (wrap64 ((t311.length : Int) / 254)))))))) else (laws_FnEscaped.j0 k t308 bt314.1 bt322.1 true))) else (laws_FnEscaped.j0 k t308 bt314.1 bt322.1 true))) else (laws_FnEscaped.j0 k t308 bt314.1 bt322.1 true)) else (laws_FnEscaped.j0 k t308 bt314.1 bt322.1 true)) else (laws_FnEscaped.j0 k t308 bt314.1 bt322.1 true)) else (laws_FnEscaped.j0 k t308 bt314.1 bt322.1 true))))))) = some r := H
    have A5 := Aside0.mk A50
    clear A50
    replace H := Option.bind_eq_some_iff.mp H
    obtain ⟨t311, A60, H⟩ := H
    replace H : ((impl_EscapeBytes.f k t308 t311).bind fun bt314 => ((impl_UnescapeBytes.f k t308 bt314.1).bind fun bt318 => ((impl_CobsBytes.f k t311).bind fun bt322 => ((impl_UncobsBytes.f k bt322.1).bind fun bt326 => (if bt314.2 = true then (if bt318.2 = true then (if bt322.2 = true then (if bt326.2 = true then ((laws_r8Nums.f k bt318.1 t311).bind fun t330 => (if t330 = true then ((laws_r8Nums.f k bt326.1 t311).bind fun t331 => (if t331 = true then (if (bt322.1.length : Int) < (wrap64 ((t311.length : Int) + 1)) then (laws_FnEscaped.j0 k t308 bt314.1 bt322.1 true) else (laws_FnEscaped.j0 k t308 bt314.1 bt322.1 (decide ((bt322.1.length : Int) > (wrap64 ((wrap64 ((t311.length : Int) + 1)) + (wrap64 ((t311.length : Int) / 254)))))))) else (laws_FnEscaped.j0 k t308 bt314.1 bt322.1 true))) else (laws_FnEscaped.j0 k t308 bt314.1 bt322.1 true))) else (laws_FnEscaped.j0 k t308 bt314.1 bt322.1 true)) else (laws_FnEscaped.j0 k t308 bt314.1 bt322.1 true)) else (laws_FnEscaped.j0 k t308 bt314.1 bt322.1 true)) else (laws_FnEscaped.j0 k t308 bt314.1 bt322.1 true)))))) = some r := H
    have A6 := Aside0.mk A60
    clear A60
    replace H := Option.bind_eq_some_iff.mp H
    obtain ⟨⟨t314, t315⟩, A70, H⟩ := H
    replace H : ((impl_UnescapeBytes.f k t308 t314).bind fun bt318 => ((impl_CobsBytes.f k t311).bind fun bt322 => ((impl_UncobsBytes.f k bt322.1).bind fun bt326 => (if t315 = true then (if bt318.2 = true then (if bt322.2 = true then (if bt326.2 = true then ((laws_r8Nums.f k bt318.1 t311).bind fun t330 => (if t330 = true then ((laws_r8Nums.f k bt326.1 t311).bind fun t331 => (if t331 = true then (if (bt322.1.length : Int) < (wrap64 ((t311.length : Int) + 1)) then (laws_FnEscaped.j0 k t308 t314 bt322.1 true) else (laws_FnEscaped.j0 k t308 t314 bt322.1 (decide ((bt322.1.length : Int) > (wrap64 ((wrap64 ((t311.length : Int) + 1)) + (wrap64 ((t311.length : Int) / 254)))))))) else (laws_FnEscaped.j0 k t308 t314 bt322.1 true))) else (laws_FnEscaped.j0 k t308 t314 bt322.1 true))) else (laws_FnEscaped.j0 k t308 t314 bt322.1 true)) else (laws_FnEscaped.j0 k t308 t314 bt322.1 true)) else (laws_FnEscaped.j0 k t308 t314 bt322.1 true)) else (laws_FnEscaped.j0 k t308 t314 bt322.1 true))))) = some r := H
    have A7 := Aside0.mk A70
    clear A70
    replace H := Option.bind_eq_some_iff.mp H
    obtain ⟨⟨t318, t319⟩, A80, H⟩ := H
    replace H : ((impl_CobsBytes.f k t311).bind fun bt322 => ((impl_UncobsBytes.f k bt322.1).bind fun bt326 => (if t315 = true then (if t319 = true then (if bt322.2 = true then (if bt326.2 = true then ((laws_r8Nums.f k t318 t311).bind fun t330 => (if t330 = true then ((laws_r8Nums.f k bt326.1 t311).bind fun t331 => (if t331 = true then (if (bt322.1.length : Int) < (wrap64 ((t311.length : Int) + 1)) then (laws_FnEscaped.j0 k t308 t314 bt322.1 true) else (laws_FnEscaped.j0 k t308 t314 bt322.1 (decide ((bt322.1.length : Int) > (wrap64 ((wrap64 ((t311.length : Int) + 1)) + (wrap64 ((t311.length : Int) / 254)))))))) else (laws_FnEscaped.j0 k t308 t314 bt322.1 true))) else (laws_FnEscaped.j0 k t308 t314 bt322.1 true))) else (laws_FnEscaped.j0 k t308 t314 bt322.1 true)) else (laws_FnEscaped.j0 k t308 t314 bt322.1 true)) else (laws_FnEscaped.j0 k t308 t314 bt322.1 true)) else (laws_FnEscaped.j0 k t308 t314 bt322.1 true)))) = some r := H
    have A8 := Aside0.mk A80
    clear A80
    replace H := Option.bind_eq_some_iff.mp H
    obtain ⟨⟨t322, t323⟩, A90, H⟩ := H
    replace H : ((impl_UncobsBytes.f k t322).bind fun bt326 => (if t315 = true then (if t319 = true then (if t323 = true then (if bt326.2 = true then ((laws_r8Nums.f k t318 t311).bind fun t330 => (if t330 = true then ((laws_r8Nums.f k bt326.1 t311).bind fun t331 => (if t331 = true then (if (t322.length : Int) < (wrap64 ((t311.length : Int) + 1)) then (laws_FnEscaped.j0 k t308 t314 t322 true) else (laws_FnEscaped.j0 k t308 t314 t322 (decide ((t322.length : Int) > (wrap64 ((wrap64 ((t311.length : Int) + 1)) + (wrap64 ((t311.length : Int) / 254)))))))) else (laws_FnEscaped.j0 k t308 t314 t322 true))) else (laws_FnEscaped.j0 k t308 t314 t322 true))) else (laws_FnEscaped.j0 k t308 t314 t322 true)) else (laws_FnEscaped.j0 k t308 t314 t322 true)) else (laws_FnEscaped.j0 k t308 t314 t322 true)) else (laws_FnEscaped.j0 k t308 t314 t322 true))) = some r := H
    have A9 := Aside0.mk A90
    clear A90
    replace H := Option.bind_eq_some_iff.mp H
    obtain ⟨⟨t326, t329⟩, A100, H⟩ := H
    replace H : (if t315 = true then (if t319 = true then (if t323 = true then (if t329 = true then ((laws_r8Nums.f k t318 t311).bind fun t330 => (if t330 = true then ((laws_r8Nums.f k t326 t311).bind fun t331 => (if t331 = true then (if (t322.length : Int) < (wrap64 ((t311.length : Int) + 1)) then (laws_FnEscaped.j0 k t308 t314 t322 true) else (laws_FnEscaped.j0 k t308 t314 t322 (decide ((t322.length : Int) > (wrap64 ((wrap64 ((t311.length : Int) + 1)) + (wrap64 ((t311.length : Int) / 254)))))))) else (laws_FnEscaped.j0 k t308 t314 t322 true))) else (laws_FnEscaped.j0 k t308 t314 t322 true))) else (laws_FnEscaped.j0 k t308 t314 t322 true)) else (laws_FnEscaped.j0 k t308 t314 t322 true)) else (laws_FnEscaped.j0 k t308 t314 t322 true)) else (laws_FnEscaped.j0 k t308 t314 t322 true)) = some r := H
    have A10 := Aside0.mk A100
    clear A100
    have HC11 := Aside0.mk H
    clear H
    go_enter Try.func7, Try.ntmps7
    go_upto_region 9 with (first | ((with_reducible refine gate_callee (f := 20) rfl ?_); refine goesL_ (some 18) rfl rfl Try.func20 (by kernel_rfl) rfl #[.slice A0 l0.length c0, .slice A1 l1.length c1] rfl (by (try simp only [List.map_toArray, List.map_cons, List.map_nil]); first | done | rfl | (simp only [List.length_drop, List.length_take]; rfl)) ?_; (with_reducible refine (laws_r8Long.calls _ _ l0 _ _ l1 false _ ?side1 ?side2 ?side3 ?side4 A3.out).mono ?_); (case side1 => repeat (first | exact HR0.out | (with_reducible refine Kd.C_alloc ?_ _) | (with_reducible refine Kd.C_drewN ?_ _) | (with_reducible refine Kd.C_drew ?_))); (case side2 => exact HC0.out); (case side3 => repeat (first | exact HR1.out | (with_reducible refine Kd.C_alloc ?_ _) | (with_reducible refine Kd.C_drewN ?_ _) | (with_reducible refine Kd.C_drew ?_))); (case side4 => exact HC1.out); rintro e w' ⟨rfl, ⟨nd, rfl⟩⟩; refine ⟨_, rfl, ?_⟩) | ((with_reducible refine gate_callee (f := 21) rfl ?_); refine goesL_ (some 20) rfl rfl Try.func21 (by kernel_rfl) rfl #[.slice A0 l0.length c0] rfl (by (try simp only [List.map_toArray, List.map_cons, List.map_nil]); first | done | rfl | (simp only [List.length_drop, List.length_take]; rfl)) ?_; (with_reducible refine (spec_R8Special.calls k _ _ l0 t308 _ ?side1 ?side2 A5.out).mono ?_); (case side1 => repeat (first | exact HR0.out | (with_reducible refine Kd.C_alloc ?_ _) | (with_reducible refine Kd.C_drewN ?_ _) | (with_reducible refine Kd.C_drew ?_))); (case side2 => exact HC0.out); rintro e w12 ⟨v309, rfl, ho0, hb⟩; refine ⟨_, rfl, ?_⟩; have n0_ := Aside0.mk (Kd.R_lower ho0 (below_size (by repeat (first | (with_reducible first | exact HB.out | apply below_alloc | apply pw_below_drewN | apply below_drew1) | exact HB.out)))); have n1_ := Aside0.mk (below_step (by repeat (first | (with_reducible first | exact HB.out | apply below_alloc | apply pw_below_drewN | apply below_drew1) | exact HB.out)) hb); clear HB; have HO310 := n0_; have HB := n1_; clear n0_ n1_; (try clear hb); (try clear hb2); (try clear hk); (try clear hi); (try clear ho0)) | ((with_reducible refine gate_callee (f := 22) rfl ?_); refine goesL_ (some 22) rfl rfl Try.func22 (by kernel_rfl) rfl #[.slice A1 l1.length c1] rfl (by (try simp only [List.map_toArray, List.map_cons, List.map_nil]); first | done | rfl | (simp only [List.length_drop, List.length_take]; rfl)) ?_; (with_reducible refine (spec_R8Bytes.calls k _ _ l1 t311 _ ?side1 ?side2 A6.out).mono ?_); (case side1 => repeat (first | exact (Kd.C_below HR1.out HB.out) | (with_reducible refine Kd.C_alloc ?_ _) | (with_reducible refine Kd.C_drewN ?_ _) | (with_reducible refine Kd.C_drew ?_))); (case side2 => exact HC1.out); rintro e w13 ⟨v312, rfl, ho0, hb⟩; refine ⟨_, rfl, ?_⟩; have n0_ := Aside0.mk (Kd.R_elder' (by (with_reducible repeat (first | apply Kd.R_alloc | apply Kd.R_drewN | apply Kd.R_drew)); exact HO310.out) (Kd.R_base ho0) hb); have n1_ := Aside0.mk (Kd.R_lower (Kd.R_new' ho0 (Kd.R_lt (by (with_reducible repeat (first | apply Kd.R_alloc | apply Kd.R_drewN | apply Kd.R_drew)); exact HO310.out))) (below_size (by repeat (first | (with_reducible first | exact HB.out | apply below_alloc | apply pw_below_drewN | apply below_drew1) | exact HB.out)))); have n2_ := Aside0.mk (below_step (by repeat (first | (with_reducible first | exact HB.out | apply below_alloc | apply pw_below_drewN | apply below_drew1) | exact HB.out)) hb); clear HO310; clear HB; have HO310 := n0_; have HO313 := n1_; have HB := n2_; clear n0_ n1_ n2_; (try clear hb); (try clear hb2); (try clear hk); (try clear hi); (try clear ho0); obtain ⟨Ao14, co14, eo14⟩ := Kd.R_slice HO310.out; subst eo14; obtain ⟨Ao15, co15, eo15⟩ := Kd.R_slice HO313.out; subst eo15) | ((with_reducible refine gate_callee (f := 15) rfl ?_); refine goesL_ (some 26) rfl rfl Try.func15 (by kernel_rfl) rfl #[.slice Ao14 t308.length co14, .slice Ao15 t311.length co15] rfl (by (try simp only [List.map_toArray, List.map_cons, List.map_nil]); first | done | rfl | (simp only [List.length_drop, List.length_take]; rfl)) ?_; (with_reducible refine (impl_EscapeBytes.calls k _ _ t308 _ _ t311 t314 t315 _ ?side1 ?side2 ?side3 ?side4 A7.out).mono ?_); (case side1 => repeat (first | exact (Kd.R_reads' HO310.out).2.2 | (with_reducible refine Kd.C_alloc ?_ _) | (with_reducible refine Kd.C_drewN ?_ _) | (with_reducible refine Kd.C_drew ?_))); (case side2 => exact (Kd.R_reads' HO310.out).2.1); (case side3 => repeat (first | exact (Kd.R_reads' HO313.out).2.2 | (with_reducible refine Kd.C_alloc ?_ _) | (with_reducible refine Kd.C_drewN ?_ _) | (with_reducible refine Kd.C_drew ?_))); (case side4 => exact (Kd.R_reads' HO313.out).2.1); rintro e w16 ⟨v316, rfl, ho0, hb⟩; refine ⟨_, rfl, ?_⟩; have n0_ := Aside0.mk (Kd.R_elder' (by (with_reducible repeat (first | apply Kd.R_alloc | apply Kd.R_drewN | apply Kd.R_drew)); exact HO310.out) (Kd.R_base ho0) hb); have n1_ := Aside0.mk (Kd.R_elder' (by (with_reducible repeat (first | apply Kd.R_alloc | apply Kd.R_drewN | apply Kd.R_drew)); exact HO313.out) (Kd.R_base ho0) hb); have n2_ := Aside0.mk (Kd.R_lower (Kd.R_new' (Kd.R_new' ho0 (Kd.R_lt (by (with_reducible repeat (first | apply Kd.R_alloc | apply Kd.R_drewN | apply Kd.R_drew)); exact HO310.out))) (Kd.R_lt (by (with_reducible repeat (first | apply Kd.R_alloc | apply Kd.R_drewN | apply Kd.R_drew)); exact HO313.out))) (below_size (by repeat (first | (with_reducible first | exact HB.out | apply below_alloc | apply pw_below_drewN | apply below_drew1) | exact HB.out)))); have n3_ := Aside0.mk (below_step (by repeat (first | (with_reducible first | exact HB.out | apply below_alloc | apply pw_below_drewN | apply below_drew1) | exact HB.out)) hb); clear HO310; clear HO313; clear HB; have HO310 := n0_; have HO313 := n1_; have HO317 := n2_; have HB := n3_; clear n0_ n1_ n2_ n3_; (try clear hb); (try clear hb2); (try clear hk); (try clear hi); (try clear ho0); obtain ⟨Ao17, co17, eo17⟩ := Kd.R_slice HO317.out; subst eo17) | ((with_reducible refine gate_callee (f := 19) rfl ?_); refine goesL_ (some 32) rfl rfl Try.func19 (by kernel_rfl) rfl #[.slice Ao14 t308.length co14, .slice Ao17 t314.length co17] rfl (by (try simp only [List.map_toArray, List.map_cons, List.map_nil]); first | done | rfl | (simp only [List.length_drop, List.length_take]; rfl)) ?_; (with_reducible refine (impl_UnescapeBytes.calls k _ _ t308 _ _ t314 t318 t319 _ ?side1 ?side2 ?side3 ?side4 A8.out).mono ?_); (case side1 => repeat (first | exact (Kd.R_reads' HO310.out).2.2 | (with_reducible refine Kd.C_alloc ?_ _) | (with_reducible refine Kd.C_drewN ?_ _) | (with_reducible refine Kd.C_drew ?_))); (case side2 => exact (Kd.R_reads' HO310.out).2.1); (case side3 => repeat (first | exact (Kd.R_reads' HO317.out).2.2 | (with_reducible refine Kd.C_alloc ?_ _) | (with_reducible refine Kd.C_drewN ?_ _) | (with_reducible refine Kd.C_drew ?_))); (case side4 => exact (Kd.R_reads' HO317.out).2.1); rintro e w18 ⟨v320, rfl, ho0, hb⟩; refine ⟨_, rfl, ?_⟩; have n0_ := Aside0.mk (Kd.R_elder' (by (with_reducible repeat (first | apply Kd.R_alloc | apply Kd.R_drewN | apply Kd.R_drew)); exact HO310.out) (Kd.R_base ho0) hb); have n1_ := Aside0.mk (Kd.R_elder' (by (with_reducible repeat (first | apply Kd.R_alloc | apply Kd.R_drewN | apply Kd.R_drew)); exact HO313.out) (Kd.R_base ho0) hb); have n2_ := Aside0.mk (Kd.R_elder' (by (with_reducible repeat (first | apply Kd.R_alloc | apply Kd.R_drewN | apply Kd.R_drew)); exact HO317.out) (Kd.R_base ho0) hb); have n3_ := Aside0.mk (Kd.R_lower (Kd.R_new' (Kd.R_new' (Kd.R_new' ho0 (Kd.R_lt (by (with_reducible repeat (first | apply Kd.R_alloc | apply Kd.R_drewN | apply Kd.R_drew)); exact HO310.out))) (Kd.R_lt (by (with_reducible repeat (first | apply Kd.R_alloc | apply Kd.R_drewN | apply Kd.R_drew)); exact HO313.out))) (Kd.R_lt (by (with_reducible repeat (first | apply Kd.R_alloc | apply Kd.R_drewN | apply Kd.R_drew)); exact HO317.out))) (below_size (by repeat (first | (with_reducible first | exact HB.out | apply below_alloc | apply pw_below_drewN | apply below_drew1) | exact HB.out)))); have n4_ := Aside0.mk (below_step (by repeat (first | (with_reducible first | exact HB.out | apply below_alloc | apply pw_below_drewN | apply below_drew1) | exact HB.out)) hb); clear HO310; clear HO313; clear HO317; clear HB; have HO310 := n0_; have HO313 := n1_; have HO317 := n2_; have HO321 := n3_; have HB := n4_; clear n0_ n1_ n2_ n3_ n4_; (try clear hb); (try clear hb2); (try clear hk); (try clear hi); (try clear ho0)) | ((with_reducible refine gate_callee (f := 10) rfl ?_); refine goesL_ (some 37) rfl rfl Try.func10 (by kernel_rfl) rfl #[.slice Ao15 t311.length co15] rfl (by (try simp only [List.map_toArray, List.map_cons, List.map_nil]); first | done | rfl | (simp only [List.length_drop, List.length_take]; rfl)) ?_; (with_reducible refine (impl_CobsBytes.calls k _ _ t311 t322 t323 _ ?side1 ?side2 A9.out).mono ?_); (case side1 => repeat (first | exact (Kd.R_reads' HO313.out).2.2 | (with_reducible refine Kd.C_alloc ?_ _) | (with_reducible refine Kd.C_drewN ?_ _) | (with_reducible refine Kd.C_drew ?_))); (case side2 => exact (Kd.R_reads' HO313.out).2.1); rintro e w19 ⟨v324, rfl, ho0, hb⟩; refine ⟨_, rfl, ?_⟩; have n0_ := Aside0.mk (Kd.R_elder' (by (with_reducible repeat (first | apply Kd.R_alloc | apply Kd.R_drewN | apply Kd.R_drew)); exact HO310.out) (Kd.R_base ho0) hb); have n1_ := Aside0.mk (Kd.R_elder' (by (with_reducible repeat (first | apply Kd.R_alloc | apply Kd.R_drewN | apply Kd.R_drew)); exact HO313.out) (Kd.R_base ho0) hb); have n2_ := Aside0.mk (Kd.R_elder' (by (with_reducible repeat (first | apply Kd.R_alloc | apply Kd.R_drewN | apply Kd.R_drew)); exact HO317.out) (Kd.R_base ho0) hb); have n3_ := Aside0.mk (Kd.R_elder' (by (with_reducible repeat (first | apply Kd.R_alloc | apply Kd.R_drewN | apply Kd.R_drew)); exact HO321.out) (Kd.R_base ho0) hb); have n4_ := Aside0.mk (Kd.R_lower (Kd.R_new' (Kd.R_new' (Kd.R_new' (Kd.R_new' ho0 (Kd.R_lt (by (with_reducible repeat (first | apply Kd.R_alloc | apply Kd.R_drewN | apply Kd.R_drew)); exact HO310.out))) (Kd.R_lt (by (with_reducible repeat (first | apply Kd.R_alloc | apply Kd.R_drewN | apply Kd.R_drew)); exact HO313.out))) (Kd.R_lt (by (with_reducible repeat (first | apply Kd.R_alloc | apply Kd.R_drewN | apply Kd.R_drew)); exact HO317.out))) (Kd.R_lt (by (with_reducible repeat (first | apply Kd.R_alloc | apply Kd.R_drewN | apply Kd.R_drew)); exact HO321.out))) (below_size (by repeat (first | (with_reducible first | exact HB.out | apply below_alloc | apply pw_below_drewN | apply below_drew1) | exact HB.out)))); have n5_ := Aside0.mk (below_step (by repeat (first | (with_reducible first | exact HB.out | apply below_alloc | apply pw_below_drewN | apply below_drew1) | exact HB.out)) hb); clear HO310; clear HO313; clear HO317; clear HO321; clear HB; have HO310 := n0_; have HO313 := n1_; have HO317 := n2_; have HO321 := n3_; have HO325 := n4_; have HB := n5_; clear n0_ n1_ n2_ n3_ n4_ n5_; (try clear hb); (try clear hb2); (try clear hk); (try clear hi); (try clear ho0); obtain ⟨Ao20, co20, eo20⟩ := Kd.R_slice HO325.out; subst eo20) | ((with_reducible refine gate_callee (f := 17) rfl ?_); refine goesL_ (some 42) rfl rfl Try.func17 (by kernel_rfl) rfl #[.slice Ao20 t322.length co20] rfl (by (try simp only [List.map_toArray, List.map_cons, List.map_nil]); first | done | rfl | (simp only [List.length_drop, List.length_take]; rfl)) ?_; (with_reducible refine (impl_UncobsBytes.calls k (fun k_ => some k_ = (.slice Ao20 t322.length co20 : Value).ownBlock) _ _ t322 t326 t329 _ ?side1 A10.out).mono ?_); (case side1 => exact Kd.R_V (Kd.R_tight rfl (HO325.out))); rintro e w21 ⟨v327, rfl, ho0, hb⟩; refine ⟨_, rfl, ?_⟩; have n0_ := Aside0.mk (Kd.R_elder' (by (with_reducible repeat (first | apply Kd.R_alloc | apply Kd.R_drewN | apply Kd.R_drew)); exact HO310.out) (Kd.R_base ho0) hb); have n1_ := Aside0.mk (Kd.R_elder' (by (with_reducible repeat (first | apply Kd.R_alloc | apply Kd.R_drewN | apply Kd.R_drew)); exact HO313.out) (Kd.R_base ho0) hb); have n2_ := Aside0.mk (Kd.R_elder' (by (with_reducible repeat (first | apply Kd.R_alloc | apply Kd.R_drewN | apply Kd.R_drew)); exact HO317.out) (Kd.R_base ho0) hb); have n3_ := Aside0.mk (Kd.R_elder' (by (with_reducible repeat (first | apply Kd.R_alloc | apply Kd.R_drewN | apply Kd.R_drew)); exact HO321.out) (Kd.R_base ho0) hb); have n4_ := Aside0.mk (Kd.R_elder' (by (with_reducible repeat (first | apply Kd.R_alloc | apply Kd.R_drewN | apply Kd.R_drew)); exact HO325.out) (Kd.R_base ho0) hb); have n5_ := Aside0.mk (Kd.R_lower (Kd.R_new' (Kd.R_new' (Kd.R_new' (Kd.R_new' (Kd.R_new' (Kd.R_mono (ok' := fun k_ => True) ho0 (fun _ hk_ => trivial)) (Kd.R_lt (by (with_reducible repeat (first | apply Kd.R_alloc | apply Kd.R_drewN | apply Kd.R_drew)); exact HO310.out))) (Kd.R_lt (by (with_reducible repeat (first | apply Kd.R_alloc | apply Kd.R_drewN | apply Kd.R_drew)); exact HO313.out))) (Kd.R_lt (by (with_reducible repeat (first | apply Kd.R_alloc | apply Kd.R_drewN | apply Kd.R_drew)); exact HO317.out))) (Kd.R_lt (by (with_reducible repeat (first | apply Kd.R_alloc | apply Kd.R_drewN | apply Kd.R_drew)); exact HO321.out))) (Kd.R_lt (by (with_reducible repeat (first | apply Kd.R_alloc | apply Kd.R_drewN | apply Kd.R_drew)); exact HO325.out))) (below_size (by repeat (first | (with_reducible first | exact HB.out | apply below_alloc | apply pw_below_drewN | apply below_drew1) | exact HB.out)))); have n6_ := Aside0.mk (below_step (by repeat (first | (with_reducible first | exact HB.out | apply below_alloc | apply pw_below_drewN | apply below_drew1) | exact HB.out)) hb); clear HO310; clear HO313; clear HO317; clear HO321; clear HO325; clear HB; have HO310 := n0_; have HO313 := n1_; have HO317 := n2_; have HO321 := n3_; have HO325 := n4_; have HO328 := n5_; have HB := n6_; clear n0_ n1_ n2_ n3_ n4_ n5_ n6_; (try clear hb); (try clear hb2); (try clear hk); (try clear hi); (try clear ho0)))
    (try simp only [Act.put, List.setIfInBounds_toArray, List.set_cons_zero, List.set_cons_succ])
    go_cut [90] (fun v90 wc => ∃ (kq : Nat) (x90_10 : Bool), v90 = .bool x90_10 ∧ Aside0 (laws_FnEscaped.j0 kq t308 t314 t322 x90_10 = some r) ∧ Aside0 (kq ≤ k) ∧ Aside0 (Kd.R (Kd.int .i64) 2 wc w.heap.size (fun k_ => some k_ ≠ ((.slice Ao17 t314.length co17) : Value).ownBlock ∧ some k_ ≠ ((.slice Ao20 t322.length co20) : Value).ownBlock) (.slice Ao14 t308.length co14) t308) ∧ Aside0 (Kd.R (Kd.int .i64) 2 wc w.heap.size (fun k_ => some k_ ≠ ((.slice Ao14 t308.length co14) : Value).ownBlock ∧ some k_ ≠ ((.slice Ao20 t322.length co20) : Value).ownBlock) (.slice Ao17 t314.length co17) t314) ∧ Aside0 (Kd.R (Kd.int .i64) 2 wc w.heap.size (fun k_ => some k_ ≠ ((.slice Ao14 t308.length co14) : Value).ownBlock ∧ some k_ ≠ ((.slice Ao17 t314.length co17) : Value).ownBlock) (.slice Ao20 t322.length co20) t322) ∧ Aside0 (Below w.heap.size w wc))
    case first =>
      have H := HC11.out
      clear HC11
      by_cases c22 : t315 = true
      · subst c22
        have H1 : (if t319 = true then (if t323 = true then (if t329 = true then ((laws_r8Nums.f k t318 t311).bind fun t330 => (if t330 = true then ((laws_r8Nums.f k t326 t311).bind fun t331 => (if t331 = true then (if (t322.length : Int) < (wrap64 ((t311.length : Int) + 1)) then (laws_FnEscaped.j0 k t308 t314 t322 true) else (laws_FnEscaped.j0 k t308 t314 t322 (decide ((t322.length : Int) > (wrap64 ((wrap64 ((t311.length : Int) + 1)) + (wrap64 ((t311.length : Int) / 254)))))))) else (laws_FnEscaped.j0 k t308 t314 t322 true))) else (laws_FnEscaped.j0 k t308 t314 t322 true))) else (laws_FnEscaped.j0 k t308 t314 t322 true)) else (laws_FnEscaped.j0 k t308 t314 t322 true)) else (laws_FnEscaped.j0 k t308 t314 t322 true)) = some r := by rw [if_pos rfl] at H; exact H
        clear H
        have H := H1
        clear H1
        by_cases c23 : t319 = true
        · subst c23
          have H1 : (if t323 = true then (if t329 = true then ((laws_r8Nums.f k t318 t311).bind fun t330 => (if t330 = true then ((laws_r8Nums.f k t326 t311).bind fun t331 => (if t331 = true then (if (t322.length : Int) < (wrap64 ((t311.length : Int) + 1)) then (laws_FnEscaped.j0 k t308 t314 t322 true) else (laws_FnEscaped.j0 k t308 t314 t322 (decide ((t322.length : Int) > (wrap64 ((wrap64 ((t311.length : Int) + 1)) + (wrap64 ((t311.length : Int) / 254)))))))) else (laws_FnEscaped.j0 k t308 t314 t322 true))) else (laws_FnEscaped.j0 k t308 t314 t322 true))) else (laws_FnEscaped.j0 k t308 t314 t322 true)) else (laws_FnEscaped.j0 k t308 t314 t322 true)) = some r := by rw [if_pos rfl] at H; exact H
          clear H
          have H := H1
          clear H1
          by_cases c24 : t323 = true
          · subst c24
            have H1 : (if t329 = true then ((laws_r8Nums.f k t318 t311).bind fun t330 => (if t330 = true then ((laws_r8Nums.f k t326 t311).bind fun t331 => (if t331 = true then (if (t322.length : Int) < (wrap64 ((t311.length : Int) + 1)) then (laws_FnEscaped.j0 k t308 t314 t322 true) else (laws_FnEscaped.j0 k t308 t314 t322 (decide ((t322.length : Int) > (wrap64 ((wrap64 ((t311.length : Int) + 1)) + (wrap64 ((t311.length : Int) / 254)))))))) else (laws_FnEscaped.j0 k t308 t314 t322 true))) else (laws_FnEscaped.j0 k t308 t314 t322 true))) else (laws_FnEscaped.j0 k t308 t314 t322 true)) = some r := by rw [if_pos rfl] at H; exact H
            clear H
            have H := H1
            clear H1
            by_cases c25 : t329 = true
            · subst c25
              have H1 : ((laws_r8Nums.f k t318 t311).bind fun t330 => (if t330 = true then ((laws_r8Nums.f k t326 t311).bind fun t331 => (if t331 = true then (if (t322.length : Int) < (wrap64 ((t311.length : Int) + 1)) then (laws_FnEscaped.j0 k t308 t314 t322 true) else (laws_FnEscaped.j0 k t308 t314 t322 (decide ((t322.length : Int) > (wrap64 ((wrap64 ((t311.length : Int) + 1)) + (wrap64 ((t311.length : Int) / 254)))))))) else (laws_FnEscaped.j0 k t308 t314 t322 true))) else (laws_FnEscaped.j0 k t308 t314 t322 true))) = some r := by rw [if_pos rfl] at H; exact H
              clear H
              have H := H1
              clear H1
              replace H := Option.bind_eq_some_iff.mp H
              obtain ⟨t330, A260, H⟩ := H
              replace H : (if t330 = true then ((laws_r8Nums.f k t326 t311).bind fun t331 => (if t331 = true then (if (t322.length : Int) < (wrap64 ((t311.length : Int) + 1)) then (laws_FnEscaped.j0 k t308 t314 t322 true) else (laws_FnEscaped.j0 k t308 t314 t322 (decide ((t322.length : Int) > (wrap64 ((wrap64 ((t311.length : Int) + 1)) + (wrap64 ((t311.length : Int) / 254)))))))) else (laws_FnEscaped.j0 k t308 t314 t322 true))) else (laws_FnEscaped.j0 k t308 t314 t322 true)) = some r := H
              have A26 := Aside0.mk A260
              clear A260
              by_cases c27 : t330 = true
              · subst c27
                have H1 : ((laws_r8Nums.f k t326 t311).bind fun t331 => (if t331 = true then (if (t322.length : Int) < (wrap64 ((t311.length : Int) + 1)) then (laws_FnEscaped.j0 k t308 t314 t322 true) else (laws_FnEscaped.j0 k t308 t314 t322 (decide ((t322.length : Int) > (wrap64 ((wrap64 ((t311.length : Int) + 1)) + (wrap64 ((t311.length : Int) / 254)))))))) else (laws_FnEscaped.j0 k t308 t314 t322 true))) = some r := by rw [if_pos rfl] at H; exact H
                clear H
                have H := H1
                clear H1
                replace H := Option.bind_eq_some_iff.mp H
                obtain ⟨t331, A280, H⟩ := H
                replace H : (if t331 = true then (if (t322.length : Int) < (wrap64 ((t311.length : Int) + 1)) then (laws_FnEscaped.j0 k t308 t314 t322 true) else (laws_FnEscaped.j0 k t308 t314 t322 (decide ((t322.length : Int) > (wrap64 ((wrap64 ((t311.length : Int) + 1)) + (wrap64 ((t311.length : Int) / 254)))))))) else (laws_FnEscaped.j0 k t308 t314 t322 true)) = some r := H
                have A28 := Aside0.mk A280
                clear A280
                by_cases c29 : t331 = true
                · subst c29
                  have H1 : (if (t322.length : Int) < (wrap64 ((t311.length : Int) + 1)) then (laws_FnEscaped.j0 k t308 t314 t322 true) else (laws_FnEscaped.j0 k t308 t314 t322 (decide ((t322.length : Int) > (wrap64 ((wrap64 ((t311.length : Int) + 1)) + (wrap64 ((t311.length : Int) / 254)))))))) = some r := by rw [if_pos rfl] at H; exact H
                  clear H
                  have H := H1
                  clear H1
                  by_cases c30 : (t322.length : Int) < (wrap64 ((t311.length : Int) + 1))
                  · rw [if_pos c30] at H
                    have c30b0 : decide ((t322.length : Int) < (wrap64 ((t311.length : Int) + 1))) = true := decide_eq_true c30
                    clear c30
                    (first | rw [c30b0] | (simp only [i64_w, i32_w]; rw [c30b0]) | skip)
                    have H' := Aside0.mk H
                    clear H
                    obtain ⟨Ao31, co31, eo31⟩ := Kd.R_slice HO321.out
                    subst eo31
                    go_wp2_with (first | (go_at_call 23; (with_reducible refine (laws_r8Nums.calls k _ _ t318 _ _ t311 true _ ?side1 ?side2 ?side3 ?side4 A26.out).mono ?_); (case side1 => repeat (first | exact (Kd.R_reads' HO321.out).2.2 | (with_reducible refine Kd.C_alloc ?_ _) | (with_reducible refine Kd.C_drewN ?_ _) | (with_reducible refine Kd.C_drew ?_))); (case side2 => exact (Kd.R_reads' HO321.out).2.1); (case side3 => repeat (first | exact (Kd.R_reads' HO313.out).2.2 | (with_reducible refine Kd.C_alloc ?_ _) | (with_reducible refine Kd.C_drewN ?_ _) | (with_reducible refine Kd.C_drew ?_))); (case side4 => exact (Kd.R_reads' HO313.out).2.1); rintro e w' ⟨rfl, ⟨nd, rfl⟩⟩; obtain ⟨Ao32, co32, eo32⟩ := Kd.R_slice HO328.out; subst eo32) | (go_at_call 23; (with_reducible refine (laws_r8Nums.calls k _ _ t326 _ _ t311 true _ ?side1 ?side2 ?side3 ?side4 A28.out).mono ?_); (case side1 => repeat (first | exact (Kd.R_reads' HO328.out).2.2 | (with_reducible refine Kd.C_alloc ?_ _) | (with_reducible refine Kd.C_drewN ?_ _) | (with_reducible refine Kd.C_drew ?_))); (case side2 => exact (Kd.R_reads' HO328.out).2.1); (case side3 => repeat (first | exact (Kd.R_reads' HO313.out).2.2 | (with_reducible refine Kd.C_alloc ?_ _) | (with_reducible refine Kd.C_drewN ?_ _) | (with_reducible refine Kd.C_drew ?_))); (case side4 => exact (Kd.R_reads' HO313.out).2.1); rintro e w' ⟨rfl, ⟨nd, rfl⟩⟩))
                    go_meet
                    case rel => exact ⟨_, (true), (by first | rfl | (simp; done) | (simp [*]; done)), H', ⟨by first | omega | exact Nat.le_refl _⟩, ⟨by (with_reducible repeat (first | apply Kd.R_alloc | apply Kd.R_drewN | apply Kd.R_drew)); exact Kd.R_mono HO310.out (fun _ hk => ⟨hk.1.1.1.2, hk.1.2⟩)⟩, ⟨by (with_reducible repeat (first | apply Kd.R_alloc | apply Kd.R_drewN | apply Kd.R_drew)); exact Kd.R_mono HO317.out (fun _ hk => ⟨hk.1.1.1.1.2, hk.1.2⟩)⟩, ⟨by (with_reducible repeat (first | apply Kd.R_alloc | apply Kd.R_drewN | apply Kd.R_drew)); exact Kd.R_mono HO325.out (fun _ hk => ⟨hk.1.1.1.1.2, hk.1.1.2⟩)⟩, ⟨by repeat (first | (with_reducible first | exact HB.out | apply below_alloc | apply pw_below_drewN | apply below_drew1) | exact HB.out)⟩⟩
                  · rw [if_neg c30] at H
                    have c30b0 : decide ((t322.length : Int) < (wrap64 ((t311.length : Int) + 1))) = false := decide_eq_false c30
                    clear c30
                    (first | rw [c30b0] | (simp only [i64_w, i32_w]; rw [c30b0]) | skip)
                    have H' := Aside0.mk H
                    clear H
                    obtain ⟨Ao33, co33, eo33⟩ := Kd.R_slice HO321.out
                    subst eo33
                    go_wp2_with (first | (go_at_call 23; (with_reducible refine (laws_r8Nums.calls k _ _ t318 _ _ t311 true _ ?side1 ?side2 ?side3 ?side4 A26.out).mono ?_); (case side1 => repeat (first | exact (Kd.R_reads' HO321.out).2.2 | (with_reducible refine Kd.C_alloc ?_ _) | (with_reducible refine Kd.C_drewN ?_ _) | (with_reducible refine Kd.C_drew ?_))); (case side2 => exact (Kd.R_reads' HO321.out).2.1); (case side3 => repeat (first | exact (Kd.R_reads' HO313.out).2.2 | (with_reducible refine Kd.C_alloc ?_ _) | (with_reducible refine Kd.C_drewN ?_ _) | (with_reducible refine Kd.C_drew ?_))); (case side4 => exact (Kd.R_reads' HO313.out).2.1); rintro e w' ⟨rfl, ⟨nd, rfl⟩⟩; obtain ⟨Ao34, co34, eo34⟩ := Kd.R_slice HO328.out; subst eo34) | (go_at_call 23; (with_reducible refine (laws_r8Nums.calls k _ _ t326 _ _ t311 true _ ?side1 ?side2 ?side3 ?side4 A28.out).mono ?_); (case side1 => repeat (first | exact (Kd.R_reads' HO328.out).2.2 | (with_reducible refine Kd.C_alloc ?_ _) | (with_reducible refine Kd.C_drewN ?_ _) | (with_reducible refine Kd.C_drew ?_))); (case side2 => exact (Kd.R_reads' HO328.out).2.1); (case side3 => repeat (first | exact (Kd.R_reads' HO313.out).2.2 | (with_reducible refine Kd.C_alloc ?_ _) | (with_reducible refine Kd.C_drewN ?_ _) | (with_reducible refine Kd.C_drew ?_))); (case side4 => exact (Kd.R_reads' HO313.out).2.1); rintro e w' ⟨rfl, ⟨nd, rfl⟩⟩))
                    go_meet
                    case rel => exact ⟨_, (decide ((t322.length : Int) > (wrap64 ((wrap64 ((t311.length : Int) + 1)) + (wrap64 ((t311.length : Int) / 254)))))), (by first | rfl | (simp; done) | (simp [*]; done)), H', ⟨by first | omega | exact Nat.le_refl _⟩, ⟨by (with_reducible repeat (first | apply Kd.R_alloc | apply Kd.R_drewN | apply Kd.R_drew)); exact Kd.R_mono HO310.out (fun _ hk => ⟨hk.1.1.1.2, hk.1.2⟩)⟩, ⟨by (with_reducible repeat (first | apply Kd.R_alloc | apply Kd.R_drewN | apply Kd.R_drew)); exact Kd.R_mono HO317.out (fun _ hk => ⟨hk.1.1.1.1.2, hk.1.2⟩)⟩, ⟨by (with_reducible repeat (first | apply Kd.R_alloc | apply Kd.R_drewN | apply Kd.R_drew)); exact Kd.R_mono HO325.out (fun _ hk => ⟨hk.1.1.1.1.2, hk.1.1.2⟩)⟩, ⟨by repeat (first | (with_reducible first | exact HB.out | apply below_alloc | apply pw_below_drewN | apply below_drew1) | exact HB.out)⟩⟩
                · replace c29 := Bool.eq_false_iff.mpr c29
                  subst c29
                  have H1 : (laws_FnEscaped.j0 k t308 t314 t322 true) = some r := by rw [if_neg (show ¬ (false = true) by decide)] at H; exact H
                  clear H
                  have H := H1
                  clear H1
                  have H' := Aside0.mk H
                  clear H
                  obtain ⟨Ao35, co35, eo35⟩ := Kd.R_slice HO321.out
                  subst eo35
                  go_wp2_with (first | (go_at_call 23; (with_reducible refine (laws_r8Nums.calls k _ _ t318 _ _ t311 true _ ?side1 ?side2 ?side3 ?side4 A26.out).mono ?_); (case side1 => repeat (first | exact (Kd.R_reads' HO321.out).2.2 | (with_reducible refine Kd.C_alloc ?_ _) | (with_reducible refine Kd.C_drewN ?_ _) | (with_reducible refine Kd.C_drew ?_))); (case side2 => exact (Kd.R_reads' HO321.out).2.1); (case side3 => repeat (first | exact (Kd.R_reads' HO313.out).2.2 | (with_reducible refine Kd.C_alloc ?_ _) | (with_reducible refine Kd.C_drewN ?_ _) | (with_reducible refine Kd.C_drew ?_))); (case side4 => exact (Kd.R_reads' HO313.out).2.1); rintro e w' ⟨rfl, ⟨nd, rfl⟩⟩; obtain ⟨Ao36, co36, eo36⟩ := Kd.R_slice HO328.out; subst eo36) | (go_at_call 23; (with_reducible refine (laws_r8Nums.calls k _ _ t326 _ _ t311 false _ ?side1 ?side2 ?side3 ?side4 A28.out).mono ?_); (case side1 => repeat (first | exact (Kd.R_reads' HO328.out).2.2 | (with_reducible refine Kd.C_alloc ?_ _) | (with_reducible refine Kd.C_drewN ?_ _) | (with_reducible refine Kd.C_drew ?_))); (case side2 => exact (Kd.R_reads' HO328.out).2.1); (case side3 => repeat (first | exact (Kd.R_reads' HO313.out).2.2 | (with_reducible refine Kd.C_alloc ?_ _) | (with_reducible refine Kd.C_drewN ?_ _) | (with_reducible refine Kd.C_drew ?_))); (case side4 => exact (Kd.R_reads' HO313.out).2.1); rintro e w' ⟨rfl, ⟨nd, rfl⟩⟩))
                  go_meet
                  case rel => exact ⟨_, (true), (by first | rfl | (simp; done) | (simp [*]; done)), H', ⟨by first | omega | exact Nat.le_refl _⟩, ⟨by (with_reducible repeat (first | apply Kd.R_alloc | apply Kd.R_drewN | apply Kd.R_drew)); exact Kd.R_mono HO310.out (fun _ hk => ⟨hk.1.1.1.2, hk.1.2⟩)⟩, ⟨by (with_reducible repeat (first | apply Kd.R_alloc | apply Kd.R_drewN | apply Kd.R_drew)); exact Kd.R_mono HO317.out (fun _ hk => ⟨hk.1.1.1.1.2, hk.1.2⟩)⟩, ⟨by (with_reducible repeat (first | apply Kd.R_alloc | apply Kd.R_drewN | apply Kd.R_drew)); exact Kd.R_mono HO325.out (fun _ hk => ⟨hk.1.1.1.1.2, hk.1.1.2⟩)⟩, ⟨by repeat (first | (with_reducible first | exact HB.out | apply below_alloc | apply pw_below_drewN | apply below_drew1) | exact HB.out)⟩⟩
              · replace c27 := Bool.eq_false_iff.mpr c27
                subst c27
                have H1 : (laws_FnEscaped.j0 k t308 t314 t322 true) = some r := by rw [if_neg (show ¬ (false = true) by decide)] at H; exact H
                clear H
                have H := H1
                clear H1
                have H' := Aside0.mk H
                clear H
                obtain ⟨Ao37, co37, eo37⟩ := Kd.R_slice HO321.out
                subst eo37
                go_wp2_with (first | (go_at_call 23; (with_reducible refine (laws_r8Nums.calls k _ _ t318 _ _ t311 false _ ?side1 ?side2 ?side3 ?side4 A26.out).mono ?_); (case side1 => repeat (first | exact (Kd.R_reads' HO321.out).2.2 | (with_reducible refine Kd.C_alloc ?_ _) | (with_reducible refine Kd.C_drewN ?_ _) | (with_reducible refine Kd.C_drew ?_))); (case side2 => exact (Kd.R_reads' HO321.out).2.1); (case side3 => repeat (first | exact (Kd.R_reads' HO313.out).2.2 | (with_reducible refine Kd.C_alloc ?_ _) | (with_reducible refine Kd.C_drewN ?_ _) | (with_reducible refine Kd.C_drew ?_))); (case side4 => exact (Kd.R_reads' HO313.out).2.1); rintro e w' ⟨rfl, ⟨nd, rfl⟩⟩))
                go_meet
                case rel => exact ⟨_, (true), (by first | rfl | (simp; done) | (simp [*]; done)), H', ⟨by first | omega | exact Nat.le_refl _⟩, ⟨by (with_reducible repeat (first | apply Kd.R_alloc | apply Kd.R_drewN | apply Kd.R_drew)); exact Kd.R_mono HO310.out (fun _ hk => ⟨hk.1.1.1.2, hk.1.2⟩)⟩, ⟨by (with_reducible repeat (first | apply Kd.R_alloc | apply Kd.R_drewN | apply Kd.R_drew)); exact Kd.R_mono HO317.out (fun _ hk => ⟨hk.1.1.1.1.2, hk.1.2⟩)⟩, ⟨by (with_reducible repeat (first | apply Kd.R_alloc | apply Kd.R_drewN | apply Kd.R_drew)); exact Kd.R_mono HO325.out (fun _ hk => ⟨hk.1.1.1.1.2, hk.1.1.2⟩)⟩, ⟨by repeat (first | (with_reducible first | exact HB.out | apply below_alloc | apply pw_below_drewN | apply below_drew1) | exact HB.out)⟩⟩
            · replace c25 := Bool.eq_false_iff.mpr c25
              subst c25
              have H1 : (laws_FnEscaped.j0 k t308 t314 t322 true) = some r := by rw [if_neg (show ¬ (false = true) by decide)] at H; exact H
              clear H
              have H := H1
              clear H1
              have H' := Aside0.mk H
              clear H
              go_wp2
              go_meet
              case rel => exact ⟨_, (true), (by first | rfl | (simp; done) | (simp [*]; done)), H', ⟨by first | omega | exact Nat.le_refl _⟩, ⟨by (with_reducible repeat (first | apply Kd.R_alloc | apply Kd.R_drewN | apply Kd.R_drew)); exact Kd.R_mono HO310.out (fun _ hk => ⟨hk.1.1.1.2, hk.1.2⟩)⟩, ⟨by (with_reducible repeat (first | apply Kd.R_alloc | apply Kd.R_drewN | apply Kd.R_drew)); exact Kd.R_mono HO317.out (fun _ hk => ⟨hk.1.1.1.1.2, hk.1.2⟩)⟩, ⟨by (with_reducible repeat (first | apply Kd.R_alloc | apply Kd.R_drewN | apply Kd.R_drew)); exact Kd.R_mono HO325.out (fun _ hk => ⟨hk.1.1.1.1.2, hk.1.1.2⟩)⟩, ⟨by repeat (first | (with_reducible first | exact HB.out | apply below_alloc | apply pw_below_drewN | apply below_drew1) | exact HB.out)⟩⟩
          · replace c24 := Bool.eq_false_iff.mpr c24
            subst c24
            have H1 : (laws_FnEscaped.j0 k t308 t314 t322 true) = some r := by rw [if_neg (show ¬ (false = true) by decide)] at H; exact H
            clear H
            have H := H1
            clear H1
            have H' := Aside0.mk H
            clear H
            go_wp2
            go_meet
            case rel => exact ⟨_, (true), (by first | rfl | (simp; done) | (simp [*]; done)), H', ⟨by first | omega | exact Nat.le_refl _⟩, ⟨by (with_reducible repeat (first | apply Kd.R_alloc | apply Kd.R_drewN | apply Kd.R_drew)); exact Kd.R_mono HO310.out (fun _ hk => ⟨hk.1.1.1.2, hk.1.2⟩)⟩, ⟨by (with_reducible repeat (first | apply Kd.R_alloc | apply Kd.R_drewN | apply Kd.R_drew)); exact Kd.R_mono HO317.out (fun _ hk => ⟨hk.1.1.1.1.2, hk.1.2⟩)⟩, ⟨by (with_reducible repeat (first | apply Kd.R_alloc | apply Kd.R_drewN | apply Kd.R_drew)); exact Kd.R_mono HO325.out (fun _ hk => ⟨hk.1.1.1.1.2, hk.1.1.2⟩)⟩, ⟨by repeat (first | (with_reducible first | exact HB.out | apply below_alloc | apply pw_below_drewN | apply below_drew1) | exact HB.out)⟩⟩
        · replace c23 := Bool.eq_false_iff.mpr c23
          subst c23
          have H1 : (laws_FnEscaped.j0 k t308 t314 t322 true) = some r := by rw [if_neg (show ¬ (false = true) by decide)] at H; exact H
          clear H
          have H := H1
          clear H1
          have H' := Aside0.mk H
          clear H
          go_wp2
          go_meet
          case rel => exact ⟨_, (true), (by first | rfl | (simp; done) | (simp [*]; done)), H', ⟨by first | omega | exact Nat.le_refl _⟩, ⟨by (with_reducible repeat (first | apply Kd.R_alloc | apply Kd.R_drewN | apply Kd.R_drew)); exact Kd.R_mono HO310.out (fun _ hk => ⟨hk.1.1.1.2, hk.1.2⟩)⟩, ⟨by (with_reducible repeat (first | apply Kd.R_alloc | apply Kd.R_drewN | apply Kd.R_drew)); exact Kd.R_mono HO317.out (fun _ hk => ⟨hk.1.1.1.1.2, hk.1.2⟩)⟩, ⟨by (with_reducible repeat (first | apply Kd.R_alloc | apply Kd.R_drewN | apply Kd.R_drew)); exact Kd.R_mono HO325.out (fun _ hk => ⟨hk.1.1.1.1.2, hk.1.1.2⟩)⟩, ⟨by repeat (first | (with_reducible first | exact HB.out | apply below_alloc | apply pw_below_drewN | apply below_drew1) | exact HB.out)⟩⟩
      · replace c22 := Bool.eq_false_iff.mpr c22
        subst c22
        have H1 : (laws_FnEscaped.j0 k t308 t314 t322 true) = some r := by rw [if_neg (show ¬ (false = true) by decide)] at H; exact H
        clear H
        have H := H1
        clear H1
        have H' := Aside0.mk H
        clear H
        go_wp2
        go_meet
        case rel => exact ⟨_, (true), (by first | rfl | (simp; done) | (simp [*]; done)), H', ⟨by first | omega | exact Nat.le_refl _⟩, ⟨by (with_reducible repeat (first | apply Kd.R_alloc | apply Kd.R_drewN | apply Kd.R_drew)); exact Kd.R_mono HO310.out (fun _ hk => ⟨hk.1.1.1.2, hk.1.2⟩)⟩, ⟨by (with_reducible repeat (first | apply Kd.R_alloc | apply Kd.R_drewN | apply Kd.R_drew)); exact Kd.R_mono HO317.out (fun _ hk => ⟨hk.1.1.1.1.2, hk.1.2⟩)⟩, ⟨by (with_reducible repeat (first | apply Kd.R_alloc | apply Kd.R_drewN | apply Kd.R_drew)); exact Kd.R_mono HO325.out (fun _ hk => ⟨hk.1.1.1.1.2, hk.1.1.2⟩)⟩, ⟨by repeat (first | (with_reducible first | exact HB.out | apply below_alloc | apply pw_below_drewN | apply below_drew1) | exact HB.out)⟩⟩
    case rest =>
      clear HC11
      try clear c1
      try clear c2
      try clear p2
      try clear c3
      try clear c4
      try clear p6
      try clear c7
      try clear c10
      try clear c15
      try clear c17
      try clear c19
      try clear c20
      try clear c21
      try clear c22
      try clear c23
      try clear c24
      try clear c25
      try clear c27
      try clear c29
      try clear c30
      try clear c30b0
      obtain ⟨kq, x90_10, rfl, HA, HJ10, HO_5, HO_7, HO_11, HB⟩ := hcut
      cases kq with
      | zero => exact absurd HA.out (by simp [laws_FnEscaped.j0])
      | succ kj10 =>
        have H := HA.out
        clear HA
        simp only [laws_FnEscaped.j0] at H
        by_cases c38 : x90_10 = true
        · subst c38
          have H1 : (some false) = some r := by rw [if_pos rfl] at H; exact H
          clear H
          have H := H1
          clear H1
          obtain rfl := Option.some.inj H
          go_wp2
          go_ret
          exact ⟨by first | rfl | (simp [errW_none, errW_some] <;> rfl) | (simp [*, errW_none, errW_some] <;> rfl), by repeat (first | (with_reducible first | exact HB.out | apply below_alloc | apply pw_below_drewN | apply below_drew1) | exact HB.out)⟩
        · replace c38 := Bool.eq_false_iff.mpr c38
          subst c38
          have H1 : (laws_FnEscaped.l0 kj10 t308 t314 t322 0) = some r := by rw [if_neg (show ¬ (false = true) by decide)] at H; exact H
          clear H
          have H := H1
          clear H1
          have H' := Aside0.mk H
          clear H
          go_wp2
          go_loopg [15] kj10 (fun kq v15 w' => ∃ (x15_2 : Int), v15 = .int .i64 x15_2 ∧ Aside0 (laws_FnEscaped.l0 kq t308 t314 t322 x15_2 = some r) ∧ Aside0 (kq ≤ kj10) ∧ Aside0 (Kd.R (Kd.int .i64) 2 w' w.heap.size (fun k_ => some k_ ≠ ((.slice Ao17 t314.length co17) : Value).ownBlock ∧ some k_ ≠ ((.slice Ao20 t322.length co20) : Value).ownBlock) (.slice Ao14 t308.length co14) t308) ∧ Aside0 (Kd.R (Kd.int .i64) 2 w' w.heap.size (fun k_ => some k_ ≠ ((.slice Ao14 t308.length co14) : Value).ownBlock ∧ some k_ ≠ ((.slice Ao20 t322.length co20) : Value).ownBlock) (.slice Ao17 t314.length co17) t314) ∧ Aside0 (Kd.R (Kd.int .i64) 2 w' w.heap.size (fun k_ => some k_ ≠ ((.slice Ao14 t308.length co14) : Value).ownBlock ∧ some k_ ≠ ((.slice Ao17 t314.length co17) : Value).ownBlock) (.slice Ao20 t322.length co20) t322) ∧ Aside0 (Below w.heap.size w w'))
          case atStart => exact ⟨(0), (by first | rfl | (simp; done) | (simp [*]; done)), H', ⟨Nat.le_refl _⟩, ⟨by (with_reducible repeat (first | apply Kd.R_alloc | apply Kd.R_drewN | apply Kd.R_drew)); exact HO_5.out⟩, ⟨by (with_reducible repeat (first | apply Kd.R_alloc | apply Kd.R_drewN | apply Kd.R_drew)); exact HO_7.out⟩, ⟨by (with_reducible repeat (first | apply Kd.R_alloc | apply Kd.R_drewN | apply Kd.R_drew)); exact HO_11.out⟩, ⟨by repeat (first | (with_reducible first | exact HB.out | apply below_alloc | apply pw_below_drewN | apply below_drew1) | exact HB.out)⟩⟩
          case round =>
            clear H'
            try clear c1
            try clear c2
            try clear p2
            try clear c3
            try clear c4
            try clear p6
            try clear c7
            try clear c10
            try clear c15
            try clear c17
            try clear c19
            try clear c20
            try clear c21
            try clear c22
            try clear c23
            try clear c24
            try clear c25
            try clear c27
            try clear c29
            try clear c30
            try clear c30b0
            try clear c38
            try clear p2
            try clear p6
            obtain ⟨x15_2, rfl, HA, HK2, HO_5, HO_7, HO_11, HB⟩ := hrel
            cases gk with
            | zero => exact absurd HA.out (by simp [laws_FnEscaped.l0])
            | succ k2 =>
              have H := HA.out
              clear HA
              simp only [laws_FnEscaped.l0] at H
              by_cases c39 : x15_2 < (t314.length : Int)
              · rw [if_pos c39] at H
                have c39b0 : decide (x15_2 < (t314.length : Int)) = true := decide_eq_true c39
                clear c39
                by_cases c40 : 0 ≤ x15_2
                · rw [if_pos c40] at H
                  have c40b0 : decide (0 ≤ x15_2) = true := decide_eq_true c40
                  clear c40
                  by_cases c41 : (rd t314 x15_2) = 125
                  · rw [if_pos c41] at H
                    have c41b0 : ((rd t314 x15_2) == 125) = true := beq_iff_eq.mpr c41
                    have c41b1 : ((rd t314 x15_2) != 125) = false := bne_eq_false_iff_eq.mpr c41
                    clear c41
                    have H' := Aside0.mk H
                    clear H
                    have p332 : 0 ≤ (x15_2 : Int) := of_decide_eq_true (by first | (with_reducible assumption) | assumption)
                    have q332 : x15_2 < (t314.length : Int) := of_decide_eq_true (by first | (with_reducible assumption) | assumption)
                    obtain ⟨ad332, e332, hx332_0⟩ := Kd.at_int (Kd.R_reads' HO_7.out).2.2 x15_2 p332 q332
                    cases e332
                    replace p332 := eq_true p332
                    replace q332 := eq_true q332
                    go_wp2
                    go_roundg k2
                    case measure => have := HJ10.out; have := HK2.out; omega
                    case rel => exact ⟨(wrap64 (x15_2 + 1)), (by first | rfl | (simp; done) | (simp [*]; done)), H', ⟨by have := HJ10.out; have := HK2.out; omega⟩, ⟨by (with_reducible repeat (first | apply Kd.R_alloc | apply Kd.R_drewN | apply Kd.R_drew)); exact HO_5.out⟩, ⟨by (with_reducible repeat (first | apply Kd.R_alloc | apply Kd.R_drewN | apply Kd.R_drew)); exact HO_7.out⟩, ⟨by (with_reducible repeat (first | apply Kd.R_alloc | apply Kd.R_drewN | apply Kd.R_drew)); exact HO_11.out⟩, ⟨by repeat (first | (with_reducible first | exact HB.out | apply below_alloc | apply pw_below_drewN | apply below_drew1) | exact HB.out)⟩⟩
                  · rw [if_neg c41] at H
                    have c41b0 : ((rd t314 x15_2) == 125) = false := beq_eq_false_iff_ne.mpr c41
                    have c41b1 : ((rd t314 x15_2) != 125) = true := bne_iff_ne.mpr c41
                    replace H := Option.bind_eq_some_iff.mp H
                    obtain ⟨t334, A420, H⟩ := H
                    replace H : (if t334 = true then (some false) else (laws_FnEscaped.l0 k2 t308 t314 t322 (wrap64 (x15_2 + 1)))) = some r := H
                    have A42 := Aside0.mk A420
                    clear A420
                    by_cases c43 : t334 = true
                    · subst c43
                      have H1 : (some false) = some r := by rw [if_pos rfl] at H; exact H
                      clear H
                      have H := H1
                      clear H1
                      obtain rfl := Option.some.inj H
                      have p332 : 0 ≤ (x15_2 : Int) := of_decide_eq_true (by first | (with_reducible assumption) | assumption)
                      have q332 : x15_2 < (t314.length : Int) := of_decide_eq_true (by first | (with_reducible assumption) | assumption)
                      obtain ⟨ad332, e332, hx332_0⟩ := Kd.at_int (Kd.R_reads' HO_7.out).2.2 x15_2 p332 q332
                      cases e332
                      replace p332 := eq_true p332
                      replace q332 := eq_true q332
                      have p333 : 0 ≤ (x15_2 : Int) := of_decide_eq_true (by first | (with_reducible assumption) | assumption)
                      have q333 : x15_2 < (t314.length : Int) := of_decide_eq_true (by first | (with_reducible assumption) | assumption)
                      obtain ⟨ad333, e333, hx333_0⟩ := Kd.at_int (Kd.R_reads' HO_7.out).2.2 x15_2 p333 q333
                      obtain rfl : ad332 = ad333 := (by injection e333)
                      replace p333 := eq_true p333
                      replace q333 := eq_true q333
                      go_wp2_with (first | (go_at_call 24; (with_reducible refine (laws_r8Has.calls k2 _ _ t308 (rd t314 x15_2) true _ ?side1 ?side2 A42.out).mono ?_); (case side1 => repeat (first | exact (Kd.R_reads' HO_5.out).2.2 | (with_reducible refine Kd.C_alloc ?_ _) | (with_reducible refine Kd.C_drewN ?_ _) | (with_reducible refine Kd.C_drew ?_))); (case side2 => exact (Kd.R_reads' HO_5.out).2.1); rintro e w' ⟨rfl, ⟨nd, rfl⟩⟩))
                      go_ret
                      exact ⟨by first | rfl | (simp [errW_none, errW_some] <;> rfl) | (simp [*, errW_none, errW_some] <;> rfl), by repeat (first | (with_reducible first | exact HB.out | apply below_alloc | apply pw_below_drewN | apply below_drew1) | exact HB.out)⟩
                    · replace c43 := Bool.eq_false_iff.mpr c43
                      subst c43
                      have H1 : (laws_FnEscaped.l0 k2 t308 t314 t322 (wrap64 (x15_2 + 1))) = some r := by rw [if_neg (show ¬ (false = true) by decide)] at H; exact H
                      clear H
                      have H := H1
                      clear H1
                      have H' := Aside0.mk H
                      clear H
                      have p332 : 0 ≤ (x15_2 : Int) := of_decide_eq_true (by first | (with_reducible assumption) | assumption)
                      have q332 : x15_2 < (t314.length : Int) := of_decide_eq_true (by first | (with_reducible assumption) | assumption)
                      obtain ⟨ad332, e332, hx332_0⟩ := Kd.at_int (Kd.R_reads' HO_7.out).2.2 x15_2 p332 q332
                      cases e332
                      replace p332 := eq_true p332
                      replace q332 := eq_true q332
                      have p333 : 0 ≤ (x15_2 : Int) := of_decide_eq_true (by first | (with_reducible assumption) | assumption)
                      have q333 : x15_2 < (t314.length : Int) := of_decide_eq_true (by first | (with_reducible assumption) | assumption)
                      obtain ⟨ad333, e333, hx333_0⟩ := Kd.at_int (Kd.R_reads' HO_7.out).2.2 x15_2 p333 q333
                      obtain rfl : ad332 = ad333 := (by injection e333)
                      replace p333 := eq_true p333
                      replace q333 := eq_true q333
                      go_wp2_with (first | (go_at_call 24; (with_reducible refine (laws_r8Has.calls k2 _ _ t308 (rd t314 x15_2) false _ ?side1 ?side2 A42.out).mono ?_); (case side1 => repeat (first | exact (Kd.R_reads' HO_5.out).2.2 | (with_reducible refine Kd.C_alloc ?_ _) | (with_reducible refine Kd.C_drewN ?_ _) | (with_reducible refine Kd.C_drew ?_))); (case side2 => exact (Kd.R_reads' HO_5.out).2.1); rintro e w' ⟨rfl, ⟨nd, rfl⟩⟩))
                      go_roundg k2
                      case measure => have := HJ10.out; have := HK2.out; omega
                      case rel => exact ⟨(wrap64 (x15_2 + 1)), (by first | rfl | (simp; done) | (simp [*]; done)), H', ⟨by have := HJ10.out; have := HK2.out; omega⟩, ⟨by (with_reducible repeat (first | apply Kd.R_alloc | apply Kd.R_drewN | apply Kd.R_drew)); exact HO_5.out⟩, ⟨by (with_reducible repeat (first | apply Kd.R_alloc | apply Kd.R_drewN | apply Kd.R_drew)); exact HO_7.out⟩, ⟨by (with_reducible repeat (first | apply Kd.R_alloc | apply Kd.R_drewN | apply Kd.R_drew)); exact HO_11.out⟩, ⟨by repeat (first | (with_reducible first | exact HB.out | apply below_alloc | apply pw_below_drewN | apply below_drew1) | exact HB.out)⟩⟩
                · rw [if_neg c40] at H
                  exact absurd H (by simp)
              · rw [if_neg c39] at H
                have c39b0 : decide (x15_2 < (t314.length : Int)) = false := decide_eq_false c39
                clear c39
                replace H := Option.bind_eq_some_iff.mp H
                obtain ⟨t335, A440, H⟩ := H
                replace H : (some (!t335)) = some r := H
                have A44 := Aside0.mk A440
                clear A440
                obtain rfl := Option.some.inj H
                go_wp2_with (first | ((with_reducible refine gate_callee (f := 24) rfl ?_); refine goesL_ (some 111) rfl rfl Try.func24 (by kernel_rfl) rfl #[.slice Ao20 t322.length co20, .int .i64 0] rfl (by (try simp only [List.map_toArray, List.map_cons, List.map_nil]); first | done | rfl | (simp only [List.length_drop, List.length_take]; rfl)) ?_; (with_reducible refine (laws_r8Has.calls k2 _ _ t322 0 t335 _ ?side1 ?side2 A44.out).mono ?_); (case side1 => repeat (first | exact (Kd.R_reads' HO_11.out).2.2 | (with_reducible refine Kd.C_alloc ?_ _) | (with_reducible refine Kd.C_drewN ?_ _) | (with_reducible refine Kd.C_drew ?_))); (case side2 => exact (Kd.R_reads' HO_11.out).2.1); rintro e w' ⟨rfl, ⟨nd, rfl⟩⟩; refine ⟨_, rfl, ?_⟩))
                go_ret
                exact ⟨by first | rfl | (simp [errW_none, errW_some] <;> rfl) | (simp [*, errW_none, errW_some] <;> rfl), by repeat (first | (with_reducible first | exact HB.out | apply below_alloc | apply pw_below_drewN | apply below_drew1) | exact HB.out)⟩

/-- THE ONE PURE STATEMENT of laws_FnEscaped: yours. -/
def laws_FnEscaped.Pure : Prop := ∀ (l0 : List Int) (l1 : List Int), l0.length ≤ maxLen → l0.length * 1 ≤ 140737488351232 → (∀ x ∈ l0, (Lit.int .u8 x).wf = true) → l1.length ≤ maxLen → l1.length * 1 ≤ 140737488351232 → (∀ x ∈ l1, (Lit.int .u8 x).wf = true) → ∃ k, laws_FnEscaped.f k l0 l1 = some true
theorem laws_FnEscaped.walk (P : laws_FnEscaped.Pure) (a0 : Option Addr) (len0 cap0 : Nat) (z0 : List Int) (a1 : Option Addr) (len1 cap1 : Nat) (z1 : List Int) (w : World) (w0 : (a0 = none ∧ len0 = 0 ∧ cap0 = 0 ∧ z0 = []) ∨ ∃ x, a0 = some x ∧ len0 ≤ cap0 ∧ cap0 ≤ maxLen ∧ z0.length = cap0 ∧ (∀ i, i < z0.length → w.cell? (x.add i) = some (.int .u8 (z0.getD i 0))) ∧ ∀ n ∈ z0, (Lit.int .u8 n).wf = true) (y0 : len0 * 1 ≤ 140737488351232) (w1 : (a1 = none ∧ len1 = 0 ∧ cap1 = 0 ∧ z1 = []) ∨ ∃ x, a1 = some x ∧ len1 ≤ cap1 ∧ cap1 ≤ maxLen ∧ z1.length = cap1 ∧ (∀ i, i < z1.length → w.cell? (x.add i) = some (.int .u8 (z1.getD i 0))) ∧ ∀ n ∈ z1, (Lit.int .u8 n).wf = true) (y1 : len1 * 1 ≤ 140737488351232) :
    Calls Try.prog 7 #[.slice a0 len0 cap0, .slice a1 len1 cap1] w fun e w' => e = .returned (.bool true) ∧ Below w.heap.size w w' := by
  obtain ⟨l0, rfl, hr0, hm0, hw0, hc0⟩ := ReadsInt.ofRowC w0
  obtain ⟨l1, rfl, hr1, hm1, hw1, hc1⟩ := ReadsInt.ofRowC w1
  obtain ⟨k, h⟩ := P l0 l1 hm0 y0 hw0 hm1 y1 hw1
  refine (laws_FnEscaped.calls k _ _ l0 _ _ l1 true w (Kd.C_of_reads (d := (0 : Int)) (h1 := fun _ => rfl) hr0) hc0 (Kd.C_of_reads (d := (0 : Int)) (h1 := fun _ => rfl) hr1) hc1 h).mono ?_
  rintro e w' ⟨rfl, hd⟩
  exact ⟨rfl, hd⟩

end Go.Proofs.Ytbifbbfkcbgnlaa.PFnEscaped
