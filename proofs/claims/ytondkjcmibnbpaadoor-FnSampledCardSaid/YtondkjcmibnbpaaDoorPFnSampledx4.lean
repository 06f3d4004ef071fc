-- Written by a program of this session (mkprint.py) over the print of the translation. Not trusted: Lean checks it.
import Derived.Test.YtondkjcmibnbpaaDoorPFnSampledx0
import Derived.Test.YtondkjcmibnbpaaDoorPFnSampledx3
namespace Go.Proofs.YtondkjcmibnbpaaDoor.PFnSampled
open Go.RowKit Go.Proofs.YtondkjcmibnbpaaDoorW.PrintWords Go.Proofs.YtondkjcmibnbpaaDoorW.PrintLast Go.Proofs.YtondkjcmibnbpaaDoorW.PrintMore
attribute [local go_sem] max2_int min2_int max_two min_two max_three min_three max_four min_four   -- for this text's walks alone
set_option linter.unusedVariables false
set_option linter.unusedSimpArgs false

/-! ### spec_l07Jitter: function 65 -/
def spec_l07Jitter.l0 : Nat → Int → Int → Int → Int → Int → Option (Bool)
  | 0, _, _, _, _, _ => none
  | k + 1, x0, x1, x2, x3, x9 => if x9 ≤ x2 then (if (wrap64 (2 * (wrap64 ((wrap64 (x9 * x0)) - (wrap64 (2 * x3)))))) ≤ (wrap64 ((wrap64 ((wrap64 (2 * x9)) - 1)) * x1)) then (some false) else (if (wrap64 (2 * (wrap64 ((wrap64 (x9 * x0)) + (wrap64 (2 * x3)))))) > (wrap64 ((wrap64 ((wrap64 (2 * x9)) + 1)) * x1)) then (some false) else (spec_l07Jitter.l0 k x0 x1 x2 x3 (wrap64 (x9 + 1))))) else (some true)
def spec_l07Jitter.f (k : Nat) (a0 : Int) (a1 : Int) (a2 : Int) (a3 : Int) : Option (Bool) := spec_l07Jitter.l0 k a0 a1 a2 a3 1
theorem spec_l07Jitter.mono_l : ∀ k, (∀ y0 y1 y2 y3 y4, LeO (spec_l07Jitter.l0 k y0 y1 y2 y3 y4) (spec_l07Jitter.l0 (k + 1) y0 y1 y2 y3 y4))
  | 0 => fun _ _ _ _ _ r h => by simp [spec_l07Jitter.l0] at h
  | k + 1 => by
    have ih0 := spec_l07Jitter.mono_l k
    · intro y0 y1 y2 y3 y4
      unfold spec_l07Jitter.l0
      repeat' first
      | (with_reducible exact ih0 _ _ _ _ _)
      | (with_reducible exact LeO.refl _)
      | (with_reducible exact LeO.none _)
      | (with_reducible refine LeO.ite ?_ ?_)
      | (with_reducible refine LeO.bind ?_ (fun _ => ?_))
      | exact ih0 _ _ _ _ _
      | exact LeO.none _
      | refine LeO.ite ?_ ?_
      | refine LeO.bind ?_ (fun _ => ?_)
theorem spec_l07Jitter.mono : ∀ a0 a1 a2 a3 k, LeO (spec_l07Jitter.f k a0 a1 a2 a3) (spec_l07Jitter.f (k + 1) a0 a1 a2 a3) := by
  intro a0 a1 a2 a3 k
  have ih0 := spec_l07Jitter.mono_l k
  unfold spec_l07Jitter.f
  repeat' first
      | (with_reducible exact ih0 _ _ _ _ _)
      | (with_reducible exact LeO.refl _)
      | (with_reducible exact LeO.none _)
      | (with_reducible refine LeO.ite ?_ ?_)
      | (with_reducible refine LeO.bind ?_ (fun _ => ?_))
      | exact ih0 _ _ _ _ _
      | exact LeO.none _
      | refine LeO.ite ?_ ?_
      | refine LeO.bind ?_ (fun _ => ?_)
set_option maxHeartbeats 8000000 in
set_option maxRecDepth 100000 in
theorem spec_l07Jitter.calls (k : Nat) (a0 : Int) (a1 : Int) (a2 : Int) (a3 : Int) (r : Bool) (w : World) (h : spec_l07Jitter.f k a0 a1 a2 a3 = some r) :
    Calls Tryd.prog 65 #[.int .i64 a0, .int .i64 a1, .int .i64 a2, .int .i64 a3] w fun e w' => e = .returned (.bool r) ∧ Drawn0 w w' := by
  have H : (spec_l07Jitter.l0 k a0 a1 a2 a3 1) = some r := h
  clear h
  have H' := Aside0.mk H
  clear H
  go_enter Tryd.func65, Tryd.ntmps65
  go_wp2
  go_loopg [9] k (fun kq v9 w' => ∃ (x9_1 : Int), v9 = .int .i64 x9_1 ∧ Aside0 (spec_l07Jitter.l0 kq a0 a1 a2 a3 x9_1 = some r) ∧ Aside0 (kq ≤ k) ∧ Drawn0 w w')
  case atStart => exact ⟨(1), (by first | rfl | (simp; done) | (simp [*]; done)), H', ⟨Nat.le_refl _⟩, by repeat (first | exact Drawn0.refl _ | apply Drawn0.step)⟩
  case round =>
    clear H'
    try clear p2
    obtain ⟨x9_1, rfl, HA, HK1, ⟨m1, rfl⟩⟩ := hrel
    cases gk with
    | zero => exact absurd HA.out (by simp [spec_l07Jitter.l0])
    | succ k1 =>
      have H := HA.out
      clear HA
      simp only [spec_l07Jitter.l0] at H
      by_cases c5 : x9_1 ≤ a2
      · rw [if_pos c5] at H
        have c5b0 : decide (x9_1 ≤ a2) = true := decide_eq_true c5
        clear c5
        by_cases c6 : (wrap64 (2 * (wrap64 ((wrap64 (x9_1 * a0)) - (wrap64 (2 * a3)))))) ≤ (wrap64 ((wrap64 ((wrap64 (2 * x9_1)) - 1)) * a1))
        · rw [if_pos c6] at H
          have c6b0 : decide ((wrap64 (2 * (wrap64 ((wrap64 (x9_1 * a0)) - (wrap64 (2 * a3)))))) ≤ (wrap64 ((wrap64 ((wrap64 (2 * x9_1)) - 1)) * a1))) = true := decide_eq_true c6
          clear c6
          obtain rfl := Option.some.inj H
          go_wp2
          go_ret
          exact ⟨by first | rfl | (simp; done) | (simp [*]; done), by repeat (first | exact Drawn0.refl _ | apply Drawn0.step)⟩
        · rw [if_neg c6] at H
          have c6b0 : decide ((wrap64 (2 * (wrap64 ((wrap64 (x9_1 * a0)) - (wrap64 (2 * a3)))))) ≤ (wrap64 ((wrap64 ((wrap64 (2 * x9_1)) - 1)) * a1))) = false := decide_eq_false c6
          clear c6
          by_cases c7 : (wrap64 (2 * (wrap64 ((wrap64 (x9_1 * a0)) + (wrap64 (2 * a3)))))) > (wrap64 ((wrap64 ((wrap64 (2 * x9_1)) + 1)) * a1))
          · rw [if_pos c7] at H
            have c7b0 : decide ((wrap64 ((wrap64 ((wrap64 (2 * x9_1)) + 1)) * a1)) < (wrap64 (2 * (wrap64 ((wrap64 (x9_1 * a0)) + (wrap64 (2 * a3))))))) = true := decide_eq_true c7
            clear c7
            obtain rfl := Option.some.inj H
            go_wp2
            go_ret
            exact ⟨by first | rfl | (simp; done) | (simp [*]; done), by repeat (first | exact Drawn0.refl _ | apply Drawn0.step)⟩
          · rw [if_neg c7] at H
            have c7b0 : decide ((wrap64 ((wrap64 ((wrap64 (2 * x9_1)) + 1)) * a1)) < (wrap64 (2 * (wrap64 ((wrap64 (x9_1 * a0)) + (wrap64 (2 * a3))))))) = false := decide_eq_false c7
            clear c7
            have H' := Aside0.mk H
            clear H
            go_wp2
            go_roundg k1
            case measure => have := HK1.out; omega
            case rel => exact ⟨(wrap64 (x9_1 + 1)), (by first | rfl | (simp; done) | (simp [*]; done)), H', ⟨by have := HK1.out; omega⟩, by repeat (first | exact Drawn0.refl _ | apply Drawn0.step)⟩
      · rw [if_neg c5] at H
        have c5b0 : decide (x9_1 ≤ a2) = false := decide_eq_false c5
        clear c5
        obtain rfl := Option.some.inj H
        go_wp2
        go_ret
        exact ⟨by first | rfl | (simp; done) | (simp [*]; done), by repeat (first | exact Drawn0.refl _ | apply Drawn0.step)⟩

/-! ### spec_JitterTolerated: function 20 -/
mutual
def spec_JitterTolerated.j0 : Nat → Int → Int → Int → Bool → Option (Int × Bool)
  | 0, _, _, _, _ => none
  | k + 1, x0, x1, x2, x28 => if x28 = true then (some (0, false)) else (spec_JitterTolerated.l0 k x0 x1 x2 0)
def spec_JitterTolerated.l0 : Nat → Int → Int → Int → Int → Option (Int × Bool)
  | 0, _, _, _, _ => none
  | k + 1, x0, x1, x2, x8 => (spec_l07Jitter.f k x0 x1 x2 (wrap64 (x8 + 1))).bind fun t189 => (if t189 = true then (spec_JitterTolerated.l0 k x0 x1 x2 (wrap64 (x8 + 1))) else (some (x8, true)))
end
def spec_JitterTolerated.f (k : Nat) (a0 : Int) (a1 : Int) (a2 : Int) : Option (Int × Bool) := (spec_l07Ticks.f a0).bind fun t185 => (if t185 = true then ((spec_l07Ticks.f a1).bind fun t186 => (if t186 = true then ((spec_l07Run.f a2).bind fun t187 => (if t187 = true then ((spec_l07Jitter.f k a0 a1 a2 0).bind fun t188 => (spec_JitterTolerated.j0 k a0 a1 a2 (!t188))) else (spec_JitterTolerated.j0 k a0 a1 a2 true))) else (spec_JitterTolerated.j0 k a0 a1 a2 true))) else (spec_JitterTolerated.j0 k a0 a1 a2 true))
theorem spec_JitterTolerated.mono_l : ∀ k, (∀ y0 y1 y2 y3, LeO (spec_JitterTolerated.j0 k y0 y1 y2 y3) (spec_JitterTolerated.j0 (k + 1) y0 y1 y2 y3)) ∧ (∀ y0 y1 y2 y3, LeO (spec_JitterTolerated.l0 k y0 y1 y2 y3) (spec_JitterTolerated.l0 (k + 1) y0 y1 y2 y3))
  | 0 => ⟨fun _ _ _ _ r h => by simp [spec_JitterTolerated.j0] at h, fun _ _ _ _ r h => by simp [spec_JitterTolerated.l0] at h⟩
  | k + 1 => by
    obtain ⟨ih0, ih1⟩ := spec_JitterTolerated.mono_l k
    refine ⟨?_, ?_⟩
    · intro y0 y1 y2 y3
      unfold spec_JitterTolerated.j0
      repeat' first
      | (with_reducible exact ih0 _ _ _ _)
      | (with_reducible exact ih1 _ _ _ _)
      | (with_reducible exact spec_l07Jitter.mono _ _ _ _ _)
      | (with_reducible exact LeO.refl _)
      | (with_reducible exact LeO.none _)
      | (with_reducible refine LeO.ite ?_ ?_)
      | (with_reducible refine LeO.bind ?_ (fun _ => ?_))
      | exact ih0 _ _ _ _
      | exact ih1 _ _ _ _
      | exact spec_l07Jitter.mono _ _ _ _ _
      | exact LeO.none _
      | refine LeO.ite ?_ ?_
      | refine LeO.bind ?_ (fun _ => ?_)
    · intro y0 y1 y2 y3
      unfold spec_JitterTolerated.l0
      repeat' first
      | (with_reducible exact ih0 _ _ _ _)
      | (with_reducible exact ih1 _ _ _ _)
      | (with_reducible exact spec_l07Jitter.mono _ _ _ _ _)
      | (with_reducible exact LeO.refl _)
      | (with_reducible exact LeO.none _)
      | (with_reducible refine LeO.ite ?_ ?_)
      | (with_reducible refine LeO.bind ?_ (fun _ => ?_))
      | exact ih0 _ _ _ _
      | exact ih1 _ _ _ _
      | exact spec_l07Jitter.mono _ _ _ _ _
      | exact LeO.none _
      | refine LeO.ite ?_ ?_
      | refine LeO.bind ?_ (fun _ => ?_)
theorem spec_JitterTolerated.mono : ∀ a0 a1 a2 k, LeO (spec_JitterTolerated.f k a0 a1 a2) (spec_JitterTolerated.f (k + 1) a0 a1 a2) := by
  intro a0 a1 a2 k
  obtain ⟨ih0, ih1⟩ := spec_JitterTolerated.mono_l k
  unfold spec_JitterTolerated.f
  repeat' first
      | (with_reducible exact ih0 _ _ _ _)
      | (with_reducible exact ih1 _ _ _ _)
      | (with_reducible exact spec_l07Jitter.mono _ _ _ _ _)
      | (with_reducible exact LeO.refl _)
      | (with_reducible exact LeO.none _)
      | (with_reducible refine LeO.ite ?_ ?_)
      | (with_reducible refine LeO.bind ?_ (fun _ => ?_))
      | exact ih0 _ _ _ _
      | exact ih1 _ _ _ _
      | exact spec_l07Jitter.mono _ _ _ _ _
      | exact LeO.none _
      | refine LeO.ite ?_ ?_
      | refine LeO.bind ?_ (fun _ => ?_)
set_option maxHeartbeats 8000000 in
set_option maxRecDepth 100000 in
theorem spec_JitterTolerated.calls (k : Nat) (a0 : Int) (a1 : Int) (a2 : Int) (r1 : Int) (r2 : Bool) (w : World) (h : spec_JitterTolerated.f k a0 a1 a2 = some (r1, r2)) :
    Calls Tryd.prog 20 #[.int .i64 a0, .int .i64 a1, .int .i64 a2] w fun e w' => e = .returned (.tuple #[.int .i64 r1, .bool r2]) ∧ Drawn0 w w' := by
  have H : ((spec_l07Ticks.f a0).bind fun t185 => (if t185 = true then ((spec_l07Ticks.f a1).bind fun t186 => (if t186 = true then ((spec_l07Run.f a2).bind fun t187 => (if t187 = true then ((spec_l07Jitter.f k a0 a1 a2 0).bind fun t188 => (spec_JitterTolerated.j0 k a0 a1 a2 (!t188))) else (spec_JitterTolerated.j0 k a0 a1 a2 true))) else (spec_JitterTolerated.j0 k a0 a1 a2 true))) else (spec_JitterTolerated.j0 k a0 a1 a2 true))) = some (r1, r2) := h
  clear h
  have HC4 := Aside0.mk H
  clear H
  go_enter Tryd.func20, Tryd.ntmps20
  go_upto_region 1 with (fail)
  go_cut [28] (fun v28 wc => ∃ (kq : Nat) (x28_3 : Bool), v28 = .bool x28_3 ∧ Aside0 (spec_JitterTolerated.j0 kq a0 a1 a2 x28_3 = some (r1, r2)) ∧ Aside0 (kq ≤ k) ∧ Drawn0 w wc)
  case first =>
    have H := HC4.out
    clear HC4
    replace H := Option.bind_eq_some_iff.mp H
    obtain ⟨t185, A50, H⟩ := H
    replace H : (if t185 = true then ((spec_l07Ticks.f a1).bind fun t186 => (if t186 = true then ((spec_l07Run.f a2).bind fun t187 => (if t187 = true then ((spec_l07Jitter.f k a0 a1 a2 0).bind fun t188 => (spec_JitterTolerated.j0 k a0 a1 a2 (!t188))) else (spec_JitterTolerated.j0 k a0 a1 a2 true))) else (spec_JitterTolerated.j0 k a0 a1 a2 true))) else (spec_JitterTolerated.j0 k a0 a1 a2 true)) = some (r1, r2) := H
    have A5 := Aside0.mk A50
    clear A50
    by_cases c6 : t185 = true
    · subst c6
      have H1 : ((spec_l07Ticks.f a1).bind fun t186 => (if t186 = true then ((spec_l07Run.f a2).bind fun t187 => (if t187 = true then ((spec_l07Jitter.f k a0 a1 a2 0).bind fun t188 => (spec_JitterTolerated.j0 k a0 a1 a2 (!t188))) else (spec_JitterTolerated.j0 k a0 a1 a2 true))) else (spec_JitterTolerated.j0 k a0 a1 a2 true))) = some (r1, r2) := by rw [if_pos rfl] at H; exact H
      clear H
      have H := H1
      clear H1
      replace H := Option.bind_eq_some_iff.mp H
      obtain ⟨t186, A70, H⟩ := H
      replace H : (if t186 = true then ((spec_l07Run.f a2).bind fun t187 => (if t187 = true then ((spec_l07Jitter.f k a0 a1 a2 0).bind fun t188 => (spec_JitterTolerated.j0 k a0 a1 a2 (!t188))) else (spec_JitterTolerated.j0 k a0 a1 a2 true))) else (spec_JitterTolerated.j0 k a0 a1 a2 true)) = some (r1, r2) := H
      have A7 := Aside0.mk A70
      clear A70
      by_cases c8 : t186 = true
      · subst c8
        have H1 : ((spec_l07Run.f a2).bind fun t187 => (if t187 = true then ((spec_l07Jitter.f k a0 a1 a2 0).bind fun t188 => (spec_JitterTolerated.j0 k a0 a1 a2 (!t188))) else (spec_JitterTolerated.j0 k a0 a1 a2 true))) = some (r1, r2) := by rw [if_pos rfl] at H; exact H
        clear H
        have H := H1
        clear H1
        replace H := Option.bind_eq_some_iff.mp H
        obtain ⟨t187, A90, H⟩ := H
        replace H : (if t187 = true then ((spec_l07Jitter.f k a0 a1 a2 0).bind fun t188 => (spec_JitterTolerated.j0 k a0 a1 a2 (!t188))) else (spec_JitterTolerated.j0 k a0 a1 a2 true)) = some (r1, r2) := H
        have A9 := Aside0.mk A90
        clear A90
        by_cases c10 : t187 = true
        · subst c10
          have H1 : ((spec_l07Jitter.f k a0 a1 a2 0).bind fun t188 => (spec_JitterTolerated.j0 k a0 a1 a2 (!t188))) = some (r1, r2) := by rw [if_pos rfl] at H; exact H
          clear H
          have H := H1
          clear H1
          replace H := Option.bind_eq_some_iff.mp H
          obtain ⟨t188, A110, H⟩ := H
          replace H : (spec_JitterTolerated.j0 k a0 a1 a2 (!t188)) = some (r1, r2) := H
          have A11 := Aside0.mk A110
          clear A110
          have H' := Aside0.mk H
          clear H
          go_wp2_with (first | ((with_reducible refine gate_callee (f := 63) rfl ?_); refine goesL_ (some 10) rfl rfl Tryd.func63 (by kernel_rfl) rfl #[.int .i64 a0] rfl (by (try simp only [List.map_toArray, List.map_cons, List.map_nil]); first | done | rfl | (simp only [List.length_drop, List.length_take]; rfl)) ?_; (with_reducible refine (spec_l07Ticks.calls a0 true _ A5.out).mono ?_); rintro e w' ⟨rfl, ⟨nd, rfl⟩⟩; refine ⟨_, rfl, ?_⟩) | (go_at_call 63; (with_reducible refine (spec_l07Ticks.calls a1 true _ A7.out).mono ?_); rintro e w' ⟨rfl, ⟨nd, rfl⟩⟩) | (go_at_call 64; (with_reducible refine (spec_l07Run.calls a2 true _ A9.out).mono ?_); rintro e w' ⟨rfl, ⟨nd, rfl⟩⟩) | (go_at_call 65; (with_reducible refine (spec_l07Jitter.calls k a0 a1 a2 0 t188 _ A11.out).mono ?_); rintro e w' ⟨rfl, ⟨nd, rfl⟩⟩))
          go_meet
          case rel => exact ⟨_, (!t188), (by first | rfl | (simp; done) | (simp [*]; done)), H', ⟨by first | omega | exact Nat.le_refl _⟩, by repeat (first | exact Drawn0.refl _ | apply Drawn0.step)⟩
        · replace c10 := Bool.eq_false_iff.mpr c10
          subst c10
          have H1 : (spec_JitterTolerated.j0 k a0 a1 a2 true) = some (r1, r2) := by rw [if_neg (show ¬ (false = true) by decide)] at H; exact H
          clear H
          have H := H1
          clear H1
          have H' := Aside0.mk H
          clear H
          go_wp2_with (first | ((with_reducible refine gate_callee (f := 63) rfl ?_); refine goesL_ (some 10) rfl rfl Tryd.func63 (by kernel_rfl) rfl #[.int .i64 a0] rfl (by (try simp only [List.map_toArray, List.map_cons, List.map_nil]); first | done | rfl | (simp only [List.length_drop, List.length_take]; rfl)) ?_; (with_reducible refine (spec_l07Ticks.calls a0 true _ A5.out).mono ?_); rintro e w' ⟨rfl, ⟨nd, rfl⟩⟩; refine ⟨_, rfl, ?_⟩) | (go_at_call 63; (with_reducible refine (spec_l07Ticks.calls a1 true _ A7.out).mono ?_); rintro e w' ⟨rfl, ⟨nd, rfl⟩⟩) | (go_at_call 64; (with_reducible refine (spec_l07Run.calls a2 false _ A9.out).mono ?_); rintro e w' ⟨rfl, ⟨nd, rfl⟩⟩))
          go_meet
          case rel => exact ⟨_, (true), (by first | rfl | (simp; done) | (simp [*]; done)), H', ⟨by first | omega | exact Nat.le_refl _⟩, by repeat (first | exact Drawn0.refl _ | apply Drawn0.step)⟩
      · replace c8 := Bool.eq_false_iff.mpr c8
        subst c8
        have H1 : (spec_JitterTolerated.j0 k a0 a1 a2 true) = some (r1, r2) := by rw [if_neg (show ¬ (false = true) by decide)] at H; exact H
        clear H
        have H := H1
        clear H1
        have H' := Aside0.mk H
        clear H
        go_wp2_with (first | ((with_reducible refine gate_callee (f := 63) rfl ?_); refine goesL_ (some 10) rfl rfl Tryd.func63 (by kernel_rfl) rfl #[.int .i64 a0] rfl (by (try simp only [List.map_toArray, List.map_cons, List.map_nil]); first | done | rfl | (simp only [List.length_drop, List.length_take]; rfl)) ?_; (with_reducible refine (spec_l07Ticks.calls a0 true _ A5.out).mono ?_); rintro e w' ⟨rfl, ⟨nd, rfl⟩⟩; refine ⟨_, rfl, ?_⟩) | (go_at_call 63; (with_reducible refine (spec_l07Ticks.calls a1 false _ A7.out).mono ?_); rintro e w' ⟨rfl, ⟨nd, rfl⟩⟩))
        go_meet
        case rel => exact ⟨_, (true), (by first | rfl | (simp; done) | (simp [*]; done)), H', ⟨by first | omega | exact Nat.le_refl _⟩, by repeat (first | exact Drawn0.refl _ | apply Drawn0.step)⟩
    · replace c6 := Bool.eq_false_iff.mpr c6
      subst c6
      have H1 : (spec_JitterTolerated.j0 k a0 a1 a2 true) = some (r1, r2) := by rw [if_neg (show ¬ (false = true) by decide)] at H; exact H
      clear H
      have H := H1
      clear H1
      have H' := Aside0.mk H
      clear H
      go_wp2_with (first | ((with_reducible refine gate_callee (f := 63) rfl ?_); refine goesL_ (some 10) rfl rfl Tryd.func63 (by kernel_rfl) rfl #[.int .i64 a0] rfl (by (try simp only [List.map_toArray, List.map_cons, List.map_nil]); first | done | rfl | (simp only [List.length_drop, List.length_take]; rfl)) ?_; (with_reducible refine (spec_l07Ticks.calls a0 false _ A5.out).mono ?_); rintro e w' ⟨rfl, ⟨nd, rfl⟩⟩; refine ⟨_, rfl, ?_⟩))
      go_meet
      case rel => exact ⟨_, (true), (by first | rfl | (simp; done) | (simp [*]; done)), H', ⟨by first | omega | exact Nat.le_refl _⟩, by repeat (first | exact Drawn0.refl _ | apply Drawn0.step)⟩
  case rest =>
    clear HC4
    try clear c1
    try clear c2
    try clear p2
    try clear c6
    try clear c8
    try clear c10
    obtain ⟨kq, x28_3, rfl, HA, HJ3, ⟨mc3, rfl⟩⟩ := hcut
    cases kq with
    | zero => exact absurd HA.out (by simp [spec_JitterTolerated.j0])
    | succ kj3 =>
      have H := HA.out
      clear HA
      simp only [spec_JitterTolerated.j0] at H
      by_cases c12 : x28_3 = true
      · subst c12
        have H1 : (some (0, false)) = some (r1, r2) := by rw [if_pos rfl] at H; exact H
        clear H
        have H := H1
        clear H1
        simp only [Option.some.injEq, Prod.mk.injEq] at H
        obtain ⟨rfl, rfl⟩ := H
        go_wp2
        go_ret2
        exact ⟨by first | rfl | (simp; done) | (simp [*]; done), by repeat (first | exact Drawn0.refl _ | apply Drawn0.step)⟩
      · replace c12 := Bool.eq_false_iff.mpr c12
        subst c12
        have H1 : (spec_JitterTolerated.l0 kj3 a0 a1 a2 0) = some (r1, r2) := by rw [if_neg (show ¬ (false = true) by decide)] at H; exact H
        clear H
        have H := H1
        clear H1
        have H' := Aside0.mk H
        clear H
        go_wp2
        go_loopg [8] kj3 (fun kq v8 w' => ∃ (x8_2 : Int), v8 = .int .i64 x8_2 ∧ Aside0 (spec_JitterTolerated.l0 kq a0 a1 a2 x8_2 = some (r1, r2)) ∧ Aside0 (kq ≤ kj3) ∧ Drawn0 w w')
        case atStart => exact ⟨(0), (by first | rfl | (simp; done) | (simp [*]; done)), H', ⟨Nat.le_refl _⟩, by repeat (first | exact Drawn0.refl _ | apply Drawn0.step)⟩
        case round =>
          clear H'
          try clear c1
          try clear c2
          try clear p2
          try clear c3
          try clear c6
          try clear c8
          try clear c10
          try clear c12
          try clear p2
          obtain ⟨x8_2, rfl, HA, HK2, ⟨m2, rfl⟩⟩ := hrel
          cases gk with
          | zero => exact absurd HA.out (by simp [spec_JitterTolerated.l0])
          | succ k2 =>
            have H := HA.out
            clear HA
            simp only [spec_JitterTolerated.l0] at H
            replace H := Option.bind_eq_some_iff.mp H
            obtain ⟨t189, A130, H⟩ := H
            replace H : (if t189 = true then (spec_JitterTolerated.l0 k2 a0 a1 a2 (wrap64 (x8_2 + 1))) else (some (x8_2, true))) = some (r1, r2) := H
            have A13 := Aside0.mk A130
            clear A130
            by_cases c14 : t189 = true
            · subst c14
              have H1 : (spec_JitterTolerated.l0 k2 a0 a1 a2 (wrap64 (x8_2 + 1))) = some (r1, r2) := by rw [if_pos rfl] at H; exact H
              clear H
              have H := H1
              clear H1
              have H' := Aside0.mk H
              clear H
              go_wp2_with (first | ((with_reducible refine gate_callee (f := 65) rfl ?_); refine goesL_ (some 34) rfl rfl Tryd.func65 (by kernel_rfl) rfl #[.int .i64 a0, .int .i64 a1, .int .i64 a2, .int .i64 (wrap64 (x8_2 + 1))] rfl (by (try simp only [List.map_toArray, List.map_cons, List.map_nil]); first | done | rfl | (simp only [List.length_drop, List.length_take]; rfl)) ?_; (with_reducible refine (spec_l07Jitter.calls k2 a0 a1 a2 (wrap64 (x8_2 + 1)) true _ A13.out).mono ?_); rintro e w' ⟨rfl, ⟨nd, rfl⟩⟩; refine ⟨_, rfl, ?_⟩))
              go_roundg k2
              case measure => have := HJ3.out; have := HK2.out; omega
              case rel => exact ⟨(wrap64 (x8_2 + 1)), (by first | rfl | (simp; done) | (simp [*]; done)), H', ⟨by have := HJ3.out; have := HK2.out; omega⟩, by repeat (first | exact Drawn0.refl _ | apply Drawn0.step)⟩
            · replace c14 := Bool.eq_false_iff.mpr c14
              subst c14
              have H1 : (some (x8_2, true)) = some (r1, r2) := by rw [if_neg (show ¬ (false = true) by decide)] at H; exact H
              clear H
              have H := H1
              clear H1
              simp only [Option.some.injEq, Prod.mk.injEq] at H
              obtain ⟨rfl, rfl⟩ := H
              go_wp2_with (first | ((with_reducible refine gate_callee (f := 65) rfl ?_); refine goesL_ (some 34) rfl rfl Tryd.func65 (by kernel_rfl) rfl #[.int .i64 a0, .int .i64 a1, .int .i64 a2, .int .i64 (wrap64 (x8_2 + 1))] rfl (by (try simp only [List.map_toArray, List.map_cons, List.map_nil]); first | done | rfl | (simp only [List.length_drop, List.length_take]; rfl)) ?_; (with_reducible refine (spec_l07Jitter.calls k2 a0 a1 a2 (wrap64 (x8_2 + 1)) false _ A13.out).mono ?_); rintro e w' ⟨rfl, ⟨nd, rfl⟩⟩; refine ⟨_, rfl, ?_⟩))
              go_ret2
              exact ⟨by first | rfl | (simp; done) | (simp [*]; done), by repeat (first | exact Drawn0.refl _ | apply Drawn0.step)⟩

end Go.Proofs.YtondkjcmibnbpaaDoor.PFnSampled
