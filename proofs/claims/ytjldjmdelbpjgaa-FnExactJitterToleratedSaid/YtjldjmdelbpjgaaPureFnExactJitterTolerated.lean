/- The law FnExactJitterTolerated of the given program holds: for every input that the row lets in the call returns true and leaves its arguments as they were. No condition ahead of it. -/
import Derived.Test.YtjldjmdelbpjgaaPFnExactJitterToleratedx1
import Derived.Test.YtjldjmdelbpjgaaMine
namespace Go.Proofs.Ytjldjmdelbpjgaa.Pure
open Go.RowKit Go.Proofs.Ytjldjmdelbpjgaa.PFnExactJitterTolerated Go.Proofs.YtjldjmdelbpjgaaW.PrintWords Go.Proofs.YtjldjmdelbpjgaaW.PrintLast Go.Proofs.YtjldjmdelbpjgaaW.PrintMore Go.Proofs.Ytjldjmdelbpjgaa.Mine
set_option linter.unusedVariables false
set_option linter.unusedSimpArgs false
theorem l00In_eq (a b c : Int) : spec_l00In.f a b c = some (decide (b ≤ a ∧ a ≤ c)) := by
  unfold spec_l00In.f; by_cases h : a ≥ b
  · rw [if_pos h]; simp; intro _; exact h
  · rw [if_neg h]; simp; intro h'; omega
theorem within_eq (a b c : Int) : impl_within.f a b c = some (decide (b ≤ a ∧ a ≤ c)) := by
  unfold impl_within.f; by_cases h : a ≥ b
  · rw [if_pos h]; simp; intro _; exact h
  · rw [if_neg h]; simp; intro h'; omega

theorem ticks_eq (a : Int) : spec_l07Ticks.f a = some (decide (2 ≤ a ∧ a ≤ 1000)) := by
  simp only [spec_l07Ticks.f, l00In_eq, Option.bind_some]
theorem areTicks_eq (a b : Int) : impl_areTicks.f a b = some (decide ((2 ≤ a ∧ a ≤ 1000) ∧ (2 ≤ b ∧ b ≤ 1000))) := by
  simp only [impl_areTicks.f, within_eq, Option.bind_some]
  by_cases h0 : 2 ≤ a ∧ a ≤ 1000 <;> by_cases h1 : 2 ≤ b ∧ b ≤ 1000 <;> simp [h0, h1]

theorem l07Run_eq (a : Int) : spec_l07Run.f a = some (decide (1 ≤ a ∧ a ≤ 100)) := by
  simp only [spec_l07Run.f, l00In_eq, Option.bind_some]
theorem isRun_eq (a : Int) : impl_isRun.f a = some (decide (1 ≤ a ∧ a ≤ 100)) := by
  simp only [impl_isRun.f, within_eq, Option.bind_some]

def Jok (s t j n : Int) : Prop := (2 * n - 1) * t < 2 * (n * s - 2 * j) ∧ 2 * (n * s + 2 * j) ≤ (2 * n + 1) * t
def Jit (s t m j : Int) : Prop := ∀ n, 1 ≤ n → n ≤ m → Jok s t j n
theorem jitBounds {s t n : Int} (hs : 2 ≤ s ∧ s ≤ 1000) (ht : 2 ≤ t ∧ t ≤ 1000) (hn : 1 ≤ n ∧ n ≤ 100) :
    (0 ≤ (2 * n + 1) * t ∧ (2 * n + 1) * t ≤ 201000) ∧ (0 ≤ (2 * n - 1) * t ∧ (2 * n - 1) * t ≤ 199000) ∧ (0 ≤ n * s ∧ n * s ≤ 100000) := by
  have a := mb (a := 2 * n + 1) (b := t) (A := 201) (B := 1000) (by omega) (by omega) (by omega) (by omega)
  have b := mb (a := 2 * n - 1) (b := t) (A := 199) (B := 1000) (by omega) (by omega) (by omega) (by omega)
  have c := mb (a := n) (b := s) (A := 100) (B := 1000) (by omega) (by omega) (by omega) (by omega)
  exact ⟨⟨a.1, by omega⟩, ⟨b.1, by omega⟩, ⟨c.1, by omega⟩⟩
theorem l07Jitter_loop (s t m j : Int) (hs : 2 ≤ s ∧ s ≤ 1000) (ht : 2 ≤ t ∧ t ≤ 1000) (hm : m ≤ 100) (hj : 0 ≤ j ∧ j ≤ 1000) (d : Nat) : ∀ i : Int, 1 ≤ i → m + 1 - i = d →
    ∃ b, Ev (fun k => spec_l07Jitter.l0 k s t m j i) b ∧ (b = true ↔ ∀ n, i ≤ n → n ≤ m → Jok s t j n) := by
  induction d with
  | zero =>
    intro i h0 hd
    refine ⟨true, Ev_succ ?_, ?_⟩
    · simp only [spec_l07Jitter.l0, if_neg (show ¬ i ≤ m by omega)]
      exact Ev.now _
    · simp only [true_iff]; intro k h2 h3; omega
  | succ d ih =>
    intro i h0 hd
    have hle : i ≤ m := by omega
    obtain ⟨⟨a1, a2⟩, ⟨b1, b2⟩, ⟨c1, c2⟩⟩ := jitBounds hs ht (n := i) ⟨by omega, by omega⟩
    by_cases h : Jok s t j i
    · obtain ⟨b, hb, hi⟩ := ih (i + 1) (by omega) (by omega)
      refine ⟨b, Ev_succ ?_, hi.trans ?_⟩
      · simp (disch := omega) only [spec_l07Jitter.l0, w64]
        have g1 : ¬ 2 * (i * s - 2 * j) ≤ (2 * i - 1) * t := by have := h.1; omega
        have g2 : ¬ 2 * (i * s + 2 * j) > (2 * i + 1) * t := by have := h.2; omega
        simp only [if_pos hle, if_neg g1, if_neg g2]
        exact hb
      · refine ⟨fun g k h2 h3 => ?_, fun g k h2 h3 => g k (by omega) h3⟩
        by_cases e : k = i
        · rw [e]; exact h
        · exact g k (by omega) h3
    · refine ⟨false, Ev_succ ?_, ?_⟩
      · simp (disch := omega) only [spec_l07Jitter.l0, w64]
        simp only [if_pos hle]
        by_cases g1 : 2 * (i * s - 2 * j) ≤ (2 * i - 1) * t
        · simp only [if_pos g1]; exact Ev.now _
        · have g2 : 2 * (i * s + 2 * j) > (2 * i + 1) * t := by
            have : ¬ 2 * (i * s + 2 * j) ≤ (2 * i + 1) * t := fun g => h ⟨by omega, g⟩
            omega
          simp only [if_neg g1, if_pos g2]; exact Ev.now _
      · simp only [Bool.false_eq_true, false_iff]
        intro g
        exact h (g i (by omega) hle)
theorem l07Jitter_ev (s t m j : Int) (hs : 2 ≤ s ∧ s ≤ 1000) (ht : 2 ≤ t ∧ t ≤ 1000) (hm : 0 ≤ m ∧ m ≤ 100) (hj : 0 ≤ j ∧ j ≤ 1000) :
    ∃ b, Ev (fun k => spec_l07Jitter.f k s t m j) b ∧ (b = true ↔ Jit s t m j) :=
  l07Jitter_loop s t m j hs ht hm.2 hj m.toNat 1 (by omega) (by omega)
theorem jit_stops (s t m j : Int) (hs : 2 ≤ s ∧ s ≤ 1000) (ht : 2 ≤ t ∧ t ≤ 1000) (hm : 1 ≤ m) (hj : 500 ≤ j) : ¬ Jit s t m j := by
  intro h
  have := (h 1 (by omega) hm).1
  omega
theorem specJit_loop (s t m : Int) (hs : 2 ≤ s ∧ s ≤ 1000) (ht : 2 ≤ t ∧ t ≤ 1000) (hm : 1 ≤ m ∧ m ≤ 100) (d : Nat) : ∀ j : Int, 0 ≤ j → j ≤ 500 → 500 - j = d → (∀ i, 0 ≤ i → i ≤ j → Jit s t m i) →
    ∃ r, Ev (fun k => spec_JitterTolerated.l0 k s t m j) (r, true) ∧ 0 ≤ r ∧ (∀ i, 0 ≤ i → i ≤ r → Jit s t m i) ∧ ¬ Jit s t m (r + 1) := by
  induction d with
  | zero =>
    intro j h0 h1 hd hp
    exact absurd (hp j h0 (by omega)) (jit_stops s t m j hs ht hm.1 (by omega))
  | succ d ih =>
    intro j h0 h1 hd hp
    obtain ⟨b, hb, hi⟩ := l07Jitter_ev s t m (j + 1) hs ht ⟨by omega, hm.2⟩ ⟨by omega, by omega⟩
    cases b with
    | true =>
      obtain ⟨r, hr, g⟩ := ih (j + 1) (by omega) (by omega) (by omega) (fun i g1 g2 => by
        by_cases e : i = j + 1
        · rw [e]; exact hi.1 rfl
        · exact hp i g1 (by omega))
      refine ⟨r, Ev_succ ?_, g⟩
      simp (disch := omega) only [spec_JitterTolerated.l0, w64]
      refine Ev.bind hb ?_
      simpa using hr
    | false =>
      refine ⟨j, Ev_succ ?_, h0, hp, fun g => by have := hi.2 g; cases this⟩
      simp (disch := omega) only [spec_JitterTolerated.l0, w64]
      refine Ev.bind hb ?_
      simpa using Ev.now _
theorem implJit_inner (s t m j : Int) (hs : 2 ≤ s ∧ s ≤ 1000) (ht : 2 ≤ t ∧ t ≤ 1000) (hm : 1 ≤ m ∧ m ≤ 100) (hj : 0 ≤ j ∧ j ≤ 1000) (R : Int × Bool)
    (hgo : Jit s t m j → Ev (fun k => impl_JitterTolerated.l0 k s t m (j + 1)) R) (hst : ¬ Jit s t m j → R = (mx 0 (j - 1), decide (j > 0))) (d : Nat) :
    ∀ i : Int, 1 ≤ i → i ≤ m + 1 → m + 1 - i = d → (∀ n, 1 ≤ n → n < i → Jok s t j n) → Ev (fun k => impl_JitterTolerated.l1 k s t m j i) R := by
  induction d with
  | zero =>
    intro i h0 h1 hd hp
    refine Ev_succ ?_
    simp (disch := omega) only [impl_JitterTolerated.l1, w64]
    simp only [if_neg (show ¬ i ≤ m by omega)]
    exact hgo (fun n g1 g2 => hp n g1 (by omega))
  | succ d ih =>
    intro i h0 h1 hd hp
    have hle : i ≤ m := by omega
    obtain ⟨⟨a1, a2⟩, ⟨b1, b2⟩, ⟨c1, c2⟩⟩ := jitBounds hs ht (n := i) ⟨by omega, by omega⟩
    refine Ev_succ ?_
    simp (disch := omega) only [impl_JitterTolerated.l1, w64]
    simp only [if_pos hle]
    by_cases h : Jok s t j i
    · have g1 : ¬ 2 * (i * s - 2 * j) ≤ (2 * i - 1) * t := by have := h.1; omega
      have g2 : ¬ 2 * (i * s + 2 * j) > (2 * i + 1) * t := by have := h.2; omega
      simp only [if_neg g1, if_neg g2]
      refine ih (i + 1) (by omega) (by omega) (by omega) (fun n f1 f2 => ?_)
      by_cases e : n = i
      · rw [e]; exact h
      · exact hp n f1 (by omega)
    · have hno : ¬ Jit s t m j := fun g => h (g i h0 hle)
      rw [hst hno]
      by_cases g1 : 2 * (i * s - 2 * j) ≤ (2 * i - 1) * t
      · simp only [if_pos g1]; exact Ev.now _
      · have g2 : 2 * (i * s + 2 * j) > (2 * i + 1) * t := by
          have : ¬ 2 * (i * s + 2 * j) ≤ (2 * i + 1) * t := fun g => h ⟨by omega, g⟩
          omega
        simp only [if_neg g1, if_pos g2]; exact Ev.now _
theorem implJit_loop (s t m J : Int) (hs : 2 ≤ s ∧ s ≤ 1000) (ht : 2 ≤ t ∧ t ≤ 1000) (hm : 1 ≤ m ∧ m ≤ 100) (hJ : 0 ≤ J ∧ J ≤ 501) (hall : ∀ i, 0 ≤ i → i < J → Jit s t m i) (hno : ¬ Jit s t m J) (d : Nat) :
    ∀ j : Int, 0 ≤ j → j ≤ J → J - j = d → Ev (fun k => impl_JitterTolerated.l0 k s t m j) (mx 0 (J - 1), decide (J > 0)) := by
  induction d with
  | zero =>
    intro j h0 h1 hd
    obtain rfl : j = J := by omega
    refine Ev_succ ?_
    simp only [impl_JitterTolerated.l0]
    exact implJit_inner s t m j hs ht hm ⟨h0, by omega⟩ _ (fun g => absurd g hno) (fun _ => rfl) m.toNat 1 (by omega) (by omega) (by omega) (fun n g1 g2 => by omega)
  | succ d ih =>
    intro j h0 h1 hd
    refine Ev_succ ?_
    simp only [impl_JitterTolerated.l0]
    exact implJit_inner s t m j hs ht hm ⟨h0, by omega⟩ _ (fun _ => ih (j + 1) (by omega) (by omega) (by omega)) (fun g => absurd (hall j h0 (by omega)) g) m.toNat 1 (by omega) (by omega) (by omega) (fun n g1 g2 => by omega)
theorem FnExactJitterTolerated : laws_FnExactJitterTolerated.Pure := by
  intro s t m _ _ _
  apply Ev.rounds
  simp only [laws_FnExactJitterTolerated.f]
  by_cases h : (2 ≤ s ∧ s ≤ 1000) ∧ (2 ≤ t ∧ t ≤ 1000) ∧ (1 ≤ m ∧ m ≤ 100)
  · obtain ⟨h0, h1, h2⟩ := h
    obtain ⟨b, hb, hi⟩ := l07Jitter_ev s t m 0 h0 h1 ⟨by omega, h2.2⟩ ⟨by omega, by omega⟩
    cases b with
    | true =>
      obtain ⟨r, hr, g0, g1, g2⟩ := specJit_loop s t m h0 h1 h2 500 0 (by omega) (by omega) (by omega) (fun i f1 f2 => by
        obtain rfl : i = 0 := by omega
        exact hi.1 rfl)
      have hle : r ≤ 500 := by
        by_cases f : r ≤ 500
        · exact f
        · exact absurd (g1 500 (by omega) (by omega)) (jit_stops s t m 500 h0 h1 h2.1 (by omega))
      have hq := implJit_loop s t m (r + 1) h0 h1 h2 ⟨by omega, by omega⟩ (fun i f1 f2 => g1 i f1 (by omega)) g2 (r + 1).toNat 0 (by omega) (by omega) (by omega)
      have e : mx 0 (r + 1 - 1) = r := by rw [Int.add_sub_cancel]; unfold mx; split <;> omega
      rw [e] at hq
      have A : Ev (fun k => spec_JitterTolerated.f k s t m) (r, true) := by
        simp only [spec_JitterTolerated.f, ticks_eq, l07Run_eq, Option.bind_some, h0, h1, h2, and_self, decide_true, if_true]
        refine Ev.bind hb (Ev_succ ?_)
        simpa [spec_JitterTolerated.j0] using hr
      have B : Ev (fun k => impl_JitterTolerated.f k s t m) (r, true) := by
        simp only [impl_JitterTolerated.f, areTicks_eq, isRun_eq, Option.bind_some, h0, h1, h2, and_self, decide_true, if_true]
        refine Ev_succ ?_
        have e2 : decide (r + 1 > 0) = true := decide_eq_true (by omega)
        rw [e2] at hq
        simpa [impl_JitterTolerated.j0] using hq
      refine Ev.bind A (Ev.bind B ?_)
      simpa using Ev.now true
    | false =>
      have hno : ¬ Jit s t m 0 := fun g => by have := hi.2 g; cases this
      have hq := implJit_loop s t m 0 h0 h1 h2 ⟨by omega, by omega⟩ (fun i f1 f2 => by omega) hno 0 0 (by omega) (by omega) (by omega)
      have A : Ev (fun k => spec_JitterTolerated.f k s t m) (0, false) := by
        simp only [spec_JitterTolerated.f, ticks_eq, l07Run_eq, Option.bind_some, h0, h1, h2, and_self, decide_true, if_true]
        refine Ev.bind hb (Ev_succ ?_)
        simpa [spec_JitterTolerated.j0] using Ev.now _
      have B : Ev (fun k => impl_JitterTolerated.f k s t m) (0, false) := by
        simp only [impl_JitterTolerated.f, areTicks_eq, isRun_eq, Option.bind_some, h0, h1, h2, and_self, decide_true, if_true]
        refine Ev_succ ?_
        simpa [impl_JitterTolerated.j0, mx] using hq
      refine Ev.bind A (Ev.bind B ?_)
      simpa using Ev.now true
  · have A : Ev (fun k => spec_JitterTolerated.f k s t m) (0, false) := by
      simp only [spec_JitterTolerated.f, ticks_eq, l07Run_eq, Option.bind_some]
      have J : Ev (fun k => spec_JitterTolerated.j0 k s t m true) (0, false) := by
        refine Ev_succ ?_
        simpa [spec_JitterTolerated.j0] using Ev.now _
      by_cases h0 : 2 ≤ s ∧ s ≤ 1000
      · by_cases h1 : 2 ≤ t ∧ t ≤ 1000
        · have h2 : ¬ (1 ≤ m ∧ m ≤ 100) := fun g => h ⟨h0, h1, g⟩
          simp only [h0, h1, h2, and_self, decide_true, decide_false, if_true, Bool.false_eq_true, if_false]; exact J
        · simp only [h0, h1, and_self, decide_true, decide_false, if_true, Bool.false_eq_true, if_false]; exact J
      · simp only [h0, decide_false, Bool.false_eq_true, if_false]; exact J
    have B : Ev (fun k => impl_JitterTolerated.f k s t m) (0, false) := by
      simp only [impl_JitterTolerated.f, areTicks_eq, isRun_eq, Option.bind_some]
      have J : Ev (fun k => impl_JitterTolerated.j0 k s t m true) (0, false) := by
        refine Ev_succ ?_
        simpa [impl_JitterTolerated.j0] using Ev.now _
      by_cases h0 : (2 ≤ s ∧ s ≤ 1000) ∧ (2 ≤ t ∧ t ≤ 1000)
      · have h2 : ¬ (1 ≤ m ∧ m ≤ 100) := fun g => h ⟨h0.1, h0.2, g⟩
        simp only [h0, h2, and_self, decide_true, decide_false, if_true, Bool.not_false]; exact J
      · simp only [h0, decide_false, Bool.false_eq_true, if_false]; exact J
    refine Ev.bind A (Ev.bind B ?_)
    simpa using Ev.now true

end Go.Proofs.Ytjldjmdelbpjgaa.Pure
