/- The law FnExactIsTolerated of the given program holds: for every input that the row lets in the call returns true and leaves its arguments as they were. No condition ahead of it. -/
import Derived.Test.YtjldjmdelbpjgaaPFnExactIsToleratedx1
import Derived.Test.YtjldjmdelbpjgaaMine
namespace Go.Proofs.Ytjldjmdelbpjgaa.Pure
open Go.RowKit Go.Proofs.Ytjldjmdelbpjgaa.PFnExactIsTolerated Go.Proofs.YtjldjmdelbpjgaaW.PrintWords Go.Proofs.YtjldjmdelbpjgaaW.PrintLast Go.Proofs.YtjldjmdelbpjgaaW.PrintMore Go.Proofs.Ytjldjmdelbpjgaa.Mine
set_option linter.unusedVariables false
set_option linter.unusedSimpArgs false
theorem l00In_eq (a b c : Int) : spec_l00In.f a b c = some (decide (b ≤ a ∧ a ≤ c)) := by
  unfold spec_l00In.f; by_cases h : a ≥ b
  · rw [if_pos h]; simp; intro _; exact h
  · rw [if_neg h]; simp; intro h'; omega
theorem within_eq (a b c : Int) : impl_within.f a b c = some (decide (b ≤ a ∧ a ≤ c)) := by
  unfold impl_within.f; by_cases h : a ≥ b
  · rw [if_pos h]; simp; intro _; exact h
  · rw [if_neg h]; simp; intro h'; omega

theorem ticks_eq (a : Int) : spec_l07Ticks.f a = some (decide (2 ≤ a ∧ a ≤ 1000)) := by
  simp only [spec_l07Ticks.f, l00In_eq, Option.bind_some]
theorem areTicks_eq (a b : Int) : impl_areTicks.f a b = some (decide ((2 ≤ a ∧ a ≤ 1000) ∧ (2 ≤ b ∧ b ≤ 1000))) := by
  simp only [impl_areTicks.f, within_eq, Option.bind_some]
  by_cases h0 : 2 ≤ a ∧ a ≤ 1000 <;> by_cases h1 : 2 ≤ b ∧ b ≤ 1000 <;> simp [h0, h1]

theorem l07Run_eq (a : Int) : spec_l07Run.f a = some (decide (1 ≤ a ∧ a ≤ 100)) := by
  simp only [spec_l07Run.f, l00In_eq, Option.bind_some]
theorem isRun_eq (a : Int) : impl_isRun.f a = some (decide (1 ≤ a ∧ a ≤ 100)) := by
  simp only [impl_isRun.f, within_eq, Option.bind_some]

def OkAt (s t k : Int) : Prop := 2 * k * s < (2 * k + 1) * t ∧ (2 * k + 1) * t < 2 * (k + 1) * s
def FinAt (s t n : Int) : Prop := 2 * n * s ≤ (2 * n + 1) * t
theorem clockBounds {s t i : Int} (hs : 2 ≤ s ∧ s ≤ 1000) (ht : 2 ≤ t ∧ t ≤ 1000) (hi : 0 ≤ i ∧ i ≤ 101) :
    (0 ≤ (2 * i + 1) * t ∧ (2 * i + 1) * t ≤ 203000) ∧ (0 ≤ 2 * i * s ∧ 2 * i * s ≤ 202000) ∧ (0 ≤ 2 * (i + 1) * s ∧ 2 * (i + 1) * s ≤ 204000) := by
  have a := mb (a := 2 * i + 1) (b := t) (A := 203) (B := 1000) (by omega) (by omega) (by omega) (by omega)
  have b := mb (a := 2 * i) (b := s) (A := 202) (B := 1000) (by omega) (by omega) (by omega) (by omega)
  have c := mb (a := 2 * (i + 1)) (b := s) (A := 204) (B := 1000) (by omega) (by omega) (by omega) (by omega)
  exact ⟨⟨a.1, by omega⟩, ⟨b.1, by omega⟩, ⟨c.1, by omega⟩⟩

theorem l07Fine_loop (s t n : Int) (hs : 2 ≤ s ∧ s ≤ 1000) (ht : 2 ≤ t ∧ t ≤ 1000) (hn : n ≤ 101) (d : Nat) : ∀ i : Int, 0 ≤ i → i ≤ n → n - i = d →
    ∃ b, Ev (fun k => spec_l07Fine.l0 k s t n i) b ∧ (b = true ↔ (∀ k, i ≤ k → k < n → OkAt s t k) ∧ FinAt s t n) := by
  induction d with
  | zero =>
    intro i h0 h1 hd
    obtain rfl : i = n := by omega
    obtain ⟨⟨a1, a2⟩, ⟨b1, b2⟩, -⟩ := clockBounds hs ht ⟨h0, hn⟩
    refine ⟨decide ((2 * i + 1) * t ≥ 2 * i * s), Ev_succ ?_, ?_⟩
    · simp (disch := omega) only [spec_l07Fine.l0, w64]
      simp only [if_neg (Int.lt_irrefl i)]
      exact Ev.now _
    · simp only [FinAt, decide_eq_true_eq]
      exact ⟨fun h => ⟨fun k h2 h3 => by omega, h⟩, fun h => h.2⟩
  | succ d ih =>
    intro i h0 h1 hd
    have hlt : i < n := by omega
    obtain ⟨⟨a1, a2⟩, ⟨b1, b2⟩, ⟨c1, c2⟩⟩ := clockBounds hs ht (i := i) ⟨h0, by omega⟩
    by_cases h : OkAt s t i
    · obtain ⟨b, hb, hi⟩ := ih (i + 1) (by omega) (by omega) (by omega)
      refine ⟨b, Ev_succ ?_, hi.trans ?_⟩
      · simp (disch := omega) only [spec_l07Fine.l0, w64]
        have g1 : ¬ (2 * i + 1) * t ≤ 2 * i * s := by have := h.1; omega
        have g2 : ¬ (2 * i + 1) * t ≥ 2 * (i + 1) * s := by have := h.2; omega
        simp only [if_pos hlt, if_neg g1, if_neg g2]
        exact hb
      · refine and_congr_left' ⟨fun g k h2 h3 => ?_, fun g k h2 h3 => g k (by omega) h3⟩
        by_cases e : k = i
        · rw [e]; exact h
        · exact g k (by omega) h3
    · refine ⟨false, Ev_succ ?_, ?_⟩
      · simp (disch := omega) only [spec_l07Fine.l0, w64]
        simp only [if_pos hlt]
        by_cases g1 : (2 * i + 1) * t ≤ 2 * i * s
        · simp only [if_pos g1]; exact Ev.now _
        · have g2 : (2 * i + 1) * t ≥ 2 * (i + 1) * s := by
            have : ¬ (2 * i + 1) * t < 2 * (i + 1) * s := fun g => h ⟨by omega, g⟩
            omega
          simp only [if_neg g1, if_pos g2]; exact Ev.now _
      · simp only [Bool.false_eq_true, false_iff]
        intro g
        exact h (g.1 i (by omega) hlt)
def Fine (s t n : Int) : Prop := (∀ k, 0 ≤ k → k < n → OkAt s t k) ∧ FinAt s t n
theorem l07Fine_ev (s t n : Int) (hs : 2 ≤ s ∧ s ≤ 1000) (ht : 2 ≤ t ∧ t ≤ 1000) (hn : 0 ≤ n ∧ n ≤ 101) :
    ∃ b, Ev (fun k => spec_l07Fine.f k s t n) b ∧ (b = true ↔ Fine s t n) :=
  l07Fine_loop s t n hs ht hn.2 n.toNat 0 (by omega) hn.1 (by omega)

theorem l07All_loop (s t n : Int) (hs : 2 ≤ s ∧ s ≤ 1000) (ht : 2 ≤ t ∧ t ≤ 1000) (hn : n ≤ 100) (d : Nat) : ∀ i : Int, 0 ≤ i → n + 1 - i = d →
    ∃ b, Ev (fun k => spec_l07All.l0 k s t n i) b ∧ (b = true ↔ ∀ k, i ≤ k → k ≤ n → Fine s t k) := by
  induction d with
  | zero =>
    intro i h0 hd
    refine ⟨true, Ev_succ ?_, ?_⟩
    · simp only [spec_l07All.l0, if_neg (show ¬ i ≤ n by omega)]
      exact Ev.now _
    · simp only [true_iff]; intro k h2 h3; omega
  | succ d ih =>
    intro i h0 hd
    have hle : i ≤ n := by omega
    obtain ⟨c, hc, hci⟩ := l07Fine_ev s t i hs ht ⟨h0, by omega⟩
    cases c with
    | true =>
      obtain ⟨b, hb, hi⟩ := ih (i + 1) (by omega) (by omega)
      refine ⟨b, Ev_succ ?_, hi.trans ?_⟩
      · simp (disch := omega) only [spec_l07All.l0, w64]
        simp only [if_pos hle]
        refine Ev.bind hc ?_
        simpa using hb
      · refine ⟨fun g k h2 h3 => ?_, fun g k h2 h3 => g k (by omega) h3⟩
        by_cases e : k = i
        · rw [e]; exact hci.1 rfl
        · exact g k (by omega) h3
    | false =>
      refine ⟨false, Ev_succ ?_, ?_⟩
      · simp only [spec_l07All.l0, if_pos hle]
        refine Ev.bind hc ?_
        simpa using Ev.now false
      · simp only [Bool.false_eq_true, false_iff]
        intro g
        have := hci.2 (g i (by omega) hle)
        cases this
def AllFine (s t n : Int) : Prop := ∀ k, 1 ≤ k → k ≤ n → Fine s t k
theorem l07All_ev (s t n : Int) (hs : 2 ≤ s ∧ s ≤ 1000) (ht : 2 ≤ t ∧ t ≤ 1000) (hn : 0 ≤ n ∧ n ≤ 100) :
    ∃ b, Ev (fun k => spec_l07All.f k s t n) b ∧ (b = true ↔ AllFine s t n) :=
  l07All_loop s t n hs ht hn.2 n.toNat 1 (by omega) (by omega)

def StepOk (s t r : Int) : Prop := OkAt s t (r - 1) ∧ FinAt s t r
theorem longest_loop (s t m : Int) (hs : 2 ≤ s ∧ s ≤ 1000) (ht : 2 ≤ t ∧ t ≤ 1000) (hm : m ≤ 100) (d : Nat) : ∀ i : Int, 1 ≤ i → i ≤ m + 1 → m + 1 - i = d →
    ∃ r, Ev (fun k => impl_longest.l0 k s t m i) r ∧ i - 1 ≤ r ∧ r ≤ m ∧ (∀ j, i ≤ j → j ≤ r → StepOk s t j) ∧ (r < m → ¬ StepOk s t (r + 1)) := by
  induction d with
  | zero =>
    intro i h0 h1 hd
    refine ⟨m, Ev_succ ?_, by omega, by omega, fun j h2 h3 => by omega, fun h => by omega⟩
    simp only [impl_longest.l0, if_neg (show ¬ i ≤ m by omega)]
    exact Ev.now _
  | succ d ih =>
    intro i h0 h1 hd
    have hle : i ≤ m := by omega
    obtain ⟨⟨a1, a2⟩, ⟨b1, b2⟩, ⟨c1, c2⟩⟩ := clockBounds hs ht (i := i - 1) ⟨by omega, by omega⟩
    obtain ⟨⟨a3, a4⟩, ⟨b3, b4⟩, -⟩ := clockBounds hs ht (i := i) ⟨by omega, by omega⟩
    rw [Int.sub_add_cancel] at c1 c2
    by_cases h : StepOk s t i
    · obtain ⟨r, hr, h2, h3, h4, h5⟩ := ih (i + 1) (by omega) (by omega) (by omega)
      refine ⟨r, Ev_succ ?_, by omega, h3, fun j h6 h7 => ?_, h5⟩
      · simp (disch := omega) only [impl_longest.l0, w64]
        obtain ⟨⟨g1, g2⟩, g3⟩ := h
        rw [Int.sub_add_cancel] at g2
        have g3 : ¬ (2 * i + 1) * t < 2 * i * s := by have := g3; simp only [FinAt] at this; omega
        simp only [if_pos hle, if_pos g1, if_pos g2, if_neg g3, gt_iff_lt]
        exact hr
      · by_cases e : j = i
        · rw [e]; exact h
        · exact h4 j (by omega) h7
    · refine ⟨i - 1, Ev_succ ?_, by omega, by omega, fun j h6 h7 => by omega, fun _ => by rw [Int.sub_add_cancel]; exact h⟩
      simp (disch := omega) only [impl_longest.l0, w64]
      simp only [if_pos hle, gt_iff_lt]
      by_cases g1 : 2 * (i - 1) * s < (2 * (i - 1) + 1) * t
      · by_cases g2 : (2 * (i - 1) + 1) * t < 2 * i * s
        · by_cases g3 : (2 * i + 1) * t < 2 * i * s
          · simp only [if_pos g1, if_pos g2, if_pos g3]; exact Ev.now _
          · exact absurd ⟨⟨g1, by rw [Int.sub_add_cancel]; exact g2⟩, by simp only [FinAt]; omega⟩ h
        · simp only [if_pos g1, if_neg g2]; exact Ev.now _
      · simp only [if_neg g1]; exact Ev.now _
theorem longest_ev (s t m : Int) (hs : 2 ≤ s ∧ s ≤ 1000) (ht : 2 ≤ t ∧ t ≤ 1000) (hm : 0 ≤ m ∧ m ≤ 100) :
    ∃ r, Ev (fun k => impl_longest.f k s t m) r ∧ 0 ≤ r ∧ r ≤ m ∧ (∀ j, 1 ≤ j → j ≤ r → StepOk s t j) ∧ (r < m → ¬ StepOk s t (r + 1)) := by
  obtain ⟨r, h1, h2, h3⟩ := longest_loop s t m hs ht hm.2 m.toNat 1 (by omega) (by omega) (by omega)
  exact ⟨r, h1, by omega, h3⟩

theorem allFine_iff (s t n : Int) : AllFine s t n ↔ ∀ j, 1 ≤ j → j ≤ n → StepOk s t j := by
  constructor
  · intro h j h1 h2
    exact ⟨(h j h1 h2).1 (j - 1) (by omega) (by omega), (h j h1 h2).2⟩
  · intro h j h1 h2
    refine ⟨fun k h3 h4 => ?_, (h j h1 h2).2⟩
    have := (h (k + 1) (by omega) (by omega)).1
    rwa [Int.add_sub_cancel] at this

theorem isTol_ev (s t n : Int) (hs : 2 ≤ s ∧ s ≤ 1000) (ht : 2 ≤ t ∧ t ≤ 1000) (hn : 1 ≤ n ∧ n ≤ 100) :
    ∃ b, Ev (fun k => impl_IsTolerated.f k s t n) b ∧ (b = true ↔ AllFine s t n) := by
  obtain ⟨r, hr, h0, h1, h2, h3⟩ := longest_ev s t n hs ht ⟨by omega, hn.2⟩
  refine ⟨r == n, ?_, ?_⟩
  · simp only [impl_IsTolerated.f, areTicks_eq, isRun_eq, Option.bind_some, hs, ht, hn, and_self, decide_true, if_true]
    exact Ev.bind hr (Ev.now _)
  · rw [allFine_iff, beq_iff_eq]
    constructor
    · rintro rfl; exact h2
    · intro h
      by_cases e : r = n
      · exact e
      · exact absurd (h (r + 1) (by omega) (by omega)) (h3 (by omega))
theorem isTol_not (s t n : Int) (h : ¬ ((2 ≤ s ∧ s ≤ 1000) ∧ (2 ≤ t ∧ t ≤ 1000) ∧ (1 ≤ n ∧ n ≤ 100))) : Ev (fun k => impl_IsTolerated.f k s t n) false := by
  simp only [impl_IsTolerated.f, areTicks_eq, isRun_eq, Option.bind_some]
  by_cases h0 : (2 ≤ s ∧ s ≤ 1000) ∧ (2 ≤ t ∧ t ≤ 1000)
  · have h1 : ¬ (1 ≤ n ∧ n ≤ 100) := fun g => h ⟨h0.1, h0.2, g⟩
    simp only [h0, h1, and_self, decide_true, decide_false, if_true, Bool.false_eq_true, if_false]; exact Ev.now _
  · simp only [h0, decide_false, Bool.false_eq_true, if_false]; exact Ev.now _

theorem specTol_ev (s t n : Int) (hs : 2 ≤ s ∧ s ≤ 1000) (ht : 2 ≤ t ∧ t ≤ 1000) (hn : 1 ≤ n ∧ n ≤ 100) :
    ∃ b, Ev (fun k => spec_IsTolerated.f k s t n) b ∧ (b = true ↔ AllFine s t n) := by
  obtain ⟨b, hb, hi⟩ := l07All_ev s t n hs ht ⟨by omega, hn.2⟩
  refine ⟨b, ?_, hi⟩
  simp only [spec_IsTolerated.f, ticks_eq, l07Run_eq, Option.bind_some, hs, ht, hn, and_self, decide_true, if_true]
  exact Ev.bind hb (Ev.now _)
theorem specTol_not (s t n : Int) (h : ¬ ((2 ≤ s ∧ s ≤ 1000) ∧ (2 ≤ t ∧ t ≤ 1000) ∧ (1 ≤ n ∧ n ≤ 100))) : Ev (fun k => spec_IsTolerated.f k s t n) false := by
  simp only [spec_IsTolerated.f, ticks_eq, l07Run_eq, Option.bind_some]
  by_cases h0 : 2 ≤ s ∧ s ≤ 1000
  · by_cases h1 : 2 ≤ t ∧ t ≤ 1000
    · have h2 : ¬ (1 ≤ n ∧ n ≤ 100) := fun g => h ⟨h0, h1, g⟩
      simp only [h0, h1, h2, and_self, decide_true, decide_false, if_true, Bool.false_eq_true, if_false]; exact Ev.now _
    · simp only [h0, h1, and_self, decide_true, decide_false, if_true, Bool.false_eq_true, if_false]; exact Ev.now _
  · simp only [h0, decide_false, Bool.false_eq_true, if_false]; exact Ev.now _
theorem FnExactIsTolerated : laws_FnExactIsTolerated.Pure := by
  intro s t n _ _ _
  apply Ev.rounds
  simp only [laws_FnExactIsTolerated.f]
  by_cases h : (2 ≤ s ∧ s ≤ 1000) ∧ (2 ≤ t ∧ t ≤ 1000) ∧ (1 ≤ n ∧ n ≤ 100)
  · obtain ⟨b, hb, hi⟩ := specTol_ev s t n h.1 h.2.1 h.2.2
    obtain ⟨c, hc, hj⟩ := isTol_ev s t n h.1 h.2.1 h.2.2
    refine Ev.bind hb (Ev.bind hc ?_)
    have : b = c := by
      cases b <;> cases c <;> simp_all
    subst this
    simpa using Ev.now true
  · refine Ev.bind (specTol_not s t n h) (Ev.bind (isTol_not s t n h) ?_)
    simpa using Ev.now true

end Go.Proofs.Ytjldjmdelbpjgaa.Pure
