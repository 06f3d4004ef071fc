/- The law FnExactSlideDelay of the given program holds: for every input that the row lets in the call returns true and leaves its arguments as they were. No condition ahead of it. -/
import Derived.Test.YtjldjmdelbpjgaaPFnExactSlideDelayx1
import Derived.Test.YtjldjmdelbpjgaaMine
namespace Go.Proofs.Ytjldjmdelbpjgaa.Pure
open Go.RowKit Go.Proofs.Ytjldjmdelbpjgaa.PFnExactSlideDelay Go.Proofs.YtjldjmdelbpjgaaW.PrintWords Go.Proofs.YtjldjmdelbpjgaaW.PrintLast Go.Proofs.YtjldjmdelbpjgaaW.PrintMore Go.Proofs.Ytjldjmdelbpjgaa.Mine
set_option linter.unusedVariables false
set_option linter.unusedSimpArgs false
theorem l00In_eq (a b c : Int) : spec_l00In.f a b c = some (decide (b ≤ a ∧ a ≤ c)) := by
  unfold spec_l00In.f; by_cases h : a ≥ b
  · rw [if_pos h]; simp; intro _; exact h
  · rw [if_neg h]; simp; intro h'; omega
theorem within_eq (a b c : Int) : impl_within.f a b c = some (decide (b ≤ a ∧ a ≤ c)) := by
  unfold impl_within.f; by_cases h : a ≥ b
  · rw [if_pos h]; simp; intro _; exact h
  · rw [if_neg h]; simp; intro h'; omega

theorem FnExactSlideDelay : laws_FnExactSlideDelay.Pure := by
  intro a0 a1 _ _
  simp only [laws_FnExactSlideDelay.f, spec_SlideDelay.f, spec_l08Slide.f, impl_SlideDelay.f, impl_areSides.f, l00In_eq, within_eq, Option.bind_some]
  by_cases h0 : 1 ≤ a0 ∧ a0 ≤ 20
  · by_cases h1 : 1 ≤ a1 ∧ a1 ≤ 20
    · simp [h0, h1]
    · simp [h0, h1]
  · simp [h0]

end Go.Proofs.Ytjldjmdelbpjgaa.Pure
