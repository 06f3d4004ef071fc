/- The law FnExactFillAt of the given program holds: for every input that the row lets in the call returns true and leaves its arguments as they were. No condition ahead of it. -/
import Derived.Test.YtjldjmdelbpjgaaPFnExactFillAtx1
import Derived.Test.YtjldjmdelbpjgaaMine
namespace Go.Proofs.Ytjldjmdelbpjgaa.Pure
open Go.RowKit Go.Proofs.Ytjldjmdelbpjgaa.PFnExactFillAt Go.Proofs.YtjldjmdelbpjgaaW.PrintWords Go.Proofs.YtjldjmdelbpjgaaW.PrintLast Go.Proofs.YtjldjmdelbpjgaaW.PrintMore Go.Proofs.Ytjldjmdelbpjgaa.Mine
set_option linter.unusedVariables false
set_option linter.unusedSimpArgs false
theorem l00In_eq (a b c : Int) : spec_l00In.f a b c = some (decide (b ≤ a ∧ a ≤ c)) := by
  unfold spec_l00In.f; by_cases h : a ≥ b
  · rw [if_pos h]; simp; intro _; exact h
  · rw [if_neg h]; simp; intro h'; omega
theorem within_eq (a b c : Int) : impl_within.f a b c = some (decide (b ≤ a ∧ a ≤ c)) := by
  unfold impl_within.f; by_cases h : a ≥ b
  · rw [if_pos h]; simp; intro _; exact h
  · rw [if_neg h]; simp; intro h'; omega

theorem FnExactFillAt : laws_FnExactFillAt.Pure := by
  intro a0 a1 a2 a3 _ _ _ _
  simp only [laws_FnExactFillAt.f, spec_FillAt.f, spec_l07Ticks.f, impl_FillAt.f, impl_areTicks.f, spec_l07Fill.f, l00In_eq, within_eq, Option.bind_some]
  by_cases h0 : 2 ≤ a0 ∧ a0 ≤ 1000
  · by_cases h1 : 2 ≤ a1 ∧ a1 ≤ 1000
    · have e0 : ¬ a0 = 0 := by omega
      have e1 : ¬ a1 = 0 := by omega
      by_cases h2 : 0 ≤ a2 ∧ a2 ≤ 64
      · by_cases h3 : 0 ≤ a3 ∧ a3 ≤ 1000000
        · simp [h0, h1, h2, h3, e0, e1]
        · simp [h0, h1, h2, h3, e0, e1]
      · simp [h0, h1, h2]
    · simp [h0, h1]
  · simp [h0]

end Go.Proofs.Ytjldjmdelbpjgaa.Pure
