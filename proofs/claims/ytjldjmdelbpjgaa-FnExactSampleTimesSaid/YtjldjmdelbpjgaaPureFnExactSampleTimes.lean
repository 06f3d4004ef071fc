/- The law FnExactSampleTimes of the given program holds: for every input that the row lets in the call returns true and leaves its arguments as they were. No condition ahead of it. -/
import Derived.Test.YtjldjmdelbpjgaaPFnExactSampleTimesx2
import Derived.Test.YtjldjmdelbpjgaaMine
namespace Go.Proofs.Ytjldjmdelbpjgaa.Pure
open Go.RowKit Go.Proofs.Ytjldjmdelbpjgaa.PFnExactSampleTimes Go.Proofs.YtjldjmdelbpjgaaW.PrintWords Go.Proofs.YtjldjmdelbpjgaaW.PrintLast Go.Proofs.YtjldjmdelbpjgaaW.PrintMore Go.Proofs.Ytjldjmdelbpjgaa.Mine
set_option linter.unusedVariables false
set_option linter.unusedSimpArgs false
theorem l00In_eq (a b c : Int) : spec_l00In.f a b c = some (decide (b ≤ a ∧ a ≤ c)) := by
  unfold spec_l00In.f; by_cases h : a ≥ b
  · rw [if_pos h]; simp; intro _; exact h
  · rw [if_neg h]; simp; intro h'; omega
theorem within_eq (a b c : Int) : impl_within.f a b c = some (decide (b ≤ a ∧ a ≤ c)) := by
  unfold impl_within.f; by_cases h : a ≥ b
  · rw [if_pos h]; simp; intro _; exact h
  · rw [if_neg h]; simp; intro h'; omega

theorem ticks_eq (a : Int) : spec_l07Ticks.f a = some (decide (2 ≤ a ∧ a ≤ 1000)) := by
  simp only [spec_l07Ticks.f, l00In_eq, Option.bind_some]
theorem areTicks_eq (a b : Int) : impl_areTicks.f a b = some (decide ((2 ≤ a ∧ a ≤ 1000) ∧ (2 ≤ b ∧ b ≤ 1000))) := by
  simp only [impl_areTicks.f, within_eq, Option.bind_some]
  by_cases h0 : 2 ≤ a ∧ a ≤ 1000 <;> by_cases h1 : 2 ≤ b ∧ b ≤ 1000 <;> simp [h0, h1]

theorem eqInt64S_loop (l : List Int) (hl : (l.length : Int) ≤ 4611686018427387904) (d : Nat) : ∀ i : Int, 0 ≤ i → i ≤ l.length → (l.length : Int) - i = d → Ev (fun k => laws_eqInt64S.l0 k l l i) true := by
  induction d with
  | zero =>
    intro i h0 h1 hd
    refine Ev_succ ?_
    simp only [laws_eqInt64S.l0, if_neg (show ¬ i < (l.length : Int) by omega)]
    exact Ev.now _
  | succ d ih =>
    intro i h0 h1 hd
    refine Ev_succ ?_
    simp (disch := omega) only [laws_eqInt64S.l0, w64]
    simp only [if_pos (show i < (l.length : Int) by omega), if_pos h0, if_true]
    exact ih (i + 1) (by omega) (by omega) (by omega)
theorem eqInt64S_self (l : List Int) (hl : (l.length : Int) ≤ 4611686018427387904) : Ev (fun k => laws_eqInt64S.f k l l) true := by
  simp only [laws_eqInt64S.f, if_true]
  exact eqInt64S_loop l hl l.length 0 (by omega) (by omega) (by omega)

theorem rd_set (l : List Int) (i j v : Int) (hi : 0 ≤ i) (hil : i < l.length) (hj : 0 ≤ j) : rd (l.set i.toNat v) j = if j = i then v else rd l j := by
  unfold rd
  by_cases e : j = i
  · subst e; rw [if_pos rfl, List.getD_eq_getElem?_getD, List.getElem?_set_self (by omega)]; rfl
  · rw [if_neg e, List.getD_eq_getElem?_getD, List.getElem?_set_ne (by omega), List.getD_eq_getElem?_getD]

theorem markInt64S_loop (n : Int) (hn : n ≤ 4611686018427387904) (d : Nat) : ∀ (l : List Int) (i : Int), (l.length : Int) = n → 0 ≤ i → i ≤ n → n - i = d → (∀ j, 0 ≤ j → j < i → rd l j = 1 + j) →
    ∃ m, Ev (fun k => laws_markInt64S.l0 k l (1 + i) i) (1 + n, m) ∧ (m.length : Int) = n ∧ ∀ j, 0 ≤ j → j < n → rd m j = 1 + j := by
  induction d with
  | zero =>
    intro l i hl h0 h1 hd hp
    obtain rfl : i = n := by omega
    refine ⟨l, Ev_succ ?_, hl, hp⟩
    simp only [laws_markInt64S.l0, if_neg (show ¬ i < (l.length : Int) by omega)]
    exact Ev.now _
  | succ d ih =>
    intro l i hl h0 h1 hd hp
    obtain ⟨m, hm, g⟩ := ih (l.set i.toNat (1 + i)) (i + 1) (by rw [List.length_set]; exact hl) (by omega) (by omega) (by omega) (fun j g0 g1 => by
      rw [rd_set l i j _ h0 (by omega) g0]
      by_cases e : j = i
      · rw [if_pos e, e]
      · rw [if_neg e]; exact hp j g0 (by omega))
    refine ⟨m, Ev_succ ?_, g⟩
    simp (disch := omega) only [laws_markInt64S.l0, w64]
    simp only [if_pos (show i < (l.length : Int) by omega), if_pos h0]
    rw [show 1 + i + 1 = 1 + (i + 1) by omega]
    exact hm
theorem markInt64S_ev (l : List Int) (hn : (l.length : Int) ≤ 4611686018427387904) :
    ∃ m, Ev (fun k => laws_markInt64S.f k l 1) (1 + (l.length : Int), m) ∧ m.length = l.length ∧ ∀ j, 0 ≤ j → j < (l.length : Int) → rd m j = 1 + j := by
  obtain ⟨m, h, h1, h2⟩ := markInt64S_loop l.length hn l.length l 0 rfl (by omega) (by omega) (by omega) (fun j _ _ => by omega)
  exact ⟨m, h, by omega, h2⟩
theorem heldInt64S_loop (m : List Int) (hn : (m.length : Int) ≤ 4611686018427387904) (hp : ∀ j, 0 ≤ j → j < (m.length : Int) → rd m j = 1 + j) (d : Nat) : ∀ i : Int, 0 ≤ i → i ≤ m.length → (m.length : Int) - i = d →
    Ev (fun k => laws_heldInt64S.l0 k m (1 + i) i) (1 + (m.length : Int)) := by
  induction d with
  | zero =>
    intro i h0 h1 hd
    have e : i = (m.length : Int) := by omega
    refine Ev_succ ?_
    simp only [laws_heldInt64S.l0, if_neg (show ¬ i < (m.length : Int) by omega)]
    rw [e]
    exact Ev.now _
  | succ d ih =>
    intro i h0 h1 hd
    refine Ev_succ ?_
    simp (disch := omega) only [laws_heldInt64S.l0, w64]
    simp only [if_pos (show i < (m.length : Int) by omega), if_pos h0, if_pos (hp i h0 (by omega))]
    rw [show 1 + i + 1 = 1 + (i + 1) by omega]
    exact ih (i + 1) (by omega) (by omega) (by omega)
theorem heldInt64S_ev (m : List Int) (hn : (m.length : Int) ≤ 4611686018427387904) (hp : ∀ j, 0 ≤ j → j < (m.length : Int) → rd m j = 1 + j) :
    Ev (fun k => laws_heldInt64S.f k m 1) (1 + (m.length : Int)) :=
  heldInt64S_loop m hn hp m.length 0 (by omega) (by omega) (by omega)

theorem sample_loops (t n : Int) (ht : 2 ≤ t ∧ t ≤ 1000) (hn : n ≤ 100) (d : Nat) : ∀ (l : List Int) (i : Int), 0 ≤ i → i ≤ n → n - i = d → (l.length : Int) = i →
    ∃ r, (r.length : Int) = n ∧ Ev (fun k => spec_SampleTimes.l0 k t n l i) (r, true) ∧ Ev (fun k => impl_SampleTimes.l0 k t l n i) (r, true) := by
  induction d with
  | zero =>
    intro l i h0 h1 hd hl
    obtain rfl : i = n := by omega
    refine ⟨l, hl, Ev_succ ?_, Ev_succ ?_⟩
    · simp only [spec_SampleTimes.l0, if_neg (Int.lt_irrefl i)]
      exact Ev.now _
    · simp only [impl_SampleTimes.l0, if_neg (Int.lt_irrefl i)]
      exact Ev.now _
  | succ d ih =>
    intro l i h0 h1 hd hl
    obtain ⟨b1, b2⟩ := mb (a := 2 * i + 1) (b := t) (A := 203) (B := 1000) (by omega) (by omega) (by omega) (by omega)
    obtain ⟨r, hr, hs, hi⟩ := ih (l ++ [(2 * i + 1) * t]) (i + 1) (by omega) (by omega) (by omega) (by simp; omega)
    refine ⟨r, hr, Ev_succ ?_, Ev_succ ?_⟩
    · simp (disch := omega) only [spec_SampleTimes.l0, w64]
      simp only [if_pos (show i < n by omega), if_pos (show l.length < 17592186044416 by omega)]
      exact hs
    · simp (disch := omega) only [impl_SampleTimes.l0, w64]
      simp only [if_pos (show i < n by omega), if_pos (show l.length < 17592186044416 by omega)]
      exact hi
theorem sample_both (s t n : Int) : ∃ r, (r.1.length : Int) ≤ 100 ∧ Ev (fun k => spec_SampleTimes.f k s t n) r ∧ Ev (fun k => impl_SampleTimes.f k s t n) r := by
  by_cases h : (2 ≤ s ∧ s ≤ 1000) ∧ (2 ≤ t ∧ t ≤ 1000) ∧ (0 ≤ n ∧ n ≤ 100)
  · obtain ⟨h0, h1, h2⟩ := h
    obtain ⟨r, hr, hs, hi⟩ := sample_loops t n h1 h2.2 n.toNat [] 0 (by omega) (by omega) (by omega) (by simp)
    refine ⟨(r, true), (by show (r.length : Int) ≤ 100; omega), ?_, ?_⟩
    · simp only [spec_SampleTimes.f, ticks_eq, l00In_eq, Option.bind_some, h0, h1, h2, and_self, decide_true, if_true]
      refine Ev_succ ?_
      simpa [spec_SampleTimes.j0] using hs
    · simp only [impl_SampleTimes.f, areTicks_eq, within_eq, Option.bind_some, h0, h1, h2, and_self, decide_true, if_true]
      refine Ev_succ ?_
      simpa [impl_SampleTimes.j0] using hi
  · refine ⟨([], false), by simp, ?_, ?_⟩
    · have J : Ev (fun k => spec_SampleTimes.j0 k t n true) ([], false) := by
        refine Ev_succ ?_
        simpa [spec_SampleTimes.j0] using Ev.now _
      simp only [spec_SampleTimes.f, ticks_eq, l00In_eq, Option.bind_some]
      by_cases h0 : 2 ≤ s ∧ s ≤ 1000
      · by_cases h1 : 2 ≤ t ∧ t ≤ 1000
        · have h2 : ¬ (0 ≤ n ∧ n ≤ 100) := fun g => h ⟨h0, h1, g⟩
          simp only [h0, h1, h2, and_self, decide_true, decide_false, if_true, Bool.not_false]; exact J
        · simp only [h0, h1, and_self, decide_true, decide_false, if_true, Bool.false_eq_true, if_false]; exact J
      · simp only [h0, decide_false, Bool.false_eq_true, if_false]; exact J
    · have J : Ev (fun k => impl_SampleTimes.j0 k t n true) ([], false) := by
        refine Ev_succ ?_
        simpa [impl_SampleTimes.j0] using Ev.now _
      simp only [impl_SampleTimes.f, areTicks_eq, within_eq, Option.bind_some]
      by_cases h0 : (2 ≤ s ∧ s ≤ 1000) ∧ (2 ≤ t ∧ t ≤ 1000)
      · have h2 : ¬ (0 ≤ n ∧ n ≤ 100) := fun g => h ⟨h0.1, h0.2, g⟩
        simp only [h0, h2, and_self, decide_true, decide_false, if_true, Bool.not_false]; exact J
      · simp only [h0, decide_false, Bool.false_eq_true, if_false]; exact J
theorem FnExactSampleTimes : laws_FnExactSampleTimes.Pure := by
  intro s t n _ _ _
  apply Ev.rounds
  obtain ⟨⟨r, ok⟩, hl, hs, hi⟩ := sample_both s t n
  simp only at hl
  obtain ⟨m, hm, hml, hmp⟩ := markInt64S_ev r (by omega)
  have hh := heldInt64S_ev m (by omega) (fun j h0 h1 => hmp j h0 (by omega))
  rw [hml] at hh
  have he := eqInt64S_self r (by omega)
  have g1 : ¬ (1 + (r.length : Int) < 0) := by omega
  simp only [laws_FnExactSampleTimes.f]
  refine Ev.bind hs (Ev.bind hi (Ev.bind he ?_))
  simp only [if_true, bne_self_eq_false]
  refine Ev_succ ?_
  simp only [laws_FnExactSampleTimes.j0, Bool.false_eq_true, if_false]
  refine Ev.bind hm (Ev.bind hh ?_)
  simp only [if_neg g1, if_true]
  refine Ev.bind hi (Ev.bind he ?_)
  simp only [if_true, bne_self_eq_false]
  refine Ev_succ ?_
  simp only [laws_FnExactSampleTimes.j1, Bool.false_eq_true, if_false]
  refine Ev.bind hh ?_
  simp only [if_neg g1, if_true]
  exact Ev.now _

end Go.Proofs.Ytjldjmdelbpjgaa.Pure
