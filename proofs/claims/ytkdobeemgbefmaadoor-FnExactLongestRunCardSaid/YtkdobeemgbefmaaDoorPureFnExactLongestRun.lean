/- The law FnExactLongestRun of the given program holds: for every input that the row lets in the call returns true and leaves its arguments as they were. No condition ahead of it. -/
import Derived.Test.YtkdobeemgbefmaaDoorPFnExactLongestRunx2
import Derived.Test.YtkdobeemgbefmaaDoorMine
namespace Go.Proofs.YtkdobeemgbefmaaDoor.Pure
open Go.RowKit Go.Proofs.YtkdobeemgbefmaaDoor.PFnExactLongestRun Go.Proofs.YtkdobeemgbefmaaDoorW.PrintWords Go.Proofs.YtkdobeemgbefmaaDoorW.PrintLast Go.Proofs.YtkdobeemgbefmaaDoorW.PrintMore Go.Proofs.YtkdobeemgbefmaaDoor.Mine
set_option linter.unusedVariables false
set_option linter.unusedSimpArgs false
theorem l00In_eq (a b c : Int) : spec_l00In.f a b c = some (decide (b ≤ a ∧ a ≤ c)) := by
  unfold spec_l00In.f; by_cases h : a ≥ b
  · rw [if_pos h]; simp; intro _; exact h
  · rw [if_neg h]; simp; intro h'; omega
theorem within_eq (a b c : Int) : impl_within.f a b c = some (decide (b ≤ a ∧ a ≤ c)) := by
  unfold impl_within.f; by_cases h : a ≥ b
  · rw [if_pos h]; simp; intro _; exact h
  · rw [if_neg h]; simp; intro h'; omega

def StOk (a b : Int) : Prop := (1 ≤ a ∧ a ≤ 10) ∧ (0 ≤ b ∧ b ≤ 1)
theorem l04Is_eq (a b : Int) : ∃ c, spec_l04Is.f a b = some c ∧ impl_ValidStuffer.f a b = some c ∧ (c = true ↔ StOk a b) := by
  simp only [spec_l04Is.f, impl_ValidStuffer.f, l00In_eq, within_eq, Option.bind_some, StOk]
  by_cases h0 : 1 ≤ a ∧ a ≤ 10
  · by_cases h1 : 0 ≤ b ∧ b ≤ 1
    · exact ⟨true, by simp [h0, h1], by simp [h0, h1], by simp [h0, h1]⟩
    · exact ⟨false, by simp [h0, h1], by simp [h0, h1], by simp [h0, h1]⟩
  · exact ⟨false, by simp [h0], by simp [h0], by simp [h0]⟩
theorem toStuffer_eq (a b : Int) : laws_toStuffer.f a b = some (a, b) := by simp [laws_toStuffer.f]

def AllBit (s : ByteArray) : Prop := ∀ i : Int, 0 ≤ i → i < s.size → bt s i = 48 ∨ bt s i = 49
def IsBitS (s : ByteArray) : Prop := AllBit s ∧ (s.size : Int) ≤ 400
theorem bt_list (s : ByteArray) (i : Nat) (h : i < s.size) : bt s i = ((s.data.toList[i]'(by simpa using h)).toNat : Int) := by
  unfold bt
  simp only [Int.toNat_natCast, h, dif_pos]
  rfl
theorem dropWhile_nil (p : UInt8 → Bool) : ∀ l : List UInt8, l.dropWhile p = [] ↔ ∀ b ∈ l, p b = true
  | [] => by simp
  | x :: l => by
    rw [List.dropWhile_cons]
    cases h : p x with
    | true => simp [h, dropWhile_nil p l]
    | false => simp [h]
theorem trim_empty (l : List UInt8) : (Lib.trimS l [48, 49]).isEmpty = true ↔ ∀ b ∈ l, b = 48 ∨ b = 49 := by
  have key : ∀ p : UInt8 → Bool, List.dropWhile p (List.dropWhile p l.reverse).reverse = [] ↔ ∀ b ∈ l, p b = true := by
    intro p
    rw [dropWhile_nil]
    constructor
    · intro h
      by_cases e : List.dropWhile p l.reverse = []
      · have := (dropWhile_nil p _).1 e
        exact fun b hb => this b (by simpa using hb)
      · have hh := List.head_dropWhile_not p e
        have h3 := h ((List.dropWhile p l.reverse).head e) (by simp)
        rw [hh] at h3
        cases h3
    · intro h b hb
      have : List.dropWhile p l.reverse = [] := (dropWhile_nil p _).2 (fun b hb => h b (by simpa using hb))
      rw [this] at hb
      simp at hb
  unfold Lib.trimS Lib.trimRightS Lib.trimLeftS
  rw [List.isEmpty_iff, key]
  simp
theorem areBits_ev (s : ByteArray) (hs : s.size ≤ 140737488351232) : ∃ b, impl_areBits.f s = some b ∧ (b = true ↔ AllBit s) := by
  refine ⟨(Lib.trimS s.data.toList [48, 49]).isEmpty, by unfold impl_areBits.f; rw [if_pos (by omega)], ?_⟩
  rw [trim_empty]
  constructor
  · intro h i h0 h1
    obtain ⟨n, rfl⟩ : ∃ n : Nat, i = n := ⟨i.toNat, by omega⟩
    rw [bt_list s n (by omega)]
    rcases h _ (List.getElem_mem (l := s.data.toList) (n := n) (by simp; omega)) with e | e <;> rw [e]
    · exact Or.inl rfl
    · exact Or.inr rfl
  · intro h b hb
    obtain ⟨n, hn, rfl⟩ := List.getElem_of_mem hb
    have hn' : n < s.size := by simpa using hn
    have := h n (by omega) (by omega)
    rw [bt_list s n hn'] at this
    rcases this with e | e
    · left; apply UInt8.toNat_inj.1; show s.data.toList[n].toNat = 48; omega
    · right; apply UInt8.toNat_inj.1; show s.data.toList[n].toNat = 49; omega
theorem isBits_ev (s : ByteArray) (hs : s.size ≤ 140737488351232) : ∃ b, impl_IsBits.f s = some b ∧ (b = true ↔ IsBitS s) := by
  obtain ⟨b, hb, hi⟩ := areBits_ev s hs
  simp only [impl_IsBits.f, hb, Option.bind_some, IsBitS]
  by_cases h : (s.size : Int) ≤ 400
  · exact ⟨b, by rw [if_pos h], by rw [hi]; exact ⟨fun g => ⟨g, h⟩, fun g => g.1⟩⟩
  · exact ⟨false, by rw [if_neg h], by simp only [Bool.false_eq_true, false_iff]; exact fun g => h g.2⟩
theorem l01Bits_loop (s : ByteArray) (hs : s.size ≤ 140737488351232) (d : Nat) : ∀ i : Int, 0 ≤ i → i ≤ s.size → (s.size : Int) - i = d → (∀ j, 0 ≤ j → j < i → bt s j = 48 ∨ bt s j = 49) →
    ∃ b, Ev (fun k => spec_l01Bits.l0 k s i) b ∧ (b = true ↔ IsBitS s) := by
  induction d with
  | zero =>
    intro i h0 h1 hd hp
    refine ⟨decide ((s.size : Int) ≤ 400), Ev_succ ?_, ?_⟩
    · simp only [spec_l01Bits.l0, if_neg (show ¬ i < (s.size : Int) by omega)]
      exact Ev.now _
    · rw [decide_eq_true_eq]
      exact ⟨fun h => ⟨fun j j0 j1 => hp j j0 (by omega), h⟩, fun h => h.2⟩
  | succ d ih =>
    intro i h0 h1 hd hp
    have hlt : i < (s.size : Int) := by omega
    by_cases e : bt s i = 48 ∨ bt s i = 49
    · obtain ⟨b, hb, hi⟩ := ih (i + 1) (by omega) (by omega) (by omega) (fun j j0 j1 => by
        by_cases z : j = i
        · rw [z]; exact e
        · exact hp j j0 (by omega))
      refine ⟨b, Ev_succ ?_, hi⟩
      simp (disch := omega) only [spec_l01Bits.l0, w64]
      rcases e with e | e
      · simp only [if_pos hlt, if_pos h0, if_pos e]; exact hb
      · simp only [if_pos hlt, if_pos h0, e, if_neg (show ¬ (49 : Int) = 48 by omega), if_true]; exact hb
    · refine ⟨false, Ev_succ ?_, ?_⟩
      · simp only [spec_l01Bits.l0, if_pos hlt, if_pos h0, if_neg (fun g => e (Or.inl g)), if_neg (fun g => e (Or.inr g))]
        exact Ev.now _
      · simp only [Bool.false_eq_true, false_iff]
        exact fun g => e (g.1 i h0 hlt)
theorem l01Bits_ev (s : ByteArray) (hs : s.size ≤ 140737488351232) : ∃ b, Ev (fun k => spec_l01Bits.f k s) b ∧ (b = true ↔ IsBitS s) :=
  l01Bits_loop s hs s.size 0 (by omega) (by omega) (by omega) (fun j _ _ => by omega)
theorem bits_same (s : ByteArray) (hs : s.size ≤ 140737488351232) : ∃ b, Ev (fun k => spec_l01Bits.f k s) b ∧ impl_IsBits.f s = some b ∧ (b = true ↔ IsBitS s) := by
  obtain ⟨b, hb, hi⟩ := l01Bits_ev s hs
  obtain ⟨c, hc, hj⟩ := isBits_ev s hs
  have e : c = b := by cases b <;> cases c <;> simp_all
  subst e
  exact ⟨c, hb, hc, hi⟩

theorem l00Max_eq (a b : Int) : spec_l00Max.f a b = some (mx a b) := by
  unfold spec_l00Max.f mx
  by_cases h : a > b
  · rw [if_pos h, if_neg (by omega)]
  · rw [if_neg h]
    by_cases g : a < b
    · rw [if_pos g]
    · rw [if_neg g, show a = b by omega]
theorem mx_eq (a b : Int) : (mx a b = a ∧ b ≤ a) ∨ (mx a b = b ∧ a < b) := by unfold mx; split <;> omega

def FnExactLongestRun_Pure : Prop := ∀ (a0_0 : Int) (a0_1 : Int) (a1 : ByteArray), (Lit.int .i64 a0_0).wf = true → (Lit.int .i64 a0_1).wf = true → a1.size ≤ 140737488351232 → ∃ k, laws_FnExactLongestRun.f k a0_0 a0_1 a1 = some true
theorem run_loops (s : ByteArray) (c0 b : Int) (hs : (s.size : Int) ≤ 1048576) (d : Nat) : ∀ m r i : Int, 0 ≤ m → 0 ≤ r → r ≤ i → 0 ≤ i → i ≤ s.size → (s.size : Int) - i = d →
    ∃ x, Ev (fun k => spec_LongestRun.l0 k s m r i c0 b) x ∧ Ev (fun k => impl_LongestRun.l0 k s m r s.size i c0 b) x := by
  induction d with
  | zero =>
    intro m r i hm hr hri h0 h1 hd
    refine ⟨(m, true), Ev_succ ?_, Ev_succ ?_⟩
    · simp only [spec_LongestRun.l0, if_neg (show ¬ i < (s.size : Int) by omega)]; exact Ev.now _
    · simp only [impl_LongestRun.l0, if_neg (show ¬ i < (s.size : Int) by omega)]; exact Ev.now _
  | succ d ih =>
    intro m r i hm hr hri h0 h1 hd
    have hlt : i < (s.size : Int) := by omega
    by_cases e : (bt s i - 48) % 256 = b
    · have hx := mx_eq m (r + 1)
      obtain ⟨x, hA, hB⟩ := ih (mx m (r + 1)) (r + 1) (i + 1) (by omega) (by omega) (by omega) (by omega) (by omega) (by omega)
      refine ⟨x, Ev_succ ?_, Ev_succ ?_⟩
      · simp (disch := omega) only [spec_LongestRun.l0, w64, l00Max_eq, Option.bind_some]
        simp only [if_pos hlt, if_pos h0, if_pos e]; exact hA
      · simp (disch := omega) only [impl_LongestRun.l0, w64]
        simp only [if_pos hlt, if_pos h0, if_pos e]; exact hB
    · have hx : mx m 0 = m := by have := mx_eq m 0; omega
      obtain ⟨x, hA, hB⟩ := ih m 0 (i + 1) (by omega) (by omega) (by omega) (by omega) (by omega) (by omega)
      refine ⟨x, Ev_succ ?_, Ev_succ ?_⟩
      · simp (disch := omega) only [spec_LongestRun.l0, w64, l00Max_eq, Option.bind_some]
        simp only [if_pos hlt, if_pos h0, if_neg e, hx]; exact hA
      · simp (disch := omega) only [impl_LongestRun.l0, w64]
        simp only [if_pos hlt, if_pos h0, if_neg e]; exact hB
theorem FnExactLongestRun : FnExactLongestRun_Pure := by
  intro a b s _ _ _
  apply Ev.rounds
  simp only [laws_FnExactLongestRun.f]
  by_cases hbig : (s.size : Int) > 1048576
  · simp only [if_pos hbig]; exact Ev.now _
  simp only [if_neg hbig, toStuffer_eq, Option.bind_some]
  obtain ⟨c, h1, h2, -⟩ := l04Is_eq a b
  obtain ⟨q, hb, hc, -⟩ := bits_same s (by omega)
  have E : ∃ r, Ev (fun k => spec_LongestRun.f k a b s) r ∧ Ev (fun k => impl_LongestRun.f k a b s) r := by
    have JA : Ev (fun k => spec_LongestRun.j0 k s true a b) (0, false) := by
      refine Ev_succ ?_
      simp only [spec_LongestRun.j0, if_true]; exact Ev.now _
    have JB : Ev (fun k => impl_LongestRun.j0 k s true a b) (0, false) := by
      refine Ev_succ ?_
      simp only [impl_LongestRun.j0, if_true]; exact Ev.now _
    simp only [spec_LongestRun.f, impl_LongestRun.f, h1, h2, hc, Option.bind_some]
    cases c with
    | false => exact ⟨_, by simpa using JA, by simpa using JB⟩
    | true =>
      cases q with
      | false => exact ⟨_, by simp only [if_true]; exact Ev.bind hb (by simpa using JA), by simpa using JB⟩
      | true =>
        obtain ⟨x, hA, hB⟩ := run_loops s a b (by omega) s.size 0 0 0 (by omega) (by omega) (by omega) (by omega) (by omega) (by omega)
        refine ⟨x, by simp only [if_true]; exact Ev.bind hb (Ev_succ (by simpa [spec_LongestRun.j0] using hA)), ?_⟩
        simp only [if_true, Bool.not_true]
        refine Ev_succ ?_
        simpa [impl_LongestRun.j0] using hB
  obtain ⟨r, hA, hB⟩ := E
  refine Ev.bind hA (Ev.bind hB ?_)
  simpa using Ev.now true

end Go.Proofs.YtkdobeemgbefmaaDoor.Pure
