/- The law FnExactEdgesOf of the given program holds: for every input that the row lets in the call returns true and leaves its arguments as they were. No condition ahead of it. -/
import Derived.Test.YtbienjnkjeaeiaaDoorPFnExactEdgesOfx2
import Derived.Test.YtbienjnkjeaeiaaDoorMine
namespace Go.Proofs.YtbienjnkjeaeiaaDoor.Pure
open Go.RowKit Go.Proofs.YtbienjnkjeaeiaaDoor.PFnExactEdgesOf Go.Proofs.YtbienjnkjeaeiaaDoorW.PrintWords Go.Proofs.YtbienjnkjeaeiaaDoorW.PrintLast Go.Proofs.YtbienjnkjeaeiaaDoorW.PrintMore Go.Proofs.YtbienjnkjeaeiaaDoor.Mine
set_option linter.unusedVariables false
set_option linter.unusedSimpArgs false
def AllBit (s : ByteArray) : Prop := ∀ i : Int, 0 ≤ i → i < s.size → bt s i = 48 ∨ bt s i = 49
def IsBitS (s : ByteArray) : Prop := AllBit s ∧ (s.size : Int) ≤ 400
theorem bt_list (s : ByteArray) (i : Nat) (h : i < s.size) : bt s i = ((s.data.toList[i]'(by simpa using h)).toNat : Int) := by
  unfold bt
  simp only [Int.toNat_natCast, h, dif_pos]
  rfl
theorem dropWhile_nil (p : UInt8 → Bool) : ∀ l : List UInt8, l.dropWhile p = [] ↔ ∀ b ∈ l, p b = true
  | [] => by simp
  | x :: l => by
    rw [List.dropWhile_cons]
    cases h : p x with
    | true => simp [h, dropWhile_nil p l]
    | false => simp [h]
theorem trim_empty (l : List UInt8) : (Lib.trimS l [48, 49]).isEmpty = true ↔ ∀ b ∈ l, b = 48 ∨ b = 49 := by
  have key : ∀ p : UInt8 → Bool, List.dropWhile p (List.dropWhile p l.reverse).reverse = [] ↔ ∀ b ∈ l, p b = true := by
    intro p
    rw [dropWhile_nil]
    constructor
    · intro h
      by_cases e : List.dropWhile p l.reverse = []
      · have := (dropWhile_nil p _).1 e
        exact fun b hb => this b (by simpa using hb)
      · have hh := List.head_dropWhile_not p e
        have h3 := h ((List.dropWhile p l.reverse).head e) (by simp)
        rw [hh] at h3
        cases h3
    · intro h b hb
      have : List.dropWhile p l.reverse = [] := (dropWhile_nil p _).2 (fun b hb => h b (by simpa using hb))
      rw [this] at hb
      simp at hb
  unfold Lib.trimS Lib.trimRightS Lib.trimLeftS
  rw [List.isEmpty_iff, key]
  simp
theorem areBits_ev (s : ByteArray) (hs : s.size ≤ 140737488351232) : ∃ b, impl_areBits.f s = some b ∧ (b = true ↔ AllBit s) := by
  refine ⟨(Lib.trimS s.data.toList [48, 49]).isEmpty, by unfold impl_areBits.f; rw [if_pos (by omega)], ?_⟩
  rw [trim_empty]
  constructor
  · intro h i h0 h1
    obtain ⟨n, rfl⟩ : ∃ n : Nat, i = n := ⟨i.toNat, by omega⟩
    rw [bt_list s n (by omega)]
    rcases h _ (List.getElem_mem (l := s.data.toList) (n := n) (by simp; omega)) with e | e <;> rw [e]
    · exact Or.inl rfl
    · exact Or.inr rfl
  · intro h b hb
    obtain ⟨n, hn, rfl⟩ := List.getElem_of_mem hb
    have hn' : n < s.size := by simpa using hn
    have := h n (by omega) (by omega)
    rw [bt_list s n hn'] at this
    rcases this with e | e
    · left; apply UInt8.toNat_inj.1; show s.data.toList[n].toNat = 48; omega
    · right; apply UInt8.toNat_inj.1; show s.data.toList[n].toNat = 49; omega
theorem isBits_ev (s : ByteArray) (hs : s.size ≤ 140737488351232) : ∃ b, impl_IsBits.f s = some b ∧ (b = true ↔ IsBitS s) := by
  obtain ⟨b, hb, hi⟩ := areBits_ev s hs
  simp only [impl_IsBits.f, hb, Option.bind_some, IsBitS]
  by_cases h : (s.size : Int) ≤ 400
  · exact ⟨b, by rw [if_pos h], by rw [hi]; exact ⟨fun g => ⟨g, h⟩, fun g => g.1⟩⟩
  · exact ⟨false, by rw [if_neg h], by simp only [Bool.false_eq_true, false_iff]; exact fun g => h g.2⟩
theorem l01Bits_loop (s : ByteArray) (hs : s.size ≤ 140737488351232) (d : Nat) : ∀ i : Int, 0 ≤ i → i ≤ s.size → (s.size : Int) - i = d → (∀ j, 0 ≤ j → j < i → bt s j = 48 ∨ bt s j = 49) →
    ∃ b, Ev (fun k => spec_l01Bits.l0 k s i) b ∧ (b = true ↔ IsBitS s) := by
  induction d with
  | zero =>
    intro i h0 h1 hd hp
    refine ⟨decide ((s.size : Int) ≤ 400), Ev_succ ?_, ?_⟩
    · simp only [spec_l01Bits.l0, if_neg (show ¬ i < (s.size : Int) by omega)]
      exact Ev.now _
    · rw [decide_eq_true_eq]
      exact ⟨fun h => ⟨fun j j0 j1 => hp j j0 (by omega), h⟩, fun h => h.2⟩
  | succ d ih =>
    intro i h0 h1 hd hp
    have hlt : i < (s.size : Int) := by omega
    by_cases e : bt s i = 48 ∨ bt s i = 49
    · obtain ⟨b, hb, hi⟩ := ih (i + 1) (by omega) (by omega) (by omega) (fun j j0 j1 => by
        by_cases z : j = i
        · rw [z]; exact e
        · exact hp j j0 (by omega))
      refine ⟨b, Ev_succ ?_, hi⟩
      simp (disch := omega) only [spec_l01Bits.l0, w64]
      rcases e with e | e
      · simp only [if_pos hlt, if_pos h0, if_pos e]; exact hb
      · simp only [if_pos hlt, if_pos h0, e, if_neg (show ¬ (49 : Int) = 48 by omega), if_true]; exact hb
    · refine ⟨false, Ev_succ ?_, ?_⟩
      · simp only [spec_l01Bits.l0, if_pos hlt, if_pos h0, if_neg (fun g => e (Or.inl g)), if_neg (fun g => e (Or.inr g))]
        exact Ev.now _
      · simp only [Bool.false_eq_true, false_iff]
        exact fun g => e (g.1 i h0 hlt)
theorem l01Bits_ev (s : ByteArray) (hs : s.size ≤ 140737488351232) : ∃ b, Ev (fun k => spec_l01Bits.f k s) b ∧ (b = true ↔ IsBitS s) :=
  l01Bits_loop s hs s.size 0 (by omega) (by omega) (by omega) (fun j _ _ => by omega)
theorem bits_same (s : ByteArray) (hs : s.size ≤ 140737488351232) : ∃ b, Ev (fun k => spec_l01Bits.f k s) b ∧ impl_IsBits.f s = some b ∧ (b = true ↔ IsBitS s) := by
  obtain ⟨b, hb, hi⟩ := l01Bits_ev s hs
  obtain ⟨c, hc, hj⟩ := isBits_ev s hs
  have e : c = b := by cases b <;> cases c <;> simp_all
  subst e
  exact ⟨c, hb, hc, hi⟩

theorem edges_loops (s : ByteArray) (hs : (s.size : Int) ≤ 1048576) (d : Nat) : ∀ (l : List Int) (i : Int), 0 ≤ i → i ≤ s.size → (s.size : Int) - i = d → (l.length : Int) ≤ i →
    ∃ r, (r.length : Int) ≤ s.size ∧ Ev (fun k => spec_l07Edges.l0 k s l i) r ∧ Ev (fun k => impl_edges.l0 k s l s.size i) r := by
  induction d with
  | zero =>
    intro l i h0 h1 hd hl
    refine ⟨l, by omega, Ev_succ ?_, Ev_succ ?_⟩
    · simp only [spec_l07Edges.l0, if_neg (show ¬ i < (s.size : Int) by omega)]; exact Ev.now _
    · simp only [impl_edges.l0, if_neg (show ¬ i < (s.size : Int) by omega)]; exact Ev.now _
  | succ d ih =>
    intro l i h0 h1 hd hl
    have hlt : i < (s.size : Int) := by omega
    have hroom : l.length < 17592186044416 := by omega
    by_cases z : i = 0
    · obtain ⟨r, hr, hA, hB⟩ := ih (l ++ [i]) (i + 1) (by omega) (by omega) (by omega) (by simp; omega)
      refine ⟨r, hr, Ev_succ ?_, Ev_succ ?_⟩
      · simp (disch := omega) only [spec_l07Edges.l0, w64]
        simp only [if_pos hlt, if_pos z, if_pos hroom]; exact hA
      · simp (disch := omega) only [impl_edges.l0, w64]
        simp only [if_pos hlt, if_pos z, if_pos hroom]; exact hB
    · by_cases e : bt s i = bt s (i - 1)
      · obtain ⟨r, hr, hA, hB⟩ := ih l (i + 1) (by omega) (by omega) (by omega) (by omega)
        refine ⟨r, hr, Ev_succ ?_, Ev_succ ?_⟩
        · simp (disch := omega) only [spec_l07Edges.l0, w64]
          simp only [if_pos hlt, if_neg z, if_pos h0, if_pos (show 0 ≤ i - 1 by omega), if_pos (show i - 1 < (s.size : Int) by omega), if_pos e]; exact hA
        · simp (disch := omega) only [impl_edges.l0, w64]
          simp only [if_pos hlt, if_neg z, if_pos h0, if_pos (show 0 ≤ i - 1 by omega), if_pos (show i - 1 < (s.size : Int) by omega), if_pos e]; exact hB
      · obtain ⟨r, hr, hA, hB⟩ := ih (l ++ [i]) (i + 1) (by omega) (by omega) (by omega) (by simp; omega)
        refine ⟨r, hr, Ev_succ ?_, Ev_succ ?_⟩
        · simp (disch := omega) only [spec_l07Edges.l0, w64]
          simp only [if_pos hlt, if_neg z, if_pos h0, if_pos (show 0 ≤ i - 1 by omega), if_pos (show i - 1 < (s.size : Int) by omega), if_neg e, if_pos hroom]; exact hA
        · simp (disch := omega) only [impl_edges.l0, w64]
          simp only [if_pos hlt, if_neg z, if_pos h0, if_pos (show 0 ≤ i - 1 by omega), if_pos (show i - 1 < (s.size : Int) by omega), if_neg e, if_pos hroom]; exact hB
theorem edges_both (s : ByteArray) (hs : (s.size : Int) ≤ 1048576) : ∃ r, (r.length : Int) ≤ s.size ∧ Ev (fun k => spec_l07Edges.f k s) r ∧ Ev (fun k => impl_edges.f k s) r :=
  edges_loops s hs s.size [] 0 (by omega) (by omega) (by omega) (by simp)

theorem eqInt64S_loop (l : List Int) (hl : (l.length : Int) ≤ 4611686018427387904) (d : Nat) : ∀ i : Int, 0 ≤ i → i ≤ l.length → (l.length : Int) - i = d → Ev (fun k => laws_eqInt64S.l0 k l l i) true := by
  induction d with
  | zero =>
    intro i h0 h1 hd
    refine Ev_succ ?_
    simp only [laws_eqInt64S.l0, if_neg (show ¬ i < (l.length : Int) by omega)]
    exact Ev.now _
  | succ d ih =>
    intro i h0 h1 hd
    refine Ev_succ ?_
    simp (disch := omega) only [laws_eqInt64S.l0, w64]
    simp only [if_pos (show i < (l.length : Int) by omega), if_pos h0, if_true]
    exact ih (i + 1) (by omega) (by omega) (by omega)
theorem eqInt64S_self (l : List Int) (hl : (l.length : Int) ≤ 4611686018427387904) : Ev (fun k => laws_eqInt64S.f k l l) true := by
  simp only [laws_eqInt64S.f, if_true]
  exact eqInt64S_loop l hl l.length 0 (by omega) (by omega) (by omega)

theorem rd_set (l : List Int) (i j v : Int) (hi : 0 ≤ i) (hil : i < l.length) (hj : 0 ≤ j) : rd (l.set i.toNat v) j = if j = i then v else rd l j := by
  unfold rd
  by_cases e : j = i
  · subst e; rw [if_pos rfl, List.getD_eq_getElem?_getD, List.getElem?_set_self (by omega)]; rfl
  · rw [if_neg e, List.getD_eq_getElem?_getD, List.getElem?_set_ne (by omega), List.getD_eq_getElem?_getD]

theorem markInt64S_loop (n : Int) (hn : n ≤ 4611686018427387904) (d : Nat) : ∀ (l : List Int) (i : Int), (l.length : Int) = n → 0 ≤ i → i ≤ n → n - i = d → (∀ j, 0 ≤ j → j < i → rd l j = 1 + j) →
    ∃ m, Ev (fun k => laws_markInt64S.l0 k l (1 + i) i) (1 + n, m) ∧ (m.length : Int) = n ∧ ∀ j, 0 ≤ j → j < n → rd m j = 1 + j := by
  induction d with
  | zero =>
    intro l i hl h0 h1 hd hp
    obtain rfl : i = n := by omega
    refine ⟨l, Ev_succ ?_, hl, hp⟩
    simp only [laws_markInt64S.l0, if_neg (show ¬ i < (l.length : Int) by omega)]
    exact Ev.now _
  | succ d ih =>
    intro l i hl h0 h1 hd hp
    obtain ⟨m, hm, g⟩ := ih (l.set i.toNat (1 + i)) (i + 1) (by rw [List.length_set]; exact hl) (by omega) (by omega) (by omega) (fun j g0 g1 => by
      rw [rd_set l i j _ h0 (by omega) g0]
      by_cases e : j = i
      · rw [if_pos e, e]
      · rw [if_neg e]; exact hp j g0 (by omega))
    refine ⟨m, Ev_succ ?_, g⟩
    simp (disch := omega) only [laws_markInt64S.l0, w64]
    simp only [if_pos (show i < (l.length : Int) by omega), if_pos h0]
    rw [show 1 + i + 1 = 1 + (i + 1) by omega]
    exact hm
theorem markInt64S_ev (l : List Int) (hn : (l.length : Int) ≤ 4611686018427387904) :
    ∃ m, Ev (fun k => laws_markInt64S.f k l 1) (1 + (l.length : Int), m) ∧ m.length = l.length ∧ ∀ j, 0 ≤ j → j < (l.length : Int) → rd m j = 1 + j := by
  obtain ⟨m, h, h1, h2⟩ := markInt64S_loop l.length hn l.length l 0 rfl (by omega) (by omega) (by omega) (fun j _ _ => by omega)
  exact ⟨m, h, by omega, h2⟩
theorem heldInt64S_loop (m : List Int) (hn : (m.length : Int) ≤ 4611686018427387904) (hp : ∀ j, 0 ≤ j → j < (m.length : Int) → rd m j = 1 + j) (d : Nat) : ∀ i : Int, 0 ≤ i → i ≤ m.length → (m.length : Int) - i = d →
    Ev (fun k => laws_heldInt64S.l0 k m (1 + i) i) (1 + (m.length : Int)) := by
  induction d with
  | zero =>
    intro i h0 h1 hd
    have e : i = (m.length : Int) := by omega
    refine Ev_succ ?_
    simp only [laws_heldInt64S.l0, if_neg (show ¬ i < (m.length : Int) by omega)]
    rw [e]
    exact Ev.now _
  | succ d ih =>
    intro i h0 h1 hd
    refine Ev_succ ?_
    simp (disch := omega) only [laws_heldInt64S.l0, w64]
    simp only [if_pos (show i < (m.length : Int) by omega), if_pos h0, if_pos (hp i h0 (by omega))]
    rw [show 1 + i + 1 = 1 + (i + 1) by omega]
    exact ih (i + 1) (by omega) (by omega) (by omega)
theorem heldInt64S_ev (m : List Int) (hn : (m.length : Int) ≤ 4611686018427387904) (hp : ∀ j, 0 ≤ j → j < (m.length : Int) → rd m j = 1 + j) :
    Ev (fun k => laws_heldInt64S.f k m 1) (1 + (m.length : Int)) :=
  heldInt64S_loop m hn hp m.length 0 (by omega) (by omega) (by omega)

theorem edgesOf_both (s : ByteArray) (hs : (s.size : Int) ≤ 1048576) : ∃ r, (r.1.length : Int) ≤ 1048576 ∧ Ev (fun k => spec_EdgesOf.f k s) r ∧ Ev (fun k => impl_EdgesOf.f k s) r := by
  obtain ⟨b, hb, hc, hi⟩ := bits_same s (by omega)
  cases b with
  | true =>
    obtain ⟨r, hr, hA, hB⟩ := edges_both s hs
    refine ⟨(r, true), (by show (r.length : Int) ≤ 1048576; omega), ?_, ?_⟩
    · simp only [spec_EdgesOf.f]
      refine Ev.bind hb ?_
      simp only [if_true]
      exact Ev.bind hA (Ev.now _)
    · simp only [impl_EdgesOf.f, hc, Option.bind_some, if_true]
      exact Ev.bind hB (Ev.now _)
  | false =>
    refine ⟨([], false), by simp, ?_, ?_⟩
    · simp only [spec_EdgesOf.f]
      refine Ev.bind hb ?_
      simp only [Bool.false_eq_true, if_false]
      exact Ev.now _
    · simp only [impl_EdgesOf.f, hc, Option.bind_some, Bool.false_eq_true, if_false]
      exact Ev.now _
theorem FnExactEdgesOf : laws_FnExactEdgesOf.Pure := by
  intro s _
  apply Ev.rounds
  simp only [laws_FnExactEdgesOf.f]
  by_cases hbig : (s.size : Int) > 1048576
  · simp only [if_pos hbig]; exact Ev.now _
  simp only [if_neg hbig]
  obtain ⟨⟨r, ok⟩, hl, hs, hi⟩ := edgesOf_both s (by omega)
  simp only at hl
  obtain ⟨m, hm, hml, hmp⟩ := markInt64S_ev r (by omega)
  have hh := heldInt64S_ev m (by omega) (fun j h0 h1 => hmp j h0 (by omega))
  rw [hml] at hh
  have he := eqInt64S_self r (by omega)
  have g1 : ¬ (1 + (r.length : Int) < 0) := by omega
  refine Ev.bind hs (Ev.bind hi (Ev.bind he ?_))
  simp only [if_true, bne_self_eq_false]
  refine Ev_succ ?_
  simp only [laws_FnExactEdgesOf.j0, Bool.false_eq_true, if_false]
  refine Ev.bind hm (Ev.bind hh ?_)
  simp only [if_neg g1, if_true]
  refine Ev.bind hi (Ev.bind he ?_)
  simp only [if_true, bne_self_eq_false]
  refine Ev_succ ?_
  simp only [laws_FnExactEdgesOf.j1, Bool.false_eq_true, if_false]
  refine Ev.bind hh ?_
  simp only [if_neg g1, if_true]
  exact Ev.now _

end Go.Proofs.YtbienjnkjeaeiaaDoor.Pure
