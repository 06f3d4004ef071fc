/- The law FnExactSpreadOf of the given program holds: for every input that the row lets in the call returns true and leaves its arguments as they were. No condition ahead of it. -/
import Derived.Test.YtkhgmfnmgefpbaaDoorPFnExactSpreadOfx5
import Derived.Test.YtkhgmfnmgefpbaaDoorMine
namespace Go.Proofs.YtkhgmfnmgefpbaaDoor.Pure
open Go.RowKit Go.Proofs.YtkhgmfnmgefpbaaDoor.PFnExactSpreadOf Go.Proofs.YtkhgmfnmgefpbaaDoorW.PrintWords Go.Proofs.YtkhgmfnmgefpbaaDoorW.PrintLast Go.Proofs.YtkhgmfnmgefpbaaDoorW.PrintMore Go.Proofs.YtkhgmfnmgefpbaaDoor.Mine
set_option linter.unusedVariables false
set_option linter.unusedSimpArgs false
theorem rd_set (l : List Int) (i j v : Int) (hi : 0 ≤ i) (hil : i < l.length) (hj : 0 ≤ j) : rd (l.set i.toNat v) j = if j = i then v else rd l j := by
  unfold rd
  by_cases e : j = i
  · subst e; rw [if_pos rfl, List.getD_eq_getElem?_getD, List.getElem?_set_self (by omega)]; rfl
  · rw [if_neg e, List.getD_eq_getElem?_getD, List.getElem?_set_ne (by omega), List.getD_eq_getElem?_getD]

theorem eqInt64S_loop (l : List Int) (hl : (l.length : Int) ≤ 4611686018427387904) (d : Nat) : ∀ i : Int, 0 ≤ i → i ≤ l.length → (l.length : Int) - i = d → Ev (fun k => laws_eqInt64S.l0 k l l i) true := by
  induction d with
  | zero =>
    intro i h0 h1 hd
    refine Ev_succ ?_
    simp only [laws_eqInt64S.l0, if_neg (show ¬ i < (l.length : Int) by omega)]
    exact Ev.now _
  | succ d ih =>
    intro i h0 h1 hd
    refine Ev_succ ?_
    simp (disch := omega) only [laws_eqInt64S.l0, w64]
    simp only [if_pos (show i < (l.length : Int) by omega), if_pos h0, if_true]
    exact ih (i + 1) (by omega) (by omega) (by omega)
theorem eqInt64S_self (l : List Int) (hl : (l.length : Int) ≤ 4611686018427387904) : Ev (fun k => laws_eqInt64S.f k l l) true := by
  simp only [laws_eqInt64S.f, if_true]
  exact eqInt64S_loop l hl l.length 0 (by omega) (by omega) (by omega)

theorem ext_rd (a b : List Int) (h : a.length = b.length) (hp : ∀ j : Int, 0 ≤ j → j < a.length → rd a j = rd b j) : a = b := by
  apply List.ext_getElem h
  intro n h1 h2
  have := hp n (by omega) (by omega)
  unfold rd at this
  rw [List.getD_eq_getElem?_getD, List.getD_eq_getElem?_getD, Int.toNat_natCast, List.getElem?_eq_getElem h1, List.getElem?_eq_getElem h2] at this
  simpa using this
theorem toInt64S_loop (l : List Int) (hl : (l.length : Int) ≤ 4611686018427387904) (d : Nat) : ∀ (m : List Int) (i : Int), m.length = l.length → 0 ≤ i → i ≤ l.length → (l.length : Int) - i = d → (∀ j, 0 ≤ j → j < i → rd m j = rd l j) →
    Ev (fun k => laws_toInt64S.l0 k l m i) l := by
  induction d with
  | zero =>
    intro m i hm h0 h1 hd hp
    refine Ev_succ ?_
    simp only [laws_toInt64S.l0, if_neg (show ¬ i < (l.length : Int) by omega)]
    rw [ext_rd m l hm (fun j j0 j1 => hp j j0 (by omega))]
    exact Ev.now _
  | succ d ih =>
    intro m i hm h0 h1 hd hp
    refine Ev_succ ?_
    simp (disch := omega) only [laws_toInt64S.l0, w64]
    simp only [if_pos (show i < (l.length : Int) by omega), if_pos h0, if_pos (show i < (m.length : Int) by omega)]
    refine ih (m.set i.toNat (rd l i)) (i + 1) (by rw [List.length_set]; exact hm) (by omega) (by omega) (by omega) (fun j j0 j1 => ?_)
    rw [rd_set m i j _ h0 (by omega) j0]
    by_cases e : j = i
    · rw [if_pos e, e]
    · rw [if_neg e]; exact hp j j0 (by omega)
theorem toInt64S_ev (l : List Int) (hl : (l.length : Int) ≤ 1048576) : Ev (fun k => laws_toInt64S.f k l) l := by
  simp only [laws_toInt64S.f, if_pos (show 0 ≤ (l.length : Int) by omega), if_pos (show ((l.length : Int)).toNat ≤ 35184372088832 by omega)]
  exact toInt64S_loop l (by omega) l.length _ 0 (by simp) (by omega) (by omega) (by omega) (fun j _ _ => by omega)
theorem toScr_ev (l : List Int) (s : ByteArray) (hl : (l.length : Int) ≤ 1048576) : Ev (fun k => laws_toScrambler.f k l s) (l, s) := by
  simp only [laws_toScrambler.f]
  exact Ev.bind (toInt64S_ev l hl) (Ev.now _)
theorem eqScr_ev (l : List Int) (s : ByteArray) (hl : (l.length : Int) ≤ 1048576) : Ev (fun k => laws_eqScrambler.f k l s l s) true := by
  simp only [laws_eqScrambler.f]
  refine Ev.bind (eqInt64S_self l (by omega)) ?_
  simp only [if_true]
  exact Ev.now _
theorem szScr (l : List Int) (s : ByteArray) (n : Int) (hn : 0 ≤ n ∧ n ≤ 1048576) (hl : l.length * 8 ≤ 140737488351232) (hs : s.size ≤ 140737488351232) :
    ∃ v, laws_szScrambler.f l s n = some v ∧ (¬ v < 0 → (l.length : Int) + s.size + v ≤ n ∧ v ≤ n) := by
  simp (disch := omega) only [laws_szScrambler.f, laws_szInt64S.f, w64]
  by_cases h : n - (l.length : Int) < 0
  · refine ⟨-1, by simp only [if_pos h, Option.bind_some, if_pos (show (-1 : Int) < 0 by omega)], fun g => absurd (by omega) g⟩
  · simp only [if_neg h, Option.bind_some]
    simp (disch := omega) only [w64]
    by_cases g : n - (l.length : Int) - (s.size : Int) < 0
    · exact ⟨-1, by rw [if_pos g], fun g => absurd (by omega) g⟩
    · exact ⟨n - l.length - s.size, by rw [if_neg g], fun _ => by omega⟩

theorem l00In_eq (a b c : Int) : spec_l00In.f a b c = some (decide (b ≤ a ∧ a ≤ c)) := by
  unfold spec_l00In.f; by_cases h : a ≥ b
  · rw [if_pos h]; simp; intro _; exact h
  · rw [if_neg h]; simp; intro h'; omega
theorem within_eq (a b c : Int) : impl_within.f a b c = some (decide (b ≤ a ∧ a ≤ c)) := by
  unfold impl_within.f; by_cases h : a ≥ b
  · rw [if_pos h]; simp; intro _; exact h
  · rw [if_neg h]; simp; intro h'; omega

def AllBit (s : ByteArray) : Prop := ∀ i : Int, 0 ≤ i → i < s.size → bt s i = 48 ∨ bt s i = 49
def IsBitS (s : ByteArray) : Prop := AllBit s ∧ (s.size : Int) ≤ 400
theorem bt_list (s : ByteArray) (i : Nat) (h : i < s.size) : bt s i = ((s.data.toList[i]'(by simpa using h)).toNat : Int) := by
  unfold bt
  simp only [Int.toNat_natCast, h, dif_pos]
  rfl
theorem dropWhile_nil (p : UInt8 → Bool) : ∀ l : List UInt8, l.dropWhile p = [] ↔ ∀ b ∈ l, p b = true
  | [] => by simp
  | x :: l => by
    rw [List.dropWhile_cons]
    cases h : p x with
    | true => simp [h, dropWhile_nil p l]
    | false => simp [h]
theorem trim_empty (l : List UInt8) : (Lib.trimS l [48, 49]).isEmpty = true ↔ ∀ b ∈ l, b = 48 ∨ b = 49 := by
  have key : ∀ p : UInt8 → Bool, List.dropWhile p (List.dropWhile p l.reverse).reverse = [] ↔ ∀ b ∈ l, p b = true := by
    intro p
    rw [dropWhile_nil]
    constructor
    · intro h
      by_cases e : List.dropWhile p l.reverse = []
      · have := (dropWhile_nil p _).1 e
        exact fun b hb => this b (by simpa using hb)
      · have hh := List.head_dropWhile_not p e
        have h3 := h ((List.dropWhile p l.reverse).head e) (by simp)
        rw [hh] at h3
        cases h3
    · intro h b hb
      have : List.dropWhile p l.reverse = [] := (dropWhile_nil p _).2 (fun b hb => h b (by simpa using hb))
      rw [this] at hb
      simp at hb
  unfold Lib.trimS Lib.trimRightS Lib.trimLeftS
  rw [List.isEmpty_iff, key]
  simp
theorem areBits_ev (s : ByteArray) (hs : s.size ≤ 140737488351232) : ∃ b, impl_areBits.f s = some b ∧ (b = true ↔ AllBit s) := by
  refine ⟨(Lib.trimS s.data.toList [48, 49]).isEmpty, by unfold impl_areBits.f; rw [if_pos (by omega)], ?_⟩
  rw [trim_empty]
  constructor
  · intro h i h0 h1
    obtain ⟨n, rfl⟩ : ∃ n : Nat, i = n := ⟨i.toNat, by omega⟩
    rw [bt_list s n (by omega)]
    rcases h _ (List.getElem_mem (l := s.data.toList) (n := n) (by simp; omega)) with e | e <;> rw [e]
    · exact Or.inl rfl
    · exact Or.inr rfl
  · intro h b hb
    obtain ⟨n, hn, rfl⟩ := List.getElem_of_mem hb
    have hn' : n < s.size := by simpa using hn
    have := h n (by omega) (by omega)
    rw [bt_list s n hn'] at this
    rcases this with e | e
    · left; apply UInt8.toNat_inj.1; show s.data.toList[n].toNat = 48; omega
    · right; apply UInt8.toNat_inj.1; show s.data.toList[n].toNat = 49; omega
theorem l01Bits_loop (s : ByteArray) (hs : s.size ≤ 140737488351232) (d : Nat) : ∀ i : Int, 0 ≤ i → i ≤ s.size → (s.size : Int) - i = d → (∀ j, 0 ≤ j → j < i → bt s j = 48 ∨ bt s j = 49) →
    ∃ b, Ev (fun k => spec_l01Bits.l0 k s i) b ∧ (b = true ↔ IsBitS s) := by
  induction d with
  | zero =>
    intro i h0 h1 hd hp
    refine ⟨decide ((s.size : Int) ≤ 400), Ev_succ ?_, ?_⟩
    · simp only [spec_l01Bits.l0, if_neg (show ¬ i < (s.size : Int) by omega)]
      exact Ev.now _
    · rw [decide_eq_true_eq]
      exact ⟨fun h => ⟨fun j j0 j1 => hp j j0 (by omega), h⟩, fun h => h.2⟩
  | succ d ih =>
    intro i h0 h1 hd hp
    have hlt : i < (s.size : Int) := by omega
    by_cases e : bt s i = 48 ∨ bt s i = 49
    · obtain ⟨b, hb, hi⟩ := ih (i + 1) (by omega) (by omega) (by omega) (fun j j0 j1 => by
        by_cases z : j = i
        · rw [z]; exact e
        · exact hp j j0 (by omega))
      refine ⟨b, Ev_succ ?_, hi⟩
      simp (disch := omega) only [spec_l01Bits.l0, w64]
      rcases e with e | e
      · simp only [if_pos hlt, if_pos h0, if_pos e]; exact hb
      · simp only [if_pos hlt, if_pos h0, e, if_neg (show ¬ (49 : Int) = 48 by omega), if_true]; exact hb
    · refine ⟨false, Ev_succ ?_, ?_⟩
      · simp only [spec_l01Bits.l0, if_pos hlt, if_pos h0, if_neg (fun g => e (Or.inl g)), if_neg (fun g => e (Or.inr g))]
        exact Ev.now _
      · simp only [Bool.false_eq_true, false_iff]
        exact fun g => e (g.1 i h0 hlt)
theorem l01Bits_ev (s : ByteArray) (hs : s.size ≤ 140737488351232) : ∃ b, Ev (fun k => spec_l01Bits.f k s) b ∧ (b = true ↔ IsBitS s) :=
  l01Bits_loop s hs s.size 0 (by omega) (by omega) (by omega) (fun j _ _ => by omega)

def RisesIn (l : List Int) (lo hi : Int) : Prop := ∀ i : Int, 0 ≤ i → i < l.length → (lo ≤ rd l i ∧ rd l i ≤ hi) ∧ (0 < i → rd l (i - 1) < rd l i)
theorem l00Rises_loop (l : List Int) (lo hi : Int) (hl : (l.length : Int) ≤ 4611686018427387904) (d : Nat) : ∀ i : Int, 0 ≤ i → i ≤ l.length → (l.length : Int) - i = d →
    (∀ j, 0 ≤ j → j < i → (lo ≤ rd l j ∧ rd l j ≤ hi) ∧ (0 < j → rd l (j - 1) < rd l j)) → ∃ b, Ev (fun k => spec_l00Rises.l0 k l lo hi i) b ∧ (b = true ↔ RisesIn l lo hi) := by
  induction d with
  | zero =>
    intro i h0 h1 hd hp
    refine ⟨true, Ev_succ ?_, ?_⟩
    · simp only [spec_l00Rises.l0, if_neg (show ¬ i < (l.length : Int) by omega)]; exact Ev.now _
    · simp only [true_iff]; exact fun j j0 j1 => hp j j0 (by omega)
  | succ d ih =>
    intro i h0 h1 hd hp
    have hlt : i < (l.length : Int) := by omega
    by_cases hb : lo ≤ rd l i ∧ rd l i ≤ hi
    · by_cases hi0 : i > 0
      · by_cases hr : rd l (i - 1) ≥ rd l i
        · refine ⟨false, Ev_succ ?_, ?_⟩
          · simp (disch := omega) only [spec_l00Rises.l0, w64, l00In_eq, Option.bind_some]
            simp only [if_pos hlt, if_pos h0, hb, and_self, decide_true, if_true, if_pos hi0, if_pos (show 0 ≤ i - 1 by omega), if_pos (show i - 1 < (l.length : Int) by omega), if_pos hr]
            exact Ev.now _
          · simp only [Bool.false_eq_true, false_iff]; exact fun g => by have := (g i h0 hlt).2 hi0; omega
        · obtain ⟨b, h, hbi⟩ := ih (i + 1) (by omega) (by omega) (by omega) (fun j j0 j1 => by
            by_cases e : j = i
            · rw [e]; exact ⟨hb, fun _ => by omega⟩
            · exact hp j j0 (by omega))
          refine ⟨b, Ev_succ ?_, hbi⟩
          simp (disch := omega) only [spec_l00Rises.l0, w64, l00In_eq, Option.bind_some]
          simp only [if_pos hlt, if_pos h0, hb, and_self, decide_true, if_true, if_pos hi0, if_pos (show 0 ≤ i - 1 by omega), if_pos (show i - 1 < (l.length : Int) by omega), if_neg hr]
          exact h
      · obtain ⟨b, h, hbi⟩ := ih (i + 1) (by omega) (by omega) (by omega) (fun j j0 j1 => by
          by_cases e : j = i
          · rw [e]; exact ⟨hb, fun _ => by omega⟩
          · exact hp j j0 (by omega))
        refine ⟨b, Ev_succ ?_, hbi⟩
        simp (disch := omega) only [spec_l00Rises.l0, w64, l00In_eq, Option.bind_some]
        simp only [if_pos hlt, if_pos h0, hb, and_self, decide_true, if_true, if_neg hi0]
        exact h
    · refine ⟨false, Ev_succ ?_, ?_⟩
      · simp (disch := omega) only [spec_l00Rises.l0, w64, l00In_eq, Option.bind_some]
        simp only [if_pos hlt, if_pos h0, hb, decide_false, Bool.false_eq_true, if_false]
        exact Ev.now _
      · simp only [Bool.false_eq_true, false_iff]; exact fun g => hb (g i h0 hlt).1
theorem areIn_loop (l : List Int) (lo hi : Int) (hl : (l.length : Int) ≤ 4611686018427387904) (d : Nat) : ∀ i : Int, 0 ≤ i → i ≤ l.length → (l.length : Int) - i = d →
    (∀ j, 0 ≤ j → j < i → lo ≤ rd l j ∧ rd l j ≤ hi) → ∃ b, Ev (fun k => impl_areIn.l0 k lo hi l l.length i) b ∧ (b = true ↔ ∀ j, 0 ≤ j → j < (l.length : Int) → lo ≤ rd l j ∧ rd l j ≤ hi) := by
  induction d with
  | zero =>
    intro i h0 h1 hd hp
    refine ⟨true, Ev_succ ?_, ?_⟩
    · simp only [impl_areIn.l0, if_neg (show ¬ i < (l.length : Int) by omega)]; exact Ev.now _
    · simp only [true_iff]; exact fun j j0 j1 => hp j j0 (by omega)
  | succ d ih =>
    intro i h0 h1 hd hp
    have hlt : i < (l.length : Int) := by omega
    by_cases hb : lo ≤ rd l i ∧ rd l i ≤ hi
    · obtain ⟨b, h, hbi⟩ := ih (i + 1) (by omega) (by omega) (by omega) (fun j j0 j1 => by
        by_cases e : j = i
        · rw [e]; exact hb
        · exact hp j j0 (by omega))
      refine ⟨b, Ev_succ ?_, hbi⟩
      simp (disch := omega) only [impl_areIn.l0, w64, within_eq, Option.bind_some]
      simp only [if_pos hlt, if_pos h0, hb, and_self, decide_true, if_true]
      exact h
    · refine ⟨false, Ev_succ ?_, ?_⟩
      · simp (disch := omega) only [impl_areIn.l0, w64, within_eq, Option.bind_some]
        simp only [if_pos hlt, if_pos h0, hb, decide_false, Bool.false_eq_true, if_false]
        exact Ev.now _
      · simp only [Bool.false_eq_true, false_iff]; exact fun g => hb (g i h0 hlt)
theorem areIn_ev (l : List Int) (lo hi : Int) (hl : (l.length : Int) ≤ 4611686018427387904) : ∃ b, Ev (fun k => impl_areIn.f k l lo hi) b ∧ (b = true ↔ ∀ j, 0 ≤ j → j < (l.length : Int) → lo ≤ rd l j ∧ rd l j ≤ hi) :=
  areIn_loop l lo hi hl l.length 0 (by omega) (by omega) (by omega) (fun j _ _ => by omega)
theorem isInc_loop (l : List Int) (hl : (l.length : Int) ≤ 4611686018427387904) (d : Nat) : ∀ i : Int, 0 ≤ i → i ≤ l.length → (l.length : Int) - i = d →
    (∀ j, 0 < j → j < i → rd l (j - 1) < rd l j) → ∃ b, Ev (fun k => impl_isIncreasing.l0 k l l.length i) b ∧ (b = true ↔ ∀ j, 0 < j → j < (l.length : Int) → rd l (j - 1) < rd l j) := by
  induction d with
  | zero =>
    intro i h0 h1 hd hp
    refine ⟨true, Ev_succ ?_, ?_⟩
    · simp only [impl_isIncreasing.l0, if_neg (show ¬ i < (l.length : Int) by omega)]; exact Ev.now _
    · simp only [true_iff]; exact fun j j0 j1 => hp j j0 (by omega)
  | succ d ih =>
    intro i h0 h1 hd hp
    have hlt : i < (l.length : Int) := by omega
    by_cases hi0 : i > 0
    · by_cases hr : rd l i ≤ rd l (i - 1)
      · refine ⟨false, Ev_succ ?_, ?_⟩
        · simp (disch := omega) only [impl_isIncreasing.l0, w64]
          simp only [if_pos hlt, if_pos hi0, if_pos h0, if_pos (show 0 ≤ i - 1 by omega), if_pos (show i - 1 < (l.length : Int) by omega), if_pos hr]
          exact Ev.now _
        · simp only [Bool.false_eq_true, false_iff]; exact fun g => by have := g i hi0 hlt; omega
      · obtain ⟨b, h, hbi⟩ := ih (i + 1) (by omega) (by omega) (by omega) (fun j j0 j1 => by
          by_cases e : j = i
          · rw [e]; omega
          · exact hp j j0 (by omega))
        refine ⟨b, Ev_succ ?_, hbi⟩
        simp (disch := omega) only [impl_isIncreasing.l0, w64]
        simp only [if_pos hlt, if_pos hi0, if_pos h0, if_pos (show 0 ≤ i - 1 by omega), if_pos (show i - 1 < (l.length : Int) by omega), if_neg hr]
        exact h
    · obtain ⟨b, h, hbi⟩ := ih (i + 1) (by omega) (by omega) (by omega) (fun j j0 j1 => by
        by_cases e : j = i
        · omega
        · exact hp j j0 (by omega))
      refine ⟨b, Ev_succ ?_, hbi⟩
      simp (disch := omega) only [impl_isIncreasing.l0, w64]
      simp only [if_pos hlt, if_neg hi0]
      exact h
theorem isInc_ev (l : List Int) (hl : (l.length : Int) ≤ 4611686018427387904) : ∃ b, Ev (fun k => impl_isIncreasing.f k l) b ∧ (b = true ↔ ∀ j, 0 < j → j < (l.length : Int) → rd l (j - 1) < rd l j) :=
  isInc_loop l hl l.length 0 (by omega) (by omega) (by omega) (fun j _ _ => by omega)
def TapsOk (l : List Int) : Prop := 1 ≤ (l.length : Int) ∧ (l.length : Int) ≤ 16 ∧ RisesIn l 1 16
theorem l06Taps_ev (l : List Int) (hl : (l.length : Int) ≤ 4611686018427387904) : ∃ b, Ev (fun k => spec_l06Taps.f k l) b ∧ (b = true ↔ TapsOk l) := by
  simp only [spec_l06Taps.f, l00In_eq, Option.bind_some]
  by_cases h : 1 ≤ (l.length : Int) ∧ (l.length : Int) ≤ 16
  · obtain ⟨b, hb, hi⟩ := l00Rises_loop l 1 16 hl l.length 0 (by omega) (by omega) (by omega) (fun j _ _ => by omega)
    refine ⟨b, ?_, by rw [hi]; exact ⟨fun g => ⟨h.1, h.2, g⟩, fun g => g.2.2⟩⟩
    simp only [h, and_self, decide_true, if_true]
    exact Ev.bind hb (Ev.now _)
  · refine ⟨false, ?_, ?_⟩
    · simp only [h, decide_false, Bool.false_eq_true, if_false]; exact Ev.now _
    · simp only [Bool.false_eq_true, false_iff]; exact fun g => h ⟨g.1, g.2.1⟩
theorem areTaps_ev (l : List Int) (hl : (l.length : Int) ≤ 4611686018427387904) : ∃ b, Ev (fun k => impl_areTaps.f k l) b ∧ (b = true ↔ TapsOk l) := by
  simp only [impl_areTaps.f]
  by_cases h1 : (l.length : Int) ≥ 1
  · by_cases h2 : (l.length : Int) ≤ 16
    · obtain ⟨b, hb, hi⟩ := areIn_ev l 1 16 hl
      obtain ⟨c, hc, hj⟩ := isInc_ev l hl
      simp only [if_pos h1, if_pos h2]
      cases b with
      | true =>
        refine ⟨c, Ev.bind hb ?_, ?_⟩
        · simp only [if_true]; exact Ev.bind hc (Ev.now _)
        · rw [hj]
          exact ⟨fun g => ⟨h1, h2, fun i i0 i1 => ⟨hi.1 rfl i i0 i1, fun z => g i z i1⟩⟩, fun g j j0 j1 => (g.2.2 j (by omega) j1).2 j0⟩
      | false =>
        refine ⟨false, Ev.bind hb ?_, ?_⟩
        · simp only [Bool.false_eq_true, if_false]; exact Ev.now _
        · simp only [Bool.false_eq_true, false_iff]
          intro g
          have := hi.2 (fun j j0 j1 => (g.2.2 j j0 j1).1)
          cases this
    · exact ⟨false, by simp only [if_pos h1, if_neg h2]; exact Ev.now _, by simp only [Bool.false_eq_true, false_iff]; exact fun g => h2 g.2.1⟩
  · exact ⟨false, by simp only [if_neg h1]; exact Ev.now _, by simp only [Bool.false_eq_true, false_iff]; exact fun g => h1 g.1⟩
def ScrOk (l : List Int) (s : ByteArray) : Prop := TapsOk l ∧ AllBit s ∧ (s.size : Int) = rd l ((l.length : Int) - 1)
theorem ScrOk.small {l : List Int} {s : ByteArray} (h : ScrOk l s) : 1 ≤ (s.size : Int) ∧ (s.size : Int) ≤ 16 := by
  obtain ⟨⟨h1, h2, h3⟩, -, h4⟩ := h
  have := (h3 ((l.length : Int) - 1) (by omega) (by omega)).1
  omega
theorem l06Is_ev (l : List Int) (s : ByteArray) (hl : (l.length : Int) ≤ 1048576) (hs : s.size ≤ 140737488351232) : ∃ b, Ev (fun k => spec_l06Is.f k l s) b ∧ (b = true ↔ ScrOk l s) := by
  obtain ⟨b, hb, hi⟩ := l06Taps_ev l (by omega)
  obtain ⟨c, hc, hj⟩ := l01Bits_ev s hs
  simp only [spec_l06Is.f]
  simp (disch := omega) only [w64]
  cases b with
  | false =>
    refine ⟨false, Ev.bind hb (by simp only [Bool.false_eq_true, if_false]; exact Ev.now _), ?_⟩
    simp only [Bool.false_eq_true, false_iff]
    exact fun g => by have := hi.2 g.1; cases this
  | true =>
    have ht := hi.1 rfl
    cases c with
    | false =>
      refine ⟨false, Ev.bind hb ?_, ?_⟩
      · simp only [if_true]
        exact Ev.bind hc (by simp only [Bool.false_eq_true, if_false]; exact Ev.now _)
      · simp only [Bool.false_eq_true, false_iff]
        exact fun g => by have := hj.2 ⟨g.2.1, by have := g.small; omega⟩; cases this
    | true =>
      have hb2 := hj.1 rfl
      refine ⟨(s.size : Int) == rd l ((l.length : Int) - 1), Ev.bind hb ?_, ?_⟩
      · simp only [if_true]
        refine Ev.bind hc ?_
        simp only [if_true, if_pos (show 0 ≤ (l.length : Int) - 1 by have := ht.1; omega), if_pos (show (l.length : Int) - 1 < (l.length : Int) by omega)]
        exact Ev.now _
      · rw [beq_iff_eq]
        exact ⟨fun g => ⟨ht, hb2.1, g⟩, fun g => g.2.2⟩
theorem validScr_ev (l : List Int) (s : ByteArray) (hl : (l.length : Int) ≤ 1048576) (hs : s.size ≤ 140737488351232) : ∃ b, Ev (fun k => impl_ValidScrambler.f k l s) b ∧ (b = true ↔ ScrOk l s) := by
  obtain ⟨b, hb, hi⟩ := areTaps_ev l (by omega)
  obtain ⟨c, hc, hj⟩ := areBits_ev s hs
  simp only [impl_ValidScrambler.f, hc, Option.bind_some]
  simp (disch := omega) only [w64]
  cases b with
  | false =>
    refine ⟨false, Ev.bind hb (by simp only [Bool.false_eq_true, if_false]; exact Ev.now _), ?_⟩
    simp only [Bool.false_eq_true, false_iff]
    exact fun g => by have := hi.2 g.1; cases this
  | true =>
    have ht := hi.1 rfl
    cases c with
    | false =>
      refine ⟨false, Ev.bind hb ?_, ?_⟩
      · simp only [if_true, Bool.false_eq_true, if_false]; exact Ev.now _
      · simp only [Bool.false_eq_true, false_iff]
        exact fun g => by have := hj.2 g.2.1; cases this
    | true =>
      have hb2 := hj.1 rfl
      refine ⟨(s.size : Int) == rd l ((l.length : Int) - 1), Ev.bind hb ?_, ?_⟩
      · simp only [if_true, if_pos (show 0 ≤ (l.length : Int) - 1 by have := ht.1; omega), if_pos (show (l.length : Int) - 1 < (l.length : Int) by omega)]
        exact Ev.now _
      · rw [beq_iff_eq]
        exact ⟨fun g => ⟨ht, hb2, g⟩, fun g => g.2.2⟩
theorem scr_both (l : List Int) (s : ByteArray) (hl : (l.length : Int) ≤ 1048576) (hs : s.size ≤ 140737488351232) :
    ∃ b, Ev (fun k => spec_l06Is.f k l s) b ∧ Ev (fun k => impl_ValidScrambler.f k l s) b ∧ (b = true ↔ ScrOk l s) := by
  obtain ⟨b, hb, hi⟩ := l06Is_ev l s hl hs
  obtain ⟨c, hc, hj⟩ := validScr_ev l s hl hs
  have e : c = b := by cases b <;> cases c <;> simp_all
  subst e
  exact ⟨c, hb, hc, hi⟩

def FnExactSpreadOf_Pure : Prop := ∀ (l0_0 : List Int) (a0_1 : ByteArray), l0_0.length ≤ maxLen → l0_0.length * 8 ≤ 140737488351232 → (∀ x ∈ l0_0, (Lit.int .i64 x).wf = true) → a0_1.size ≤ 140737488351232 → ∃ k, laws_FnExactSpreadOf.f k l0_0 a0_1 = some true
theorem FnExactSpreadOf : FnExactSpreadOf_Pure := by
  intro l s h1 h2 h3 h4
  apply Ev.rounds
  obtain ⟨v, hv, hz⟩ := szScr l s 1048576 (by omega) h2 h4
  simp only [laws_FnExactSpreadOf.f, hv, Option.bind_some]
  by_cases hn : v < 0
  · simp only [if_pos hn]; exact Ev.now _
  have hb := hz hn
  simp only [if_neg hn]
  obtain ⟨b, hs, hi, -⟩ := scr_both l s (by omega) h4
  have ht := toScr_ev l s (by omega)
  have E : ∃ r, Ev (fun k => spec_SpreadOf.f k l s) r ∧ Ev (fun k => impl_SpreadOf.f k l s) r := by
    cases b with
    | true => exact ⟨_, by simp only [spec_SpreadOf.f]; exact Ev.bind hs (Ev.now _), by simp (disch := omega) only [impl_SpreadOf.f, w64]; exact Ev.bind hi (Ev.now _)⟩
    | false => exact ⟨_, by simp only [spec_SpreadOf.f]; exact Ev.bind hs (Ev.now _), by simp only [impl_SpreadOf.f]; exact Ev.bind hi (Ev.now _)⟩
  obtain ⟨r, hA, hB⟩ := E
  refine Ev.bind ht (Ev.bind hA (Ev.bind ht (Ev.bind hB ?_)))
  simp only [if_true, bne_self_eq_false]
  refine Ev_succ ?_
  simp only [laws_FnExactSpreadOf.j0, Bool.false_eq_true, if_false]
  refine Ev.bind ht (Ev.bind (eqScr_ev l s (by omega)) ?_)
  simp only [if_true]
  exact Ev.now _

end Go.Proofs.YtkhgmfnmgefpbaaDoor.Pure
