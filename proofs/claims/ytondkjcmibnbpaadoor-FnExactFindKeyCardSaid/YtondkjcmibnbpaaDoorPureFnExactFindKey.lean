/- The law FnExactFindKey of the given program holds: for every input that the row lets in the call returns true and leaves its arguments as they were. No condition ahead of it. -/
import Derived.Test.YtondkjcmibnbpaaDoorPFnExactFindKeyx8
import Derived.Test.YtondkjcmibnbpaaDoorMine
namespace Go.Proofs.YtondkjcmibnbpaaDoor.Pure
open Go.RowKit Go.Proofs.YtondkjcmibnbpaaDoor.PFnExactFindKey Go.Proofs.YtondkjcmibnbpaaDoorW.PrintWords Go.Proofs.YtondkjcmibnbpaaDoorW.PrintLast Go.Proofs.YtondkjcmibnbpaaDoorW.PrintMore Go.Proofs.YtondkjcmibnbpaaDoor.Mine
set_option linter.unusedVariables false
set_option linter.unusedSimpArgs false
theorem rd_set (l : List Int) (i j v : Int) (hi : 0 ≤ i) (hil : i < l.length) (hj : 0 ≤ j) : rd (l.set i.toNat v) j = if j = i then v else rd l j := by
  unfold rd
  by_cases e : j = i
  · subst e; rw [if_pos rfl, List.getD_eq_getElem?_getD, List.getElem?_set_self (by omega)]; rfl
  · rw [if_neg e, List.getD_eq_getElem?_getD, List.getElem?_set_ne (by omega), List.getD_eq_getElem?_getD]

theorem eqInt64S_loop (l : List Int) (hl : (l.length : Int) ≤ 4611686018427387904) (d : Nat) : ∀ i : Int, 0 ≤ i → i ≤ l.length → (l.length : Int) - i = d → Ev (fun k => laws_eqInt64S.l0 k l l i) true := by
  induction d with
  | zero =>
    intro i h0 h1 hd
    refine Ev_succ ?_
    simp only [laws_eqInt64S.l0, if_neg (show ¬ i < (l.length : Int) by omega)]
    exact Ev.now _
  | succ d ih =>
    intro i h0 h1 hd
    refine Ev_succ ?_
    simp (disch := omega) only [laws_eqInt64S.l0, w64]
    simp only [if_pos (show i < (l.length : Int) by omega), if_pos h0, if_true]
    exact ih (i + 1) (by omega) (by omega) (by omega)
theorem eqInt64S_self (l : List Int) (hl : (l.length : Int) ≤ 4611686018427387904) : Ev (fun k => laws_eqInt64S.f k l l) true := by
  simp only [laws_eqInt64S.f, if_true]
  exact eqInt64S_loop l hl l.length 0 (by omega) (by omega) (by omega)

theorem ext_rd (a b : List Int) (h : a.length = b.length) (hp : ∀ j : Int, 0 ≤ j → j < a.length → rd a j = rd b j) : a = b := by
  apply List.ext_getElem h
  intro n h1 h2
  have := hp n (by omega) (by omega)
  unfold rd at this
  rw [List.getD_eq_getElem?_getD, List.getD_eq_getElem?_getD, Int.toNat_natCast, List.getElem?_eq_getElem h1, List.getElem?_eq_getElem h2] at this
  simpa using this
theorem toInt64S_loop (l : List Int) (hl : (l.length : Int) ≤ 4611686018427387904) (d : Nat) : ∀ (m : List Int) (i : Int), m.length = l.length → 0 ≤ i → i ≤ l.length → (l.length : Int) - i = d → (∀ j, 0 ≤ j → j < i → rd m j = rd l j) →
    Ev (fun k => laws_toInt64S.l0 k l m i) l := by
  induction d with
  | zero =>
    intro m i hm h0 h1 hd hp
    refine Ev_succ ?_
    simp only [laws_toInt64S.l0, if_neg (show ¬ i < (l.length : Int) by omega)]
    rw [ext_rd m l hm (fun j j0 j1 => hp j j0 (by omega))]
    exact Ev.now _
  | succ d ih =>
    intro m i hm h0 h1 hd hp
    refine Ev_succ ?_
    simp (disch := omega) only [laws_toInt64S.l0, w64]
    simp only [if_pos (show i < (l.length : Int) by omega), if_pos h0, if_pos (show i < (m.length : Int) by omega)]
    refine ih (m.set i.toNat (rd l i)) (i + 1) (by rw [List.length_set]; exact hm) (by omega) (by omega) (by omega) (fun j j0 j1 => ?_)
    rw [rd_set m i j _ h0 (by omega) j0]
    by_cases e : j = i
    · rw [if_pos e, e]
    · rw [if_neg e]; exact hp j j0 (by omega)
theorem toInt64S_ev (l : List Int) (hl : (l.length : Int) ≤ 1048576) : Ev (fun k => laws_toInt64S.f k l) l := by
  simp only [laws_toInt64S.f, if_pos (show 0 ≤ (l.length : Int) by omega), if_pos (show ((l.length : Int)).toNat ≤ 35184372088832 by omega)]
  exact toInt64S_loop l (by omega) l.length _ 0 (by simp) (by omega) (by omega) (by omega) (fun j _ _ => by omega)


def AllBit (s : ByteArray) : Prop := ∀ i : Int, 0 ≤ i → i < s.size → bt s i = 48 ∨ bt s i = 49
def IsBitS (s : ByteArray) : Prop := AllBit s ∧ (s.size : Int) ≤ 400
theorem bt_list (s : ByteArray) (i : Nat) (h : i < s.size) : bt s i = ((s.data.toList[i]'(by simpa using h)).toNat : Int) := by
  unfold bt
  simp only [Int.toNat_natCast, h, dif_pos]
  rfl
theorem dropWhile_nil (p : UInt8 → Bool) : ∀ l : List UInt8, l.dropWhile p = [] ↔ ∀ b ∈ l, p b = true
  | [] => by simp
  | x :: l => by
    rw [List.dropWhile_cons]
    cases h : p x with
    | true => simp [h, dropWhile_nil p l]
    | false => simp [h]
theorem trim_empty (l : List UInt8) : (Lib.trimS l [48, 49]).isEmpty = true ↔ ∀ b ∈ l, b = 48 ∨ b = 49 := by
  have key : ∀ p : UInt8 → Bool, List.dropWhile p (List.dropWhile p l.reverse).reverse = [] ↔ ∀ b ∈ l, p b = true := by
    intro p
    rw [dropWhile_nil]
    constructor
    · intro h
      by_cases e : List.dropWhile p l.reverse = []
      · have := (dropWhile_nil p _).1 e
        exact fun b hb => this b (by simpa using hb)
      · have hh := List.head_dropWhile_not p e
        have h3 := h ((List.dropWhile p l.reverse).head e) (by simp)
        rw [hh] at h3
        cases h3
    · intro h b hb
      have : List.dropWhile p l.reverse = [] := (dropWhile_nil p _).2 (fun b hb => h b (by simpa using hb))
      rw [this] at hb
      simp at hb
  unfold Lib.trimS Lib.trimRightS Lib.trimLeftS
  rw [List.isEmpty_iff, key]
  simp
theorem areBits_ev (s : ByteArray) (hs : s.size ≤ 140737488351232) : ∃ b, impl_areBits.f s = some b ∧ (b = true ↔ AllBit s) := by
  refine ⟨(Lib.trimS s.data.toList [48, 49]).isEmpty, by unfold impl_areBits.f; rw [if_pos (by omega)], ?_⟩
  rw [trim_empty]
  constructor
  · intro h i h0 h1
    obtain ⟨n, rfl⟩ : ∃ n : Nat, i = n := ⟨i.toNat, by omega⟩
    rw [bt_list s n (by omega)]
    rcases h _ (List.getElem_mem (l := s.data.toList) (n := n) (by simp; omega)) with e | e <;> rw [e]
    · exact Or.inl rfl
    · exact Or.inr rfl
  · intro h b hb
    obtain ⟨n, hn, rfl⟩ := List.getElem_of_mem hb
    have hn' : n < s.size := by simpa using hn
    have := h n (by omega) (by omega)
    rw [bt_list s n hn'] at this
    rcases this with e | e
    · left; apply UInt8.toNat_inj.1; show s.data.toList[n].toNat = 48; omega
    · right; apply UInt8.toNat_inj.1; show s.data.toList[n].toNat = 49; omega
theorem isBits_ev (s : ByteArray) (hs : s.size ≤ 140737488351232) : ∃ b, impl_IsBits.f s = some b ∧ (b = true ↔ IsBitS s) := by
  obtain ⟨b, hb, hi⟩ := areBits_ev s hs
  simp only [impl_IsBits.f, hb, Option.bind_some, IsBitS]
  by_cases h : (s.size : Int) ≤ 400
  · exact ⟨b, by rw [if_pos h], by rw [hi]; exact ⟨fun g => ⟨g, h⟩, fun g => g.1⟩⟩
  · exact ⟨false, by rw [if_neg h], by simp only [Bool.false_eq_true, false_iff]; exact fun g => h g.2⟩
theorem l01Bits_loop (s : ByteArray) (hs : s.size ≤ 140737488351232) (d : Nat) : ∀ i : Int, 0 ≤ i → i ≤ s.size → (s.size : Int) - i = d → (∀ j, 0 ≤ j → j < i → bt s j = 48 ∨ bt s j = 49) →
    ∃ b, Ev (fun k => spec_l01Bits.l0 k s i) b ∧ (b = true ↔ IsBitS s) := by
  induction d with
  | zero =>
    intro i h0 h1 hd hp
    refine ⟨decide ((s.size : Int) ≤ 400), Ev_succ ?_, ?_⟩
    · simp only [spec_l01Bits.l0, if_neg (show ¬ i < (s.size : Int) by omega)]
      exact Ev.now _
    · rw [decide_eq_true_eq]
      exact ⟨fun h => ⟨fun j j0 j1 => hp j j0 (by omega), h⟩, fun h => h.2⟩
  | succ d ih =>
    intro i h0 h1 hd hp
    have hlt : i < (s.size : Int) := by omega
    by_cases e : bt s i = 48 ∨ bt s i = 49
    · obtain ⟨b, hb, hi⟩ := ih (i + 1) (by omega) (by omega) (by omega) (fun j j0 j1 => by
        by_cases z : j = i
        · rw [z]; exact e
        · exact hp j j0 (by omega))
      refine ⟨b, Ev_succ ?_, hi⟩
      simp (disch := omega) only [spec_l01Bits.l0, w64]
      rcases e with e | e
      · simp only [if_pos hlt, if_pos h0, if_pos e]; exact hb
      · simp only [if_pos hlt, if_pos h0, e, if_neg (show ¬ (49 : Int) = 48 by omega), if_true]; exact hb
    · refine ⟨false, Ev_succ ?_, ?_⟩
      · simp only [spec_l01Bits.l0, if_pos hlt, if_pos h0, if_neg (fun g => e (Or.inl g)), if_neg (fun g => e (Or.inr g))]
        exact Ev.now _
      · simp only [Bool.false_eq_true, false_iff]
        exact fun g => e (g.1 i h0 hlt)
theorem l01Bits_ev (s : ByteArray) (hs : s.size ≤ 140737488351232) : ∃ b, Ev (fun k => spec_l01Bits.f k s) b ∧ (b = true ↔ IsBitS s) :=
  l01Bits_loop s hs s.size 0 (by omega) (by omega) (by omega) (fun j _ _ => by omega)
theorem bits_same (s : ByteArray) (hs : s.size ≤ 140737488351232) : ∃ b, Ev (fun k => spec_l01Bits.f k s) b ∧ impl_IsBits.f s = some b ∧ (b = true ↔ IsBitS s) := by
  obtain ⟨b, hb, hi⟩ := l01Bits_ev s hs
  obtain ⟨c, hc, hj⟩ := isBits_ev s hs
  have e : c = b := by cases b <;> cases c <;> simp_all
  subst e
  exact ⟨c, hb, hc, hi⟩

theorem ba_ext {a b : ByteArray} (h : a.data.toList = b.data.toList) : a = b := by apply ByteArray.ext; exact Array.toList_inj.1 h
theorem sn_append (a b : List Int) : strOfNums (a ++ b) = strOfNums a ++ strOfNums b := by apply ba_ext; simp [strOfNums]
theorem sn_size (a : List Int) : (strOfNums a).size = a.length := by simp [strOfNums, ByteArray.size]
theorem sn_nil : strOfNums [] = (⟨#[]⟩ : ByteArray) := rfl
theorem bt_range (s : ByteArray) (i : Int) (h0 : 0 ≤ i) (h1 : i < s.size) : 0 ≤ bt s i ∧ bt s i < 256 := by
  obtain ⟨n, rfl⟩ : ∃ n : Nat, i = n := ⟨i.toNat, by omega⟩
  rw [bt_list s n (by omega)]
  have := (s.data.toList[n]'(by simp; omega)).toNat_lt
  omega
theorem extract_one (s : ByteArray) (n : Nat) (h : n < s.size) : (s.extract n (n + 1)).data.toList = [s.data.toList[n]'(by simpa using h)] := by
  have h' : n < s.data.size := h
  simp only [ByteArray.data_extract, Array.toList_extract, List.extract_eq_take_drop]
  rw [show n + 1 - n = 1 by omega, List.drop_eq_getElem_cons (show n < s.data.toList.length by simpa using h')]
  simp
theorem sn_one (s : ByteArray) (i : Int) (h0 : 0 ≤ i) (h1 : i < s.size) : strOfNums [bt s i] = s.extract i.toNat (i + 1).toNat := by
  obtain ⟨n, rfl⟩ : ∃ n : Nat, i = n := ⟨i.toNat, by omega⟩
  apply ba_ext
  rw [show ((n : Int) + 1).toNat = n + 1 by omega, Int.toNat_natCast, extract_one s n (by omega), bt_list s n (by omega)]
  simp [strOfNums]

theorem ex_size (s : ByteArray) (a b : Nat) (hb : b ≤ s.size) : (s.extract a b).size = b - a := by
  simp only [ByteArray.size_extract]; omega
theorem ex_list (s : ByteArray) (a b : Nat) : (s.extract a b).data.toList = (s.data.toList.drop a).take (b - a) := by
  simp only [ByteArray.data_extract, Array.toList_extract, List.extract_eq_take_drop]
theorem ex_ex (s : ByteArray) (a b c d : Nat) (h : a + d ≤ b) : (s.extract a b).extract c d = s.extract (a + c) (a + d) := by
  apply ba_ext
  rw [ex_list, ex_list, ex_list, List.drop_take, List.drop_drop, List.take_take]
  congr 1
  omega
theorem dl_size (s : ByteArray) : s.data.toList.length = s.size := Array.length_toList
theorem ex_whole (s : ByteArray) : s.extract 0 s.size = s := by
  apply ba_ext; rw [ex_list, List.drop_zero]; exact List.take_of_length_le (by rw [dl_size]; omega)
theorem bt_extract (s : ByteArray) (a b : Nat) (hb : b ≤ s.size) (j : Int) (h0 : 0 ≤ j) (h1 : j < (b : Int) - a) : bt (s.extract a b) j = bt s (a + j) := by
  obtain ⟨n, rfl⟩ : ∃ n : Nat, j = n := ⟨j.toNat, by omega⟩
  have hz := ex_size s a b hb
  rw [bt_list _ n (by omega), show (a : Int) + n = ((a + n : Nat) : Int) by omega, bt_list _ _ (by omega)]
  congr 2
  simp only [ex_list]
  rw [List.getElem_take, List.getElem_drop]
theorem AllBit_extract (s : ByteArray) (h : AllBit s) (a b : Nat) (hb : b ≤ s.size) : AllBit (s.extract a b) := by
  intro j h0 h1
  have hz := ex_size s a b hb
  rw [bt_extract s a b hb j h0 (by omega)]
  exact h _ (by omega) (by omega)
theorem nil_size (s : ByteArray) : s.toList = ([] : List UInt8) ↔ s.size = 0 := by
  rw [Lib.toList_data]
  show _ ↔ s.data.size = 0
  rw [← Array.length_toList]
  exact List.length_eq_zero_iff.symm

theorem l00In_eq (a b c : Int) : spec_l00In.f a b c = some (decide (b ≤ a ∧ a ≤ c)) := by
  unfold spec_l00In.f; by_cases h : a ≥ b
  · rw [if_pos h]; simp; intro _; exact h
  · rw [if_neg h]; simp; intro h'; omega
theorem within_eq (a b c : Int) : impl_within.f a b c = some (decide (b ≤ a ∧ a ≤ c)) := by
  unfold impl_within.f; by_cases h : a ≥ b
  · rw [if_pos h]; simp; intro _; exact h
  · rw [if_neg h]; simp; intro h'; omega

theorem areIn_loop (l : List Int) (lo hi : Int) (hl : (l.length : Int) ≤ 4611686018427387904) (d : Nat) : ∀ i : Int, 0 ≤ i → i ≤ l.length → (l.length : Int) - i = d →
    (∀ j, 0 ≤ j → j < i → lo ≤ rd l j ∧ rd l j ≤ hi) → ∃ b, Ev (fun k => impl_areIn.l0 k lo hi l l.length i) b ∧ (b = true ↔ ∀ j, 0 ≤ j → j < (l.length : Int) → lo ≤ rd l j ∧ rd l j ≤ hi) := by
  induction d with
  | zero =>
    intro i h0 h1 hd hp
    refine ⟨true, Ev_succ ?_, ?_⟩
    · simp only [impl_areIn.l0, if_neg (show ¬ i < (l.length : Int) by omega)]; exact Ev.now _
    · simp only [true_iff]; exact fun j j0 j1 => hp j j0 (by omega)
  | succ d ih =>
    intro i h0 h1 hd hp
    have hlt : i < (l.length : Int) := by omega
    by_cases hb : lo ≤ rd l i ∧ rd l i ≤ hi
    · obtain ⟨b, h, hbi⟩ := ih (i + 1) (by omega) (by omega) (by omega) (fun j j0 j1 => by
        by_cases e : j = i
        · rw [e]; exact hb
        · exact hp j j0 (by omega))
      refine ⟨b, Ev_succ ?_, hbi⟩
      simp (disch := omega) only [impl_areIn.l0, w64, within_eq, Option.bind_some]
      simp only [if_pos hlt, if_pos h0, hb, and_self, decide_true, if_true]
      exact h
    · refine ⟨false, Ev_succ ?_, ?_⟩
      · simp (disch := omega) only [impl_areIn.l0, w64, within_eq, Option.bind_some]
        simp only [if_pos hlt, if_pos h0, hb, decide_false, Bool.false_eq_true, if_false]
        exact Ev.now _
      · simp only [Bool.false_eq_true, false_iff]; exact fun g => hb (g i h0 hlt)
theorem areIn_ev (l : List Int) (lo hi : Int) (hl : (l.length : Int) ≤ 4611686018427387904) : ∃ b, Ev (fun k => impl_areIn.f k l lo hi) b ∧ (b = true ↔ ∀ j, 0 ≤ j → j < (l.length : Int) → lo ≤ rd l j ∧ rd l j ≤ hi) :=
  areIn_loop l lo hi hl l.length 0 (by omega) (by omega) (by omega) (fun j _ _ => by omega)

def RisesIn (l : List Int) (lo hi : Int) : Prop := ∀ i : Int, 0 ≤ i → i < l.length → (lo ≤ rd l i ∧ rd l i ≤ hi) ∧ (0 < i → rd l (i - 1) < rd l i)
theorem l00Rises_loop (l : List Int) (lo hi : Int) (hl : (l.length : Int) ≤ 4611686018427387904) (d : Nat) : ∀ i : Int, 0 ≤ i → i ≤ l.length → (l.length : Int) - i = d →
    (∀ j, 0 ≤ j → j < i → (lo ≤ rd l j ∧ rd l j ≤ hi) ∧ (0 < j → rd l (j - 1) < rd l j)) → ∃ b, Ev (fun k => spec_l00Rises.l0 k l lo hi i) b ∧ (b = true ↔ RisesIn l lo hi) := by
  induction d with
  | zero =>
    intro i h0 h1 hd hp
    refine ⟨true, Ev_succ ?_, ?_⟩
    · simp only [spec_l00Rises.l0, if_neg (show ¬ i < (l.length : Int) by omega)]; exact Ev.now _
    · simp only [true_iff]; exact fun j j0 j1 => hp j j0 (by omega)
  | succ d ih =>
    intro i h0 h1 hd hp
    have hlt : i < (l.length : Int) := by omega
    by_cases hb : lo ≤ rd l i ∧ rd l i ≤ hi
    · by_cases hi0 : i > 0
      · by_cases hr : rd l (i - 1) ≥ rd l i
        · refine ⟨false, Ev_succ ?_, ?_⟩
          · simp (disch := omega) only [spec_l00Rises.l0, w64, l00In_eq, Option.bind_some]
            simp only [if_pos hlt, if_pos h0, hb, and_self, decide_true, if_true, if_pos hi0, if_pos (show 0 ≤ i - 1 by omega), if_pos (show i - 1 < (l.length : Int) by omega), if_pos hr]
            exact Ev.now _
          · simp only [Bool.false_eq_true, false_iff]; exact fun g => by have := (g i h0 hlt).2 hi0; omega
        · obtain ⟨b, h, hbi⟩ := ih (i + 1) (by omega) (by omega) (by omega) (fun j j0 j1 => by
            by_cases e : j = i
            · rw [e]; exact ⟨hb, fun _ => by omega⟩
            · exact hp j j0 (by omega))
          refine ⟨b, Ev_succ ?_, hbi⟩
          simp (disch := omega) only [spec_l00Rises.l0, w64, l00In_eq, Option.bind_some]
          simp only [if_pos hlt, if_pos h0, hb, and_self, decide_true, if_true, if_pos hi0, if_pos (show 0 ≤ i - 1 by omega), if_pos (show i - 1 < (l.length : Int) by omega), if_neg hr]
          exact h
      · obtain ⟨b, h, hbi⟩ := ih (i + 1) (by omega) (by omega) (by omega) (fun j j0 j1 => by
          by_cases e : j = i
          · rw [e]; exact ⟨hb, fun _ => by omega⟩
          · exact hp j j0 (by omega))
        refine ⟨b, Ev_succ ?_, hbi⟩
        simp (disch := omega) only [spec_l00Rises.l0, w64, l00In_eq, Option.bind_some]
        simp only [if_pos hlt, if_pos h0, hb, and_self, decide_true, if_true, if_neg hi0]
        exact h
    · refine ⟨false, Ev_succ ?_, ?_⟩
      · simp (disch := omega) only [spec_l00Rises.l0, w64, l00In_eq, Option.bind_some]
        simp only [if_pos hlt, if_pos h0, hb, decide_false, Bool.false_eq_true, if_false]
        exact Ev.now _
      · simp only [Bool.false_eq_true, false_iff]; exact fun g => hb (g i h0 hlt).1

theorem isInc_loop (l : List Int) (hl : (l.length : Int) ≤ 4611686018427387904) (d : Nat) : ∀ i : Int, 0 ≤ i → i ≤ l.length → (l.length : Int) - i = d →
    (∀ j, 0 < j → j < i → rd l (j - 1) < rd l j) → ∃ b, Ev (fun k => impl_isIncreasing.l0 k l l.length i) b ∧ (b = true ↔ ∀ j, 0 < j → j < (l.length : Int) → rd l (j - 1) < rd l j) := by
  induction d with
  | zero =>
    intro i h0 h1 hd hp
    refine ⟨true, Ev_succ ?_, ?_⟩
    · simp only [impl_isIncreasing.l0, if_neg (show ¬ i < (l.length : Int) by omega)]; exact Ev.now _
    · simp only [true_iff]; exact fun j j0 j1 => hp j j0 (by omega)
  | succ d ih =>
    intro i h0 h1 hd hp
    have hlt : i < (l.length : Int) := by omega
    by_cases hi0 : i > 0
    · by_cases hr : rd l i ≤ rd l (i - 1)
      · refine ⟨false, Ev_succ ?_, ?_⟩
        · simp (disch := omega) only [impl_isIncreasing.l0, w64]
          simp only [if_pos hlt, if_pos hi0, if_pos h0, if_pos (show 0 ≤ i - 1 by omega), if_pos (show i - 1 < (l.length : Int) by omega), if_pos hr]
          exact Ev.now _
        · simp only [Bool.false_eq_true, false_iff]; exact fun g => by have := g i hi0 hlt; omega
      · obtain ⟨b, h, hbi⟩ := ih (i + 1) (by omega) (by omega) (by omega) (fun j j0 j1 => by
          by_cases e : j = i
          · rw [e]; omega
          · exact hp j j0 (by omega))
        refine ⟨b, Ev_succ ?_, hbi⟩
        simp (disch := omega) only [impl_isIncreasing.l0, w64]
        simp only [if_pos hlt, if_pos hi0, if_pos h0, if_pos (show 0 ≤ i - 1 by omega), if_pos (show i - 1 < (l.length : Int) by omega), if_neg hr]
        exact h
    · obtain ⟨b, h, hbi⟩ := ih (i + 1) (by omega) (by omega) (by omega) (fun j j0 j1 => by
        by_cases e : j = i
        · omega
        · exact hp j j0 (by omega))
      refine ⟨b, Ev_succ ?_, hbi⟩
      simp (disch := omega) only [impl_isIncreasing.l0, w64]
      simp only [if_pos hlt, if_neg hi0]
      exact h
theorem isInc_ev (l : List Int) (hl : (l.length : Int) ≤ 4611686018427387904) : ∃ b, Ev (fun k => impl_isIncreasing.f k l) b ∧ (b = true ↔ ∀ j, 0 < j → j < (l.length : Int) → rd l (j - 1) < rd l j) :=
  isInc_loop l hl l.length 0 (by omega) (by omega) (by omega) (fun j _ _ => by omega)

def TapsOk (l : List Int) : Prop := 1 ≤ (l.length : Int) ∧ (l.length : Int) ≤ 16 ∧ RisesIn l 1 16
theorem l06Taps_ev (l : List Int) (hl : (l.length : Int) ≤ 4611686018427387904) : ∃ b, Ev (fun k => spec_l06Taps.f k l) b ∧ (b = true ↔ TapsOk l) := by
  simp only [spec_l06Taps.f, l00In_eq, Option.bind_some]
  by_cases h : 1 ≤ (l.length : Int) ∧ (l.length : Int) ≤ 16
  · obtain ⟨b, hb, hi⟩ := l00Rises_loop l 1 16 hl l.length 0 (by omega) (by omega) (by omega) (fun j _ _ => by omega)
    refine ⟨b, ?_, by rw [hi]; exact ⟨fun g => ⟨h.1, h.2, g⟩, fun g => g.2.2⟩⟩
    simp only [h, and_self, decide_true, if_true]
    exact Ev.bind hb (Ev.now _)
  · refine ⟨false, ?_, ?_⟩
    · simp only [h, decide_false, Bool.false_eq_true, if_false]; exact Ev.now _
    · simp only [Bool.false_eq_true, false_iff]; exact fun g => h ⟨g.1, g.2.1⟩
theorem areTaps_ev (l : List Int) (hl : (l.length : Int) ≤ 4611686018427387904) : ∃ b, Ev (fun k => impl_areTaps.f k l) b ∧ (b = true ↔ TapsOk l) := by
  simp only [impl_areTaps.f]
  by_cases h1 : (l.length : Int) ≥ 1
  · by_cases h2 : (l.length : Int) ≤ 16
    · obtain ⟨b, hb, hi⟩ := areIn_ev l 1 16 hl
      obtain ⟨c, hc, hj⟩ := isInc_ev l hl
      simp only [if_pos h1, if_pos h2]
      cases b with
      | true =>
        refine ⟨c, Ev.bind hb ?_, ?_⟩
        · simp only [if_true]; exact Ev.bind hc (Ev.now _)
        · rw [hj]
          exact ⟨fun g => ⟨h1, h2, fun i i0 i1 => ⟨hi.1 rfl i i0 i1, fun z => g i z i1⟩⟩, fun g j j0 j1 => (g.2.2 j (by omega) j1).2 j0⟩
      | false =>
        refine ⟨false, Ev.bind hb ?_, ?_⟩
        · simp only [Bool.false_eq_true, if_false]; exact Ev.now _
        · simp only [Bool.false_eq_true, false_iff]
          intro g
          have := hi.2 (fun j j0 j1 => (g.2.2 j j0 j1).1)
          cases this
    · exact ⟨false, by simp only [if_pos h1, if_neg h2]; exact Ev.now _, by simp only [Bool.false_eq_true, false_iff]; exact fun g => h2 g.2.1⟩
  · exact ⟨false, by simp only [if_neg h1]; exact Ev.now _, by simp only [Bool.false_eq_true, false_iff]; exact fun g => h1 g.1⟩
def ScrOk (l : List Int) (s : ByteArray) : Prop := TapsOk l ∧ AllBit s ∧ (s.size : Int) = rd l ((l.length : Int) - 1)
theorem ScrOk.small {l : List Int} {s : ByteArray} (h : ScrOk l s) : 1 ≤ (s.size : Int) ∧ (s.size : Int) ≤ 16 := by
  obtain ⟨⟨h1, h2, h3⟩, -, h4⟩ := h
  have := (h3 ((l.length : Int) - 1) (by omega) (by omega)).1
  omega
theorem l06Is_ev (l : List Int) (s : ByteArray) (hl : (l.length : Int) ≤ 1048576) (hs : s.size ≤ 140737488351232) : ∃ b, Ev (fun k => spec_l06Is.f k l s) b ∧ (b = true ↔ ScrOk l s) := by
  obtain ⟨b, hb, hi⟩ := l06Taps_ev l (by omega)
  obtain ⟨c, hc, hj⟩ := l01Bits_ev s hs
  simp only [spec_l06Is.f]
  simp (disch := omega) only [w64]
  cases b with
  | false =>
    refine ⟨false, Ev.bind hb (by simp only [Bool.false_eq_true, if_false]; exact Ev.now _), ?_⟩
    simp only [Bool.false_eq_true, false_iff]
    exact fun g => by have := hi.2 g.1; cases this
  | true =>
    have ht := hi.1 rfl
    cases c with
    | false =>
      refine ⟨false, Ev.bind hb ?_, ?_⟩
      · simp only [if_true]
        exact Ev.bind hc (by simp only [Bool.false_eq_true, if_false]; exact Ev.now _)
      · simp only [Bool.false_eq_true, false_iff]
        exact fun g => by have := hj.2 ⟨g.2.1, by have := g.small; omega⟩; cases this
    | true =>
      have hb2 := hj.1 rfl
      refine ⟨(s.size : Int) == rd l ((l.length : Int) - 1), Ev.bind hb ?_, ?_⟩
      · simp only [if_true]
        refine Ev.bind hc ?_
        simp only [if_true, if_pos (show 0 ≤ (l.length : Int) - 1 by have := ht.1; omega), if_pos (show (l.length : Int) - 1 < (l.length : Int) by omega)]
        exact Ev.now _
      · rw [beq_iff_eq]
        exact ⟨fun g => ⟨ht, hb2.1, g⟩, fun g => g.2.2⟩

def BitL (x : List Int) : Prop := ∀ v ∈ x, v = 0 ∨ v = 1
def up (x : List Int) : List Int := x.map (fun v => 48 + v)
theorem up_length (x : List Int) : (up x).length = x.length := by simp [up]
theorem up_append (x y : List Int) : up (x ++ y) = up x ++ up y := by simp [up]
theorem up_drop (x : List Int) (n : Nat) : (up x).drop n = up (x.drop n) := by simp [up]
theorem BitL_append {x y : List Int} (hx : BitL x) (hy : BitL y) : BitL (x ++ y) := by
  intro v hv; rcases List.mem_append.1 hv with h | h
  · exact hx v h
  · exact hy v h
theorem BitL_one {v : Int} (h : v = 0 ∨ v = 1) : BitL [v] := by intro w hw; rw [List.mem_singleton.1 hw]; exact h
theorem BitL_drop {x : List Int} (hx : BitL x) (n : Nat) : BitL (x.drop n) := fun v hv => hx v (List.mem_of_mem_drop hv)
theorem rd_bit {x : List Int} (hx : BitL x) (i : Int) (h0 : 0 ≤ i) (h1 : i < x.length) : rd x i = 0 ∨ rd x i = 1 := by
  unfold rd
  rw [List.getD_eq_getElem?_getD, List.getElem?_eq_getElem (show i.toNat < x.length by omega)]
  exact hx _ (List.getElem_mem _)
theorem rd_up (x : List Int) (i : Int) (h0 : 0 ≤ i) (h1 : i < x.length) : rd (up x) i = 48 + rd x i := by
  unfold rd up
  rw [List.getD_eq_getElem?_getD, List.getD_eq_getElem?_getD, List.getElem?_map, List.getElem?_eq_getElem (show i.toNat < x.length by omega)]
  rfl
theorem xor_bit {a b : Int} (ha : a = 0 ∨ a = 1) (hb : b = 0 ∨ b = 1) : Go.bits .xor .u8 a b = 0 ∨ Go.bits .xor .u8 a b = 1 := by
  rcases ha with rfl | rfl <;> rcases hb with rfl | rfl <;> decide
theorem and_up {a : Int} (ha : a = 0 ∨ a = 1) : Go.bits .and .u8 (48 + a) 1 = a := by
  rcases ha with rfl | rfl <;> decide
theorem xor_up {a b : Int} (ha : a = 0 ∨ a = 1) (hb : b = 0 ∨ b = 1) : Go.bits .xor .u8 (48 + a) b = 48 + Go.bits .xor .u8 a b := by
  rcases ha with rfl | rfl <;> rcases hb with rfl | rfl <;> decide
theorem xor_self_down {a b : Int} (ha : a = 0 ∨ a = 1) (hb : b = 0 ∨ b = 1) : Go.bits .xor .u8 a b = Go.bits .xor .u8 b a := by
  rcases ha with rfl | rfl <;> rcases hb with rfl | rfl <;> decide
theorem rises_mono (l : List Int) {lo hi : Int} (h : RisesIn l lo hi) (d : Nat) : ∀ i : Int, 0 ≤ i → i + d < l.length → rd l i ≤ rd l (i + d) := by
  induction d with
  | zero => intro i h0 h1; simp
  | succ d ih =>
    intro i h0 h1
    have h2 := ih i h0 (by omega)
    have h3 := (h (i + d + 1) (by omega) (by omega)).2 (by omega)
    rw [show i + (d : Int) + 1 - 1 = i + d by omega] at h3
    rw [show i + ((d + 1 : Nat) : Int) = i + d + 1 by omega]
    omega
theorem tap_le {l : List Int} {s : ByteArray} (h : ScrOk l s) (i : Int) (h0 : 0 ≤ i) (h1 : i < l.length) : 1 ≤ rd l i ∧ rd l i ≤ s.size := by
  have h2 := rises_mono l h.1.2.2 ((l.length : Int) - 1 - i).toNat i h0 (by omega)
  rw [show i + (((l.length : Int) - 1 - i).toNat : Int) = (l.length : Int) - 1 by omega, ← h.2.2] at h2
  exact ⟨(h.1.2.2 i h0 h1).1.1, h2⟩
theorem sum_loop {l : List Int} {s : ByteArray} (h : ScrOk l s) (x : List Int) (hx : BitL x) (hl : s.size ≤ x.length) (hm : x.length ≤ 1000000) (d : Nat) : ∀ (v i : Int), 0 ≤ i → (l.length : Int) - i = d → (v = 0 ∨ v = 1) →
    ∃ r, (r = 0 ∨ r = 1) ∧ Ev (fun k => spec_l06Sum.l0 k l x v i) r ∧ Ev (fun k => impl_sum.l0 k (up x) v l l.length i) r := by
  induction d with
  | zero =>
    intro v i h0 hd hv
    refine ⟨v, hv, Ev_succ ?_, Ev_succ ?_⟩
    · simp only [spec_l06Sum.l0, if_neg (show ¬ i < (l.length : Int) by omega)]; exact Ev.now _
    · simp only [impl_sum.l0, if_neg (show ¬ i < (l.length : Int) by omega)]; exact Ev.now _
  | succ d ih =>
    intro v i h0 hd hv
    have hlt : i < (l.length : Int) := by omega
    have ht := tap_le h i h0 hlt
    have h16 := h.1.2.1
    have hu := up_length x
    have hb := rd_bit hx ((x.length : Int) - rd l i) (by omega) (by omega)
    obtain ⟨r, hr, hA, hB⟩ := ih _ (i + 1) (by omega) (by omega) (xor_bit hv hb)
    refine ⟨r, hr, Ev_succ ?_, Ev_succ ?_⟩
    · simp (disch := omega) only [spec_l06Sum.l0, w64]
      simp only [if_pos hlt, if_pos h0, if_pos (show 0 ≤ (x.length : Int) - rd l i by omega), if_pos (show (x.length : Int) - rd l i < x.length by omega)]
      exact hA
    · simp (disch := omega) only [impl_sum.l0, w64, hu]
      simp only [if_pos hlt, if_pos h0, if_pos (show 0 ≤ (x.length : Int) - rd l i by omega), if_pos (show (x.length : Int) - rd l i < x.length by omega), rd_up x _ (show 0 ≤ (x.length : Int) - rd l i by omega) (show (x.length : Int) - rd l i < x.length by omega), and_up hb]
      exact hB
theorem sum_both {l : List Int} {s : ByteArray} (h : ScrOk l s) (x : List Int) (hx : BitL x) (hl : s.size ≤ x.length) (hm : x.length ≤ 1000000) :
    ∃ r, (r = 0 ∨ r = 1) ∧ Ev (fun k => spec_l06Sum.f k l x) r ∧ Ev (fun k => impl_sum.f k l (up x)) r :=
  sum_loop h x hx hl hm l.length 0 0 (by omega) (by omega) (.inl rfl)
/-! the state, the earliest bit first -/
def revB (s : ByteArray) : Nat → List Int
  | 0 => []
  | n + 1 => (bt s n - 48) :: revB s n
theorem revB_length (s : ByteArray) : ∀ n, (revB s n).length = n
  | 0 => rfl
  | n + 1 => by simp [revB, revB_length s n]
theorem revB_bit (s : ByteArray) (h : AllBit s) : ∀ n : Nat, n ≤ s.size → BitL (revB s n)
  | 0, _ => by intro v hv; cases hv
  | n + 1, hn => by
    intro v hv
    rcases List.mem_cons.1 hv with e | e
    · have := h n (by omega) (by omega); omega
    · exact revB_bit s h n (by omega) v e
theorem before_loop (s : ByteArray) (h : AllBit s) (hs : s.size ≤ 1000000) : ∀ (n : Nat) (acc : List Int), n ≤ s.size → acc.length ≤ 1000000 - n → Ev (fun k => spec_l06Before.l0 k s acc ((n : Int) - 1)) (acc ++ revB s n)
  | 0, acc, _, _ => by
    refine Ev_succ ?_
    simp only [spec_l06Before.l0, if_neg (show ¬ ((0 : Nat) : Int) - 1 ≥ 0 by omega), revB, List.append_nil]
    exact Ev.now _
  | n + 1, acc, hn, ha => by
    refine Ev_succ ?_
    have hb := h n (by omega) (by omega)
    simp (disch := omega) only [spec_l06Before.l0, w64]
    simp only [show (((n + 1 : Nat) : Int) - 1) = (n : Int) by omega]
    simp only [if_pos (show (n : Int) ≥ 0 by omega), if_pos (show (0 : Int) ≤ n by omega), if_pos (show (n : Int) < s.size by omega), if_pos (show acc.length < 140737488355328 by omega), show (bt s n - 48) % 256 = bt s n - 48 by omega]
    have := before_loop s h hs n (acc ++ [bt s n - 48]) (by omega) (by simp; omega)
    rw [List.append_assoc] at this
    exact this
theorem before_ev (s : ByteArray) (h : AllBit s) (hs : s.size ≤ 1000000) : Ev (fun k => spec_l06Before.f k s) (revB s s.size) := by
  simp (disch := omega) only [spec_l06Before.f, w64]
  have := before_loop s h hs s.size [] (Nat.le_refl _) (by simp)
  rwa [List.nil_append] at this
theorem up_revB (s : ByteArray) : ∀ n : Nat, n ≤ s.size → up (revB s n) = ((Gd.zsOf s).take n).reverse
  | 0, _ => by simp [up, revB]
  | n + 1, hn => by
    have hz := Gd.zsOf_length s
    have h1 : n < (Gd.zsOf s).length := by omega
    have hd : n < s.data.toList.length := by rw [Array.length_toList]; exact hn
    rw [List.take_succ_eq_append_getElem h1, List.reverse_append, ← up_revB s n (by omega)]
    have : (Gd.zsOf s)[n] = bt s n := by rw [bt_list s n (by omega)]; simp [Gd.zsOf]
    simp [this, revB, up]
    omega
theorem history_eq (s : ByteArray) (hs : s.size ≤ 140737488355328) (l : List Int) : impl_Scrambler_history.f l s = some (up (revB s s.size)) := by
  rw [impl_Scrambler_history.f, if_pos hs, up_revB s s.size (Nat.le_refl _), ← Gd.zsOf_length, List.take_length]
/-! the text of bits -/
theorem text_loop (x : List Int) (hx : BitL x) (hl : x.length ≤ 1000000) (d : Nat) : ∀ (n : Nat), n + d = x.length → Ev (fun k => spec_l06Text.l0 k x (up (x.take n)) n) (strOfNums (up x)) := by
  induction d with
  | zero =>
    intro n hd
    refine Ev_succ ?_
    simp only [spec_l06Text.l0, if_neg (show ¬ (n : Int) < (x.length : Int) by omega), List.take_of_length_le (show x.length ≤ n by omega)]; exact Ev.now _
  | succ d ih =>
    intro n hd
    refine Ev_succ ?_
    have hn : n < x.length := by omega
    have hb := rd_bit hx n (by omega) (by omega)
    have hr : rd x n = x[n] := by unfold rd; rw [Int.toNat_natCast, List.getD_eq_getElem?_getD, List.getElem?_eq_getElem hn]; rfl
    rw [hr] at hb
    have h := ih (n + 1) (by omega)
    rw [List.take_succ_eq_append_getElem hn, up_append] at h
    have hu := up_length (x.take n)
    rw [List.length_take] at hu
    simp (disch := omega) only [spec_l06Text.l0, w64]
    simp only [if_pos (show (n : Int) < (x.length : Int) by omega), if_pos (show (0 : Int) ≤ n by omega), if_pos (show (up (x.take n)).length < 140737488355328 by omega), hr, show (48 + x[n]) % 256 = 48 + x[n] by omega]
    exact h
theorem text_ev (x : List Int) (hx : BitL x) (hl : x.length ≤ 1000000) : Ev (fun k => spec_l06Text.f k x) (strOfNums (up x)) := text_loop x hx hl x.length 0 (by omega)

theorem key_loops {l : List Int} {s : ByteArray} (h : ScrOk l s) (c : Int) (hc : c ≤ 400) (d : Nat) : ∀ (x : List Int) (i : Int), BitL x → 0 ≤ i → c - i = d → (x.length : Int) = s.size + i →
    ∃ z, BitL z ∧ (z.length : Int) = c ∧ Ev (fun k => spec_l06Key.l0 k c x i l s) z ∧ Ev (fun k => impl_Scrambler_keyBits.l0 k (up x) c i l s) (strOfNums (up z)) := by
  have h16 := h.small
  induction d with
  | zero =>
    intro x i hx h0 hd hl
    refine ⟨x.drop s.size, BitL_drop hx _, by rw [List.length_drop]; omega, Ev_succ ?_, Ev_succ ?_⟩
    · simp only [spec_l06Key.l0, if_neg (show ¬ i < c by omega), if_pos (show 0 ≤ (s.size : Int) by omega), if_pos (show (s.size : Int) ≤ x.length by omega), Int.toNat_natCast]; exact Ev.now _
    · simp only [impl_Scrambler_keyBits.l0, up_length, up_drop, if_neg (show ¬ i < c by omega), if_pos (show 0 ≤ (s.size : Int) by omega), if_pos (show (s.size : Int) ≤ x.length by omega), Int.toNat_natCast]; exact Ev.now _
  | succ d ih =>
    intro x i hx h0 hd hl
    obtain ⟨r, hr, hA, hB⟩ := sum_both h x hx (by omega) (by omega)
    obtain ⟨z, hz, hzl, hC, hD⟩ := ih (x ++ [r]) (i + 1) (BitL_append hx (BitL_one hr)) (by omega) (by omega) (by simp; omega)
    refine ⟨z, hz, hzl, Ev_succ ?_, Ev_succ ?_⟩
    · simp (disch := omega) only [spec_l06Key.l0, w64]
      simp only [if_pos (show i < c by omega)]
      refine Ev.bind hA ?_
      simp only [if_pos (show x.length < 140737488355328 by omega)]
      exact hC
    · simp (disch := omega) only [impl_Scrambler_keyBits.l0, w64]
      simp only [if_pos (show i < c by omega)]
      refine Ev.bind hB ?_
      have hu := up_length x
      simp only [if_pos (show (up x).length < 140737488355328 by omega), show (48 + r) % 256 = 48 + r by omega]
      rw [up_append] at hD
      exact hD
theorem key_both {l : List Int} {s : ByteArray} (h : ScrOk l s) (c : Int) (hc0 : 0 ≤ c) (hc : c ≤ 400) :
    ∃ z, BitL z ∧ (z.length : Int) = c ∧ Ev (fun k => spec_l06Key.f k l s c) z ∧ Ev (fun k => impl_Scrambler_keyBits.f k l s c) (strOfNums (up z)) := by
  have h16 := h.small
  have hr := revB_length s s.size
  obtain ⟨z, hz, hzl, hA, hB⟩ := key_loops h c hc c.toNat (revB s s.size) 0 (revB_bit s h.2.1 _ (Nat.le_refl _)) (by omega) (by omega) (by omega)
  refine ⟨z, hz, hzl, ?_, ?_⟩
  · simp only [spec_l06Key.f]
    exact Ev.bind (before_ev s h.2.1 (by omega)) hA
  · simp only [impl_Scrambler_keyBits.f, history_eq s (by omega) l, Option.bind_some]
    exact hB

theorem bt_sn (xs : List Int) (i : Int) (h0 : 0 ≤ i) (h1 : i < xs.length) (hr : 0 ≤ rd xs i ∧ rd xs i < 256) : bt (strOfNums xs) i = rd xs i := by
  obtain ⟨n, rfl⟩ : ∃ n : Nat, i = n := ⟨i.toNat, by omega⟩
  have hz := sn_size xs
  have hn : n < xs.length := by omega
  rw [bt_list _ n (by omega)]
  have hrd : rd xs n = xs[n] := by unfold rd; rw [Int.toNat_natCast, List.getD_eq_getElem?_getD, List.getElem?_eq_getElem hn]; rfl
  rw [hrd] at hr ⊢
  have e : (strOfNums xs).data.toList[n]'(by rw [dl_size]; omega) = UInt8.ofNat (xs[n]).toNat := by simp [strOfNums]
  rw [e, UInt8.toNat_ofNat']
  omega
theorem AllBit_up (z : List Int) (hz : BitL z) : AllBit (strOfNums (up z)) := by
  intro i h0 h1
  rw [sn_size, up_length] at h1
  have hb := rd_bit hz i h0 (by omega)
  have hr := rd_up z i h0 (by omega)
  rw [bt_sn (up z) i h0 (by rw [up_length]; omega) (by omega)]
  omega
theorem BitL_zeros (n : Nat) : BitL (List.replicate n 0) := fun v hv => .inl (List.eq_of_mem_replicate hv)
theorem zeros_text (n : Nat) (hn : n ≤ 1000000) : Ev (fun k => spec_l06Text.f k (List.replicate n 0)) (strOfNums (up (List.replicate n 0))) := text_ev _ (BitL_zeros n) (by simp; omega)
theorem zeros_size (n : Nat) : (strOfNums (up (List.replicate n 0))).size = n := by rw [sn_size, up_length, List.length_replicate]

def mixed (z : List Int) (t : ByteArray) (i : Int) (y : List Int) : Prop := BitL y ∧ y.length = z.length ∧ ∀ j : Int, 0 ≤ j → j < z.length → rd y j = if j < i then Go.bits .xor .u8 (rd z j) (bt t j - 48) else rd z j
theorem BitL_set {y : List Int} (h : BitL y) (i : Nat) {v : Int} (hv : v = 0 ∨ v = 1) : BitL (y.set i v) := by
  intro x hx
  rcases List.mem_or_eq_of_mem_set hx with h1 | h1
  · exact h x h1
  · rw [h1]; exact hv
theorem add_loop (z : List Int) (hz : BitL z) (t : ByteArray) (ht : AllBit t) (hts : t.size ≤ 400) (hl : z.length = t.size) (l : List Int) (s : ByteArray) (d : Nat) : ∀ (y : List Int) (i : Int), mixed z t i y → 0 ≤ i → (t.size : Int) - i = d →
    ∃ y', mixed z t t.size y' ∧ Ev (fun k => spec_AddScramble.l0 k t y i) (strOfNums (up y'), true) := by
  induction d with
  | zero =>
    intro y i hm h0 hd
    refine ⟨y, ?_, Ev_succ ?_⟩
    · rw [show (t.size : Int) = i by omega]; exact hm
    · simp only [spec_AddScramble.l0, if_neg (show ¬ i < (t.size : Int) by omega)]
      exact Ev.bind (text_ev y hm.1 (by have := hm.2.1; omega)) (Ev.now _)
  | succ d ih =>
    intro y i hm h0 hd
    obtain ⟨hy, hyl, hp⟩ := hm
    have hlt : i < (t.size : Int) := by omega
    have hb := ht i h0 hlt
    have hb' : bt t i - 48 = 0 ∨ bt t i - 48 = 1 := by omega
    have hyi := rd_bit hy i h0 (by omega)
    obtain ⟨y', hm', h⟩ := ih (y.set i.toNat (Go.bits .xor .u8 (rd y i) (bt t i - 48))) (i + 1) ⟨BitL_set hy _ (xor_bit hyi hb'), by rw [List.length_set]; exact hyl, fun j j0 j1 => by
      rw [rd_set y i j _ h0 (by omega) j0]
      have := hp i h0 (by omega)
      rw [if_neg (by omega)] at this
      by_cases e : j = i
      · rw [if_pos e, if_pos (by omega), e, this]
      · rw [if_neg e, hp j j0 j1]
        by_cases g : j < i
        · rw [if_pos g, if_pos (by omega)]
        · rw [if_neg g, if_neg (by omega)]⟩ (by omega) (by omega)
    refine ⟨y', hm', Ev_succ ?_⟩
    simp (disch := omega) only [spec_AddScramble.l0, w64]
    simp only [if_pos hlt, if_pos h0, if_pos (show i < (y.length : Int) by omega), show (bt t i - 48) % 256 = bt t i - 48 by omega]
    exact h

def sumT : List Int → List Int → Int
  | [], _ => 0
  | t :: r, x => rd x ((x.length : Int) - t) + sumT r x
def sumM (l x : List Int) : Int := sumT l x % 2
theorem xor_mod {a b : Int} (ha : a = 0 ∨ a = 1) (hb : b = 0 ∨ b = 1) : Go.bits .xor .u8 a b = (a + b) % 2 := by
  rcases ha with rfl | rfl <;> rcases hb with rfl | rfl <;> decide
theorem sumM_bit (l x : List Int) : sumM l x = 0 ∨ sumM l x = 1 := by unfold sumM; omega
theorem drop_rd (l : List Int) (n : Nat) (h : n < l.length) : l.drop n = rd l n :: l.drop (n + 1) := by
  rw [List.drop_eq_getElem_cons h]
  congr 1
  unfold rd
  rw [Int.toNat_natCast, List.getD_eq_getElem?_getD, List.getElem?_eq_getElem h]
  rfl
theorem sum_loopM {l : List Int} {s : ByteArray} (h : ScrOk l s) (x : List Int) (hx : BitL x) (hl : s.size ≤ x.length) (hm : x.length ≤ 1000000) (d : Nat) : ∀ (v : Int) (i : Nat), i + d = l.length → (v = 0 ∨ v = 1) →
    Ev (fun k => impl_sum.l0 k (up x) v l l.length i) ((v + sumT (l.drop i) x) % 2) := by
  induction d with
  | zero =>
    intro v i hd hv
    refine Ev_succ ?_
    rw [List.drop_of_length_le (by omega), sumT]
    simp only [impl_sum.l0, if_neg (show ¬ (i : Int) < (l.length : Int) by omega)]
    rw [show (v + 0) % 2 = v by omega]; exact Ev.now _
  | succ d ih =>
    intro v i hd hv
    have hlt : (i : Int) < (l.length : Int) := by omega
    have h0 : (0 : Int) ≤ i := by omega
    have ht := tap_le h i h0 hlt
    have h16 := h.1.2.1
    have hu := up_length x
    have q0 : 0 ≤ (x.length : Int) - rd l i := by omega
    have q1 : (x.length : Int) - rd l i < x.length := by omega
    have hb := rd_bit hx ((x.length : Int) - rd l i) q0 q1
    have hv' : (v + rd x ((x.length : Int) - rd l i)) % 2 = 0 ∨ (v + rd x ((x.length : Int) - rd l i)) % 2 = 1 := by omega
    have hE := ih _ (i + 1) (by omega) hv'
    have b1 : -9223372036854775808 ≤ (x.length : Int) - rd l i ∧ (x.length : Int) - rd l i ≤ 9223372036854775807 := by omega
    have b2 : -9223372036854775808 ≤ ((i + 1 : Nat) : Int) ∧ ((i + 1 : Nat) : Int) ≤ 9223372036854775807 := by omega
    have b3 : (i : Int) + 1 = ((i + 1 : Nat) : Int) := by omega
    have e : ((v + rd x ((x.length : Int) - rd l i)) % 2 + sumT (l.drop (i + 1)) x) % 2 = (v + sumT (l.drop i) x) % 2 := by
      rw [drop_rd l i (by omega), sumT]; omega
    rw [e] at hE
    refine Ev_succ ?_
    simp only [impl_sum.l0, hu, w64 b1.1 b1.2, b3, w64 b2.1 b2.2, if_pos hlt, if_pos h0, if_pos q0, if_pos q1, rd_up x _ q0 q1, and_up hb, xor_mod hv hb]
    exact hE
theorem sum_evM {l : List Int} {s : ByteArray} (h : ScrOk l s) (x : List Int) (hx : BitL x) (hl : s.size ≤ x.length) (hm : x.length ≤ 1000000) : Ev (fun k => impl_sum.f k l (up x)) (sumM l x) := by
  have := sum_loopM h x hx hl hm l.length 0 0 (by omega) (.inl rfl)
  rw [List.drop_zero, Int.zero_add] at this
  exact this
def scrS (l : List Int) : List Int → List Int → List Int
  | _, [] => []
  | x, b :: r => (b + sumM l x) % 2 :: scrS l (x ++ [(b + sumM l x) % 2]) r
def desS (l : List Int) : List Int → List Int → List Int
  | _, [] => []
  | x, c :: r => (c + sumM l x) % 2 :: desS l (x ++ [c]) r
def keyS (l : List Int) : List Int → Nat → List Int
  | _, 0 => []
  | x, n + 1 => sumM l x :: keyS l (x ++ [sumM l x]) n
def addS (a b : List Int) : List Int := List.zipWith (fun x y => (x + y) % 2) a b
theorem BitL_mod (v : Int) : v % 2 = 0 ∨ v % 2 = 1 := by omega
theorem scrS_bit (l : List Int) : ∀ b x, BitL (scrS l x b)
  | [], x => by intro v hv; cases hv
  | b :: r, x => by
    intro v hv
    rcases List.mem_cons.1 hv with e | e
    · rw [e]; exact BitL_mod _
    · exact scrS_bit l r _ v e
theorem scrS_length (l : List Int) : ∀ b x, (scrS l x b).length = b.length
  | [], x => rfl
  | b :: r, x => by rw [scrS, List.length_cons, List.length_cons, scrS_length l r]
theorem desS_bit (l : List Int) : ∀ b x, BitL (desS l x b)
  | [], x => by intro v hv; cases hv
  | b :: r, x => by
    intro v hv
    rcases List.mem_cons.1 hv with e | e
    · rw [e]; exact BitL_mod _
    · exact desS_bit l r _ v e
theorem desS_length (l : List Int) : ∀ b x, (desS l x b).length = b.length
  | [], x => rfl
  | b :: r, x => by rw [desS, List.length_cons, List.length_cons, desS_length l r]
theorem keyS_bit (l : List Int) : ∀ n x, BitL (keyS l x n)
  | 0, x => by intro v hv; cases hv
  | n + 1, x => by
    intro v hv
    rcases List.mem_cons.1 hv with e | e
    · rw [e]; exact sumM_bit _ _
    · exact keyS_bit l n _ v e
theorem keyS_length (l : List Int) : ∀ n x, (keyS l x n).length = n
  | 0, x => rfl
  | n + 1, x => by rw [keyS, List.length_cons, keyS_length l n]
theorem BitL_tail {b : Int} {r : List Int} (h : BitL (b :: r)) : (b = 0 ∨ b = 1) ∧ BitL r := ⟨h b List.mem_cons_self, fun v hv => h v (List.mem_cons_of_mem _ hv)⟩
theorem desS_scrS (l : List Int) : ∀ b x, BitL b → desS l x (scrS l x b) = b
  | [], x, h => rfl
  | b :: r, x, h => by
    rw [scrS, desS, desS_scrS l r _ (BitL_tail h).2]
    congr 1
    have := (BitL_tail h).1
    omega
theorem addS_addS : ∀ a b : List Int, BitL a → a.length = b.length → addS (addS a b) b = a
  | [], b, h, hl => by simp [addS]
  | a :: r, [], h, hl => by simp at hl
  | a :: r, b :: q, h, hl => by
    have e := addS_addS r q (BitL_tail h).2 (by simpa using hl)
    unfold addS at e ⊢
    rw [List.zipWith_cons_cons, List.zipWith_cons_cons, e]
    congr 1
    have := (BitL_tail h).1
    omega
theorem addS_length (a b : List Int) (h : a.length = b.length) : (addS a b).length = a.length := by simp [addS, h]
theorem addS_bit (a b : List Int) : BitL (addS a b) := by
  intro v hv
  unfold addS at hv
  obtain ⟨n, hn, e⟩ := List.getElem_of_mem hv
  rw [← e, List.getElem_zipWith]
  exact BitL_mod _
theorem desS_append (l : List Int) : ∀ a b x, desS l x (a ++ b) = desS l x a ++ desS l (x ++ a) b
  | [], b, x => by simp [desS]
  | c :: r, b, x => by
    rw [List.cons_append, desS, desS, List.cons_append, desS_append l r b, List.append_assoc, List.singleton_append]
theorem rd_app (x z : List Int) (t : Int) (h1 : 1 ≤ t) (h2 : t ≤ z.length) : rd (x ++ z) (((x ++ z).length : Int) - t) = rd z ((z.length : Int) - t) := by
  unfold rd
  have e : (((x ++ z).length : Int) - t).toNat = x.length + ((z.length : Int) - t).toNat := by rw [List.length_append]; omega
  rw [e, List.getD_eq_getElem?_getD, List.getD_eq_getElem?_getD, List.getElem?_append_right (by omega), Nat.add_sub_cancel_left]
theorem sumT_app (x z : List Int) : ∀ l : List Int, (∀ t ∈ l, 1 ≤ t ∧ t ≤ z.length) → sumT l (x ++ z) = sumT l z
  | [], h => rfl
  | t :: r, h => by
    have ht := h t List.mem_cons_self
    rw [sumT, sumT, sumT_app x z r (fun q hq => h q (List.mem_cons_of_mem _ hq)), rd_app x z t ht.1 ht.2]
theorem desS_tail (l x : List Int) : ∀ (r z : List Int), (∀ t ∈ l, 1 ≤ t ∧ t ≤ z.length) → desS l (x ++ z) r = desS l z r
  | [], z, h => rfl
  | c :: r, z, h => by
    rw [desS, desS, sumM, sumM, sumT_app x z l h, List.append_assoc, desS_tail l x r (z ++ [c]) (fun t ht => by have := h t ht; rw [List.length_append]; simp; omega)]
theorem taps_mem {l : List Int} {s : ByteArray} (h : ScrOk l s) : ∀ t ∈ l, 1 ≤ t ∧ t ≤ s.size := by
  intro t ht
  obtain ⟨n, hn, rfl⟩ := List.getElem_of_mem ht
  have := tap_le h n (by omega) (by omega)
  have e : rd l n = l[n] := by unfold rd; rw [Int.toNat_natCast, List.getD_eq_getElem?_getD, List.getElem?_eq_getElem hn]; rfl
  rw [e] at this
  exact this
theorem rd_nat (l : List Int) (n : Nat) (h : n < l.length) : rd l n = l[n] := by
  unfold rd; rw [Int.toNat_natCast, List.getD_eq_getElem?_getD, List.getElem?_eq_getElem h]; rfl
theorem bt_up (b : List Int) (hb : BitL b) (i : Nat) (h : i < b.length) : bt (strOfNums (up b)) i = 48 + rd b i := by
  have h1 := rd_up b i (by omega) (by omega)
  have h2 := rd_bit hb i (by omega) (by omega)
  rw [bt_sn (up b) i (by omega) (by rw [up_length]; omega) (by rw [h1]; omega), h1]
theorem sz_up (b : List Int) : (strOfNums (up b)).size = b.length := by rw [sn_size, up_length]
theorem key_loopM {l : List Int} {s : ByteArray} (h : ScrOk l s) (n : Nat) (hn : n ≤ 400) (d : Nat) : ∀ (x : List Int) (i : Nat), i + d = n → BitL x → x.length = s.size + i →
    Ev (fun k => impl_Scrambler_keyBits.l0 k (up x) (n : Int) i l s) (strOfNums (up (x.drop s.size ++ keyS l x d))) := by
  have h16 := h.small
  induction d with
  | zero =>
    intro x i hd hx hl
    refine Ev_succ ?_
    have q1 : ¬ (i : Int) < (n : Int) := by omega
    have q2 : (s.size : Int) ≤ (x.length : Int) := by omega
    have q3 : (0 : Int) ≤ s.size := by omega
    rw [keyS, List.append_nil]
    simp only [impl_Scrambler_keyBits.l0, if_neg q1, up_length, if_pos q3, if_pos q2, Int.toNat_natCast, up_drop]
    exact Ev.now _
  | succ d ih =>
    intro x i hd hx hl
    have q0 : (i : Int) < (n : Int) := by omega
    have q3 : (up x).length < 140737488355328 := by rw [up_length]; omega
    have b2 : -9223372036854775808 ≤ ((i + 1 : Nat) : Int) ∧ ((i + 1 : Nat) : Int) ≤ 9223372036854775807 := by omega
    have b3 : (i : Int) + 1 = ((i + 1 : Nat) : Int) := by omega
    have hs := sum_evM h x hx (by omega) (by omega)
    have hsb := sumM_bit l x
    have e4 : (48 + sumM l x) % 256 = 48 + sumM l x := by omega
    have hE := ih (x ++ [sumM l x]) (i + 1) (by omega) (BitL_append hx (BitL_one hsb)) (by simp; omega)
    have e2 : (x ++ [sumM l x]).drop s.size = x.drop s.size ++ [sumM l x] := List.drop_append_of_le_length (by omega)
    have e3 : x.drop s.size ++ keyS l x (d + 1) = (x ++ [sumM l x]).drop s.size ++ keyS l (x ++ [sumM l x]) d := by
      rw [keyS, e2, List.append_assoc]; rfl
    rw [← e3, up_append] at hE
    have e5 : up [sumM l x] = [48 + sumM l x] := rfl
    rw [e5] at hE
    refine Ev_succ ?_
    simp only [impl_Scrambler_keyBits.l0, if_pos q0]
    refine Ev.bind hs ?_
    simp only [if_pos q3, e4, b3, w64 b2.1 b2.2]
    exact hE
theorem xor_up8 {a b : Int} (ha : a = 0 ∨ a = 1) (hb : b = 0 ∨ b = 1) : (if UInt8.ofNat (48 + a).toNat = UInt8.ofNat (48 + b).toNat then (48 : UInt8) else 49) = UInt8.ofNat (48 + (a + b) % 2).toNat := by
  rcases ha with rfl | rfl <;> rcases hb with rfl | rfl <;> decide
theorem xorL_up : ∀ a b : List Int, BitL a → BitL b → xorL (strOfNums (up a)).data.toList (strOfNums (up b)).data.toList = (strOfNums (up (addS a b))).data.toList
  | [], b, h, g => by simp [xorL, strOfNums, up, addS]
  | a :: r, [], h, g => by simp [xorL, strOfNums, up, addS]
  | a :: r, b :: q, h, g => by
    have e := xorL_up r q (BitL_tail h).2 (BitL_tail g).2
    have e1 : ∀ (v : Int) (z : List Int), (strOfNums (up (v :: z))).data.toList = UInt8.ofNat (48 + v).toNat :: (strOfNums (up z)).data.toList := fun v z => by simp [strOfNums, up]
    rw [e1, e1, show addS (a :: r) (b :: q) = (a + b) % 2 :: addS r q from rfl, e1]
    unfold xorL at e ⊢
    rw [List.zipWith_cons_cons, e, xor_up8 (BitL_tail h).1 (BitL_tail g).1]
theorem xorBits_eq (a b : List Int) (ha : BitL a) (hb : BitL b) (hl : a.length = b.length) (h4 : a.length ≤ 400) : impl_xorBits.f (strOfNums (up a)) (strOfNums (up b)) = some (strOfNums (up (addS a b))) := by
  unfold impl_xorBits.f
  rw [if_pos ⟨by rw [sz_up, sz_up]; omega, by rw [sz_up]; omega⟩, xorL_up a b ha hb]
theorem isBits_up (b : List Int) (hb : BitL b) (hbl : b.length ≤ 400) : impl_IsBits.f (strOfNums (up b)) = some true := by
  obtain ⟨c, hc, hd⟩ := isBits_ev (strOfNums (up b)) (by rw [sz_up]; omega)
  have : c = true := hd.2 ⟨AllBit_up b hb, by rw [sz_up]; omega⟩
  rw [hc, this]
def hist (s : ByteArray) : List Int := revB s s.size
theorem hist_ok {l : List Int} {s : ByteArray} (h : ScrOk l s) : BitL (hist s) ∧ (hist s).length = s.size := ⟨revB_bit s h.2.1 _ (Nat.le_refl _), revB_length s _⟩
theorem hist_drop {l : List Int} {s : ByteArray} (h : ScrOk l s) : (hist s).drop s.size = [] := List.drop_of_length_le (by rw [(hist_ok h).2]; exact Nat.le_refl _)
theorem keyBits_ev {l : List Int} {s : ByteArray} (h : ScrOk l s) (n : Nat) (hn : n ≤ 400) : Ev (fun k => impl_Scrambler_keyBits.f k l s n) (strOfNums (up (keyS l (hist s) n))) := by
  have h16 := h.small
  have hE := key_loopM h n hn n (hist s) 0 (by omega) (hist_ok h).1 (by rw [(hist_ok h).2]; rfl)
  rw [hist_drop h, List.nil_append] at hE
  simp only [impl_Scrambler_keyBits.f, history_eq s (by omega) l, Option.bind_some]
  exact hE

theorem rd_app_r (a b : List Int) (i : Nat) : rd (a ++ b) ((a.length + i : Nat) : Int) = rd b i := by
  unfold rd
  rw [Int.toNat_natCast, Int.toNat_natCast, List.getD_eq_getElem?_getD, List.getD_eq_getElem?_getD, List.getElem?_append_right (by omega), Nat.add_sub_cancel_left]
theorem rd_setN (l : List Int) (i j : Nat) (v : Int) (hi : i < l.length) : rd (l.set i v) j = if j = i then v else rd l j := by
  unfold rd
  rw [Int.toNat_natCast, List.getD_eq_getElem?_getD, List.getD_eq_getElem?_getD]
  by_cases e : j = i
  · subst e; rw [if_pos rfl, List.getElem?_set_self hi]; rfl
  · rw [if_neg e, List.getElem?_set_ne (fun g => e g.symm)]
theorem taps_splitK {T : List Int} {s : ByteArray} (h : ScrOk T s) : ∃ A, T = A ++ [(s.size : Int)] ∧ ∀ t ∈ A, 1 ≤ t ∧ t < s.size := by
  have h1 := h.1.1
  have hT : T.length - 1 < T.length := by omega
  have hd : T = T.take (T.length - 1) ++ [T[T.length - 1]] := by
    conv => lhs; rw [← List.take_append_drop (T.length - 1) T]
    rw [List.drop_eq_getElem_cons hT, List.drop_of_length_le (by omega)]
  have hl := rd_nat T (T.length - 1) hT
  have hs := h.2.2
  rw [show (T.length : Int) - 1 = ((T.length - 1 : Nat) : Int) by omega, hl] at hs
  refine ⟨T.take (T.length - 1), by rw [hs]; exact hd, fun t ht => ?_⟩
  obtain ⟨n, hn, rfl⟩ := List.getElem_of_mem ht
  rw [List.length_take] at hn
  have hn' : n < T.length := by omega
  rw [List.getElem_take]
  have hb := (h.1.2.2 n (by omega) (by omega)).1.1
  have hst := (h.1.2.2 ((n + 1 : Nat) : Int) (by omega) (by omega)).2 (by omega)
  rw [show ((n + 1 : Nat) : Int) - 1 = (n : Int) by omega] at hst
  have hm := rises_mono T h.1.2.2 (T.length - 1 - (n + 1)) ((n + 1 : Nat) : Int) (by omega) (by omega)
  rw [show ((n + 1 : Nat) : Int) + ((T.length - 1 - (n + 1) : Nat) : Int) = ((T.length - 1 : Nat) : Int) by omega, hl, ← hs] at hm
  rw [rd_nat T n hn'] at hb hst
  omega
theorem rd_addSK (x y : List Int) (h : x.length = y.length) (i : Int) : rd (addS x y) i = (rd x i + rd y i) % 2 := by
  unfold rd addS
  rw [List.getD_eq_getElem?_getD, List.getD_eq_getElem?_getD, List.getD_eq_getElem?_getD, List.getElem?_zipWith]
  by_cases c : i.toNat < x.length
  · rw [List.getElem?_eq_getElem c, List.getElem?_eq_getElem (show i.toNat < y.length by omega)]; rfl
  · rw [List.getElem?_eq_none (by omega), List.getElem?_eq_none (by omega)]; rfl
def bitsOf (s : ByteArray) : List Int := s.data.toList.map (fun c => (c.toNat : Int) - 48)
theorem bitsOf_ok (s : ByteArray) (h : AllBit s) : BitL (bitsOf s) ∧ s = strOfNums (up (bitsOf s)) ∧ (bitsOf s).length = s.size := by
  have hb : ∀ c ∈ s.data.toList, (c.toNat : Int) = 48 ∨ (c.toNat : Int) = 49 := by
    intro c hc
    obtain ⟨n, hn, rfl⟩ := List.getElem_of_mem hc
    have hn' : n < s.size := by rw [← dl_size]; exact hn
    have := h n (by omega) (by omega)
    rw [bt_list s n hn'] at this
    exact this
  refine ⟨?_, ?_, by unfold bitsOf; rw [List.length_map, dl_size]⟩
  · intro v hv
    obtain ⟨c, hc, rfl⟩ := List.mem_map.1 hv
    have := hb c hc
    omega
  · apply ba_ext
    have e : (strOfNums (up (bitsOf s))).data.toList = s.data.toList.map (fun c => UInt8.ofNat (48 + ((c.toNat : Int) - 48)).toNat) := by
      simp [strOfNums, up, bitsOf]
    rw [e]
    conv => lhs; rw [← List.map_id s.data.toList]
    apply List.map_congr_left
    intro c hc
    show c = _
    rw [show (48 + ((c.toNat : Int) - 48)).toNat = c.toNat by omega]
    exact UInt8.ofNat_toNat.symm
theorem byte_up {v : Int} (h : v = 0 ∨ v = 1) : ((UInt8.ofNat (48 + v).toNat).toNat : Int) = 48 + v := by rcases h with rfl | rfl <;> decide
theorem bytesOf_up (b : List Int) (hb : BitL b) : bytesOf (strOfNums (up b)) = up b := by
  have e : bytesOf (strOfNums (up b)) = b.map (fun v => ((UInt8.ofNat (48 + v).toNat).toNat : Int)) := by simp [bytesOf, strOfNums, up]
  rw [e]
  unfold up
  apply List.map_congr_left
  intro v hv
  exact byte_up (hb v hv)
theorem extract_up (b : List Int) (n : Nat) : (strOfNums (up b)).extract 0 n = strOfNums (up (b.take n)) := by
  apply ba_ext
  rw [ex_list]
  simp [strOfNums, up, List.map_take]
theorem up_inj {a b : List Int} (ha : BitL a) (hb : BitL b) (h : strOfNums (up a) = strOfNums (up b)) : a = b := by
  have h1 := congrArg bytesOf h
  rw [bytesOf_up a ha, bytesOf_up b hb] at h1
  unfold up at h1
  exact (List.map_inj_right (fun x y e => by omega)).1 h1
theorem rev_swap (l : List Int) (hl : l.length ≤ 1000000) (d : Nat) : ∀ (y : List Int) (i : Nat), l.length ≤ 2 * i + d + 1 → 2 * i ≤ l.length + 1 → y.length = l.length → (∀ j : Nat, j < l.length → rd y j = if j < i ∨ l.length ≤ j + i then rd l ((l.length - 1 - j : Nat) : Int) else rd l j) →
    Ev (fun k => slices_Reverse_byte_byte.l0 k y i ((l.length : Int) - 1 - i)) l.reverse := by
  have fin : ∀ (y : List Int) (i : Nat), l.length ≤ 2 * i + 1 → y.length = l.length → (∀ j : Nat, j < l.length → rd y j = if j < i ∨ l.length ≤ j + i then rd l ((l.length - 1 - j : Nat) : Int) else rd l j) → y = l.reverse := by
    intro y i hi hy hp
    apply List.ext_getElem (by rw [List.length_reverse, hy])
    intro j h1 h2
    have := hp j (by omega)
    rw [rd_nat y j h1] at this
    rw [this, List.getElem_reverse]
    by_cases c : j < i ∨ l.length ≤ j + i
    · rw [if_pos c, rd_nat l _ (by omega)]
    · rw [if_neg c, rd_nat l j (by omega)]
      congr 1
      omega
  induction d with
  | zero =>
    intro y i h1 h2 hy hp
    rw [← fin y i (by omega) hy hp]
    refine Ev_succ ?_
    simp only [slices_Reverse_byte_byte.l0, if_neg (show ¬ (i : Int) < (l.length : Int) - 1 - i by omega)]; exact Ev.now _
  | succ d ih =>
    intro y i h1 h2 hy hp
    by_cases c : (i : Int) < (l.length : Int) - 1 - i
    · obtain ⟨e, he⟩ : ∃ e : Nat, (l.length : Int) - 1 - i = e := ⟨l.length - 1 - i, by omega⟩
      rw [he] at c ⊢
      have hye := hp e (by omega)
      have hyi := hp i (by omega)
      rw [if_neg (by omega)] at hye hyi
      have q1 : (0 : Int) ≤ e := by omega
      have q2 : (e : Int) < (y.length : Int) := by omega
      have q3 : (0 : Int) ≤ i := by omega
      have q4 : (i : Int) < (y.length : Int) := by omega
      have b1 : -9223372036854775808 ≤ ((i + 1 : Nat) : Int) ∧ ((i + 1 : Nat) : Int) ≤ 9223372036854775807 := by omega
      have b2 : (i : Int) + 1 = ((i + 1 : Nat) : Int) := by omega
      have b3 : -9223372036854775808 ≤ (e : Int) - 1 ∧ (e : Int) - 1 ≤ 9223372036854775807 := by omega
      have hE := ih ((y.set i (rd y e)).set e (rd y i)) (i + 1) (by omega) (by omega) (by rw [List.length_set, List.length_set]; exact hy) (fun j hj => by
        have s1 := rd_setN (y.set i (rd y e)) e j (rd y i) (by rw [List.length_set]; omega)
        have s2 := rd_setN y i j (rd y e) (by omega)
        rw [s1, s2]
        by_cases j1 : j = e
        · rw [if_pos j1, if_pos (by omega), hyi, j1, show l.length - 1 - e = i by omega]
        · rw [if_neg j1]
          by_cases j2 : j = i
          · rw [if_pos j2, if_pos (by omega), hye, j2, show l.length - 1 - i = e by omega]
          · rw [if_neg j2, hp j hj]
            by_cases g : j < i ∨ l.length ≤ j + i
            · rw [if_pos g, if_pos (by omega)]
            · rw [if_neg g, if_neg (by omega)])
      rw [show (l.length : Int) - 1 - ((i + 1 : Nat) : Int) = (e : Int) - 1 by omega] at hE
      refine Ev_succ ?_
      simp only [slices_Reverse_byte_byte.l0, if_pos c, if_pos q1, if_pos q2, if_pos q3, if_pos q4, Int.toNat_natCast, b2, w64 b1.1 b1.2, w64 b3.1 b3.2]
      exact hE
    · rw [← fin y i (by omega) hy hp]
      refine Ev_succ ?_
      simp only [slices_Reverse_byte_byte.l0, if_neg c]; exact Ev.now _
theorem rev_ev (l : List Int) (hl : l.length ≤ 1000000) : Ev (fun k => slices_Reverse_byte_byte.f k l) l.reverse := by
  have b : -9223372036854775808 ≤ (l.length : Int) - 1 ∧ (l.length : Int) - 1 ≤ 9223372036854775807 := by omega
  have h := rev_swap l hl l.length l 0 (by omega) (by omega) rfl (fun j hj => by rw [if_neg (by omega)])
  rw [show (l.length : Int) - 1 - ((0 : Nat) : Int) = (l.length : Int) - 1 by omega] at h
  simp only [slices_Reverse_byte_byte.f, w64 b.1 b.2]
  exact h
def sumB : List Int → List Int → Int → Int
  | [], _, _ => 0
  | t :: r, x, i => rd x (i - t) + sumB r x i
def prevB (A : List Int) (W : Nat) (y : List Int) : Int := (rd y ((W : Int) - 1) + sumB A y ((W : Int) - 1)) % 2
theorem prevB_bit (A : List Int) (W : Nat) (y : List Int) : prevB A W y = 0 ∨ prevB A W y = 1 := by unfold prevB; omega
theorem impl_inner (A : List Int) (W : Nat) (hW : 1 ≤ W ∧ W ≤ 16) (hA : ∀ t ∈ A, 1 ≤ t ∧ t < W) (hAl : A.length ≤ 16) (T : List Int) (kt : ByteArray) (y : List Int) (hy : BitL y) (m : Nat) (hm : m < W) (hyl : y.length = W + m) (r : ByteArray × Bool)
    (h : Ev (fun k => impl_FindKey.l0 k T W kt (List.replicate (W - (m + 1)) 0 ++ up (prevB A W y :: y)) ((W : Int) - 1 - ((m + 1 : Nat) : Int))) r) (d : Nat) : ∀ (v : Int) (j : Nat), j + d = A.length → (v = 0 ∨ v = 1) → (v + sumB (A.drop j) y ((W : Int) - 1)) % 2 = prevB A W y →
    Ev (fun k => impl_FindKey.l1 k T W kt (List.replicate (W - m) 0 ++ up y) ((W : Int) - 1 - m) v A A.length j) r := by
  have hlen : ((List.replicate (W - m) (0 : Int) ++ up y).length : Int) = 2 * W := by rw [List.length_append, List.length_replicate, up_length]; omega
  have hrd : ∀ q : Nat, q < y.length → rd (List.replicate (W - m) 0 ++ up y) ((W - m + q : Nat) : Int) = 48 + rd y q := by
    intro q hq
    have e1 := rd_app_r (List.replicate (W - m) (0 : Int)) (up y) q
    rw [List.length_replicate] at e1
    rw [e1, rd_up y q (by omega) (by omega)]
  induction d with
  | zero =>
    intro v j hd hv he
    rw [List.drop_of_length_le (by omega), sumB] at he
    have hve : v = prevB A W y := by omega
    have q1 : ¬ (j : Int) < (A.length : Int) := by omega
    obtain ⟨n, hn⟩ : ∃ n : Nat, (W : Int) - 1 - m = n := ⟨W - 1 - m, by omega⟩
    have q2 : (0 : Int) ≤ n := by omega
    have q3 : (n : Int) < ((List.replicate (W - m) (0 : Int) ++ up y).length : Int) := by rw [hlen]; omega
    have hp := prevB_bit A W y
    have b1 : (48 + prevB A W y) % 256 = 48 + prevB A W y := by omega
    have b2 : -9223372036854775808 ≤ (n : Int) - 1 ∧ (n : Int) - 1 ≤ 9223372036854775807 := by omega
    have hset : (List.replicate (W - m) (0 : Int) ++ up y).set n (48 + prevB A W y) = List.replicate (W - (m + 1)) 0 ++ up (prevB A W y :: y) := by
      have e1 : List.replicate (W - m) (0 : Int) = List.replicate (W - (m + 1)) 0 ++ [0] := by rw [show W - m = W - (m + 1) + 1 by omega, List.replicate_succ']
      have hle : (List.replicate (W - (m + 1)) (0 : Int)).length ≤ n := by rw [List.length_replicate]; omega
      rw [e1, List.append_assoc, List.set_append_right _ _ hle, List.length_replicate, show n - (W - (m + 1)) = 0 by omega]
      rfl
    rw [hn]
    refine Ev_succ ?_
    simp only [impl_FindKey.l1, if_neg q1, if_pos q2, if_pos q3, Int.toNat_natCast, hve, b1, w64 b2.1 b2.2, hset]
    rw [show (W : Int) - 1 - ((m + 1 : Nat) : Int) = (n : Int) - 1 by omega] at h
    exact h
  | succ d ih =>
    intro v j hd hv he
    have hj : j < A.length := by omega
    have q1 : (j : Int) < (A.length : Int) := by omega
    have q0 : (0 : Int) ≤ j := by omega
    have hrA := rd_nat A j hj
    have ht := hA _ (List.getElem_mem hj)
    rw [← hrA] at ht
    obtain ⟨q, hq⟩ : ∃ q : Nat, (W : Int) - 1 - rd A j = q := ⟨((W : Int) - 1 - rd A j).toNat, by omega⟩
    have hb := rd_bit hy q (by omega) (by omega)
    have e0 : (W : Int) + ((W : Int) - 1 - m) - rd A j = ((W - m + q : Nat) : Int) := by omega
    have b0 : -9223372036854775808 ≤ (W : Int) + ((W : Int) - 1 - m) ∧ (W : Int) + ((W : Int) - 1 - m) ≤ 9223372036854775807 := by omega
    have b1 : -9223372036854775808 ≤ ((W - m + q : Nat) : Int) ∧ ((W - m + q : Nat) : Int) ≤ 9223372036854775807 := by omega
    have b2 : -9223372036854775808 ≤ ((j + 1 : Nat) : Int) ∧ ((j + 1 : Nat) : Int) ≤ 9223372036854775807 := by omega
    have b3 : (j : Int) + 1 = ((j + 1 : Nat) : Int) := by omega
    have q2 : (0 : Int) ≤ ((W - m + q : Nat) : Int) := by omega
    have q3 : ((W - m + q : Nat) : Int) < ((List.replicate (W - m) (0 : Int) ++ up y).length : Int) := by rw [hlen]; omega
    have hE := ih ((v + rd y q) % 2) (j + 1) (by omega) (by omega) (by
      rw [drop_rd A j hj, sumB, hq] at he
      rw [← he]; omega)
    refine Ev_succ ?_
    simp only [impl_FindKey.l1, if_pos q1, if_pos q0, w64 b0.1 b0.2, e0, w64 b1.1 b1.2, if_pos q2, if_pos q3, hrd q (by omega), and_up hb, xor_mod hv hb, b3, w64 b2.1 b2.2]
    exact hE
theorem impl_outer (A : List Int) (W : Nat) (hW : 1 ≤ W ∧ W ≤ 16) (hA : ∀ t ∈ A, 1 ≤ t ∧ t < W) (hAl : A.length ≤ 16) (kt : ByteArray) (y : List Int) (hy : BitL y) (m : Nat) (hm : m < W) (hyl : y.length = W + m) (r : ByteArray × Bool)
    (h : Ev (fun k => impl_FindKey.l0 k (A ++ [(W : Int)]) W kt (List.replicate (W - (m + 1)) 0 ++ up (prevB A W y :: y)) ((W : Int) - 1 - ((m + 1 : Nat) : Int))) r) :
    Ev (fun k => impl_FindKey.l0 k (A ++ [(W : Int)]) W kt (List.replicate (W - m) 0 ++ up y) ((W : Int) - 1 - m)) r := by
  have hlen : ((List.replicate (W - m) (0 : Int) ++ up y).length : Int) = 2 * W := by rw [List.length_append, List.length_replicate, up_length]; omega
  have hTl : ((A ++ [(W : Int)]).length : Int) = A.length + 1 := by rw [List.length_append]; rfl
  have hb := rd_bit hy ((W : Int) - 1) (by omega) (by omega)
  have e0 : (W : Int) + ((W : Int) - 1 - m) = ((W - m + (W - 1) : Nat) : Int) := by omega
  have e1 := rd_app_r (List.replicate (W - m) (0 : Int)) (up y) (W - 1)
  rw [List.length_replicate] at e1
  have e2 := rd_up y ((W - 1 : Nat) : Int) (by omega) (by omega)
  rw [e2, show ((W - 1 : Nat) : Int) = (W : Int) - 1 by omega] at e1
  have b0 : -9223372036854775808 ≤ ((W - m + (W - 1) : Nat) : Int) ∧ ((W - m + (W - 1) : Nat) : Int) ≤ 9223372036854775807 := by omega
  have q0 : (W : Int) - 1 - m ≥ 0 := by omega
  have q1 : (0 : Int) ≤ ((W - m + (W - 1) : Nat) : Int) := by omega
  have q2 : ((W - m + (W - 1) : Nat) : Int) < ((List.replicate (W - m) (0 : Int) ++ up y).length : Int) := by rw [hlen]; omega
  have b1 : -9223372036854775808 ≤ ((A ++ [(W : Int)]).length : Int) - 1 ∧ ((A ++ [(W : Int)]).length : Int) - 1 ≤ 9223372036854775807 := by omega
  have q3 : 0 ≤ ((A ++ [(W : Int)]).length : Int) - 1 := by omega
  have q4 : ((A ++ [(W : Int)]).length : Int) - 1 ≤ ((A ++ [(W : Int)]).length : Int) := by omega
  have e3 : (((A ++ [(W : Int)]).length : Int) - 1).toNat = A.length := by omega
  have e4 : (A ++ [(W : Int)]).take A.length = A := by rw [List.take_append_of_le_length (Nat.le_refl _), List.take_length]
  have hI := impl_inner A W hW hA hAl (A ++ [(W : Int)]) kt y hy m hm hyl r h A.length (rd y ((W : Int) - 1)) 0 (by omega) hb (by rw [List.drop_zero]; rfl)
  refine Ev_succ ?_
  simp only [impl_FindKey.l0, if_pos q0, e0, w64 b0.1 b0.2, if_pos q1, if_pos q2, w64 b1.1 b1.2, if_pos q3, if_pos q4, e1, and_up hb, e3, e4]
  exact hI

theorem spec_inner (A : List Int) (W : Nat) (hW : 1 ≤ W ∧ W ≤ 16) (hA : ∀ t ∈ A, 1 ≤ t ∧ t < W) (hAl : A.length ≤ 16) (a1 a2 : ByteArray) (y : List Int) (hy : BitL y) (m : Nat) (hm : m < W) (hyl : y.length = W + m) (x11 : List Int) (hx11 : x11.length = m) (r : ByteArray × Bool)
    (h : Ev (fun k => spec_FindKey.l1 k (A ++ [(W : Int)]) a1 a2 W (prevB A W y :: y) (x11 ++ [prevB A W y]) ((m + 1 : Nat) : Int)) r) (d : Nat) : ∀ (v : Int) (j : Nat), j + d = A.length → (v = 0 ∨ v = 1) → (v + sumB (A.drop j) y ((W : Int) - 1)) % 2 = prevB A W y →
    Ev (fun k => spec_FindKey.l2 k (A ++ [(W : Int)]) a1 a2 W y x11 m ((W : Int) - 1) v j) r := by
  have hTl : ((A ++ [(W : Int)]).length : Int) = A.length + 1 := by rw [List.length_append]; rfl
  induction d with
  | zero =>
    intro v j hd hv he
    rw [List.drop_of_length_le (by omega), sumB] at he
    have hve : v = prevB A W y := by omega
    have b1 : -9223372036854775808 ≤ (j : Int) + 1 ∧ (j : Int) + 1 ≤ 9223372036854775807 := by omega
    have b2 : -9223372036854775808 ≤ ((m + 1 : Nat) : Int) ∧ ((m + 1 : Nat) : Int) ≤ 9223372036854775807 := by omega
    have b3 : (m : Int) + 1 = ((m + 1 : Nat) : Int) := by omega
    have q1 : ¬ (j : Int) + 1 < ((A ++ [(W : Int)]).length : Int) := by omega
    have q2 : x11.length < 140737488355328 := by omega
    have q3 : [prevB A W y].length + y.length < 140737488355328 := by show 1 + _ < _; omega
    refine Ev_succ ?_
    simp only [spec_FindKey.l2, w64 b1.1 b1.2, if_neg q1, if_pos q2, hve, Option.bind_some, if_pos q3, b3, w64 b2.1 b2.2]
    exact h
  | succ d ih =>
    intro v j hd hv he
    have hj : j < A.length := by omega
    have hrA := rd_nat A j hj
    have hrT : rd (A ++ [(W : Int)]) j = rd A j := by
      rw [rd_nat _ j (by rw [List.length_append]; omega), hrA, List.getElem_append_left hj]
    have ht := hA _ (List.getElem_mem hj)
    rw [← hrA] at ht
    obtain ⟨q, hq⟩ : ∃ q : Nat, (W : Int) - 1 - rd A j = q := ⟨((W : Int) - 1 - rd A j).toNat, by omega⟩
    have hb := rd_bit hy q (by omega) (by omega)
    have b1 : -9223372036854775808 ≤ ((j + 1 : Nat) : Int) ∧ ((j + 1 : Nat) : Int) ≤ 9223372036854775807 := by omega
    have b3 : (j : Int) + 1 = ((j + 1 : Nat) : Int) := by omega
    have b4 : -9223372036854775808 ≤ (q : Int) ∧ (q : Int) ≤ 9223372036854775807 := by omega
    have q1 : ((j + 1 : Nat) : Int) < ((A ++ [(W : Int)]).length : Int) := by omega
    have q0 : (0 : Int) ≤ j := by omega
    have q2 : (j : Int) < ((A ++ [(W : Int)]).length : Int) := by omega
    have q3 : (0 : Int) ≤ (q : Int) := by omega
    have q4 : (q : Int) < (y.length : Int) := by omega
    have hE := ih ((v + rd y q) % 2) (j + 1) (by omega) (by omega) (by
      rw [drop_rd A j hj, sumB, hq] at he
      rw [← he]; omega)
    refine Ev_succ ?_
    simp only [spec_FindKey.l2, b3, w64 b1.1 b1.2, if_pos q1, if_pos q0, if_pos q2, hrT, hq, w64 b4.1 b4.2, if_pos q3, if_pos q4, xor_mod hv hb]
    exact hE
theorem spec_outer (A : List Int) (W : Nat) (hW : 1 ≤ W ∧ W ≤ 16) (hA : ∀ t ∈ A, 1 ≤ t ∧ t < W) (hAl : A.length ≤ 16) (a1 a2 : ByteArray) (y : List Int) (hy : BitL y) (m : Nat) (hm : m < W) (hyl : y.length = W + m) (x11 : List Int) (hx11 : x11.length = m) (r : ByteArray × Bool)
    (h : Ev (fun k => spec_FindKey.l1 k (A ++ [(W : Int)]) a1 a2 W (prevB A W y :: y) (x11 ++ [prevB A W y]) ((m + 1 : Nat) : Int)) r) :
    Ev (fun k => spec_FindKey.l1 k (A ++ [(W : Int)]) a1 a2 W y x11 m) r := by
  have hb := rd_bit hy ((W : Int) - 1) (by omega) (by omega)
  have q0 : (m : Int) < (W : Int) := by omega
  have b1 : -9223372036854775808 ≤ (W : Int) - 1 ∧ (W : Int) - 1 ≤ 9223372036854775807 := by omega
  have q1 : 0 ≤ (W : Int) - 1 := by omega
  have q2 : (W : Int) - 1 < (y.length : Int) := by omega
  have hI := spec_inner A W hW hA hAl a1 a2 y hy m hm hyl x11 hx11 r h A.length (rd y ((W : Int) - 1)) 0 (by omega) hb (by rw [List.drop_zero]; rfl)
  refine Ev_succ ?_
  simp only [spec_FindKey.l1, if_pos q0, w64 b1.1 b1.2, if_pos q1, if_pos q2]
  exact hI
theorem key_spec (A1 A2 : List Int) (h1 : BitL A1) (h2 : BitL A2) (hl : A1.length = A2.length) (h4 : A1.length ≤ 400) (T : List Int) (W : Nat) (hWn : W ≤ A1.length) (r : ByteArray × Bool)
    (h : Ev (fun k => spec_FindKey.l1 k T (strOfNums (up A1)) (strOfNums (up A2)) W ((addS A1 A2).take W) [] 0) r) (d : Nat) : ∀ i : Nat, i + d = A1.length →
    Ev (fun k => spec_FindKey.l0 k T (strOfNums (up A1)) (strOfNums (up A2)) W ((addS A1 A2).take i) i) r := by
  have hal := addS_length A1 A2 hl
  induction d with
  | zero =>
    intro i hd
    have q1 : ¬ (i : Int) < ((strOfNums (up A1)).size : Int) := by rw [sz_up]; omega
    have q2 : (0 : Int) ≤ W := by omega
    have e : (addS A1 A2).take i = addS A1 A2 := List.take_of_length_le (by omega)
    have q3 : (W : Int) ≤ ((addS A1 A2).length : Int) := by omega
    refine Ev_succ ?_
    simp only [spec_FindKey.l0, if_neg q1, e, if_pos q2, if_pos q3, Int.toNat_natCast]
    exact h
  | succ d ih =>
    intro i hd
    have hi : i < A1.length := by omega
    have q1 : (i : Int) < ((strOfNums (up A1)).size : Int) := by rw [sz_up]; omega
    have q2 : (0 : Int) ≤ i := by omega
    have q3 : (i : Int) < ((strOfNums (up A2)).size : Int) := by rw [sz_up]; omega
    have q4 : ((addS A1 A2).take i).length < 140737488355328 := by rw [List.length_take]; omega
    have hb1 := rd_bit h1 i (by omega) (by omega)
    have hb2 := rd_bit h2 i (by omega) (by omega)
    have e1 : (48 + rd A1 i - 48) % 256 = rd A1 i := by omega
    have e2 : (48 + rd A2 i - 48) % 256 = rd A2 i := by omega
    have hel : (addS A1 A2)[i]'(by omega) = (rd A1 i + rd A2 i) % 2 := by
      unfold addS
      rw [List.getElem_zipWith, rd_nat A1 i hi, rd_nat A2 i (by omega)]
    have hE := ih (i + 1) (by omega)
    rw [List.take_succ_eq_append_getElem (show i < (addS A1 A2).length by omega), hel] at hE
    have b1 : -9223372036854775808 ≤ ((i + 1 : Nat) : Int) ∧ ((i + 1 : Nat) : Int) ≤ 9223372036854775807 := by omega
    have b3 : (i : Int) + 1 = ((i + 1 : Nat) : Int) := by omega
    refine Ev_succ ?_
    simp only [spec_FindKey.l0, if_pos q1, if_pos q2, if_pos q3, if_pos q4, bt_up A1 h1 i hi, bt_up A2 h2 i (by omega), e1, e2, xor_mod hb1 hb2, b3, w64 b1.1 b1.2]
    exact hE
theorem fk_end (A : List Int) (W : Nat) (S : List Int) (hS : BitL S) (hSl : S.length = W) (hok : ScrOk (A ++ [(W : Int)]) (strOfNums (up S))) (A1 A2 : List Int) (h1 : BitL A1) (h2 : BitL A2) (hl : A1.length = A2.length) (h4 : A1.length ≤ 400) (y : List Int) (hyl : y.length = W + W) (hy : y.take W = S.reverse) :
    ∃ r, Ev (fun k => spec_FindKey.l1 k (A ++ [(W : Int)]) (strOfNums (up A1)) (strOfNums (up A2)) W y S W) r ∧ Ev (fun k => impl_FindKey.l0 k (A ++ [(W : Int)]) W (strOfNums (up (addS A1 A2))) (up y) (-1)) r := by
  have hal := addS_length A1 A2 hl
  have h16 := hok.small
  have hSz : (strOfNums (up S)).size = W := by rw [sz_up, hSl]
  have h17 := hok.1.2.1
  have hT2 := (bitsOf_ok (strOfNums (up A2)) (AllBit_up A2 h2))
  obtain ⟨z, hz, hzl, hA, hB⟩ := key_both hok ((strOfNums (up A2)).size : Int) (by omega) (by rw [sz_up]; omega)
  rw [sz_up] at hzl
  obtain ⟨y', hm', hC⟩ := add_loop z hz (strOfNums (up A2)) (AllBit_up A2 h2) (by rw [sz_up]; omega) (by rw [sz_up]; omega) (A ++ [(W : Int)]) (strOfNums (up S)) (strOfNums (up A2)).size z 0 ⟨hz, rfl, fun j j0 j1 => by rw [if_neg (by omega)]⟩ (by omega) (by omega)
  have hlen : z.length = A2.length := by omega
  have hyz : y' = addS z A2 := by
    apply List.ext_getElem
    · rw [hm'.2.1, addS_length z A2 hlen]
    · intro n n1 n2
      have hn : n < z.length := by rw [hm'.2.1] at n1; exact n1
      have h3 := hm'.2.2 n (by omega) (by omega)
      rw [if_pos (by rw [sz_up]; omega), bt_up A2 h2 n (by omega), show 48 + rd A2 n - 48 = rd A2 n by omega, xor_mod (rd_bit hz n (by omega) (by omega)) (rd_bit h2 n (by omega) (by omega)), rd_nat y' n n1, rd_nat z n hn, rd_nat A2 n (by omega)] at h3
      have h5 := rd_addSK z A2 hlen n
      rw [rd_nat _ n n2, rd_nat z n hn, rd_nat A2 n (by omega)] at h5
      rw [h3, h5]
  have hiff : strOfNums (up y') = strOfNums (up A1) ↔ strOfNums (up z) = strOfNums (up (addS A1 A2)) := by
    constructor
    · intro g
      have g2 := up_inj hm'.1 h1 g
      rw [← g2, hyz, addS_addS z A2 hz hlen]
    · intro g
      have g2 := up_inj hz (addS_bit A1 A2) g
      rw [hyz, g2, addS_addS A1 A2 h1 hl]
  obtain ⟨vb, hvb, hvi⟩ := l06Is_ev (A ++ [(W : Int)]) (strOfNums (up S)) (by omega) (by rw [sz_up]; omega)
  obtain rfl : vb = true := hvi.2 hok
  obtain ⟨wb, hwb, hwi⟩ := l01Bits_ev (strOfNums (up A2)) (by rw [sz_up]; omega)
  obtain rfl : wb = true := hwi.2 ⟨AllBit_up A2 h2, by rw [sz_up]; omega⟩
  have hAdd : Ev (fun k => spec_AddScramble.f k (A ++ [(W : Int)]) (strOfNums (up S)) (strOfNums (up A2))) (strOfNums (up y'), true) := by
    simp only [spec_AddScramble.f]
    refine Ev.bind hvb ?_
    simp only [if_true]
    refine Ev.bind hwb ?_
    simp only [Bool.not_true]
    refine Ev_succ ?_
    simp only [spec_AddScramble.j0, Bool.false_eq_true, if_false]
    exact Ev.bind hA hC
  have hrev := rev_ev (up (S.reverse)) (by rw [up_length, List.length_reverse]; omega)
  have eup : (up S.reverse).reverse = up S := by unfold up; rw [← List.map_reverse, List.reverse_reverse]
  rw [eup] at hrev
  have etake : (up y).take W = up S.reverse := by unfold up; rw [← List.map_take, hy]
  have q0 : ¬ (-1 : Int) ≥ 0 := by omega
  have q1 : (0 : Int) ≤ W := by omega
  have q2 : (W : Int) ≤ ((up y).length : Int) := by rw [up_length]; omega
  have q3 : ¬ (W : Int) < (W : Int) := by omega
  have ksz : ((strOfNums (up (addS A1 A2))).size : Int) = ((strOfNums (up A2)).size : Int) := by rw [sz_up, sz_up]; omega
  refine ⟨if strOfNums (up z) = strOfNums (up (addS A1 A2)) then (strOfNums (up S), true) else ((⟨#[]⟩ : ByteArray), false), Ev_succ ?_, Ev_succ ?_⟩
  · simp only [spec_FindKey.l1, if_neg q3]
    refine Ev.bind (text_ev S hS (by omega)) (Ev.bind hAdd ?_)
    simp only [if_true]
    by_cases g : strOfNums (up z) = strOfNums (up (addS A1 A2))
    · rw [if_pos g, if_pos (by rw [hiff.2 g])]; exact Ev.now _
    · rw [if_neg g, if_neg (fun z => g (hiff.1 (by apply ByteArray.ext; have := z; rw [Lib.toList_data, Lib.toList_data] at this; exact Array.toList_inj.1 this)))]; exact Ev.now _
  · simp only [impl_FindKey.l0, if_neg q0, if_pos q1, if_pos q2, Int.toNat_natCast, etake]
    refine Ev.bind hrev ?_
    rw [ksz]
    refine Ev.bind hB ?_
    by_cases g : strOfNums (up z) = strOfNums (up (addS A1 A2))
    · rw [if_pos g, if_pos (by rw [g])]; exact Ev.now _
    · rw [if_neg g, if_neg (fun z => g (by apply ByteArray.ext; have := z; rw [Lib.toList_data, Lib.toList_data] at this; exact Array.toList_inj.1 this))]; exact Ev.now _
theorem fk_loops (A : List Int) (W : Nat) (hW : 1 ≤ W ∧ W ≤ 16) (hA : ∀ t ∈ A, 1 ≤ t ∧ t < W) (hAl : A.length ≤ 16) (hT : TapsOk (A ++ [(W : Int)])) (hlast : rd (A ++ [(W : Int)]) (((A ++ [(W : Int)]).length : Int) - 1) = W) (A1 A2 : List Int) (h1 : BitL A1) (h2 : BitL A2) (hl : A1.length = A2.length) (h4 : A1.length ≤ 400) (d : Nat) : ∀ (y x11 : List Int) (m : Nat), m + d = W → BitL y → BitL x11 → y.length = W + m → x11.length = m → y.take m = x11.reverse →
    ∃ r, Ev (fun k => spec_FindKey.l1 k (A ++ [(W : Int)]) (strOfNums (up A1)) (strOfNums (up A2)) W y x11 m) r ∧ Ev (fun k => impl_FindKey.l0 k (A ++ [(W : Int)]) W (strOfNums (up (addS A1 A2))) (List.replicate (W - m) 0 ++ up y) ((W : Int) - 1 - m)) r := by
  induction d with
  | zero =>
    intro y x11 m hd hy hx hyl hxl ht
    obtain rfl : m = W := by omega
    rw [Nat.sub_self, List.replicate_zero, List.nil_append, show (m : Int) - 1 - m = -1 by omega]
    exact fk_end A m x11 hx hxl ⟨hT, AllBit_up x11 hx, by rw [sz_up, hlast]; omega⟩ A1 A2 h1 h2 hl h4 y hyl ht
  | succ d ih =>
    intro y x11 m hd hy hx hyl hxl ht
    have hp := prevB_bit A W y
    obtain ⟨r, hA', hB'⟩ := ih (prevB A W y :: y) (x11 ++ [prevB A W y]) (m + 1) (by omega) (by
      intro v hv
      rcases List.mem_cons.1 hv with e | e
      · rw [e]; exact hp
      · exact hy v e) (BitL_append hx (BitL_one hp)) (by rw [List.length_cons]; omega) (by rw [List.length_append]; show x11.length + 1 = _; omega) (by rw [List.take_succ_cons, ht, List.reverse_append]; rfl)
    exact ⟨r, spec_outer A W hW hA hAl _ _ y hy m (by omega) hyl x11 hxl r hA', impl_outer A W hW hA hAl _ y hy m (by omega) hyl r hB'⟩
theorem findKey_both (T : List Int) (a1 a2 : ByteArray) (hTl : (T.length : Int) ≤ 1048576) (ha1 : (a1.size : Int) ≤ 1048576) (ha2 : (a2.size : Int) ≤ 1048576) : ∃ r, Ev (fun k => spec_FindKey.f k T a1 a2) r ∧ Ev (fun k => impl_FindKey.f k T a1 a2) r := by
  obtain ⟨b, hb, hi⟩ := l06Taps_ev T (by omega)
  obtain ⟨c, hc, hj⟩ := areTaps_ev T (by omega)
  obtain rfl : c = b := by rw [Bool.eq_iff_iff, hi, hj]
  obtain ⟨d, hd, hd2, hdi⟩ := bits_same a1 (by omega)
  obtain ⟨e, he, he2, hei⟩ := bits_same a2 (by omega)
  have no : Ev (fun k => spec_FindKey.j0 k T a1 a2 true) ((⟨#[]⟩ : ByteArray), false) := by
    refine Ev_succ ?_; simp only [spec_FindKey.j0, if_true]; exact Ev.now _
  have no' : Ev (fun k => impl_FindKey.j0 k T a1 a2 true) ((⟨#[]⟩ : ByteArray), false) := by
    refine Ev_succ ?_; simp only [impl_FindKey.j0, if_true]; exact Ev.now _
  simp only [spec_FindKey.f, impl_FindKey.f, hd2, he2, Option.bind_some]
  cases c with
  | false => exact ⟨_, Ev.bind hb (by simp only [Bool.false_eq_true, if_false]; exact no), Ev.bind hc (by simp only [Bool.false_eq_true, if_false]; exact no')⟩
  | true =>
    have hT := hi.1 rfl
    cases d with
    | false => exact ⟨_, Ev.bind hb (by simp only [if_true]; exact Ev.bind hd (by simp only [Bool.false_eq_true, if_false]; exact no)), Ev.bind hc (by simp only [if_true, Bool.false_eq_true, if_false]; exact no')⟩
    | true =>
      obtain ⟨hall1, h41⟩ := hdi.1 rfl
      cases e with
      | false => exact ⟨_, Ev.bind hb (by simp only [if_true]; exact Ev.bind hd (by simp only [if_true]; exact Ev.bind he (by simp only [Bool.false_eq_true, if_false]; exact no))), Ev.bind hc (by simp only [if_true, Bool.false_eq_true, if_false]; exact no')⟩
      | true =>
        obtain ⟨hall2, h42⟩ := hei.1 rfl
        by_cases hl : (a1.size : Int) = (a2.size : Int)
        · have q0 : 0 ≤ (T.length : Int) - 1 := by have := hT.1; omega
          have q1 : (T.length : Int) - 1 < (T.length : Int) := by omega
          have b1 : -9223372036854775808 ≤ (T.length : Int) - 1 ∧ (T.length : Int) - 1 ≤ 9223372036854775807 := by omega
          have hr := (hT.2.2 ((T.length : Int) - 1) (by omega) (by omega)).1
          obtain ⟨W, hWe⟩ : ∃ W : Nat, rd T ((T.length : Int) - 1) = W := ⟨(rd T ((T.length : Int) - 1)).toNat, by omega⟩
          rw [hWe] at hr
          by_cases hs : (a1.size : Int) < W
          · exact ⟨_, Ev.bind hb (by simp only [if_true]; exact Ev.bind hd (by simp only [if_true]; exact Ev.bind he (by simp only [if_true, if_pos hl, w64 b1.1 b1.2, if_pos q0, if_pos q1, hWe, decide_eq_true hs]; exact no))), Ev.bind hc (by simp only [if_true, if_pos hl, w64 b1.1 b1.2, if_pos q0, if_pos q1, hWe, decide_eq_true hs]; exact no')⟩
          · obtain ⟨hA1, e1, l1⟩ := bitsOf_ok a1 hall1
            obtain ⟨hA2, e2, l2⟩ := bitsOf_ok a2 hall2
            have hzok : ScrOk T (strOfNums (up (List.replicate W 0))) := ⟨hT, AllBit_up _ (BitL_zeros W), by rw [sz_up, List.length_replicate, hWe]⟩
            obtain ⟨A, hTA, hA⟩ := taps_splitK hzok
            rw [sz_up, List.length_replicate] at hTA hA
            have hAl : A.length + 1 ≤ 16 := by have := hT.2.1; rw [hTA, List.length_append] at this; simp at this; omega
            have hkl := addS_length (bitsOf a1) (bitsOf a2) (by omega)
            have htkl : ((addS (bitsOf a1) (bitsOf a2)).take W).length = W := by rw [List.length_take]; omega
            obtain ⟨r, hS, hI⟩ := fk_loops A W (by omega) hA (by omega) (by rw [← hTA]; exact hT) (by rw [← hTA]; exact hWe) (bitsOf a1) (bitsOf a2) hA1 hA2 (by omega) (by omega) W ((addS (bitsOf a1) (bitsOf a2)).take W) [] 0 (by omega) (fun v hv => addS_bit _ _ v (List.mem_of_mem_take hv)) (by intro v hv; cases hv) (by rw [htkl]; rfl) rfl rfl
            rw [← hTA] at hS hI
            have hS0 := key_spec (bitsOf a1) (bitsOf a2) hA1 hA2 (by omega) (by omega) T W (by omega) r hS (bitsOf a1).length 0 (by omega)
            rw [List.take_zero, ← e1, ← e2] at hS0
            have hx := xorBits_eq (bitsOf a1) (bitsOf a2) hA1 hA2 (by omega) (by omega)
            rw [← e1, ← e2] at hx
            refine ⟨r, Ev.bind hb ?_, Ev.bind hc ?_⟩
            · simp only [if_true]
              refine Ev.bind hd ?_
              simp only [if_true]
              refine Ev.bind he ?_
              simp only [if_true, if_pos hl, w64 b1.1 b1.2, if_pos q0, if_pos q1, hWe, decide_eq_false hs]
              refine Ev_succ ?_
              simp only [spec_FindKey.j0, Bool.false_eq_true, if_false, w64 b1.1 b1.2, if_pos q0, if_pos q1, hWe]
              exact hS0
            · have p1 : (0 : Int) ≤ W := by omega
              have p2 : W ≤ 281474976710656 := by omega
              have p3 : (W : Int) ≤ ((strOfNums (up (addS (bitsOf a1) (bitsOf a2)))).size : Int) := by rw [sz_up]; omega
              have p4 : (List.replicate W (0 : Int)).length + (strOfNums (up ((addS (bitsOf a1) (bitsOf a2)).take W))).size < 140737488355328 := by rw [List.length_replicate, sz_up]; omega
              have p5 : -9223372036854775808 ≤ (W : Int) - 1 ∧ (W : Int) - 1 ≤ 9223372036854775807 := by omega
              have hbo := bytesOf_up ((addS (bitsOf a1) (bitsOf a2)).take W) (fun v hv => addS_bit _ _ v (List.mem_of_mem_take hv))
              rw [Nat.sub_zero, show (W : Int) - 1 - ((0 : Nat) : Int) = (W : Int) - 1 by omega] at hI
              simp only [if_true, if_pos hl, w64 b1.1 b1.2, if_pos q0, if_pos q1, hWe, decide_eq_false hs]
              refine Ev_succ ?_
              simp only [impl_FindKey.j0, Bool.false_eq_true, if_false, w64 b1.1 b1.2, if_pos q0, if_pos q1, hWe, hx, Option.bind_some, if_pos p1, Int.toNat_natCast, if_pos p2, if_pos p3, extract_up, if_pos p4, hbo, w64 p5.1 p5.2]
              exact hI
        · exact ⟨_, Ev.bind hb (by simp only [if_true]; exact Ev.bind hd (by simp only [if_true]; exact Ev.bind he (by simp only [if_true, if_neg hl]; exact no))), Ev.bind hc (by simp only [if_true, if_neg hl]; exact no')⟩
theorem FnExactFindKey : laws_FnExactFindKey.Pure := by
  intro l a1 a2 h1 h2 h3 h4 h5
  apply Ev.rounds
  simp only [laws_FnExactFindKey.f]
  by_cases g0 : (l.length : Int) > 1048576
  · simp only [if_pos g0]; exact Ev.now _
  by_cases g1 : (a1.size : Int) > 1048576
  · simp only [if_neg g0, if_pos g1]; exact Ev.now _
  by_cases g2 : (a2.size : Int) > 1048576
  · simp only [if_neg g0, if_neg g1, if_pos g2]; exact Ev.now _
  simp only [if_neg g0, if_neg g1, if_neg g2]
  have ht := toInt64S_ev l (by omega)
  obtain ⟨r, hA, hB⟩ := findKey_both l a1 a2 (by omega) (by omega) (by omega)
  refine Ev.bind ht (Ev.bind hA (Ev.bind ht (Ev.bind hB ?_)))
  simp only [if_true, bne_self_eq_false]
  refine Ev_succ ?_
  simp only [laws_FnExactFindKey.j0, Bool.false_eq_true, if_false]
  refine Ev.bind ht (Ev.bind (eqInt64S_self l (by omega)) ?_)
  simp only [if_true]
  exact Ev.now _

end Go.Proofs.YtondkjcmibnbpaaDoor.Pure
