/- The law FnExactKeyPeriod of the given program holds: for every input that the row lets in the call returns true and leaves its arguments as they were. No condition ahead of it. -/
import Derived.Test.YtondkjcmibnbpaaDoorPFnExactKeyPeriodx6
import Derived.Test.YtondkjcmibnbpaaDoorMine
namespace Go.Proofs.YtondkjcmibnbpaaDoor.Pure
open Go.RowKit Go.Proofs.YtondkjcmibnbpaaDoor.PFnExactKeyPeriod Go.Proofs.YtondkjcmibnbpaaDoorW.PrintWords Go.Proofs.YtondkjcmibnbpaaDoorW.PrintLast Go.Proofs.YtondkjcmibnbpaaDoorW.PrintMore Go.Proofs.YtondkjcmibnbpaaDoor.Mine
set_option linter.unusedVariables false
set_option linter.unusedSimpArgs false
theorem rd_set (l : List Int) (i j v : Int) (hi : 0 ≤ i) (hil : i < l.length) (hj : 0 ≤ j) : rd (l.set i.toNat v) j = if j = i then v else rd l j := by
  unfold rd
  by_cases e : j = i
  · subst e; rw [if_pos rfl, List.getD_eq_getElem?_getD, List.getElem?_set_self (by omega)]; rfl
  · rw [if_neg e, List.getD_eq_getElem?_getD, List.getElem?_set_ne (by omega), List.getD_eq_getElem?_getD]

theorem eqInt64S_loop (l : List Int) (hl : (l.length : Int) ≤ 4611686018427387904) (d : Nat) : ∀ i : Int, 0 ≤ i → i ≤ l.length → (l.length : Int) - i = d → Ev (fun k => laws_eqInt64S.l0 k l l i) true := by
  induction d with
  | zero =>
    intro i h0 h1 hd
    refine Ev_succ ?_
    simp only [laws_eqInt64S.l0, if_neg (show ¬ i < (l.length : Int) by omega)]
    exact Ev.now _
  | succ d ih =>
    intro i h0 h1 hd
    refine Ev_succ ?_
    simp (disch := omega) only [laws_eqInt64S.l0, w64]
    simp only [if_pos (show i < (l.length : Int) by omega), if_pos h0, if_true]
    exact ih (i + 1) (by omega) (by omega) (by omega)
theorem eqInt64S_self (l : List Int) (hl : (l.length : Int) ≤ 4611686018427387904) : Ev (fun k => laws_eqInt64S.f k l l) true := by
  simp only [laws_eqInt64S.f, if_true]
  exact eqInt64S_loop l hl l.length 0 (by omega) (by omega) (by omega)

theorem ext_rd (a b : List Int) (h : a.length = b.length) (hp : ∀ j : Int, 0 ≤ j → j < a.length → rd a j = rd b j) : a = b := by
  apply List.ext_getElem h
  intro n h1 h2
  have := hp n (by omega) (by omega)
  unfold rd at this
  rw [List.getD_eq_getElem?_getD, List.getD_eq_getElem?_getD, Int.toNat_natCast, List.getElem?_eq_getElem h1, List.getElem?_eq_getElem h2] at this
  simpa using this
theorem toInt64S_loop (l : List Int) (hl : (l.length : Int) ≤ 4611686018427387904) (d : Nat) : ∀ (m : List Int) (i : Int), m.length = l.length → 0 ≤ i → i ≤ l.length → (l.length : Int) - i = d → (∀ j, 0 ≤ j → j < i → rd m j = rd l j) →
    Ev (fun k => laws_toInt64S.l0 k l m i) l := by
  induction d with
  | zero =>
    intro m i hm h0 h1 hd hp
    refine Ev_succ ?_
    simp only [laws_toInt64S.l0, if_neg (show ¬ i < (l.length : Int) by omega)]
    rw [ext_rd m l hm (fun j j0 j1 => hp j j0 (by omega))]
    exact Ev.now _
  | succ d ih =>
    intro m i hm h0 h1 hd hp
    refine Ev_succ ?_
    simp (disch := omega) only [laws_toInt64S.l0, w64]
    simp only [if_pos (show i < (l.length : Int) by omega), if_pos h0, if_pos (show i < (m.length : Int) by omega)]
    refine ih (m.set i.toNat (rd l i)) (i + 1) (by rw [List.length_set]; exact hm) (by omega) (by omega) (by omega) (fun j j0 j1 => ?_)
    rw [rd_set m i j _ h0 (by omega) j0]
    by_cases e : j = i
    · rw [if_pos e, e]
    · rw [if_neg e]; exact hp j j0 (by omega)
theorem toInt64S_ev (l : List Int) (hl : (l.length : Int) ≤ 1048576) : Ev (fun k => laws_toInt64S.f k l) l := by
  simp only [laws_toInt64S.f, if_pos (show 0 ≤ (l.length : Int) by omega), if_pos (show ((l.length : Int)).toNat ≤ 35184372088832 by omega)]
  exact toInt64S_loop l (by omega) l.length _ 0 (by simp) (by omega) (by omega) (by omega) (fun j _ _ => by omega)

theorem toScr_ev (l : List Int) (s : ByteArray) (hl : (l.length : Int) ≤ 1048576) : Ev (fun k => laws_toScrambler.f k l s) (l, s) := by
  simp only [laws_toScrambler.f]
  exact Ev.bind (toInt64S_ev l hl) (Ev.now _)
theorem eqScr_ev (l : List Int) (s : ByteArray) (hl : (l.length : Int) ≤ 1048576) : Ev (fun k => laws_eqScrambler.f k l s l s) true := by
  simp only [laws_eqScrambler.f]
  refine Ev.bind (eqInt64S_self l (by omega)) ?_
  simp only [if_true]
  exact Ev.now _
theorem szScr (l : List Int) (s : ByteArray) (n : Int) (hn : 0 ≤ n ∧ n ≤ 1048576) (hl : l.length * 8 ≤ 140737488351232) (hs : s.size ≤ 140737488351232) :
    ∃ v, laws_szScrambler.f l s n = some v ∧ (¬ v < 0 → (l.length : Int) + s.size + v ≤ n ∧ v ≤ n) := by
  simp (disch := omega) only [laws_szScrambler.f, laws_szInt64S.f, w64]
  by_cases h : n - (l.length : Int) < 0
  · refine ⟨-1, by simp only [if_pos h, Option.bind_some, if_pos (show (-1 : Int) < 0 by omega)], fun g => absurd (by omega) g⟩
  · simp only [if_neg h, Option.bind_some]
    simp (disch := omega) only [w64]
    by_cases g : n - (l.length : Int) - (s.size : Int) < 0
    · exact ⟨-1, by rw [if_pos g], fun g => absurd (by omega) g⟩
    · exact ⟨n - l.length - s.size, by rw [if_neg g], fun _ => by omega⟩

theorem l00In_eq (a b c : Int) : spec_l00In.f a b c = some (decide (b ≤ a ∧ a ≤ c)) := by
  unfold spec_l00In.f; by_cases h : a ≥ b
  · rw [if_pos h]; simp; intro _; exact h
  · rw [if_neg h]; simp; intro h'; omega
theorem within_eq (a b c : Int) : impl_within.f a b c = some (decide (b ≤ a ∧ a ≤ c)) := by
  unfold impl_within.f; by_cases h : a ≥ b
  · rw [if_pos h]; simp; intro _; exact h
  · rw [if_neg h]; simp; intro h'; omega

def AllBit (s : ByteArray) : Prop := ∀ i : Int, 0 ≤ i → i < s.size → bt s i = 48 ∨ bt s i = 49
def IsBitS (s : ByteArray) : Prop := AllBit s ∧ (s.size : Int) ≤ 400
theorem bt_list (s : ByteArray) (i : Nat) (h : i < s.size) : bt s i = ((s.data.toList[i]'(by simpa using h)).toNat : Int) := by
  unfold bt
  simp only [Int.toNat_natCast, h, dif_pos]
  rfl
theorem dropWhile_nil (p : UInt8 → Bool) : ∀ l : List UInt8, l.dropWhile p = [] ↔ ∀ b ∈ l, p b = true
  | [] => by simp
  | x :: l => by
    rw [List.dropWhile_cons]
    cases h : p x with
    | true => simp [h, dropWhile_nil p l]
    | false => simp [h]
theorem trim_empty (l : List UInt8) : (Lib.trimS l [48, 49]).isEmpty = true ↔ ∀ b ∈ l, b = 48 ∨ b = 49 := by
  have key : ∀ p : UInt8 → Bool, List.dropWhile p (List.dropWhile p l.reverse).reverse = [] ↔ ∀ b ∈ l, p b = true := by
    intro p
    rw [dropWhile_nil]
    constructor
    · intro h
      by_cases e : List.dropWhile p l.reverse = []
      · have := (dropWhile_nil p _).1 e
        exact fun b hb => this b (by simpa using hb)
      · have hh := List.head_dropWhile_not p e
        have h3 := h ((List.dropWhile p l.reverse).head e) (by simp)
        rw [hh] at h3
        cases h3
    · intro h b hb
      have : List.dropWhile p l.reverse = [] := (dropWhile_nil p _).2 (fun b hb => h b (by simpa using hb))
      rw [this] at hb
      simp at hb
  unfold Lib.trimS Lib.trimRightS Lib.trimLeftS
  rw [List.isEmpty_iff, key]
  simp
theorem areBits_ev (s : ByteArray) (hs : s.size ≤ 140737488351232) : ∃ b, impl_areBits.f s = some b ∧ (b = true ↔ AllBit s) := by
  refine ⟨(Lib.trimS s.data.toList [48, 49]).isEmpty, by unfold impl_areBits.f; rw [if_pos (by omega)], ?_⟩
  rw [trim_empty]
  constructor
  · intro h i h0 h1
    obtain ⟨n, rfl⟩ : ∃ n : Nat, i = n := ⟨i.toNat, by omega⟩
    rw [bt_list s n (by omega)]
    rcases h _ (List.getElem_mem (l := s.data.toList) (n := n) (by simp; omega)) with e | e <;> rw [e]
    · exact Or.inl rfl
    · exact Or.inr rfl
  · intro h b hb
    obtain ⟨n, hn, rfl⟩ := List.getElem_of_mem hb
    have hn' : n < s.size := by simpa using hn
    have := h n (by omega) (by omega)
    rw [bt_list s n hn'] at this
    rcases this with e | e
    · left; apply UInt8.toNat_inj.1; show s.data.toList[n].toNat = 48; omega
    · right; apply UInt8.toNat_inj.1; show s.data.toList[n].toNat = 49; omega
theorem l01Bits_loop (s : ByteArray) (hs : s.size ≤ 140737488351232) (d : Nat) : ∀ i : Int, 0 ≤ i → i ≤ s.size → (s.size : Int) - i = d → (∀ j, 0 ≤ j → j < i → bt s j = 48 ∨ bt s j = 49) →
    ∃ b, Ev (fun k => spec_l01Bits.l0 k s i) b ∧ (b = true ↔ IsBitS s) := by
  induction d with
  | zero =>
    intro i h0 h1 hd hp
    refine ⟨decide ((s.size : Int) ≤ 400), Ev_succ ?_, ?_⟩
    · simp only [spec_l01Bits.l0, if_neg (show ¬ i < (s.size : Int) by omega)]
      exact Ev.now _
    · rw [decide_eq_true_eq]
      exact ⟨fun h => ⟨fun j j0 j1 => hp j j0 (by omega), h⟩, fun h => h.2⟩
  | succ d ih =>
    intro i h0 h1 hd hp
    have hlt : i < (s.size : Int) := by omega
    by_cases e : bt s i = 48 ∨ bt s i = 49
    · obtain ⟨b, hb, hi⟩ := ih (i + 1) (by omega) (by omega) (by omega) (fun j j0 j1 => by
        by_cases z : j = i
        · rw [z]; exact e
        · exact hp j j0 (by omega))
      refine ⟨b, Ev_succ ?_, hi⟩
      simp (disch := omega) only [spec_l01Bits.l0, w64]
      rcases e with e | e
      · simp only [if_pos hlt, if_pos h0, if_pos e]; exact hb
      · simp only [if_pos hlt, if_pos h0, e, if_neg (show ¬ (49 : Int) = 48 by omega), if_true]; exact hb
    · refine ⟨false, Ev_succ ?_, ?_⟩
      · simp only [spec_l01Bits.l0, if_pos hlt, if_pos h0, if_neg (fun g => e (Or.inl g)), if_neg (fun g => e (Or.inr g))]
        exact Ev.now _
      · simp only [Bool.false_eq_true, false_iff]
        exact fun g => e (g.1 i h0 hlt)
theorem l01Bits_ev (s : ByteArray) (hs : s.size ≤ 140737488351232) : ∃ b, Ev (fun k => spec_l01Bits.f k s) b ∧ (b = true ↔ IsBitS s) :=
  l01Bits_loop s hs s.size 0 (by omega) (by omega) (by omega) (fun j _ _ => by omega)

theorem ba_ext {a b : ByteArray} (h : a.data.toList = b.data.toList) : a = b := by apply ByteArray.ext; exact Array.toList_inj.1 h
theorem sn_append (a b : List Int) : strOfNums (a ++ b) = strOfNums a ++ strOfNums b := by apply ba_ext; simp [strOfNums]
theorem sn_size (a : List Int) : (strOfNums a).size = a.length := by simp [strOfNums, ByteArray.size]
theorem sn_nil : strOfNums [] = (⟨#[]⟩ : ByteArray) := rfl
theorem bt_range (s : ByteArray) (i : Int) (h0 : 0 ≤ i) (h1 : i < s.size) : 0 ≤ bt s i ∧ bt s i < 256 := by
  obtain ⟨n, rfl⟩ : ∃ n : Nat, i = n := ⟨i.toNat, by omega⟩
  rw [bt_list s n (by omega)]
  have := (s.data.toList[n]'(by simp; omega)).toNat_lt
  omega
theorem extract_one (s : ByteArray) (n : Nat) (h : n < s.size) : (s.extract n (n + 1)).data.toList = [s.data.toList[n]'(by simpa using h)] := by
  have h' : n < s.data.size := h
  simp only [ByteArray.data_extract, Array.toList_extract, List.extract_eq_take_drop]
  rw [show n + 1 - n = 1 by omega, List.drop_eq_getElem_cons (show n < s.data.toList.length by simpa using h')]
  simp
theorem sn_one (s : ByteArray) (i : Int) (h0 : 0 ≤ i) (h1 : i < s.size) : strOfNums [bt s i] = s.extract i.toNat (i + 1).toNat := by
  obtain ⟨n, rfl⟩ : ∃ n : Nat, i = n := ⟨i.toNat, by omega⟩
  apply ba_ext
  rw [show ((n : Int) + 1).toNat = n + 1 by omega, Int.toNat_natCast, extract_one s n (by omega), bt_list s n (by omega)]
  simp [strOfNums]
theorem sn_rep (x : Int) : ∀ n, strOfNums (List.replicate n x) = ⟨(Lib.repeatL (strOfNums [x]).data.toList n).toArray⟩
  | 0 => by apply ba_ext; simp [strOfNums, Lib.repeatL]
  | n + 1 => by
    rw [List.replicate_succ, show x :: List.replicate n x = [x] ++ List.replicate n x from rfl, sn_append, sn_rep x n]
    apply ba_ext
    simp [Lib.repeatL]

theorem ex_size (s : ByteArray) (a b : Nat) (hb : b ≤ s.size) : (s.extract a b).size = b - a := by
  simp only [ByteArray.size_extract]; omega
theorem ex_list (s : ByteArray) (a b : Nat) : (s.extract a b).data.toList = (s.data.toList.drop a).take (b - a) := by
  simp only [ByteArray.data_extract, Array.toList_extract, List.extract_eq_take_drop]
theorem ex_ex (s : ByteArray) (a b c d : Nat) (h : a + d ≤ b) : (s.extract a b).extract c d = s.extract (a + c) (a + d) := by
  apply ba_ext
  rw [ex_list, ex_list, ex_list, List.drop_take, List.drop_drop, List.take_take]
  congr 1
  omega
theorem dl_size (s : ByteArray) : s.data.toList.length = s.size := Array.length_toList
theorem ex_whole (s : ByteArray) : s.extract 0 s.size = s := by
  apply ba_ext; rw [ex_list, List.drop_zero]; exact List.take_of_length_le (by rw [dl_size]; omega)
theorem bt_extract (s : ByteArray) (a b : Nat) (hb : b ≤ s.size) (j : Int) (h0 : 0 ≤ j) (h1 : j < (b : Int) - a) : bt (s.extract a b) j = bt s (a + j) := by
  obtain ⟨n, rfl⟩ : ∃ n : Nat, j = n := ⟨j.toNat, by omega⟩
  have hz := ex_size s a b hb
  rw [bt_list _ n (by omega), show (a : Int) + n = ((a + n : Nat) : Int) by omega, bt_list _ _ (by omega)]
  congr 2
  simp only [ex_list]
  rw [List.getElem_take, List.getElem_drop]
theorem AllBit_extract (s : ByteArray) (h : AllBit s) (a b : Nat) (hb : b ≤ s.size) : AllBit (s.extract a b) := by
  intro j h0 h1
  have hz := ex_size s a b hb
  rw [bt_extract s a b hb j h0 (by omega)]
  exact h _ (by omega) (by omega)
theorem nil_size (s : ByteArray) : s.toList = ([] : List UInt8) ↔ s.size = 0 := by
  rw [Lib.toList_data]
  show _ ↔ s.data.size = 0
  rw [← Array.length_toList]
  exact List.length_eq_zero_iff.symm

theorem areIn_loop (l : List Int) (lo hi : Int) (hl : (l.length : Int) ≤ 4611686018427387904) (d : Nat) : ∀ i : Int, 0 ≤ i → i ≤ l.length → (l.length : Int) - i = d →
    (∀ j, 0 ≤ j → j < i → lo ≤ rd l j ∧ rd l j ≤ hi) → ∃ b, Ev (fun k => impl_areIn.l0 k lo hi l l.length i) b ∧ (b = true ↔ ∀ j, 0 ≤ j → j < (l.length : Int) → lo ≤ rd l j ∧ rd l j ≤ hi) := by
  induction d with
  | zero =>
    intro i h0 h1 hd hp
    refine ⟨true, Ev_succ ?_, ?_⟩
    · simp only [impl_areIn.l0, if_neg (show ¬ i < (l.length : Int) by omega)]; exact Ev.now _
    · simp only [true_iff]; exact fun j j0 j1 => hp j j0 (by omega)
  | succ d ih =>
    intro i h0 h1 hd hp
    have hlt : i < (l.length : Int) := by omega
    by_cases hb : lo ≤ rd l i ∧ rd l i ≤ hi
    · obtain ⟨b, h, hbi⟩ := ih (i + 1) (by omega) (by omega) (by omega) (fun j j0 j1 => by
        by_cases e : j = i
        · rw [e]; exact hb
        · exact hp j j0 (by omega))
      refine ⟨b, Ev_succ ?_, hbi⟩
      simp (disch := omega) only [impl_areIn.l0, w64, within_eq, Option.bind_some]
      simp only [if_pos hlt, if_pos h0, hb, and_self, decide_true, if_true]
      exact h
    · refine ⟨false, Ev_succ ?_, ?_⟩
      · simp (disch := omega) only [impl_areIn.l0, w64, within_eq, Option.bind_some]
        simp only [if_pos hlt, if_pos h0, hb, decide_false, Bool.false_eq_true, if_false]
        exact Ev.now _
      · simp only [Bool.false_eq_true, false_iff]; exact fun g => hb (g i h0 hlt)
theorem areIn_ev (l : List Int) (lo hi : Int) (hl : (l.length : Int) ≤ 4611686018427387904) : ∃ b, Ev (fun k => impl_areIn.f k l lo hi) b ∧ (b = true ↔ ∀ j, 0 ≤ j → j < (l.length : Int) → lo ≤ rd l j ∧ rd l j ≤ hi) :=
  areIn_loop l lo hi hl l.length 0 (by omega) (by omega) (by omega) (fun j _ _ => by omega)

def RisesIn (l : List Int) (lo hi : Int) : Prop := ∀ i : Int, 0 ≤ i → i < l.length → (lo ≤ rd l i ∧ rd l i ≤ hi) ∧ (0 < i → rd l (i - 1) < rd l i)
theorem l00Rises_loop (l : List Int) (lo hi : Int) (hl : (l.length : Int) ≤ 4611686018427387904) (d : Nat) : ∀ i : Int, 0 ≤ i → i ≤ l.length → (l.length : Int) - i = d →
    (∀ j, 0 ≤ j → j < i → (lo ≤ rd l j ∧ rd l j ≤ hi) ∧ (0 < j → rd l (j - 1) < rd l j)) → ∃ b, Ev (fun k => spec_l00Rises.l0 k l lo hi i) b ∧ (b = true ↔ RisesIn l lo hi) := by
  induction d with
  | zero =>
    intro i h0 h1 hd hp
    refine ⟨true, Ev_succ ?_, ?_⟩
    · simp only [spec_l00Rises.l0, if_neg (show ¬ i < (l.length : Int) by omega)]; exact Ev.now _
    · simp only [true_iff]; exact fun j j0 j1 => hp j j0 (by omega)
  | succ d ih =>
    intro i h0 h1 hd hp
    have hlt : i < (l.length : Int) := by omega
    by_cases hb : lo ≤ rd l i ∧ rd l i ≤ hi
    · by_cases hi0 : i > 0
      · by_cases hr : rd l (i - 1) ≥ rd l i
        · refine ⟨false, Ev_succ ?_, ?_⟩
          · simp (disch := omega) only [spec_l00Rises.l0, w64, l00In_eq, Option.bind_some]
            simp only [if_pos hlt, if_pos h0, hb, and_self, decide_true, if_true, if_pos hi0, if_pos (show 0 ≤ i - 1 by omega), if_pos (show i - 1 < (l.length : Int) by omega), if_pos hr]
            exact Ev.now _
          · simp only [Bool.false_eq_true, false_iff]; exact fun g => by have := (g i h0 hlt).2 hi0; omega
        · obtain ⟨b, h, hbi⟩ := ih (i + 1) (by omega) (by omega) (by omega) (fun j j0 j1 => by
            by_cases e : j = i
            · rw [e]; exact ⟨hb, fun _ => by omega⟩
            · exact hp j j0 (by omega))
          refine ⟨b, Ev_succ ?_, hbi⟩
          simp (disch := omega) only [spec_l00Rises.l0, w64, l00In_eq, Option.bind_some]
          simp only [if_pos hlt, if_pos h0, hb, and_self, decide_true, if_true, if_pos hi0, if_pos (show 0 ≤ i - 1 by omega), if_pos (show i - 1 < (l.length : Int) by omega), if_neg hr]
          exact h
      · obtain ⟨b, h, hbi⟩ := ih (i + 1) (by omega) (by omega) (by omega) (fun j j0 j1 => by
          by_cases e : j = i
          · rw [e]; exact ⟨hb, fun _ => by omega⟩
          · exact hp j j0 (by omega))
        refine ⟨b, Ev_succ ?_, hbi⟩
        simp (disch := omega) only [spec_l00Rises.l0, w64, l00In_eq, Option.bind_some]
        simp only [if_pos hlt, if_pos h0, hb, and_self, decide_true, if_true, if_neg hi0]
        exact h
    · refine ⟨false, Ev_succ ?_, ?_⟩
      · simp (disch := omega) only [spec_l00Rises.l0, w64, l00In_eq, Option.bind_some]
        simp only [if_pos hlt, if_pos h0, hb, decide_false, Bool.false_eq_true, if_false]
        exact Ev.now _
      · simp only [Bool.false_eq_true, false_iff]; exact fun g => hb (g i h0 hlt).1
theorem isInc_loop (l : List Int) (hl : (l.length : Int) ≤ 4611686018427387904) (d : Nat) : ∀ i : Int, 0 ≤ i → i ≤ l.length → (l.length : Int) - i = d →
    (∀ j, 0 < j → j < i → rd l (j - 1) < rd l j) → ∃ b, Ev (fun k => impl_isIncreasing.l0 k l l.length i) b ∧ (b = true ↔ ∀ j, 0 < j → j < (l.length : Int) → rd l (j - 1) < rd l j) := by
  induction d with
  | zero =>
    intro i h0 h1 hd hp
    refine ⟨true, Ev_succ ?_, ?_⟩
    · simp only [impl_isIncreasing.l0, if_neg (show ¬ i < (l.length : Int) by omega)]; exact Ev.now _
    · simp only [true_iff]; exact fun j j0 j1 => hp j j0 (by omega)
  | succ d ih =>
    intro i h0 h1 hd hp
    have hlt : i < (l.length : Int) := by omega
    by_cases hi0 : i > 0
    · by_cases hr : rd l i ≤ rd l (i - 1)
      · refine ⟨false, Ev_succ ?_, ?_⟩
        · simp (disch := omega) only [impl_isIncreasing.l0, w64]
          simp only [if_pos hlt, if_pos hi0, if_pos h0, if_pos (show 0 ≤ i - 1 by omega), if_pos (show i - 1 < (l.length : Int) by omega), if_pos hr]
          exact Ev.now _
        · simp only [Bool.false_eq_true, false_iff]; exact fun g => by have := g i hi0 hlt; omega
      · obtain ⟨b, h, hbi⟩ := ih (i + 1) (by omega) (by omega) (by omega) (fun j j0 j1 => by
          by_cases e : j = i
          · rw [e]; omega
          · exact hp j j0 (by omega))
        refine ⟨b, Ev_succ ?_, hbi⟩
        simp (disch := omega) only [impl_isIncreasing.l0, w64]
        simp only [if_pos hlt, if_pos hi0, if_pos h0, if_pos (show 0 ≤ i - 1 by omega), if_pos (show i - 1 < (l.length : Int) by omega), if_neg hr]
        exact h
    · obtain ⟨b, h, hbi⟩ := ih (i + 1) (by omega) (by omega) (by omega) (fun j j0 j1 => by
        by_cases e : j = i
        · omega
        · exact hp j j0 (by omega))
      refine ⟨b, Ev_succ ?_, hbi⟩
      simp (disch := omega) only [impl_isIncreasing.l0, w64]
      simp only [if_pos hlt, if_neg hi0]
      exact h
theorem isInc_ev (l : List Int) (hl : (l.length : Int) ≤ 4611686018427387904) : ∃ b, Ev (fun k => impl_isIncreasing.f k l) b ∧ (b = true ↔ ∀ j, 0 < j → j < (l.length : Int) → rd l (j - 1) < rd l j) :=
  isInc_loop l hl l.length 0 (by omega) (by omega) (by omega) (fun j _ _ => by omega)
def TapsOk (l : List Int) : Prop := 1 ≤ (l.length : Int) ∧ (l.length : Int) ≤ 16 ∧ RisesIn l 1 16
theorem l06Taps_ev (l : List Int) (hl : (l.length : Int) ≤ 4611686018427387904) : ∃ b, Ev (fun k => spec_l06Taps.f k l) b ∧ (b = true ↔ TapsOk l) := by
  simp only [spec_l06Taps.f, l00In_eq, Option.bind_some]
  by_cases h : 1 ≤ (l.length : Int) ∧ (l.length : Int) ≤ 16
  · obtain ⟨b, hb, hi⟩ := l00Rises_loop l 1 16 hl l.length 0 (by omega) (by omega) (by omega) (fun j _ _ => by omega)
    refine ⟨b, ?_, by rw [hi]; exact ⟨fun g => ⟨h.1, h.2, g⟩, fun g => g.2.2⟩⟩
    simp only [h, and_self, decide_true, if_true]
    exact Ev.bind hb (Ev.now _)
  · refine ⟨false, ?_, ?_⟩
    · simp only [h, decide_false, Bool.false_eq_true, if_false]; exact Ev.now _
    · simp only [Bool.false_eq_true, false_iff]; exact fun g => h ⟨g.1, g.2.1⟩
theorem areTaps_ev (l : List Int) (hl : (l.length : Int) ≤ 4611686018427387904) : ∃ b, Ev (fun k => impl_areTaps.f k l) b ∧ (b = true ↔ TapsOk l) := by
  simp only [impl_areTaps.f]
  by_cases h1 : (l.length : Int) ≥ 1
  · by_cases h2 : (l.length : Int) ≤ 16
    · obtain ⟨b, hb, hi⟩ := areIn_ev l 1 16 hl
      obtain ⟨c, hc, hj⟩ := isInc_ev l hl
      simp only [if_pos h1, if_pos h2]
      cases b with
      | true =>
        refine ⟨c, Ev.bind hb ?_, ?_⟩
        · simp only [if_true]; exact Ev.bind hc (Ev.now _)
        · rw [hj]
          exact ⟨fun g => ⟨h1, h2, fun i i0 i1 => ⟨hi.1 rfl i i0 i1, fun z => g i z i1⟩⟩, fun g j j0 j1 => (g.2.2 j (by omega) j1).2 j0⟩
      | false =>
        refine ⟨false, Ev.bind hb ?_, ?_⟩
        · simp only [Bool.false_eq_true, if_false]; exact Ev.now _
        · simp only [Bool.false_eq_true, false_iff]
          intro g
          have := hi.2 (fun j j0 j1 => (g.2.2 j j0 j1).1)
          cases this
    · exact ⟨false, by simp only [if_pos h1, if_neg h2]; exact Ev.now _, by simp only [Bool.false_eq_true, false_iff]; exact fun g => h2 g.2.1⟩
  · exact ⟨false, by simp only [if_neg h1]; exact Ev.now _, by simp only [Bool.false_eq_true, false_iff]; exact fun g => h1 g.1⟩
def ScrOk (l : List Int) (s : ByteArray) : Prop := TapsOk l ∧ AllBit s ∧ (s.size : Int) = rd l ((l.length : Int) - 1)
theorem ScrOk.small {l : List Int} {s : ByteArray} (h : ScrOk l s) : 1 ≤ (s.size : Int) ∧ (s.size : Int) ≤ 16 := by
  obtain ⟨⟨h1, h2, h3⟩, -, h4⟩ := h
  have := (h3 ((l.length : Int) - 1) (by omega) (by omega)).1
  omega
theorem l06Is_ev (l : List Int) (s : ByteArray) (hl : (l.length : Int) ≤ 1048576) (hs : s.size ≤ 140737488351232) : ∃ b, Ev (fun k => spec_l06Is.f k l s) b ∧ (b = true ↔ ScrOk l s) := by
  obtain ⟨b, hb, hi⟩ := l06Taps_ev l (by omega)
  obtain ⟨c, hc, hj⟩ := l01Bits_ev s hs
  simp only [spec_l06Is.f]
  simp (disch := omega) only [w64]
  cases b with
  | false =>
    refine ⟨false, Ev.bind hb (by simp only [Bool.false_eq_true, if_false]; exact Ev.now _), ?_⟩
    simp only [Bool.false_eq_true, false_iff]
    exact fun g => by have := hi.2 g.1; cases this
  | true =>
    have ht := hi.1 rfl
    cases c with
    | false =>
      refine ⟨false, Ev.bind hb ?_, ?_⟩
      · simp only [if_true]
        exact Ev.bind hc (by simp only [Bool.false_eq_true, if_false]; exact Ev.now _)
      · simp only [Bool.false_eq_true, false_iff]
        exact fun g => by have := hj.2 ⟨g.2.1, by have := g.small; omega⟩; cases this
    | true =>
      have hb2 := hj.1 rfl
      refine ⟨(s.size : Int) == rd l ((l.length : Int) - 1), Ev.bind hb ?_, ?_⟩
      · simp only [if_true]
        refine Ev.bind hc ?_
        simp only [if_true, if_pos (show 0 ≤ (l.length : Int) - 1 by have := ht.1; omega), if_pos (show (l.length : Int) - 1 < (l.length : Int) by omega)]
        exact Ev.now _
      · rw [beq_iff_eq]
        exact ⟨fun g => ⟨ht, hb2.1, g⟩, fun g => g.2.2⟩
theorem validScr_ev (l : List Int) (s : ByteArray) (hl : (l.length : Int) ≤ 1048576) (hs : s.size ≤ 140737488351232) : ∃ b, Ev (fun k => impl_ValidScrambler.f k l s) b ∧ (b = true ↔ ScrOk l s) := by
  obtain ⟨b, hb, hi⟩ := areTaps_ev l (by omega)
  obtain ⟨c, hc, hj⟩ := areBits_ev s hs
  simp only [impl_ValidScrambler.f, hc, Option.bind_some]
  simp (disch := omega) only [w64]
  cases b with
  | false =>
    refine ⟨false, Ev.bind hb (by simp only [Bool.false_eq_true, if_false]; exact Ev.now _), ?_⟩
    simp only [Bool.false_eq_true, false_iff]
    exact fun g => by have := hi.2 g.1; cases this
  | true =>
    have ht := hi.1 rfl
    cases c with
    | false =>
      refine ⟨false, Ev.bind hb ?_, ?_⟩
      · simp only [if_true, Bool.false_eq_true, if_false]; exact Ev.now _
      · simp only [Bool.false_eq_true, false_iff]
        exact fun g => by have := hj.2 g.2.1; cases this
    | true =>
      have hb2 := hj.1 rfl
      refine ⟨(s.size : Int) == rd l ((l.length : Int) - 1), Ev.bind hb ?_, ?_⟩
      · simp only [if_true, if_pos (show 0 ≤ (l.length : Int) - 1 by have := ht.1; omega), if_pos (show (l.length : Int) - 1 < (l.length : Int) by omega)]
        exact Ev.now _
      · rw [beq_iff_eq]
        exact ⟨fun g => ⟨ht, hb2, g⟩, fun g => g.2.2⟩
theorem scr_both (l : List Int) (s : ByteArray) (hl : (l.length : Int) ≤ 1048576) (hs : s.size ≤ 140737488351232) :
    ∃ b, Ev (fun k => spec_l06Is.f k l s) b ∧ Ev (fun k => impl_ValidScrambler.f k l s) b ∧ (b = true ↔ ScrOk l s) := by
  obtain ⟨b, hb, hi⟩ := l06Is_ev l s hl hs
  obtain ⟨c, hc, hj⟩ := validScr_ev l s hl hs
  have e : c = b := by cases b <;> cases c <;> simp_all
  subst e
  exact ⟨c, hb, hc, hi⟩

def BitL (x : List Int) : Prop := ∀ v ∈ x, v = 0 ∨ v = 1
def up (x : List Int) : List Int := x.map (fun v => 48 + v)
theorem up_length (x : List Int) : (up x).length = x.length := by simp [up]
theorem up_append (x y : List Int) : up (x ++ y) = up x ++ up y := by simp [up]
theorem up_drop (x : List Int) (n : Nat) : (up x).drop n = up (x.drop n) := by simp [up]
theorem BitL_append {x y : List Int} (hx : BitL x) (hy : BitL y) : BitL (x ++ y) := by
  intro v hv; rcases List.mem_append.1 hv with h | h
  · exact hx v h
  · exact hy v h
theorem BitL_one {v : Int} (h : v = 0 ∨ v = 1) : BitL [v] := by intro w hw; rw [List.mem_singleton.1 hw]; exact h
theorem BitL_drop {x : List Int} (hx : BitL x) (n : Nat) : BitL (x.drop n) := fun v hv => hx v (List.mem_of_mem_drop hv)
theorem rd_bit {x : List Int} (hx : BitL x) (i : Int) (h0 : 0 ≤ i) (h1 : i < x.length) : rd x i = 0 ∨ rd x i = 1 := by
  unfold rd
  rw [List.getD_eq_getElem?_getD, List.getElem?_eq_getElem (show i.toNat < x.length by omega)]
  exact hx _ (List.getElem_mem _)
theorem rd_up (x : List Int) (i : Int) (h0 : 0 ≤ i) (h1 : i < x.length) : rd (up x) i = 48 + rd x i := by
  unfold rd up
  rw [List.getD_eq_getElem?_getD, List.getD_eq_getElem?_getD, List.getElem?_map, List.getElem?_eq_getElem (show i.toNat < x.length by omega)]
  rfl
theorem xor_bit {a b : Int} (ha : a = 0 ∨ a = 1) (hb : b = 0 ∨ b = 1) : Go.bits .xor .u8 a b = 0 ∨ Go.bits .xor .u8 a b = 1 := by
  rcases ha with rfl | rfl <;> rcases hb with rfl | rfl <;> decide
theorem and_up {a : Int} (ha : a = 0 ∨ a = 1) : Go.bits .and .u8 (48 + a) 1 = a := by
  rcases ha with rfl | rfl <;> decide
theorem xor_up {a b : Int} (ha : a = 0 ∨ a = 1) (hb : b = 0 ∨ b = 1) : Go.bits .xor .u8 (48 + a) b = 48 + Go.bits .xor .u8 a b := by
  rcases ha with rfl | rfl <;> rcases hb with rfl | rfl <;> decide
theorem xor_self_down {a b : Int} (ha : a = 0 ∨ a = 1) (hb : b = 0 ∨ b = 1) : Go.bits .xor .u8 a b = Go.bits .xor .u8 b a := by
  rcases ha with rfl | rfl <;> rcases hb with rfl | rfl <;> decide
theorem rises_mono (l : List Int) {lo hi : Int} (h : RisesIn l lo hi) (d : Nat) : ∀ i : Int, 0 ≤ i → i + d < l.length → rd l i ≤ rd l (i + d) := by
  induction d with
  | zero => intro i h0 h1; simp
  | succ d ih =>
    intro i h0 h1
    have h2 := ih i h0 (by omega)
    have h3 := (h (i + d + 1) (by omega) (by omega)).2 (by omega)
    rw [show i + (d : Int) + 1 - 1 = i + d by omega] at h3
    rw [show i + ((d + 1 : Nat) : Int) = i + d + 1 by omega]
    omega
theorem tap_le {l : List Int} {s : ByteArray} (h : ScrOk l s) (i : Int) (h0 : 0 ≤ i) (h1 : i < l.length) : 1 ≤ rd l i ∧ rd l i ≤ s.size := by
  have h2 := rises_mono l h.1.2.2 ((l.length : Int) - 1 - i).toNat i h0 (by omega)
  rw [show i + (((l.length : Int) - 1 - i).toNat : Int) = (l.length : Int) - 1 by omega, ← h.2.2] at h2
  exact ⟨(h.1.2.2 i h0 h1).1.1, h2⟩
def revB (s : ByteArray) : Nat → List Int
  | 0 => []
  | n + 1 => (bt s n - 48) :: revB s n
theorem revB_length (s : ByteArray) : ∀ n, (revB s n).length = n
  | 0 => rfl
  | n + 1 => by simp [revB, revB_length s n]
theorem revB_bit (s : ByteArray) (h : AllBit s) : ∀ n : Nat, n ≤ s.size → BitL (revB s n)
  | 0, _ => by intro v hv; cases hv
  | n + 1, hn => by
    intro v hv
    rcases List.mem_cons.1 hv with e | e
    · have := h n (by omega) (by omega); omega
    · exact revB_bit s h n (by omega) v e
theorem before_loop (s : ByteArray) (h : AllBit s) (hs : s.size ≤ 1000000) : ∀ (n : Nat) (acc : List Int), n ≤ s.size → acc.length ≤ 1000000 - n → Ev (fun k => spec_l06Before.l0 k s acc ((n : Int) - 1)) (acc ++ revB s n)
  | 0, acc, _, _ => by
    refine Ev_succ ?_
    simp only [spec_l06Before.l0, if_neg (show ¬ ((0 : Nat) : Int) - 1 ≥ 0 by omega), revB, List.append_nil]
    exact Ev.now _
  | n + 1, acc, hn, ha => by
    refine Ev_succ ?_
    have hb := h n (by omega) (by omega)
    simp (disch := omega) only [spec_l06Before.l0, w64]
    simp only [show (((n + 1 : Nat) : Int) - 1) = (n : Int) by omega]
    simp only [if_pos (show (n : Int) ≥ 0 by omega), if_pos (show (0 : Int) ≤ n by omega), if_pos (show (n : Int) < s.size by omega), if_pos (show acc.length < 140737488355328 by omega), show (bt s n - 48) % 256 = bt s n - 48 by omega]
    have := before_loop s h hs n (acc ++ [bt s n - 48]) (by omega) (by simp; omega)
    rw [List.append_assoc] at this
    exact this
theorem before_ev (s : ByteArray) (h : AllBit s) (hs : s.size ≤ 1000000) : Ev (fun k => spec_l06Before.f k s) (revB s s.size) := by
  simp (disch := omega) only [spec_l06Before.f, w64]
  have := before_loop s h hs s.size [] (Nat.le_refl _) (by simp)
  rwa [List.nil_append] at this
theorem up_revB (s : ByteArray) : ∀ n : Nat, n ≤ s.size → up (revB s n) = ((Gd.zsOf s).take n).reverse
  | 0, _ => by simp [up, revB]
  | n + 1, hn => by
    have hz := Gd.zsOf_length s
    have h1 : n < (Gd.zsOf s).length := by omega
    have hd : n < s.data.toList.length := by rw [Array.length_toList]; exact hn
    rw [List.take_succ_eq_append_getElem h1, List.reverse_append, ← up_revB s n (by omega)]
    have : (Gd.zsOf s)[n] = bt s n := by rw [bt_list s n (by omega)]; simp [Gd.zsOf]
    simp [this, revB, up]
    omega

theorem bt_sn (xs : List Int) (i : Int) (h0 : 0 ≤ i) (h1 : i < xs.length) (hr : 0 ≤ rd xs i ∧ rd xs i < 256) : bt (strOfNums xs) i = rd xs i := by
  obtain ⟨n, rfl⟩ : ∃ n : Nat, i = n := ⟨i.toNat, by omega⟩
  have hz := sn_size xs
  have hn : n < xs.length := by omega
  rw [bt_list _ n (by omega)]
  have hrd : rd xs n = xs[n] := by unfold rd; rw [Int.toNat_natCast, List.getD_eq_getElem?_getD, List.getElem?_eq_getElem hn]; rfl
  rw [hrd] at hr ⊢
  have e : (strOfNums xs).data.toList[n]'(by rw [dl_size]; omega) = UInt8.ofNat (xs[n]).toNat := by simp [strOfNums]
  rw [e, UInt8.toNat_ofNat']
  omega
theorem AllBit_up (z : List Int) (hz : BitL z) : AllBit (strOfNums (up z)) := by
  intro i h0 h1
  rw [sn_size, up_length] at h1
  have hb := rd_bit hz i h0 (by omega)
  have hr := rd_up z i h0 (by omega)
  rw [bt_sn (up z) i h0 (by rw [up_length]; omega) (by omega)]
  omega
theorem BitL_zeros (n : Nat) : BitL (List.replicate n 0) := fun v hv => .inl (List.eq_of_mem_replicate hv)
theorem zeros_size (n : Nat) : (strOfNums (up (List.replicate n 0))).size = n := by rw [sn_size, up_length, List.length_replicate]

def sumT : List Int → List Int → Int
  | [], _ => 0
  | t :: r, x => rd x ((x.length : Int) - t) + sumT r x
def sumM (l x : List Int) : Int := sumT l x % 2
theorem xor_mod {a b : Int} (ha : a = 0 ∨ a = 1) (hb : b = 0 ∨ b = 1) : Go.bits .xor .u8 a b = (a + b) % 2 := by
  rcases ha with rfl | rfl <;> rcases hb with rfl | rfl <;> decide
theorem sumM_bit (l x : List Int) : sumM l x = 0 ∨ sumM l x = 1 := by unfold sumM; omega
theorem drop_rd (l : List Int) (n : Nat) (h : n < l.length) : l.drop n = rd l n :: l.drop (n + 1) := by
  rw [List.drop_eq_getElem_cons h]
  congr 1
  unfold rd
  rw [Int.toNat_natCast, List.getD_eq_getElem?_getD, List.getElem?_eq_getElem h]
  rfl
def scrS (l : List Int) : List Int → List Int → List Int
  | _, [] => []
  | x, b :: r => (b + sumM l x) % 2 :: scrS l (x ++ [(b + sumM l x) % 2]) r
def desS (l : List Int) : List Int → List Int → List Int
  | _, [] => []
  | x, c :: r => (c + sumM l x) % 2 :: desS l (x ++ [c]) r
def keyS (l : List Int) : List Int → Nat → List Int
  | _, 0 => []
  | x, n + 1 => sumM l x :: keyS l (x ++ [sumM l x]) n
def addS (a b : List Int) : List Int := List.zipWith (fun x y => (x + y) % 2) a b
theorem BitL_mod (v : Int) : v % 2 = 0 ∨ v % 2 = 1 := by omega
theorem scrS_bit (l : List Int) : ∀ b x, BitL (scrS l x b)
  | [], x => by intro v hv; cases hv
  | b :: r, x => by
    intro v hv
    rcases List.mem_cons.1 hv with e | e
    · rw [e]; exact BitL_mod _
    · exact scrS_bit l r _ v e
theorem scrS_length (l : List Int) : ∀ b x, (scrS l x b).length = b.length
  | [], x => rfl
  | b :: r, x => by rw [scrS, List.length_cons, List.length_cons, scrS_length l r]
theorem desS_bit (l : List Int) : ∀ b x, BitL (desS l x b)
  | [], x => by intro v hv; cases hv
  | b :: r, x => by
    intro v hv
    rcases List.mem_cons.1 hv with e | e
    · rw [e]; exact BitL_mod _
    · exact desS_bit l r _ v e
theorem desS_length (l : List Int) : ∀ b x, (desS l x b).length = b.length
  | [], x => rfl
  | b :: r, x => by rw [desS, List.length_cons, List.length_cons, desS_length l r]
theorem keyS_bit (l : List Int) : ∀ n x, BitL (keyS l x n)
  | 0, x => by intro v hv; cases hv
  | n + 1, x => by
    intro v hv
    rcases List.mem_cons.1 hv with e | e
    · rw [e]; exact sumM_bit _ _
    · exact keyS_bit l n _ v e
theorem keyS_length (l : List Int) : ∀ n x, (keyS l x n).length = n
  | 0, x => rfl
  | n + 1, x => by rw [keyS, List.length_cons, keyS_length l n]
theorem BitL_tail {b : Int} {r : List Int} (h : BitL (b :: r)) : (b = 0 ∨ b = 1) ∧ BitL r := ⟨h b List.mem_cons_self, fun v hv => h v (List.mem_cons_of_mem _ hv)⟩
theorem desS_scrS (l : List Int) : ∀ b x, BitL b → desS l x (scrS l x b) = b
  | [], x, h => rfl
  | b :: r, x, h => by
    rw [scrS, desS, desS_scrS l r _ (BitL_tail h).2]
    congr 1
    have := (BitL_tail h).1
    omega
theorem addS_addS : ∀ a b : List Int, BitL a → a.length = b.length → addS (addS a b) b = a
  | [], b, h, hl => by simp [addS]
  | a :: r, [], h, hl => by simp at hl
  | a :: r, b :: q, h, hl => by
    have e := addS_addS r q (BitL_tail h).2 (by simpa using hl)
    unfold addS at e ⊢
    rw [List.zipWith_cons_cons, List.zipWith_cons_cons, e]
    congr 1
    have := (BitL_tail h).1
    omega
theorem addS_length (a b : List Int) (h : a.length = b.length) : (addS a b).length = a.length := by simp [addS, h]
theorem addS_bit (a b : List Int) : BitL (addS a b) := by
  intro v hv
  unfold addS at hv
  obtain ⟨n, hn, e⟩ := List.getElem_of_mem hv
  rw [← e, List.getElem_zipWith]
  exact BitL_mod _
theorem desS_append (l : List Int) : ∀ a b x, desS l x (a ++ b) = desS l x a ++ desS l (x ++ a) b
  | [], b, x => by simp [desS]
  | c :: r, b, x => by
    rw [List.cons_append, desS, desS, List.cons_append, desS_append l r b, List.append_assoc, List.singleton_append]
theorem rd_app (x z : List Int) (t : Int) (h1 : 1 ≤ t) (h2 : t ≤ z.length) : rd (x ++ z) (((x ++ z).length : Int) - t) = rd z ((z.length : Int) - t) := by
  unfold rd
  have e : (((x ++ z).length : Int) - t).toNat = x.length + ((z.length : Int) - t).toNat := by rw [List.length_append]; omega
  rw [e, List.getD_eq_getElem?_getD, List.getD_eq_getElem?_getD, List.getElem?_append_right (by omega), Nat.add_sub_cancel_left]
theorem sumT_app (x z : List Int) : ∀ l : List Int, (∀ t ∈ l, 1 ≤ t ∧ t ≤ z.length) → sumT l (x ++ z) = sumT l z
  | [], h => rfl
  | t :: r, h => by
    have ht := h t List.mem_cons_self
    rw [sumT, sumT, sumT_app x z r (fun q hq => h q (List.mem_cons_of_mem _ hq)), rd_app x z t ht.1 ht.2]
theorem desS_tail (l x : List Int) : ∀ (r z : List Int), (∀ t ∈ l, 1 ≤ t ∧ t ≤ z.length) → desS l (x ++ z) r = desS l z r
  | [], z, h => rfl
  | c :: r, z, h => by
    rw [desS, desS, sumM, sumM, sumT_app x z l h, List.append_assoc, desS_tail l x r (z ++ [c]) (fun t ht => by have := h t ht; rw [List.length_append]; simp; omega)]
theorem taps_mem {l : List Int} {s : ByteArray} (h : ScrOk l s) : ∀ t ∈ l, 1 ≤ t ∧ t ≤ s.size := by
  intro t ht
  obtain ⟨n, hn, rfl⟩ := List.getElem_of_mem ht
  have := tap_le h n (by omega) (by omega)
  have e : rd l n = l[n] := by unfold rd; rw [Int.toNat_natCast, List.getD_eq_getElem?_getD, List.getElem?_eq_getElem hn]; rfl
  rw [e] at this
  exact this
theorem rd_nat (l : List Int) (n : Nat) (h : n < l.length) : rd l n = l[n] := by
  unfold rd; rw [Int.toNat_natCast, List.getD_eq_getElem?_getD, List.getElem?_eq_getElem h]; rfl
theorem bt_up (b : List Int) (hb : BitL b) (i : Nat) (h : i < b.length) : bt (strOfNums (up b)) i = 48 + rd b i := by
  have h1 := rd_up b i (by omega) (by omega)
  have h2 := rd_bit hb i (by omega) (by omega)
  rw [bt_sn (up b) i (by omega) (by rw [up_length]; omega) (by rw [h1]; omega), h1]
theorem sz_up (b : List Int) : (strOfNums (up b)).size = b.length := by rw [sn_size, up_length]
theorem xor_up8 {a b : Int} (ha : a = 0 ∨ a = 1) (hb : b = 0 ∨ b = 1) : (if UInt8.ofNat (48 + a).toNat = UInt8.ofNat (48 + b).toNat then (48 : UInt8) else 49) = UInt8.ofNat (48 + (a + b) % 2).toNat := by
  rcases ha with rfl | rfl <;> rcases hb with rfl | rfl <;> decide
theorem valid_ok {l : List Int} {s : ByteArray} (h : ScrOk l s) : Ev (fun k => impl_ValidScrambler.f k l s) true := by
  have h16 := h.small
  have := h.1.2.1
  obtain ⟨b, hb, hi⟩ := validScr_ev l s (by omega) (by omega)
  rw [hi.2 h] at hb
  exact hb
def hist (s : ByteArray) : List Int := revB s s.size
theorem hist_ok {l : List Int} {s : ByteArray} (h : ScrOk l s) : BitL (hist s) ∧ (hist s).length = s.size := ⟨revB_bit s h.2.1 _ (Nat.le_refl _), revB_length s _⟩
theorem hist_drop {l : List Int} {s : ByteArray} (h : ScrOk l s) : (hist s).drop s.size = [] := List.drop_of_length_le (by rw [(hist_ok h).2]; exact Nat.le_refl _)

def valN : List Int → Nat
  | [] => 0
  | b :: r => b.toNat + 2 * valN r
theorem valN_lt : ∀ x : List Int, BitL x → valN x < 2 ^ x.length
  | [], h => by simp [valN]
  | b :: r, h => by
    have := valN_lt r (BitL_tail h).2
    have hb := (BitL_tail h).1
    rw [valN, List.length_cons, Nat.pow_succ]; omega
theorem valN_inj : ∀ x y : List Int, BitL x → BitL y → x.length = y.length → valN x = valN y → x = y
  | [], [], _, _, _, _ => rfl
  | a :: r, b :: q, h, g, hl, e => by
    have ha := (BitL_tail h).1
    have hb := (BitL_tail g).1
    rw [valN, valN] at e
    rw [valN_inj r q (BitL_tail h).2 (BitL_tail g).2 (by simpa using hl) (by omega), show a = b by omega]
theorem valN_snoc : ∀ (x : List Int) (c : Int), valN (x ++ [c]) = valN x + c.toNat * 2 ^ x.length
  | [], c => by simp [valN]
  | b :: r, c => by
    rw [List.cons_append, valN, valN, valN_snoc r c, List.length_cons, Nat.pow_succ, Nat.mul_add, ← Nat.mul_assoc c.toNat, Nat.mul_comm (c.toNat * 2 ^ r.length) 2]
    omega
theorem valN_half (b : Int) (r : List Int) (h : b = 0 ∨ b = 1) : valN (b :: r) / 2 = valN r := by rw [valN]; omega
theorem valN_bit : ∀ (x : List Int) (j : Nat), BitL x → j < x.length → ((valN x / 2 ^ j % 2 : Nat) : Int) = rd x j
  | [], j, h, hj => by simp at hj
  | b :: r, 0, h, hj => by
    have hb := (BitL_tail h).1
    have e : rd (b :: r) ((0 : Nat) : Int) = b := rfl
    rw [e, valN, Nat.pow_zero, Nat.div_one]; omega
  | b :: r, j + 1, h, hj => by
    have e : rd (b :: r) ((j + 1 : Nat) : Int) = rd r j := by unfold rd; rw [Int.toNat_natCast, Int.toNat_natCast]; rfl
    rw [e, Nat.pow_succ, Nat.mul_comm, ← Nat.div_div_eq_div_mul, valN_half b r (BitL_tail h).1]
    exact valN_bit r j (BitL_tail h).2 (by simpa using hj)
theorem wrap_i64 (n : Nat) (h : n < 9223372036854775808) : IntKind.i64.wrap (n : Int) = n := by
  have e : IntKind.i64.wrap (n : Int) = if (true && decide ((n : Int) % 18446744073709551616 ≥ 9223372036854775808)) = true then (n : Int) % 18446744073709551616 - 18446744073709551616 else (n : Int) % 18446744073709551616 := rfl
  rw [e]
  have h2 : ¬ (n : Int) % 18446744073709551616 ≥ 9223372036854775808 := by omega
  rw [decide_eq_false h2]
  simp only [Bool.and_false, Bool.false_eq_true, if_false]
  omega
theorem ofInt_toNat (n : Nat) (h : n < 9223372036854775808) : (BitVec.ofInt 64 (n : Int)).toNat = n := by
  rw [BitVec.ofInt_natCast, BitVec.toNat_ofNat]; omega
theorem and_i64 (n : Nat) (h : n < 9223372036854775808) : Go.bits .and .i64 (n : Int) 1 = ((n % 2 : Nat) : Int) := by
  have e : Go.bits .and .i64 (n : Int) 1 = IntKind.i64.wrap ((BitVec.ofInt 64 (n : Int) &&& BitVec.ofInt 64 ((1 : Nat) : Int)).toNat : Int) := rfl
  rw [e, BitVec.toNat_and, ofInt_toNat n h, ofInt_toNat 1 (by omega), Nat.and_one_is_mod, wrap_i64 _ (by omega)]
theorem or_i64 (a m r : Nat) (h : a * 2 ^ m + r < 9223372036854775808) (hr : r < 2 ^ m) : Go.bits .or .i64 ((a * 2 ^ m : Nat) : Int) (r : Int) = ((a * 2 ^ m + r : Nat) : Int) := by
  have e : Go.bits .or .i64 ((a * 2 ^ m : Nat) : Int) (r : Int) = IntKind.i64.wrap ((BitVec.ofInt 64 ((a * 2 ^ m : Nat) : Int) ||| BitVec.ofInt 64 (r : Int)).toNat : Int) := rfl
  rw [e, BitVec.toNat_or, ofInt_toNat _ (by omega), ofInt_toNat r (by omega), Nat.mul_comm a, ← Nat.two_pow_add_eq_or_of_lt hr, wrap_i64 _ (by rw [Nat.mul_comm]; exact h)]
theorem xor_i64 {a b : Int} (ha : a = 0 ∨ a = 1) (hb : b = 0 ∨ b = 1) : Go.bits .xor .i64 a b = (a + b) % 2 := by
  rcases ha with rfl | rfl <;> rcases hb with rfl | rfl <;> decide
theorem shr_i64 (n : Nat) (j : Nat) (hj : j ≤ 16) : shr .i64 (n : Int) (j : Int) = ((n / 2 ^ j : Nat) : Int) := by
  have e : shr .i64 (n : Int) (j : Int) = (n : Int) / 2 ^ min j 64 := rfl
  rw [e, Nat.min_eq_left (by omega), Int.natCast_ediv, Int.natCast_pow]; rfl
theorem shl_i64 (a j : Nat) (hj : j ≤ 16) (h : a * 2 ^ j < 9223372036854775808) : shl .i64 (a : Int) (j : Int) = ((a * 2 ^ j : Nat) : Int) := by
  have e : shl .i64 (a : Int) (j : Int) = IntKind.i64.wrap ((a : Int) * 2 ^ min j 64) := rfl
  have e2 : (a : Int) * 2 ^ j = ((a * 2 ^ j : Nat) : Int) := by rw [Int.natCast_mul, Int.natCast_pow]; rfl
  rw [e, Nat.min_eq_left (by omega), e2, wrap_i64 _ h]
def stepK (T x : List Int) : List Int := x.drop 1 ++ [sumM T x]
def iterK (T x : List Int) : Nat → List Int
  | 0 => x
  | n + 1 => stepK T (iterK T x n)
theorem stepK_ok (T x : List Int) (hx : BitL x) (h1 : 1 ≤ x.length) : BitL (stepK T x) ∧ (stepK T x).length = x.length :=
  ⟨BitL_append (BitL_drop hx 1) (BitL_one (sumM_bit T x)), by rw [stepK, List.length_append, List.length_drop]; show x.length - 1 + 1 = _; omega⟩
theorem iterK_ok (T x : List Int) (hx : BitL x) (h1 : 1 ≤ x.length) : ∀ n, BitL (iterK T x n) ∧ (iterK T x n).length = x.length
  | 0 => ⟨hx, rfl⟩
  | n + 1 => by
    have := iterK_ok T x hx h1 n
    have h2 := stepK_ok T _ this.1 (by omega)
    exact ⟨h2.1, by rw [iterK, h2.2, this.2]⟩
theorem sumT_append : ∀ (A B x : List Int), sumT (A ++ B) x = sumT A x + sumT B x
  | [], B, x => by simp [sumT]
  | t :: r, B, x => by rw [List.cons_append, sumT, sumT, sumT_append r B x]; omega
theorem taps_split {T : List Int} {s : ByteArray} (h : ScrOk T s) : ∃ A, T = A ++ [(s.size : Int)] ∧ ∀ t ∈ A, 1 ≤ t ∧ t < s.size := by
  have h1 := h.1.1
  have hT : T.length - 1 < T.length := by omega
  have hd : T = T.take (T.length - 1) ++ [T[T.length - 1]] := by
    conv => lhs; rw [← List.take_append_drop (T.length - 1) T]
    rw [List.drop_eq_getElem_cons hT, List.drop_of_length_le (by omega)]
  have hl := rd_nat T (T.length - 1) hT
  have hs := h.2.2
  rw [show (T.length : Int) - 1 = ((T.length - 1 : Nat) : Int) by omega, hl] at hs
  refine ⟨T.take (T.length - 1), by rw [hs]; exact hd, fun t ht => ?_⟩
  obtain ⟨n, hn, rfl⟩ := List.getElem_of_mem ht
  rw [List.length_take] at hn
  have hn' : n < T.length := by omega
  rw [List.getElem_take]
  have hb := (h.1.2.2 n (by omega) (by omega)).1.1
  have hst := (h.1.2.2 ((n + 1 : Nat) : Int) (by omega) (by omega)).2 (by omega)
  rw [show ((n + 1 : Nat) : Int) - 1 = (n : Int) by omega] at hst
  have hm := rises_mono T h.1.2.2 (T.length - 1 - (n + 1)) ((n + 1 : Nat) : Int) (by omega) (by omega)
  rw [show ((n + 1 : Nat) : Int) + ((T.length - 1 - (n + 1) : Nat) : Int) = ((T.length - 1 : Nat) : Int) by omega, hl, ← hs] at hm
  rw [rd_nat T n hn'] at hb hst
  omega
theorem stepK_inj {T : List Int} {s : ByteArray} (h : ScrOk T s) (x y : List Int) (hx : BitL x) (hy : BitL y) (hxl : x.length = s.size) (hyl : y.length = s.size) (e : stepK T x = stepK T y) : x = y := by
  have h16 := h.small
  obtain ⟨A, rfl, hA⟩ := taps_split h
  match x, y, hx, hy, hxl, hyl, e with
  | [], _, _, _, hxl, _, _ => simp at hxl; omega
  | _ :: _, [], _, _, _, hyl, _ => simp at hyl; omega
  | a :: r, b :: q, hx, hy, hxl, hyl, e =>
    unfold stepK at e
    have e1 := List.append_inj e (by simp at hxl hyl ⊢; omega)
    have er : r = q := by simpa using e1.1
    subst er
    have e2 : sumM (A ++ [(s.size : Int)]) (a :: r) = sumM (A ++ [(s.size : Int)]) (b :: r) := by simpa using e1.2
    have hl : (r.length : Int) + 1 = s.size := by simp at hxl; omega
    have k : ∀ c : Int, sumT (A ++ [(s.size : Int)]) (c :: r) = sumT A r + c := by
      intro c
      have k1 := sumT_app [c] r A (fun t ht => by have := hA t ht; omega)
      rw [List.singleton_append] at k1
      rw [sumT_append, k1, sumT, sumT, List.length_cons]
      rw [show ((r.length + 1 : Nat) : Int) - (s.size : Int) = 0 by omega]
      show _ + (c + 0) = _
      omega
    unfold sumM at e2
    rw [k, k] at e2
    have ha := (BitL_tail hx).1
    have hb := (BitL_tail hy).1
    rw [show a = b by omega]
theorem pigeon : ∀ (n : Nat) (f : Nat → Nat), (∀ i, i ≤ n → f i < n) → ∃ i j, i < j ∧ j ≤ n ∧ f i = f j
  | 0, f, h => by have := h 0 (Nat.le_refl _); omega
  | n + 1, f, h => by
    by_cases c : ∃ i, i ≤ n ∧ f i = f (n + 1)
    · obtain ⟨i, hi, e⟩ := c; exact ⟨i, n + 1, by omega, Nat.le_refl _, e⟩
    have c' : ∀ i, i ≤ n → f i ≠ f (n + 1) := fun i hi e => c ⟨i, hi, e⟩
    obtain ⟨i, j, hij, hj, e⟩ := pigeon n (fun i => if f i = n then f (n + 1) else f i) (fun i hi => by
      have h1 := h i (by omega)
      have h2 := h (n + 1) (Nat.le_refl _)
      have h3 := c' i hi
      show (if f i = n then f (n + 1) else f i) < n
      split <;> omega)
    refine ⟨i, j, hij, by omega, ?_⟩
    have hi2 := c' i (by omega)
    have hj2 := c' j hj
    have e : (if f i = n then f (n + 1) else f i) = (if f j = n then f (n + 1) else f j) := e
    split at e <;> split at e <;> omega
theorem iterK_back {T : List Int} {s : ByteArray} (h : ScrOk T s) (x : List Int) (hx : BitL x) (hxl : x.length = s.size) (m : Nat) : ∀ i : Nat, iterK T x i = iterK T x (i + m) → x = iterK T x m := by
  have h16 := h.small
  intro i
  induction i with
  | zero => intro e; rw [Nat.zero_add] at e; exact e
  | succ i ih =>
    intro e
    have h1 := iterK_ok T x hx (by omega) i
    have h2 := iterK_ok T x hx (by omega) (i + m)
    rw [show i + 1 + m = (i + m) + 1 by omega, iterK, iterK] at e
    exact ih (stepK_inj h _ _ h1.1 h2.1 (by omega) (by omega) e)
theorem period_ex {T : List Int} {s : ByteArray} (h : ScrOk T s) (x : List Int) (hx : BitL x) (hxl : x.length = s.size) : ∃ p, 1 ≤ p ∧ p ≤ 2 ^ s.size ∧ iterK T x p = x := by
  have h16 := h.small
  obtain ⟨i, j, hij, hj, e⟩ := pigeon (2 ^ s.size) (fun n => valN (iterK T x n)) (fun n hn => by
    have := iterK_ok T x hx (by omega) n
    have h2 := valN_lt _ this.1
    rw [this.2, hxl] at h2
    exact h2)
  have h1 := iterK_ok T x hx (by omega) i
  have h2 := iterK_ok T x hx (by omega) j
  have e2 := valN_inj _ _ h1.1 h2.1 (by omega) e
  have e3 := iterK_back h x hx hxl (j - i) i (by rw [show i + (j - i) = j by omega]; exact e2)
  exact ⟨j - i, by omega, by omega, e3.symm⟩
theorem least_of (P : Nat → Prop) [DecidablePred P] (n : Nat) (h : P n) : ∃ m, m ≤ n ∧ P m ∧ ∀ k, k < m → ¬ P k := by
  induction n using Nat.strongRecOn with
  | ind n ih =>
    by_cases c : ∃ k, k < n ∧ P k
    · obtain ⟨k, hk, hp⟩ := c
      obtain ⟨m, h1, h2, h3⟩ := ih k hk hp
      exact ⟨m, by omega, h2, h3⟩
    · exact ⟨n, Nat.le_refl _, h, fun k hk hp => c ⟨k, hk, hp⟩⟩
theorem period_least {T : List Int} {s : ByteArray} (h : ScrOk T s) (x : List Int) (hx : BitL x) (hxl : x.length = s.size) : ∃ p, 1 ≤ p ∧ p ≤ 65536 ∧ p ≤ 2 ^ s.size ∧ iterK T x p = x ∧ ∀ q, 1 ≤ q → q < p → iterK T x q ≠ x := by
  have h16 := h.small
  obtain ⟨p, h1, h2, h3⟩ := period_ex h x hx hxl
  have hp : (2 : Nat) ^ s.size ≤ 2 ^ 16 := Nat.pow_le_pow_right (by omega) (by omega)
  have h64 : (2 : Nat) ^ 16 = 65536 := by decide
  obtain ⟨m, k1, ⟨k2, k4⟩, k3⟩ := least_of (fun q => 1 ≤ q ∧ iterK T x q = x) p ⟨h1, h3⟩
  exact ⟨m, k2, by omega, by omega, k4, fun q q1 q2 e => k3 q q2 ⟨q1, e⟩⟩

def FnExactKeyPeriod_Pure : Prop := ∀ (l0_0 : List Int) (a0_1 : ByteArray), l0_0.length ≤ maxLen → l0_0.length * 8 ≤ 140737488351232 → (∀ x ∈ l0_0, (Lit.int .i64 x).wf = true) → a0_1.size ≤ 140737488351232 → ∃ k, laws_FnExactKeyPeriod.f k l0_0 a0_1 = some true
theorem sum_specM {l : List Int} {s : ByteArray} (h : ScrOk l s) (x : List Int) (hx : BitL x) (hl : s.size ≤ x.length) (hm : x.length ≤ 1000000) (d : Nat) : ∀ (v : Int) (i : Nat), i + d = l.length → (v = 0 ∨ v = 1) →
    Ev (fun k => spec_l06Sum.l0 k l x v i) ((v + sumT (l.drop i) x) % 2) := by
  induction d with
  | zero =>
    intro v i hd hv
    refine Ev_succ ?_
    rw [List.drop_of_length_le (by omega), sumT]
    simp only [spec_l06Sum.l0, if_neg (show ¬ (i : Int) < (l.length : Int) by omega)]
    rw [show (v + 0) % 2 = v by omega]; exact Ev.now _
  | succ d ih =>
    intro v i hd hv
    have hlt : (i : Int) < (l.length : Int) := by omega
    have h0 : (0 : Int) ≤ i := by omega
    have ht := tap_le h i h0 hlt
    have h16 := h.1.2.1
    have q0 : 0 ≤ (x.length : Int) - rd l i := by omega
    have q1 : (x.length : Int) - rd l i < x.length := by omega
    have hb := rd_bit hx ((x.length : Int) - rd l i) q0 q1
    have hv' : (v + rd x ((x.length : Int) - rd l i)) % 2 = 0 ∨ (v + rd x ((x.length : Int) - rd l i)) % 2 = 1 := by omega
    have hE := ih _ (i + 1) (by omega) hv'
    have b1 : -9223372036854775808 ≤ (x.length : Int) - rd l i ∧ (x.length : Int) - rd l i ≤ 9223372036854775807 := by omega
    have b2 : -9223372036854775808 ≤ ((i + 1 : Nat) : Int) ∧ ((i + 1 : Nat) : Int) ≤ 9223372036854775807 := by omega
    have b3 : (i : Int) + 1 = ((i + 1 : Nat) : Int) := by omega
    have e : ((v + rd x ((x.length : Int) - rd l i)) % 2 + sumT (l.drop (i + 1)) x) % 2 = (v + sumT (l.drop i) x) % 2 := by
      rw [drop_rd l i (by omega), sumT]; omega
    rw [e] at hE
    refine Ev_succ ?_
    simp only [spec_l06Sum.l0, w64 b1.1 b1.2, b3, w64 b2.1 b2.2, if_pos hlt, if_pos h0, if_pos q0, if_pos q1, xor_mod hv hb]
    exact hE
theorem sum_specE {l : List Int} {s : ByteArray} (h : ScrOk l s) (x : List Int) (hx : BitL x) (hl : s.size ≤ x.length) (hm : x.length ≤ 1000000) : Ev (fun k => spec_l06Sum.f k l x) (sumM l x) := by
  have := sum_specM h x hx hl hm l.length 0 0 (by omega) (.inl rfl)
  rw [List.drop_zero, Int.zero_add] at this
  exact this
def valB (x : List Int) : Nat := x.foldl (fun n b => 2 * n + b.toNat) 0
def valA (n : Nat) : List Int → Nat
  | [] => n
  | b :: r => valA (2 * n + b.toNat) r
theorem valA_eq : ∀ (x : List Int) (n : Nat), valA n x = n * 2 ^ x.length + valN x.reverse
  | [], n => by simp [valA, valN]
  | b :: r, n => by
    rw [valA, valA_eq r, List.reverse_cons, valN_snoc, List.length_reverse, List.length_cons, Nat.pow_succ, Nat.add_mul, Nat.mul_comm 2 n, Nat.mul_assoc, Nat.mul_comm (2 ^ r.length) 2]
    omega
theorem valA_lt (x : List Int) (hx : BitL x) : valA 0 x < 2 ^ x.length := by
  rw [valA_eq, Nat.zero_mul, Nat.zero_add]
  have := valN_lt x.reverse (fun v hv => hx v (List.mem_reverse.1 hv))
  rwa [List.length_reverse] at this
theorem valA_inj (x y : List Int) (hx : BitL x) (hy : BitL y) (hl : x.length = y.length) (e : valA 0 x = valA 0 y) : x = y := by
  rw [valA_eq, valA_eq, Nat.zero_mul, Nat.zero_mul, Nat.zero_add, Nat.zero_add] at e
  have := valN_inj x.reverse y.reverse (fun v hv => hx v (List.mem_reverse.1 hv)) (fun v hv => hy v (List.mem_reverse.1 hv)) (by simpa using hl) e
  simpa using congrArg List.reverse this
theorem pow16 {n : Nat} (h : n ≤ 16) : 2 ^ n ≤ 65536 := by
  have : (2 : Nat) ^ n ≤ 2 ^ 16 := Nat.pow_le_pow_right (by omega) h
  have h64 : (2 : Nat) ^ 16 = 65536 := by decide
  omega
theorem num_spec (x : List Int) (hx : BitL x) (hl : x.length ≤ 16) (d : Nat) : ∀ (n i : Nat), i + d = x.length → n < 2 ^ i → Ev (fun k => spec_l06Number.l0 k x n i) ((valA n (x.drop i) : Nat) : Int) := by
  induction d with
  | zero =>
    intro n i hd hn
    refine Ev_succ ?_
    rw [List.drop_of_length_le (by omega), valA]
    simp only [spec_l06Number.l0, if_neg (show ¬ (i : Int) < (x.length : Int) by omega)]; exact Ev.now _
  | succ d ih =>
    intro n i hd hn
    have q : (i : Int) < (x.length : Int) := by omega
    have q0 : (0 : Int) ≤ i := by omega
    have hb := rd_bit hx i q0 q
    obtain ⟨c, hc⟩ : ∃ c : Nat, rd x i = c := ⟨(rd x i).toNat, by omega⟩
    have hp := pow16 (show i ≤ 16 by omega)
    have hE := ih (2 * n + c) (i + 1) (by omega) (by rw [Nat.pow_succ]; omega)
    have b1 : -9223372036854775808 ≤ 2 * (n : Int) ∧ 2 * (n : Int) ≤ 9223372036854775807 := by omega
    have b2 : -9223372036854775808 ≤ ((2 * n + c : Nat) : Int) ∧ ((2 * n + c : Nat) : Int) ≤ 9223372036854775807 := by omega
    have b3 : -9223372036854775808 ≤ ((i + 1 : Nat) : Int) ∧ ((i + 1 : Nat) : Int) ≤ 9223372036854775807 := by omega
    have b4 : (i : Int) + 1 = ((i + 1 : Nat) : Int) := by omega
    have b5 : 2 * (n : Int) + (c : Int) = ((2 * n + c : Nat) : Int) := by omega
    have b6 : -9223372036854775808 ≤ (c : Int) ∧ (c : Int) ≤ 9223372036854775807 := by omega
    have e : valA n (x.drop i) = valA (2 * n + c) (x.drop (i + 1)) := by rw [drop_rd x i (by omega), valA, hc, Int.toNat_natCast]
    rw [← e] at hE
    refine Ev_succ ?_
    simp only [spec_l06Number.l0, if_pos q, if_pos q0, hc, w64 b6.1 b6.2, w64 b1.1 b1.2, b5, w64 b2.1 b2.2, b4, w64 b3.1 b3.2]
    exact hE
theorem num_specE (x : List Int) (hx : BitL x) (hl : x.length ≤ 16) : Ev (fun k => spec_l06Number.f k x) ((valA 0 x : Nat) : Int) := by
  have := num_spec x hx hl x.length 0 0 (by omega) (by decide)
  rw [List.drop_zero] at this
  exact this
def bitsS (s : ByteArray) : List Int := (revB s s.size).reverse
theorem rd_rev (x : List Int) (i : Nat) (h : i < x.length) : rd x.reverse i = rd x ((x.length - 1 - i : Nat) : Int) := by
  rw [rd_nat _ i (by simpa using h), rd_nat _ _ (by omega), List.getElem_reverse]
theorem rd_revB (s : ByteArray) : ∀ (n i : Nat), i < n → rd (revB s n) i = bt s ((n - 1 - i : Nat) : Int) - 48
  | 0, i, h => by omega
  | n + 1, 0, h => by rw [revB]; show bt s n - 48 = _; simp
  | n + 1, i + 1, h => by
    have e : rd (revB s (n + 1)) ((i + 1 : Nat) : Int) = rd (revB s n) i := by rw [revB]; unfold rd; rw [Int.toNat_natCast, Int.toNat_natCast]; rfl
    rw [e, rd_revB s n i (by omega), show n + 1 - 1 - (i + 1) = n - 1 - i by omega]
theorem rd_bitsS (s : ByteArray) (i : Nat) (h : i < s.size) : rd (bitsS s) i = bt s i - 48 := by
  have hl := revB_length s s.size
  unfold bitsS
  rw [rd_rev _ i (by omega), hl, rd_revB s s.size _ (by omega), show s.size - 1 - (s.size - 1 - i) = i by omega]
theorem num_impl (s : ByteArray) (hs : AllBit s) (hl : s.size ≤ 16) (d : Nat) : ∀ (n i : Nat), i + d = s.size → n < 2 ^ i → Ev (fun k => impl_number.l0 k s n s.size i) ((valA n ((bitsS s).drop i) : Nat) : Int) := by
  have hbl : (bitsS s).length = s.size := by unfold bitsS; rw [List.length_reverse, revB_length]
  induction d with
  | zero =>
    intro n i hd hn
    refine Ev_succ ?_
    rw [List.drop_of_length_le (by omega), valA]
    simp only [impl_number.l0, if_neg (show ¬ (i : Int) < (s.size : Int) by omega)]; exact Ev.now _
  | succ d ih =>
    intro n i hd hn
    have q : (i : Int) < (s.size : Int) := by omega
    have q0 : (0 : Int) ≤ i := by omega
    have hb := hs i q0 q
    have hr := rd_bitsS s i (by omega)
    obtain ⟨c, hc⟩ : ∃ c : Nat, bt s i - 48 = c := ⟨(bt s i - 48).toNat, by omega⟩
    have hc2 : (bt s i - 48) % 256 = c := by omega
    have hp := pow16 (show i ≤ 16 by omega)
    have hE := ih (2 * n + c) (i + 1) (by omega) (by rw [Nat.pow_succ]; omega)
    have b1 : -9223372036854775808 ≤ 2 * (n : Int) ∧ 2 * (n : Int) ≤ 9223372036854775807 := by omega
    have b2 : -9223372036854775808 ≤ ((2 * n + c : Nat) : Int) ∧ ((2 * n + c : Nat) : Int) ≤ 9223372036854775807 := by omega
    have b3 : -9223372036854775808 ≤ ((i + 1 : Nat) : Int) ∧ ((i + 1 : Nat) : Int) ≤ 9223372036854775807 := by omega
    have b4 : (i : Int) + 1 = ((i + 1 : Nat) : Int) := by omega
    have b5 : 2 * (n : Int) + (c : Int) = ((2 * n + c : Nat) : Int) := by omega
    have e : valA n ((bitsS s).drop i) = valA (2 * n + c) ((bitsS s).drop (i + 1)) := by rw [drop_rd _ i (by omega), valA, hr, hc, Int.toNat_natCast]
    rw [← e] at hE
    refine Ev_succ ?_
    simp only [impl_number.l0, if_pos q, if_pos q0, hc2, w64 b1.1 b1.2, b5, w64 b2.1 b2.2, b4, w64 b3.1 b3.2]
    exact hE
theorem num_implE (s : ByteArray) (hs : AllBit s) (hl : s.size ≤ 16) : Ev (fun k => impl_number.f k s) ((valN (revB s s.size) : Nat) : Int) := by
  have := num_impl s hs hl s.size 0 0 (by omega) (by decide)
  rw [List.drop_zero, valA_eq, Nat.zero_mul, Nat.zero_add] at this
  unfold bitsS at this
  rw [List.reverse_reverse] at this
  exact this
theorem per_inner {T : List Int} {s : ByteArray} (h : ScrOk T s) (x : List Int) (hx : BitL x) (hxl : x.length = s.size) (first q : Int) (r : Int × Bool) (hj : Ev (fun k => impl_KeyPeriod.l1 k (s.size : Int) first (valN x : Nat) q (sumM T x) T T.length T.length T s) r) (d : Nat) : ∀ (v : Int) (i : Nat), i + d = T.length → (v = 0 ∨ v = 1) → (v + sumT (T.drop i) x) % 2 = sumM T x →
    Ev (fun k => impl_KeyPeriod.l1 k (s.size : Int) first (valN x : Nat) q v T T.length i T s) r := by
  have h16 := h.small
  have hlt := valN_lt x hx
  have hp := pow16 (show x.length ≤ 16 by omega)
  induction d with
  | zero =>
    intro v i hd hv he
    rw [List.drop_of_length_le (by omega), sumT] at he
    obtain rfl : i = T.length := by omega
    rw [show v = sumM T x by omega]
    exact hj
  | succ d ih =>
    intro v i hd hv he
    have hl : (i : Int) < (T.length : Int) := by omega
    have h0 : (0 : Int) ≤ i := by omega
    have ht := tap_le h i h0 hl
    have h17 := h.1.2.1
    obtain ⟨j, hj2⟩ : ∃ j : Nat, (s.size : Int) - rd T i = j := ⟨((s.size : Int) - rd T i).toNat, by omega⟩
    have hbit := valN_bit x j hx (by omega)
    have hb := rd_bit hx j (by omega) (by omega)
    have b1 : -9223372036854775808 ≤ (j : Int) ∧ (j : Int) ≤ 9223372036854775807 := by omega
    have b2 : -9223372036854775808 ≤ ((i + 1 : Nat) : Int) ∧ ((i + 1 : Nat) : Int) ≤ 9223372036854775807 := by omega
    have b3 : (i : Int) + 1 = ((i + 1 : Nat) : Int) := by omega
    have b4 : (0 : Int) ≤ (j : Int) := by omega
    have hd2 : valN x / 2 ^ j ≤ valN x := Nat.div_le_self _ _
    have hnew : (v + rd x j) % 2 = 0 ∨ (v + rd x j) % 2 = 1 := by omega
    have hE := ih ((v + rd x j) % 2) (i + 1) (by omega) hnew (by
      rw [drop_rd T i (by omega), sumT, hxl, hj2] at he
      rw [← he]; omega)
    refine Ev_succ ?_
    simp only [impl_KeyPeriod.l1, if_pos hl, if_pos h0, hj2, w64 b1.1 b1.2, if_pos b4, shr_i64 (valN x) j (by omega), and_i64 (valN x / 2 ^ j) (by omega), hbit, xor_i64 hv hb, b3, w64 b2.1 b2.2]
    exact hE
theorem per_step {T : List Int} {s : ByteArray} (h : ScrOk T s) (x : List Int) (hx : BitL x) (hxl : x.length = s.size) (y : List Int) (hy : BitL y) (hyl : y.length = s.size) (q : Int) (hq : 0 ≤ q ∧ q ≤ 100000) (r : Int × Bool)
    (hj : Ev (fun k => if stepK T x = y then some (q, true) else impl_KeyPeriod.l0 k (s.size : Int) (valN y : Nat) (valN (stepK T x) : Nat) (q + 1) T s) r) :
    Ev (fun k => impl_KeyPeriod.l0 k (s.size : Int) (valN y : Nat) (valN x : Nat) q T s) r := by
  have h16 := h.small
  have hs := stepK_ok T x hx (by omega)
  have hlt := valN_lt x hx
  have hp := pow16 (show x.length ≤ 16 by omega)
  refine Ev_succ ?_
  simp only [impl_KeyPeriod.l0]
  refine per_inner h x hx hxl _ q r (Ev_succ ?_) T.length 0 0 (by omega) (.inl rfl) (by rw [List.drop_zero, Int.zero_add]; rfl)
  obtain ⟨m, hm⟩ : ∃ m : Nat, s.size = m + 1 := ⟨s.size - 1, by omega⟩
  have b1 : (s.size : Int) - 1 = (m : Int) := by omega
  have b2 : -9223372036854775808 ≤ (m : Int) ∧ (m : Int) ≤ 9223372036854775807 := by omega
  have b3 : (0 : Int) ≤ (m : Int) := by omega
  have b4 : ¬ (T.length : Int) < (T.length : Int) := by omega
  have b5 : -9223372036854775808 ≤ q + 1 ∧ q + 1 ≤ 9223372036854775807 := by omega
  have hsb := sumM_bit T x
  obtain ⟨c, hc⟩ : ∃ c : Nat, sumM T x = c := ⟨(sumM T x).toNat, by omega⟩
  have hc1 : c ≤ 1 := by omega
  have hpm := pow16 (show m ≤ 16 by omega)
  have hcm : c * 2 ^ m ≤ 1 * 2 ^ m := Nat.mul_le_mul_right _ hc1
  have hhalf : valN x / 2 < 2 ^ m := by rw [hxl, hm, Nat.pow_succ] at hlt; omega
  have hdiv : ((valN x : Nat) : Int) / 2 = ((valN x / 2 : Nat) : Int) := by omega
  have hval : c * 2 ^ m + valN x / 2 = valN (stepK T x) := by
    unfold stepK
    rw [valN_snoc, List.length_drop, hxl, hm, Nat.add_sub_cancel, hc, Int.toNat_natCast]
    match x, hx, hxl with
    | [], _, hxl => simp at hxl; omega
    | b :: r, hx, hxl => rw [valN_half b r (BitL_tail hx).1, List.drop_succ_cons, List.drop_zero]; omega
  have hor := or_i64 c m (valN x / 2) (by omega) hhalf
  rw [hval] at hor
  have hsh := shl_i64 c m (by omega) (by omega)
  simp only [impl_KeyPeriod.l1, if_neg b4, b1, w64 b2.1 b2.2, if_pos b3, hc, hsh, hdiv, hor]
  by_cases e : stepK T x = y
  · have hv2 : ((valN (stepK T x) : Nat) : Int) = ((valN y : Nat) : Int) := by rw [e]
    simp only [if_pos e] at hj
    simp only [if_pos hv2]
    exact hj
  · have hv2 : ¬ ((valN (stepK T x) : Nat) : Int) = ((valN y : Nat) : Int) := fun g => e (valN_inj _ _ hs.1 hy (by rw [hs.2, hxl, hyl]) (Int.ofNat.inj g))
    simp only [if_neg e] at hj
    simp only [if_neg hv2, w64 b5.1 b5.2]
    exact hj
theorem per_impl {T : List Int} {s : ByteArray} (h : ScrOk T s) (y : List Int) (hy : BitL y) (hyl : y.length = s.size) (p : Nat) (hp : 1 ≤ p) (hp6 : p ≤ 65536) (hpe : iterK T y p = y) (hne : ∀ q, 1 ≤ q → q < p → iterK T y q ≠ y) (d : Nat) : ∀ i : Nat, i + d + 1 = p →
    Ev (fun k => impl_KeyPeriod.l0 k (s.size : Int) (valN y : Nat) (valN (iterK T y i) : Nat) ((i : Int) + 1) T s) ((p : Int), true) := by
  have h16 := h.small
  induction d with
  | zero =>
    intro i hd
    have hi := iterK_ok T y hy (by omega) i
    have e : stepK T (iterK T y i) = y := by rw [show stepK T (iterK T y i) = iterK T y (i + 1) from rfl, show i + 1 = p by omega, hpe]
    refine per_step h _ hi.1 (by omega) y hy hyl _ (by omega) _ ?_
    simp only [if_pos e]
    rw [show (i : Int) + 1 = p by omega]; exact Ev.now _
  | succ d ih =>
    intro i hd
    have hi := iterK_ok T y hy (by omega) i
    have e : ¬ stepK T (iterK T y i) = y := hne (i + 1) (by omega) (by omega)
    refine per_step h _ hi.1 (by omega) y hy hyl _ (by omega) _ ?_
    simp only [if_neg e]
    have := ih (i + 1) (by omega)
    rw [show ((i + 1 : Nat) : Int) + 1 = (i : Int) + 1 + 1 by omega] at this
    exact this
theorem per_spec {T : List Int} {s : ByteArray} (h : ScrOk T s) (y : List Int) (hy : BitL y) (hyl : y.length = s.size) (p : Nat) (hp : 1 ≤ p) (hp6 : p ≤ 65536) (hpe : iterK T y p = y) (hne : ∀ q, 1 ≤ q → q < p → iterK T y q ≠ y) (d : Nat) : ∀ i : Nat, i + d = p →
    Ev (fun k => spec_KeyPeriod.l0 k (iterK T y i) ((valA 0 y : Nat) : Int) (i : Int) T s) ((p : Int), true) := by
  have h16 := h.small
  have next : ∀ i : Nat, i < p → Ev (fun k => spec_KeyPeriod.l0 k (iterK T y (i + 1)) ((valA 0 y : Nat) : Int) ((i + 1 : Nat) : Int) T s) ((p : Int), true) → Ev (fun k => spec_KeyPeriod.l0 k (iterK T y i) ((valA 0 y : Nat) : Int) (i : Int) T s) ((p : Int), true) := by
    intro i hi hE
    have hk := iterK_ok T y hy (by omega) i
    have hs := sum_specE h (iterK T y i) hk.1 (by omega) (by omega)
    have hn := num_specE (iterK T y i) hk.1 (by omega)
    have b1 : (1 : Int) ≤ ((iterK T y i).length : Int) := by omega
    have b2 : ([] : List Int).length + ((iterK T y i).drop 1).length < 140737488355328 := by rw [List.length_drop]; show 0 + _ < _; omega
    have b3 : ([] ++ (iterK T y i).drop 1).length < 140737488355328 := by rw [List.nil_append, List.length_drop]; omega
    have b4 : -9223372036854775808 ≤ ((i + 1 : Nat) : Int) ∧ ((i + 1 : Nat) : Int) ≤ 9223372036854775807 := by omega
    have b5 : (i : Int) + 1 = ((i + 1 : Nat) : Int) := by omega
    have e : [] ++ (iterK T y i).drop 1 ++ [sumM T (iterK T y i)] = iterK T y (i + 1) := by rw [List.nil_append]; rfl
    rw [← e] at hE
    refine Ev_succ ?_
    by_cases z : (i : Int) = 0
    · simp only [spec_KeyPeriod.l0, if_pos z, Option.bind_some, if_pos b1, if_pos b2]
      refine Ev.bind hs ?_
      simp only [if_pos b3, b5, w64 b4.1 b4.2]
      exact hE
    · have hz : ¬ ((valA 0 (iterK T y i) : Nat) : Int) = ((valA 0 y : Nat) : Int) := fun g => hne i (by omega) hi (valA_inj _ _ hk.1 hy (by omega) (by omega))
      simp only [spec_KeyPeriod.l0, if_neg z]
      refine Ev.bind hn ?_
      simp only [if_neg hz, Option.bind_some, if_pos b1, if_pos b2]
      refine Ev.bind hs ?_
      simp only [if_pos b3, b5, w64 b4.1 b4.2]
      exact hE
  induction d with
  | zero =>
    intro i hd
    obtain rfl : i = p := by omega
    have hk := iterK_ok T y hy (by omega) i
    have hn := num_specE (iterK T y i) hk.1 (by omega)
    have z : ¬ (i : Int) = 0 := by omega
    refine Ev_succ ?_
    simp only [spec_KeyPeriod.l0, if_neg z]
    refine Ev.bind hn ?_
    rw [hpe]
    simp only [if_true]; exact Ev.now _
  | succ d ih =>
    intro i hd
    exact next i (by omega) (ih (i + 1) (by omega))
theorem FnExactKeyPeriod : FnExactKeyPeriod_Pure := by
  intro l s h1 h2 h3 h4
  apply Ev.rounds
  obtain ⟨v, hv, hz⟩ := szScr l s 1048576 (by omega) h2 h4
  simp only [laws_FnExactKeyPeriod.f, hv, Option.bind_some]
  by_cases hn : v < 0
  · simp only [if_pos hn]; exact Ev.now _
  have hb := hz hn
  simp only [if_neg hn]
  obtain ⟨b, hs, hi, hok⟩ := scr_both l s (by omega) h4
  have ht := toScr_ev l s (by omega)
  have E : ∃ r, Ev (fun k => spec_KeyPeriod.f k l s) r ∧ Ev (fun k => impl_KeyPeriod.f k l s) r := by
    cases b with
    | true =>
      have h := hok.1 rfl
      have h16 := h.small
      have hh := hist_ok h
      obtain ⟨p, p1, p2, -, p3, p4⟩ := period_least h (hist s) hh.1 hh.2
      refine ⟨((p : Int), true), ?_, ?_⟩
      · simp only [spec_KeyPeriod.f]
        refine Ev.bind hs ?_
        simp only [if_true]
        refine Ev.bind (before_ev s h.2.1 (by omega)) (Ev.bind (num_specE _ hh.1 (show (revB s s.size).length ≤ 16 by rw [revB_length]; omega)) ?_)
        exact per_spec h (hist s) hh.1 hh.2 p p1 p2 p3 p4 p 0 (by omega)
      · simp only [impl_KeyPeriod.f]
        refine Ev.bind hi ?_
        simp only [if_true]
        refine Ev.bind (num_implE s h.2.1 (by omega)) ?_
        exact per_impl h (hist s) hh.1 hh.2 p p1 p2 p3 p4 (p - 1) 0 (by omega)
    | false => exact ⟨_, by simp only [spec_KeyPeriod.f]; exact Ev.bind hs (Ev.now _), by simp only [impl_KeyPeriod.f]; exact Ev.bind hi (Ev.now _)⟩
  obtain ⟨r, hA, hB⟩ := E
  refine Ev.bind ht (Ev.bind hA (Ev.bind ht (Ev.bind hB ?_)))
  simp only [if_true, bne_self_eq_false]
  refine Ev_succ ?_
  simp only [laws_FnExactKeyPeriod.j0, Bool.false_eq_true, if_false]
  refine Ev.bind ht (Ev.bind (eqScr_ev l s (by omega)) ?_)
  simp only [if_true]
  exact Ev.now _

end Go.Proofs.YtondkjcmibnbpaaDoor.Pure
