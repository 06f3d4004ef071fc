/- The law FnExactAddScramble of the given program holds: for every input that the row lets in the call returns true and leaves its arguments as they were. No condition ahead of it. -/
import Derived.Test.YtkhgmfnmgefpbaaDoorPFnExactAddScramblex6
import Derived.Test.YtkhgmfnmgefpbaaDoorMine
namespace Go.Proofs.YtkhgmfnmgefpbaaDoor.Pure
open Go.RowKit Go.Proofs.YtkhgmfnmgefpbaaDoor.PFnExactAddScramble Go.Proofs.YtkhgmfnmgefpbaaDoorW.PrintWords Go.Proofs.YtkhgmfnmgefpbaaDoorW.PrintLast Go.Proofs.YtkhgmfnmgefpbaaDoorW.PrintMore Go.Proofs.YtkhgmfnmgefpbaaDoor.Mine
set_option linter.unusedVariables false
set_option linter.unusedSimpArgs false
theorem rd_set (l : List Int) (i j v : Int) (hi : 0 ≤ i) (hil : i < l.length) (hj : 0 ≤ j) : rd (l.set i.toNat v) j = if j = i then v else rd l j := by
  unfold rd
  by_cases e : j = i
  · subst e; rw [if_pos rfl, List.getD_eq_getElem?_getD, List.getElem?_set_self (by omega)]; rfl
  · rw [if_neg e, List.getD_eq_getElem?_getD, List.getElem?_set_ne (by omega), List.getD_eq_getElem?_getD]

theorem eqInt64S_loop (l : List Int) (hl : (l.length : Int) ≤ 4611686018427387904) (d : Nat) : ∀ i : Int, 0 ≤ i → i ≤ l.length → (l.length : Int) - i = d → Ev (fun k => laws_eqInt64S.l0 k l l i) true := by
  induction d with
  | zero =>
    intro i h0 h1 hd
    refine Ev_succ ?_
    simp only [laws_eqInt64S.l0, if_neg (show ¬ i < (l.length : Int) by omega)]
    exact Ev.now _
  | succ d ih =>
    intro i h0 h1 hd
    refine Ev_succ ?_
    simp (disch := omega) only [laws_eqInt64S.l0, w64]
    simp only [if_pos (show i < (l.length : Int) by omega), if_pos h0, if_true]
    exact ih (i + 1) (by omega) (by omega) (by omega)
theorem eqInt64S_self (l : List Int) (hl : (l.length : Int) ≤ 4611686018427387904) : Ev (fun k => laws_eqInt64S.f k l l) true := by
  simp only [laws_eqInt64S.f, if_true]
  exact eqInt64S_loop l hl l.length 0 (by omega) (by omega) (by omega)

theorem ext_rd (a b : List Int) (h : a.length = b.length) (hp : ∀ j : Int, 0 ≤ j → j < a.length → rd a j = rd b j) : a = b := by
  apply List.ext_getElem h
  intro n h1 h2
  have := hp n (by omega) (by omega)
  unfold rd at this
  rw [List.getD_eq_getElem?_getD, List.getD_eq_getElem?_getD, Int.toNat_natCast, List.getElem?_eq_getElem h1, List.getElem?_eq_getElem h2] at this
  simpa using this
theorem toInt64S_loop (l : List Int) (hl : (l.length : Int) ≤ 4611686018427387904) (d : Nat) : ∀ (m : List Int) (i : Int), m.length = l.length → 0 ≤ i → i ≤ l.length → (l.length : Int) - i = d → (∀ j, 0 ≤ j → j < i → rd m j = rd l j) →
    Ev (fun k => laws_toInt64S.l0 k l m i) l := by
  induction d with
  | zero =>
    intro m i hm h0 h1 hd hp
    refine Ev_succ ?_
    simp only [laws_toInt64S.l0, if_neg (show ¬ i < (l.length : Int) by omega)]
    rw [ext_rd m l hm (fun j j0 j1 => hp j j0 (by omega))]
    exact Ev.now _
  | succ d ih =>
    intro m i hm h0 h1 hd hp
    refine Ev_succ ?_
    simp (disch := omega) only [laws_toInt64S.l0, w64]
    simp only [if_pos (show i < (l.length : Int) by omega), if_pos h0, if_pos (show i < (m.length : Int) by omega)]
    refine ih (m.set i.toNat (rd l i)) (i + 1) (by rw [List.length_set]; exact hm) (by omega) (by omega) (by omega) (fun j j0 j1 => ?_)
    rw [rd_set m i j _ h0 (by omega) j0]
    by_cases e : j = i
    · rw [if_pos e, e]
    · rw [if_neg e]; exact hp j j0 (by omega)
theorem toInt64S_ev (l : List Int) (hl : (l.length : Int) ≤ 1048576) : Ev (fun k => laws_toInt64S.f k l) l := by
  simp only [laws_toInt64S.f, if_pos (show 0 ≤ (l.length : Int) by omega), if_pos (show ((l.length : Int)).toNat ≤ 35184372088832 by omega)]
  exact toInt64S_loop l (by omega) l.length _ 0 (by simp) (by omega) (by omega) (by omega) (fun j _ _ => by omega)
theorem toScr_ev (l : List Int) (s : ByteArray) (hl : (l.length : Int) ≤ 1048576) : Ev (fun k => laws_toScrambler.f k l s) (l, s) := by
  simp only [laws_toScrambler.f]
  exact Ev.bind (toInt64S_ev l hl) (Ev.now _)
theorem eqScr_ev (l : List Int) (s : ByteArray) (hl : (l.length : Int) ≤ 1048576) : Ev (fun k => laws_eqScrambler.f k l s l s) true := by
  simp only [laws_eqScrambler.f]
  refine Ev.bind (eqInt64S_self l (by omega)) ?_
  simp only [if_true]
  exact Ev.now _
theorem szScr (l : List Int) (s : ByteArray) (n : Int) (hn : 0 ≤ n ∧ n ≤ 1048576) (hl : l.length * 8 ≤ 140737488351232) (hs : s.size ≤ 140737488351232) :
    ∃ v, laws_szScrambler.f l s n = some v ∧ (¬ v < 0 → (l.length : Int) + s.size + v ≤ n ∧ v ≤ n) := by
  simp (disch := omega) only [laws_szScrambler.f, laws_szInt64S.f, w64]
  by_cases h : n - (l.length : Int) < 0
  · refine ⟨-1, by simp only [if_pos h, Option.bind_some, if_pos (show (-1 : Int) < 0 by omega)], fun g => absurd (by omega) g⟩
  · simp only [if_neg h, Option.bind_some]
    simp (disch := omega) only [w64]
    by_cases g : n - (l.length : Int) - (s.size : Int) < 0
    · exact ⟨-1, by rw [if_pos g], fun g => absurd (by omega) g⟩
    · exact ⟨n - l.length - s.size, by rw [if_neg g], fun _ => by omega⟩

def AllBit (s : ByteArray) : Prop := ∀ i : Int, 0 ≤ i → i < s.size → bt s i = 48 ∨ bt s i = 49
def IsBitS (s : ByteArray) : Prop := AllBit s ∧ (s.size : Int) ≤ 400
theorem bt_list (s : ByteArray) (i : Nat) (h : i < s.size) : bt s i = ((s.data.toList[i]'(by simpa using h)).toNat : Int) := by
  unfold bt
  simp only [Int.toNat_natCast, h, dif_pos]
  rfl
theorem dropWhile_nil (p : UInt8 → Bool) : ∀ l : List UInt8, l.dropWhile p = [] ↔ ∀ b ∈ l, p b = true
  | [] => by simp
  | x :: l => by
    rw [List.dropWhile_cons]
    cases h : p x with
    | true => simp [h, dropWhile_nil p l]
    | false => simp [h]
theorem trim_empty (l : List UInt8) : (Lib.trimS l [48, 49]).isEmpty = true ↔ ∀ b ∈ l, b = 48 ∨ b = 49 := by
  have key : ∀ p : UInt8 → Bool, List.dropWhile p (List.dropWhile p l.reverse).reverse = [] ↔ ∀ b ∈ l, p b = true := by
    intro p
    rw [dropWhile_nil]
    constructor
    · intro h
      by_cases e : List.dropWhile p l.reverse = []
      · have := (dropWhile_nil p _).1 e
        exact fun b hb => this b (by simpa using hb)
      · have hh := List.head_dropWhile_not p e
        have h3 := h ((List.dropWhile p l.reverse).head e) (by simp)
        rw [hh] at h3
        cases h3
    · intro h b hb
      have : List.dropWhile p l.reverse = [] := (dropWhile_nil p _).2 (fun b hb => h b (by simpa using hb))
      rw [this] at hb
      simp at hb
  unfold Lib.trimS Lib.trimRightS Lib.trimLeftS
  rw [List.isEmpty_iff, key]
  simp
theorem areBits_ev (s : ByteArray) (hs : s.size ≤ 140737488351232) : ∃ b, impl_areBits.f s = some b ∧ (b = true ↔ AllBit s) := by
  refine ⟨(Lib.trimS s.data.toList [48, 49]).isEmpty, by unfold impl_areBits.f; rw [if_pos (by omega)], ?_⟩
  rw [trim_empty]
  constructor
  · intro h i h0 h1
    obtain ⟨n, rfl⟩ : ∃ n : Nat, i = n := ⟨i.toNat, by omega⟩
    rw [bt_list s n (by omega)]
    rcases h _ (List.getElem_mem (l := s.data.toList) (n := n) (by simp; omega)) with e | e <;> rw [e]
    · exact Or.inl rfl
    · exact Or.inr rfl
  · intro h b hb
    obtain ⟨n, hn, rfl⟩ := List.getElem_of_mem hb
    have hn' : n < s.size := by simpa using hn
    have := h n (by omega) (by omega)
    rw [bt_list s n hn'] at this
    rcases this with e | e
    · left; apply UInt8.toNat_inj.1; show s.data.toList[n].toNat = 48; omega
    · right; apply UInt8.toNat_inj.1; show s.data.toList[n].toNat = 49; omega
theorem isBits_ev (s : ByteArray) (hs : s.size ≤ 140737488351232) : ∃ b, impl_IsBits.f s = some b ∧ (b = true ↔ IsBitS s) := by
  obtain ⟨b, hb, hi⟩ := areBits_ev s hs
  simp only [impl_IsBits.f, hb, Option.bind_some, IsBitS]
  by_cases h : (s.size : Int) ≤ 400
  · exact ⟨b, by rw [if_pos h], by rw [hi]; exact ⟨fun g => ⟨g, h⟩, fun g => g.1⟩⟩
  · exact ⟨false, by rw [if_neg h], by simp only [Bool.false_eq_true, false_iff]; exact fun g => h g.2⟩
theorem l01Bits_loop (s : ByteArray) (hs : s.size ≤ 140737488351232) (d : Nat) : ∀ i : Int, 0 ≤ i → i ≤ s.size → (s.size : Int) - i = d → (∀ j, 0 ≤ j → j < i → bt s j = 48 ∨ bt s j = 49) →
    ∃ b, Ev (fun k => spec_l01Bits.l0 k s i) b ∧ (b = true ↔ IsBitS s) := by
  induction d with
  | zero =>
    intro i h0 h1 hd hp
    refine ⟨decide ((s.size : Int) ≤ 400), Ev_succ ?_, ?_⟩
    · simp only [spec_l01Bits.l0, if_neg (show ¬ i < (s.size : Int) by omega)]
      exact Ev.now _
    · rw [decide_eq_true_eq]
      exact ⟨fun h => ⟨fun j j0 j1 => hp j j0 (by omega), h⟩, fun h => h.2⟩
  | succ d ih =>
    intro i h0 h1 hd hp
    have hlt : i < (s.size : Int) := by omega
    by_cases e : bt s i = 48 ∨ bt s i = 49
    · obtain ⟨b, hb, hi⟩ := ih (i + 1) (by omega) (by omega) (by omega) (fun j j0 j1 => by
        by_cases z : j = i
        · rw [z]; exact e
        · exact hp j j0 (by omega))
      refine ⟨b, Ev_succ ?_, hi⟩
      simp (disch := omega) only [spec_l01Bits.l0, w64]
      rcases e with e | e
      · simp only [if_pos hlt, if_pos h0, if_pos e]; exact hb
      · simp only [if_pos hlt, if_pos h0, e, if_neg (show ¬ (49 : Int) = 48 by omega), if_true]; exact hb
    · refine ⟨false, Ev_succ ?_, ?_⟩
      · simp only [spec_l01Bits.l0, if_pos hlt, if_pos h0, if_neg (fun g => e (Or.inl g)), if_neg (fun g => e (Or.inr g))]
        exact Ev.now _
      · simp only [Bool.false_eq_true, false_iff]
        exact fun g => e (g.1 i h0 hlt)
theorem l01Bits_ev (s : ByteArray) (hs : s.size ≤ 140737488351232) : ∃ b, Ev (fun k => spec_l01Bits.f k s) b ∧ (b = true ↔ IsBitS s) :=
  l01Bits_loop s hs s.size 0 (by omega) (by omega) (by omega) (fun j _ _ => by omega)
theorem bits_same (s : ByteArray) (hs : s.size ≤ 140737488351232) : ∃ b, Ev (fun k => spec_l01Bits.f k s) b ∧ impl_IsBits.f s = some b ∧ (b = true ↔ IsBitS s) := by
  obtain ⟨b, hb, hi⟩ := l01Bits_ev s hs
  obtain ⟨c, hc, hj⟩ := isBits_ev s hs
  have e : c = b := by cases b <;> cases c <;> simp_all
  subst e
  exact ⟨c, hb, hc, hi⟩

theorem ba_ext {a b : ByteArray} (h : a.data.toList = b.data.toList) : a = b := by apply ByteArray.ext; exact Array.toList_inj.1 h
theorem sn_append (a b : List Int) : strOfNums (a ++ b) = strOfNums a ++ strOfNums b := by apply ba_ext; simp [strOfNums]
theorem sn_size (a : List Int) : (strOfNums a).size = a.length := by simp [strOfNums, ByteArray.size]
theorem sn_nil : strOfNums [] = (⟨#[]⟩ : ByteArray) := rfl
theorem bt_range (s : ByteArray) (i : Int) (h0 : 0 ≤ i) (h1 : i < s.size) : 0 ≤ bt s i ∧ bt s i < 256 := by
  obtain ⟨n, rfl⟩ : ∃ n : Nat, i = n := ⟨i.toNat, by omega⟩
  rw [bt_list s n (by omega)]
  have := (s.data.toList[n]'(by simp; omega)).toNat_lt
  omega
theorem extract_one (s : ByteArray) (n : Nat) (h : n < s.size) : (s.extract n (n + 1)).data.toList = [s.data.toList[n]'(by simpa using h)] := by
  have h' : n < s.data.size := h
  simp only [ByteArray.data_extract, Array.toList_extract, List.extract_eq_take_drop]
  rw [show n + 1 - n = 1 by omega, List.drop_eq_getElem_cons (show n < s.data.toList.length by simpa using h')]
  simp
theorem sn_one (s : ByteArray) (i : Int) (h0 : 0 ≤ i) (h1 : i < s.size) : strOfNums [bt s i] = s.extract i.toNat (i + 1).toNat := by
  obtain ⟨n, rfl⟩ : ∃ n : Nat, i = n := ⟨i.toNat, by omega⟩
  apply ba_ext
  rw [show ((n : Int) + 1).toNat = n + 1 by omega, Int.toNat_natCast, extract_one s n (by omega), bt_list s n (by omega)]
  simp [strOfNums]
theorem sn_rep (x : Int) : ∀ n, strOfNums (List.replicate n x) = ⟨(Lib.repeatL (strOfNums [x]).data.toList n).toArray⟩
  | 0 => by apply ba_ext; simp [strOfNums, Lib.repeatL]
  | n + 1 => by
    rw [List.replicate_succ, show x :: List.replicate n x = [x] ++ List.replicate n x from rfl, sn_append, sn_rep x n]
    apply ba_ext
    simp [Lib.repeatL]

theorem ex_size (s : ByteArray) (a b : Nat) (hb : b ≤ s.size) : (s.extract a b).size = b - a := by
  simp only [ByteArray.size_extract]; omega
theorem ex_list (s : ByteArray) (a b : Nat) : (s.extract a b).data.toList = (s.data.toList.drop a).take (b - a) := by
  simp only [ByteArray.data_extract, Array.toList_extract, List.extract_eq_take_drop]
theorem ex_ex (s : ByteArray) (a b c d : Nat) (h : a + d ≤ b) : (s.extract a b).extract c d = s.extract (a + c) (a + d) := by
  apply ba_ext
  rw [ex_list, ex_list, ex_list, List.drop_take, List.drop_drop, List.take_take]
  congr 1
  omega
theorem dl_size (s : ByteArray) : s.data.toList.length = s.size := Array.length_toList
theorem ex_whole (s : ByteArray) : s.extract 0 s.size = s := by
  apply ba_ext; rw [ex_list, List.drop_zero]; exact List.take_of_length_le (by rw [dl_size]; omega)
theorem bt_extract (s : ByteArray) (a b : Nat) (hb : b ≤ s.size) (j : Int) (h0 : 0 ≤ j) (h1 : j < (b : Int) - a) : bt (s.extract a b) j = bt s (a + j) := by
  obtain ⟨n, rfl⟩ : ∃ n : Nat, j = n := ⟨j.toNat, by omega⟩
  have hz := ex_size s a b hb
  rw [bt_list _ n (by omega), show (a : Int) + n = ((a + n : Nat) : Int) by omega, bt_list _ _ (by omega)]
  congr 2
  simp only [ex_list]
  rw [List.getElem_take, List.getElem_drop]
theorem AllBit_extract (s : ByteArray) (h : AllBit s) (a b : Nat) (hb : b ≤ s.size) : AllBit (s.extract a b) := by
  intro j h0 h1
  have hz := ex_size s a b hb
  rw [bt_extract s a b hb j h0 (by omega)]
  exact h _ (by omega) (by omega)
theorem nil_size (s : ByteArray) : s.toList = ([] : List UInt8) ↔ s.size = 0 := by
  rw [Lib.toList_data]
  show _ ↔ s.data.size = 0
  rw [← Array.length_toList]
  exact List.length_eq_zero_iff.symm

theorem l00In_eq (a b c : Int) : spec_l00In.f a b c = some (decide (b ≤ a ∧ a ≤ c)) := by
  unfold spec_l00In.f; by_cases h : a ≥ b
  · rw [if_pos h]; simp; intro _; exact h
  · rw [if_neg h]; simp; intro h'; omega
theorem within_eq (a b c : Int) : impl_within.f a b c = some (decide (b ≤ a ∧ a ≤ c)) := by
  unfold impl_within.f; by_cases h : a ≥ b
  · rw [if_pos h]; simp; intro _; exact h
  · rw [if_neg h]; simp; intro h'; omega

def RisesIn (l : List Int) (lo hi : Int) : Prop := ∀ i : Int, 0 ≤ i → i < l.length → (lo ≤ rd l i ∧ rd l i ≤ hi) ∧ (0 < i → rd l (i - 1) < rd l i)
theorem l00Rises_loop (l : List Int) (lo hi : Int) (hl : (l.length : Int) ≤ 4611686018427387904) (d : Nat) : ∀ i : Int, 0 ≤ i → i ≤ l.length → (l.length : Int) - i = d →
    (∀ j, 0 ≤ j → j < i → (lo ≤ rd l j ∧ rd l j ≤ hi) ∧ (0 < j → rd l (j - 1) < rd l j)) → ∃ b, Ev (fun k => spec_l00Rises.l0 k l lo hi i) b ∧ (b = true ↔ RisesIn l lo hi) := by
  induction d with
  | zero =>
    intro i h0 h1 hd hp
    refine ⟨true, Ev_succ ?_, ?_⟩
    · simp only [spec_l00Rises.l0, if_neg (show ¬ i < (l.length : Int) by omega)]; exact Ev.now _
    · simp only [true_iff]; exact fun j j0 j1 => hp j j0 (by omega)
  | succ d ih =>
    intro i h0 h1 hd hp
    have hlt : i < (l.length : Int) := by omega
    by_cases hb : lo ≤ rd l i ∧ rd l i ≤ hi
    · by_cases hi0 : i > 0
      · by_cases hr : rd l (i - 1) ≥ rd l i
        · refine ⟨false, Ev_succ ?_, ?_⟩
          · simp (disch := omega) only [spec_l00Rises.l0, w64, l00In_eq, Option.bind_some]
            simp only [if_pos hlt, if_pos h0, hb, and_self, decide_true, if_true, if_pos hi0, if_pos (show 0 ≤ i - 1 by omega), if_pos (show i - 1 < (l.length : Int) by omega), if_pos hr]
            exact Ev.now _
          · simp only [Bool.false_eq_true, false_iff]; exact fun g => by have := (g i h0 hlt).2 hi0; omega
        · obtain ⟨b, h, hbi⟩ := ih (i + 1) (by omega) (by omega) (by omega) (fun j j0 j1 => by
            by_cases e : j = i
            · rw [e]; exact ⟨hb, fun _ => by omega⟩
            · exact hp j j0 (by omega))
          refine ⟨b, Ev_succ ?_, hbi⟩
          simp (disch := omega) only [spec_l00Rises.l0, w64, l00In_eq, Option.bind_some]
          simp only [if_pos hlt, if_pos h0, hb, and_self, decide_true, if_true, if_pos hi0, if_pos (show 0 ≤ i - 1 by omega), if_pos (show i - 1 < (l.length : Int) by omega), if_neg hr]
          exact h
      · obtain ⟨b, h, hbi⟩ := ih (i + 1) (by omega) (by omega) (by omega) (fun j j0 j1 => by
          by_cases e : j = i
          · rw [e]; exact ⟨hb, fun _ => by omega⟩
          · exact hp j j0 (by omega))
        refine ⟨b, Ev_succ ?_, hbi⟩
        simp (disch := omega) only [spec_l00Rises.l0, w64, l00In_eq, Option.bind_some]
        simp only [if_pos hlt, if_pos h0, hb, and_self, decide_true, if_true, if_neg hi0]
        exact h
    · refine ⟨false, Ev_succ ?_, ?_⟩
      · simp (disch := omega) only [spec_l00Rises.l0, w64, l00In_eq, Option.bind_some]
        simp only [if_pos hlt, if_pos h0, hb, decide_false, Bool.false_eq_true, if_false]
        exact Ev.now _
      · simp only [Bool.false_eq_true, false_iff]; exact fun g => hb (g i h0 hlt).1
theorem areIn_loop (l : List Int) (lo hi : Int) (hl : (l.length : Int) ≤ 4611686018427387904) (d : Nat) : ∀ i : Int, 0 ≤ i → i ≤ l.length → (l.length : Int) - i = d →
    (∀ j, 0 ≤ j → j < i → lo ≤ rd l j ∧ rd l j ≤ hi) → ∃ b, Ev (fun k => impl_areIn.l0 k lo hi l l.length i) b ∧ (b = true ↔ ∀ j, 0 ≤ j → j < (l.length : Int) → lo ≤ rd l j ∧ rd l j ≤ hi) := by
  induction d with
  | zero =>
    intro i h0 h1 hd hp
    refine ⟨true, Ev_succ ?_, ?_⟩
    · simp only [impl_areIn.l0, if_neg (show ¬ i < (l.length : Int) by omega)]; exact Ev.now _
    · simp only [true_iff]; exact fun j j0 j1 => hp j j0 (by omega)
  | succ d ih =>
    intro i h0 h1 hd hp
    have hlt : i < (l.length : Int) := by omega
    by_cases hb : lo ≤ rd l i ∧ rd l i ≤ hi
    · obtain ⟨b, h, hbi⟩ := ih (i + 1) (by omega) (by omega) (by omega) (fun j j0 j1 => by
        by_cases e : j = i
        · rw [e]; exact hb
        · exact hp j j0 (by omega))
      refine ⟨b, Ev_succ ?_, hbi⟩
      simp (disch := omega) only [impl_areIn.l0, w64, within_eq, Option.bind_some]
      simp only [if_pos hlt, if_pos h0, hb, and_self, decide_true, if_true]
      exact h
    · refine ⟨false, Ev_succ ?_, ?_⟩
      · simp (disch := omega) only [impl_areIn.l0, w64, within_eq, Option.bind_some]
        simp only [if_pos hlt, if_pos h0, hb, decide_false, Bool.false_eq_true, if_false]
        exact Ev.now _
      · simp only [Bool.false_eq_true, false_iff]; exact fun g => hb (g i h0 hlt)
theorem areIn_ev (l : List Int) (lo hi : Int) (hl : (l.length : Int) ≤ 4611686018427387904) : ∃ b, Ev (fun k => impl_areIn.f k l lo hi) b ∧ (b = true ↔ ∀ j, 0 ≤ j → j < (l.length : Int) → lo ≤ rd l j ∧ rd l j ≤ hi) :=
  areIn_loop l lo hi hl l.length 0 (by omega) (by omega) (by omega) (fun j _ _ => by omega)
theorem isInc_loop (l : List Int) (hl : (l.length : Int) ≤ 4611686018427387904) (d : Nat) : ∀ i : Int, 0 ≤ i → i ≤ l.length → (l.length : Int) - i = d →
    (∀ j, 0 < j → j < i → rd l (j - 1) < rd l j) → ∃ b, Ev (fun k => impl_isIncreasing.l0 k l l.length i) b ∧ (b = true ↔ ∀ j, 0 < j → j < (l.length : Int) → rd l (j - 1) < rd l j) := by
  induction d with
  | zero =>
    intro i h0 h1 hd hp
    refine ⟨true, Ev_succ ?_, ?_⟩
    · simp only [impl_isIncreasing.l0, if_neg (show ¬ i < (l.length : Int) by omega)]; exact Ev.now _
    · simp only [true_iff]; exact fun j j0 j1 => hp j j0 (by omega)
  | succ d ih =>
    intro i h0 h1 hd hp
    have hlt : i < (l.length : Int) := by omega
    by_cases hi0 : i > 0
    · by_cases hr : rd l i ≤ rd l (i - 1)
      · refine ⟨false, Ev_succ ?_, ?_⟩
        · simp (disch := omega) only [impl_isIncreasing.l0, w64]
          simp only [if_pos hlt, if_pos hi0, if_pos h0, if_pos (show 0 ≤ i - 1 by omega), if_pos (show i - 1 < (l.length : Int) by omega), if_pos hr]
          exact Ev.now _
        · simp only [Bool.false_eq_true, false_iff]; exact fun g => by have := g i hi0 hlt; omega
      · obtain ⟨b, h, hbi⟩ := ih (i + 1) (by omega) (by omega) (by omega) (fun j j0 j1 => by
          by_cases e : j = i
          · rw [e]; omega
          · exact hp j j0 (by omega))
        refine ⟨b, Ev_succ ?_, hbi⟩
        simp (disch := omega) only [impl_isIncreasing.l0, w64]
        simp only [if_pos hlt, if_pos hi0, if_pos h0, if_pos (show 0 ≤ i - 1 by omega), if_pos (show i - 1 < (l.length : Int) by omega), if_neg hr]
        exact h
    · obtain ⟨b, h, hbi⟩ := ih (i + 1) (by omega) (by omega) (by omega) (fun j j0 j1 => by
        by_cases e : j = i
        · omega
        · exact hp j j0 (by omega))
      refine ⟨b, Ev_succ ?_, hbi⟩
      simp (disch := omega) only [impl_isIncreasing.l0, w64]
      simp only [if_pos hlt, if_neg hi0]
      exact h
theorem isInc_ev (l : List Int) (hl : (l.length : Int) ≤ 4611686018427387904) : ∃ b, Ev (fun k => impl_isIncreasing.f k l) b ∧ (b = true ↔ ∀ j, 0 < j → j < (l.length : Int) → rd l (j - 1) < rd l j) :=
  isInc_loop l hl l.length 0 (by omega) (by omega) (by omega) (fun j _ _ => by omega)
def TapsOk (l : List Int) : Prop := 1 ≤ (l.length : Int) ∧ (l.length : Int) ≤ 16 ∧ RisesIn l 1 16
theorem l06Taps_ev (l : List Int) (hl : (l.length : Int) ≤ 4611686018427387904) : ∃ b, Ev (fun k => spec_l06Taps.f k l) b ∧ (b = true ↔ TapsOk l) := by
  simp only [spec_l06Taps.f, l00In_eq, Option.bind_some]
  by_cases h : 1 ≤ (l.length : Int) ∧ (l.length : Int) ≤ 16
  · obtain ⟨b, hb, hi⟩ := l00Rises_loop l 1 16 hl l.length 0 (by omega) (by omega) (by omega) (fun j _ _ => by omega)
    refine ⟨b, ?_, by rw [hi]; exact ⟨fun g => ⟨h.1, h.2, g⟩, fun g => g.2.2⟩⟩
    simp only [h, and_self, decide_true, if_true]
    exact Ev.bind hb (Ev.now _)
  · refine ⟨false, ?_, ?_⟩
    · simp only [h, decide_false, Bool.false_eq_true, if_false]; exact Ev.now _
    · simp only [Bool.false_eq_true, false_iff]; exact fun g => h ⟨g.1, g.2.1⟩
theorem areTaps_ev (l : List Int) (hl : (l.length : Int) ≤ 4611686018427387904) : ∃ b, Ev (fun k => impl_areTaps.f k l) b ∧ (b = true ↔ TapsOk l) := by
  simp only [impl_areTaps.f]
  by_cases h1 : (l.length : Int) ≥ 1
  · by_cases h2 : (l.length : Int) ≤ 16
    · obtain ⟨b, hb, hi⟩ := areIn_ev l 1 16 hl
      obtain ⟨c, hc, hj⟩ := isInc_ev l hl
      simp only [if_pos h1, if_pos h2]
      cases b with
      | true =>
        refine ⟨c, Ev.bind hb ?_, ?_⟩
        · simp only [if_true]; exact Ev.bind hc (Ev.now _)
        · rw [hj]
          exact ⟨fun g => ⟨h1, h2, fun i i0 i1 => ⟨hi.1 rfl i i0 i1, fun z => g i z i1⟩⟩, fun g j j0 j1 => (g.2.2 j (by omega) j1).2 j0⟩
      | false =>
        refine ⟨false, Ev.bind hb ?_, ?_⟩
        · simp only [Bool.false_eq_true, if_false]; exact Ev.now _
        · simp only [Bool.false_eq_true, false_iff]
          intro g
          have := hi.2 (fun j j0 j1 => (g.2.2 j j0 j1).1)
          cases this
    · exact ⟨false, by simp only [if_pos h1, if_neg h2]; exact Ev.now _, by simp only [Bool.false_eq_true, false_iff]; exact fun g => h2 g.2.1⟩
  · exact ⟨false, by simp only [if_neg h1]; exact Ev.now _, by simp only [Bool.false_eq_true, false_iff]; exact fun g => h1 g.1⟩
def ScrOk (l : List Int) (s : ByteArray) : Prop := TapsOk l ∧ AllBit s ∧ (s.size : Int) = rd l ((l.length : Int) - 1)
theorem ScrOk.small {l : List Int} {s : ByteArray} (h : ScrOk l s) : 1 ≤ (s.size : Int) ∧ (s.size : Int) ≤ 16 := by
  obtain ⟨⟨h1, h2, h3⟩, -, h4⟩ := h
  have := (h3 ((l.length : Int) - 1) (by omega) (by omega)).1
  omega
theorem l06Is_ev (l : List Int) (s : ByteArray) (hl : (l.length : Int) ≤ 1048576) (hs : s.size ≤ 140737488351232) : ∃ b, Ev (fun k => spec_l06Is.f k l s) b ∧ (b = true ↔ ScrOk l s) := by
  obtain ⟨b, hb, hi⟩ := l06Taps_ev l (by omega)
  obtain ⟨c, hc, hj⟩ := l01Bits_ev s hs
  simp only [spec_l06Is.f]
  simp (disch := omega) only [w64]
  cases b with
  | false =>
    refine ⟨false, Ev.bind hb (by simp only [Bool.false_eq_true, if_false]; exact Ev.now _), ?_⟩
    simp only [Bool.false_eq_true, false_iff]
    exact fun g => by have := hi.2 g.1; cases this
  | true =>
    have ht := hi.1 rfl
    cases c with
    | false =>
      refine ⟨false, Ev.bind hb ?_, ?_⟩
      · simp only [if_true]
        exact Ev.bind hc (by simp only [Bool.false_eq_true, if_false]; exact Ev.now _)
      · simp only [Bool.false_eq_true, false_iff]
        exact fun g => by have := hj.2 ⟨g.2.1, by have := g.small; omega⟩; cases this
    | true =>
      have hb2 := hj.1 rfl
      refine ⟨(s.size : Int) == rd l ((l.length : Int) - 1), Ev.bind hb ?_, ?_⟩
      · simp only [if_true]
        refine Ev.bind hc ?_
        simp only [if_true, if_pos (show 0 ≤ (l.length : Int) - 1 by have := ht.1; omega), if_pos (show (l.length : Int) - 1 < (l.length : Int) by omega)]
        exact Ev.now _
      · rw [beq_iff_eq]
        exact ⟨fun g => ⟨ht, hb2.1, g⟩, fun g => g.2.2⟩
theorem validScr_ev (l : List Int) (s : ByteArray) (hl : (l.length : Int) ≤ 1048576) (hs : s.size ≤ 140737488351232) : ∃ b, Ev (fun k => impl_ValidScrambler.f k l s) b ∧ (b = true ↔ ScrOk l s) := by
  obtain ⟨b, hb, hi⟩ := areTaps_ev l (by omega)
  obtain ⟨c, hc, hj⟩ := areBits_ev s hs
  simp only [impl_ValidScrambler.f, hc, Option.bind_some]
  simp (disch := omega) only [w64]
  cases b with
  | false =>
    refine ⟨false, Ev.bind hb (by simp only [Bool.false_eq_true, if_false]; exact Ev.now _), ?_⟩
    simp only [Bool.false_eq_true, false_iff]
    exact fun g => by have := hi.2 g.1; cases this
  | true =>
    have ht := hi.1 rfl
    cases c with
    | false =>
      refine ⟨false, Ev.bind hb ?_, ?_⟩
      · simp only [if_true, Bool.false_eq_true, if_false]; exact Ev.now _
      · simp only [Bool.false_eq_true, false_iff]
        exact fun g => by have := hj.2 g.2.1; cases this
    | true =>
      have hb2 := hj.1 rfl
      refine ⟨(s.size : Int) == rd l ((l.length : Int) - 1), Ev.bind hb ?_, ?_⟩
      · simp only [if_true, if_pos (show 0 ≤ (l.length : Int) - 1 by have := ht.1; omega), if_pos (show (l.length : Int) - 1 < (l.length : Int) by omega)]
        exact Ev.now _
      · rw [beq_iff_eq]
        exact ⟨fun g => ⟨ht, hb2, g⟩, fun g => g.2.2⟩
theorem scr_both (l : List Int) (s : ByteArray) (hl : (l.length : Int) ≤ 1048576) (hs : s.size ≤ 140737488351232) :
    ∃ b, Ev (fun k => spec_l06Is.f k l s) b ∧ Ev (fun k => impl_ValidScrambler.f k l s) b ∧ (b = true ↔ ScrOk l s) := by
  obtain ⟨b, hb, hi⟩ := l06Is_ev l s hl hs
  obtain ⟨c, hc, hj⟩ := validScr_ev l s hl hs
  have e : c = b := by cases b <;> cases c <;> simp_all
  subst e
  exact ⟨c, hb, hc, hi⟩

def BitL (x : List Int) : Prop := ∀ v ∈ x, v = 0 ∨ v = 1
def up (x : List Int) : List Int := x.map (fun v => 48 + v)
theorem up_length (x : List Int) : (up x).length = x.length := by simp [up]
theorem up_append (x y : List Int) : up (x ++ y) = up x ++ up y := by simp [up]
theorem up_drop (x : List Int) (n : Nat) : (up x).drop n = up (x.drop n) := by simp [up]
theorem BitL_append {x y : List Int} (hx : BitL x) (hy : BitL y) : BitL (x ++ y) := by
  intro v hv; rcases List.mem_append.1 hv with h | h
  · exact hx v h
  · exact hy v h
theorem BitL_one {v : Int} (h : v = 0 ∨ v = 1) : BitL [v] := by intro w hw; rw [List.mem_singleton.1 hw]; exact h
theorem BitL_drop {x : List Int} (hx : BitL x) (n : Nat) : BitL (x.drop n) := fun v hv => hx v (List.mem_of_mem_drop hv)
theorem rd_bit {x : List Int} (hx : BitL x) (i : Int) (h0 : 0 ≤ i) (h1 : i < x.length) : rd x i = 0 ∨ rd x i = 1 := by
  unfold rd
  rw [List.getD_eq_getElem?_getD, List.getElem?_eq_getElem (show i.toNat < x.length by omega)]
  exact hx _ (List.getElem_mem _)
theorem rd_up (x : List Int) (i : Int) (h0 : 0 ≤ i) (h1 : i < x.length) : rd (up x) i = 48 + rd x i := by
  unfold rd up
  rw [List.getD_eq_getElem?_getD, List.getD_eq_getElem?_getD, List.getElem?_map, List.getElem?_eq_getElem (show i.toNat < x.length by omega)]
  rfl
theorem xor_bit {a b : Int} (ha : a = 0 ∨ a = 1) (hb : b = 0 ∨ b = 1) : Go.bits .xor .u8 a b = 0 ∨ Go.bits .xor .u8 a b = 1 := by
  rcases ha with rfl | rfl <;> rcases hb with rfl | rfl <;> decide
theorem and_up {a : Int} (ha : a = 0 ∨ a = 1) : Go.bits .and .u8 (48 + a) 1 = a := by
  rcases ha with rfl | rfl <;> decide
theorem xor_up {a b : Int} (ha : a = 0 ∨ a = 1) (hb : b = 0 ∨ b = 1) : Go.bits .xor .u8 (48 + a) b = 48 + Go.bits .xor .u8 a b := by
  rcases ha with rfl | rfl <;> rcases hb with rfl | rfl <;> decide
theorem xor_self_down {a b : Int} (ha : a = 0 ∨ a = 1) (hb : b = 0 ∨ b = 1) : Go.bits .xor .u8 a b = Go.bits .xor .u8 b a := by
  rcases ha with rfl | rfl <;> rcases hb with rfl | rfl <;> decide
theorem rises_mono (l : List Int) {lo hi : Int} (h : RisesIn l lo hi) (d : Nat) : ∀ i : Int, 0 ≤ i → i + d < l.length → rd l i ≤ rd l (i + d) := by
  induction d with
  | zero => intro i h0 h1; simp
  | succ d ih =>
    intro i h0 h1
    have h2 := ih i h0 (by omega)
    have h3 := (h (i + d + 1) (by omega) (by omega)).2 (by omega)
    rw [show i + (d : Int) + 1 - 1 = i + d by omega] at h3
    rw [show i + ((d + 1 : Nat) : Int) = i + d + 1 by omega]
    omega
theorem tap_le {l : List Int} {s : ByteArray} (h : ScrOk l s) (i : Int) (h0 : 0 ≤ i) (h1 : i < l.length) : 1 ≤ rd l i ∧ rd l i ≤ s.size := by
  have h2 := rises_mono l h.1.2.2 ((l.length : Int) - 1 - i).toNat i h0 (by omega)
  rw [show i + (((l.length : Int) - 1 - i).toNat : Int) = (l.length : Int) - 1 by omega, ← h.2.2] at h2
  exact ⟨(h.1.2.2 i h0 h1).1.1, h2⟩
theorem sum_loop {l : List Int} {s : ByteArray} (h : ScrOk l s) (x : List Int) (hx : BitL x) (hl : s.size ≤ x.length) (hm : x.length ≤ 1000000) (d : Nat) : ∀ (v i : Int), 0 ≤ i → (l.length : Int) - i = d → (v = 0 ∨ v = 1) →
    ∃ r, (r = 0 ∨ r = 1) ∧ Ev (fun k => spec_l06Sum.l0 k l x v i) r ∧ Ev (fun k => impl_sum.l0 k (up x) v l l.length i) r := by
  induction d with
  | zero =>
    intro v i h0 hd hv
    refine ⟨v, hv, Ev_succ ?_, Ev_succ ?_⟩
    · simp only [spec_l06Sum.l0, if_neg (show ¬ i < (l.length : Int) by omega)]; exact Ev.now _
    · simp only [impl_sum.l0, if_neg (show ¬ i < (l.length : Int) by omega)]; exact Ev.now _
  | succ d ih =>
    intro v i h0 hd hv
    have hlt : i < (l.length : Int) := by omega
    have ht := tap_le h i h0 hlt
    have h16 := h.1.2.1
    have hu := up_length x
    have hb := rd_bit hx ((x.length : Int) - rd l i) (by omega) (by omega)
    obtain ⟨r, hr, hA, hB⟩ := ih _ (i + 1) (by omega) (by omega) (xor_bit hv hb)
    refine ⟨r, hr, Ev_succ ?_, Ev_succ ?_⟩
    · simp (disch := omega) only [spec_l06Sum.l0, w64]
      simp only [if_pos hlt, if_pos h0, if_pos (show 0 ≤ (x.length : Int) - rd l i by omega), if_pos (show (x.length : Int) - rd l i < x.length by omega)]
      exact hA
    · simp (disch := omega) only [impl_sum.l0, w64, hu]
      simp only [if_pos hlt, if_pos h0, if_pos (show 0 ≤ (x.length : Int) - rd l i by omega), if_pos (show (x.length : Int) - rd l i < x.length by omega), rd_up x _ (show 0 ≤ (x.length : Int) - rd l i by omega) (show (x.length : Int) - rd l i < x.length by omega), and_up hb]
      exact hB
theorem sum_both {l : List Int} {s : ByteArray} (h : ScrOk l s) (x : List Int) (hx : BitL x) (hl : s.size ≤ x.length) (hm : x.length ≤ 1000000) :
    ∃ r, (r = 0 ∨ r = 1) ∧ Ev (fun k => spec_l06Sum.f k l x) r ∧ Ev (fun k => impl_sum.f k l (up x)) r :=
  sum_loop h x hx hl hm l.length 0 0 (by omega) (by omega) (.inl rfl)
/-! the state, the earliest bit first -/
def revB (s : ByteArray) : Nat → List Int
  | 0 => []
  | n + 1 => (bt s n - 48) :: revB s n
theorem revB_length (s : ByteArray) : ∀ n, (revB s n).length = n
  | 0 => rfl
  | n + 1 => by simp [revB, revB_length s n]
theorem revB_bit (s : ByteArray) (h : AllBit s) : ∀ n : Nat, n ≤ s.size → BitL (revB s n)
  | 0, _ => by intro v hv; cases hv
  | n + 1, hn => by
    intro v hv
    rcases List.mem_cons.1 hv with e | e
    · have := h n (by omega) (by omega); omega
    · exact revB_bit s h n (by omega) v e
theorem before_loop (s : ByteArray) (h : AllBit s) (hs : s.size ≤ 1000000) : ∀ (n : Nat) (acc : List Int), n ≤ s.size → acc.length ≤ 1000000 - n → Ev (fun k => spec_l06Before.l0 k s acc ((n : Int) - 1)) (acc ++ revB s n)
  | 0, acc, _, _ => by
    refine Ev_succ ?_
    simp only [spec_l06Before.l0, if_neg (show ¬ ((0 : Nat) : Int) - 1 ≥ 0 by omega), revB, List.append_nil]
    exact Ev.now _
  | n + 1, acc, hn, ha => by
    refine Ev_succ ?_
    have hb := h n (by omega) (by omega)
    simp (disch := omega) only [spec_l06Before.l0, w64]
    simp only [show (((n + 1 : Nat) : Int) - 1) = (n : Int) by omega]
    simp only [if_pos (show (n : Int) ≥ 0 by omega), if_pos (show (0 : Int) ≤ n by omega), if_pos (show (n : Int) < s.size by omega), if_pos (show acc.length < 140737488355328 by omega), show (bt s n - 48) % 256 = bt s n - 48 by omega]
    have := before_loop s h hs n (acc ++ [bt s n - 48]) (by omega) (by simp; omega)
    rw [List.append_assoc] at this
    exact this
theorem before_ev (s : ByteArray) (h : AllBit s) (hs : s.size ≤ 1000000) : Ev (fun k => spec_l06Before.f k s) (revB s s.size) := by
  simp (disch := omega) only [spec_l06Before.f, w64]
  have := before_loop s h hs s.size [] (Nat.le_refl _) (by simp)
  rwa [List.nil_append] at this
theorem up_revB (s : ByteArray) : ∀ n : Nat, n ≤ s.size → up (revB s n) = ((Gd.zsOf s).take n).reverse
  | 0, _ => by simp [up, revB]
  | n + 1, hn => by
    have hz := Gd.zsOf_length s
    have h1 : n < (Gd.zsOf s).length := by omega
    have hd : n < s.data.toList.length := by rw [Array.length_toList]; exact hn
    rw [List.take_succ_eq_append_getElem h1, List.reverse_append, ← up_revB s n (by omega)]
    have : (Gd.zsOf s)[n] = bt s n := by rw [bt_list s n (by omega)]; simp [Gd.zsOf]
    simp [this, revB, up]
    omega
theorem history_eq (s : ByteArray) (hs : s.size ≤ 140737488355328) (l : List Int) : impl_Scrambler_history.f l s = some (up (revB s s.size)) := by
  rw [impl_Scrambler_history.f, if_pos hs, up_revB s s.size (Nat.le_refl _), ← Gd.zsOf_length, List.take_length]
/-! the text of bits -/
theorem text_loop (x : List Int) (hx : BitL x) (hl : x.length ≤ 1000000) (d : Nat) : ∀ (n : Nat), n + d = x.length → Ev (fun k => spec_l06Text.l0 k x (up (x.take n)) n) (strOfNums (up x)) := by
  induction d with
  | zero =>
    intro n hd
    refine Ev_succ ?_
    simp only [spec_l06Text.l0, if_neg (show ¬ (n : Int) < (x.length : Int) by omega), List.take_of_length_le (show x.length ≤ n by omega)]; exact Ev.now _
  | succ d ih =>
    intro n hd
    refine Ev_succ ?_
    have hn : n < x.length := by omega
    have hb := rd_bit hx n (by omega) (by omega)
    have hr : rd x n = x[n] := by unfold rd; rw [Int.toNat_natCast, List.getD_eq_getElem?_getD, List.getElem?_eq_getElem hn]; rfl
    rw [hr] at hb
    have h := ih (n + 1) (by omega)
    rw [List.take_succ_eq_append_getElem hn, up_append] at h
    have hu := up_length (x.take n)
    rw [List.length_take] at hu
    simp (disch := omega) only [spec_l06Text.l0, w64]
    simp only [if_pos (show (n : Int) < (x.length : Int) by omega), if_pos (show (0 : Int) ≤ n by omega), if_pos (show (up (x.take n)).length < 140737488355328 by omega), hr, show (48 + x[n]) % 256 = 48 + x[n] by omega]
    exact h
theorem text_ev (x : List Int) (hx : BitL x) (hl : x.length ≤ 1000000) : Ev (fun k => spec_l06Text.f k x) (strOfNums (up x)) := text_loop x hx hl x.length 0 (by omega)

theorem key_loops {l : List Int} {s : ByteArray} (h : ScrOk l s) (c : Int) (hc : c ≤ 400) (d : Nat) : ∀ (x : List Int) (i : Int), BitL x → 0 ≤ i → c - i = d → (x.length : Int) = s.size + i →
    ∃ z, BitL z ∧ (z.length : Int) = c ∧ Ev (fun k => spec_l06Key.l0 k c x i l s) z ∧ Ev (fun k => impl_Scrambler_keyBits.l0 k (up x) c i l s) (strOfNums (up z)) := by
  have h16 := h.small
  induction d with
  | zero =>
    intro x i hx h0 hd hl
    refine ⟨x.drop s.size, BitL_drop hx _, by rw [List.length_drop]; omega, Ev_succ ?_, Ev_succ ?_⟩
    · simp only [spec_l06Key.l0, if_neg (show ¬ i < c by omega), if_pos (show 0 ≤ (s.size : Int) by omega), if_pos (show (s.size : Int) ≤ x.length by omega), Int.toNat_natCast]; exact Ev.now _
    · simp only [impl_Scrambler_keyBits.l0, up_length, up_drop, if_neg (show ¬ i < c by omega), if_pos (show 0 ≤ (s.size : Int) by omega), if_pos (show (s.size : Int) ≤ x.length by omega), Int.toNat_natCast]; exact Ev.now _
  | succ d ih =>
    intro x i hx h0 hd hl
    obtain ⟨r, hr, hA, hB⟩ := sum_both h x hx (by omega) (by omega)
    obtain ⟨z, hz, hzl, hC, hD⟩ := ih (x ++ [r]) (i + 1) (BitL_append hx (BitL_one hr)) (by omega) (by omega) (by simp; omega)
    refine ⟨z, hz, hzl, Ev_succ ?_, Ev_succ ?_⟩
    · simp (disch := omega) only [spec_l06Key.l0, w64]
      simp only [if_pos (show i < c by omega)]
      refine Ev.bind hA ?_
      simp only [if_pos (show x.length < 140737488355328 by omega)]
      exact hC
    · simp (disch := omega) only [impl_Scrambler_keyBits.l0, w64]
      simp only [if_pos (show i < c by omega)]
      refine Ev.bind hB ?_
      have hu := up_length x
      simp only [if_pos (show (up x).length < 140737488355328 by omega), show (48 + r) % 256 = 48 + r by omega]
      rw [up_append] at hD
      exact hD
theorem key_both {l : List Int} {s : ByteArray} (h : ScrOk l s) (c : Int) (hc0 : 0 ≤ c) (hc : c ≤ 400) :
    ∃ z, BitL z ∧ (z.length : Int) = c ∧ Ev (fun k => spec_l06Key.f k l s c) z ∧ Ev (fun k => impl_Scrambler_keyBits.f k l s c) (strOfNums (up z)) := by
  have h16 := h.small
  have hr := revB_length s s.size
  obtain ⟨z, hz, hzl, hA, hB⟩ := key_loops h c hc c.toNat (revB s s.size) 0 (revB_bit s h.2.1 _ (Nat.le_refl _)) (by omega) (by omega) (by omega)
  refine ⟨z, hz, hzl, ?_, ?_⟩
  · simp only [spec_l06Key.f]
    exact Ev.bind (before_ev s h.2.1 (by omega)) hA
  · simp only [impl_Scrambler_keyBits.f, history_eq s (by omega) l, Option.bind_some]
    exact hB

theorem bt_sn (xs : List Int) (i : Int) (h0 : 0 ≤ i) (h1 : i < xs.length) (hr : 0 ≤ rd xs i ∧ rd xs i < 256) : bt (strOfNums xs) i = rd xs i := by
  obtain ⟨n, rfl⟩ : ∃ n : Nat, i = n := ⟨i.toNat, by omega⟩
  have hz := sn_size xs
  have hn : n < xs.length := by omega
  rw [bt_list _ n (by omega)]
  have hrd : rd xs n = xs[n] := by unfold rd; rw [Int.toNat_natCast, List.getD_eq_getElem?_getD, List.getElem?_eq_getElem hn]; rfl
  rw [hrd] at hr ⊢
  have e : (strOfNums xs).data.toList[n]'(by rw [dl_size]; omega) = UInt8.ofNat (xs[n]).toNat := by simp [strOfNums]
  rw [e, UInt8.toNat_ofNat']
  omega
theorem AllBit_up (z : List Int) (hz : BitL z) : AllBit (strOfNums (up z)) := by
  intro i h0 h1
  rw [sn_size, up_length] at h1
  have hb := rd_bit hz i h0 (by omega)
  have hr := rd_up z i h0 (by omega)
  rw [bt_sn (up z) i h0 (by rw [up_length]; omega) (by omega)]
  omega
theorem BitL_zeros (n : Nat) : BitL (List.replicate n 0) := fun v hv => .inl (List.eq_of_mem_replicate hv)
theorem zeros_text (n : Nat) (hn : n ≤ 1000000) : Ev (fun k => spec_l06Text.f k (List.replicate n 0)) (strOfNums (up (List.replicate n 0))) := text_ev _ (BitL_zeros n) (by simp; omega)
theorem zeros_size (n : Nat) : (strOfNums (up (List.replicate n 0))).size = n := by rw [sn_size, up_length, List.length_replicate]

def FnExactAddScramble_Pure : Prop := ∀ (l0_0 : List Int) (a0_1 : ByteArray) (a1 : ByteArray), l0_0.length ≤ maxLen → l0_0.length * 8 ≤ 140737488351232 → (∀ x ∈ l0_0, (Lit.int .i64 x).wf = true) → a0_1.size ≤ 140737488351232 → a1.size ≤ 140737488351232 → ∃ k, laws_FnExactAddScramble.f k l0_0 a0_1 a1 = some true
def mixed (z : List Int) (t : ByteArray) (i : Int) (y : List Int) : Prop := BitL y ∧ y.length = z.length ∧ ∀ j : Int, 0 ≤ j → j < z.length → rd y j = if j < i then Go.bits .xor .u8 (rd z j) (bt t j - 48) else rd z j
theorem BitL_set {y : List Int} (h : BitL y) (i : Nat) {v : Int} (hv : v = 0 ∨ v = 1) : BitL (y.set i v) := by
  intro x hx
  rcases List.mem_or_eq_of_mem_set hx with h1 | h1
  · exact h x h1
  · rw [h1]; exact hv
theorem add_loop (z : List Int) (hz : BitL z) (t : ByteArray) (ht : AllBit t) (hts : t.size ≤ 400) (hl : z.length = t.size) (l : List Int) (s : ByteArray) (d : Nat) : ∀ (y : List Int) (i : Int), mixed z t i y → 0 ≤ i → (t.size : Int) - i = d →
    ∃ y', mixed z t t.size y' ∧ Ev (fun k => spec_AddScramble.l0 k t y i) (strOfNums (up y'), true) := by
  induction d with
  | zero =>
    intro y i hm h0 hd
    refine ⟨y, ?_, Ev_succ ?_⟩
    · rw [show (t.size : Int) = i by omega]; exact hm
    · simp only [spec_AddScramble.l0, if_neg (show ¬ i < (t.size : Int) by omega)]
      exact Ev.bind (text_ev y hm.1 (by have := hm.2.1; omega)) (Ev.now _)
  | succ d ih =>
    intro y i hm h0 hd
    obtain ⟨hy, hyl, hp⟩ := hm
    have hlt : i < (t.size : Int) := by omega
    have hb := ht i h0 hlt
    have hb' : bt t i - 48 = 0 ∨ bt t i - 48 = 1 := by omega
    have hyi := rd_bit hy i h0 (by omega)
    obtain ⟨y', hm', h⟩ := ih (y.set i.toNat (Go.bits .xor .u8 (rd y i) (bt t i - 48))) (i + 1) ⟨BitL_set hy _ (xor_bit hyi hb'), by rw [List.length_set]; exact hyl, fun j j0 j1 => by
      rw [rd_set y i j _ h0 (by omega) j0]
      have := hp i h0 (by omega)
      rw [if_neg (by omega)] at this
      by_cases e : j = i
      · rw [if_pos e, if_pos (by omega), e, this]
      · rw [if_neg e, hp j j0 j1]
        by_cases g : j < i
        · rw [if_pos g, if_pos (by omega)]
        · rw [if_neg g, if_neg (by omega)]⟩ (by omega) (by omega)
    refine ⟨y', hm', Ev_succ ?_⟩
    simp (disch := omega) only [spec_AddScramble.l0, w64]
    simp only [if_pos hlt, if_pos h0, if_pos (show i < (y.length : Int) by omega), show (bt t i - 48) % 256 = bt t i - 48 by omega]
    exact h
theorem add_same (z y : List Int) (hz : BitL z) (t : ByteArray) (ht : AllBit t) (hl : z.length = t.size) (hm : mixed z t t.size y) : (⟨(xorL t.data.toList (strOfNums (up z)).data.toList).toArray⟩ : ByteArray) = strOfNums (up y) := by
  obtain ⟨hy, hyl, hp⟩ := hm
  have hdl := dl_size t
  apply ba_ext
  apply List.ext_getElem
  · simp [xorL, strOfNums, up_length, hyl, hl]
  · intro n h1 h2
    have hn : n < t.size := by simp [strOfNums, up_length] at h2; omega
    have e1 : (xorL t.data.toList (strOfNums (up z)).data.toList)[n]'(by simpa using h1) = if t.data.toList[n]'(by omega) = UInt8.ofNat (48 + z[n]'(by omega)).toNat then 48 else 49 := by
      simp [xorL, strOfNums, up]
    have e2 : (strOfNums (up y)).data.toList[n]'h2 = UInt8.ofNat (48 + y[n]'(by omega)).toNat := by simp [strOfNums, up]
    rw [e2]
    refine Eq.trans ?_ (e1.trans ?_)
    · rfl
    have hq := hp n (by omega) (by omega)
    rw [if_pos (by omega)] at hq
    have hrz : rd z n = z[n]'(by omega) := by unfold rd; rw [Int.toNat_natCast, List.getD_eq_getElem?_getD, List.getElem?_eq_getElem (by omega)]; rfl
    have hry : rd y n = y[n]'(by omega) := by unfold rd; rw [Int.toNat_natCast, List.getD_eq_getElem?_getD, List.getElem?_eq_getElem (by omega)]; rfl
    have hb := ht n (by omega) (by omega)
    have hbl := bt_list t n hn
    have hzn := hz _ (List.getElem_mem (l := z) (n := n) (by omega))
    rw [hrz, hry] at hq
    rw [hq]
    have ht8 : t.data.toList[n]'(by omega) = 48 ∧ bt t n = 48 ∨ t.data.toList[n]'(by omega) = 49 ∧ bt t n = 49 := by
      rcases hb with e | e
      · left; exact ⟨UInt8.toNat_inj.1 (by show _ = 48; omega), e⟩
      · right; exact ⟨UInt8.toNat_inj.1 (by show _ = 49; omega), e⟩
    rcases ht8 with ⟨a1, a2⟩ | ⟨a1, a2⟩ <;> rcases hzn with e | e <;> rw [a1, a2, e] <;> decide
theorem add_both (l : List Int) (s t : ByteArray) (hl : (l.length : Int) ≤ 1048576) (hs : s.size ≤ 140737488351232) (ht : (t.size : Int) ≤ 1048576) : ∃ r, Ev (fun k => spec_AddScramble.f k l s t) r ∧ Ev (fun k => impl_AddScramble.f k l s t) r := by
  obtain ⟨b, hS, hI, hb⟩ := scr_both l s hl hs
  obtain ⟨c, hc, hd, he⟩ := bits_same t (by omega)
  have no : Ev (fun k => spec_AddScramble.j0 k t true l s) ((⟨#[]⟩ : ByteArray), false) := by
    refine Ev_succ ?_; simp only [spec_AddScramble.j0, if_true]; exact Ev.now _
  have no' : Ev (fun k => impl_AddScramble.j0 k t true l s) ((⟨#[]⟩ : ByteArray), false) := by
    refine Ev_succ ?_; simp only [impl_AddScramble.j0, if_true]; exact Ev.now _
  simp only [spec_AddScramble.f, impl_AddScramble.f, hd, Option.bind_some]
  cases b with
  | false => exact ⟨_, Ev.bind hS (by simp only [Bool.false_eq_true, if_false]; exact no), Ev.bind hI (by simp only [Bool.false_eq_true, if_false]; exact no')⟩
  | true =>
    have hok := hb.1 rfl
    cases c with
    | false => exact ⟨_, Ev.bind hS (by simp only [if_true]; exact Ev.bind hc (by simp only [Bool.not_false]; exact no)), Ev.bind hI (by simp only [if_true, Bool.not_false]; exact no')⟩
    | true =>
      have ⟨hall, h400⟩ := he.1 rfl
      obtain ⟨z, hz, hzl, hA, hB⟩ := key_both hok t.size (by omega) (by omega)
      obtain ⟨y, hm, hC⟩ := add_loop z hz t hall (by omega) (by omega) l s t.size z 0 ⟨hz, rfl, fun j j0 j1 => by rw [if_neg (by omega)]⟩ (by omega) (by omega)
      refine ⟨(strOfNums (up y), true), Ev.bind hS ?_, Ev.bind hI ?_⟩
      · simp only [if_true]
        refine Ev.bind hc ?_
        simp only [Bool.not_true]
        refine Ev_succ ?_
        simp only [spec_AddScramble.j0, Bool.false_eq_true, if_false]
        exact Ev.bind hA hC
      · simp only [if_true, Bool.not_true]
        refine Ev_succ ?_
        simp only [impl_AddScramble.j0, Bool.false_eq_true, if_false]
        refine Ev.bind hB ?_
        have hsz : (strOfNums (up z)).size = z.length := by rw [sn_size, up_length]
        simp only [impl_xorBits.f]
        simp only [if_pos (show t.size ≤ (strOfNums (up z)).size ∧ t.size ≤ 140737488355328 by omega), Option.bind_some, add_same z y hz t hall (by omega) hm]
        exact Ev.now _
theorem FnExactAddScramble : FnExactAddScramble_Pure := by
  intro l s t h1 h2 h3 h4 h5
  apply Ev.rounds
  simp only [laws_FnExactAddScramble.f]
  by_cases hbig : (t.size : Int) > 1048576
  · simp only [if_pos hbig]; exact Ev.now _
  simp only [if_neg hbig]
  obtain ⟨v, hv, hz⟩ := szScr l s 1048576 (by omega) h2 h4
  simp only [hv, Option.bind_some]
  by_cases hn : v < 0
  · simp only [if_pos hn]; exact Ev.now _
  have hb := hz hn
  simp only [if_neg hn]
  have hT := toScr_ev l s (by omega)
  obtain ⟨r, hA, hB⟩ := add_both l s t (by omega) h4 (by omega)
  refine Ev.bind hT (Ev.bind hA (Ev.bind hT (Ev.bind hB ?_)))
  simp only [if_true, bne_self_eq_false]
  refine Ev_succ ?_
  simp only [laws_FnExactAddScramble.j0, Bool.false_eq_true, if_false]
  refine Ev.bind hT (Ev.bind (eqScr_ev l s (by omega)) ?_)
  simp only [if_true]
  exact Ev.now _

end Go.Proofs.YtkhgmfnmgefpbaaDoor.Pure
