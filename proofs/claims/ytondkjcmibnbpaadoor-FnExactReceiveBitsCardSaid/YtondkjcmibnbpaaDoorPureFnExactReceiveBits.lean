/- The law FnExactReceiveBits of the given program holds: for every input that the row lets in the call returns true and leaves its arguments as they were. No condition ahead of it. -/
import Derived.Test.YtondkjcmibnbpaaDoorPFnExactReceiveBitsx4
import Derived.Test.YtondkjcmibnbpaaDoorMine
namespace Go.Proofs.YtondkjcmibnbpaaDoor.Pure
open Go.RowKit Go.Proofs.YtondkjcmibnbpaaDoor.PFnExactReceiveBits Go.Proofs.YtondkjcmibnbpaaDoorW.PrintWords Go.Proofs.YtondkjcmibnbpaaDoorW.PrintLast Go.Proofs.YtondkjcmibnbpaaDoorW.PrintMore Go.Proofs.YtondkjcmibnbpaaDoor.Mine
set_option linter.unusedVariables false
set_option linter.unusedSimpArgs false
theorem l00In_eq (a b c : Int) : spec_l00In.f a b c = some (decide (b ≤ a ∧ a ≤ c)) := by
  unfold spec_l00In.f; by_cases h : a ≥ b
  · rw [if_pos h]; simp; intro _; exact h
  · rw [if_neg h]; simp; intro h'; omega
theorem within_eq (a b c : Int) : impl_within.f a b c = some (decide (b ≤ a ∧ a ≤ c)) := by
  unfold impl_within.f; by_cases h : a ≥ b
  · rw [if_pos h]; simp; intro _; exact h
  · rw [if_neg h]; simp; intro h'; omega

def AllBit (s : ByteArray) : Prop := ∀ i : Int, 0 ≤ i → i < s.size → bt s i = 48 ∨ bt s i = 49
def IsBitS (s : ByteArray) : Prop := AllBit s ∧ (s.size : Int) ≤ 400
theorem bt_list (s : ByteArray) (i : Nat) (h : i < s.size) : bt s i = ((s.data.toList[i]'(by simpa using h)).toNat : Int) := by
  unfold bt
  simp only [Int.toNat_natCast, h, dif_pos]
  rfl
theorem dropWhile_nil (p : UInt8 → Bool) : ∀ l : List UInt8, l.dropWhile p = [] ↔ ∀ b ∈ l, p b = true
  | [] => by simp
  | x :: l => by
    rw [List.dropWhile_cons]
    cases h : p x with
    | true => simp [h, dropWhile_nil p l]
    | false => simp [h]
theorem trim_empty (l : List UInt8) : (Lib.trimS l [48, 49]).isEmpty = true ↔ ∀ b ∈ l, b = 48 ∨ b = 49 := by
  have key : ∀ p : UInt8 → Bool, List.dropWhile p (List.dropWhile p l.reverse).reverse = [] ↔ ∀ b ∈ l, p b = true := by
    intro p
    rw [dropWhile_nil]
    constructor
    · intro h
      by_cases e : List.dropWhile p l.reverse = []
      · have := (dropWhile_nil p _).1 e
        exact fun b hb => this b (by simpa using hb)
      · have hh := List.head_dropWhile_not p e
        have h3 := h ((List.dropWhile p l.reverse).head e) (by simp)
        rw [hh] at h3
        cases h3
    · intro h b hb
      have : List.dropWhile p l.reverse = [] := (dropWhile_nil p _).2 (fun b hb => h b (by simpa using hb))
      rw [this] at hb
      simp at hb
  unfold Lib.trimS Lib.trimRightS Lib.trimLeftS
  rw [List.isEmpty_iff, key]
  simp
theorem areBits_ev (s : ByteArray) (hs : s.size ≤ 140737488351232) : ∃ b, impl_areBits.f s = some b ∧ (b = true ↔ AllBit s) := by
  refine ⟨(Lib.trimS s.data.toList [48, 49]).isEmpty, by unfold impl_areBits.f; rw [if_pos (by omega)], ?_⟩
  rw [trim_empty]
  constructor
  · intro h i h0 h1
    obtain ⟨n, rfl⟩ : ∃ n : Nat, i = n := ⟨i.toNat, by omega⟩
    rw [bt_list s n (by omega)]
    rcases h _ (List.getElem_mem (l := s.data.toList) (n := n) (by simp; omega)) with e | e <;> rw [e]
    · exact Or.inl rfl
    · exact Or.inr rfl
  · intro h b hb
    obtain ⟨n, hn, rfl⟩ := List.getElem_of_mem hb
    have hn' : n < s.size := by simpa using hn
    have := h n (by omega) (by omega)
    rw [bt_list s n hn'] at this
    rcases this with e | e
    · left; apply UInt8.toNat_inj.1; show s.data.toList[n].toNat = 48; omega
    · right; apply UInt8.toNat_inj.1; show s.data.toList[n].toNat = 49; omega
theorem l01Bits_loop (s : ByteArray) (hs : s.size ≤ 140737488351232) (d : Nat) : ∀ i : Int, 0 ≤ i → i ≤ s.size → (s.size : Int) - i = d → (∀ j, 0 ≤ j → j < i → bt s j = 48 ∨ bt s j = 49) →
    ∃ b, Ev (fun k => spec_l01Bits.l0 k s i) b ∧ (b = true ↔ IsBitS s) := by
  induction d with
  | zero =>
    intro i h0 h1 hd hp
    refine ⟨decide ((s.size : Int) ≤ 400), Ev_succ ?_, ?_⟩
    · simp only [spec_l01Bits.l0, if_neg (show ¬ i < (s.size : Int) by omega)]
      exact Ev.now _
    · rw [decide_eq_true_eq]
      exact ⟨fun h => ⟨fun j j0 j1 => hp j j0 (by omega), h⟩, fun h => h.2⟩
  | succ d ih =>
    intro i h0 h1 hd hp
    have hlt : i < (s.size : Int) := by omega
    by_cases e : bt s i = 48 ∨ bt s i = 49
    · obtain ⟨b, hb, hi⟩ := ih (i + 1) (by omega) (by omega) (by omega) (fun j j0 j1 => by
        by_cases z : j = i
        · rw [z]; exact e
        · exact hp j j0 (by omega))
      refine ⟨b, Ev_succ ?_, hi⟩
      simp (disch := omega) only [spec_l01Bits.l0, w64]
      rcases e with e | e
      · simp only [if_pos hlt, if_pos h0, if_pos e]; exact hb
      · simp only [if_pos hlt, if_pos h0, e, if_neg (show ¬ (49 : Int) = 48 by omega), if_true]; exact hb
    · refine ⟨false, Ev_succ ?_, ?_⟩
      · simp only [spec_l01Bits.l0, if_pos hlt, if_pos h0, if_neg (fun g => e (Or.inl g)), if_neg (fun g => e (Or.inr g))]
        exact Ev.now _
      · simp only [Bool.false_eq_true, false_iff]
        exact fun g => e (g.1 i h0 hlt)
theorem l01Bits_ev (s : ByteArray) (hs : s.size ≤ 140737488351232) : ∃ b, Ev (fun k => spec_l01Bits.f k s) b ∧ (b = true ↔ IsBitS s) :=
  l01Bits_loop s hs s.size 0 (by omega) (by omega) (by omega) (fun j _ _ => by omega)

theorem ba_ext {a b : ByteArray} (h : a.data.toList = b.data.toList) : a = b := by apply ByteArray.ext; exact Array.toList_inj.1 h
theorem sn_append (a b : List Int) : strOfNums (a ++ b) = strOfNums a ++ strOfNums b := by apply ba_ext; simp [strOfNums]
theorem sn_size (a : List Int) : (strOfNums a).size = a.length := by simp [strOfNums, ByteArray.size]
theorem sn_nil : strOfNums [] = (⟨#[]⟩ : ByteArray) := rfl
theorem bt_range (s : ByteArray) (i : Int) (h0 : 0 ≤ i) (h1 : i < s.size) : 0 ≤ bt s i ∧ bt s i < 256 := by
  obtain ⟨n, rfl⟩ : ∃ n : Nat, i = n := ⟨i.toNat, by omega⟩
  rw [bt_list s n (by omega)]
  have := (s.data.toList[n]'(by simp; omega)).toNat_lt
  omega
theorem extract_one (s : ByteArray) (n : Nat) (h : n < s.size) : (s.extract n (n + 1)).data.toList = [s.data.toList[n]'(by simpa using h)] := by
  have h' : n < s.data.size := h
  simp only [ByteArray.data_extract, Array.toList_extract, List.extract_eq_take_drop]
  rw [show n + 1 - n = 1 by omega, List.drop_eq_getElem_cons (show n < s.data.toList.length by simpa using h')]
  simp
theorem sn_one (s : ByteArray) (i : Int) (h0 : 0 ≤ i) (h1 : i < s.size) : strOfNums [bt s i] = s.extract i.toNat (i + 1).toNat := by
  obtain ⟨n, rfl⟩ : ∃ n : Nat, i = n := ⟨i.toNat, by omega⟩
  apply ba_ext
  rw [show ((n : Int) + 1).toNat = n + 1 by omega, Int.toNat_natCast, extract_one s n (by omega), bt_list s n (by omega)]
  simp [strOfNums]

theorem ex_size (s : ByteArray) (a b : Nat) (hb : b ≤ s.size) : (s.extract a b).size = b - a := by
  simp only [ByteArray.size_extract]; omega
theorem ex_list (s : ByteArray) (a b : Nat) : (s.extract a b).data.toList = (s.data.toList.drop a).take (b - a) := by
  simp only [ByteArray.data_extract, Array.toList_extract, List.extract_eq_take_drop]
theorem ex_ex (s : ByteArray) (a b c d : Nat) (h : a + d ≤ b) : (s.extract a b).extract c d = s.extract (a + c) (a + d) := by
  apply ba_ext
  rw [ex_list, ex_list, ex_list, List.drop_take, List.drop_drop, List.take_take]
  congr 1
  omega
theorem dl_size (s : ByteArray) : s.data.toList.length = s.size := Array.length_toList
theorem ex_whole (s : ByteArray) : s.extract 0 s.size = s := by
  apply ba_ext; rw [ex_list, List.drop_zero]; exact List.take_of_length_le (by rw [dl_size]; omega)
theorem bt_extract (s : ByteArray) (a b : Nat) (hb : b ≤ s.size) (j : Int) (h0 : 0 ≤ j) (h1 : j < (b : Int) - a) : bt (s.extract a b) j = bt s (a + j) := by
  obtain ⟨n, rfl⟩ : ∃ n : Nat, j = n := ⟨j.toNat, by omega⟩
  have hz := ex_size s a b hb
  rw [bt_list _ n (by omega), show (a : Int) + n = ((a + n : Nat) : Int) by omega, bt_list _ _ (by omega)]
  congr 2
  simp only [ex_list]
  rw [List.getElem_take, List.getElem_drop]
theorem AllBit_extract (s : ByteArray) (h : AllBit s) (a b : Nat) (hb : b ≤ s.size) : AllBit (s.extract a b) := by
  intro j h0 h1
  have hz := ex_size s a b hb
  rw [bt_extract s a b hb j h0 (by omega)]
  exact h _ (by omega) (by omega)
theorem nil_size (s : ByteArray) : s.toList = ([] : List UInt8) ↔ s.size = 0 := by
  rw [Lib.toList_data]
  show _ ↔ s.data.size = 0
  rw [← Array.length_toList]
  exact List.length_eq_zero_iff.symm

theorem ticks_eq (a : Int) : spec_l07Ticks.f a = some (decide (2 ≤ a ∧ a ≤ 1000)) := by
  simp only [spec_l07Ticks.f, l00In_eq, Option.bind_some]
theorem areTicks_eq (a b : Int) : impl_areTicks.f a b = some (decide ((2 ≤ a ∧ a ≤ 1000) ∧ (2 ≤ b ∧ b ≤ 1000))) := by
  simp only [impl_areTicks.f, within_eq, Option.bind_some]
  by_cases h0 : 2 ≤ a ∧ a ≤ 1000 <;> by_cases h1 : 2 ≤ b ∧ b ≤ 1000 <;> simp [h0, h1]

theorem areIn_loop (l : List Int) (lo hi : Int) (hl : (l.length : Int) ≤ 4611686018427387904) (d : Nat) : ∀ i : Int, 0 ≤ i → i ≤ l.length → (l.length : Int) - i = d →
    (∀ j, 0 ≤ j → j < i → lo ≤ rd l j ∧ rd l j ≤ hi) → ∃ b, Ev (fun k => impl_areIn.l0 k lo hi l l.length i) b ∧ (b = true ↔ ∀ j, 0 ≤ j → j < (l.length : Int) → lo ≤ rd l j ∧ rd l j ≤ hi) := by
  induction d with
  | zero =>
    intro i h0 h1 hd hp
    refine ⟨true, Ev_succ ?_, ?_⟩
    · simp only [impl_areIn.l0, if_neg (show ¬ i < (l.length : Int) by omega)]; exact Ev.now _
    · simp only [true_iff]; exact fun j j0 j1 => hp j j0 (by omega)
  | succ d ih =>
    intro i h0 h1 hd hp
    have hlt : i < (l.length : Int) := by omega
    by_cases hb : lo ≤ rd l i ∧ rd l i ≤ hi
    · obtain ⟨b, h, hbi⟩ := ih (i + 1) (by omega) (by omega) (by omega) (fun j j0 j1 => by
        by_cases e : j = i
        · rw [e]; exact hb
        · exact hp j j0 (by omega))
      refine ⟨b, Ev_succ ?_, hbi⟩
      simp (disch := omega) only [impl_areIn.l0, w64, within_eq, Option.bind_some]
      simp only [if_pos hlt, if_pos h0, hb, and_self, decide_true, if_true]
      exact h
    · refine ⟨false, Ev_succ ?_, ?_⟩
      · simp (disch := omega) only [impl_areIn.l0, w64, within_eq, Option.bind_some]
        simp only [if_pos hlt, if_pos h0, hb, decide_false, Bool.false_eq_true, if_false]
        exact Ev.now _
      · simp only [Bool.false_eq_true, false_iff]; exact fun g => hb (g i h0 hlt)
theorem areIn_ev (l : List Int) (lo hi : Int) (hl : (l.length : Int) ≤ 4611686018427387904) : ∃ b, Ev (fun k => impl_areIn.f k l lo hi) b ∧ (b = true ↔ ∀ j, 0 ≤ j → j < (l.length : Int) → lo ≤ rd l j ∧ rd l j ≤ hi) :=
  areIn_loop l lo hi hl l.length 0 (by omega) (by omega) (by omega) (fun j _ _ => by omega)

theorem isInc_loop (l : List Int) (hl : (l.length : Int) ≤ 4611686018427387904) (d : Nat) : ∀ i : Int, 0 ≤ i → i ≤ l.length → (l.length : Int) - i = d →
    (∀ j, 0 < j → j < i → rd l (j - 1) < rd l j) → ∃ b, Ev (fun k => impl_isIncreasing.l0 k l l.length i) b ∧ (b = true ↔ ∀ j, 0 < j → j < (l.length : Int) → rd l (j - 1) < rd l j) := by
  induction d with
  | zero =>
    intro i h0 h1 hd hp
    refine ⟨true, Ev_succ ?_, ?_⟩
    · simp only [impl_isIncreasing.l0, if_neg (show ¬ i < (l.length : Int) by omega)]; exact Ev.now _
    · simp only [true_iff]; exact fun j j0 j1 => hp j j0 (by omega)
  | succ d ih =>
    intro i h0 h1 hd hp
    have hlt : i < (l.length : Int) := by omega
    by_cases hi0 : i > 0
    · by_cases hr : rd l i ≤ rd l (i - 1)
      · refine ⟨false, Ev_succ ?_, ?_⟩
        · simp (disch := omega) only [impl_isIncreasing.l0, w64]
          simp only [if_pos hlt, if_pos hi0, if_pos h0, if_pos (show 0 ≤ i - 1 by omega), if_pos (show i - 1 < (l.length : Int) by omega), if_pos hr]
          exact Ev.now _
        · simp only [Bool.false_eq_true, false_iff]; exact fun g => by have := g i hi0 hlt; omega
      · obtain ⟨b, h, hbi⟩ := ih (i + 1) (by omega) (by omega) (by omega) (fun j j0 j1 => by
          by_cases e : j = i
          · rw [e]; omega
          · exact hp j j0 (by omega))
        refine ⟨b, Ev_succ ?_, hbi⟩
        simp (disch := omega) only [impl_isIncreasing.l0, w64]
        simp only [if_pos hlt, if_pos hi0, if_pos h0, if_pos (show 0 ≤ i - 1 by omega), if_pos (show i - 1 < (l.length : Int) by omega), if_neg hr]
        exact h
    · obtain ⟨b, h, hbi⟩ := ih (i + 1) (by omega) (by omega) (by omega) (fun j j0 j1 => by
        by_cases e : j = i
        · omega
        · exact hp j j0 (by omega))
      refine ⟨b, Ev_succ ?_, hbi⟩
      simp (disch := omega) only [impl_isIncreasing.l0, w64]
      simp only [if_pos hlt, if_neg hi0]
      exact h
theorem isInc_ev (l : List Int) (hl : (l.length : Int) ≤ 4611686018427387904) : ∃ b, Ev (fun k => impl_isIncreasing.f k l) b ∧ (b = true ↔ ∀ j, 0 < j → j < (l.length : Int) → rd l (j - 1) < rd l j) :=
  isInc_loop l hl l.length 0 (by omega) (by omega) (by omega) (fun j _ _ => by omega)

theorem edges_in (s : ByteArray) (hs : (s.size : Int) ≤ 1048576) (d : Nat) : ∀ (l : List Int) (i : Int), 0 ≤ i → i ≤ s.size → (s.size : Int) - i = d → (l.length : Int) ≤ i → (∀ x ∈ l, 0 ≤ x ∧ x < (s.size : Int)) →
    ∃ r, (r.length : Int) ≤ s.size ∧ (∀ x ∈ r, 0 ≤ x ∧ x < (s.size : Int)) ∧ Ev (fun k => spec_l07Edges.l0 k s l i) r ∧ Ev (fun k => impl_edges.l0 k s l s.size i) r := by
  induction d with
  | zero =>
    intro l i h0 h1 hd hl hx
    refine ⟨l, by omega, hx, Ev_succ ?_, Ev_succ ?_⟩
    · simp only [spec_l07Edges.l0, if_neg (show ¬ i < (s.size : Int) by omega)]; exact Ev.now _
    · simp only [impl_edges.l0, if_neg (show ¬ i < (s.size : Int) by omega)]; exact Ev.now _
  | succ d ih =>
    intro l i h0 h1 hd hl hx
    have hlt : i < (s.size : Int) := by omega
    have hroom : l.length < 17592186044416 := by omega
    have hx2 : ∀ x ∈ l ++ [i], 0 ≤ x ∧ x < (s.size : Int) := by
      intro x h
      rcases List.mem_append.1 h with h | h
      · exact hx x h
      · rw [List.mem_singleton.1 h]; exact ⟨h0, hlt⟩
    by_cases z : i = 0
    · obtain ⟨r, hr, hrx, hA, hB⟩ := ih (l ++ [i]) (i + 1) (by omega) (by omega) (by omega) (by simp; omega) hx2
      refine ⟨r, hr, hrx, Ev_succ ?_, Ev_succ ?_⟩
      · simp (disch := omega) only [spec_l07Edges.l0, w64]
        simp only [if_pos hlt, if_pos z, if_pos hroom]; exact hA
      · simp (disch := omega) only [impl_edges.l0, w64]
        simp only [if_pos hlt, if_pos z, if_pos hroom]; exact hB
    · by_cases e : bt s i = bt s (i - 1)
      · obtain ⟨r, hr, hrx, hA, hB⟩ := ih l (i + 1) (by omega) (by omega) (by omega) (by omega) hx
        refine ⟨r, hr, hrx, Ev_succ ?_, Ev_succ ?_⟩
        · simp (disch := omega) only [spec_l07Edges.l0, w64]
          simp only [if_pos hlt, if_neg z, if_pos h0, if_pos (show 0 ≤ i - 1 by omega), if_pos (show i - 1 < (s.size : Int) by omega), if_pos e]; exact hA
        · simp (disch := omega) only [impl_edges.l0, w64]
          simp only [if_pos hlt, if_neg z, if_pos h0, if_pos (show 0 ≤ i - 1 by omega), if_pos (show i - 1 < (s.size : Int) by omega), if_pos e]; exact hB
      · obtain ⟨r, hr, hrx, hA, hB⟩ := ih (l ++ [i]) (i + 1) (by omega) (by omega) (by omega) (by simp; omega) hx2
        refine ⟨r, hr, hrx, Ev_succ ?_, Ev_succ ?_⟩
        · simp (disch := omega) only [spec_l07Edges.l0, w64]
          simp only [if_pos hlt, if_neg z, if_pos h0, if_pos (show 0 ≤ i - 1 by omega), if_pos (show i - 1 < (s.size : Int) by omega), if_neg e, if_pos hroom]; exact hA
        · simp (disch := omega) only [impl_edges.l0, w64]
          simp only [if_pos hlt, if_neg z, if_pos h0, if_pos (show 0 ≤ i - 1 by omega), if_pos (show i - 1 < (s.size : Int) by omega), if_neg e, if_pos hroom]; exact hB
def Samp (D tk : Int) (m : Nat) : Prop := 2 * D ≤ (2 * (m : Int) + 1) * tk ∧ ∀ q : Nat, q < m → (2 * (q : Int) + 1) * tk < 2 * D
theorem odd_next (m : Nat) (tk : Int) : (2 * ((m + 1 : Nat) : Int) + 1) * tk = (2 * (m : Int) + 1) * tk + 2 * tk := by
  rw [show (2 * ((m + 1 : Nat) : Int) + 1) = (2 * (m : Int) + 1) + 2 by omega, Int.add_mul]
theorem odd_ge (m : Nat) (tk : Int) (h : 2 ≤ tk) : 4 * (m : Int) + 2 ≤ (2 * (m : Int) + 1) * tk := by
  have := Int.mul_le_mul_of_nonneg_left h (show 0 ≤ 2 * (m : Int) + 1 by omega)
  omega
theorem samp_ex (D tk : Int) (h : 2 ≤ tk) : ∃ m, Samp D tk m := by
  have key : ∀ d : Nat, (∃ m, Samp D tk m) ∨ ∀ q : Nat, q < d → (2 * (q : Int) + 1) * tk < 2 * D := by
    intro d
    induction d with
    | zero => exact .inr (fun q hq => absurd hq (by omega))
    | succ d ih =>
      rcases ih with h1 | h1
      · exact .inl h1
      · by_cases c : (2 * (d : Int) + 1) * tk < 2 * D
        · refine .inr (fun q hq => ?_)
          by_cases e : q = d
          · rw [e]; exact c
          · exact h1 q (by omega)
        · exact .inl ⟨d, by omega, h1⟩
  rcases key (D.toNat + 1) with h1 | h1
  · exact h1
  · have h2 := h1 D.toNat (by omega)
    have h3 := odd_ge D.toNat tk h
    omega
theorem samp_bound {D tk : Int} {m : Nat} (h : Samp D tk m) (ht : 2 ≤ tk ∧ tk ≤ 1000) (hD : D ≤ 202000) : m ≤ 202001 ∧ ∀ n : Nat, n ≤ m → 0 ≤ (2 * (n : Int) + 1) * tk ∧ (2 * (n : Int) + 1) * tk ≤ 500000 := by
  have hn : ∀ n : Nat, n ≤ m → 0 ≤ (2 * (n : Int) + 1) * tk ∧ (2 * (n : Int) + 1) * tk ≤ 500000 := by
    intro n hn
    have h1 := odd_ge n tk ht.1
    refine ⟨by omega, ?_⟩
    cases n with
    | zero => simp; omega
    | succ n =>
      have h2 := h.2 n (by omega)
      rw [odd_next]; omega
  refine ⟨?_, hn⟩
  have h1 := odd_ge m tk ht.1
  have h2 := (hn m (Nat.le_refl _)).2
  omega
def WB (a b : Int) : Prop := a = b ∧ -9223372036854775808 ≤ b ∧ b ≤ 9223372036854775807
theorem WB.eq {a b : Int} (h : WB a b) : wrap64 a = b := by rw [h.1, w64 h.2.1 h.2.2]
theorem spec_inner (s : ByteArray) (tk : Int) (E T : List Int) (ht : 2 ≤ tk ∧ tk ≤ 1000) (i : Nat) (hi : i < E.length) (hT : T.length = E.length + 1) (hE : 0 ≤ rd E i ∧ rd E i < (s.size : Int)) (hn : E.length ≤ 1000)
    (hb : ∀ j : Int, -101000 ≤ rd T j ∧ rd T j ≤ 101000) (m : Nat) (hm : Samp (rd T ((i + 1 : Nat) : Int) - rd T i) tk m) (r : ByteArray × Bool) (d : Nat) : ∀ (n : Nat) (out : List Int), n + d = m → out.length ≤ 1000000000 + n →
    Ev (fun k => spec_l07Receive.l1 k s tk E T (out ++ List.replicate d (bt s (rd E i))) ((i + 1 : Nat) : Int)) r → Ev (fun k => spec_l07Receive.l2 k s tk E T out i n) r := by
  have h0 := hb i
  have h1 := hb ((i + 1 : Nat) : Int)
  obtain ⟨hm1, hm2⟩ := samp_bound hm ht (by omega)
  generalize hD : rd T ((i + 1 : Nat) : Int) - rd T i = D at *
  have a1 : WB (((i : Int) + 1)) (((i + 1 : Nat) : Int)) := ⟨(by omega), (by omega), (by omega)⟩
  have a2 : (0 : Int) ≤ ((i + 1 : Nat) : Int) := by omega
  have a3 : ((i + 1 : Nat) : Int) < (T.length : Int) := by omega
  have a4 : (0 : Int) ≤ (i : Int) := by omega
  have a5 : (i : Int) < (T.length : Int) := by omega
  have a6 : (i : Int) < (E.length : Int) := by omega
  have a7 : WB ((2 * D)) (2 * D) := ⟨rfl, (by omega), (by omega)⟩
  have a8 : WB (D) (D) := ⟨rfl, (by omega), (by omega)⟩
  induction d with
  | zero =>
    intro n out hd hl h
    have hnm : n = m := by omega
    subst hnm
    obtain ⟨b1, b2⟩ := hm2 n (Nat.le_refl _)
    have c1 : WB ((2 * (n : Int))) (2 * (n : Int)) := ⟨rfl, (by omega), (by omega)⟩
    have c2 : WB ((2 * (n : Int) + 1)) (2 * (n : Int) + 1) := ⟨rfl, (by omega), (by omega)⟩
    have c3 : WB (((2 * (n : Int) + 1) * tk)) ((2 * (n : Int) + 1) * tk) := ⟨rfl, (by omega), (by omega)⟩
    have c4 : ¬ (2 * (n : Int) + 1) * tk < 2 * D := by have := hm.1; omega
    rw [List.replicate_zero, List.append_nil] at h
    refine Ev_succ ?_
    simp only [spec_l07Receive.l2, a1.eq, if_pos a2, if_pos a3, if_pos a4, if_pos a5, hD, a8.eq, a7.eq, c1.eq, c2.eq, c3.eq, if_neg c4]
    exact h
  | succ d ih =>
    intro n out hd hl h
    obtain ⟨b1, b2⟩ := hm2 n (by omega)
    have c1 : WB ((2 * (n : Int))) (2 * (n : Int)) := ⟨rfl, (by omega), (by omega)⟩
    have c2 : WB ((2 * (n : Int) + 1)) (2 * (n : Int) + 1) := ⟨rfl, (by omega), (by omega)⟩
    have c3 : WB (((2 * (n : Int) + 1) * tk)) ((2 * (n : Int) + 1) * tk) := ⟨rfl, (by omega), (by omega)⟩
    have c4 : (2 * (n : Int) + 1) * tk < 2 * D := hm.2 n (by omega)
    have c5 : WB (((n : Int) + 1)) (((n + 1 : Nat) : Int)) := ⟨(by omega), (by omega), (by omega)⟩
    have c6 : out.length < 140737488355328 := by omega
    refine Ev_succ ?_
    simp only [spec_l07Receive.l2, a1.eq, if_pos a2, if_pos a3, if_pos a4, if_pos a5, hD, a8.eq, a7.eq, c1.eq, c2.eq, c3.eq, if_pos c4, if_pos a6, if_pos hE.1, if_pos hE.2, if_pos c6, c5.eq]
    refine ih (n + 1) (out ++ [bt s (rd E i)]) (by omega) (by rw [List.length_append, List.length_singleton]; omega) ?_
    rw [List.append_assoc, List.singleton_append, ← List.replicate_succ]
    exact h
theorem impl_inner (s : ByteArray) (tk : Int) (E T : List Int) (ht : 2 ≤ tk ∧ tk ≤ 1000) (i : Nat)
    (hb : ∀ j : Int, -101000 ≤ rd T j ∧ rd T j ≤ 101000) (m : Nat) (hm : Samp (rd T ((i + 1 : Nat) : Int) - rd T i) tk m) (r : ByteArray × Bool) (d : Nat) : ∀ (n : Nat) (out : List UInt8), n + d = m → out.length ≤ 1000000000 + n →
    Ev (fun k => impl_ReceiveTail.l0 k s tk E T (i + 1) (out ++ List.replicate d (s.data.toList.getD (rd E i).toNat 0))) r → Ev (fun k => impl_ReceiveTail.l1 k s tk E T i (2 * rd T i + (2 * (n : Int) + 1) * tk) out) r := by
  have h0 := hb i
  have h1 := hb ((i + 1 : Nat) : Int)
  obtain ⟨hm1, hm2⟩ := samp_bound hm ht (by omega)
  have a7 : WB ((2 * rd T ((i + 1 : Nat) : Int))) (2 * rd T ((i + 1 : Nat) : Int)) := ⟨rfl, (by omega), (by omega)⟩
  have a8 : WB ((2 * tk)) (2 * tk) := ⟨rfl, (by omega), (by omega)⟩
  induction d with
  | zero =>
    intro n out hd hl h
    have hnm : n = m := by omega
    subst hnm
    have c4 : ¬ 2 * rd T i + (2 * (n : Int) + 1) * tk < 2 * rd T ((i + 1 : Nat) : Int) := by have := hm.1; omega
    rw [List.replicate_zero, List.append_nil] at h
    refine Ev_succ ?_
    simp only [impl_ReceiveTail.l1, a7.eq, if_neg c4]
    exact h
  | succ d ih =>
    intro n out hd hl h
    obtain ⟨b1, b2⟩ := hm2 n (by omega)
    have c4 : 2 * rd T i + (2 * (n : Int) + 1) * tk < 2 * rd T ((i + 1 : Nat) : Int) := by have := hm.2 n (by omega); omega
    have c6 : out.length < 35184372088832 := by omega
    have c7 : WB ((2 * rd T i + (2 * (n : Int) + 1) * tk + 2 * tk)) (2 * rd T i + (2 * ((n + 1 : Nat) : Int) + 1) * tk) := ⟨(by rw [odd_next]; omega), (by rw [odd_next]; omega), (by rw [odd_next]; omega)⟩
    refine Ev_succ ?_
    simp only [impl_ReceiveTail.l1, a7.eq, a8.eq, if_pos c4, if_pos c6, c7.eq]
    refine ih (n + 1) (out ++ [s.data.toList.getD (rd E i).toNat 0]) (by omega) (by rw [List.length_append, List.length_singleton]; omega) ?_
    rw [List.append_assoc, List.singleton_append, ← List.replicate_succ]
    exact h
def recvI (s : ByteArray) (E : List Int) (m : Nat → Nat) : Nat → Nat → List Int
  | _, 0 => []
  | i, d + 1 => List.replicate (m i) (bt s (rd E i)) ++ recvI s E m (i + 1) d
def recvB (s : ByteArray) (E : List Int) (m : Nat → Nat) : Nat → Nat → List UInt8
  | _, 0 => []
  | i, d + 1 => List.replicate (m i) (s.data.toList.getD (rd E i).toNat 0) ++ recvB s E m (i + 1) d
theorem impl_outer (s : ByteArray) (tk : Int) (E T : List Int) (ht : 2 ≤ tk ∧ tk ≤ 1000) (hT : T.length = E.length + 1) (hE : ∀ i : Nat, i < E.length → 0 ≤ rd E i ∧ rd E i < (s.size : Int)) (hn : E.length ≤ 1000)
    (hb : ∀ j : Int, -101000 ≤ rd T j ∧ rd T j ≤ 101000) (m : Nat → Nat) (hm : ∀ i : Nat, i < E.length → Samp (rd T ((i + 1 : Nat) : Int) - rd T i) tk (m i)) (d : Nat) : ∀ (i : Nat) (out : List UInt8), i + d = E.length → out.length ≤ i * 300000 →
    Ev (fun k => impl_ReceiveTail.l0 k s tk E T i out) (⟨(out ++ recvB s E m i d).toArray⟩, true) := by
  induction d with
  | zero =>
    intro i out hd hl
    refine Ev_succ ?_
    simp only [impl_ReceiveTail.l0, if_neg (show ¬ i < E.length by omega), recvB, List.append_nil]
    exact Ev.now _
  | succ d ih =>
    intro i out hd hl
    have hi : i < E.length := by omega
    have h0 := hb i
    have h1 := hb ((i + 1 : Nat) : Int)
    obtain ⟨hm1, hm2⟩ := samp_bound (hm i hi) ht (by omega)
    have h2 := ih (i + 1) (out ++ List.replicate (m i) (s.data.toList.getD (rd E i).toNat 0)) (by omega) (by rw [List.length_append, List.length_replicate]; omega)
    have a1 : WB ((2 * rd T i)) (2 * rd T i) := ⟨rfl, (by omega), (by omega)⟩
    have a2 : WB ((2 * rd T i + tk)) (2 * rd T i + (2 * ((0 : Nat) : Int) + 1) * tk) := ⟨(by simp), (by simp; omega), (by simp; omega)⟩
    refine Ev_succ ?_
    simp only [impl_ReceiveTail.l0, if_pos hi, if_pos (show i + 1 < T.length by omega), if_pos (hE i hi).1, if_pos (hE i hi).2, a1.eq, a2.eq]
    refine impl_inner s tk E T ht i hb (m i) (hm i hi) _ (m i) 0 out (by omega) (by omega) ?_
    rw [recvB, ← List.append_assoc]
    exact h2
theorem spec_outer (s : ByteArray) (tk : Int) (E T : List Int) (ht : 2 ≤ tk ∧ tk ≤ 1000) (hT : T.length = E.length + 1) (hE : ∀ i : Nat, i < E.length → 0 ≤ rd E i ∧ rd E i < (s.size : Int)) (hn : E.length ≤ 1000)
    (hb : ∀ j : Int, -101000 ≤ rd T j ∧ rd T j ≤ 101000) (m : Nat → Nat) (hm : ∀ i : Nat, Samp (rd T ((i + 1 : Nat) : Int) - rd T i) tk (m i)) (d : Nat) : ∀ (i : Nat) (out : List Int), i + d = E.length → out.length ≤ i * 300000 →
    ((∀ j : Nat, i ≤ j → j < E.length → rd T j < rd T ((j + 1 : Nat) : Int)) → Ev (fun k => spec_l07Receive.l1 k s tk E T out i) (strOfNums (out ++ recvI s E m i d), true)) ∧
    ((∃ j : Nat, i ≤ j ∧ j < E.length ∧ rd T ((j + 1 : Nat) : Int) ≤ rd T j) → Ev (fun k => spec_l07Receive.l1 k s tk E T out i) ((⟨#[]⟩ : ByteArray), false)) := by
  induction d with
  | zero =>
    intro i out hd hl
    refine ⟨fun _ => Ev_succ ?_, fun ⟨j, h1, h2, _⟩ => by omega⟩
    simp only [spec_l07Receive.l1, if_neg (show ¬ (i : Int) < (E.length : Int) by omega), recvI, List.append_nil]
    exact Ev.now _
  | succ d ih =>
    intro i out hd hl
    have hi : i < E.length := by omega
    have h0 := hb i
    have h1 := hb ((i + 1 : Nat) : Int)
    obtain ⟨hm1, hm2⟩ := samp_bound (hm i) ht (by omega)
    obtain ⟨h2, h3⟩ := ih (i + 1) (out ++ List.replicate (m i) (bt s (rd E i))) (by omega) (by rw [List.length_append, List.length_replicate]; omega)
    have a0 : (i : Int) < (E.length : Int) := by omega
    have a1 : WB (((i : Int) + 1)) (((i + 1 : Nat) : Int)) := ⟨(by omega), (by omega), (by omega)⟩
    have a2 : (0 : Int) ≤ ((i + 1 : Nat) : Int) := by omega
    have a3 : ((i + 1 : Nat) : Int) < (T.length : Int) := by omega
    have a4 : (0 : Int) ≤ (i : Int) := by omega
    have a5 : (i : Int) < (T.length : Int) := by omega
    have go : ∀ r, ¬ rd T ((i + 1 : Nat) : Int) ≤ rd T i → Ev (fun k => spec_l07Receive.l1 k s tk E T (out ++ List.replicate (m i) (bt s (rd E i))) ((i + 1 : Nat) : Int)) r → Ev (fun k => spec_l07Receive.l1 k s tk E T out i) r := by
      intro r hlt h
      refine Ev_succ ?_
      simp only [spec_l07Receive.l1, if_pos a0, a1.eq, if_pos a2, if_pos a3, if_pos a4, if_pos a5, if_neg hlt]
      exact spec_inner s tk E T ht i hi hT (hE i hi) hn hb (m i) (hm i) r (m i) 0 out (by omega) (by omega) h
    constructor
    · intro hinc
      refine go _ (by have := hinc i (Nat.le_refl _) hi; omega) ?_
      rw [recvI, ← List.append_assoc]
      exact h2 (fun j hj => hinc j (by omega))
    · rintro ⟨j, j0, j1, j2⟩
      by_cases c : rd T ((i + 1 : Nat) : Int) ≤ rd T i
      · refine Ev_succ ?_
        simp only [spec_l07Receive.l1, if_pos a0, a1.eq, if_pos a2, if_pos a3, if_pos a4, if_pos a5, if_pos c]
        exact Ev.now _
      · refine go _ c (h3 ⟨j, ?_, j1, j2⟩)
        by_cases e : j = i
        · subst e; exact absurd j2 c
        · omega
theorem recv_same (s : ByteArray) (E : List Int) (hE : ∀ i : Nat, i < E.length → 0 ≤ rd E i ∧ rd E i < (s.size : Int)) (m : Nat → Nat) (d : Nat) : ∀ i : Nat, i + d = E.length → strOfNums (recvI s E m i d) = ⟨(recvB s E m i d).toArray⟩ := by
  induction d with
  | zero => intro i _; rfl
  | succ d ih =>
    intro i hd
    obtain ⟨e0, e1⟩ := hE i (by omega)
    obtain ⟨n, hn⟩ : ∃ n : Nat, rd E i = n := ⟨(rd E i).toNat, by omega⟩
    have hns : n < s.size := by omega
    have hl : n < s.data.toList.length := by simpa using hns
    have h2 := ih (i + 1) (by omega)
    apply ba_ext
    have h3 := congrArg (fun b => b.data.toList) h2
    simp only at h3
    rw [recvI, recvB, sn_append]
    have e3 : (strOfNums (List.replicate (m i) (bt s (rd E i)))).data.toList = List.replicate (m i) (s.data.toList.getD (rd E i).toNat 0) := by
      rw [hn, bt_list s n hns, Int.toNat_natCast, List.getD_eq_getElem?_getD, List.getElem?_eq_getElem hl]
      simp [strOfNums]
    have e4 : (strOfNums (List.replicate (m i) (bt s (rd E i))) ++ strOfNums (recvI s E m (i + 1) d)).data.toList = (strOfNums (List.replicate (m i) (bt s (rd E i)))).data.toList ++ (strOfNums (recvI s E m (i + 1) d)).data.toList := by simp
    rw [e4, e3, h3]
def tms (E J : List Int) (send : Int) (i : Nat) : List Int := (List.range i).map (fun j : Nat => rd E j * send + rd J j)
theorem tms_length (E J : List Int) (send : Int) (i : Nat) : (tms E J send i).length = i := by simp [tms]
theorem tms_succ (E J : List Int) (send : Int) (i : Nat) : tms E J send (i + 1) = tms E J send i ++ [rd E i * send + rd J i] := by simp [tms, List.range_succ]
theorem tms_rd (E J : List Int) (send last : Int) (n : Nat) (j : Nat) (hj : j ≤ n) : rd (tms E J send n ++ [last]) j = if j = n then last else rd E j * send + rd J j := by
  unfold rd
  rw [Int.toNat_natCast, List.getD_eq_getElem?_getD]
  by_cases c : j = n
  · subst c
    rw [if_pos rfl, List.getElem?_append_right (by rw [tms_length]; exact Nat.le_refl _), tms_length]
    simp
  · rw [if_neg c, List.getElem?_append_left (by rw [tms_length]; omega)]
    have : j < n := by omega
    simp [tms, this, rd]
theorem tm_bound {e send x : Int} (he : 0 ≤ e ∧ e ≤ 100) (hs : 2 ≤ send ∧ send ≤ 1000) (hx : -1000 ≤ x ∧ x ≤ 1000) : (0 ≤ e * send ∧ e * send ≤ 100000) ∧ -101000 ≤ e * send + x ∧ e * send + x ≤ 101000 := by
  have h1 := mb he.1 he.2 (show 0 ≤ send by omega) hs.2
  omega
theorem tms_bound (E J : List Int) (send last : Int) (hs : 2 ≤ send ∧ send ≤ 1000) (hE : ∀ i : Nat, i < E.length → 0 ≤ rd E i ∧ rd E i ≤ 100) (hJ : ∀ j : Int, 0 ≤ j → j < (J.length : Int) → -1000 ≤ rd J j ∧ rd J j ≤ 1000) (hEJ : J.length = E.length) (hl : -101000 ≤ last ∧ last ≤ 101000) :
    ∀ j : Int, -101000 ≤ rd (tms E J send E.length ++ [last]) j ∧ rd (tms E J send E.length ++ [last]) j ≤ 101000 := by
  intro j
  by_cases c : j.toNat ≤ E.length
  · have e : rd (tms E J send E.length ++ [last]) j = rd (tms E J send E.length ++ [last]) (j.toNat : Nat) := by unfold rd; rw [Int.toNat_natCast]
    rw [e, tms_rd _ _ _ _ _ _ c]
    split
    · exact hl
    · exact (tm_bound (hE j.toNat (by omega)) hs (hJ (j.toNat : Nat) (by omega) (by omega))).2
  · unfold rd
    rw [List.getD_eq_getElem?_getD, List.getElem?_eq_none (by rw [List.length_append, tms_length, List.length_singleton]; omega)]
    exact ⟨by decide, by decide⟩
theorem spec_times (s : ByteArray) (send tk : Int) (E J : List Int) (last : Int) (hs : 2 ≤ send ∧ send ≤ 1000) (hE : ∀ i : Nat, i < E.length → 0 ≤ rd E i ∧ rd E i ≤ 100) (hn : E.length ≤ 1000) (hJ : ∀ j : Int, 0 ≤ j → j < (J.length : Int) → -1000 ≤ rd J j ∧ rd J j ≤ 1000) (hEJ : J.length = E.length) (r : ByteArray × Bool)
    (h : Ev (fun k => spec_l07Receive.l1 k s tk E (tms E J send E.length ++ [last]) [] 0) r) (d : Nat) : ∀ i : Nat, i + d = E.length → Ev (fun k => spec_l07Receive.l0 k s send tk J last E (tms E J send i) i) r := by
  induction d with
  | zero =>
    intro i hd
    have hi : i = E.length := by omega
    subst hi
    refine Ev_succ ?_
    simp only [spec_l07Receive.l0, if_neg (show ¬ ((E.length : Nat) : Int) < (E.length : Int) by omega), if_pos (show (tms E J send E.length).length < 17592186044416 by rw [tms_length]; omega)]
    exact h
  | succ d ih =>
    intro i hd
    have hb := tm_bound (hE i (by omega)) hs (hJ i (by omega) (by omega))
    have a1 : WB ((rd E i * send)) (rd E i * send) := ⟨rfl, (by omega), (by omega)⟩
    have a2 : WB ((rd E i * send + rd J i)) (rd E i * send + rd J i) := ⟨rfl, (by omega), (by omega)⟩
    have a3 : WB (((i : Int) + 1)) (((i + 1 : Nat) : Int)) := ⟨(by omega), (by omega), (by omega)⟩
    refine Ev_succ ?_
    simp only [spec_l07Receive.l0, if_pos (show (i : Int) < (E.length : Int) by omega), if_pos (show (0 : Int) ≤ i by omega), if_pos (show (i : Int) < (J.length : Int) by omega), if_pos (show (tms E J send i).length < 17592186044416 by rw [tms_length]; omega), a1.eq, a2.eq, a3.eq, ← tms_succ]
    exact ih (i + 1) (by omega)
theorem impl_times (s : ByteArray) (send tk : Int) (E J : List Int) (hz : s.size ≤ 100) (hs : 2 ≤ send ∧ send ≤ 1000) (hE : ∀ i : Nat, i < E.length → 0 ≤ rd E i ∧ rd E i ≤ 100) (hn : E.length ≤ 1000) (hJ : ∀ j : Int, 0 ≤ j → j < (J.length : Int) → -1000 ≤ rd J j ∧ rd J j ≤ 1000) (hEJ : J.length = E.length) (r : ByteArray × Bool) (b : Bool)
    (hb : Ev (fun k => impl_isIncreasing.f k (tms E J send E.length ++ [(s.size : Int) * send])) b)
    (h : (b = true → Ev (fun k => impl_ReceiveTail.l0 k s tk E (tms E J send E.length ++ [(s.size : Int) * send]) 0 []) r) ∧ (b = false → r = ((⟨#[]⟩ : ByteArray), false))) (d : Nat) : ∀ i : Nat, i + d = E.length → Ev (fun k => impl_ReceiveBits.l0 k s send tk J E (tms E J send i) E E.length i) r := by
  induction d with
  | zero =>
    intro i hd
    have hi : i = E.length := by omega
    subst hi
    have hl := mb (show (0 : Int) ≤ s.size by omega) (show (s.size : Int) ≤ 100 by omega) (show 0 ≤ send by omega) hs.2
    have a1 : WB (((s.size : Int) * send)) ((s.size : Int) * send) := ⟨rfl, (by omega), (by omega)⟩
    refine Ev_succ ?_
    simp only [impl_ReceiveBits.l0, if_neg (show ¬ ((E.length : Nat) : Int) < (E.length : Int) by omega), if_pos (show (tms E J send E.length).length < 17592186044416 by rw [tms_length]; omega), a1.eq, Option.bind_some]
    refine Ev.bind hb ?_
    cases b with
    | true =>
      simp only [if_true]
      exact Ev.bind (h.1 rfl) (Ev.now _)
    | false =>
      simp only [Bool.false_eq_true, if_false]
      rw [h.2 rfl]; exact Ev.now _
  | succ d ih =>
    intro i hd
    have hb := tm_bound (hE i (by omega)) hs (hJ i (by omega) (by omega))
    have a1 : WB ((rd E i * send)) (rd E i * send) := ⟨rfl, (by omega), (by omega)⟩
    have a2 : WB ((rd E i * send + rd J i)) (rd E i * send + rd J i) := ⟨rfl, (by omega), (by omega)⟩
    have a3 : WB (((i : Int) + 1)) (((i + 1 : Nat) : Int)) := ⟨(by omega), (by omega), (by omega)⟩
    refine Ev_succ ?_
    simp only [impl_ReceiveBits.l0, if_pos (show (i : Int) < (E.length : Int) by omega), if_pos (show (0 : Int) ≤ i by omega), if_pos (show (i : Int) < (J.length : Int) by omega), if_pos (show (tms E J send i).length < 17592186044416 by rw [tms_length]; omega), a1.eq, a2.eq, a3.eq, ← tms_succ]
    exact ih (i + 1) (by omega)

theorem eqInt64S_loop (l : List Int) (hl : (l.length : Int) ≤ 4611686018427387904) (d : Nat) : ∀ i : Int, 0 ≤ i → i ≤ l.length → (l.length : Int) - i = d → Ev (fun k => laws_eqInt64S.l0 k l l i) true := by
  induction d with
  | zero =>
    intro i h0 h1 hd
    refine Ev_succ ?_
    simp only [laws_eqInt64S.l0, if_neg (show ¬ i < (l.length : Int) by omega)]
    exact Ev.now _
  | succ d ih =>
    intro i h0 h1 hd
    refine Ev_succ ?_
    simp (disch := omega) only [laws_eqInt64S.l0, w64]
    simp only [if_pos (show i < (l.length : Int) by omega), if_pos h0, if_true]
    exact ih (i + 1) (by omega) (by omega) (by omega)
theorem eqInt64S_self (l : List Int) (hl : (l.length : Int) ≤ 4611686018427387904) : Ev (fun k => laws_eqInt64S.f k l l) true := by
  simp only [laws_eqInt64S.f, if_true]
  exact eqInt64S_loop l hl l.length 0 (by omega) (by omega) (by omega)

theorem rd_set (l : List Int) (i j v : Int) (hi : 0 ≤ i) (hil : i < l.length) (hj : 0 ≤ j) : rd (l.set i.toNat v) j = if j = i then v else rd l j := by
  unfold rd
  by_cases e : j = i
  · subst e; rw [if_pos rfl, List.getD_eq_getElem?_getD, List.getElem?_set_self (by omega)]; rfl
  · rw [if_neg e, List.getD_eq_getElem?_getD, List.getElem?_set_ne (by omega), List.getD_eq_getElem?_getD]

theorem ext_rd (a b : List Int) (h : a.length = b.length) (hp : ∀ j : Int, 0 ≤ j → j < a.length → rd a j = rd b j) : a = b := by
  apply List.ext_getElem h
  intro n h1 h2
  have := hp n (by omega) (by omega)
  unfold rd at this
  rw [List.getD_eq_getElem?_getD, List.getD_eq_getElem?_getD, Int.toNat_natCast, List.getElem?_eq_getElem h1, List.getElem?_eq_getElem h2] at this
  simpa using this
theorem toInt64S_loop (l : List Int) (hl : (l.length : Int) ≤ 4611686018427387904) (d : Nat) : ∀ (m : List Int) (i : Int), m.length = l.length → 0 ≤ i → i ≤ l.length → (l.length : Int) - i = d → (∀ j, 0 ≤ j → j < i → rd m j = rd l j) →
    Ev (fun k => laws_toInt64S.l0 k l m i) l := by
  induction d with
  | zero =>
    intro m i hm h0 h1 hd hp
    refine Ev_succ ?_
    simp only [laws_toInt64S.l0, if_neg (show ¬ i < (l.length : Int) by omega)]
    rw [ext_rd m l hm (fun j j0 j1 => hp j j0 (by omega))]
    exact Ev.now _
  | succ d ih =>
    intro m i hm h0 h1 hd hp
    refine Ev_succ ?_
    simp (disch := omega) only [laws_toInt64S.l0, w64]
    simp only [if_pos (show i < (l.length : Int) by omega), if_pos h0, if_pos (show i < (m.length : Int) by omega)]
    refine ih (m.set i.toNat (rd l i)) (i + 1) (by rw [List.length_set]; exact hm) (by omega) (by omega) (by omega) (fun j j0 j1 => ?_)
    rw [rd_set m i j _ h0 (by omega) j0]
    by_cases e : j = i
    · rw [if_pos e, e]
    · rw [if_neg e]; exact hp j j0 (by omega)
theorem toInt64S_ev (l : List Int) (hl : (l.length : Int) ≤ 1048576) : Ev (fun k => laws_toInt64S.f k l) l := by
  simp only [laws_toInt64S.f, if_pos (show 0 ≤ (l.length : Int) by omega), if_pos (show ((l.length : Int)).toNat ≤ 35184372088832 by omega)]
  exact toInt64S_loop l (by omega) l.length _ 0 (by simp) (by omega) (by omega) (by omega) (fun j _ _ => by omega)

def noR : ByteArray × Bool := ((⟨#[]⟩ : ByteArray), false)
theorem spec_check (s : ByteArray) (send tk : Int) (J : List Int) (hl : (J.length : Int) ≤ 1048576) (r : ByteArray × Bool) (z : Int) (hz : WB ((s.size : Int) * send) z) (h : Ev (fun k => spec_l07Receive.f k s send tk J z) r) (d : Nat) : ∀ i : Nat, i + d = J.length →
    ((∀ j : Nat, i ≤ j → j < J.length → -1000 ≤ rd J j ∧ rd J j ≤ 1000) → (i = 0 → 0 < J.length → rd J 0 = 0) → Ev (fun k => spec_ReceiveBits.l0 k s send tk J i) r) ∧
    (((∃ j : Nat, i ≤ j ∧ j < J.length ∧ ¬ (-1000 ≤ rd J j ∧ rd J j ≤ 1000)) ∨ (i = 0 ∧ 0 < J.length ∧ rd J 0 ≠ 0)) → Ev (fun k => spec_ReceiveBits.l0 k s send tk J i) noR) := by
  induction d with
  | zero =>
    intro i hd
    refine ⟨fun _ _ => Ev_succ ?_, fun h => ?_⟩
    · simp only [spec_ReceiveBits.l0, if_neg (show ¬ (i : Int) < (J.length : Int) by omega), hz.eq]
      exact Ev.bind h (Ev.now _)
    · rcases h with ⟨j, h1, h2, _⟩ | ⟨h1, h2, _⟩ <;> omega
  | succ d ih =>
    intro i hd
    obtain ⟨h1, h2⟩ := ih (i + 1) (by omega)
    have a1 : WB ((i : Int) + 1) ((i + 1 : Nat) : Int) := ⟨by omega, by omega, by omega⟩
    have a2 : (i : Int) < (J.length : Int) := by omega
    have a3 : (0 : Int) ≤ (i : Int) := by omega
    have step : ∀ q, (-1000 ≤ rd J i ∧ rd J i ≤ 1000) → (i = 0 → rd J 0 = 0) → Ev (fun k => spec_ReceiveBits.l0 k s send tk J ((i + 1 : Nat) : Int)) q → Ev (fun k => spec_ReceiveBits.l0 k s send tk J i) q := by
      intro q c1 c2 hq
      refine Ev_succ ?_
      simp only [spec_ReceiveBits.l0, if_pos a2, if_pos a3, l00In_eq, Option.bind_some, decide_eq_true c1, if_true, a1.eq]
      by_cases z0 : (i : Int) = 0
      · have e0 : rd J i = 0 := by rw [z0]; exact c2 (by omega)
        simp only [if_pos z0, if_pos e0]; exact hq
      · simp only [if_neg z0]; exact hq
    constructor
    · intro hr h0
      refine step r (hr i (Nat.le_refl _) (by omega)) (fun e => h0 e (by omega)) (h1 (fun j hj => hr j (by omega)) (fun e => by omega))
    · intro hbad
      by_cases c1 : -1000 ≤ rd J i ∧ rd J i ≤ 1000
      · by_cases c2 : i = 0 → rd J 0 = 0
        · refine step noR c1 c2 (h2 (.inl ?_))
          rcases hbad with ⟨j, j0, j1, j2⟩ | ⟨e1, e2, e3⟩
          · refine ⟨j, ?_, j1, j2⟩
            by_cases e : j = i
            · rw [e] at j2; exact absurd c1 j2
            · omega
          · exact absurd (c2 e1) e3
        · have hi0 : i = 0 := by
            by_cases e : i = 0
            · exact e
            · exact absurd (fun z => absurd z e) c2
          have z0 : (i : Int) = 0 := by omega
          have e0 : ¬ rd J i = 0 := by rw [z0]; intro e; exact c2 (fun _ => e)
          refine Ev_succ ?_
          simp only [spec_ReceiveBits.l0, if_pos a2, if_pos a3, l00In_eq, Option.bind_some, decide_eq_true c1, if_true, if_pos z0, if_neg e0]
          exact Ev.now _
      · refine Ev_succ ?_
        simp only [spec_ReceiveBits.l0, if_pos a2, if_pos a3, l00In_eq, Option.bind_some, decide_eq_false c1, Bool.false_eq_true, if_false]
        exact Ev.now _
theorem receive_both (s : ByteArray) (hs : (s.size : Int) ≤ 1048576) (send tk : Int) (J : List Int) (hJl : (J.length : Int) ≤ 1048576) : ∃ r, Ev (fun k => spec_ReceiveBits.f k s send tk J) r ∧ Ev (fun k => impl_ReceiveBits.f k s send tk J) r := by
  obtain ⟨b, hb, hbi⟩ := l01Bits_ev s (by omega)
  obtain ⟨c, hc, hci⟩ := areBits_ev s (by omega)
  have sno : Ev (fun k => spec_ReceiveBits.j0 k s send tk J true) noR := by
    refine Ev_succ ?_; simp only [spec_ReceiveBits.j0, if_true]; exact Ev.now _
  have ino : Ev (fun k => impl_ReceiveBits.j0 k s send tk J true) noR := by
    refine Ev_succ ?_; simp only [impl_ReceiveBits.j0, if_true]; exact Ev.now _
  by_cases g1 : (s.size : Int) > 100
  · refine ⟨noR, ?_, ?_⟩
    · refine Ev.bind hb ?_
      cases b with
      | false => simp only [Bool.false_eq_true, if_false]; exact sno
      | true => simp only [if_true, if_pos g1]; exact sno
    · simp only [impl_ReceiveBits.f, if_pos g1]; exact ino
  have hbc : b = c := by
    rw [Bool.eq_iff_iff, hbi, hci]
    exact ⟨fun h => h.1, fun h => ⟨h, by omega⟩⟩
  subst hbc
  cases b with
  | false =>
    refine ⟨noR, Ev.bind hb ?_, ?_⟩
    · simp only [Bool.false_eq_true, if_false]; exact sno
    · simp only [impl_ReceiveBits.f, if_neg g1, hc, Option.bind_some, Bool.false_eq_true, if_false]; exact ino
  | true =>
    by_cases g3 : ¬ (2 ≤ send ∧ send ≤ 1000)
    · refine ⟨noR, Ev.bind hb ?_, ?_⟩
      · simp only [if_true, if_neg g1, ticks_eq, decide_eq_false g3, Option.bind_some, Bool.false_eq_true, if_false]; exact sno
      · have g : ¬ ((2 ≤ send ∧ send ≤ 1000) ∧ (2 ≤ tk ∧ tk ≤ 1000)) := fun h => g3 h.1
        simp only [impl_ReceiveBits.f, if_neg g1, hc, Option.bind_some, if_true, areTicks_eq, decide_eq_false g, Bool.false_eq_true, if_false]; exact ino
    have g3 := Classical.not_not.1 g3
    by_cases g4 : ¬ (2 ≤ tk ∧ tk ≤ 1000)
    · refine ⟨noR, Ev.bind hb ?_, ?_⟩
      · simp only [if_true, if_neg g1, ticks_eq, decide_eq_true g3, decide_eq_false g4, Option.bind_some, Bool.false_eq_true, if_false]; exact sno
      · have g : ¬ ((2 ≤ send ∧ send ≤ 1000) ∧ (2 ≤ tk ∧ tk ≤ 1000)) := fun h => g4 h.2
        simp only [impl_ReceiveBits.f, if_neg g1, hc, Option.bind_some, if_true, areTicks_eq, decide_eq_false g, Bool.false_eq_true, if_false]; exact ino
    have g4 := Classical.not_not.1 g4
    have g34 : (2 ≤ send ∧ send ≤ 1000) ∧ (2 ≤ tk ∧ tk ≤ 1000) := ⟨g3, g4⟩
    obtain ⟨E, hEl, hEx, hEs, hEi⟩ := edges_in s hs s.size [] 0 (by omega) (by omega) (by omega) (by simp) (by intro x hx; cases hx)
    obtain ⟨q, hq, hqi⟩ := areIn_ev J (-1000) 1000 (by omega)
    have hsp : ∀ r, Ev (fun k => spec_ReceiveBits.j0 k s send tk J ((J.length : Int) != (E.length : Int))) r → Ev (fun k => spec_ReceiveBits.f k s send tk J) r := by
      intro r h
      refine Ev.bind hb ?_
      simp only [if_true, if_neg g1, ticks_eq, decide_eq_true g3, decide_eq_true g4, Option.bind_some]
      exact Ev.bind hEs h
    have him : ∀ r, Ev (fun k => impl_ReceiveBits.j0 k s send tk J (!q)) r → Ev (fun k => impl_ReceiveBits.f k s send tk J) r := by
      intro r h
      simp only [impl_ReceiveBits.f, if_neg g1, hc, Option.bind_some, if_true, areTicks_eq, decide_eq_true g34]
      exact Ev.bind hq h
    have ino1 : Ev (fun k => impl_ReceiveBits.j1 k s send tk J E true) noR := by
      refine Ev_succ ?_; simp only [impl_ReceiveBits.j1, if_true]; exact Ev.now _
    by_cases g5 : ¬ (J.length = E.length)
    · have g5' : ((J.length : Int) != (E.length : Int)) = true := by rw [bne_iff_ne]; omega
      have g5e : ¬ (E.length : Int) = (J.length : Int) := by omega
      refine ⟨noR, hsp _ (by rw [g5']; exact sno), him _ ?_⟩
      cases q with
      | false => exact ino
      | true =>
        refine Ev_succ ?_
        simp only [impl_ReceiveBits.j0, Bool.not_true, Bool.false_eq_true, if_false]
        refine Ev.bind hEi ?_
        simp only [if_neg g5e]; exact ino1
    have g5 := Classical.not_not.1 g5
    have g5' : ((J.length : Int) != (E.length : Int)) = false := by rw [bne_eq_false_iff_eq]; omega
    have g5e : (E.length : Int) = (J.length : Int) := by omega
    have sj0 : ∀ r, Ev (fun k => spec_ReceiveBits.l0 k s send tk J 0) r → Ev (fun k => spec_ReceiveBits.f k s send tk J) r := by
      intro r h
      refine hsp r ?_
      rw [g5']
      refine Ev_succ ?_
      simp only [spec_ReceiveBits.j0, Bool.false_eq_true, if_false]
      exact h
    have hsend := mb (show (0 : Int) ≤ s.size by omega) (show (s.size : Int) ≤ 100 by omega) (show 0 ≤ send by omega) g3.2
    have hz : WB ((s.size : Int) * send) ((s.size : Int) * send) := ⟨rfl, by omega, by omega⟩
    cases q with
    | false =>
      refine ⟨noR, sj0 _ ?_, him _ ino⟩
      have hbad : ∃ j : Nat, 0 ≤ j ∧ j < J.length ∧ ¬ (-1000 ≤ rd J j ∧ rd J j ≤ 1000) := by
        apply Classical.byContradiction
        intro hno
        have : (false = true) := hqi.2 (fun j h0 h1 => by
          apply Classical.byContradiction
          intro hn
          exact hno ⟨j.toNat, by omega, by omega, by rw [Int.toNat_of_nonneg h0]; exact hn⟩)
        cases this
      have hgo : ∃ r, Ev (fun k => spec_l07Receive.f k s send tk J ((s.size : Int) * send)) r ∨ True := ⟨noR, .inr trivial⟩
      clear hgo
      have key : ∀ d i : Nat, i + d = J.length → (∃ j : Nat, i ≤ j ∧ j < J.length ∧ ¬ (-1000 ≤ rd J j ∧ rd J j ≤ 1000)) → Ev (fun k => spec_ReceiveBits.l0 k s send tk J i) noR := by
        intro d
        induction d with
        | zero => rintro i hd ⟨j, h1, h2, _⟩; omega
        | succ d ih =>
          rintro i hd ⟨j, j0, j1, j2⟩
          have a1 : WB ((i : Int) + 1) ((i + 1 : Nat) : Int) := ⟨by omega, by omega, by omega⟩
          have a2 : (i : Int) < (J.length : Int) := by omega
          have a3 : (0 : Int) ≤ (i : Int) := by omega
          refine Ev_succ ?_
          by_cases c1 : -1000 ≤ rd J i ∧ rd J i ≤ 1000
          · have h2 := ih (i + 1) (by omega) ⟨j, (by
              by_cases e : j = i
              · rw [e] at j2; exact absurd c1 j2
              · omega), j1, j2⟩
            simp only [spec_ReceiveBits.l0, if_pos a2, if_pos a3, l00In_eq, Option.bind_some, decide_eq_true c1, if_true, a1.eq]
            by_cases z0 : (i : Int) = 0
            · simp only [if_pos z0]
              by_cases e0 : rd J i = 0
              · simp only [if_pos e0]; exact h2
              · simp only [if_neg e0]; exact Ev.now _
            · simp only [if_neg z0]; exact h2
          · simp only [spec_ReceiveBits.l0, if_pos a2, if_pos a3, l00In_eq, Option.bind_some, decide_eq_false c1, Bool.false_eq_true, if_false]
            exact Ev.now _
      exact key J.length 0 (by omega) hbad
    | true =>
      have hJr := hqi.1 rfl
      have hJn : ∀ j : Nat, 0 ≤ j → j < J.length → -1000 ≤ rd J j ∧ rd J j ≤ 1000 := fun j _ hj => hJr j (by omega) (by omega)
      have hEb : ∀ i : Nat, i < E.length → 0 ≤ rd E i ∧ rd E i < (s.size : Int) := by
        intro i hi
        have e : rd E i = E[i] := by unfold rd; rw [Int.toNat_natCast, List.getD_eq_getElem?_getD, List.getElem?_eq_getElem hi]; rfl
        rw [e]; exact hEx _ (List.getElem_mem hi)
      have hEb2 : ∀ i : Nat, i < E.length → 0 ≤ rd E i ∧ rd E i ≤ 100 := fun i hi => by have := hEb i hi; omega
      have hEn : E.length ≤ 1000 := by omega
      obtain ⟨T, hT⟩ : ∃ T, T = tms E J send E.length ++ [(s.size : Int) * send] := ⟨_, rfl⟩
      have hTl : T.length = E.length + 1 := by rw [hT, List.length_append, tms_length, List.length_singleton]
      have hTb : ∀ j : Int, -101000 ≤ rd T j ∧ rd T j ≤ 101000 := by rw [hT]; exact tms_bound E J send _ g3 hEb2 hJr g5 (by omega)
      obtain ⟨inc, hinc, hinci⟩ := isInc_ev T (by omega)
      have hex : ∀ i : Nat, ∃ m, Samp (rd T ((i + 1 : Nat) : Int) - rd T i) tk m := fun i => samp_ex _ tk g4.1
      have hm : ∀ i : Nat, Samp (rd T ((i + 1 : Nat) : Int) - rd T i) tk ((fun i => Classical.choose (hex i)) i) := fun i => Classical.choose_spec (hex i)
      generalize (fun i => Classical.choose (hex i)) = m at hm
      obtain ⟨so1, so2⟩ := spec_outer s tk E T g4 hTl hEb hEn hTb m hm E.length 0 [] (by omega) (by simp)
      have io := impl_outer s tk E T g4 hTl hEb hEn hTb m (fun i _ => hm i) E.length 0 [] (by omega) (by simp)
      rw [List.nil_append] at so1 io
      have hincN : (∀ j : Nat, 0 ≤ j → j < E.length → rd T j < rd T ((j + 1 : Nat) : Int)) ↔ inc = true := by
        rw [hinci]
        constructor
        · intro h j h0 h1
          have := h (j - 1).toNat (by omega) (by omega)
          rw [show (((j - 1).toNat : Nat) : Int) = j - 1 by omega, show (((j - 1).toNat + 1 : Nat) : Int) = j by omega] at this
          exact this
        · intro h j _ hj
          have := h ((j + 1 : Nat) : Int) (by omega) (by omega)
          rw [show ((j + 1 : Nat) : Int) - 1 = (j : Int) by omega] at this
          exact this
      obtain ⟨r, hS, hI⟩ : ∃ r, Ev (fun k => spec_l07Receive.f k s send tk J ((s.size : Int) * send)) r ∧ Ev (fun k => impl_ReceiveBits.l0 k s send tk J E [] E E.length 0) r := by
        have times : ∀ r, Ev (fun k => spec_l07Receive.l1 k s tk E T [] 0) r → Ev (fun k => spec_l07Receive.f k s send tk J ((s.size : Int) * send)) r := by
          intro r h
          refine Ev.bind hEs ?_
          rw [hT] at h
          exact spec_times s send tk E J _ g3 hEb2 hEn hJr g5 r h E.length 0 (by omega)
        cases inc with
        | true =>
          refine ⟨(strOfNums (recvI s E m 0 E.length), true), times _ (so1 (hincN.2 rfl)), ?_⟩
          refine impl_times s send tk E J (by omega) g3 hEb2 hEn hJr g5 _ true (by rw [← hT]; exact hinc) ⟨fun _ => ?_, fun h => by cases h⟩ E.length 0 (by omega)
          rw [← hT, recv_same s E hEb m E.length 0 (by omega)]
          exact io
        | false =>
          refine ⟨noR, times _ (so2 ?_), ?_⟩
          · apply Classical.byContradiction
            intro hno
            have : (false = true) := hincN.1 (fun j h0 h1 => by
              apply Classical.byContradiction
              intro hn
              exact hno ⟨j, h0, h1, by omega⟩)
            cases this
          · exact impl_times s send tk E J (by omega) g3 hEb2 hEn hJr g5 _ false (by rw [← hT]; exact hinc) ⟨fun h => by (cases h), fun _ => rfl⟩ E.length 0 (by omega)
      obtain ⟨k1, k2⟩ := spec_check s send tk J hJl r _ hz hS J.length 0 (by omega)
      have ij0 : ∀ r c, Ev (fun k => impl_ReceiveBits.j1 k s send tk J E c) r → (c = if (J.length : Int) > 0 then rd J 0 != 0 else false) → Ev (fun k => impl_ReceiveBits.f k s send tk J) r := by
        intro r c h hcc
        refine him r (Ev_succ ?_)
        simp only [impl_ReceiveBits.j0, Bool.not_true, Bool.false_eq_true, if_false]
        refine Ev.bind hEi ?_
        simp only [if_pos g5e]
        by_cases z : (J.length : Int) > 0
        · rw [if_pos z] at hcc
          simp only [if_pos z, if_pos (show 0 < (J.length : Int) from z), ← hcc]; exact h
        · rw [if_neg z] at hcc
          simp only [if_neg z, ← hcc]; exact h
      by_cases g7 : 0 < J.length ∧ rd J 0 ≠ 0
      · refine ⟨noR, sj0 _ (k2 (.inr ⟨rfl, g7.1, g7.2⟩)), ij0 noR true ino1 ?_⟩
        rw [if_pos (show (J.length : Int) > 0 by omega)]
        exact (bne_iff_ne.2 g7.2).symm
      · refine ⟨r, sj0 _ (k1 hJn (fun _ h0 => ?_)), ij0 r false ?_ ?_⟩
        · apply Classical.byContradiction
          intro h
          exact g7 ⟨h0, h⟩
        · refine Ev_succ ?_
          simp only [impl_ReceiveBits.j1, Bool.false_eq_true, if_false]
          exact hI
        · by_cases z : (J.length : Int) > 0
          · rw [if_pos z]
            have : rd J 0 = 0 := by
              apply Classical.byContradiction
              intro h
              exact g7 ⟨by omega, h⟩
            exact (bne_eq_false_iff_eq.2 this).symm
          · rw [if_neg z]
theorem FnExactReceiveBits : laws_FnExactReceiveBits.Pure := by
  intro s send tk l3 _ _ _ _ hl _
  apply Ev.rounds
  simp only [laws_FnExactReceiveBits.f]
  by_cases hbig : (s.size : Int) > 1048576
  · simp only [if_pos hbig]; exact Ev.now _
  by_cases hbig2 : (l3.length : Int) > 1048576
  · simp only [if_neg hbig, if_pos hbig2]; exact Ev.now _
  simp only [if_neg hbig, if_neg hbig2]
  obtain ⟨r, hA, hB⟩ := receive_both s (by omega) send tk l3 (by omega)
  have ht := toInt64S_ev l3 (by omega)
  have he := eqInt64S_self l3 (by omega)
  refine Ev.bind ht (Ev.bind hA (Ev.bind ht (Ev.bind hB ?_)))
  simp only [if_true, bne_self_eq_false]
  refine Ev_succ ?_
  simp only [laws_FnExactReceiveBits.j0, Bool.false_eq_true, if_false]
  refine Ev.bind ht (Ev.bind he ?_)
  simp only [if_true]
  exact Ev.now _

end Go.Proofs.YtondkjcmibnbpaaDoor.Pure
