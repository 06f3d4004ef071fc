/- The law FnSampled of the given program holds: for every input that the row lets in the call returns true and leaves its arguments as they were. No condition ahead of it. -/
import Derived.Test.YtondkjcmibnbpaaDoorPFnSampledx5
import Derived.Test.YtondkjcmibnbpaaDoorMine
namespace Go.Proofs.YtondkjcmibnbpaaDoor.Pure
open Go.RowKit Go.Proofs.YtondkjcmibnbpaaDoor.PFnSampled Go.Proofs.YtondkjcmibnbpaaDoorW.PrintWords Go.Proofs.YtondkjcmibnbpaaDoorW.PrintLast Go.Proofs.YtondkjcmibnbpaaDoorW.PrintMore Go.Proofs.YtondkjcmibnbpaaDoor.Mine
set_option linter.unusedVariables false
set_option linter.unusedSimpArgs false
theorem l00In_eq (a b c : Int) : spec_l00In.f a b c = some (decide (b ≤ a ∧ a ≤ c)) := by
  unfold spec_l00In.f; by_cases h : a ≥ b
  · rw [if_pos h]; simp; intro _; exact h
  · rw [if_neg h]; simp; intro h'; omega
theorem within_eq (a b c : Int) : impl_within.f a b c = some (decide (b ≤ a ∧ a ≤ c)) := by
  unfold impl_within.f; by_cases h : a ≥ b
  · rw [if_pos h]; simp; intro _; exact h
  · rw [if_neg h]; simp; intro h'; omega

def AllBit (s : ByteArray) : Prop := ∀ i : Int, 0 ≤ i → i < s.size → bt s i = 48 ∨ bt s i = 49
def IsBitS (s : ByteArray) : Prop := AllBit s ∧ (s.size : Int) ≤ 400
theorem bt_list (s : ByteArray) (i : Nat) (h : i < s.size) : bt s i = ((s.data.toList[i]'(by simpa using h)).toNat : Int) := by
  unfold bt
  simp only [Int.toNat_natCast, h, dif_pos]
  rfl
theorem dropWhile_nil (p : UInt8 → Bool) : ∀ l : List UInt8, l.dropWhile p = [] ↔ ∀ b ∈ l, p b = true
  | [] => by simp
  | x :: l => by
    rw [List.dropWhile_cons]
    cases h : p x with
    | true => simp [h, dropWhile_nil p l]
    | false => simp [h]
theorem trim_empty (l : List UInt8) : (Lib.trimS l [48, 49]).isEmpty = true ↔ ∀ b ∈ l, b = 48 ∨ b = 49 := by
  have key : ∀ p : UInt8 → Bool, List.dropWhile p (List.dropWhile p l.reverse).reverse = [] ↔ ∀ b ∈ l, p b = true := by
    intro p
    rw [dropWhile_nil]
    constructor
    · intro h
      by_cases e : List.dropWhile p l.reverse = []
      · have := (dropWhile_nil p _).1 e
        exact fun b hb => this b (by simpa using hb)
      · have hh := List.head_dropWhile_not p e
        have h3 := h ((List.dropWhile p l.reverse).head e) (by simp)
        rw [hh] at h3
        cases h3
    · intro h b hb
      have : List.dropWhile p l.reverse = [] := (dropWhile_nil p _).2 (fun b hb => h b (by simpa using hb))
      rw [this] at hb
      simp at hb
  unfold Lib.trimS Lib.trimRightS Lib.trimLeftS
  rw [List.isEmpty_iff, key]
  simp
theorem areBits_ev (s : ByteArray) (hs : s.size ≤ 140737488351232) : ∃ b, impl_areBits.f s = some b ∧ (b = true ↔ AllBit s) := by
  refine ⟨(Lib.trimS s.data.toList [48, 49]).isEmpty, by unfold impl_areBits.f; rw [if_pos (by omega)], ?_⟩
  rw [trim_empty]
  constructor
  · intro h i h0 h1
    obtain ⟨n, rfl⟩ : ∃ n : Nat, i = n := ⟨i.toNat, by omega⟩
    rw [bt_list s n (by omega)]
    rcases h _ (List.getElem_mem (l := s.data.toList) (n := n) (by simp; omega)) with e | e <;> rw [e]
    · exact Or.inl rfl
    · exact Or.inr rfl
  · intro h b hb
    obtain ⟨n, hn, rfl⟩ := List.getElem_of_mem hb
    have hn' : n < s.size := by simpa using hn
    have := h n (by omega) (by omega)
    rw [bt_list s n hn'] at this
    rcases this with e | e
    · left; apply UInt8.toNat_inj.1; show s.data.toList[n].toNat = 48; omega
    · right; apply UInt8.toNat_inj.1; show s.data.toList[n].toNat = 49; omega
theorem isBits_ev (s : ByteArray) (hs : s.size ≤ 140737488351232) : ∃ b, impl_IsBits.f s = some b ∧ (b = true ↔ IsBitS s) := by
  obtain ⟨b, hb, hi⟩ := areBits_ev s hs
  simp only [impl_IsBits.f, hb, Option.bind_some, IsBitS]
  by_cases h : (s.size : Int) ≤ 400
  · exact ⟨b, by rw [if_pos h], by rw [hi]; exact ⟨fun g => ⟨g, h⟩, fun g => g.1⟩⟩
  · exact ⟨false, by rw [if_neg h], by simp only [Bool.false_eq_true, false_iff]; exact fun g => h g.2⟩

theorem ba_ext {a b : ByteArray} (h : a.data.toList = b.data.toList) : a = b := by apply ByteArray.ext; exact Array.toList_inj.1 h
theorem sn_append (a b : List Int) : strOfNums (a ++ b) = strOfNums a ++ strOfNums b := by apply ba_ext; simp [strOfNums]
theorem sn_size (a : List Int) : (strOfNums a).size = a.length := by simp [strOfNums, ByteArray.size]
theorem sn_nil : strOfNums [] = (⟨#[]⟩ : ByteArray) := rfl
theorem bt_range (s : ByteArray) (i : Int) (h0 : 0 ≤ i) (h1 : i < s.size) : 0 ≤ bt s i ∧ bt s i < 256 := by
  obtain ⟨n, rfl⟩ : ∃ n : Nat, i = n := ⟨i.toNat, by omega⟩
  rw [bt_list s n (by omega)]
  have := (s.data.toList[n]'(by simp; omega)).toNat_lt
  omega
theorem extract_one (s : ByteArray) (n : Nat) (h : n < s.size) : (s.extract n (n + 1)).data.toList = [s.data.toList[n]'(by simpa using h)] := by
  have h' : n < s.data.size := h
  simp only [ByteArray.data_extract, Array.toList_extract, List.extract_eq_take_drop]
  rw [show n + 1 - n = 1 by omega, List.drop_eq_getElem_cons (show n < s.data.toList.length by simpa using h')]
  simp
theorem sn_one (s : ByteArray) (i : Int) (h0 : 0 ≤ i) (h1 : i < s.size) : strOfNums [bt s i] = s.extract i.toNat (i + 1).toNat := by
  obtain ⟨n, rfl⟩ : ∃ n : Nat, i = n := ⟨i.toNat, by omega⟩
  apply ba_ext
  rw [show ((n : Int) + 1).toNat = n + 1 by omega, Int.toNat_natCast, extract_one s n (by omega), bt_list s n (by omega)]
  simp [strOfNums]

theorem and255 (x : Int) : 0 ≤ Go.bits .and .u64 x 255 ∧ Go.bits .and .u64 x 255 ≤ 255 := by
  have h : (BitVec.ofInt 64 x &&& BitVec.ofInt 64 255).toNat ≤ 255 := by
    rw [BitVec.toNat_and]; exact Nat.le_trans Nat.and_le_right (by decide)
  have e : Go.bits .and .u64 x 255 = IntKind.u64.wrap ((BitVec.ofInt 64 x &&& BitVec.ofInt 64 255).toNat : Int) := rfl
  rw [e]
  generalize (BitVec.ofInt 64 x &&& BitVec.ofInt 64 255).toNat = n at h
  have e2 : IntKind.u64.wrap (n : Int) = (n : Int) % 18446744073709551616 := rfl
  rw [e2]; omega
def U8L (l : List Int) : Prop := ∀ x ∈ l, (Lit.int .u8 x).wf = true
theorem u8_rd {l : List Int} (h : U8L l) (i : Int) : 0 ≤ rd l i ∧ rd l i ≤ 255 := by
  unfold rd
  rw [List.getD_eq_getElem?_getD]
  cases e : l[i.toNat]? with
  | none => exact ⟨by decide, by decide⟩
  | some v =>
    have := h v (List.mem_of_getElem? e)
    simp only [Lit.wf, IntKind.min, IntKind.max, IntKind.signed, IntKind.bits, Bool.and_eq_true, decide_eq_true_eq, Bool.false_eq_true, if_false] at this
    simp only [Option.getD_some]
    omega
theorem next_ev (l : List Int) (hu : U8L l) (hl : l.length ≤ 2000000) (a s : Int) (h0 : 0 ≤ a) (h1 : a ≤ 1000000000000) : ∃ v s', spec_l00Src_next.f l a s = some (v, a + 1, s') ∧ 0 ≤ v ∧ v ≤ 255 := by
  have ha := and255 ((IntKind.u64.wrap ((IntKind.u64.wrap ((IntKind.u64.wrap (s * 6364136223846793005)) + (IntKind.u64.wrap (wrap64 (rd l a))))) + 1442695040888963407)) / 1099511627776)
  have hb := and255 ((IntKind.u64.wrap ((IntKind.u64.wrap ((IntKind.u64.wrap (s * 6364136223846793005)) + 0)) + 1442695040888963407)) / 1099511627776)
  have hr := u8_rd hu a
  have e1 : wrap64 (a + 1) = a + 1 := w64 (by omega) (by omega)
  simp only [spec_l00Src_next.f]
  rw [e1]
  by_cases c : a < (l.length : Int)
  · rw [if_pos c, if_pos h0]
    by_cases c2 : a + 1 ≤ (l.length : Int)
    · rw [if_pos c2]; refine ⟨_, _, rfl, ?_⟩; rw [w64 (Int.le_trans (by decide) hr.1) (Int.le_trans hr.2 (by decide))]; exact hr
    · rw [if_neg c2]; refine ⟨_, _, rfl, ?_⟩; rw [w64 (Int.le_trans (by decide) ha.1) (Int.le_trans ha.2 (by decide))]; exact ha
  · rw [if_neg c]
    by_cases c2 : a + 1 ≤ (l.length : Int)
    · rw [if_pos c2]; exact ⟨_, _, rfl, by decide⟩
    · rw [if_neg c2]; refine ⟨_, _, rfl, ?_⟩; rw [w64 (Int.le_trans (by decide) hb.1) (Int.le_trans hb.2 (by decide))]; exact hb
theorem tmod_range (x n : Int) (h0 : 0 ≤ x) (hn : 1 ≤ n) : 0 ≤ Int.tmod x n ∧ Int.tmod x n < n := by
  rw [Int.tmod_eq_emod_of_nonneg h0]
  exact ⟨Int.emod_nonneg _ (by omega), Int.emod_lt_of_pos _ (by omega)⟩
theorem pick_ev (l : List Int) (hu : U8L l) (hl : l.length ≤ 2000000) (n a s : Int) (h0 : 0 ≤ a) (h1 : a ≤ 100000000000) :
    ∃ v a' s', spec_l00Src_pick.f l a s n = some (v, a', s') ∧ 0 ≤ v ∧ (1 ≤ n → v < n) ∧ a ≤ a' ∧ a' ≤ a + 2 := by
  simp only [spec_l00Src_pick.f]
  by_cases c : n ≤ 1
  · rw [if_pos c]; exact ⟨0, a, s, rfl, by omega, by omega, by omega, by omega⟩
  obtain ⟨v, s', e, hv⟩ := next_ev l hu hl a s h0 (by omega)
  obtain ⟨v2, s2, e2, hv2⟩ := next_ev l hu hl (a + 1) s' (by omega) (by omega)
  have hn0 : ¬ n = 0 := by omega
  have t1 := tmod_range v n hv.1 (by omega)
  have t2 := tmod_range (v * 256 + v2) n (by omega) (by omega)
  have b1 : -9223372036854775808 ≤ v * 256 ∧ v * 256 ≤ 9223372036854775807 := by omega
  have b2 : -9223372036854775808 ≤ v * 256 + v2 ∧ v * 256 + v2 ≤ 9223372036854775807 := by omega
  rw [if_neg c, e, Option.bind_some]
  by_cases c2 : n > 200
  · refine ⟨_, a + 1 + 1, s2, ?_, t2.1, fun _ => t2.2, by omega, by omega⟩
    simp only [if_pos c2]
    rw [e2, Option.bind_some, if_neg hn0, w64 b1.1 b1.2, w64 b2.1 b2.2]
  · refine ⟨_, a + 1, s', ?_, t1.1, fun _ => t1.2, by omega, by omega⟩
    rw [if_neg c2, if_neg hn0]
theorem one_ev (l : List Int) (hu : U8L l) (hl : l.length ≤ 2000000) (n a s : Int) (h0 : 0 ≤ a) (h1 : a ≤ 100000000000) :
    ∃ c a' s', spec_l00Src_one.f l a s n = some (c, a', s') ∧ a ≤ a' ∧ a' ≤ a + 2 := by
  obtain ⟨v, a', s', e, -, -, h2, h3⟩ := pick_ev l hu hl n a s h0 h1
  exact ⟨_, a', s', by rw [spec_l00Src_one.f, e, Option.bind_some], h2, h3⟩
def Bit48 (x : List Int) : Prop := ∀ v ∈ x, v = 48 ∨ v = 49
theorem bit48_sn {y : List Int} (h : Bit48 y) : AllBit (strOfNums y) ∧ (strOfNums y).size = y.length := by
  refine ⟨?_, sn_size y⟩
  intro i h0 h1
  rw [sn_size] at h1
  obtain ⟨n, rfl⟩ : ∃ n : Nat, i = n := ⟨i.toNat, by omega⟩
  have hn : n < y.length := by omega
  rw [bt_list _ n (by rw [sn_size]; exact hn)]
  have e : ((strOfNums y).data.toList[n]'(by have := sn_size y; simp only [ByteArray.size] at this; rw [Array.length_toList]; omega)) = UInt8.ofNat (y[n]).toNat := by simp [strOfNums]
  rw [e]
  rcases h _ (List.getElem_mem hn) with g | g <;> rw [g]
  · exact .inl rfl
  · exact .inr rfl

theorem ex_size (s : ByteArray) (a b : Nat) (hb : b ≤ s.size) : (s.extract a b).size = b - a := by
  simp only [ByteArray.size_extract]; omega
theorem ex_list (s : ByteArray) (a b : Nat) : (s.extract a b).data.toList = (s.data.toList.drop a).take (b - a) := by
  simp only [ByteArray.data_extract, Array.toList_extract, List.extract_eq_take_drop]
theorem ex_ex (s : ByteArray) (a b c d : Nat) (h : a + d ≤ b) : (s.extract a b).extract c d = s.extract (a + c) (a + d) := by
  apply ba_ext
  rw [ex_list, ex_list, ex_list, List.drop_take, List.drop_drop, List.take_take]
  congr 1
  omega
theorem dl_size (s : ByteArray) : s.data.toList.length = s.size := Array.length_toList
theorem ex_whole (s : ByteArray) : s.extract 0 s.size = s := by
  apply ba_ext; rw [ex_list, List.drop_zero]; exact List.take_of_length_le (by rw [dl_size]; omega)
theorem bt_extract (s : ByteArray) (a b : Nat) (hb : b ≤ s.size) (j : Int) (h0 : 0 ≤ j) (h1 : j < (b : Int) - a) : bt (s.extract a b) j = bt s (a + j) := by
  obtain ⟨n, rfl⟩ : ∃ n : Nat, j = n := ⟨j.toNat, by omega⟩
  have hz := ex_size s a b hb
  rw [bt_list _ n (by omega), show (a : Int) + n = ((a + n : Nat) : Int) by omega, bt_list _ _ (by omega)]
  congr 2
  simp only [ex_list]
  rw [List.getElem_take, List.getElem_drop]
theorem AllBit_extract (s : ByteArray) (h : AllBit s) (a b : Nat) (hb : b ≤ s.size) : AllBit (s.extract a b) := by
  intro j h0 h1
  have hz := ex_size s a b hb
  rw [bt_extract s a b hb j h0 (by omega)]
  exact h _ (by omega) (by omega)
theorem nil_size (s : ByteArray) : s.toList = ([] : List UInt8) ↔ s.size = 0 := by
  rw [Lib.toList_data]
  show _ ↔ s.data.size = 0
  rw [← Array.length_toList]
  exact List.length_eq_zero_iff.symm

theorem b10At_ev (l : List Int) (hu : U8L l) (i n : Int) (h0 : 0 ≤ i) (h1 : i ≤ 1000000) (hn : 1 ≤ n) : ∃ v, laws_b10At.f l i n = some v ∧ 0 ≤ v ∧ v < n := by
  have hr := u8_rd hu i
  have ht := tmod_range (rd l i) n hr.1 hn
  have ht2 := tmod_range (i * 37 + 11) n (by omega) hn
  have hn0 : ¬ n = 0 := by omega
  have b1 : -9223372036854775808 ≤ i * 37 ∧ i * 37 ≤ 9223372036854775807 := by omega
  have b2 : -9223372036854775808 ≤ i * 37 + 11 ∧ i * 37 + 11 ≤ 9223372036854775807 := by omega
  simp only [laws_b10At.f]
  by_cases c : n ≤ 1
  · rw [if_pos c]; exact ⟨0, rfl, by omega, by omega⟩
  rw [if_neg c]
  by_cases c1 : i < (l.length : Int)
  · rw [if_pos c1, if_pos h0, if_neg hn0, w64 (Int.le_trans (by decide) hr.1) (Int.le_trans hr.2 (by decide))]
    exact ⟨_, rfl, ht⟩
  · rw [if_neg c1, if_neg hn0, w64 b1.1 b1.2, w64 b2.1 b2.2]
    exact ⟨_, rfl, ht2⟩
theorem b10Long_big (l0 l1 : List Int) (g : (l0.length : Int) > 1048576 ∨ (l1.length : Int) > 1048576) : laws_b10Long.f l0 l1 = some true := by
  simp only [laws_b10Long.f]
  by_cases g0 : (l0.length : Int) > 1048576
  · rw [if_pos g0]
  · rw [if_neg g0]; rcases g with g | g
    · exact absurd g g0
    · rw [decide_eq_true g]
theorem b10Long_small (l0 l1 : List Int) (g : ¬ ((l0.length : Int) > 1048576 ∨ (l1.length : Int) > 1048576)) : laws_b10Long.f l0 l1 = some false := by
  simp only [laws_b10Long.f]
  rw [if_neg (fun z => g (.inl z)), decide_eq_false (fun z => g (.inr z))]

theorem ticks_eq (a : Int) : spec_l07Ticks.f a = some (decide (2 ≤ a ∧ a ≤ 1000)) := by
  simp only [spec_l07Ticks.f, l00In_eq, Option.bind_some]
theorem areTicks_eq (a b : Int) : impl_areTicks.f a b = some (decide ((2 ≤ a ∧ a ≤ 1000) ∧ (2 ≤ b ∧ b ≤ 1000))) := by
  simp only [impl_areTicks.f, within_eq, Option.bind_some]
  by_cases h0 : 2 ≤ a ∧ a ≤ 1000 <;> by_cases h1 : 2 ≤ b ∧ b ≤ 1000 <;> simp [h0, h1]

theorem areIn_loop (l : List Int) (lo hi : Int) (hl : (l.length : Int) ≤ 4611686018427387904) (d : Nat) : ∀ i : Int, 0 ≤ i → i ≤ l.length → (l.length : Int) - i = d →
    (∀ j, 0 ≤ j → j < i → lo ≤ rd l j ∧ rd l j ≤ hi) → ∃ b, Ev (fun k => impl_areIn.l0 k lo hi l l.length i) b ∧ (b = true ↔ ∀ j, 0 ≤ j → j < (l.length : Int) → lo ≤ rd l j ∧ rd l j ≤ hi) := by
  induction d with
  | zero =>
    intro i h0 h1 hd hp
    refine ⟨true, Ev_succ ?_, ?_⟩
    · simp only [impl_areIn.l0, if_neg (show ¬ i < (l.length : Int) by omega)]; exact Ev.now _
    · simp only [true_iff]; exact fun j j0 j1 => hp j j0 (by omega)
  | succ d ih =>
    intro i h0 h1 hd hp
    have hlt : i < (l.length : Int) := by omega
    by_cases hb : lo ≤ rd l i ∧ rd l i ≤ hi
    · obtain ⟨b, h, hbi⟩ := ih (i + 1) (by omega) (by omega) (by omega) (fun j j0 j1 => by
        by_cases e : j = i
        · rw [e]; exact hb
        · exact hp j j0 (by omega))
      refine ⟨b, Ev_succ ?_, hbi⟩
      simp (disch := omega) only [impl_areIn.l0, w64, within_eq, Option.bind_some]
      simp only [if_pos hlt, if_pos h0, hb, and_self, decide_true, if_true]
      exact h
    · refine ⟨false, Ev_succ ?_, ?_⟩
      · simp (disch := omega) only [impl_areIn.l0, w64, within_eq, Option.bind_some]
        simp only [if_pos hlt, if_pos h0, hb, decide_false, Bool.false_eq_true, if_false]
        exact Ev.now _
      · simp only [Bool.false_eq_true, false_iff]; exact fun g => hb (g i h0 hlt)
theorem areIn_ev (l : List Int) (lo hi : Int) (hl : (l.length : Int) ≤ 4611686018427387904) : ∃ b, Ev (fun k => impl_areIn.f k l lo hi) b ∧ (b = true ↔ ∀ j, 0 ≤ j → j < (l.length : Int) → lo ≤ rd l j ∧ rd l j ≤ hi) :=
  areIn_loop l lo hi hl l.length 0 (by omega) (by omega) (by omega) (fun j _ _ => by omega)

theorem isInc_loop (l : List Int) (hl : (l.length : Int) ≤ 4611686018427387904) (d : Nat) : ∀ i : Int, 0 ≤ i → i ≤ l.length → (l.length : Int) - i = d →
    (∀ j, 0 < j → j < i → rd l (j - 1) < rd l j) → ∃ b, Ev (fun k => impl_isIncreasing.l0 k l l.length i) b ∧ (b = true ↔ ∀ j, 0 < j → j < (l.length : Int) → rd l (j - 1) < rd l j) := by
  induction d with
  | zero =>
    intro i h0 h1 hd hp
    refine ⟨true, Ev_succ ?_, ?_⟩
    · simp only [impl_isIncreasing.l0, if_neg (show ¬ i < (l.length : Int) by omega)]; exact Ev.now _
    · simp only [true_iff]; exact fun j j0 j1 => hp j j0 (by omega)
  | succ d ih =>
    intro i h0 h1 hd hp
    have hlt : i < (l.length : Int) := by omega
    by_cases hi0 : i > 0
    · by_cases hr : rd l i ≤ rd l (i - 1)
      · refine ⟨false, Ev_succ ?_, ?_⟩
        · simp (disch := omega) only [impl_isIncreasing.l0, w64]
          simp only [if_pos hlt, if_pos hi0, if_pos h0, if_pos (show 0 ≤ i - 1 by omega), if_pos (show i - 1 < (l.length : Int) by omega), if_pos hr]
          exact Ev.now _
        · simp only [Bool.false_eq_true, false_iff]; exact fun g => by have := g i hi0 hlt; omega
      · obtain ⟨b, h, hbi⟩ := ih (i + 1) (by omega) (by omega) (by omega) (fun j j0 j1 => by
          by_cases e : j = i
          · rw [e]; omega
          · exact hp j j0 (by omega))
        refine ⟨b, Ev_succ ?_, hbi⟩
        simp (disch := omega) only [impl_isIncreasing.l0, w64]
        simp only [if_pos hlt, if_pos hi0, if_pos h0, if_pos (show 0 ≤ i - 1 by omega), if_pos (show i - 1 < (l.length : Int) by omega), if_neg hr]
        exact h
    · obtain ⟨b, h, hbi⟩ := ih (i + 1) (by omega) (by omega) (by omega) (fun j j0 j1 => by
        by_cases e : j = i
        · omega
        · exact hp j j0 (by omega))
      refine ⟨b, Ev_succ ?_, hbi⟩
      simp (disch := omega) only [impl_isIncreasing.l0, w64]
      simp only [if_pos hlt, if_neg hi0]
      exact h
theorem isInc_ev (l : List Int) (hl : (l.length : Int) ≤ 4611686018427387904) : ∃ b, Ev (fun k => impl_isIncreasing.f k l) b ∧ (b = true ↔ ∀ j, 0 < j → j < (l.length : Int) → rd l (j - 1) < rd l j) :=
  isInc_loop l hl l.length 0 (by omega) (by omega) (by omega) (fun j _ _ => by omega)

def Samp (D tk : Int) (m : Nat) : Prop := 2 * D ≤ (2 * (m : Int) + 1) * tk ∧ ∀ q : Nat, q < m → (2 * (q : Int) + 1) * tk < 2 * D
theorem odd_next (m : Nat) (tk : Int) : (2 * ((m + 1 : Nat) : Int) + 1) * tk = (2 * (m : Int) + 1) * tk + 2 * tk := by
  rw [show (2 * ((m + 1 : Nat) : Int) + 1) = (2 * (m : Int) + 1) + 2 by omega, Int.add_mul]
theorem odd_ge (m : Nat) (tk : Int) (h : 2 ≤ tk) : 4 * (m : Int) + 2 ≤ (2 * (m : Int) + 1) * tk := by
  have := Int.mul_le_mul_of_nonneg_left h (show 0 ≤ 2 * (m : Int) + 1 by omega)
  omega
theorem samp_ex (D tk : Int) (h : 2 ≤ tk) : ∃ m, Samp D tk m := by
  have key : ∀ d : Nat, (∃ m, Samp D tk m) ∨ ∀ q : Nat, q < d → (2 * (q : Int) + 1) * tk < 2 * D := by
    intro d
    induction d with
    | zero => exact .inr (fun q hq => absurd hq (by omega))
    | succ d ih =>
      rcases ih with h1 | h1
      · exact .inl h1
      · by_cases c : (2 * (d : Int) + 1) * tk < 2 * D
        · refine .inr (fun q hq => ?_)
          by_cases e : q = d
          · rw [e]; exact c
          · exact h1 q (by omega)
        · exact .inl ⟨d, by omega, h1⟩
  rcases key (D.toNat + 1) with h1 | h1
  · exact h1
  · have h2 := h1 D.toNat (by omega)
    have h3 := odd_ge D.toNat tk h
    omega
theorem samp_bound {D tk : Int} {m : Nat} (h : Samp D tk m) (ht : 2 ≤ tk ∧ tk ≤ 1000) (hD : D ≤ 202000) : m ≤ 202001 ∧ ∀ n : Nat, n ≤ m → 0 ≤ (2 * (n : Int) + 1) * tk ∧ (2 * (n : Int) + 1) * tk ≤ 500000 := by
  have hn : ∀ n : Nat, n ≤ m → 0 ≤ (2 * (n : Int) + 1) * tk ∧ (2 * (n : Int) + 1) * tk ≤ 500000 := by
    intro n hn
    have h1 := odd_ge n tk ht.1
    refine ⟨by omega, ?_⟩
    cases n with
    | zero => simp; omega
    | succ n =>
      have h2 := h.2 n (by omega)
      rw [odd_next]; omega
  refine ⟨?_, hn⟩
  have h1 := odd_ge m tk ht.1
  have h2 := (hn m (Nat.le_refl _)).2
  omega
def WB (a b : Int) : Prop := a = b ∧ -9223372036854775808 ≤ b ∧ b ≤ 9223372036854775807
theorem WB.eq {a b : Int} (h : WB a b) : wrap64 a = b := by rw [h.1, w64 h.2.1 h.2.2]
theorem impl_inner (s : ByteArray) (tk : Int) (E T : List Int) (ht : 2 ≤ tk ∧ tk ≤ 1000) (i : Nat)
    (hb : ∀ j : Int, -101000 ≤ rd T j ∧ rd T j ≤ 101000) (m : Nat) (hm : Samp (rd T ((i + 1 : Nat) : Int) - rd T i) tk m) (r : ByteArray × Bool) (d : Nat) : ∀ (n : Nat) (out : List UInt8), n + d = m → out.length ≤ 1000000000 + n →
    Ev (fun k => impl_ReceiveTail.l0 k s tk E T (i + 1) (out ++ List.replicate d (s.data.toList.getD (rd E i).toNat 0))) r → Ev (fun k => impl_ReceiveTail.l1 k s tk E T i (2 * rd T i + (2 * (n : Int) + 1) * tk) out) r := by
  have h0 := hb i
  have h1 := hb ((i + 1 : Nat) : Int)
  obtain ⟨hm1, hm2⟩ := samp_bound hm ht (by omega)
  have a7 : WB ((2 * rd T ((i + 1 : Nat) : Int))) (2 * rd T ((i + 1 : Nat) : Int)) := ⟨rfl, (by omega), (by omega)⟩
  have a8 : WB ((2 * tk)) (2 * tk) := ⟨rfl, (by omega), (by omega)⟩
  induction d with
  | zero =>
    intro n out hd hl h
    have hnm : n = m := by omega
    subst hnm
    have c4 : ¬ 2 * rd T i + (2 * (n : Int) + 1) * tk < 2 * rd T ((i + 1 : Nat) : Int) := by have := hm.1; omega
    rw [List.replicate_zero, List.append_nil] at h
    refine Ev_succ ?_
    simp only [impl_ReceiveTail.l1, a7.eq, if_neg c4]
    exact h
  | succ d ih =>
    intro n out hd hl h
    obtain ⟨b1, b2⟩ := hm2 n (by omega)
    have c4 : 2 * rd T i + (2 * (n : Int) + 1) * tk < 2 * rd T ((i + 1 : Nat) : Int) := by have := hm.2 n (by omega); omega
    have c6 : out.length < 35184372088832 := by omega
    have c7 : WB ((2 * rd T i + (2 * (n : Int) + 1) * tk + 2 * tk)) (2 * rd T i + (2 * ((n + 1 : Nat) : Int) + 1) * tk) := ⟨(by rw [odd_next]; omega), (by rw [odd_next]; omega), (by rw [odd_next]; omega)⟩
    refine Ev_succ ?_
    simp only [impl_ReceiveTail.l1, a7.eq, a8.eq, if_pos c4, if_pos c6, c7.eq]
    refine ih (n + 1) (out ++ [s.data.toList.getD (rd E i).toNat 0]) (by omega) (by rw [List.length_append, List.length_singleton]; omega) ?_
    rw [List.append_assoc, List.singleton_append, ← List.replicate_succ]
    exact h
def recvI (s : ByteArray) (E : List Int) (m : Nat → Nat) : Nat → Nat → List Int
  | _, 0 => []
  | i, d + 1 => List.replicate (m i) (bt s (rd E i)) ++ recvI s E m (i + 1) d
def recvB (s : ByteArray) (E : List Int) (m : Nat → Nat) : Nat → Nat → List UInt8
  | _, 0 => []
  | i, d + 1 => List.replicate (m i) (s.data.toList.getD (rd E i).toNat 0) ++ recvB s E m (i + 1) d
theorem impl_outer (s : ByteArray) (tk : Int) (E T : List Int) (ht : 2 ≤ tk ∧ tk ≤ 1000) (hT : T.length = E.length + 1) (hE : ∀ i : Nat, i < E.length → 0 ≤ rd E i ∧ rd E i < (s.size : Int)) (hn : E.length ≤ 1000)
    (hb : ∀ j : Int, -101000 ≤ rd T j ∧ rd T j ≤ 101000) (m : Nat → Nat) (hm : ∀ i : Nat, i < E.length → Samp (rd T ((i + 1 : Nat) : Int) - rd T i) tk (m i)) (d : Nat) : ∀ (i : Nat) (out : List UInt8), i + d = E.length → out.length ≤ i * 300000 →
    Ev (fun k => impl_ReceiveTail.l0 k s tk E T i out) (⟨(out ++ recvB s E m i d).toArray⟩, true) := by
  induction d with
  | zero =>
    intro i out hd hl
    refine Ev_succ ?_
    simp only [impl_ReceiveTail.l0, if_neg (show ¬ i < E.length by omega), recvB, List.append_nil]
    exact Ev.now _
  | succ d ih =>
    intro i out hd hl
    have hi : i < E.length := by omega
    have h0 := hb i
    have h1 := hb ((i + 1 : Nat) : Int)
    obtain ⟨hm1, hm2⟩ := samp_bound (hm i hi) ht (by omega)
    have h2 := ih (i + 1) (out ++ List.replicate (m i) (s.data.toList.getD (rd E i).toNat 0)) (by omega) (by rw [List.length_append, List.length_replicate]; omega)
    have a1 : WB ((2 * rd T i)) (2 * rd T i) := ⟨rfl, (by omega), (by omega)⟩
    have a2 : WB ((2 * rd T i + tk)) (2 * rd T i + (2 * ((0 : Nat) : Int) + 1) * tk) := ⟨(by simp), (by simp; omega), (by simp; omega)⟩
    refine Ev_succ ?_
    simp only [impl_ReceiveTail.l0, if_pos hi, if_pos (show i + 1 < T.length by omega), if_pos (hE i hi).1, if_pos (hE i hi).2, a1.eq, a2.eq]
    refine impl_inner s tk E T ht i hb (m i) (hm i hi) _ (m i) 0 out (by omega) (by omega) ?_
    rw [recvB, ← List.append_assoc]
    exact h2
theorem recv_same (s : ByteArray) (E : List Int) (hE : ∀ i : Nat, i < E.length → 0 ≤ rd E i ∧ rd E i < (s.size : Int)) (m : Nat → Nat) (d : Nat) : ∀ i : Nat, i + d = E.length → strOfNums (recvI s E m i d) = ⟨(recvB s E m i d).toArray⟩ := by
  induction d with
  | zero => intro i _; rfl
  | succ d ih =>
    intro i hd
    obtain ⟨e0, e1⟩ := hE i (by omega)
    obtain ⟨n, hn⟩ : ∃ n : Nat, rd E i = n := ⟨(rd E i).toNat, by omega⟩
    have hns : n < s.size := by omega
    have hl : n < s.data.toList.length := by simpa using hns
    have h2 := ih (i + 1) (by omega)
    apply ba_ext
    have h3 := congrArg (fun b => b.data.toList) h2
    simp only at h3
    rw [recvI, recvB, sn_append]
    have e3 : (strOfNums (List.replicate (m i) (bt s (rd E i)))).data.toList = List.replicate (m i) (s.data.toList.getD (rd E i).toNat 0) := by
      rw [hn, bt_list s n hns, Int.toNat_natCast, List.getD_eq_getElem?_getD, List.getElem?_eq_getElem hl]
      simp [strOfNums]
    have e4 : (strOfNums (List.replicate (m i) (bt s (rd E i))) ++ strOfNums (recvI s E m (i + 1) d)).data.toList = (strOfNums (List.replicate (m i) (bt s (rd E i)))).data.toList ++ (strOfNums (recvI s E m (i + 1) d)).data.toList := by simp
    rw [e4, e3, h3]
def tms (E J : List Int) (send : Int) (i : Nat) : List Int := (List.range i).map (fun j : Nat => rd E j * send + rd J j)
theorem tms_length (E J : List Int) (send : Int) (i : Nat) : (tms E J send i).length = i := by simp [tms]
theorem tms_succ (E J : List Int) (send : Int) (i : Nat) : tms E J send (i + 1) = tms E J send i ++ [rd E i * send + rd J i] := by simp [tms, List.range_succ]
theorem tms_rd (E J : List Int) (send last : Int) (n : Nat) (j : Nat) (hj : j ≤ n) : rd (tms E J send n ++ [last]) j = if j = n then last else rd E j * send + rd J j := by
  unfold rd
  rw [Int.toNat_natCast, List.getD_eq_getElem?_getD]
  by_cases c : j = n
  · subst c
    rw [if_pos rfl, List.getElem?_append_right (by rw [tms_length]; exact Nat.le_refl _), tms_length]
    simp
  · rw [if_neg c, List.getElem?_append_left (by rw [tms_length]; omega)]
    have : j < n := by omega
    simp [tms, this, rd]
theorem tm_bound {e send x : Int} (he : 0 ≤ e ∧ e ≤ 100) (hs : 2 ≤ send ∧ send ≤ 1000) (hx : -1000 ≤ x ∧ x ≤ 1000) : (0 ≤ e * send ∧ e * send ≤ 100000) ∧ -101000 ≤ e * send + x ∧ e * send + x ≤ 101000 := by
  have h1 := mb he.1 he.2 (show 0 ≤ send by omega) hs.2
  omega
theorem tms_bound (E J : List Int) (send last : Int) (hs : 2 ≤ send ∧ send ≤ 1000) (hE : ∀ i : Nat, i < E.length → 0 ≤ rd E i ∧ rd E i ≤ 100) (hJ : ∀ j : Int, 0 ≤ j → j < (J.length : Int) → -1000 ≤ rd J j ∧ rd J j ≤ 1000) (hEJ : J.length = E.length) (hl : -101000 ≤ last ∧ last ≤ 101000) :
    ∀ j : Int, -101000 ≤ rd (tms E J send E.length ++ [last]) j ∧ rd (tms E J send E.length ++ [last]) j ≤ 101000 := by
  intro j
  by_cases c : j.toNat ≤ E.length
  · have e : rd (tms E J send E.length ++ [last]) j = rd (tms E J send E.length ++ [last]) (j.toNat : Nat) := by unfold rd; rw [Int.toNat_natCast]
    rw [e, tms_rd _ _ _ _ _ _ c]
    split
    · exact hl
    · exact (tm_bound (hE j.toNat (by omega)) hs (hJ (j.toNat : Nat) (by omega) (by omega))).2
  · unfold rd
    rw [List.getD_eq_getElem?_getD, List.getElem?_eq_none (by rw [List.length_append, tms_length, List.length_singleton]; omega)]
    exact ⟨by decide, by decide⟩
theorem impl_times (s : ByteArray) (send tk : Int) (E J : List Int) (hz : s.size ≤ 100) (hs : 2 ≤ send ∧ send ≤ 1000) (hE : ∀ i : Nat, i < E.length → 0 ≤ rd E i ∧ rd E i ≤ 100) (hn : E.length ≤ 1000) (hJ : ∀ j : Int, 0 ≤ j → j < (J.length : Int) → -1000 ≤ rd J j ∧ rd J j ≤ 1000) (hEJ : J.length = E.length) (r : ByteArray × Bool) (b : Bool)
    (hb : Ev (fun k => impl_isIncreasing.f k (tms E J send E.length ++ [(s.size : Int) * send])) b)
    (h : (b = true → Ev (fun k => impl_ReceiveTail.l0 k s tk E (tms E J send E.length ++ [(s.size : Int) * send]) 0 []) r) ∧ (b = false → r = ((⟨#[]⟩ : ByteArray), false))) (d : Nat) : ∀ i : Nat, i + d = E.length → Ev (fun k => impl_ReceiveBits.l0 k s send tk J E (tms E J send i) E E.length i) r := by
  induction d with
  | zero =>
    intro i hd
    have hi : i = E.length := by omega
    subst hi
    have hl := mb (show (0 : Int) ≤ s.size by omega) (show (s.size : Int) ≤ 100 by omega) (show 0 ≤ send by omega) hs.2
    have a1 : WB (((s.size : Int) * send)) ((s.size : Int) * send) := ⟨rfl, (by omega), (by omega)⟩
    refine Ev_succ ?_
    simp only [impl_ReceiveBits.l0, if_neg (show ¬ ((E.length : Nat) : Int) < (E.length : Int) by omega), if_pos (show (tms E J send E.length).length < 17592186044416 by rw [tms_length]; omega), a1.eq, Option.bind_some]
    refine Ev.bind hb ?_
    cases b with
    | true =>
      simp only [if_true]
      exact Ev.bind (h.1 rfl) (Ev.now _)
    | false =>
      simp only [Bool.false_eq_true, if_false]
      rw [h.2 rfl]; exact Ev.now _
  | succ d ih =>
    intro i hd
    have hb := tm_bound (hE i (by omega)) hs (hJ i (by omega) (by omega))
    have a1 : WB ((rd E i * send)) (rd E i * send) := ⟨rfl, (by omega), (by omega)⟩
    have a2 : WB ((rd E i * send + rd J i)) (rd E i * send + rd J i) := ⟨rfl, (by omega), (by omega)⟩
    have a3 : WB (((i : Int) + 1)) (((i + 1 : Nat) : Int)) := ⟨(by omega), (by omega), (by omega)⟩
    refine Ev_succ ?_
    simp only [impl_ReceiveBits.l0, if_pos (show (i : Int) < (E.length : Int) by omega), if_pos (show (0 : Int) ≤ i by omega), if_pos (show (i : Int) < (J.length : Int) by omega), if_pos (show (tms E J send i).length < 17592186044416 by rw [tms_length]; omega), a1.eq, a2.eq, a3.eq, ← tms_succ]
    exact ih (i + 1) (by omega)

def ex : Int → List Nat → List Int
  | _, [] => []
  | v, c :: cs => List.replicate c v ++ ex (97 - v) cs
def st : Nat → List Nat → List Int
  | _, [] => []
  | i, c :: cs => (i : Int) :: st (i + c) cs
def nb : Int → List Nat → Int
  | v, [] => v
  | v, _ :: cs => nb (97 - v) cs
theorem nb_bit (cs : List Nat) : ∀ v : Int, (v = 48 ∨ v = 49) → nb v cs = 48 ∨ nb v cs = 49 := by
  induction cs with
  | nil => intro v h; exact h
  | cons c cs ih => intro v h; exact ih (97 - v) (by omega)
theorem ex_snoc (cs : List Nat) (c : Nat) : ∀ v : Int, ex v (cs ++ [c]) = ex v cs ++ List.replicate c (nb v cs) := by
  induction cs with
  | nil => intro v; simp [ex, nb]
  | cons d cs ih => intro v; rw [List.cons_append, ex, ex, nb, ih, List.append_assoc]
theorem nb_snoc (cs : List Nat) (c : Nat) : ∀ v : Int, nb v (cs ++ [c]) = 97 - nb v cs := by
  induction cs with
  | nil => intro v; rfl
  | cons d cs ih => intro v; rw [List.cons_append, nb, nb, ih]
theorem ex_bit (cs : List Nat) : ∀ v : Int, (v = 48 ∨ v = 49) → Bit48 (ex v cs) := by
  induction cs with
  | nil => intro v h w hw; cases hw
  | cons c cs ih =>
    intro v h w hw
    rcases List.mem_append.1 hw with h1 | h1
    · rw [(List.mem_replicate.1 h1).2]; exact h
    · exact ih (97 - v) (by omega) w h1
theorem ex_length (cs : List Nat) : ∀ v : Int, (ex v cs).length = cs.sum := by
  induction cs with
  | nil => intro v; rfl
  | cons c cs ih => intro v; rw [ex, List.length_append, List.length_replicate, ih, List.sum_cons]
theorem st_length (cs : List Nat) : ∀ i : Nat, (st i cs).length = cs.length := by
  induction cs with
  | nil => intro i; rfl
  | cons c cs ih => intro i; rw [st, List.length_cons, List.length_cons, ih]
theorem st_rd (cs : List Nat) : ∀ (i j : Nat), j < cs.length → rd (st i cs) j = ((i + (cs.take j).sum : Nat) : Int) := by
  induction cs with
  | nil => intro i j h; cases h
  | cons c cs ih =>
    intro i j h
    cases j with
    | zero => rw [st]; unfold rd; simp
    | succ j =>
      have := ih (i + c) j (by rw [List.length_cons] at h; omega)
      have e : rd (st i (c :: cs)) ((j + 1 : Nat) : Int) = rd (st (i + c) cs) j := by rw [st]; unfold rd; simp
      rw [e, this, List.take_succ_cons, List.sum_cons]
      omega
theorem bt48 {y : List Int} (hy : Bit48 y) (i : Nat) (hi : i < y.length) : bt (strOfNums y) i = y[i] := by
  have hz := sn_size y
  rw [bt_list _ i (by omega)]
  have e : (strOfNums y).data.toList[i]'(by rw [dl_size]; omega) = UInt8.ofNat (y[i]).toNat := by simp [strOfNums]
  rw [e]
  rcases hy _ (List.getElem_mem hi) with h | h <;> rw [h] <;> decide
theorem runs_fill (mo : Int) (l : List Int) (v a s : Int) (r : ByteArray) (d : Nat) : ∀ x : List Int, x.length + d ≤ 1000 →
    Ev (fun k => spec_B10Runs.l0 k mo (x ++ List.replicate d v) ((97 - v) % 256) l a s) r → Ev (fun k => spec_B10Runs.l1 k mo x v d l a s) r := by
  induction d with
  | zero =>
    intro x _ h
    rw [List.replicate_zero, List.append_nil] at h
    refine Ev_succ ?_
    simp only [spec_B10Runs.l1, if_neg (show ¬ ((0 : Nat) : Int) > 0 by omega)]
    exact h
  | succ d ih =>
    intro x hx h
    have a1 : WB (((d + 1 : Nat) : Int) - 1) (d : Int) := ⟨by omega, by omega, by omega⟩
    refine Ev_succ ?_
    simp only [spec_B10Runs.l1, if_pos (show ((d + 1 : Nat) : Int) > 0 by omega), if_pos (show x.length < 140737488355328 by omega), a1.eq]
    refine ih (x ++ [v]) (by rw [List.length_append, List.length_singleton]; omega) ?_
    rw [List.append_assoc, List.singleton_append, ← List.replicate_succ]
    exact h
theorem sum_snoc (cs : List Nat) (c : Nat) : (cs ++ [c]).sum = cs.sum + c := by rw [List.sum_append, List.sum_cons, List.sum_nil, Nat.add_zero]
theorem runs_loop (mo : Int) (hmo : 1 ≤ mo) (l : List Int) (hu : U8L l) (hl : l.length ≤ 2000000) (v0 : Int) (hv0 : v0 = 48 ∨ v0 = 49) (d : Nat) : ∀ (cs : List Nat) (a s : Int), 50 - cs.sum ≤ d → cs.sum ≤ 58 → (∀ c : Nat, c ∈ cs → 1 ≤ c ∧ (c : Int) ≤ mo) → 0 ≤ a → a + 4 * d ≤ 100000000 →
    ∃ cs', (∀ c : Nat, c ∈ cs' → 1 ≤ c ∧ (c : Int) ≤ mo) ∧ cs'.sum ≤ 58 ∧ Ev (fun k => spec_B10Runs.l0 k mo (ex v0 cs) (nb v0 cs) l a s) (strOfNums (ex v0 cs')) := by
  have stop : ∀ (cs : List Nat) (v a s : Int), Ev (fun k => spec_B10Runs.j1 k mo (ex v0 cs) v false l a s) (strOfNums (ex v0 cs)) := by
    intro cs v a s
    refine Ev_succ ?_
    simp only [spec_B10Runs.j1, Bool.false_eq_true, if_false]; exact Ev.now _
  induction d with
  | zero =>
    intro cs a s hd hs hc h0 h1
    refine ⟨cs, hc, hs, Ev_succ ?_⟩
    simp only [spec_B10Runs.l0, ex_length, if_neg (show ¬ ((cs.sum : Nat) : Int) < 50 by omega)]
    exact stop cs _ _ _
  | succ d ih =>
    intro cs a s hd hs hc h0 h1
    by_cases z : cs.sum < 50
    · obtain ⟨c, a1, s1, e1, p1, p2⟩ := one_ev l hu hl 9 a s h0 (by omega)
      cases c with
      | true =>
        refine ⟨cs, hc, hs, Ev_succ ?_⟩
        simp only [spec_B10Runs.l0, ex_length, if_pos (show ((cs.sum : Nat) : Int) < 50 by omega), e1, Option.bind_some, Bool.not_true]
        exact stop cs _ _ _
      | false =>
        obtain ⟨w, hw, w1, w2, w3⟩ : ∃ w, spec_l00Min.f mo 9 = some w ∧ 1 ≤ w ∧ w ≤ mo ∧ w ≤ 9 := by
          simp only [spec_l00Min.f]
          by_cases g : mo < 9
          · rw [if_pos g]; exact ⟨mo, rfl, by omega, by omega, by omega⟩
          · rw [if_neg g]; exact ⟨9, rfl, by omega, by omega, by omega⟩
        obtain ⟨q, a2, s2, e2, q1, q2, q3, q4⟩ := pick_ev l hu hl w a1 s1 (by omega) (by omega)
        have q2 := q2 w1
        obtain ⟨n, hn⟩ : ∃ n : Nat, 1 + q = n := ⟨(1 + q).toNat, by omega⟩
        have hvb := nb_bit cs v0 hv0
        obtain ⟨cs', c1, c2, c3⟩ := ih (cs ++ [n]) a2 s2 (by rw [sum_snoc]; omega) (by rw [sum_snoc]; omega) (by
          intro c hc2
          rcases List.mem_append.1 hc2 with h | h
          · exact hc c h
          · rw [List.mem_singleton.1 h]; omega) (by omega) (by omega)
        have b1 : WB (1 + q) (n : Int) := ⟨hn, by omega, by omega⟩
        have b6 : (97 - nb v0 cs) % 256 = 97 - nb v0 cs := by omega
        refine ⟨cs', c1, c2, Ev_succ ?_⟩
        simp only [spec_B10Runs.l0, ex_length, if_pos (show ((cs.sum : Nat) : Int) < 50 by omega), e1, Option.bind_some, Bool.not_false]
        refine Ev_succ ?_
        simp only [spec_B10Runs.j1, if_true, hw, Option.bind_some, e2, b1.eq]
        refine runs_fill mo l (nb v0 cs) a2 s2 _ n (ex v0 cs) (by rw [ex_length]; omega) ?_
        rw [b6, ← ex_snoc, ← nb_snoc]
        exact c3
    · refine ⟨cs, hc, hs, Ev_succ ?_⟩
      simp only [spec_B10Runs.l0, ex_length, if_neg (show ¬ ((cs.sum : Nat) : Int) < 50 by omega)]
      exact stop cs _ _ _
theorem runs_ev (mo : Int) (hmo : 1 ≤ mo) (l : List Int) (hu : U8L l) (hl : l.length ≤ 2000000) : ∃ (v : Int) (cs : List Nat), (v = 48 ∨ v = 49) ∧ (∀ c : Nat, c ∈ cs → 1 ≤ c ∧ (c : Int) ≤ mo) ∧ cs.sum ≤ 58 ∧ Ev (fun k => spec_B10Runs.f k l mo) (strOfNums (ex v cs)) := by
  obtain ⟨q, a, s, e, q1, q2, q3, q4⟩ := pick_ev l hu hl 2 0 0 (by omega) (by omega)
  have q2 := q2 (by omega)
  obtain ⟨cs, c1, c2, c3⟩ := runs_loop mo hmo l hu hl (48 + q) (by omega) 50 [] a s (by simp) (by simp) (by intro c h; cases h) (by omega) (by omega)
  have b1 : WB (48 + q) (48 + q) := ⟨rfl, by omega, by omega⟩
  have b2 : (48 + q) % 256 = 48 + q := by omega
  refine ⟨48 + q, cs, by omega, c1, c2, ?_⟩
  simp only [spec_B10Runs.f, spec_l00From.f, Option.bind_some, e, b1.eq, b2]
  exact c3
theorem edges_rest (y : List Int) (hy : Bit48 y) (hyl : y.length ≤ 1000) (v : Int) (R : List Int) (r : List Int) (d : Nat) : ∀ (P acc : List Int), P ≠ [] → (∀ w, P.getLast? = some w → w = v) → y = P ++ (List.replicate d v ++ R) →
    Ev (fun k => impl_edges.l0 k (strOfNums y) acc y.length ((P.length + d : Nat) : Int)) r → Ev (fun k => impl_edges.l0 k (strOfNums y) acc y.length P.length) r := by
  induction d with
  | zero => intro P acc _ _ _ h; exact h
  | succ d ih =>
    intro P acc hne hlast hyP h
    have hlen : y.length = P.length + (d + 1 + R.length) := by rw [hyP]; simp
    obtain ⟨p, hp⟩ : ∃ p, P.length = p + 1 := ⟨P.length - 1, by have := List.length_pos_iff.2 hne; omega⟩
    have hz := sn_size y
    have e1 : bt (strOfNums y) (P.length : Nat) = v := by
      rw [bt48 hy P.length (by omega)]
      have : y[P.length]? = some v := by rw [hyP, List.getElem?_append_right (Nat.le_refl _)]; simp [List.replicate_succ]
      have h2 := List.getElem?_eq_getElem (l := y) (i := P.length) (by omega)
      rw [this] at h2; exact (Option.some.inj h2).symm
    have e2 : bt (strOfNums y) (p : Nat) = v := by
      rw [bt48 hy p (by omega)]
      have h1 : y[p]? = P.getLast? := by rw [hyP, List.getElem?_append_left (by omega), List.getLast?_eq_getElem?, hp]; rfl
      have h2 := List.getElem?_eq_getElem (l := y) (i := p) (by omega)
      rw [h1] at h2
      exact hlast _ h2
    have a1 : WB ((P.length : Int) + 1) ((P.length + 1 : Nat) : Int) := ⟨by omega, by omega, by omega⟩
    have a2 : WB ((P.length : Int) - 1) (p : Int) := ⟨by omega, by omega, by omega⟩
    have z : ¬ (P.length : Int) = 0 := by omega
    have hee : bt (strOfNums y) (P.length : Nat) = bt (strOfNums y) (p : Nat) := by rw [e1, e2]
    refine Ev_succ ?_
    simp only [impl_edges.l0, if_pos (show (P.length : Int) < (y.length : Int) by omega), if_neg z, if_pos (show (0 : Int) ≤ P.length by omega), if_pos (show (P.length : Int) < ((strOfNums y).size : Int) by omega), a2.eq, if_pos (show (0 : Int) ≤ p by omega), if_pos (show (p : Int) < ((strOfNums y).size : Int) by omega), if_pos hee, a1.eq]
    have h3 := ih (P ++ [v]) acc (by simp) (by intro w hw; rw [List.getLast?_append] at hw; simpa using hw.symm) (by rw [hyP, List.replicate_succ]; simp) (by
      rw [List.length_append, List.length_singleton, show P.length + 1 + d = P.length + (d + 1) by omega]; exact h)
    rw [List.length_append, List.length_singleton] at h3
    exact h3
theorem edges_runs (y : List Int) (hy : Bit48 y) (hyl : y.length ≤ 1000) (cs : List Nat) : ∀ (v : Int) (P acc : List Int), (v = 48 ∨ v = 49) → (∀ w, P.getLast? = some w → w = 97 - v) → y = P ++ ex v cs → (∀ c ∈ cs, 1 ≤ c) → acc.length ≤ P.length →
    Ev (fun k => impl_edges.l0 k (strOfNums y) acc y.length P.length) (acc ++ st P.length cs) := by
  have hz := sn_size y
  induction cs with
  | nil =>
    intro v P acc _ _ hyP _ _
    have hlen : y.length = P.length := by rw [hyP, ex, List.append_nil]
    refine Ev_succ ?_
    simp only [impl_edges.l0, if_neg (show ¬ (P.length : Int) < (y.length : Int) by omega), st, List.append_nil]
    exact Ev.now _
  | cons c cs ih =>
    intro v P acc hv hlast hyP hc hacc
    have hc1 := hc c List.mem_cons_self
    obtain ⟨d, rfl⟩ : ∃ d, c = d + 1 := ⟨c - 1, by omega⟩
    have hlen : y.length = P.length + (d + 1 + (ex (97 - v) cs).length) := by rw [hyP, ex]; simp
    have h2 := ih (97 - v) (P ++ List.replicate (d + 1) v) (acc ++ [(P.length : Int)]) (by omega) (by
      intro w hw
      rw [List.getLast?_append, List.replicate_succ', List.getLast?_append] at hw
      have : v = w := by simpa using hw
      omega) (by rw [hyP, ex, List.append_assoc]) (fun q hq => hc q (List.mem_cons_of_mem _ hq)) (by simp; omega)
    rw [List.length_append, List.length_replicate, List.append_assoc, List.singleton_append] at h2
    have h3 := edges_rest y hy hyl v (ex (97 - v) cs) (acc ++ st P.length ((d + 1) :: cs)) d (P ++ [v]) (acc ++ [(P.length : Int)]) (by simp) (by intro w hw; rw [List.getLast?_append] at hw; simpa using hw.symm) (by rw [hyP, ex, List.replicate_succ]; simp) (by
      rw [List.length_append, List.length_singleton, show P.length + 1 + d = P.length + (d + 1) by omega, st]; exact h2)
    rw [List.length_append, List.length_singleton] at h3
    have a1 : WB ((P.length : Int) + 1) ((P.length + 1 : Nat) : Int) := ⟨by omega, by omega, by omega⟩
    have hroom : acc.length < 17592186044416 := by omega
    refine Ev_succ ?_
    by_cases z : (P.length : Int) = 0
    · simp only [impl_edges.l0, if_pos (show (P.length : Int) < (y.length : Int) by omega), if_pos z, if_pos hroom, a1.eq]
      exact h3
    · obtain ⟨p, hp⟩ : ∃ p, P.length = p + 1 := ⟨P.length - 1, by omega⟩
      have a2 : WB ((P.length : Int) - 1) (p : Int) := ⟨by omega, by omega, by omega⟩
      have e1 : bt (strOfNums y) (P.length : Nat) = v := by
        rw [bt48 hy P.length (by omega)]
        have : y[P.length]? = some v := by rw [hyP, List.getElem?_append_right (Nat.le_refl _)]; simp [ex, List.replicate_succ]
        have h2 := List.getElem?_eq_getElem (l := y) (i := P.length) (by omega)
        rw [this] at h2; exact (Option.some.inj h2).symm
      have e2 : bt (strOfNums y) (p : Nat) = 97 - v := by
        rw [bt48 hy p (by omega)]
        have h1 : y[p]? = P.getLast? := by rw [hyP, List.getElem?_append_left (by omega), List.getLast?_eq_getElem?, hp]; rfl
        have h2 := List.getElem?_eq_getElem (l := y) (i := p) (by omega)
        rw [h1] at h2
        exact hlast _ h2
      have hee : ¬ bt (strOfNums y) (P.length : Nat) = bt (strOfNums y) (p : Nat) := by rw [e1, e2]; omega
      simp only [impl_edges.l0, if_pos (show (P.length : Int) < (y.length : Int) by omega), if_neg z, if_pos (show (0 : Int) ≤ P.length by omega), if_pos (show (P.length : Int) < ((strOfNums y).size : Int) by omega), a2.eq, if_pos (show (0 : Int) ≤ p by omega), if_pos (show (p : Int) < ((strOfNums y).size : Int) by omega), if_neg hee, if_pos hroom, a1.eq]
      exact h3
theorem recv_all (y : List Int) (hy : Bit48 y) (m : Nat → Nat) (E : List Int) (cs : List Nat) : ∀ (v : Int) (P : List Int) (i : Nat), y = P ++ ex v cs → (∀ c ∈ cs, 1 ≤ c) → (∀ j, j < cs.length → m (i + j) = (cs[j]?).getD 0 ∧ rd E ((i + j : Nat) : Int) = ((P.length + (cs.take j).sum : Nat) : Int)) → recvI (strOfNums y) E m i cs.length = ex v cs := by
  induction cs with
  | nil => intro v P i _ _ _; rfl
  | cons c cs ih =>
    intro v P i hyP hc hm
    have hc1 := hc c List.mem_cons_self
    obtain ⟨d, rfl⟩ : ∃ d, c = d + 1 := ⟨c - 1, by omega⟩
    obtain ⟨m0, e0⟩ := hm 0 (by simp)
    simp only [Nat.add_zero, List.take_zero, List.sum_nil, List.getElem?_cons_zero, Option.getD_some] at m0 e0
    have hlen : y.length = P.length + (d + 1 + (ex (97 - v) cs).length) := by rw [hyP, ex]; simp
    have e1 : bt (strOfNums y) (P.length : Nat) = v := by
      rw [bt48 hy P.length (by omega)]
      have : y[P.length]? = some v := by rw [hyP, List.getElem?_append_right (Nat.le_refl _)]; simp [ex, List.replicate_succ]
      have h2 := List.getElem?_eq_getElem (l := y) (i := P.length) (by omega)
      rw [this] at h2; exact (Option.some.inj h2).symm
    have h3 := ih (97 - v) (P ++ List.replicate (d + 1) v) (i + 1) (by rw [hyP, ex, List.append_assoc]) (fun q hq => hc q (List.mem_cons_of_mem _ hq)) (by
      intro j hj
      obtain ⟨m1, e2⟩ := hm (j + 1) (by rw [List.length_cons]; omega)
      rw [List.getElem?_cons_succ] at m1
      rw [List.take_succ_cons, List.sum_cons] at e2
      rw [show i + 1 + j = i + (j + 1) by omega]
      refine ⟨m1, ?_⟩
      rw [e2, List.length_append, List.length_replicate]; omega)
    rw [List.length_cons, recvI, h3, ex, m0, e0, e1]
theorem take_sum_succ (cs : List Nat) (i : Nat) (h : i < cs.length) : (cs.take (i + 1)).sum = (cs.take i).sum + cs[i] := by
  rw [List.take_succ_eq_append_getElem h, sum_snoc]
theorem take_sum_le (cs : List Nat) (i : Nat) : (cs.take i).sum ≤ cs.sum := by
  have := congrArg List.sum (List.take_append_drop i cs)
  rw [List.sum_append] at this
  omega
theorem len_sum (cs : List Nat) (h : ∀ c ∈ cs, 1 ≤ c) : cs.length ≤ cs.sum := by
  induction cs with
  | nil => exact Nat.le_refl _
  | cons c cs ih =>
    have := ih (fun q hq => h q (List.mem_cons_of_mem _ hq))
    have := h c List.mem_cons_self
    rw [List.length_cons, List.sum_cons]; omega
def gapD (cs : List Nat) (J : List Int) (send : Int) (i : Nat) : Int := (((cs[i]?).getD 0 : Nat) : Int) * send + ((if i + 1 = cs.length then 0 else rd J ((i + 1 : Nat) : Int)) - rd J i)
theorem receive_runs (v : Int) (hv : v = 48 ∨ v = 49) (cs : List Nat) (hc : ∀ c ∈ cs, 1 ≤ c) (hsum : cs.sum ≤ 100) (send tk : Int) (hsend : 2 ≤ send ∧ send ≤ 1000) (htk : 2 ≤ tk ∧ tk ≤ 1000) (J : List Int) (hJl : J.length = cs.length) (hJ : ∀ j : Int, 0 ≤ j → j < (J.length : Int) → -1000 ≤ rd J j ∧ rd J j ≤ 1000) (hJ0 : 0 < J.length → rd J 0 = 0)
    (hinc : ∀ i : Nat, i < cs.length → 0 < gapD cs J send i) : ∃ out, Ev (fun k => impl_ReceiveBits.f k (strOfNums (ex v cs)) send tk J) (out, true) ∧ ((∀ i : Nat, i < cs.length → Samp (gapD cs J send i) tk ((cs[i]?).getD 0)) → out = strOfNums (ex v cs)) := by
  obtain ⟨y, hyd⟩ : ∃ y, y = ex v cs := ⟨_, rfl⟩
  have hy : Bit48 y := by rw [hyd]; exact ex_bit cs v hv
  have hyl : y.length = cs.sum := by rw [hyd, ex_length]
  have hz := sn_size y
  have hcl := len_sum cs hc
  rw [← hyd]
  obtain ⟨c, hcb, hci⟩ := areBits_ev (strOfNums y) (by omega)
  have hct : c = true := hci.2 (bit48_sn hy).1
  subst hct
  obtain ⟨q, hq, hqi⟩ := areIn_ev J (-1000) 1000 (by omega)
  have hqt : q = true := hqi.2 hJ
  subst hqt
  have hEi := edges_runs y hy (by omega) cs v [] [] hv (by intro w hw; simp at hw) (by rw [hyd]; rfl) hc (by simp)
  rw [List.nil_append] at hEi
  obtain ⟨E, hE⟩ : ∃ E, E = st 0 cs := ⟨_, rfl⟩
  have hEi2 : Ev (fun k => impl_edges.f k (strOfNums y)) E := by
    have : ∀ k, impl_edges.f k (strOfNums y) = impl_edges.l0 k (strOfNums y) [] y.length 0 := fun k => by rw [impl_edges.f, hz]
    simp only [this]
    rw [hE]; exact hEi
  have hEl : E.length = cs.length := by rw [hE, st_length]
  have hErd : ∀ j : Nat, j < cs.length → rd E j = (((cs.take j).sum : Nat) : Int) := by
    intro j hj
    rw [hE, st_rd cs 0 j hj, Nat.zero_add]
  have hEb : ∀ i : Nat, i < E.length → 0 ≤ rd E i ∧ rd E i < ((strOfNums y).size : Int) := by
    intro i hi
    rw [hErd i (by omega)]
    have h1 := take_sum_succ cs i (by omega)
    have h2 := take_sum_le cs (i + 1)
    have h3 := hc _ (List.getElem_mem (show i < cs.length by omega))
    omega
  have hEb2 : ∀ i : Nat, i < E.length → 0 ≤ rd E i ∧ rd E i ≤ 100 := fun i hi => by have := hEb i hi; omega
  have hs100 : (strOfNums y).size ≤ 100 := by omega
  have hsz := mb (show (0 : Int) ≤ (strOfNums y).size by omega) (show ((strOfNums y).size : Int) ≤ 100 by omega) (show 0 ≤ send by omega) hsend.2
  obtain ⟨T, hT⟩ : ∃ T, T = tms E J send E.length ++ [((strOfNums y).size : Int) * send] := ⟨_, rfl⟩
  have hTl : T.length = E.length + 1 := by rw [hT, List.length_append, tms_length, List.length_singleton]
  have hTb : ∀ j : Int, -101000 ≤ rd T j ∧ rd T j ≤ 101000 := by rw [hT]; exact tms_bound E J send _ hsend hEb2 hJ (by omega) (by omega)
  have hD : ∀ i : Nat, i < cs.length → rd T ((i + 1 : Nat) : Int) - rd T i = gapD cs J send i := by
    intro i hi
    have t0 := tms_rd E J send (((strOfNums y).size : Int) * send) E.length i (by omega)
    have t1 := tms_rd E J send (((strOfNums y).size : Int) * send) E.length (i + 1) (by omega)
    rw [if_neg (by omega)] at t0
    have g0 : (cs[i]?).getD 0 = cs[i] := by rw [List.getElem?_eq_getElem hi]; rfl
    have s1 := take_sum_succ cs i hi
    rw [hT, t0, t1, hErd i hi, gapD, g0]
    by_cases e : i + 1 = cs.length
    · rw [if_pos (show i + 1 = E.length by omega), if_pos e, hz, hyl]
      have : cs.sum = (cs.take i).sum + cs[i] := by rw [← s1, e, List.take_length]
      rw [this, Int.natCast_add, Int.add_mul]; omega
    · rw [if_neg (show ¬ i + 1 = E.length by omega), if_neg e, hErd (i + 1) (by omega), s1, Int.natCast_add, Int.add_mul]; omega
  obtain ⟨inc, hincE, hinci⟩ := isInc_ev T (by omega)
  have hinct : inc = true := by
    rw [hinci]
    intro j h0 h1
    have h2 := hD (j - 1).toNat (by omega)
    have h3 := hinc (j - 1).toNat (by omega)
    rw [show (((j - 1).toNat + 1 : Nat) : Int) = j by omega, show (((j - 1).toNat : Nat) : Int) = j - 1 by omega] at h2
    omega
  subst hinct
  have g34 : (2 ≤ send ∧ send ≤ 1000) ∧ (2 ≤ tk ∧ tk ≤ 1000) := ⟨hsend, htk⟩
  have whole : ∀ (m : Nat → Nat), (∀ i : Nat, i < E.length → Samp (rd T ((i + 1 : Nat) : Int) - rd T i) tk (m i)) → Ev (fun k => impl_ReceiveBits.f k (strOfNums y) send tk J) (strOfNums (recvI (strOfNums y) E m 0 E.length), true) := by
    intro m hm
    have io := impl_outer (strOfNums y) tk E T htk hTl hEb (by omega) hTb m hm E.length 0 [] (by omega) (by simp)
    rw [List.nil_append, ← recv_same (strOfNums y) E hEb m E.length 0 (by omega)] at io
    have it := impl_times (strOfNums y) send tk E J hs100 hsend hEb2 (by omega) hJ (by omega) _ true (by rw [← hT]; exact hincE) ⟨fun _ => by rw [← hT]; exact io, fun h => by cases h⟩ E.length 0 (by omega)
    have j1 : Ev (fun k => impl_ReceiveBits.j1 k (strOfNums y) send tk J E false) (strOfNums (recvI (strOfNums y) E m 0 E.length), true) := by
      refine Ev_succ ?_
      simp only [impl_ReceiveBits.j1, Bool.false_eq_true, if_false]
      exact it
    simp only [impl_ReceiveBits.f, if_neg (show ¬ ((strOfNums y).size : Int) > 100 by omega), hcb, Option.bind_some, if_true, areTicks_eq, decide_eq_true g34]
    refine Ev.bind hq (Ev_succ ?_)
    simp only [impl_ReceiveBits.j0, Bool.not_true, Bool.false_eq_true, if_false]
    refine Ev.bind hEi2 ?_
    simp only [if_pos (show (E.length : Int) = (J.length : Int) by omega)]
    by_cases z : (J.length : Int) > 0
    · have e0 : (rd J 0 != 0) = false := by rw [hJ0 (by omega)]; rfl
      simp only [if_pos z, if_pos (show 0 < (J.length : Int) from z), e0]; exact j1
    · simp only [if_neg z]; exact j1
  have hex : ∀ i : Nat, ∃ m, Samp (rd T ((i + 1 : Nat) : Int) - rd T i) tk m := fun i => samp_ex _ tk htk.1
  by_cases g : ∀ i : Nat, i < cs.length → Samp (gapD cs J send i) tk ((cs[i]?).getD 0)
  · have h := whole (fun i => (cs[i]?).getD 0) (fun i hi => by rw [hD i (by omega)]; exact g i (by omega))
    refine ⟨_, h, fun _ => ?_⟩
    rw [hEl, recv_all y hy _ E cs v [] 0 (by rw [hyd]; rfl) hc (fun j hj => ⟨by rw [Nat.zero_add], by rw [Nat.zero_add, hErd j hj]; simp⟩), hyd]
  · exact ⟨_, whole (fun i => Classical.choose (hex i)) (fun i _ => Classical.choose_spec (hex i)), fun h => absurd h g⟩

theorem l07Run_eq (a : Int) : spec_l07Run.f a = some (decide (1 ≤ a ∧ a ≤ 100)) := by
  simp only [spec_l07Run.f, l00In_eq, Option.bind_some]
theorem isRun_eq (a : Int) : impl_isRun.f a = some (decide (1 ≤ a ∧ a ≤ 100)) := by
  simp only [impl_isRun.f, within_eq, Option.bind_some]

def Jok (s t j n : Int) : Prop := (2 * n - 1) * t < 2 * (n * s - 2 * j) ∧ 2 * (n * s + 2 * j) ≤ (2 * n + 1) * t
def Jit (s t m j : Int) : Prop := ∀ n, 1 ≤ n → n ≤ m → Jok s t j n
theorem jitBounds {s t n : Int} (hs : 2 ≤ s ∧ s ≤ 1000) (ht : 2 ≤ t ∧ t ≤ 1000) (hn : 1 ≤ n ∧ n ≤ 100) :
    (0 ≤ (2 * n + 1) * t ∧ (2 * n + 1) * t ≤ 201000) ∧ (0 ≤ (2 * n - 1) * t ∧ (2 * n - 1) * t ≤ 199000) ∧ (0 ≤ n * s ∧ n * s ≤ 100000) := by
  have a := mb (a := 2 * n + 1) (b := t) (A := 201) (B := 1000) (by omega) (by omega) (by omega) (by omega)
  have b := mb (a := 2 * n - 1) (b := t) (A := 199) (B := 1000) (by omega) (by omega) (by omega) (by omega)
  have c := mb (a := n) (b := s) (A := 100) (B := 1000) (by omega) (by omega) (by omega) (by omega)
  exact ⟨⟨a.1, by omega⟩, ⟨b.1, by omega⟩, ⟨c.1, by omega⟩⟩
theorem l07Jitter_loop (s t m j : Int) (hs : 2 ≤ s ∧ s ≤ 1000) (ht : 2 ≤ t ∧ t ≤ 1000) (hm : m ≤ 100) (hj : 0 ≤ j ∧ j ≤ 1000) (d : Nat) : ∀ i : Int, 1 ≤ i → m + 1 - i = d →
    ∃ b, Ev (fun k => spec_l07Jitter.l0 k s t m j i) b ∧ (b = true ↔ ∀ n, i ≤ n → n ≤ m → Jok s t j n) := by
  induction d with
  | zero =>
    intro i h0 hd
    refine ⟨true, Ev_succ ?_, ?_⟩
    · simp only [spec_l07Jitter.l0, if_neg (show ¬ i ≤ m by omega)]
      exact Ev.now _
    · simp only [true_iff]; intro k h2 h3; omega
  | succ d ih =>
    intro i h0 hd
    have hle : i ≤ m := by omega
    obtain ⟨⟨a1, a2⟩, ⟨b1, b2⟩, ⟨c1, c2⟩⟩ := jitBounds hs ht (n := i) ⟨by omega, by omega⟩
    by_cases h : Jok s t j i
    · obtain ⟨b, hb, hi⟩ := ih (i + 1) (by omega) (by omega)
      refine ⟨b, Ev_succ ?_, hi.trans ?_⟩
      · simp (disch := omega) only [spec_l07Jitter.l0, w64]
        have g1 : ¬ 2 * (i * s - 2 * j) ≤ (2 * i - 1) * t := by have := h.1; omega
        have g2 : ¬ 2 * (i * s + 2 * j) > (2 * i + 1) * t := by have := h.2; omega
        simp only [if_pos hle, if_neg g1, if_neg g2]
        exact hb
      · refine ⟨fun g k h2 h3 => ?_, fun g k h2 h3 => g k (by omega) h3⟩
        by_cases e : k = i
        · rw [e]; exact h
        · exact g k (by omega) h3
    · refine ⟨false, Ev_succ ?_, ?_⟩
      · simp (disch := omega) only [spec_l07Jitter.l0, w64]
        simp only [if_pos hle]
        by_cases g1 : 2 * (i * s - 2 * j) ≤ (2 * i - 1) * t
        · simp only [if_pos g1]; exact Ev.now _
        · have g2 : 2 * (i * s + 2 * j) > (2 * i + 1) * t := by
            have : ¬ 2 * (i * s + 2 * j) ≤ (2 * i + 1) * t := fun g => h ⟨by omega, g⟩
            omega
          simp only [if_neg g1, if_pos g2]; exact Ev.now _
      · simp only [Bool.false_eq_true, false_iff]
        intro g
        exact h (g i (by omega) hle)
theorem l07Jitter_ev (s t m j : Int) (hs : 2 ≤ s ∧ s ≤ 1000) (ht : 2 ≤ t ∧ t ≤ 1000) (hm : 0 ≤ m ∧ m ≤ 100) (hj : 0 ≤ j ∧ j ≤ 1000) :
    ∃ b, Ev (fun k => spec_l07Jitter.f k s t m j) b ∧ (b = true ↔ Jit s t m j) :=
  l07Jitter_loop s t m j hs ht hm.2 hj m.toNat 1 (by omega) (by omega)
theorem jit_stops (s t m j : Int) (hs : 2 ≤ s ∧ s ≤ 1000) (ht : 2 ≤ t ∧ t ≤ 1000) (hm : 1 ≤ m) (hj : 500 ≤ j) : ¬ Jit s t m j := by
  intro h
  have := (h 1 (by omega) hm).1
  omega
theorem specJit_loop (s t m : Int) (hs : 2 ≤ s ∧ s ≤ 1000) (ht : 2 ≤ t ∧ t ≤ 1000) (hm : 1 ≤ m ∧ m ≤ 100) (d : Nat) : ∀ j : Int, 0 ≤ j → j ≤ 500 → 500 - j = d → (∀ i, 0 ≤ i → i ≤ j → Jit s t m i) →
    ∃ r, Ev (fun k => spec_JitterTolerated.l0 k s t m j) (r, true) ∧ 0 ≤ r ∧ (∀ i, 0 ≤ i → i ≤ r → Jit s t m i) ∧ ¬ Jit s t m (r + 1) := by
  induction d with
  | zero =>
    intro j h0 h1 hd hp
    exact absurd (hp j h0 (by omega)) (jit_stops s t m j hs ht hm.1 (by omega))
  | succ d ih =>
    intro j h0 h1 hd hp
    obtain ⟨b, hb, hi⟩ := l07Jitter_ev s t m (j + 1) hs ht ⟨by omega, hm.2⟩ ⟨by omega, by omega⟩
    cases b with
    | true =>
      obtain ⟨r, hr, g⟩ := ih (j + 1) (by omega) (by omega) (by omega) (fun i g1 g2 => by
        by_cases e : i = j + 1
        · rw [e]; exact hi.1 rfl
        · exact hp i g1 (by omega))
      refine ⟨r, Ev_succ ?_, g⟩
      simp (disch := omega) only [spec_JitterTolerated.l0, w64]
      refine Ev.bind hb ?_
      simpa using hr
    | false =>
      refine ⟨j, Ev_succ ?_, h0, hp, fun g => by have := hi.2 g; cases this⟩
      simp (disch := omega) only [spec_JitterTolerated.l0, w64]
      refine Ev.bind hb ?_
      simpa using Ev.now _
theorem implJit_inner (s t m j : Int) (hs : 2 ≤ s ∧ s ≤ 1000) (ht : 2 ≤ t ∧ t ≤ 1000) (hm : 1 ≤ m ∧ m ≤ 100) (hj : 0 ≤ j ∧ j ≤ 1000) (R : Int × Bool)
    (hgo : Jit s t m j → Ev (fun k => impl_JitterTolerated.l0 k s t m (j + 1)) R) (hst : ¬ Jit s t m j → R = (mx 0 (j - 1), decide (j > 0))) (d : Nat) :
    ∀ i : Int, 1 ≤ i → i ≤ m + 1 → m + 1 - i = d → (∀ n, 1 ≤ n → n < i → Jok s t j n) → Ev (fun k => impl_JitterTolerated.l1 k s t m j i) R := by
  induction d with
  | zero =>
    intro i h0 h1 hd hp
    refine Ev_succ ?_
    simp (disch := omega) only [impl_JitterTolerated.l1, w64]
    simp only [if_neg (show ¬ i ≤ m by omega)]
    exact hgo (fun n g1 g2 => hp n g1 (by omega))
  | succ d ih =>
    intro i h0 h1 hd hp
    have hle : i ≤ m := by omega
    obtain ⟨⟨a1, a2⟩, ⟨b1, b2⟩, ⟨c1, c2⟩⟩ := jitBounds hs ht (n := i) ⟨by omega, by omega⟩
    refine Ev_succ ?_
    simp (disch := omega) only [impl_JitterTolerated.l1, w64]
    simp only [if_pos hle]
    by_cases h : Jok s t j i
    · have g1 : ¬ 2 * (i * s - 2 * j) ≤ (2 * i - 1) * t := by have := h.1; omega
      have g2 : ¬ 2 * (i * s + 2 * j) > (2 * i + 1) * t := by have := h.2; omega
      simp only [if_neg g1, if_neg g2]
      refine ih (i + 1) (by omega) (by omega) (by omega) (fun n f1 f2 => ?_)
      by_cases e : n = i
      · rw [e]; exact h
      · exact hp n f1 (by omega)
    · have hno : ¬ Jit s t m j := fun g => h (g i h0 hle)
      rw [hst hno]
      by_cases g1 : 2 * (i * s - 2 * j) ≤ (2 * i - 1) * t
      · simp only [if_pos g1]; exact Ev.now _
      · have g2 : 2 * (i * s + 2 * j) > (2 * i + 1) * t := by
          have : ¬ 2 * (i * s + 2 * j) ≤ (2 * i + 1) * t := fun g => h ⟨by omega, g⟩
          omega
        simp only [if_neg g1, if_pos g2]; exact Ev.now _
theorem implJit_loop (s t m J : Int) (hs : 2 ≤ s ∧ s ≤ 1000) (ht : 2 ≤ t ∧ t ≤ 1000) (hm : 1 ≤ m ∧ m ≤ 100) (hJ : 0 ≤ J ∧ J ≤ 501) (hall : ∀ i, 0 ≤ i → i < J → Jit s t m i) (hno : ¬ Jit s t m J) (d : Nat) :
    ∀ j : Int, 0 ≤ j → j ≤ J → J - j = d → Ev (fun k => impl_JitterTolerated.l0 k s t m j) (mx 0 (J - 1), decide (J > 0)) := by
  induction d with
  | zero =>
    intro j h0 h1 hd
    obtain rfl : j = J := by omega
    refine Ev_succ ?_
    simp only [impl_JitterTolerated.l0]
    exact implJit_inner s t m j hs ht hm ⟨h0, by omega⟩ _ (fun g => absurd g hno) (fun _ => rfl) m.toNat 1 (by omega) (by omega) (by omega) (fun n g1 g2 => by omega)
  | succ d ih =>
    intro j h0 h1 hd
    refine Ev_succ ?_
    simp only [impl_JitterTolerated.l0]
    exact implJit_inner s t m j hs ht hm ⟨h0, by omega⟩ _ (fun _ => ih (j + 1) (by omega) (by omega) (by omega)) (fun g => absurd (hall j h0 (by omega)) g) m.toNat 1 (by omega) (by omega) (by omega) (fun n g1 g2 => by omega)
theorem jit_both (s t m : Int) (h0 : 2 ≤ s ∧ s ≤ 1000) (h1 : 2 ≤ t ∧ t ≤ 1000) (h2 : 1 ≤ m ∧ m ≤ 100) : ∃ (r : Int) (c : Bool), Ev (fun k => impl_JitterTolerated.f k s t m) (r, c) ∧ Ev (fun k => spec_JitterTolerated.f k s t m) (r, c) ∧
    (c = true → 0 ≤ r ∧ r ≤ 500 ∧ ∀ i, 0 ≤ i → i ≤ r → Jit s t m i) ∧ (c = false → ¬ Jit s t m 0) := by
  obtain ⟨b, hb, hi⟩ := l07Jitter_ev s t m 0 h0 h1 ⟨by omega, h2.2⟩ ⟨by omega, by omega⟩
  cases b with
  | true =>
    obtain ⟨r, hr, g0, g1, g2⟩ := specJit_loop s t m h0 h1 h2 500 0 (by omega) (by omega) (by omega) (fun i f1 f2 => by
      obtain rfl : i = 0 := by omega
      exact hi.1 rfl)
    have hle : r ≤ 500 := by
      by_cases f : r ≤ 500
      · exact f
      · exact absurd (g1 500 (by omega) (by omega)) (jit_stops s t m 500 h0 h1 h2.1 (by omega))
    have hq := implJit_loop s t m (r + 1) h0 h1 h2 ⟨by omega, by omega⟩ (fun i f1 f2 => g1 i f1 (by omega)) g2 (r + 1).toNat 0 (by omega) (by omega) (by omega)
    have e : mx 0 (r + 1 - 1) = r := by rw [Int.add_sub_cancel]; unfold mx; split <;> omega
    rw [e] at hq
    have A : Ev (fun k => spec_JitterTolerated.f k s t m) (r, true) := by
      simp only [spec_JitterTolerated.f, ticks_eq, l07Run_eq, Option.bind_some, h0, h1, h2, and_self, decide_true, if_true]
      refine Ev.bind hb (Ev_succ ?_)
      simpa [spec_JitterTolerated.j0] using hr
    have B : Ev (fun k => impl_JitterTolerated.f k s t m) (r, true) := by
      simp only [impl_JitterTolerated.f, areTicks_eq, isRun_eq, Option.bind_some, h0, h1, h2, and_self, decide_true, if_true]
      refine Ev_succ ?_
      have e2 : decide (r + 1 > 0) = true := decide_eq_true (by omega)
      rw [e2] at hq
      simpa [impl_JitterTolerated.j0] using hq
    exact ⟨r, true, B, A, fun _ => ⟨g0, hle, fun i h1 h2 => g1 i h1 h2⟩, fun h => by cases h⟩
  | false =>
    have hno : ¬ Jit s t m 0 := fun g => by have := hi.2 g; cases this
    have hq := implJit_loop s t m 0 h0 h1 h2 ⟨by omega, by omega⟩ (fun i f1 f2 => by omega) hno 0 0 (by omega) (by omega) (by omega)
    have A : Ev (fun k => spec_JitterTolerated.f k s t m) (0, false) := by
      simp only [spec_JitterTolerated.f, ticks_eq, l07Run_eq, Option.bind_some, h0, h1, h2, and_self, decide_true, if_true]
      refine Ev.bind hb (Ev_succ ?_)
      simpa [spec_JitterTolerated.j0] using Ev.now _
    have B : Ev (fun k => impl_JitterTolerated.f k s t m) (0, false) := by
      simp only [impl_JitterTolerated.f, areTicks_eq, isRun_eq, Option.bind_some, h0, h1, h2, and_self, decide_true, if_true]
      refine Ev_succ ?_
      simpa [impl_JitterTolerated.j0, mx] using hq
    exact ⟨0, false, B, A, fun h => by (cases h), fun _ => hno⟩

def OkAt (s t k : Int) : Prop := 2 * k * s < (2 * k + 1) * t ∧ (2 * k + 1) * t < 2 * (k + 1) * s
def FinAt (s t n : Int) : Prop := 2 * n * s ≤ (2 * n + 1) * t
theorem clockBounds {s t i : Int} (hs : 2 ≤ s ∧ s ≤ 1000) (ht : 2 ≤ t ∧ t ≤ 1000) (hi : 0 ≤ i ∧ i ≤ 101) :
    (0 ≤ (2 * i + 1) * t ∧ (2 * i + 1) * t ≤ 203000) ∧ (0 ≤ 2 * i * s ∧ 2 * i * s ≤ 202000) ∧ (0 ≤ 2 * (i + 1) * s ∧ 2 * (i + 1) * s ≤ 204000) := by
  have a := mb (a := 2 * i + 1) (b := t) (A := 203) (B := 1000) (by omega) (by omega) (by omega) (by omega)
  have b := mb (a := 2 * i) (b := s) (A := 202) (B := 1000) (by omega) (by omega) (by omega) (by omega)
  have c := mb (a := 2 * (i + 1)) (b := s) (A := 204) (B := 1000) (by omega) (by omega) (by omega) (by omega)
  exact ⟨⟨a.1, by omega⟩, ⟨b.1, by omega⟩, ⟨c.1, by omega⟩⟩

def Fine (s t n : Int) : Prop := (∀ k, 0 ≤ k → k < n → OkAt s t k) ∧ FinAt s t n

def AllFine (s t n : Int) : Prop := ∀ k, 1 ≤ k → k ≤ n → Fine s t k

def StepOk (s t r : Int) : Prop := OkAt s t (r - 1) ∧ FinAt s t r
theorem longest_loop (s t m : Int) (hs : 2 ≤ s ∧ s ≤ 1000) (ht : 2 ≤ t ∧ t ≤ 1000) (hm : m ≤ 100) (d : Nat) : ∀ i : Int, 1 ≤ i → i ≤ m + 1 → m + 1 - i = d →
    ∃ r, Ev (fun k => impl_longest.l0 k s t m i) r ∧ i - 1 ≤ r ∧ r ≤ m ∧ (∀ j, i ≤ j → j ≤ r → StepOk s t j) ∧ (r < m → ¬ StepOk s t (r + 1)) := by
  induction d with
  | zero =>
    intro i h0 h1 hd
    refine ⟨m, Ev_succ ?_, by omega, by omega, fun j h2 h3 => by omega, fun h => by omega⟩
    simp only [impl_longest.l0, if_neg (show ¬ i ≤ m by omega)]
    exact Ev.now _
  | succ d ih =>
    intro i h0 h1 hd
    have hle : i ≤ m := by omega
    obtain ⟨⟨a1, a2⟩, ⟨b1, b2⟩, ⟨c1, c2⟩⟩ := clockBounds hs ht (i := i - 1) ⟨by omega, by omega⟩
    obtain ⟨⟨a3, a4⟩, ⟨b3, b4⟩, -⟩ := clockBounds hs ht (i := i) ⟨by omega, by omega⟩
    rw [Int.sub_add_cancel] at c1 c2
    by_cases h : StepOk s t i
    · obtain ⟨r, hr, h2, h3, h4, h5⟩ := ih (i + 1) (by omega) (by omega) (by omega)
      refine ⟨r, Ev_succ ?_, by omega, h3, fun j h6 h7 => ?_, h5⟩
      · simp (disch := omega) only [impl_longest.l0, w64]
        obtain ⟨⟨g1, g2⟩, g3⟩ := h
        rw [Int.sub_add_cancel] at g2
        have g3 : ¬ (2 * i + 1) * t < 2 * i * s := by have := g3; simp only [FinAt] at this; omega
        simp only [if_pos hle, if_pos g1, if_pos g2, if_neg g3, gt_iff_lt]
        exact hr
      · by_cases e : j = i
        · rw [e]; exact h
        · exact h4 j (by omega) h7
    · refine ⟨i - 1, Ev_succ ?_, by omega, by omega, fun j h6 h7 => by omega, fun _ => by rw [Int.sub_add_cancel]; exact h⟩
      simp (disch := omega) only [impl_longest.l0, w64]
      simp only [if_pos hle, gt_iff_lt]
      by_cases g1 : 2 * (i - 1) * s < (2 * (i - 1) + 1) * t
      · by_cases g2 : (2 * (i - 1) + 1) * t < 2 * i * s
        · by_cases g3 : (2 * i + 1) * t < 2 * i * s
          · simp only [if_pos g1, if_pos g2, if_pos g3]; exact Ev.now _
          · exact absurd ⟨⟨g1, by rw [Int.sub_add_cancel]; exact g2⟩, by simp only [FinAt]; omega⟩ h
        · simp only [if_pos g1, if_neg g2]; exact Ev.now _
      · simp only [if_neg g1]; exact Ev.now _
theorem longest_ev (s t m : Int) (hs : 2 ≤ s ∧ s ≤ 1000) (ht : 2 ≤ t ∧ t ≤ 1000) (hm : 0 ≤ m ∧ m ≤ 100) :
    ∃ r, Ev (fun k => impl_longest.f k s t m) r ∧ 0 ≤ r ∧ r ≤ m ∧ (∀ j, 1 ≤ j → j ≤ r → StepOk s t j) ∧ (r < m → ¬ StepOk s t (r + 1)) := by
  obtain ⟨r, h1, h2, h3⟩ := longest_loop s t m hs ht hm.2 m.toNat 1 (by omega) (by omega) (by omega)
  exact ⟨r, h1, by omega, h3⟩

theorem allFine_iff (s t n : Int) : AllFine s t n ↔ ∀ j, 1 ≤ j → j ≤ n → StepOk s t j := by
  constructor
  · intro h j h1 h2
    exact ⟨(h j h1 h2).1 (j - 1) (by omega) (by omega), (h j h1 h2).2⟩
  · intro h j h1 h2
    refine ⟨fun k h3 h4 => ?_, (h j h1 h2).2⟩
    have := (h (k + 1) (by omega) (by omega)).1
    rwa [Int.add_sub_cancel] at this

theorem isTol_ev (s t n : Int) (hs : 2 ≤ s ∧ s ≤ 1000) (ht : 2 ≤ t ∧ t ≤ 1000) (hn : 1 ≤ n ∧ n ≤ 100) :
    ∃ b, Ev (fun k => impl_IsTolerated.f k s t n) b ∧ (b = true ↔ AllFine s t n) := by
  obtain ⟨r, hr, h0, h1, h2, h3⟩ := longest_ev s t n hs ht ⟨by omega, hn.2⟩
  refine ⟨r == n, ?_, ?_⟩
  · simp only [impl_IsTolerated.f, areTicks_eq, isRun_eq, Option.bind_some, hs, ht, hn, and_self, decide_true, if_true]
    exact Ev.bind hr (Ev.now _)
  · rw [allFine_iff, beq_iff_eq]
    constructor
    · rintro rfl; exact h2
    · intro h
      by_cases e : r = n
      · exact e
      · exact absurd (h (r + 1) (by omega) (by omega)) (h3 (by omega))
theorem isTol_not (s t n : Int) (h : ¬ ((2 ≤ s ∧ s ≤ 1000) ∧ (2 ≤ t ∧ t ≤ 1000) ∧ (1 ≤ n ∧ n ≤ 100))) : Ev (fun k => impl_IsTolerated.f k s t n) false := by
  simp only [impl_IsTolerated.f, areTicks_eq, isRun_eq, Option.bind_some]
  by_cases h0 : (2 ≤ s ∧ s ≤ 1000) ∧ (2 ≤ t ∧ t ≤ 1000)
  · have h1 : ¬ (1 ≤ n ∧ n ≤ 100) := fun g => h ⟨h0.1, h0.2, g⟩
    simp only [h0, h1, and_self, decide_true, decide_false, if_true, Bool.false_eq_true, if_false]; exact Ev.now _
  · simp only [h0, decide_false, Bool.false_eq_true, if_false]; exact Ev.now _

theorem step_parts (s t n : Int) : StepOk s t n ↔ (2 * (n * s) - 2 * s < (2 * n - 1) * t ∧ (2 * n - 1) * t < 2 * (n * s)) ∧ 2 * (n * s) ≤ (2 * n + 1) * t := by
  have e1 : 2 * (n - 1) * s = 2 * (n * s) - 2 * s := by rw [Int.mul_assoc, Int.sub_mul, Int.one_mul, Int.mul_sub]
  have e2 : 2 * (n - 1) + 1 = 2 * n - 1 := by omega
  have e3 : 2 * (n - 1 + 1) * s = 2 * (n * s) := by rw [Int.sub_add_cancel, Int.mul_assoc]
  have e4 : 2 * n * s = 2 * (n * s) := by rw [Int.mul_assoc]
  simp only [StepOk, OkAt, FinAt, e1, e2, e3, e4]
theorem fine_jit {s t m : Int} (h : ∀ j, 1 ≤ j → j ≤ m → StepOk s t j) : Jit s t m 0 := by
  intro n h0 h1
  obtain ⟨⟨a, b⟩, c⟩ := (step_parts s t n).1 (h n h0 h1)
  exact ⟨by omega, by omega⟩
theorem odd_mul (n t : Int) : (2 * n - 1) * t = 2 * (n * t) - t ∧ (2 * n + 1) * t = 2 * (n * t) + t := by
  rw [Int.sub_mul, Int.add_mul, Int.one_mul, Int.mul_assoc]; exact ⟨rfl, rfl⟩
theorem jit_fine {s t m : Int} (hs : 2 ≤ s) (ht : 2 ≤ t) (h : Jit s t m 0) : ∀ j, 1 ≤ j → j ≤ m → StepOk s t j := by
  intro n h0 h1
  obtain ⟨a, b⟩ := h n h0 h1
  obtain ⟨o1, o2⟩ := odd_mul n t
  refine (step_parts s t n).2 ⟨⟨?_, by omega⟩, by omega⟩
  by_cases e : n = 1
  · subst e; omega
  · obtain ⟨a2, b2⟩ := h (n - 1) (by omega) (by omega)
    obtain ⟨o3, o4⟩ := odd_mul (n - 1) t
    have p1 : (n - 1) * s = n * s - s := by rw [Int.sub_mul, Int.one_mul]
    have p2 : (n - 1) * t = n * t - t := by rw [Int.sub_mul, Int.one_mul]
    have key : s ≤ t → 2 * (t - s) ≤ n * t - n * s := by
      intro hst
      have := Int.mul_le_mul_of_nonneg_right (show 2 ≤ n by omega) (show 0 ≤ t - s by omega)
      rw [Int.mul_sub n] at this
      exact this
    rw [o2] at b
    rw [o1] at a ⊢
    rw [p1, o4, p2] at b2
    rw [p1, o3, p2] at a2
    by_cases hst : s ≤ t
    · have := key hst; omega
    · omega
theorem jok_samp {s t j : Int} {c : Nat} (h : Jok s t j c) (hc : 1 ≤ c) (ht : 2 ≤ t) (x : Int) (hx : -(2 * j) ≤ x ∧ x ≤ 2 * j) : 0 < (c : Int) * s + x ∧ Samp ((c : Int) * s + x) t c := by
  obtain ⟨a, b⟩ := h
  have h1 := odd_ge (c - 1) t ht
  have e1 : 2 * ((c - 1 : Nat) : Int) + 1 = 2 * (c : Int) - 1 := by omega
  rw [e1] at h1
  refine ⟨by omega, by omega, fun q hq => ?_⟩
  have := Int.mul_le_mul_of_nonneg_right (show 2 * (q : Int) + 1 ≤ 2 * (c : Int) - 1 by omega) (show 0 ≤ t by omega)
  omega
theorem step_mid {s x y z j : Int} (hj : 1 ≤ j) (hx : StepOk s x j) (hz : StepOk s z j) (h1 : x ≤ y) (h2 : y ≤ z) : StepOk s y j := by
  rw [step_parts] at *
  have a1 := Int.mul_le_mul_of_nonneg_left h1 (show 0 ≤ 2 * j - 1 by omega)
  have a2 := Int.mul_le_mul_of_nonneg_left h2 (show 0 ≤ 2 * j - 1 by omega)
  have a3 := Int.mul_le_mul_of_nonneg_left h1 (show 0 ≤ 2 * j + 1 by omega)
  omega
theorem step_self {s j : Int} (hs : 2 ≤ s) : StepOk s s j := by
  rw [step_parts]
  obtain ⟨o1, o2⟩ := odd_mul j s
  omega
def RInv (s m lo hi i : Int) : Prop := (lo = 0 ∧ ∀ x, 2 ≤ x → x < i → ¬ AllFine s x m) ∨ (2 ≤ lo ∧ lo ≤ hi ∧ hi < i ∧ AllFine s lo m ∧ AllFine s hi m ∧ ∀ x, 2 ≤ x → x < i → (x < lo ∨ hi < x) → ¬ AllFine s x m)
theorem range_loop (s m : Int) (hs : 2 ≤ s ∧ s ≤ 1000) (hm : 1 ≤ m ∧ m ≤ 100) (d : Nat) : ∀ lo hi i : Int, 2 ≤ i → 1001 - i = d → RInv s m lo hi i →
    ∃ lo' hi', Ev (fun k => impl_TakeRange.l0 k s m lo hi i) (lo', hi', decide (lo' > 0)) ∧ RInv s m lo' hi' 1001 := by
  induction d with
  | zero =>
    intro lo hi i h0 hd hI
    have : i = 1001 := by omega
    subst this
    refine ⟨lo, hi, Ev_succ ?_, hI⟩
    simp only [impl_TakeRange.l0, if_neg (show ¬ (1001 : Int) ≤ 1000 by omega)]
    exact Ev.now _
  | succ d ih =>
    intro lo hi i h0 hd hI
    have hle : i ≤ 1000 := by omega
    have a1 : WB (i + 1) (i + 1) := ⟨rfl, by omega, by omega⟩
    obtain ⟨c, hc, hci⟩ := isTol_ev s i m hs ⟨h0, hle⟩ hm
    have go : ∀ r, Ev (fun k => if c = true then (if lo = 0 then impl_TakeRange.l0 k s m i i (i + 1) else impl_TakeRange.l0 k s m lo i (i + 1)) else impl_TakeRange.l0 k s m lo hi (i + 1)) r → Ev (fun k => impl_TakeRange.l0 k s m lo hi i) r := by
      intro r h
      refine Ev_succ ?_
      simp only [impl_TakeRange.l0, if_pos hle, a1.eq]
      exact Ev.bind hc h
    cases c with
    | false =>
      have hno : ¬ AllFine s i m := fun h => by have := hci.2 h; cases this
      have hI2 : RInv s m lo hi (i + 1) := by
        rcases hI with ⟨e, h⟩ | ⟨e1, e2, e3, e4, e5, h⟩
        · refine .inl ⟨e, fun x h1 h2 => ?_⟩
          by_cases z : x = i
          · rw [z]; exact hno
          · exact h x h1 (by omega)
        · refine .inr ⟨e1, e2, by omega, e4, e5, fun x h1 h2 h3 => ?_⟩
          by_cases z : x = i
          · rw [z]; exact hno
          · exact h x h1 (by omega) h3
      obtain ⟨lo', hi', hE, hR⟩ := ih lo hi (i + 1) (by omega) (by omega) hI2
      exact ⟨lo', hi', go _ (by simp only [Bool.false_eq_true, if_false]; exact hE), hR⟩
    | true =>
      have hyes := hci.1 rfl
      by_cases z : lo = 0
      · have hI2 : RInv s m i i (i + 1) := by
          rcases hI with ⟨e, h⟩ | ⟨e1, _⟩
          · exact .inr ⟨h0, Int.le_refl _, by omega, hyes, hyes, fun x h1 h2 h3 => h x h1 (by omega)⟩
          · omega
        obtain ⟨lo', hi', hE, hR⟩ := ih i i (i + 1) (by omega) (by omega) hI2
        exact ⟨lo', hi', go _ (by simp only [if_true, if_pos z]; exact hE), hR⟩
      · have hI2 : RInv s m lo i (i + 1) := by
          rcases hI with ⟨e, h⟩ | ⟨e1, e2, e3, e4, e5, h⟩
          · exact absurd e z
          · exact .inr ⟨e1, by omega, by omega, e4, hyes, fun x h1 h2 h3 => h x h1 (by omega) (by omega)⟩
        obtain ⟨lo', hi', hE, hR⟩ := ih lo i (i + 1) (by omega) (by omega) hI2
        exact ⟨lo', hi', go _ (by simp only [if_true, if_neg z]; exact hE), hR⟩
theorem range_ev (s m : Int) (hs : 2 ≤ s ∧ s ≤ 1000) (hm : 1 ≤ m ∧ m ≤ 100) : ∃ lo hi, Ev (fun k => impl_TakeRange.f k s m) (lo, hi, true) ∧ lo ≤ s ∧ s ≤ hi ∧ ∀ x, 2 ≤ x → x ≤ 1000 → (AllFine s x m ↔ lo ≤ x ∧ x ≤ hi) := by
  obtain ⟨lo, hi, hE, hR⟩ := range_loop s m hs hm 999 0 0 2 (by omega) (by omega) (.inl ⟨rfl, fun x h1 h2 => by omega⟩)
  have hself : AllFine s s m := (allFine_iff s s m).2 (fun j _ _ => step_self hs.1)
  rcases hR with ⟨_, h⟩ | ⟨e1, e2, e3, e4, e5, h⟩
  · exact absurd hself (h s hs.1 (by omega))
  · rw [decide_eq_true (show lo > 0 by omega)] at hE
    have hiff : ∀ x, 2 ≤ x → x ≤ 1000 → (AllFine s x m ↔ lo ≤ x ∧ x ≤ hi) := by
      intro x h1 h2
      constructor
      · intro hx
        apply Classical.byContradiction
        intro hn
        exact h x h1 (by omega) (by omega) hx
      · intro hx
        rw [allFine_iff] at *
        exact fun j j0 j1 => step_mid j0 (e4 j j0 j1) (e5 j j0 j1) hx.1 hx.2
    have := (hiff s hs.1 hs.2).1 hself
    exact ⟨lo, hi, hE, this.1, this.2, hiff⟩
theorem longTol_ev (s t : Int) (hs : 2 ≤ s ∧ s ≤ 1000) (ht : 2 ≤ t ∧ t ≤ 1000) : ∃ r, Ev (fun k => impl_LongestTolerated.f k s t) (r, decide (r > 0)) ∧ 0 ≤ r ∧ ∀ m, 1 ≤ m → m ≤ 100 → (AllFine s t m ↔ m ≤ r) := by
  obtain ⟨r, hr, h0, h1, h2, h3⟩ := longest_ev s t 100 hs ht ⟨by omega, by omega⟩
  refine ⟨r, ?_, h0, fun m m0 m1 => ?_⟩
  · simp only [impl_LongestTolerated.f, areTicks_eq, decide_eq_true (And.intro hs ht), Option.bind_some, if_true]
    exact Ev.bind hr (Ev.now _)
  · rw [allFine_iff]
    constructor
    · intro h
      apply Classical.byContradiction
      intro hn
      exact h3 (by omega) (h (r + 1) (by omega) (by omega))
    · intro h j j0 j1
      exact h2 j j0 (by omega)
theorem edgesOf_runs (v : Int) (hv : v = 48 ∨ v = 49) (cs : List Nat) (hc : ∀ c ∈ cs, 1 ≤ c) (hsum : cs.sum ≤ 100) : Ev (fun k => impl_EdgesOf.f k (strOfNums (ex v cs))) (st 0 cs, true) := by
  have hy := ex_bit cs v hv
  have hyl := ex_length cs v
  have hz := sn_size (ex v cs)
  obtain ⟨b, hb, hi⟩ := isBits_ev (strOfNums (ex v cs)) (by omega)
  have hbt : b = true := hi.2 ⟨(bit48_sn hy).1, by omega⟩
  subst hbt
  have hE := edges_runs (ex v cs) hy (by omega) cs v [] [] hv (by intro w hw; simp at hw) rfl hc (by simp)
  rw [List.nil_append] at hE
  simp only [impl_EdgesOf.f, hb, Option.bind_some, if_true]
  refine Ev.bind (a := st 0 cs) ?_ (Ev.now _)
  have : ∀ k, impl_edges.f k (strOfNums (ex v cs)) = impl_edges.l0 k (strOfNums (ex v cs)) [] (ex v cs).length 0 := fun k => by rw [impl_edges.f, hz]
  simp only [this]
  exact hE
theorem rd_snoc (J : List Int) (x : Int) (i : Nat) : rd (J ++ [x]) i = if i < J.length then rd J i else if i = J.length then x else 0 := by
  unfold rd
  rw [Int.toNat_natCast, List.getD_eq_getElem?_getD]
  by_cases c : i < J.length
  · rw [if_pos c, List.getElem?_append_left c, ← List.getD_eq_getElem?_getD]
  · rw [if_neg c, List.getElem?_append_right (by omega)]
    by_cases e : i = J.length
    · rw [if_pos e, e]; simp
    · rw [if_neg e, List.getElem?_eq_none (by simp; omega)]; rfl
theorem jitter_loop (l : List Int) (hu : U8L l) (s : ByteArray) (E : List Int) (hEl : E.length ≤ 100) (send tk j : Int) (hj : 0 ≤ j ∧ j ≤ 500)
    (hend : ∀ J : List Int, J.length = E.length → (∀ i : Nat, i < J.length → -j ≤ rd J i ∧ rd J i ≤ j) → (0 < J.length → rd J 0 = 0) → Ev (fun k => impl_ReceiveBits.f k s send tk J) (s, true)) (d : Nat) : ∀ J : List Int, J.length + d = E.length → (∀ i : Nat, i < J.length → -j ≤ rd J i ∧ rd J i ≤ j) → (0 < J.length → rd J 0 = 0) →
    Ev (fun k => laws_FnSampled.l0 k l send tk s E j J J.length) true := by
  induction d with
  | zero =>
    intro J hd hJ h0
    refine Ev_succ ?_
    simp only [laws_FnSampled.l0, if_neg (show ¬ (J.length : Int) < (E.length : Int) by omega)]
    refine Ev.bind (hend J (by omega) hJ h0) ?_
    simp only [if_true, decide_eq_true (show j ≥ 0 from hj.1)]
    exact Ev.now _
  | succ d ih =>
    intro J hd hJ h0
    have a1 : WB ((J.length : Int) + 2) ((J.length : Int) + 2) := ⟨rfl, by omega, by omega⟩
    have a2 : WB (2 * j) (2 * j) := ⟨rfl, by omega, by omega⟩
    have a3 : WB (2 * j + 1) (2 * j + 1) := ⟨rfl, by omega, by omega⟩
    have a4 : WB ((J.length : Int) + 1) ((J.length + 1 : Nat) : Int) := ⟨by omega, by omega, by omega⟩
    obtain ⟨v, hv, v0, v1⟩ := b10At_ev l hu ((J.length : Int) + 2) (2 * j + 1) (by omega) (by omega) (by omega)
    have a5 : WB (v - j) (v - j) := ⟨rfl, by omega, by omega⟩
    have step : ∀ x : Int, -j ≤ x → x ≤ j → (J.length = 0 → x = 0) → Ev (fun k => laws_FnSampled.l0 k l send tk s E j (J ++ [x]) ((J.length + 1 : Nat) : Int)) true := by
      intro x x0 x1 x2
      have := ih (J ++ [x]) (by rw [List.length_append, List.length_singleton]; omega) (by
        intro i hi
        rw [List.length_append, List.length_singleton] at hi
        rw [rd_snoc]
        by_cases c : i < J.length
        · rw [if_pos c]; exact hJ i c
        · rw [if_neg c, if_pos (by omega)]; exact ⟨x0, x1⟩) (by
        intro _
        have e := rd_snoc J x 0
        rw [show (0 : Int) = ((0 : Nat) : Int) from rfl, e]
        by_cases c : 0 < J.length
        · rw [if_pos c]; exact h0 c
        · rw [if_neg c, if_pos (by omega)]; exact x2 (by omega))
      rw [List.length_append, List.length_singleton] at this
      exact this
    refine Ev_succ ?_
    simp only [laws_FnSampled.l0, if_pos (show (J.length : Int) < (E.length : Int) by omega), a1.eq, a2.eq, a3.eq, hv, Option.bind_some, if_pos (show J.length < 17592186044416 by omega), a4.eq, a5.eq]
    by_cases z : (J.length : Int) = 0
    · simp only [if_pos z]
      exact step 0 (by omega) (by omega) (fun _ => rfl)
    · simp only [if_neg z]
      exact step (v - j) (by omega) (by omega) (fun e => by omega)
theorem FnSampled : laws_FnSampled.Pure := by
  intro l0 l1 h1 h2 h3 h4 h5 h6
  apply Ev.rounds
  simp only [laws_FnSampled.f]
  by_cases g : (l0.length : Int) > 1048576 ∨ (l1.length : Int) > 1048576
  · simp only [b10Long_big l0 l1 g, Option.bind_some, if_true]; exact Ev.now _
  obtain ⟨a, ha, a0, a1⟩ := b10At_ev l0 h3 0 40 (by omega) (by omega) (by omega)
  obtain ⟨b, hb, b0, b1⟩ := b10At_ev l0 h3 1 5 (by omega) (by omega) (by omega)
  obtain ⟨c, hc, c0, c1⟩ := b10At_ev l1 h6 0 9 (by omega) (by omega) (by omega)
  obtain ⟨send, hsend⟩ : ∃ x, 4 + a = x := ⟨_, rfl⟩
  obtain ⟨tk, htk⟩ : ∃ x, send + b - 2 = x := ⟨_, rfl⟩
  obtain ⟨run, hrun⟩ : ∃ x, 1 + c = x := ⟨_, rfl⟩
  have w1 : WB (4 + a) send := ⟨hsend, by omega, by omega⟩
  have w2 : WB (send + b) (send + b) := ⟨rfl, by omega, by omega⟩
  have w3 : WB (send + b - 2) tk := ⟨htk, by omega, by omega⟩
  have w4 : WB (1 + c) run := ⟨hrun, by omega, by omega⟩
  have hs : 2 ≤ send ∧ send ≤ 1000 := by omega
  have ht : 2 ≤ tk ∧ tk ≤ 1000 := by omega
  have hr : 1 ≤ run ∧ run ≤ 100 := by omega
  obtain ⟨r, hrE, hr0, hrI⟩ := longTol_ev send tk hs ht
  obtain ⟨fine, hfE, hfI⟩ := isTol_ev send tk run hs ht hr
  obtain ⟨lo, hi, hRE, hlo, hhi, hRI⟩ := range_ev send run hs hr
  have hA1 := hrI run hr.1 hr.2
  have hA2 := hRI tk ht.1 ht.2
  have J0 : Ev (fun k => laws_FnSampled.j0 k l0 l1 send tk run fine false) true := by
    obtain ⟨v, cs, hv, hcs, hsum, hB⟩ := runs_ev run hr.1 l1 h6 (by omega)
    have hcs1 : ∀ q ∈ cs, 1 ≤ q := fun q hq => (hcs q hq).1
    have hcl := len_sum cs hcs1
    have hEd := edgesOf_runs v hv cs hcs1 (by omega)
    have hEl : (st 0 cs).length = cs.length := st_length cs 0
    have gap : ∀ (J : List Int) (j : Int), 0 ≤ j → J.length = cs.length → (∀ i : Nat, i < J.length → -j ≤ rd J i ∧ rd J i ≤ j) → ∀ i : Nat, i < cs.length → ∃ (n : Nat) (x : Int), (cs[i]?).getD 0 = n ∧ n ∈ cs ∧ gapD cs J send i = (n : Int) * send + x ∧ -(2 * j) ≤ x ∧ x ≤ 2 * j := by
      intro J j hj hJl hJ i hi
      refine ⟨cs[i], _, by rw [List.getElem?_eq_getElem hi]; rfl, List.getElem_mem hi, by rw [gapD, List.getElem?_eq_getElem hi]; rfl, ?_⟩
      have q0 := hJ i (by omega)
      by_cases e : i + 1 = cs.length
      · rw [if_pos e]; omega
      · have q1 := hJ (i + 1) (by omega)
        rw [if_neg e]; omega
    have recv : ∀ (J : List Int) (j : Int), 0 ≤ j → j ≤ 500 → J.length = cs.length → (∀ i : Nat, i < J.length → -j ≤ rd J i ∧ rd J i ≤ j) → (0 < J.length → rd J 0 = 0) → Jit send tk run j → Ev (fun k => impl_ReceiveBits.f k (strOfNums (ex v cs)) send tk J) (strOfNums (ex v cs), true) := by
      intro J j j0 j1 hJl hJ hJ0 hjit
      have hall : ∀ i : Nat, i < cs.length → 0 < gapD cs J send i ∧ Samp (gapD cs J send i) tk ((cs[i]?).getD 0) := by
        intro i hi
        obtain ⟨n, x, e1, e2, e3, e4, e5⟩ := gap J j j0 hJl hJ i hi
        rw [e1, e3]
        have hn := hcs n e2
        exact jok_samp (hjit n (by omega) hn.2) hn.1 ht.1 x ⟨e4, e5⟩
      obtain ⟨out, ho, hsame⟩ := receive_runs v hv cs hcs1 (by omega) send tk hs ht J hJl (fun q q0 q1 => by
        have := hJ q.toNat (by omega)
        rw [Int.toNat_of_nonneg q0] at this
        omega) hJ0 (fun i hi => (hall i hi).1)
      rw [hsame (fun i hi => (hall i hi).2)] at ho
      exact ho
    have hzero : ∃ out, Ev (fun k => impl_ReceiveBits.f k (strOfNums (ex v cs)) send tk (List.replicate cs.length 0)) (out, true) ∧ (fine = true → out = strOfNums (ex v cs)) := by
      have hz : ∀ q : Int, rd (List.replicate cs.length 0) q = 0 := by
        intro q; unfold rd; rw [List.getD_eq_getElem?_getD, List.getElem?_replicate]; split <;> rfl
      cases hf : fine with
      | true =>
        have hjit := fine_jit ((allFine_iff send tk run).1 (hfI.1 hf))
        exact ⟨_, recv (List.replicate cs.length 0) 0 (by omega) (by omega) (by simp) (fun i _ => by rw [hz]; omega) (fun _ => hz 0) hjit, fun _ => rfl⟩
      | false =>
        obtain ⟨out, ho, _⟩ := receive_runs v hv cs hcs1 (by omega) send tk hs ht (List.replicate cs.length 0) (by simp) (fun q _ _ => by rw [hz]; omega) (fun _ => hz 0) (fun i hi => by
          obtain ⟨n, x, e1, e2, e3, e4, e5⟩ := gap (List.replicate cs.length 0) 0 (by omega) (by simp) (fun i _ => by rw [hz]; omega) i hi
          have hn := hcs n e2
          have h7 := Int.mul_le_mul (show (1 : Int) ≤ n by omega) hs.1 (by omega) (by omega)
          rw [e3]; omega)
        exact ⟨out, ho, fun h => by cases h⟩
    obtain ⟨out, hout, hsame⟩ := hzero
    have J1 : Ev (fun k => laws_FnSampled.j1 k l0 send tk run fine (strOfNums (ex v cs)) (st 0 cs) false) true := by
      obtain ⟨j, known, hji, hjs, hj1, hj2⟩ := jit_both send tk run hs ht hr
      refine Ev_succ ?_
      simp only [laws_FnSampled.j1, Bool.false_eq_true, if_false]
      refine Ev.bind hji (Ev.bind hjs ?_)
      simp only [bne_self_eq_false, Bool.false_eq_true, if_false]
      cases known with
      | false =>
        simp only [Bool.false_eq_true, if_false]
        refine Ev_succ ?_
        simp only [laws_FnSampled.j2, Bool.false_eq_true, if_false]
        exact Ev.now _
      | true =>
        obtain ⟨r0, r1, r2⟩ := hj1 rfl
        have hft : fine = true := hfI.2 ((allFine_iff send tk run).2 (jit_fine hs.1 ht.1 (r2 0 (by omega) r0)))
        subst hft
        simp only [if_true, Bool.not_true]
        refine Ev_succ ?_
        simp only [laws_FnSampled.j2, Bool.false_eq_true, if_false, if_true]
        exact jitter_loop l0 h3 (strOfNums (ex v cs)) (st 0 cs) (by omega) send tk j ⟨r0, r1⟩ (fun J q0 q1 q2 => recv J j r0 r1 (by omega) q1 q2 (r2 j r0 (Int.le_refl _))) cs.length [] (by simp; omega) (by intro i hi; simp at hi) (by intro h; simp at h)
    refine Ev_succ ?_
    simp only [laws_FnSampled.j0, Bool.false_eq_true, if_false]
    refine Ev.bind hB (Ev.bind hEd ?_)
    simp only [hEl, if_pos (show (0 : Int) ≤ ((cs.length : Nat) : Int) by omega), Int.toNat_natCast, if_pos (show cs.length ≤ 35184372088832 by omega)]
    refine Ev.bind hout ?_
    simp only [if_true]
    cases hf : fine with
    | false => simp only [Bool.false_eq_true, if_false]; rw [hf] at J1; exact J1
    | true =>
      have e : (out.toList != (strOfNums (ex v cs)).toList) = false := by rw [hsame hf]; exact bne_self_eq_false _
      simp only [if_true, e]; rw [hf] at J1; exact J1
  simp only [b10Long_small l0 l1 g, Option.bind_some, Bool.false_eq_true, if_false, ha, hb, hc, w1.eq, w2.eq, w3.eq, w4.eq]
  refine Ev.bind hrE (Ev.bind hfE (Ev.bind hRE ?_))
  have hrange : Ev (fun k => if lo > send then laws_FnSampled.j0 k l0 l1 send tk run fine true else if hi < send then laws_FnSampled.j0 k l0 l1 send tk run fine true else if tk ≥ lo then laws_FnSampled.j0 k l0 l1 send tk run fine (fine != decide (tk ≤ hi)) else laws_FnSampled.j0 k l0 l1 send tk run fine (fine != false)) true := by
    simp only [if_neg (show ¬ lo > send by omega), if_neg (show ¬ hi < send by omega)]
    by_cases q : tk ≥ lo
    · have e : fine = decide (tk ≤ hi) := by
        rw [Bool.eq_iff_iff, hfI, hA2, decide_eq_true_eq]
        exact ⟨fun h => h.2, fun h => ⟨q, h⟩⟩
      have e2 : (fine != decide (tk ≤ hi)) = false := by rw [← e]; exact bne_self_eq_false _
      simp only [if_pos q, e2]; exact J0
    · have e : fine = false := by
        cases hf : fine with
        | false => rfl
        | true => exact absurd (hA2.1 (hfI.1 hf)).1 (by omega)
      have e2 : (fine != false) = false := by rw [e]; rfl
      simp only [if_neg q, e2]; exact J0
  by_cases q : r > 0
  · have e : fine = decide (r ≥ run) := by rw [Bool.eq_iff_iff, hfI, hA1, decide_eq_true_eq]
    have e2 : (fine != decide (r ≥ run)) = false := by rw [← e]; exact bne_self_eq_false _
    simp only [decide_eq_true q, if_true, e2, Bool.false_eq_true, if_false]
    exact hrange
  · have e : fine = false := by
      cases hf : fine with
      | false => rfl
      | true => exact absurd (hA1.1 (hfI.1 hf)) (by omega)
    have e2 : (fine != false) = false := by rw [e]; rfl
    simp only [e2] at hrange
    simp only [decide_eq_false q, Bool.false_eq_true, if_false, e2, if_true]
    exact hrange

end Go.Proofs.YtondkjcmibnbpaaDoor.Pure
