/- The law FnVoted of the given program holds: for every input that the row lets in the call returns true and leaves its arguments as they were. No condition ahead of it. -/
import Derived.Test.YtondkjcmibnbpaaDoorPFnVotedx2
import Derived.Test.YtondkjcmibnbpaaDoorMine
namespace Go.Proofs.YtondkjcmibnbpaaDoor.Pure
open Go.RowKit Go.Proofs.YtondkjcmibnbpaaDoor.PFnVoted Go.Proofs.YtondkjcmibnbpaaDoorW.PrintWords Go.Proofs.YtondkjcmibnbpaaDoorW.PrintLast Go.Proofs.YtondkjcmibnbpaaDoorW.PrintMore Go.Proofs.YtondkjcmibnbpaaDoor.Mine
set_option linter.unusedVariables false
set_option linter.unusedSimpArgs false
theorem within_eq (a b c : Int) : impl_within.f a b c = some (decide (b ≤ a ∧ a ≤ c)) := by
  unfold impl_within.f; by_cases h : a ≥ b
  · rw [if_pos h]; simp; intro _; exact h
  · rw [if_neg h]; simp; intro h'; omega

def AllBit (s : ByteArray) : Prop := ∀ i : Int, 0 ≤ i → i < s.size → bt s i = 48 ∨ bt s i = 49
def IsBitS (s : ByteArray) : Prop := AllBit s ∧ (s.size : Int) ≤ 400
theorem bt_list (s : ByteArray) (i : Nat) (h : i < s.size) : bt s i = ((s.data.toList[i]'(by simpa using h)).toNat : Int) := by
  unfold bt
  simp only [Int.toNat_natCast, h, dif_pos]
  rfl
theorem dropWhile_nil (p : UInt8 → Bool) : ∀ l : List UInt8, l.dropWhile p = [] ↔ ∀ b ∈ l, p b = true
  | [] => by simp
  | x :: l => by
    rw [List.dropWhile_cons]
    cases h : p x with
    | true => simp [h, dropWhile_nil p l]
    | false => simp [h]
theorem trim_empty (l : List UInt8) : (Lib.trimS l [48, 49]).isEmpty = true ↔ ∀ b ∈ l, b = 48 ∨ b = 49 := by
  have key : ∀ p : UInt8 → Bool, List.dropWhile p (List.dropWhile p l.reverse).reverse = [] ↔ ∀ b ∈ l, p b = true := by
    intro p
    rw [dropWhile_nil]
    constructor
    · intro h
      by_cases e : List.dropWhile p l.reverse = []
      · have := (dropWhile_nil p _).1 e
        exact fun b hb => this b (by simpa using hb)
      · have hh := List.head_dropWhile_not p e
        have h3 := h ((List.dropWhile p l.reverse).head e) (by simp)
        rw [hh] at h3
        cases h3
    · intro h b hb
      have : List.dropWhile p l.reverse = [] := (dropWhile_nil p _).2 (fun b hb => h b (by simpa using hb))
      rw [this] at hb
      simp at hb
  unfold Lib.trimS Lib.trimRightS Lib.trimLeftS
  rw [List.isEmpty_iff, key]
  simp
theorem areBits_ev (s : ByteArray) (hs : s.size ≤ 140737488351232) : ∃ b, impl_areBits.f s = some b ∧ (b = true ↔ AllBit s) := by
  refine ⟨(Lib.trimS s.data.toList [48, 49]).isEmpty, by unfold impl_areBits.f; rw [if_pos (by omega)], ?_⟩
  rw [trim_empty]
  constructor
  · intro h i h0 h1
    obtain ⟨n, rfl⟩ : ∃ n : Nat, i = n := ⟨i.toNat, by omega⟩
    rw [bt_list s n (by omega)]
    rcases h _ (List.getElem_mem (l := s.data.toList) (n := n) (by simp; omega)) with e | e <;> rw [e]
    · exact Or.inl rfl
    · exact Or.inr rfl
  · intro h b hb
    obtain ⟨n, hn, rfl⟩ := List.getElem_of_mem hb
    have hn' : n < s.size := by simpa using hn
    have := h n (by omega) (by omega)
    rw [bt_list s n hn'] at this
    rcases this with e | e
    · left; apply UInt8.toNat_inj.1; show s.data.toList[n].toNat = 48; omega
    · right; apply UInt8.toNat_inj.1; show s.data.toList[n].toNat = 49; omega
theorem isBits_ev (s : ByteArray) (hs : s.size ≤ 140737488351232) : ∃ b, impl_IsBits.f s = some b ∧ (b = true ↔ IsBitS s) := by
  obtain ⟨b, hb, hi⟩ := areBits_ev s hs
  simp only [impl_IsBits.f, hb, Option.bind_some, IsBitS]
  by_cases h : (s.size : Int) ≤ 400
  · exact ⟨b, by rw [if_pos h], by rw [hi]; exact ⟨fun g => ⟨g, h⟩, fun g => g.1⟩⟩
  · exact ⟨false, by rw [if_neg h], by simp only [Bool.false_eq_true, false_iff]; exact fun g => h g.2⟩

theorem ba_ext {a b : ByteArray} (h : a.data.toList = b.data.toList) : a = b := by apply ByteArray.ext; exact Array.toList_inj.1 h
theorem sn_append (a b : List Int) : strOfNums (a ++ b) = strOfNums a ++ strOfNums b := by apply ba_ext; simp [strOfNums]
theorem sn_size (a : List Int) : (strOfNums a).size = a.length := by simp [strOfNums, ByteArray.size]
theorem sn_nil : strOfNums [] = (⟨#[]⟩ : ByteArray) := rfl
theorem bt_range (s : ByteArray) (i : Int) (h0 : 0 ≤ i) (h1 : i < s.size) : 0 ≤ bt s i ∧ bt s i < 256 := by
  obtain ⟨n, rfl⟩ : ∃ n : Nat, i = n := ⟨i.toNat, by omega⟩
  rw [bt_list s n (by omega)]
  have := (s.data.toList[n]'(by simp; omega)).toNat_lt
  omega
theorem extract_one (s : ByteArray) (n : Nat) (h : n < s.size) : (s.extract n (n + 1)).data.toList = [s.data.toList[n]'(by simpa using h)] := by
  have h' : n < s.data.size := h
  simp only [ByteArray.data_extract, Array.toList_extract, List.extract_eq_take_drop]
  rw [show n + 1 - n = 1 by omega, List.drop_eq_getElem_cons (show n < s.data.toList.length by simpa using h')]
  simp
theorem sn_one (s : ByteArray) (i : Int) (h0 : 0 ≤ i) (h1 : i < s.size) : strOfNums [bt s i] = s.extract i.toNat (i + 1).toNat := by
  obtain ⟨n, rfl⟩ : ∃ n : Nat, i = n := ⟨i.toNat, by omega⟩
  apply ba_ext
  rw [show ((n : Int) + 1).toNat = n + 1 by omega, Int.toNat_natCast, extract_one s n (by omega), bt_list s n (by omega)]
  simp [strOfNums]
theorem sn_rep (x : Int) : ∀ n, strOfNums (List.replicate n x) = ⟨(Lib.repeatL (strOfNums [x]).data.toList n).toArray⟩
  | 0 => by apply ba_ext; simp [strOfNums, Lib.repeatL]
  | n + 1 => by
    rw [List.replicate_succ, show x :: List.replicate n x = [x] ++ List.replicate n x from rfl, sn_append, sn_rep x n]
    apply ba_ext
    simp [Lib.repeatL]

theorem and255 (x : Int) : 0 ≤ Go.bits .and .u64 x 255 ∧ Go.bits .and .u64 x 255 ≤ 255 := by
  have h : (BitVec.ofInt 64 x &&& BitVec.ofInt 64 255).toNat ≤ 255 := by
    rw [BitVec.toNat_and]; exact Nat.le_trans Nat.and_le_right (by decide)
  have e : Go.bits .and .u64 x 255 = IntKind.u64.wrap ((BitVec.ofInt 64 x &&& BitVec.ofInt 64 255).toNat : Int) := rfl
  rw [e]
  generalize (BitVec.ofInt 64 x &&& BitVec.ofInt 64 255).toNat = n at h
  have e2 : IntKind.u64.wrap (n : Int) = (n : Int) % 18446744073709551616 := rfl
  rw [e2]; omega
def U8L (l : List Int) : Prop := ∀ x ∈ l, (Lit.int .u8 x).wf = true
theorem u8_rd {l : List Int} (h : U8L l) (i : Int) : 0 ≤ rd l i ∧ rd l i ≤ 255 := by
  unfold rd
  rw [List.getD_eq_getElem?_getD]
  cases e : l[i.toNat]? with
  | none => exact ⟨by decide, by decide⟩
  | some v =>
    have := h v (List.mem_of_getElem? e)
    simp only [Lit.wf, IntKind.min, IntKind.max, IntKind.signed, IntKind.bits, Bool.and_eq_true, decide_eq_true_eq, Bool.false_eq_true, if_false] at this
    simp only [Option.getD_some]
    omega
theorem next_ev (l : List Int) (hu : U8L l) (hl : l.length ≤ 2000000) (a s : Int) (h0 : 0 ≤ a) (h1 : a ≤ 1000000000000) : ∃ v s', spec_l00Src_next.f l a s = some (v, a + 1, s') ∧ 0 ≤ v ∧ v ≤ 255 := by
  have ha := and255 ((IntKind.u64.wrap ((IntKind.u64.wrap ((IntKind.u64.wrap (s * 6364136223846793005)) + (IntKind.u64.wrap (wrap64 (rd l a))))) + 1442695040888963407)) / 1099511627776)
  have hb := and255 ((IntKind.u64.wrap ((IntKind.u64.wrap ((IntKind.u64.wrap (s * 6364136223846793005)) + 0)) + 1442695040888963407)) / 1099511627776)
  have hr := u8_rd hu a
  have e1 : wrap64 (a + 1) = a + 1 := w64 (by omega) (by omega)
  simp only [spec_l00Src_next.f]
  rw [e1]
  by_cases c : a < (l.length : Int)
  · rw [if_pos c, if_pos h0]
    by_cases c2 : a + 1 ≤ (l.length : Int)
    · rw [if_pos c2]; refine ⟨_, _, rfl, ?_⟩; rw [w64 (Int.le_trans (by decide) hr.1) (Int.le_trans hr.2 (by decide))]; exact hr
    · rw [if_neg c2]; refine ⟨_, _, rfl, ?_⟩; rw [w64 (Int.le_trans (by decide) ha.1) (Int.le_trans ha.2 (by decide))]; exact ha
  · rw [if_neg c]
    by_cases c2 : a + 1 ≤ (l.length : Int)
    · rw [if_pos c2]; exact ⟨_, _, rfl, by decide⟩
    · rw [if_neg c2]; refine ⟨_, _, rfl, ?_⟩; rw [w64 (Int.le_trans (by decide) hb.1) (Int.le_trans hb.2 (by decide))]; exact hb
theorem tmod_range (x n : Int) (h0 : 0 ≤ x) (hn : 1 ≤ n) : 0 ≤ Int.tmod x n ∧ Int.tmod x n < n := by
  rw [Int.tmod_eq_emod_of_nonneg h0]
  exact ⟨Int.emod_nonneg _ (by omega), Int.emod_lt_of_pos _ (by omega)⟩
theorem pick_ev (l : List Int) (hu : U8L l) (hl : l.length ≤ 2000000) (n a s : Int) (h0 : 0 ≤ a) (h1 : a ≤ 100000000000) :
    ∃ v a' s', spec_l00Src_pick.f l a s n = some (v, a', s') ∧ 0 ≤ v ∧ (1 ≤ n → v < n) ∧ a ≤ a' ∧ a' ≤ a + 2 := by
  simp only [spec_l00Src_pick.f]
  by_cases c : n ≤ 1
  · rw [if_pos c]; exact ⟨0, a, s, rfl, by omega, by omega, by omega, by omega⟩
  obtain ⟨v, s', e, hv⟩ := next_ev l hu hl a s h0 (by omega)
  obtain ⟨v2, s2, e2, hv2⟩ := next_ev l hu hl (a + 1) s' (by omega) (by omega)
  have hn0 : ¬ n = 0 := by omega
  have t1 := tmod_range v n hv.1 (by omega)
  have t2 := tmod_range (v * 256 + v2) n (by omega) (by omega)
  have b1 : -9223372036854775808 ≤ v * 256 ∧ v * 256 ≤ 9223372036854775807 := by omega
  have b2 : -9223372036854775808 ≤ v * 256 + v2 ∧ v * 256 + v2 ≤ 9223372036854775807 := by omega
  rw [if_neg c, e, Option.bind_some]
  by_cases c2 : n > 200
  · refine ⟨_, a + 1 + 1, s2, ?_, t2.1, fun _ => t2.2, by omega, by omega⟩
    simp only [if_pos c2]
    rw [e2, Option.bind_some, if_neg hn0, w64 b1.1 b1.2, w64 b2.1 b2.2]
  · refine ⟨_, a + 1, s', ?_, t1.1, fun _ => t1.2, by omega, by omega⟩
    rw [if_neg c2, if_neg hn0]
theorem one_ev (l : List Int) (hu : U8L l) (hl : l.length ≤ 2000000) (n a s : Int) (h0 : 0 ≤ a) (h1 : a ≤ 100000000000) :
    ∃ c a' s', spec_l00Src_one.f l a s n = some (c, a', s') ∧ a ≤ a' ∧ a' ≤ a + 2 := by
  obtain ⟨v, a', s', e, -, -, h2, h3⟩ := pick_ev l hu hl n a s h0 h1
  exact ⟨_, a', s', by rw [spec_l00Src_one.f, e, Option.bind_some], h2, h3⟩
def Bit48 (x : List Int) : Prop := ∀ v ∈ x, v = 48 ∨ v = 49
theorem bit48_sn {y : List Int} (h : Bit48 y) : AllBit (strOfNums y) ∧ (strOfNums y).size = y.length := by
  refine ⟨?_, sn_size y⟩
  intro i h0 h1
  rw [sn_size] at h1
  obtain ⟨n, rfl⟩ : ∃ n : Nat, i = n := ⟨i.toNat, by omega⟩
  have hn : n < y.length := by omega
  rw [bt_list _ n (by rw [sn_size]; exact hn)]
  have e : ((strOfNums y).data.toList[n]'(by have := sn_size y; simp only [ByteArray.size] at this; rw [Array.length_toList]; omega)) = UInt8.ofNat (y[n]).toNat := by simp [strOfNums]
  rw [e]
  rcases h _ (List.getElem_mem hn) with g | g <;> rw [g]
  · exact .inl rfl
  · exact .inr rfl

theorem ex_size (s : ByteArray) (a b : Nat) (hb : b ≤ s.size) : (s.extract a b).size = b - a := by
  simp only [ByteArray.size_extract]; omega
theorem ex_list (s : ByteArray) (a b : Nat) : (s.extract a b).data.toList = (s.data.toList.drop a).take (b - a) := by
  simp only [ByteArray.data_extract, Array.toList_extract, List.extract_eq_take_drop]
theorem ex_ex (s : ByteArray) (a b c d : Nat) (h : a + d ≤ b) : (s.extract a b).extract c d = s.extract (a + c) (a + d) := by
  apply ba_ext
  rw [ex_list, ex_list, ex_list, List.drop_take, List.drop_drop, List.take_take]
  congr 1
  omega
theorem dl_size (s : ByteArray) : s.data.toList.length = s.size := Array.length_toList
theorem ex_whole (s : ByteArray) : s.extract 0 s.size = s := by
  apply ba_ext; rw [ex_list, List.drop_zero]; exact List.take_of_length_le (by rw [dl_size]; omega)
theorem bt_extract (s : ByteArray) (a b : Nat) (hb : b ≤ s.size) (j : Int) (h0 : 0 ≤ j) (h1 : j < (b : Int) - a) : bt (s.extract a b) j = bt s (a + j) := by
  obtain ⟨n, rfl⟩ : ∃ n : Nat, j = n := ⟨j.toNat, by omega⟩
  have hz := ex_size s a b hb
  rw [bt_list _ n (by omega), show (a : Int) + n = ((a + n : Nat) : Int) by omega, bt_list _ _ (by omega)]
  congr 2
  simp only [ex_list]
  rw [List.getElem_take, List.getElem_drop]
theorem AllBit_extract (s : ByteArray) (h : AllBit s) (a b : Nat) (hb : b ≤ s.size) : AllBit (s.extract a b) := by
  intro j h0 h1
  have hz := ex_size s a b hb
  rw [bt_extract s a b hb j h0 (by omega)]
  exact h _ (by omega) (by omega)
theorem nil_size (s : ByteArray) : s.toList = ([] : List UInt8) ↔ s.size = 0 := by
  rw [Lib.toList_data]
  show _ ↔ s.data.size = 0
  rw [← Array.length_toList]
  exact List.length_eq_zero_iff.symm

theorem count_ev (s : ByteArray) : strings_Count.f s (⟨#[49]⟩ : ByteArray) = some ((s.data.toList.count 49 : Nat) : Int) := by
  simp [strings_Count.f, Lib.countByte]
theorem bitOf_eq (b : Bool) : impl_bitOf.f b = some (strOfNums [if b = true then 49 else 48]) := by
  cases b <;> rfl

theorem b10At_ev (l : List Int) (hu : U8L l) (i n : Int) (h0 : 0 ≤ i) (h1 : i ≤ 1000000) (hn : 1 ≤ n) : ∃ v, laws_b10At.f l i n = some v ∧ 0 ≤ v ∧ v < n := by
  have hr := u8_rd hu i
  have ht := tmod_range (rd l i) n hr.1 hn
  have ht2 := tmod_range (i * 37 + 11) n (by omega) hn
  have hn0 : ¬ n = 0 := by omega
  have b1 : -9223372036854775808 ≤ i * 37 ∧ i * 37 ≤ 9223372036854775807 := by omega
  have b2 : -9223372036854775808 ≤ i * 37 + 11 ∧ i * 37 + 11 ≤ 9223372036854775807 := by omega
  simp only [laws_b10At.f]
  by_cases c : n ≤ 1
  · rw [if_pos c]; exact ⟨0, rfl, by omega, by omega⟩
  rw [if_neg c]
  by_cases c1 : i < (l.length : Int)
  · rw [if_pos c1, if_pos h0, if_neg hn0, w64 (Int.le_trans (by decide) hr.1) (Int.le_trans hr.2 (by decide))]
    exact ⟨_, rfl, ht⟩
  · rw [if_neg c1, if_neg hn0, w64 b1.1 b1.2, w64 b2.1 b2.2]
    exact ⟨_, rfl, ht2⟩
theorem b10Long_big (l0 l1 : List Int) (g : (l0.length : Int) > 1048576 ∨ (l1.length : Int) > 1048576) : laws_b10Long.f l0 l1 = some true := by
  simp only [laws_b10Long.f]
  by_cases g0 : (l0.length : Int) > 1048576
  · rw [if_pos g0]
  · rw [if_neg g0]; rcases g with g | g
    · exact absurd g g0
    · rw [decide_eq_true g]
theorem b10Long_small (l0 l1 : List Int) (g : ¬ ((l0.length : Int) > 1048576 ∨ (l1.length : Int) > 1048576)) : laws_b10Long.f l0 l1 = some false := by
  simp only [laws_b10Long.f]
  rw [if_neg (fun z => g (.inl z)), decide_eq_false (fun z => g (.inr z))]
theorem b10Bits_loop (l : List Int) (hu : U8L l) (hl : l.length ≤ 2000000) (d : Nat) : ∀ (x : List Int) (v a s : Int), Bit48 x → (v = 48 ∨ v = 49) → x.length + d ≤ 1000 → 0 ≤ a → a + 4 * d ≤ 100000000 →
    ∃ y, Bit48 y ∧ y.length = x.length + d ∧ Ev (fun k => spec_B10Bits.l0 k x v d l a s) (strOfNums y) := by
  induction d with
  | zero =>
    intro x v a s hx hv hd h0 h1
    exact ⟨x, hx, rfl, Ev_succ (by simp only [spec_B10Bits.l0, if_neg (show ¬ ((0 : Nat) : Int) > 0 by omega)]; exact Ev.now _)⟩
  | succ d ih =>
    intro x v a s hx hv hd h0 h1
    obtain ⟨c, a1, s1, e1, p1, p2⟩ := one_ev l hu hl 2 a s h0 (by omega)
    obtain ⟨q, a2, s2, e2, q1, q2, q3, q4⟩ := pick_ev l hu hl 2 a1 s1 (by omega) (by omega)
    have q2 := q2 (by omega)
    have b1 : -9223372036854775808 ≤ 48 + q ∧ 48 + q ≤ 9223372036854775807 := by omega
    have b2 : -9223372036854775808 ≤ (d : Int) ∧ (d : Int) ≤ 9223372036854775807 := by omega
    have b3 : ((d + 1 : Nat) : Int) - 1 = (d : Int) := by omega
    have b4 : ((d + 1 : Nat) : Int) > 0 := by omega
    have b5 : x.length < 140737488355328 := by omega
    have b6 : (48 + q) % 256 = 48 + q := by omega
    have hq : 48 + q = 48 ∨ 48 + q = 49 := by omega
    have app : ∀ u : Int, (u = 48 ∨ u = 49) → Bit48 (x ++ [u]) := by
      intro u hu' z hz
      rcases List.mem_append.1 hz with h | h
      · exact hx z h
      · rw [List.mem_singleton.1 h]; exact hu'
    cases c with
    | true =>
      obtain ⟨y, y1, y2, y3⟩ := ih (x ++ [48 + q]) (48 + q) a2 s2 (app _ hq) hq (by simp; omega) (by omega) (by omega)
      refine ⟨y, y1, by rw [y2]; simp; omega, Ev_succ ?_⟩
      simp only [spec_B10Bits.l0, if_pos b4, e1, Option.bind_some, if_true, e2, if_pos b5, w64 b1.1 b1.2, b6, b3, w64 b2.1 b2.2]
      exact y3
    | false =>
      obtain ⟨y, y1, y2, y3⟩ := ih (x ++ [v]) v a1 s1 (app _ hv) hv (by simp; omega) (by omega) (by omega)
      refine ⟨y, y1, by rw [y2]; simp; omega, Ev_succ ?_⟩
      simp only [spec_B10Bits.l0, if_pos b4, e1, Option.bind_some, Bool.false_eq_true, if_false, if_pos b5, b3, w64 b2.1 b2.2]
      exact y3
theorem b10Bits_ev (l : List Int) (hu : U8L l) (hl : l.length ≤ 2000000) : ∃ y, Bit48 y ∧ y.length ≤ 40 ∧ Ev (fun k => spec_B10Bits.f k l) (strOfNums y) := by
  obtain ⟨v, a, s, e, h0, h1, h2, h3⟩ := pick_ev l hu hl 41 0 0 (by omega) (by omega)
  have h1 := h1 (by omega)
  obtain ⟨n, rfl⟩ : ∃ n : Nat, v = n := ⟨v.toNat, by omega⟩
  obtain ⟨y, y1, y2, y3⟩ := b10Bits_loop l hu hl n [] 48 a s (by intro z hz; cases hz) (.inl rfl) (by simp; omega) (by omega) (by omega)
  refine ⟨y, y1, by rw [y2]; simp; omega, ?_⟩
  simp only [spec_B10Bits.f, spec_l00From.f, Option.bind_some, e]
  exact y3
theorem sn_data (z : List Int) : (strOfNums z).data.toList = z.map (fun n => UInt8.ofNat n.toNat) := by simp [strOfNums]
theorem bit_rd {y : List Int} (hy : Bit48 y) (i : Nat) (hi : i < y.length) : rd y i = y[i] ∧ (y[i] = 48 ∨ y[i] = 49) := by
  refine ⟨?_, hy _ (List.getElem_mem hi)⟩
  unfold rd; rw [Int.toNat_natCast, List.getD_eq_getElem?_getD, List.getElem?_eq_getElem hi]; rfl
theorem bytes_sn {z : List Int} (hz : Bit48 z) : bytesOf (strOfNums z) = z := by
  rw [bytesOf, sn_data, List.map_map]
  conv => rhs; rw [← List.map_id z]
  apply List.map_congr_left
  intro v hv
  rcases hz v hv with rfl | rfl <;> decide
theorem count_sn {z : List Int} (hz : Bit48 z) : (strOfNums z).data.toList.count 49 = z.count 49 := by
  rw [sn_data]
  induction z with
  | nil => rfl
  | cons v z ih =>
    have h2 := ih (fun w hw => hz w (List.mem_cons_of_mem _ hw))
    rw [List.map_cons, List.count_cons, List.count_cons, h2]
    rcases hz v (List.mem_cons_self) with rfl | rfl <;> rfl
theorem sn_cut (a b : List Int) : (strOfNums (a ++ b)).extract 0 a.length = strOfNums a ∧ (strOfNums (a ++ b)).extract a.length (strOfNums (a ++ b)).size = strOfNums b := by
  constructor
  · apply ba_ext
    rw [ex_list, sn_data, sn_data, List.drop_zero, List.map_append, Nat.sub_zero, List.take_left' (by simp)]
  · apply ba_ext
    rw [ex_list, sn_data, sn_data, List.map_append, List.drop_left' (by simp), sn_size, List.length_append, Nat.add_sub_cancel_left, List.take_of_length_le (by simp)]
def rep (t : Nat) (y : List Int) : List Int := y.flatMap (List.replicate t)
theorem rep_cons (t : Nat) (v : Int) (y : List Int) : rep t (v :: y) = List.replicate t v ++ rep t y := by simp [rep]
theorem rep_append (t : Nat) (x y : List Int) : rep t (x ++ y) = rep t x ++ rep t y := by simp [rep]
theorem rep_length (t : Nat) (y : List Int) : (rep t y).length = y.length * t := by
  induction y with
  | nil => simp [rep]
  | cons v y ih => rw [rep_cons, List.length_append, ih, List.length_replicate, List.length_cons, Nat.succ_mul]; omega
theorem rep_bit (t : Nat) {y : List Int} (hy : Bit48 y) : Bit48 (rep t y) := by
  intro v hv
  obtain ⟨w, hw, h⟩ := List.mem_flatMap.1 hv
  rw [(List.mem_replicate.1 h).2]; exact hy w hw
theorem rep_run (y : List Int) (hy : Bit48 y) (hn : y.length ≤ 40) (t : Nat) (ht : t ≤ 15) (d : Nat) : ∀ i : Nat, i + d = y.length →
    Ev (fun k => impl_RepeatBits.l0 k (strOfNums y) t (strOfNums (rep t (y.take i))) y.length i) (strOfNums (rep t y), true) := by
  induction d with
  | zero =>
    intro i hd
    refine Ev_succ ?_
    simp only [impl_RepeatBits.l0, if_neg (show ¬ (i : Int) < (y.length : Int) by omega), List.take_of_length_le (show y.length ≤ i by omega)]
    exact Ev.now _
  | succ d ih =>
    intro i hd
    have hi : i < y.length := by omega
    obtain ⟨r1, r2⟩ := bit_rd hy i hi
    have hz := sn_size y
    have hA := (bit48_sn hy).1 i (by omega) (by omega)
    have hcut : (strOfNums y).extract i (i + 1) = strOfNums [y[i]] := by
      apply ba_ext
      rw [ex_list, sn_data, sn_data, Nat.add_sub_cancel_left, ← List.map_drop, ← List.map_take, List.drop_eq_getElem_cons hi]
      rfl
    have hx : (strOfNums [y[i]]).size = 1 := by rw [sn_size]; rfl
    have hr : strings_Repeat.f (strOfNums [y[i]]) t = some (strOfNums (List.replicate t y[i])) := by
      simp only [strings_Repeat.f]
      rw [if_pos ⟨by omega, by omega, by rw [hx]; omega⟩, Int.toNat_natCast, ← sn_rep]
    have b1 : -9223372036854775808 ≤ ((i + 1 : Nat) : Int) ∧ ((i + 1 : Nat) : Int) ≤ 9223372036854775807 := by omega
    have b2 : (i : Int) + 1 = ((i + 1 : Nat) : Int) := by omega
    have b3 : (i : Int) < (y.length : Int) := by omega
    have b4 : (0 : Int) ≤ i := by omega
    have b5 : (i : Int) ≤ ((i + 1 : Nat) : Int) := by omega
    have b6 : ((i + 1 : Nat) : Int) ≤ ((strOfNums y).size : Int) := by omega
    have hzt : (strOfNums (List.replicate t y[i])).size = t := by rw [sn_size, List.length_replicate]
    have hl : (strOfNums (rep t (y.take i))).size ≤ 600 := by
      rw [sn_size, rep_length, List.length_take]
      exact Nat.le_trans (Nat.mul_le_mul (show min i y.length ≤ 40 by omega) ht) (by decide)
    have b7 : (strOfNums (rep t (y.take i))).size + (strOfNums (List.replicate t y[i])).size ≤ 9223372036854775807 := by omega
    have hstep : strOfNums (rep t (y.take i)) ++ strOfNums (List.replicate t y[i]) = strOfNums (rep t (y.take (i + 1))) := by
      rw [← sn_append, List.take_succ_eq_append_getElem hi, rep_append, rep_cons]
      congr 1; simp [rep]
    refine Ev_succ ?_
    simp only [impl_RepeatBits.l0, if_pos b3, if_pos b4, b2, w64 b1.1 b1.2, if_pos b5, if_pos b6, Int.toNat_natCast, hcut, hr, Option.bind_some, if_pos b7, hstep]
    exact ih (i + 1) (by omega)
def voteB (t : Nat) (b : List Int) : Int := if 2 * (b.count 49 : Int) > t then 49 else 48
theorem vote_abs (s e f o p : ByteArray) (t c : Nat) (v : Int) (ht : t ≤ 15) (hcl : c ≤ t) (hv0 : v = if 2 * (c : Int) > t then 49 else 48) (hb2 : t ≤ s.size) (hne : ¬ s.toList = []) (e1 : s.extract 0 t = e) (e2 : s.extract t s.size = f) (hc : strings_Count.f e (⟨#[49]⟩ : ByteArray) = some (c : Int)) (ho : o.size ≤ 1000) (hp : o ++ strOfNums [v] = p) (r : ByteArray × Bool)
    (h : Ev (fun k => impl_VoteBits.l0 k f t p) r) : Ev (fun k => impl_VoteBits.l0 k s t o) r := by
  have b1 : -9223372036854775808 ≤ 2 * (c : Int) ∧ 2 * (c : Int) ≤ 9223372036854775807 := by omega
  have b2 : (t : Int) ≤ (s.size : Int) := by omega
  have b3 : (0 : Int) ≤ t := by omega
  have hv : impl_bitOf.f (decide (wrap64 (2 * (c : Int)) > (t : Int))) = some (strOfNums [v]) := by
    rw [w64 b1.1 b1.2, bitOf_eq, hv0]
    by_cases g : 2 * (c : Int) > (t : Int)
    · rw [decide_eq_true g, if_pos rfl, if_pos g]
    · rw [decide_eq_false g, if_neg (by decide), if_neg g]
  have hsv : (strOfNums [v]).size = 1 := by rw [sn_size]; rfl
  have b4 : o.size + (strOfNums [v]).size ≤ 9223372036854775807 := by rw [hsv]; omega
  refine Ev_succ ?_
  simp only [impl_VoteBits.l0, if_neg hne, if_pos b3, if_pos b2, Int.toNat_natCast, e1]
  refine Ev.bind (a := (c : Int)) (Ev_eq (fun _ => hc)) ?_
  refine Ev.bind (a := strOfNums [v]) (Ev_eq (fun _ => hv)) ?_
  simp only [if_pos b4, hp, e2]
  exact h
theorem vote_cons (t : Nat) (ht0 : 1 ≤ t) (ht : t ≤ 15) (b R : List Int) (hbl : b.length = t) (hbb : Bit48 b) (out : List Int) (ho : out.length ≤ 1000) (r : ByteArray × Bool)
    (h : Ev (fun k => impl_VoteBits.l0 k (strOfNums R) t (strOfNums (out ++ [voteB t b]))) r) : Ev (fun k => impl_VoteBits.l0 k (strOfNums (b ++ R)) t (strOfNums out)) r := by
  have hs : (strOfNums (b ++ R)).size = t + R.length := by rw [sn_size, List.length_append, hbl]
  have hc := count_ev (strOfNums b)
  rw [count_sn hbb] at hc
  refine vote_abs _ (strOfNums b) (strOfNums R) _ (strOfNums (out ++ [voteB t b])) t (b.count 49) (voteB t b) ht ?_ rfl ?_ ?_ ?_ ?_ hc ?_ ?_ r h
  · rw [← hbl]; exact List.count_le_length
  · rw [hs]; exact Nat.le_add_right _ _
  · rw [nil_size, hs]; omega
  · rw [← hbl]; exact (sn_cut b R).1
  · rw [← hbl]; exact (sn_cut b R).2
  · rw [sn_size]; exact ho
  · rw [← sn_append]
theorem vote_run (t : Nat) (ht0 : 1 ≤ t) (ht : t ≤ 15) (bs : List (List Int)) : ∀ out : List Int, out.length + bs.length ≤ 1000 → (∀ b ∈ bs, b.length = t ∧ Bit48 b) →
    Ev (fun k => impl_VoteBits.l0 k (strOfNums bs.flatten) t (strOfNums out)) (strOfNums (out ++ bs.map (voteB t)), true) := by
  induction bs with
  | nil =>
    intro out _ _
    refine Ev_succ ?_
    simp only [impl_VoteBits.l0, List.flatten_nil, if_pos ((nil_size (strOfNums [])).2 rfl), List.map_nil, List.append_nil]
    exact Ev.now _
  | cons b bs ih =>
    intro out hl hb
    obtain ⟨hbl, hbb⟩ := hb b List.mem_cons_self
    rw [List.length_cons] at hl
    have h2 := ih (out ++ [voteB t b]) (by rw [List.length_append, List.length_singleton]; omega) (fun c hc => hb c (List.mem_cons_of_mem _ hc))
    rw [List.append_assoc, List.singleton_append] at h2
    rw [List.flatten_cons, List.map_cons]
    exact vote_cons t ht0 ht b bs.flatten hbl hbb out (by omega) _ h2
theorem isVotes_ok (t : Nat) (h0 : 1 ≤ t) (h1 : t ≤ 15) (ho : t % 2 = 1) : impl_isVotes.f t = some true := by
  have : (1 : Int) ≤ t ∧ (t : Int) ≤ 15 := by omega
  have h2 : Int.tmod (t : Int) 2 = 1 := by rw [Int.tmod_eq_emod_of_nonneg (by omega)]; omega
  simp only [impl_isVotes.f, within_eq, Option.bind_some, decide_eq_true this, if_true, h2]; rfl
theorem isBits_ok {z : List Int} (hz : Bit48 z) (hl : z.length ≤ 400) : impl_IsBits.f (strOfNums z) = some true := by
  obtain ⟨hA, hn⟩ := bit48_sn hz
  obtain ⟨b, hb, hi⟩ := isBits_ev (strOfNums z) (by omega)
  rw [hb, hi.2 ⟨hA, by omega⟩]
theorem set_mid (P A R : List Int) (v w : Int) : (P ++ A ++ v :: R).set (P.length + A.length) w = P ++ (A ++ [w]) ++ R := by
  rw [List.set_append_right _ _ (by simp)]
  simp
theorem rd_mid (P A R : List Int) (v : Int) (j : Int) (hj : j = ((P.length + A.length : Nat) : Int)) : rd (P ++ A ++ v :: R) j = v := by
  subst hj
  unfold rd
  rw [Int.toNat_natCast, List.getD_eq_getElem?_getD, List.getElem?_append_right (by simp)]
  simp
def bentB (t : Nat) (c : Bool) (v : Int) : List Int := if c = true then List.replicate (t / 2) (97 - v) ++ List.replicate (t - t / 2) v else List.replicate t v
theorem bent_good (t : Nat) (ho : t % 2 = 1) (c : Bool) (v : Int) (hv : v = 48 ∨ v = 49) : (bentB t c v).length = t ∧ Bit48 (bentB t c v) ∧ voteB t (bentB t c v) = v := by
  cases c with
  | false =>
    refine ⟨by simp [bentB], ?_, ?_⟩
    · intro w hw
      simp only [bentB, Bool.false_eq_true, if_false] at hw
      rw [(List.mem_replicate.1 hw).2]; exact hv
    · simp only [voteB, bentB, Bool.false_eq_true, if_false, List.count_replicate]
      rcases hv with rfl | rfl
      · rw [if_neg (by simp)]
      · rw [if_pos (by simp; omega)]
  | true =>
    refine ⟨by simp [bentB]; omega, ?_, ?_⟩
    · intro w hw
      simp only [bentB, if_true] at hw
      rcases List.mem_append.1 hw with h | h
      · rw [(List.mem_replicate.1 h).2]; omega
      · rw [(List.mem_replicate.1 h).2]; exact hv
    · simp only [voteB, bentB, if_true, List.count_append, List.count_replicate]
      rcases hv with rfl | rfl
      · rw [if_neg (by simp; omega)]
      · rw [if_pos (by simp; omega)]
theorem bend_inner (l1 : List Int) (s : ByteArray) (t : Nat) (ht : t ≤ 15) (v : Int) (hv : v = 48 ∨ v = 49) (i : Nat) (hi : i ≤ 40) (q : Int) (hq : laws_b10At.f l1 ((i + 1 : Nat) : Int) 2 = some q) (P R : List Int) (hP : P.length = i * t) (r : Bool)
    (hnext : Ev (fun k => laws_FnVoted.l0 k l1 s t (P ++ bentB t (decide (q = 1)) v ++ R) ((i + 1 : Nat) : Int)) r) (d : Nat) : ∀ x : Nat, x + d = t / 2 →
    Ev (fun k => laws_FnVoted.l1 k l1 s t (P ++ (if q = 1 then List.replicate x (97 - v) ++ List.replicate (t - x) v else List.replicate t v) ++ R) i x) r := by
  have a1 : -9223372036854775808 ≤ ((i + 1 : Nat) : Int) ∧ ((i + 1 : Nat) : Int) ≤ 9223372036854775807 := by omega
  have a2 : (i : Int) + 1 = ((i + 1 : Nat) : Int) := by omega
  have a3 : Int.tdiv (t : Int) 2 = ((t / 2 : Nat) : Int) := by rw [Int.tdiv_eq_ediv_of_nonneg (by omega)]; omega
  have a4 : -9223372036854775808 ≤ ((t / 2 : Nat) : Int) ∧ ((t / 2 : Nat) : Int) ≤ 9223372036854775807 := by omega
  have hit : i * t ≤ 600 := Nat.le_trans (Nat.mul_le_mul hi ht) (by decide)
  induction d with
  | zero =>
    intro x hd
    have hx : x = t / 2 := by omega
    have c1 : ¬ (x : Int) < ((t / 2 : Nat) : Int) := by omega
    refine Ev_succ ?_
    simp only [laws_FnVoted.l1, a3, w64 a4.1 a4.2, if_neg c1, a2, w64 a1.1 a1.2]
    have e : (if q = 1 then List.replicate x (97 - v) ++ List.replicate (t - x) v else List.replicate t v) = bentB t (decide (q = 1)) v := by
      rw [hx, bentB]; simp
    rw [e]; exact hnext
  | succ d ih =>
    intro x hd
    have c1 : (x : Int) < ((t / 2 : Nat) : Int) := by omega
    have b1 : -9223372036854775808 ≤ ((x + 1 : Nat) : Int) ∧ ((x + 1 : Nat) : Int) ≤ 9223372036854775807 := by omega
    have b2 : (x : Int) + 1 = ((x + 1 : Nat) : Int) := by omega
    have h2 := ih (x + 1) (by omega)
    refine Ev_succ ?_
    by_cases g : q = 1
    · have hm : (i : Int) * (t : Int) = ((i * t : Nat) : Int) := by rw [Int.natCast_mul]
      have b3 : -9223372036854775808 ≤ ((i * t : Nat) : Int) ∧ ((i * t : Nat) : Int) ≤ 9223372036854775807 := by omega
      have b4 : -9223372036854775808 ≤ ((i * t + x : Nat) : Int) ∧ ((i * t + x : Nat) : Int) ≤ 9223372036854775807 := by omega
      have b5 : ((i * t : Nat) : Int) + (x : Int) = ((i * t + x : Nat) : Int) := by omega
      have b6 : (0 : Int) ≤ ((i * t + x : Nat) : Int) := by omega
      obtain ⟨m, hm2⟩ : ∃ m, t - x = m + 1 := ⟨t - x - 1, by omega⟩
      have hm3 : t - (x + 1) = m := by omega
      have e1 : P ++ (List.replicate x (97 - v) ++ List.replicate (m + 1) v) ++ R = P ++ List.replicate x (97 - v) ++ v :: (List.replicate m v ++ R) := by rw [List.replicate_succ]; simp
      have e2 : P ++ (List.replicate x (97 - v) ++ [97 - v]) ++ (List.replicate m v ++ R) = P ++ (List.replicate (x + 1) (97 - v) ++ List.replicate m v) ++ R := by rw [List.replicate_succ']; simp
      have b7 : ((i * t + x : Nat) : Int) < ((P ++ List.replicate x (97 - v) ++ v :: (List.replicate m v ++ R)).length : Int) := by
        simp only [List.length_append, List.length_replicate, List.length_cons, hP]; omega
      have hrd := rd_mid P (List.replicate x (97 - v)) (List.replicate m v ++ R) v ((i * t + x : Nat) : Int) (by rw [List.length_replicate, hP])
      have hset := set_mid P (List.replicate x (97 - v)) (List.replicate m v ++ R) v (97 - v)
      rw [List.length_replicate, hP] at hset
      have b8 : (97 - v) % 256 = 97 - v := by omega
      rw [if_pos g] at h2
      rw [hm3, ← e2] at h2
      simp only [laws_FnVoted.l1, a3, w64 a4.1 a4.2, if_pos c1, a2, w64 a1.1 a1.2, hq, Option.bind_some, if_pos g, hm, w64 b3.1 b3.2, b5, w64 b4.1 b4.2, if_pos b6, hm2, e1, if_pos b7, hrd, b8, Int.toNat_natCast, hset, b2, w64 b1.1 b1.2]
      exact h2
    · rw [if_neg g] at h2
      simp only [laws_FnVoted.l1, a3, w64 a4.1 a4.2, if_pos c1, a2, w64 a1.1 a1.2, hq, Option.bind_some, if_neg g, b2, w64 b1.1 b1.2]
      exact h2
theorem bend_outer (l1 : List Int) (hu : U8L l1) (y : List Int) (hy : Bit48 y) (hn : y.length ≤ 40) (t : Nat) (ht0 : 1 ≤ t) (ht : t ≤ 7) (ho : t % 2 = 1) (d : Nat) : ∀ (i : Nat) (bs : List (List Int)), i + d = y.length → bs.length = i → (∀ b ∈ bs, b.length = t ∧ Bit48 b) → bs.map (voteB t) = y.take i →
    Ev (fun k => laws_FnVoted.l0 k l1 (strOfNums y) t (bs.flatten ++ rep t (y.drop i)) i) true := by
  induction d with
  | zero =>
    intro i bs hd hl hb hv
    have hi : y.length ≤ i := by omega
    rw [List.take_of_length_le hi] at hv
    have c1 : ¬ (i : Int) < ((strOfNums y).size : Int) := by rw [sn_size]; omega
    have hfl : bs.flatten.length = bs.length * t := by
      clear hv hl hd
      induction bs with
      | nil => simp
      | cons b bs ih2 =>
        rw [List.flatten_cons, List.length_append, ih2 (fun c hc => hb c (List.mem_cons_of_mem _ hc)), (hb b List.mem_cons_self).1, List.length_cons, Nat.succ_mul]; omega
    have hfb : Bit48 bs.flatten := by
      intro v hv2
      obtain ⟨b, hb1, hb2⟩ := List.mem_flatten.1 hv2
      exact (hb b hb1).2 v hb2
    have hlen : bs.flatten.length ≤ 400 := by
      rw [hfl]; exact Nat.le_trans (Nat.mul_le_mul (show bs.length ≤ 40 by omega) ht) (by decide)
    have hz := sn_size bs.flatten
    have ht1 : ¬ (t : Int) = 0 := by omega
    have hmod : (((strOfNums bs.flatten).size : Int) % (t : Int) != 0) = false := by
      rw [bne_eq_false_iff_eq, hz, hfl, Int.natCast_mul, Int.mul_emod_left]
    have hrun := vote_run t ht0 (by omega) bs [] (by simp; omega) hb
    refine Ev_succ ?_
    simp only [laws_FnVoted.l0, if_neg c1]
    rw [show y.drop i = [] from List.drop_eq_nil_of_le hi, show rep t [] = [] from rfl, List.append_nil]
    refine Ev.bind (a := (strOfNums y, true)) ?_ ?_
    · simp only [impl_VoteBits.f, isBits_ok hfb hlen, isVotes_ok t ht0 (by omega) ho, Option.bind_some, if_true, if_neg ht1, hmod]
      refine Ev_succ ?_
      simp only [impl_VoteBits.j0, Bool.false_eq_true, if_false]
      rw [List.nil_append, hv] at hrun
      exact hrun
    · simp only [if_true, beq_self_eq_true]; exact Ev.now _
  | succ d ih =>
    intro i bs hd hl hb hv
    have hi : i < y.length := by omega
    obtain ⟨r1, r2⟩ := bit_rd hy i hi
    obtain ⟨q, hq, q0, q1⟩ := b10At_ev l1 hu ((i + 1 : Nat) : Int) 2 (by omega) (by omega) (by omega)
    obtain ⟨g1, g2, g3⟩ := bent_good t ho (decide (q = 1)) y[i] r2
    have h2 := ih (i + 1) (bs ++ [bentB t (decide (q = 1)) y[i]]) (by omega) (by simp; omega) (by
      intro b hb2
      rcases List.mem_append.1 hb2 with h | h
      · exact hb b h
      · rw [List.mem_singleton.1 h]; exact ⟨g1, g2⟩) (by rw [List.map_append, hv, List.map_singleton, g3, List.take_succ_eq_append_getElem hi])
    rw [List.flatten_append, List.flatten_singleton] at h2
    have hfl : bs.flatten.length = i * t := by
      rw [← hl]
      clear hv hl hd h2
      induction bs with
      | nil => simp
      | cons b bs ih2 =>
        rw [List.flatten_cons, List.length_append, ih2 (fun c hc => hb c (List.mem_cons_of_mem _ hc)), (hb b List.mem_cons_self).1, List.length_cons, Nat.succ_mul]; omega
    have hin := bend_inner l1 (strOfNums y) t (by omega) y[i] r2 i (by omega) q hq bs.flatten (rep t (y.drop (i + 1))) hfl true h2 (t / 2) 0 (by omega)
    have e : (if q = 1 then List.replicate 0 (97 - y[i]) ++ List.replicate (t - 0) y[i] else List.replicate t y[i]) = List.replicate t y[i] := by
      split <;> simp
    rw [e] at hin
    have c1 : (i : Int) < ((strOfNums y).size : Int) := by rw [sn_size]; omega
    refine Ev_succ ?_
    simp only [laws_FnVoted.l0, if_pos c1]
    rw [List.drop_eq_getElem_cons hi, rep_cons, ← List.append_assoc]
    exact hin
theorem FnVoted : laws_FnVoted.Pure := by
  intro l0 l1 h1 h2 h3 h4 h5 h6
  apply Ev.rounds
  simp only [laws_FnVoted.f]
  by_cases g : (l0.length : Int) > 1048576 ∨ (l1.length : Int) > 1048576
  · simp only [b10Long_big l0 l1 g, Option.bind_some, if_true]; exact Ev.now _
  obtain ⟨y, hy, hyl, hbits⟩ := b10Bits_ev l0 h3 (by omega)
  obtain ⟨v, hv, v0, v1⟩ := b10At_ev l1 h6 0 4 (by omega) (by omega) (by omega)
  obtain ⟨m, rfl⟩ : ∃ n : Nat, v = n := ⟨v.toNat, by omega⟩
  obtain ⟨t, ht⟩ : ∃ t : Nat, t = 1 + 2 * m := ⟨_, rfl⟩
  have b1 : -9223372036854775808 ≤ 2 * (m : Int) ∧ 2 * (m : Int) ≤ 9223372036854775807 := by omega
  have b2 : -9223372036854775808 ≤ (t : Int) ∧ (t : Int) ≤ 9223372036854775807 := by omega
  have b3 : 1 + 2 * (m : Int) = (t : Int) := by omega
  have hzy := sn_size y
  have hm : y.length * t ≤ 280 := Nat.le_trans (Nat.mul_le_mul hyl (show t ≤ 7 by omega)) (by decide)
  have b4 : -9223372036854775808 ≤ ((y.length * t : Nat) : Int) ∧ ((y.length * t : Nat) : Int) ≤ 9223372036854775807 := by omega
  have b5 : ((strOfNums y).size : Int) * (t : Int) = ((y.length * t : Nat) : Int) := by rw [hzy, Int.natCast_mul]
  have b6 : (t : Int) * ((strOfNums y).size : Int) = ((y.length * t : Nat) : Int) := by rw [Int.mul_comm, b5]
  have b7 : ¬ ((y.length * t : Nat) : Int) > 400 := by omega
  have hR : Ev (fun k => impl_RepeatBits.f k (strOfNums y) t) (strOfNums (rep t y), true) := by
    simp only [impl_RepeatBits.f, isBits_ok hy (by omega), isVotes_ok t (by omega) (by omega) (by omega), Option.bind_some, if_true, b5, w64 b4.1 b4.2, decide_eq_false b7]
    refine Ev_succ ?_
    simp only [impl_RepeatBits.j0, Bool.false_eq_true, if_false, hzy]
    exact rep_run y hy hyl t (by omega) y.length 0 (by omega)
  have hzr : (strOfNums (rep t y)).size = y.length * t := by rw [sn_size, rep_length]
  have b8 : (((strOfNums (rep t y)).size : Int) != ((y.length * t : Nat) : Int)) = false := by rw [bne_eq_false_iff_eq, hzr]
  have b9 : (strOfNums (rep t y)).size < 140737488355328 := by omega
  simp only [b10Long_small l0 l1 g, Option.bind_some, Bool.false_eq_true, if_false]
  refine Ev.bind hbits ?_
  simp only [hv, Option.bind_some, w64 b1.1 b1.2, b3, w64 b2.1 b2.2]
  refine Ev.bind hR ?_
  simp only [if_true, b6, w64 b4.1 b4.2, b8]
  refine Ev_succ ?_
  simp only [laws_FnVoted.j0, Bool.false_eq_true, if_false, if_pos b9, bytes_sn (rep_bit t hy)]
  exact bend_outer l1 h6 y hy hyl t (by omega) (by omega) (by omega) y.length 0 [] (by omega) rfl (by intro b hb; cases hb) (by simp)

end Go.Proofs.YtondkjcmibnbpaaDoor.Pure
