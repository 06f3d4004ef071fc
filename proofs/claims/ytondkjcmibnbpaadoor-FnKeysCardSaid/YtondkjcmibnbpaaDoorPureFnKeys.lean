/- The law FnKeys of the given program holds: for every input that the row lets in the call returns true and leaves its arguments as they were. No condition ahead of it. -/
import Derived.Test.YtondkjcmibnbpaaDoorPFnKeysx10
import Derived.Test.YtondkjcmibnbpaaDoorMine
namespace Go.Proofs.YtondkjcmibnbpaaDoor.Pure
open Go.RowKit Go.Proofs.YtondkjcmibnbpaaDoor.PFnKeys Go.Proofs.YtondkjcmibnbpaaDoorW.PrintWords Go.Proofs.YtondkjcmibnbpaaDoorW.PrintLast Go.Proofs.YtondkjcmibnbpaaDoorW.PrintMore Go.Proofs.YtondkjcmibnbpaaDoor.Mine
set_option linter.unusedVariables false
set_option linter.unusedSimpArgs false
theorem within_eq (a b c : Int) : impl_within.f a b c = some (decide (b ≤ a ∧ a ≤ c)) := by
  unfold impl_within.f; by_cases h : a ≥ b
  · rw [if_pos h]; simp; intro _; exact h
  · rw [if_neg h]; simp; intro h'; omega

def AllBit (s : ByteArray) : Prop := ∀ i : Int, 0 ≤ i → i < s.size → bt s i = 48 ∨ bt s i = 49
def IsBitS (s : ByteArray) : Prop := AllBit s ∧ (s.size : Int) ≤ 400
theorem bt_list (s : ByteArray) (i : Nat) (h : i < s.size) : bt s i = ((s.data.toList[i]'(by simpa using h)).toNat : Int) := by
  unfold bt
  simp only [Int.toNat_natCast, h, dif_pos]
  rfl
theorem dropWhile_nil (p : UInt8 → Bool) : ∀ l : List UInt8, l.dropWhile p = [] ↔ ∀ b ∈ l, p b = true
  | [] => by simp
  | x :: l => by
    rw [List.dropWhile_cons]
    cases h : p x with
    | true => simp [h, dropWhile_nil p l]
    | false => simp [h]
theorem trim_empty (l : List UInt8) : (Lib.trimS l [48, 49]).isEmpty = true ↔ ∀ b ∈ l, b = 48 ∨ b = 49 := by
  have key : ∀ p : UInt8 → Bool, List.dropWhile p (List.dropWhile p l.reverse).reverse = [] ↔ ∀ b ∈ l, p b = true := by
    intro p
    rw [dropWhile_nil]
    constructor
    · intro h
      by_cases e : List.dropWhile p l.reverse = []
      · have := (dropWhile_nil p _).1 e
        exact fun b hb => this b (by simpa using hb)
      · have hh := List.head_dropWhile_not p e
        have h3 := h ((List.dropWhile p l.reverse).head e) (by simp)
        rw [hh] at h3
        cases h3
    · intro h b hb
      have : List.dropWhile p l.reverse = [] := (dropWhile_nil p _).2 (fun b hb => h b (by simpa using hb))
      rw [this] at hb
      simp at hb
  unfold Lib.trimS Lib.trimRightS Lib.trimLeftS
  rw [List.isEmpty_iff, key]
  simp
theorem areBits_ev (s : ByteArray) (hs : s.size ≤ 140737488351232) : ∃ b, impl_areBits.f s = some b ∧ (b = true ↔ AllBit s) := by
  refine ⟨(Lib.trimS s.data.toList [48, 49]).isEmpty, by unfold impl_areBits.f; rw [if_pos (by omega)], ?_⟩
  rw [trim_empty]
  constructor
  · intro h i h0 h1
    obtain ⟨n, rfl⟩ : ∃ n : Nat, i = n := ⟨i.toNat, by omega⟩
    rw [bt_list s n (by omega)]
    rcases h _ (List.getElem_mem (l := s.data.toList) (n := n) (by simp; omega)) with e | e <;> rw [e]
    · exact Or.inl rfl
    · exact Or.inr rfl
  · intro h b hb
    obtain ⟨n, hn, rfl⟩ := List.getElem_of_mem hb
    have hn' : n < s.size := by simpa using hn
    have := h n (by omega) (by omega)
    rw [bt_list s n hn'] at this
    rcases this with e | e
    · left; apply UInt8.toNat_inj.1; show s.data.toList[n].toNat = 48; omega
    · right; apply UInt8.toNat_inj.1; show s.data.toList[n].toNat = 49; omega
theorem isBits_ev (s : ByteArray) (hs : s.size ≤ 140737488351232) : ∃ b, impl_IsBits.f s = some b ∧ (b = true ↔ IsBitS s) := by
  obtain ⟨b, hb, hi⟩ := areBits_ev s hs
  simp only [impl_IsBits.f, hb, Option.bind_some, IsBitS]
  by_cases h : (s.size : Int) ≤ 400
  · exact ⟨b, by rw [if_pos h], by rw [hi]; exact ⟨fun g => ⟨g, h⟩, fun g => g.1⟩⟩
  · exact ⟨false, by rw [if_neg h], by simp only [Bool.false_eq_true, false_iff]; exact fun g => h g.2⟩

theorem ba_ext {a b : ByteArray} (h : a.data.toList = b.data.toList) : a = b := by apply ByteArray.ext; exact Array.toList_inj.1 h
theorem sn_append (a b : List Int) : strOfNums (a ++ b) = strOfNums a ++ strOfNums b := by apply ba_ext; simp [strOfNums]
theorem sn_size (a : List Int) : (strOfNums a).size = a.length := by simp [strOfNums, ByteArray.size]
theorem sn_nil : strOfNums [] = (⟨#[]⟩ : ByteArray) := rfl
theorem bt_range (s : ByteArray) (i : Int) (h0 : 0 ≤ i) (h1 : i < s.size) : 0 ≤ bt s i ∧ bt s i < 256 := by
  obtain ⟨n, rfl⟩ : ∃ n : Nat, i = n := ⟨i.toNat, by omega⟩
  rw [bt_list s n (by omega)]
  have := (s.data.toList[n]'(by simp; omega)).toNat_lt
  omega
theorem extract_one (s : ByteArray) (n : Nat) (h : n < s.size) : (s.extract n (n + 1)).data.toList = [s.data.toList[n]'(by simpa using h)] := by
  have h' : n < s.data.size := h
  simp only [ByteArray.data_extract, Array.toList_extract, List.extract_eq_take_drop]
  rw [show n + 1 - n = 1 by omega, List.drop_eq_getElem_cons (show n < s.data.toList.length by simpa using h')]
  simp
theorem sn_one (s : ByteArray) (i : Int) (h0 : 0 ≤ i) (h1 : i < s.size) : strOfNums [bt s i] = s.extract i.toNat (i + 1).toNat := by
  obtain ⟨n, rfl⟩ : ∃ n : Nat, i = n := ⟨i.toNat, by omega⟩
  apply ba_ext
  rw [show ((n : Int) + 1).toNat = n + 1 by omega, Int.toNat_natCast, extract_one s n (by omega), bt_list s n (by omega)]
  simp [strOfNums]
theorem sn_rep (x : Int) : ∀ n, strOfNums (List.replicate n x) = ⟨(Lib.repeatL (strOfNums [x]).data.toList n).toArray⟩
  | 0 => by apply ba_ext; simp [strOfNums, Lib.repeatL]
  | n + 1 => by
    rw [List.replicate_succ, show x :: List.replicate n x = [x] ++ List.replicate n x from rfl, sn_append, sn_rep x n]
    apply ba_ext
    simp [Lib.repeatL]

theorem and255 (x : Int) : 0 ≤ Go.bits .and .u64 x 255 ∧ Go.bits .and .u64 x 255 ≤ 255 := by
  have h : (BitVec.ofInt 64 x &&& BitVec.ofInt 64 255).toNat ≤ 255 := by
    rw [BitVec.toNat_and]; exact Nat.le_trans Nat.and_le_right (by decide)
  have e : Go.bits .and .u64 x 255 = IntKind.u64.wrap ((BitVec.ofInt 64 x &&& BitVec.ofInt 64 255).toNat : Int) := rfl
  rw [e]
  generalize (BitVec.ofInt 64 x &&& BitVec.ofInt 64 255).toNat = n at h
  have e2 : IntKind.u64.wrap (n : Int) = (n : Int) % 18446744073709551616 := rfl
  rw [e2]; omega
def U8L (l : List Int) : Prop := ∀ x ∈ l, (Lit.int .u8 x).wf = true
theorem u8_rd {l : List Int} (h : U8L l) (i : Int) : 0 ≤ rd l i ∧ rd l i ≤ 255 := by
  unfold rd
  rw [List.getD_eq_getElem?_getD]
  cases e : l[i.toNat]? with
  | none => exact ⟨by decide, by decide⟩
  | some v =>
    have := h v (List.mem_of_getElem? e)
    simp only [Lit.wf, IntKind.min, IntKind.max, IntKind.signed, IntKind.bits, Bool.and_eq_true, decide_eq_true_eq, Bool.false_eq_true, if_false] at this
    simp only [Option.getD_some]
    omega
theorem next_ev (l : List Int) (hu : U8L l) (hl : l.length ≤ 1000000) (a s : Int) (h0 : 0 ≤ a) (h1 : a ≤ 1000000000000) : ∃ v s', spec_l00Src_next.f l a s = some (v, a + 1, s') ∧ 0 ≤ v ∧ v ≤ 255 := by
  have ha := and255 ((IntKind.u64.wrap ((IntKind.u64.wrap ((IntKind.u64.wrap (s * 6364136223846793005)) + (IntKind.u64.wrap (wrap64 (rd l a))))) + 1442695040888963407)) / 1099511627776)
  have hb := and255 ((IntKind.u64.wrap ((IntKind.u64.wrap ((IntKind.u64.wrap (s * 6364136223846793005)) + 0)) + 1442695040888963407)) / 1099511627776)
  have hr := u8_rd hu a
  have e1 : wrap64 (a + 1) = a + 1 := w64 (by omega) (by omega)
  simp only [spec_l00Src_next.f]
  rw [e1]
  by_cases c : a < (l.length : Int)
  · rw [if_pos c, if_pos h0]
    by_cases c2 : a + 1 ≤ (l.length : Int)
    · rw [if_pos c2]; refine ⟨_, _, rfl, ?_⟩; rw [w64 (Int.le_trans (by decide) hr.1) (Int.le_trans hr.2 (by decide))]; exact hr
    · rw [if_neg c2]; refine ⟨_, _, rfl, ?_⟩; rw [w64 (Int.le_trans (by decide) ha.1) (Int.le_trans ha.2 (by decide))]; exact ha
  · rw [if_neg c]
    by_cases c2 : a + 1 ≤ (l.length : Int)
    · rw [if_pos c2]; exact ⟨_, _, rfl, by decide⟩
    · rw [if_neg c2]; refine ⟨_, _, rfl, ?_⟩; rw [w64 (Int.le_trans (by decide) hb.1) (Int.le_trans hb.2 (by decide))]; exact hb
theorem tmod_range (x n : Int) (h0 : 0 ≤ x) (hn : 1 ≤ n) : 0 ≤ Int.tmod x n ∧ Int.tmod x n < n := by
  rw [Int.tmod_eq_emod_of_nonneg h0]
  exact ⟨Int.emod_nonneg _ (by omega), Int.emod_lt_of_pos _ (by omega)⟩
theorem pick_ev (l : List Int) (hu : U8L l) (hl : l.length ≤ 1000000) (n a s : Int) (h0 : 0 ≤ a) (h1 : a ≤ 100000000000) :
    ∃ v a' s', spec_l00Src_pick.f l a s n = some (v, a', s') ∧ 0 ≤ v ∧ (1 ≤ n → v < n) ∧ a ≤ a' ∧ a' ≤ a + 2 := by
  simp only [spec_l00Src_pick.f]
  by_cases c : n ≤ 1
  · rw [if_pos c]; exact ⟨0, a, s, rfl, by omega, by omega, by omega, by omega⟩
  obtain ⟨v, s', e, hv⟩ := next_ev l hu hl a s h0 (by omega)
  obtain ⟨v2, s2, e2, hv2⟩ := next_ev l hu hl (a + 1) s' (by omega) (by omega)
  have hn0 : ¬ n = 0 := by omega
  have t1 := tmod_range v n hv.1 (by omega)
  have t2 := tmod_range (v * 256 + v2) n (by omega) (by omega)
  have b1 : -9223372036854775808 ≤ v * 256 ∧ v * 256 ≤ 9223372036854775807 := by omega
  have b2 : -9223372036854775808 ≤ v * 256 + v2 ∧ v * 256 + v2 ≤ 9223372036854775807 := by omega
  rw [if_neg c, e, Option.bind_some]
  by_cases c2 : n > 200
  · refine ⟨_, a + 1 + 1, s2, ?_, t2.1, fun _ => t2.2, by omega, by omega⟩
    simp only [if_pos c2]
    rw [e2, Option.bind_some, if_neg hn0, w64 b1.1 b1.2, w64 b2.1 b2.2]
  · refine ⟨_, a + 1, s', ?_, t1.1, fun _ => t1.2, by omega, by omega⟩
    rw [if_neg c2, if_neg hn0]
theorem one_ev (l : List Int) (hu : U8L l) (hl : l.length ≤ 1000000) (n a s : Int) (h0 : 0 ≤ a) (h1 : a ≤ 100000000000) :
    ∃ c a' s', spec_l00Src_one.f l a s n = some (c, a', s') ∧ a ≤ a' ∧ a' ≤ a + 2 := by
  obtain ⟨v, a', s', e, -, -, h2, h3⟩ := pick_ev l hu hl n a s h0 h1
  exact ⟨_, a', s', by rw [spec_l00Src_one.f, e, Option.bind_some], h2, h3⟩
def Bit48 (x : List Int) : Prop := ∀ v ∈ x, v = 48 ∨ v = 49
theorem r8Bits_loop (l : List Int) (hu : U8L l) (hl : l.length ≤ 1000000) (n : Nat) (hn : n ≤ 1000) (d : Nat) : ∀ (x : List Int) (a s : Int), Bit48 x → x.length + d ≤ n → 0 ≤ a → a + 4 * d ≤ 100000000 →
    ∃ y, Bit48 y ∧ y.length ≤ n ∧ Ev (fun k => spec_R8Bits.l0 k x d l a s) (strOfNums y) := by
  induction d with
  | zero =>
    intro x a s hx hxl h0 h1
    refine ⟨x, hx, by omega, Ev_succ ?_⟩
    simp only [spec_R8Bits.l0, if_neg (show ¬ ((0 : Nat) : Int) > 0 by omega)]; exact Ev.now _
  | succ d ih =>
    intro x a s hx hxl h0 h1
    obtain ⟨v, a1, s1, e1, hv0, hv1, ha1, ha2⟩ := pick_ev l hu hl 2 a s h0 (by omega)
    obtain ⟨c, a2, s2, e2, ha3, ha4⟩ := one_ev l hu hl 2 a1 s1 (by omega) (by omega)
    have hv1 := hv1 (by omega)
    have d1 : ((d + 1 : Nat) : Int) > 0 := by omega
    have lt : x.length < 140737488355328 := by omega
    have b1 : -9223372036854775808 ≤ 48 + v ∧ 48 + v ≤ 9223372036854775807 := by omega
    have b2 : -9223372036854775808 ≤ (d : Int) ∧ (d : Int) ≤ 9223372036854775807 := by omega
    have b3 : ((d + 1 : Nat) : Int) - 1 = d := by omega
    have b4 : (48 + v) % 256 = 48 + v := by omega
    have b5 : -9223372036854775808 ≤ (x.length : Int) - 1 ∧ (x.length : Int) - 1 ≤ 9223372036854775807 := by omega
    have new : Bit48 (x ++ [48 + v]) := by
      intro w hw
      rcases List.mem_append.1 hw with g | g
      · exact hx w g
      · rw [List.mem_singleton.1 g]; omega
    have nl : ∀ w : Int, (x ++ [w]).length = x.length + 1 := fun w => by rw [List.length_append]; rfl
    by_cases hz : (x.length : Int) > 0
    · cases c with
      | true =>
        have q0 : 0 ≤ (x.length : Int) - 1 := by omega
        have q1 : (x.length : Int) - 1 < x.length := by omega
        have hm : rd x ((x.length : Int) - 1) ∈ x := by
          unfold rd
          rw [List.getD_eq_getElem?_getD, List.getElem?_eq_getElem (show ((x.length : Int) - 1).toNat < x.length by omega)]
          exact List.getElem_mem _
        obtain ⟨y, hy, hyl, hE⟩ := ih (x ++ [rd x ((x.length : Int) - 1)]) a2 s2 (by
          intro w hw
          rcases List.mem_append.1 hw with g | g
          · exact hx w g
          · rw [List.mem_singleton.1 g]; exact hx _ hm) (by rw [nl]; omega) (by omega) (by omega)
        refine ⟨y, hy, hyl, Ev_succ ?_⟩
        simp only [spec_R8Bits.l0, if_pos d1, e1, e2, Option.bind_some, if_pos hz, if_true, w64 b5.1 b5.2, if_pos q0, if_pos q1, if_pos lt, w64 b2.1 b2.2, b3]
        exact hE
      | false =>
        obtain ⟨y, hy, hyl, hE⟩ := ih (x ++ [48 + v]) a2 s2 new (by rw [nl]; omega) (by omega) (by omega)
        refine ⟨y, hy, hyl, Ev_succ ?_⟩
        simp only [spec_R8Bits.l0, if_pos d1, e1, e2, Option.bind_some, if_pos hz, Bool.false_eq_true, if_false, w64 b1.1 b1.2, b4, if_pos lt, w64 b2.1 b2.2, b3]
        exact hE
    · obtain ⟨y, hy, hyl, hE⟩ := ih (x ++ [48 + v]) a1 s1 new (by rw [nl]; omega) (by omega) (by omega)
      refine ⟨y, hy, hyl, Ev_succ ?_⟩
      simp only [spec_R8Bits.l0, if_pos d1, e1, Option.bind_some, if_neg hz, w64 b1.1 b1.2, b4, if_pos lt, w64 b2.1 b2.2, b3]
      exact hE
theorem r8Bits_ev (l : List Int) (hu : U8L l) (hl : l.length ≤ 1000000) (n : Nat) (hn : n ≤ 1000) : ∃ y, Bit48 y ∧ y.length ≤ n ∧ Ev (fun k => spec_R8Bits.f k l n) (strOfNums y) := by
  have b1 : -9223372036854775808 ≤ (n : Int) + 1 ∧ (n : Int) + 1 ≤ 9223372036854775807 := by omega
  obtain ⟨v, a1, s1, e1, hv0, hv1, ha1, ha2⟩ := pick_ev l hu hl ((n : Int) + 1) 0 0 (by omega) (by omega)
  have hv1 := hv1 (by omega)
  obtain ⟨d, rfl⟩ : ∃ d : Nat, v = d := ⟨v.toNat, by omega⟩
  obtain ⟨y, hy, hyl, hE⟩ := r8Bits_loop l hu hl n hn d [] a1 s1 (by intro w hw; cases hw) (by simp; omega) (by omega) (by omega)
  refine ⟨y, hy, hyl, ?_⟩
  simp only [spec_R8Bits.f, spec_l00From.f, Option.bind_some, w64 b1.1 b1.2, e1]
  exact hE
theorem bit48_sn {y : List Int} (h : Bit48 y) : AllBit (strOfNums y) ∧ (strOfNums y).size = y.length := by
  refine ⟨?_, sn_size y⟩
  intro i h0 h1
  rw [sn_size] at h1
  obtain ⟨n, rfl⟩ : ∃ n : Nat, i = n := ⟨i.toNat, by omega⟩
  have hn : n < y.length := by omega
  rw [bt_list _ n (by rw [sn_size]; exact hn)]
  have e : ((strOfNums y).data.toList[n]'(by have := sn_size y; simp only [ByteArray.size] at this; rw [Array.length_toList]; omega)) = UInt8.ofNat (y[n]).toNat := by simp [strOfNums]
  rw [e]
  rcases h _ (List.getElem_mem hn) with g | g <;> rw [g]
  · exact .inl rfl
  · exact .inr rfl

theorem ex_size (s : ByteArray) (a b : Nat) (hb : b ≤ s.size) : (s.extract a b).size = b - a := by
  simp only [ByteArray.size_extract]; omega
theorem ex_list (s : ByteArray) (a b : Nat) : (s.extract a b).data.toList = (s.data.toList.drop a).take (b - a) := by
  simp only [ByteArray.data_extract, Array.toList_extract, List.extract_eq_take_drop]
theorem ex_ex (s : ByteArray) (a b c d : Nat) (h : a + d ≤ b) : (s.extract a b).extract c d = s.extract (a + c) (a + d) := by
  apply ba_ext
  rw [ex_list, ex_list, ex_list, List.drop_take, List.drop_drop, List.take_take]
  congr 1
  omega
theorem dl_size (s : ByteArray) : s.data.toList.length = s.size := Array.length_toList
theorem ex_whole (s : ByteArray) : s.extract 0 s.size = s := by
  apply ba_ext; rw [ex_list, List.drop_zero]; exact List.take_of_length_le (by rw [dl_size]; omega)
theorem bt_extract (s : ByteArray) (a b : Nat) (hb : b ≤ s.size) (j : Int) (h0 : 0 ≤ j) (h1 : j < (b : Int) - a) : bt (s.extract a b) j = bt s (a + j) := by
  obtain ⟨n, rfl⟩ : ∃ n : Nat, j = n := ⟨j.toNat, by omega⟩
  have hz := ex_size s a b hb
  rw [bt_list _ n (by omega), show (a : Int) + n = ((a + n : Nat) : Int) by omega, bt_list _ _ (by omega)]
  congr 2
  simp only [ex_list]
  rw [List.getElem_take, List.getElem_drop]
theorem AllBit_extract (s : ByteArray) (h : AllBit s) (a b : Nat) (hb : b ≤ s.size) : AllBit (s.extract a b) := by
  intro j h0 h1
  have hz := ex_size s a b hb
  rw [bt_extract s a b hb j h0 (by omega)]
  exact h _ (by omega) (by omega)
theorem nil_size (s : ByteArray) : s.toList = ([] : List UInt8) ↔ s.size = 0 := by
  rw [Lib.toList_data]
  show _ ↔ s.data.size = 0
  rw [← Array.length_toList]
  exact List.length_eq_zero_iff.symm

theorem areIn_loop (l : List Int) (lo hi : Int) (hl : (l.length : Int) ≤ 4611686018427387904) (d : Nat) : ∀ i : Int, 0 ≤ i → i ≤ l.length → (l.length : Int) - i = d →
    (∀ j, 0 ≤ j → j < i → lo ≤ rd l j ∧ rd l j ≤ hi) → ∃ b, Ev (fun k => impl_areIn.l0 k lo hi l l.length i) b ∧ (b = true ↔ ∀ j, 0 ≤ j → j < (l.length : Int) → lo ≤ rd l j ∧ rd l j ≤ hi) := by
  induction d with
  | zero =>
    intro i h0 h1 hd hp
    refine ⟨true, Ev_succ ?_, ?_⟩
    · simp only [impl_areIn.l0, if_neg (show ¬ i < (l.length : Int) by omega)]; exact Ev.now _
    · simp only [true_iff]; exact fun j j0 j1 => hp j j0 (by omega)
  | succ d ih =>
    intro i h0 h1 hd hp
    have hlt : i < (l.length : Int) := by omega
    by_cases hb : lo ≤ rd l i ∧ rd l i ≤ hi
    · obtain ⟨b, h, hbi⟩ := ih (i + 1) (by omega) (by omega) (by omega) (fun j j0 j1 => by
        by_cases e : j = i
        · rw [e]; exact hb
        · exact hp j j0 (by omega))
      refine ⟨b, Ev_succ ?_, hbi⟩
      simp (disch := omega) only [impl_areIn.l0, w64, within_eq, Option.bind_some]
      simp only [if_pos hlt, if_pos h0, hb, and_self, decide_true, if_true]
      exact h
    · refine ⟨false, Ev_succ ?_, ?_⟩
      · simp (disch := omega) only [impl_areIn.l0, w64, within_eq, Option.bind_some]
        simp only [if_pos hlt, if_pos h0, hb, decide_false, Bool.false_eq_true, if_false]
        exact Ev.now _
      · simp only [Bool.false_eq_true, false_iff]; exact fun g => hb (g i h0 hlt)
theorem areIn_ev (l : List Int) (lo hi : Int) (hl : (l.length : Int) ≤ 4611686018427387904) : ∃ b, Ev (fun k => impl_areIn.f k l lo hi) b ∧ (b = true ↔ ∀ j, 0 ≤ j → j < (l.length : Int) → lo ≤ rd l j ∧ rd l j ≤ hi) :=
  areIn_loop l lo hi hl l.length 0 (by omega) (by omega) (by omega) (fun j _ _ => by omega)

def RisesIn (l : List Int) (lo hi : Int) : Prop := ∀ i : Int, 0 ≤ i → i < l.length → (lo ≤ rd l i ∧ rd l i ≤ hi) ∧ (0 < i → rd l (i - 1) < rd l i)

theorem isInc_loop (l : List Int) (hl : (l.length : Int) ≤ 4611686018427387904) (d : Nat) : ∀ i : Int, 0 ≤ i → i ≤ l.length → (l.length : Int) - i = d →
    (∀ j, 0 < j → j < i → rd l (j - 1) < rd l j) → ∃ b, Ev (fun k => impl_isIncreasing.l0 k l l.length i) b ∧ (b = true ↔ ∀ j, 0 < j → j < (l.length : Int) → rd l (j - 1) < rd l j) := by
  induction d with
  | zero =>
    intro i h0 h1 hd hp
    refine ⟨true, Ev_succ ?_, ?_⟩
    · simp only [impl_isIncreasing.l0, if_neg (show ¬ i < (l.length : Int) by omega)]; exact Ev.now _
    · simp only [true_iff]; exact fun j j0 j1 => hp j j0 (by omega)
  | succ d ih =>
    intro i h0 h1 hd hp
    have hlt : i < (l.length : Int) := by omega
    by_cases hi0 : i > 0
    · by_cases hr : rd l i ≤ rd l (i - 1)
      · refine ⟨false, Ev_succ ?_, ?_⟩
        · simp (disch := omega) only [impl_isIncreasing.l0, w64]
          simp only [if_pos hlt, if_pos hi0, if_pos h0, if_pos (show 0 ≤ i - 1 by omega), if_pos (show i - 1 < (l.length : Int) by omega), if_pos hr]
          exact Ev.now _
        · simp only [Bool.false_eq_true, false_iff]; exact fun g => by have := g i hi0 hlt; omega
      · obtain ⟨b, h, hbi⟩ := ih (i + 1) (by omega) (by omega) (by omega) (fun j j0 j1 => by
          by_cases e : j = i
          · rw [e]; omega
          · exact hp j j0 (by omega))
        refine ⟨b, Ev_succ ?_, hbi⟩
        simp (disch := omega) only [impl_isIncreasing.l0, w64]
        simp only [if_pos hlt, if_pos hi0, if_pos h0, if_pos (show 0 ≤ i - 1 by omega), if_pos (show i - 1 < (l.length : Int) by omega), if_neg hr]
        exact h
    · obtain ⟨b, h, hbi⟩ := ih (i + 1) (by omega) (by omega) (by omega) (fun j j0 j1 => by
        by_cases e : j = i
        · omega
        · exact hp j j0 (by omega))
      refine ⟨b, Ev_succ ?_, hbi⟩
      simp (disch := omega) only [impl_isIncreasing.l0, w64]
      simp only [if_pos hlt, if_neg hi0]
      exact h
theorem isInc_ev (l : List Int) (hl : (l.length : Int) ≤ 4611686018427387904) : ∃ b, Ev (fun k => impl_isIncreasing.f k l) b ∧ (b = true ↔ ∀ j, 0 < j → j < (l.length : Int) → rd l (j - 1) < rd l j) :=
  isInc_loop l hl l.length 0 (by omega) (by omega) (by omega) (fun j _ _ => by omega)

def TapsOk (l : List Int) : Prop := 1 ≤ (l.length : Int) ∧ (l.length : Int) ≤ 16 ∧ RisesIn l 1 16
theorem areTaps_ev (l : List Int) (hl : (l.length : Int) ≤ 4611686018427387904) : ∃ b, Ev (fun k => impl_areTaps.f k l) b ∧ (b = true ↔ TapsOk l) := by
  simp only [impl_areTaps.f]
  by_cases h1 : (l.length : Int) ≥ 1
  · by_cases h2 : (l.length : Int) ≤ 16
    · obtain ⟨b, hb, hi⟩ := areIn_ev l 1 16 hl
      obtain ⟨c, hc, hj⟩ := isInc_ev l hl
      simp only [if_pos h1, if_pos h2]
      cases b with
      | true =>
        refine ⟨c, Ev.bind hb ?_, ?_⟩
        · simp only [if_true]; exact Ev.bind hc (Ev.now _)
        · rw [hj]
          exact ⟨fun g => ⟨h1, h2, fun i i0 i1 => ⟨hi.1 rfl i i0 i1, fun z => g i z i1⟩⟩, fun g j j0 j1 => (g.2.2 j (by omega) j1).2 j0⟩
      | false =>
        refine ⟨false, Ev.bind hb ?_, ?_⟩
        · simp only [Bool.false_eq_true, if_false]; exact Ev.now _
        · simp only [Bool.false_eq_true, false_iff]
          intro g
          have := hi.2 (fun j j0 j1 => (g.2.2 j j0 j1).1)
          cases this
    · exact ⟨false, by simp only [if_pos h1, if_neg h2]; exact Ev.now _, by simp only [Bool.false_eq_true, false_iff]; exact fun g => h2 g.2.1⟩
  · exact ⟨false, by simp only [if_neg h1]; exact Ev.now _, by simp only [Bool.false_eq_true, false_iff]; exact fun g => h1 g.1⟩
def ScrOk (l : List Int) (s : ByteArray) : Prop := TapsOk l ∧ AllBit s ∧ (s.size : Int) = rd l ((l.length : Int) - 1)
theorem ScrOk.small {l : List Int} {s : ByteArray} (h : ScrOk l s) : 1 ≤ (s.size : Int) ∧ (s.size : Int) ≤ 16 := by
  obtain ⟨⟨h1, h2, h3⟩, -, h4⟩ := h
  have := (h3 ((l.length : Int) - 1) (by omega) (by omega)).1
  omega
theorem validScr_ev (l : List Int) (s : ByteArray) (hl : (l.length : Int) ≤ 1048576) (hs : s.size ≤ 140737488351232) : ∃ b, Ev (fun k => impl_ValidScrambler.f k l s) b ∧ (b = true ↔ ScrOk l s) := by
  obtain ⟨b, hb, hi⟩ := areTaps_ev l (by omega)
  obtain ⟨c, hc, hj⟩ := areBits_ev s hs
  simp only [impl_ValidScrambler.f, hc, Option.bind_some]
  simp (disch := omega) only [w64]
  cases b with
  | false =>
    refine ⟨false, Ev.bind hb (by simp only [Bool.false_eq_true, if_false]; exact Ev.now _), ?_⟩
    simp only [Bool.false_eq_true, false_iff]
    exact fun g => by have := hi.2 g.1; cases this
  | true =>
    have ht := hi.1 rfl
    cases c with
    | false =>
      refine ⟨false, Ev.bind hb ?_, ?_⟩
      · simp only [if_true, Bool.false_eq_true, if_false]; exact Ev.now _
      · simp only [Bool.false_eq_true, false_iff]
        exact fun g => by have := hj.2 g.2.1; cases this
    | true =>
      have hb2 := hj.1 rfl
      refine ⟨(s.size : Int) == rd l ((l.length : Int) - 1), Ev.bind hb ?_, ?_⟩
      · simp only [if_true, if_pos (show 0 ≤ (l.length : Int) - 1 by have := ht.1; omega), if_pos (show (l.length : Int) - 1 < (l.length : Int) by omega)]
        exact Ev.now _
      · rw [beq_iff_eq]
        exact ⟨fun g => ⟨ht, hb2, g⟩, fun g => g.2.2⟩

def BitL (x : List Int) : Prop := ∀ v ∈ x, v = 0 ∨ v = 1
def up (x : List Int) : List Int := x.map (fun v => 48 + v)
theorem up_length (x : List Int) : (up x).length = x.length := by simp [up]
theorem up_append (x y : List Int) : up (x ++ y) = up x ++ up y := by simp [up]
theorem up_drop (x : List Int) (n : Nat) : (up x).drop n = up (x.drop n) := by simp [up]
theorem BitL_append {x y : List Int} (hx : BitL x) (hy : BitL y) : BitL (x ++ y) := by
  intro v hv; rcases List.mem_append.1 hv with h | h
  · exact hx v h
  · exact hy v h
theorem BitL_one {v : Int} (h : v = 0 ∨ v = 1) : BitL [v] := by intro w hw; rw [List.mem_singleton.1 hw]; exact h
theorem BitL_drop {x : List Int} (hx : BitL x) (n : Nat) : BitL (x.drop n) := fun v hv => hx v (List.mem_of_mem_drop hv)
theorem rd_bit {x : List Int} (hx : BitL x) (i : Int) (h0 : 0 ≤ i) (h1 : i < x.length) : rd x i = 0 ∨ rd x i = 1 := by
  unfold rd
  rw [List.getD_eq_getElem?_getD, List.getElem?_eq_getElem (show i.toNat < x.length by omega)]
  exact hx _ (List.getElem_mem _)
theorem rd_up (x : List Int) (i : Int) (h0 : 0 ≤ i) (h1 : i < x.length) : rd (up x) i = 48 + rd x i := by
  unfold rd up
  rw [List.getD_eq_getElem?_getD, List.getD_eq_getElem?_getD, List.getElem?_map, List.getElem?_eq_getElem (show i.toNat < x.length by omega)]
  rfl
theorem xor_bit {a b : Int} (ha : a = 0 ∨ a = 1) (hb : b = 0 ∨ b = 1) : Go.bits .xor .u8 a b = 0 ∨ Go.bits .xor .u8 a b = 1 := by
  rcases ha with rfl | rfl <;> rcases hb with rfl | rfl <;> decide
theorem and_up {a : Int} (ha : a = 0 ∨ a = 1) : Go.bits .and .u8 (48 + a) 1 = a := by
  rcases ha with rfl | rfl <;> decide
theorem xor_up {a b : Int} (ha : a = 0 ∨ a = 1) (hb : b = 0 ∨ b = 1) : Go.bits .xor .u8 (48 + a) b = 48 + Go.bits .xor .u8 a b := by
  rcases ha with rfl | rfl <;> rcases hb with rfl | rfl <;> decide
theorem xor_self_down {a b : Int} (ha : a = 0 ∨ a = 1) (hb : b = 0 ∨ b = 1) : Go.bits .xor .u8 a b = Go.bits .xor .u8 b a := by
  rcases ha with rfl | rfl <;> rcases hb with rfl | rfl <;> decide
theorem rises_mono (l : List Int) {lo hi : Int} (h : RisesIn l lo hi) (d : Nat) : ∀ i : Int, 0 ≤ i → i + d < l.length → rd l i ≤ rd l (i + d) := by
  induction d with
  | zero => intro i h0 h1; simp
  | succ d ih =>
    intro i h0 h1
    have h2 := ih i h0 (by omega)
    have h3 := (h (i + d + 1) (by omega) (by omega)).2 (by omega)
    rw [show i + (d : Int) + 1 - 1 = i + d by omega] at h3
    rw [show i + ((d + 1 : Nat) : Int) = i + d + 1 by omega]
    omega
theorem tap_le {l : List Int} {s : ByteArray} (h : ScrOk l s) (i : Int) (h0 : 0 ≤ i) (h1 : i < l.length) : 1 ≤ rd l i ∧ rd l i ≤ s.size := by
  have h2 := rises_mono l h.1.2.2 ((l.length : Int) - 1 - i).toNat i h0 (by omega)
  rw [show i + (((l.length : Int) - 1 - i).toNat : Int) = (l.length : Int) - 1 by omega, ← h.2.2] at h2
  exact ⟨(h.1.2.2 i h0 h1).1.1, h2⟩
def revB (s : ByteArray) : Nat → List Int
  | 0 => []
  | n + 1 => (bt s n - 48) :: revB s n
theorem revB_length (s : ByteArray) : ∀ n, (revB s n).length = n
  | 0 => rfl
  | n + 1 => by simp [revB, revB_length s n]
theorem revB_bit (s : ByteArray) (h : AllBit s) : ∀ n : Nat, n ≤ s.size → BitL (revB s n)
  | 0, _ => by intro v hv; cases hv
  | n + 1, hn => by
    intro v hv
    rcases List.mem_cons.1 hv with e | e
    · have := h n (by omega) (by omega); omega
    · exact revB_bit s h n (by omega) v e
theorem up_revB (s : ByteArray) : ∀ n : Nat, n ≤ s.size → up (revB s n) = ((Gd.zsOf s).take n).reverse
  | 0, _ => by simp [up, revB]
  | n + 1, hn => by
    have hz := Gd.zsOf_length s
    have h1 : n < (Gd.zsOf s).length := by omega
    have hd : n < s.data.toList.length := by rw [Array.length_toList]; exact hn
    rw [List.take_succ_eq_append_getElem h1, List.reverse_append, ← up_revB s n (by omega)]
    have : (Gd.zsOf s)[n] = bt s n := by rw [bt_list s n (by omega)]; simp [Gd.zsOf]
    simp [this, revB, up]
    omega
theorem history_eq (s : ByteArray) (hs : s.size ≤ 140737488355328) (l : List Int) : impl_Scrambler_history.f l s = some (up (revB s s.size)) := by
  rw [impl_Scrambler_history.f, if_pos hs, up_revB s s.size (Nat.le_refl _), ← Gd.zsOf_length, List.take_length]
/-! the text of bits -/
theorem text_loop (x : List Int) (hx : BitL x) (hl : x.length ≤ 1000000) (d : Nat) : ∀ (n : Nat), n + d = x.length → Ev (fun k => spec_l06Text.l0 k x (up (x.take n)) n) (strOfNums (up x)) := by
  induction d with
  | zero =>
    intro n hd
    refine Ev_succ ?_
    simp only [spec_l06Text.l0, if_neg (show ¬ (n : Int) < (x.length : Int) by omega), List.take_of_length_le (show x.length ≤ n by omega)]; exact Ev.now _
  | succ d ih =>
    intro n hd
    refine Ev_succ ?_
    have hn : n < x.length := by omega
    have hb := rd_bit hx n (by omega) (by omega)
    have hr : rd x n = x[n] := by unfold rd; rw [Int.toNat_natCast, List.getD_eq_getElem?_getD, List.getElem?_eq_getElem hn]; rfl
    rw [hr] at hb
    have h := ih (n + 1) (by omega)
    rw [List.take_succ_eq_append_getElem hn, up_append] at h
    have hu := up_length (x.take n)
    rw [List.length_take] at hu
    simp (disch := omega) only [spec_l06Text.l0, w64]
    simp only [if_pos (show (n : Int) < (x.length : Int) by omega), if_pos (show (0 : Int) ≤ n by omega), if_pos (show (up (x.take n)).length < 140737488355328 by omega), hr, show (48 + x[n]) % 256 = 48 + x[n] by omega]
    exact h
theorem text_ev (x : List Int) (hx : BitL x) (hl : x.length ≤ 1000000) : Ev (fun k => spec_l06Text.f k x) (strOfNums (up x)) := text_loop x hx hl x.length 0 (by omega)

theorem bt_sn (xs : List Int) (i : Int) (h0 : 0 ≤ i) (h1 : i < xs.length) (hr : 0 ≤ rd xs i ∧ rd xs i < 256) : bt (strOfNums xs) i = rd xs i := by
  obtain ⟨n, rfl⟩ : ∃ n : Nat, i = n := ⟨i.toNat, by omega⟩
  have hz := sn_size xs
  have hn : n < xs.length := by omega
  rw [bt_list _ n (by omega)]
  have hrd : rd xs n = xs[n] := by unfold rd; rw [Int.toNat_natCast, List.getD_eq_getElem?_getD, List.getElem?_eq_getElem hn]; rfl
  rw [hrd] at hr ⊢
  have e : (strOfNums xs).data.toList[n]'(by rw [dl_size]; omega) = UInt8.ofNat (xs[n]).toNat := by simp [strOfNums]
  rw [e, UInt8.toNat_ofNat']
  omega
theorem AllBit_up (z : List Int) (hz : BitL z) : AllBit (strOfNums (up z)) := by
  intro i h0 h1
  rw [sn_size, up_length] at h1
  have hb := rd_bit hz i h0 (by omega)
  have hr := rd_up z i h0 (by omega)
  rw [bt_sn (up z) i h0 (by rw [up_length]; omega) (by omega)]
  omega
theorem BitL_zeros (n : Nat) : BitL (List.replicate n 0) := fun v hv => .inl (List.eq_of_mem_replicate hv)
theorem zeros_text (n : Nat) (hn : n ≤ 1000000) : Ev (fun k => spec_l06Text.f k (List.replicate n 0)) (strOfNums (up (List.replicate n 0))) := text_ev _ (BitL_zeros n) (by simp; omega)
theorem zeros_size (n : Nat) : (strOfNums (up (List.replicate n 0))).size = n := by rw [sn_size, up_length, List.length_replicate]
theorem repeat_zeros (n : Nat) (hn : n ≤ 1000000) : strings_Repeat.f (⟨#[48]⟩ : ByteArray) n = some (strOfNums (up (List.replicate n 0))) := by
  have e : (⟨#[48]⟩ : ByteArray) = strOfNums [48] := rfl
  have e2 : up (List.replicate n 0) = List.replicate n 48 := by simp [up]
  have hz : ((strOfNums [48]).size : Int) = 1 := by rw [sn_size]; rfl
  rw [e, e2]
  unfold strings_Repeat.f
  rw [if_pos ⟨by omega, by omega, by rw [hz]; omega⟩, sn_rep, Int.toNat_natCast]

def sumT : List Int → List Int → Int
  | [], _ => 0
  | t :: r, x => rd x ((x.length : Int) - t) + sumT r x
def sumM (l x : List Int) : Int := sumT l x % 2
theorem xor_mod {a b : Int} (ha : a = 0 ∨ a = 1) (hb : b = 0 ∨ b = 1) : Go.bits .xor .u8 a b = (a + b) % 2 := by
  rcases ha with rfl | rfl <;> rcases hb with rfl | rfl <;> decide
theorem sumM_bit (l x : List Int) : sumM l x = 0 ∨ sumM l x = 1 := by unfold sumM; omega
theorem drop_rd (l : List Int) (n : Nat) (h : n < l.length) : l.drop n = rd l n :: l.drop (n + 1) := by
  rw [List.drop_eq_getElem_cons h]
  congr 1
  unfold rd
  rw [Int.toNat_natCast, List.getD_eq_getElem?_getD, List.getElem?_eq_getElem h]
  rfl
theorem sum_loopM {l : List Int} {s : ByteArray} (h : ScrOk l s) (x : List Int) (hx : BitL x) (hl : s.size ≤ x.length) (hm : x.length ≤ 1000000) (d : Nat) : ∀ (v : Int) (i : Nat), i + d = l.length → (v = 0 ∨ v = 1) →
    Ev (fun k => impl_sum.l0 k (up x) v l l.length i) ((v + sumT (l.drop i) x) % 2) := by
  induction d with
  | zero =>
    intro v i hd hv
    refine Ev_succ ?_
    rw [List.drop_of_length_le (by omega), sumT]
    simp only [impl_sum.l0, if_neg (show ¬ (i : Int) < (l.length : Int) by omega)]
    rw [show (v + 0) % 2 = v by omega]; exact Ev.now _
  | succ d ih =>
    intro v i hd hv
    have hlt : (i : Int) < (l.length : Int) := by omega
    have h0 : (0 : Int) ≤ i := by omega
    have ht := tap_le h i h0 hlt
    have h16 := h.1.2.1
    have hu := up_length x
    have q0 : 0 ≤ (x.length : Int) - rd l i := by omega
    have q1 : (x.length : Int) - rd l i < x.length := by omega
    have hb := rd_bit hx ((x.length : Int) - rd l i) q0 q1
    have hv' : (v + rd x ((x.length : Int) - rd l i)) % 2 = 0 ∨ (v + rd x ((x.length : Int) - rd l i)) % 2 = 1 := by omega
    have hE := ih _ (i + 1) (by omega) hv'
    have b1 : -9223372036854775808 ≤ (x.length : Int) - rd l i ∧ (x.length : Int) - rd l i ≤ 9223372036854775807 := by omega
    have b2 : -9223372036854775808 ≤ ((i + 1 : Nat) : Int) ∧ ((i + 1 : Nat) : Int) ≤ 9223372036854775807 := by omega
    have b3 : (i : Int) + 1 = ((i + 1 : Nat) : Int) := by omega
    have e : ((v + rd x ((x.length : Int) - rd l i)) % 2 + sumT (l.drop (i + 1)) x) % 2 = (v + sumT (l.drop i) x) % 2 := by
      rw [drop_rd l i (by omega), sumT]; omega
    rw [e] at hE
    refine Ev_succ ?_
    simp only [impl_sum.l0, hu, w64 b1.1 b1.2, b3, w64 b2.1 b2.2, if_pos hlt, if_pos h0, if_pos q0, if_pos q1, rd_up x _ q0 q1, and_up hb, xor_mod hv hb]
    exact hE
theorem sum_evM {l : List Int} {s : ByteArray} (h : ScrOk l s) (x : List Int) (hx : BitL x) (hl : s.size ≤ x.length) (hm : x.length ≤ 1000000) : Ev (fun k => impl_sum.f k l (up x)) (sumM l x) := by
  have := sum_loopM h x hx hl hm l.length 0 0 (by omega) (.inl rfl)
  rw [List.drop_zero, Int.zero_add] at this
  exact this
def scrS (l : List Int) : List Int → List Int → List Int
  | _, [] => []
  | x, b :: r => (b + sumM l x) % 2 :: scrS l (x ++ [(b + sumM l x) % 2]) r
def desS (l : List Int) : List Int → List Int → List Int
  | _, [] => []
  | x, c :: r => (c + sumM l x) % 2 :: desS l (x ++ [c]) r
def keyS (l : List Int) : List Int → Nat → List Int
  | _, 0 => []
  | x, n + 1 => sumM l x :: keyS l (x ++ [sumM l x]) n
def addS (a b : List Int) : List Int := List.zipWith (fun x y => (x + y) % 2) a b
theorem BitL_mod (v : Int) : v % 2 = 0 ∨ v % 2 = 1 := by omega
theorem scrS_bit (l : List Int) : ∀ b x, BitL (scrS l x b)
  | [], x => by intro v hv; cases hv
  | b :: r, x => by
    intro v hv
    rcases List.mem_cons.1 hv with e | e
    · rw [e]; exact BitL_mod _
    · exact scrS_bit l r _ v e
theorem scrS_length (l : List Int) : ∀ b x, (scrS l x b).length = b.length
  | [], x => rfl
  | b :: r, x => by rw [scrS, List.length_cons, List.length_cons, scrS_length l r]
theorem desS_bit (l : List Int) : ∀ b x, BitL (desS l x b)
  | [], x => by intro v hv; cases hv
  | b :: r, x => by
    intro v hv
    rcases List.mem_cons.1 hv with e | e
    · rw [e]; exact BitL_mod _
    · exact desS_bit l r _ v e
theorem desS_length (l : List Int) : ∀ b x, (desS l x b).length = b.length
  | [], x => rfl
  | b :: r, x => by rw [desS, List.length_cons, List.length_cons, desS_length l r]
theorem keyS_bit (l : List Int) : ∀ n x, BitL (keyS l x n)
  | 0, x => by intro v hv; cases hv
  | n + 1, x => by
    intro v hv
    rcases List.mem_cons.1 hv with e | e
    · rw [e]; exact sumM_bit _ _
    · exact keyS_bit l n _ v e
theorem keyS_length (l : List Int) : ∀ n x, (keyS l x n).length = n
  | 0, x => rfl
  | n + 1, x => by rw [keyS, List.length_cons, keyS_length l n]
theorem BitL_tail {b : Int} {r : List Int} (h : BitL (b :: r)) : (b = 0 ∨ b = 1) ∧ BitL r := ⟨h b List.mem_cons_self, fun v hv => h v (List.mem_cons_of_mem _ hv)⟩
theorem desS_scrS (l : List Int) : ∀ b x, BitL b → desS l x (scrS l x b) = b
  | [], x, h => rfl
  | b :: r, x, h => by
    rw [scrS, desS, desS_scrS l r _ (BitL_tail h).2]
    congr 1
    have := (BitL_tail h).1
    omega
theorem addS_addS : ∀ a b : List Int, BitL a → a.length = b.length → addS (addS a b) b = a
  | [], b, h, hl => by simp [addS]
  | a :: r, [], h, hl => by simp at hl
  | a :: r, b :: q, h, hl => by
    have e := addS_addS r q (BitL_tail h).2 (by simpa using hl)
    unfold addS at e ⊢
    rw [List.zipWith_cons_cons, List.zipWith_cons_cons, e]
    congr 1
    have := (BitL_tail h).1
    omega
theorem addS_length (a b : List Int) (h : a.length = b.length) : (addS a b).length = a.length := by simp [addS, h]
theorem addS_bit (a b : List Int) : BitL (addS a b) := by
  intro v hv
  unfold addS at hv
  obtain ⟨n, hn, e⟩ := List.getElem_of_mem hv
  rw [← e, List.getElem_zipWith]
  exact BitL_mod _
theorem desS_append (l : List Int) : ∀ a b x, desS l x (a ++ b) = desS l x a ++ desS l (x ++ a) b
  | [], b, x => by simp [desS]
  | c :: r, b, x => by
    rw [List.cons_append, desS, desS, List.cons_append, desS_append l r b, List.append_assoc, List.singleton_append]
theorem rd_app (x z : List Int) (t : Int) (h1 : 1 ≤ t) (h2 : t ≤ z.length) : rd (x ++ z) (((x ++ z).length : Int) - t) = rd z ((z.length : Int) - t) := by
  unfold rd
  have e : (((x ++ z).length : Int) - t).toNat = x.length + ((z.length : Int) - t).toNat := by rw [List.length_append]; omega
  rw [e, List.getD_eq_getElem?_getD, List.getD_eq_getElem?_getD, List.getElem?_append_right (by omega), Nat.add_sub_cancel_left]
theorem sumT_app (x z : List Int) : ∀ l : List Int, (∀ t ∈ l, 1 ≤ t ∧ t ≤ z.length) → sumT l (x ++ z) = sumT l z
  | [], h => rfl
  | t :: r, h => by
    have ht := h t List.mem_cons_self
    rw [sumT, sumT, sumT_app x z r (fun q hq => h q (List.mem_cons_of_mem _ hq)), rd_app x z t ht.1 ht.2]
theorem desS_tail (l x : List Int) : ∀ (r z : List Int), (∀ t ∈ l, 1 ≤ t ∧ t ≤ z.length) → desS l (x ++ z) r = desS l z r
  | [], z, h => rfl
  | c :: r, z, h => by
    rw [desS, desS, sumM, sumM, sumT_app x z l h, List.append_assoc, desS_tail l x r (z ++ [c]) (fun t ht => by have := h t ht; rw [List.length_append]; simp; omega)]
theorem taps_mem {l : List Int} {s : ByteArray} (h : ScrOk l s) : ∀ t ∈ l, 1 ≤ t ∧ t ≤ s.size := by
  intro t ht
  obtain ⟨n, hn, rfl⟩ := List.getElem_of_mem ht
  have := tap_le h n (by omega) (by omega)
  have e : rd l n = l[n] := by unfold rd; rw [Int.toNat_natCast, List.getD_eq_getElem?_getD, List.getElem?_eq_getElem hn]; rfl
  rw [e] at this
  exact this
theorem rd_nat (l : List Int) (n : Nat) (h : n < l.length) : rd l n = l[n] := by
  unfold rd; rw [Int.toNat_natCast, List.getD_eq_getElem?_getD, List.getElem?_eq_getElem h]; rfl
theorem bt_up (b : List Int) (hb : BitL b) (i : Nat) (h : i < b.length) : bt (strOfNums (up b)) i = 48 + rd b i := by
  have h1 := rd_up b i (by omega) (by omega)
  have h2 := rd_bit hb i (by omega) (by omega)
  rw [bt_sn (up b) i (by omega) (by rw [up_length]; omega) (by rw [h1]; omega), h1]
theorem sz_up (b : List Int) : (strOfNums (up b)).size = b.length := by rw [sn_size, up_length]
theorem scr_loopM {l : List Int} {s : ByteArray} (h : ScrOk l s) (b : List Int) (hb : BitL b) (hbl : b.length ≤ 400) (d : Nat) : ∀ (x : List Int) (i : Nat), i + d = b.length → BitL x → x.length = s.size + i →
    Ev (fun k => impl_SelfScramble.l0 k (strOfNums (up b)) (up x) (b.length : Int) i l s) (strOfNums (up (x.drop s.size ++ scrS l x (b.drop i))), true) := by
  have h16 := h.small
  induction d with
  | zero =>
    intro x i hd hx hl
    refine Ev_succ ?_
    have q1 : ¬ (i : Int) < (b.length : Int) := by omega
    have q2 : (s.size : Int) ≤ (x.length : Int) := by omega
    have q3 : (0 : Int) ≤ s.size := by omega
    rw [List.drop_of_length_le (show b.length ≤ i by omega), scrS, List.append_nil]
    simp only [impl_SelfScramble.l0, if_neg q1, up_length, if_pos q3, if_pos q2, Int.toNat_natCast, up_drop]
    exact Ev.now _
  | succ d ih =>
    intro x i hd hx hl
    have q0 : (i : Int) < (b.length : Int) := by omega
    have q1 : (0 : Int) ≤ i := by omega
    have q2 : (i : Int) < ((strOfNums (up b)).size : Int) := by rw [sz_up]; exact q0
    have q3 : (up x).length < 140737488355328 := by rw [up_length]; omega
    have b2 : -9223372036854775808 ≤ ((i + 1 : Nat) : Int) ∧ ((i + 1 : Nat) : Int) ≤ 9223372036854775807 := by omega
    have b3 : (i : Int) + 1 = ((i + 1 : Nat) : Int) := by omega
    have hs := sum_evM h x hx (by omega) (by omega)
    have hbi := rd_bit hb i q1 q0
    obtain ⟨c, hc⟩ : ∃ c, c = (rd b i + sumM l x) % 2 := ⟨_, rfl⟩
    have hcb : c = 0 ∨ c = 1 := by rw [hc]; exact BitL_mod _
    have hE := ih (x ++ [c]) (i + 1) (by omega) (BitL_append hx (BitL_one hcb)) (by simp; omega)
    have e2 : (x ++ [c]).drop s.size = x.drop s.size ++ [c] := List.drop_append_of_le_length (by omega)
    have e3 : x.drop s.size ++ scrS l x (b.drop i) = (x ++ [c]).drop s.size ++ scrS l (x ++ [c]) (b.drop (i + 1)) := by
      rw [drop_rd b i (by omega), scrS, ← hc, e2, List.append_assoc]; rfl
    rw [← e3, up_append] at hE
    have e4 : Go.bits .xor .u8 (48 + rd b i) (sumM l x) = 48 + c := by rw [xor_up hbi (sumM_bit l x), xor_mod hbi (sumM_bit l x), hc]
    have e5 : up [c] = [48 + c] := rfl
    rw [e5] at hE
    refine Ev_succ ?_
    simp only [impl_SelfScramble.l0, if_pos q0, if_pos q1, if_pos q2]
    refine Ev.bind hs ?_
    simp only [if_pos q3, bt_up b hb i (by omega), e4, b3, w64 b2.1 b2.2]
    exact hE
theorem des_loopM {l : List Int} {s : ByteArray} (h : ScrOk l s) (b : List Int) (hb : BitL b) (hbl : b.length ≤ 400) (d : Nat) : ∀ (x y : List Int) (i : Nat), i + d = b.length → BitL x → x.length = s.size + i → y.length = i →
    Ev (fun k => impl_SelfDescramble.l0 k (strOfNums (up b)) (up x) (up y) (b.length : Int) i l s) (strOfNums (up (y ++ desS l x (b.drop i))), true) := by
  have h16 := h.small
  induction d with
  | zero =>
    intro x y i hd hx hl hyl
    refine Ev_succ ?_
    have q1 : ¬ (i : Int) < (b.length : Int) := by omega
    rw [List.drop_of_length_le (show b.length ≤ i by omega), desS, List.append_nil]
    simp only [impl_SelfDescramble.l0, if_neg q1]
    exact Ev.now _
  | succ d ih =>
    intro x y i hd hx hl hyl
    have q0 : (i : Int) < (b.length : Int) := by omega
    have q1 : (0 : Int) ≤ i := by omega
    have q2 : (i : Int) < ((strOfNums (up b)).size : Int) := by rw [sz_up]; exact q0
    have q3 : (up x).length < 140737488355328 := by rw [up_length]; omega
    have q4 : (up y).length < 140737488355328 := by rw [up_length]; omega
    have b2 : -9223372036854775808 ≤ ((i + 1 : Nat) : Int) ∧ ((i + 1 : Nat) : Int) ≤ 9223372036854775807 := by omega
    have b3 : (i : Int) + 1 = ((i + 1 : Nat) : Int) := by omega
    have hs := sum_evM h x hx (by omega) (by omega)
    have hbi := rd_bit hb i q1 q0
    obtain ⟨c, hc⟩ : ∃ c, c = (rd b i + sumM l x) % 2 := ⟨_, rfl⟩
    have hE := ih (x ++ [rd b i]) (y ++ [c]) (i + 1) (by omega) (BitL_append hx (BitL_one hbi)) (by simp; omega) (by simp; omega)
    have e3 : y ++ desS l x (b.drop i) = y ++ [c] ++ desS l (x ++ [rd b i]) (b.drop (i + 1)) := by
      rw [drop_rd b i (by omega), desS, ← hc, List.append_assoc]; rfl
    rw [← e3, up_append, up_append] at hE
    have e4 : Go.bits .xor .u8 (48 + rd b i) (sumM l x) = 48 + c := by rw [xor_up hbi (sumM_bit l x), xor_mod hbi (sumM_bit l x), hc]
    have e5 : up [c] = [48 + c] := rfl
    have e6 : up [rd b i] = [48 + rd b i] := rfl
    rw [e5, e6] at hE
    refine Ev_succ ?_
    simp only [impl_SelfDescramble.l0, if_pos q0, if_pos q1, if_pos q2]
    refine Ev.bind hs ?_
    simp only [if_pos q3, if_pos q4, bt_up b hb i (by omega), e4, b3, w64 b2.1 b2.2]
    exact hE
theorem key_loopM {l : List Int} {s : ByteArray} (h : ScrOk l s) (n : Nat) (hn : n ≤ 400) (d : Nat) : ∀ (x : List Int) (i : Nat), i + d = n → BitL x → x.length = s.size + i →
    Ev (fun k => impl_Scrambler_keyBits.l0 k (up x) (n : Int) i l s) (strOfNums (up (x.drop s.size ++ keyS l x d))) := by
  have h16 := h.small
  induction d with
  | zero =>
    intro x i hd hx hl
    refine Ev_succ ?_
    have q1 : ¬ (i : Int) < (n : Int) := by omega
    have q2 : (s.size : Int) ≤ (x.length : Int) := by omega
    have q3 : (0 : Int) ≤ s.size := by omega
    rw [keyS, List.append_nil]
    simp only [impl_Scrambler_keyBits.l0, if_neg q1, up_length, if_pos q3, if_pos q2, Int.toNat_natCast, up_drop]
    exact Ev.now _
  | succ d ih =>
    intro x i hd hx hl
    have q0 : (i : Int) < (n : Int) := by omega
    have q3 : (up x).length < 140737488355328 := by rw [up_length]; omega
    have b2 : -9223372036854775808 ≤ ((i + 1 : Nat) : Int) ∧ ((i + 1 : Nat) : Int) ≤ 9223372036854775807 := by omega
    have b3 : (i : Int) + 1 = ((i + 1 : Nat) : Int) := by omega
    have hs := sum_evM h x hx (by omega) (by omega)
    have hsb := sumM_bit l x
    have e4 : (48 + sumM l x) % 256 = 48 + sumM l x := by omega
    have hE := ih (x ++ [sumM l x]) (i + 1) (by omega) (BitL_append hx (BitL_one hsb)) (by simp; omega)
    have e2 : (x ++ [sumM l x]).drop s.size = x.drop s.size ++ [sumM l x] := List.drop_append_of_le_length (by omega)
    have e3 : x.drop s.size ++ keyS l x (d + 1) = (x ++ [sumM l x]).drop s.size ++ keyS l (x ++ [sumM l x]) d := by
      rw [keyS, e2, List.append_assoc]; rfl
    rw [← e3, up_append] at hE
    have e5 : up [sumM l x] = [48 + sumM l x] := rfl
    rw [e5] at hE
    refine Ev_succ ?_
    simp only [impl_Scrambler_keyBits.l0, if_pos q0]
    refine Ev.bind hs ?_
    simp only [if_pos q3, e4, b3, w64 b2.1 b2.2]
    exact hE
theorem xor_up8 {a b : Int} (ha : a = 0 ∨ a = 1) (hb : b = 0 ∨ b = 1) : (if UInt8.ofNat (48 + a).toNat = UInt8.ofNat (48 + b).toNat then (48 : UInt8) else 49) = UInt8.ofNat (48 + (a + b) % 2).toNat := by
  rcases ha with rfl | rfl <;> rcases hb with rfl | rfl <;> decide
theorem xorL_up : ∀ a b : List Int, BitL a → BitL b → xorL (strOfNums (up a)).data.toList (strOfNums (up b)).data.toList = (strOfNums (up (addS a b))).data.toList
  | [], b, h, g => by simp [xorL, strOfNums, up, addS]
  | a :: r, [], h, g => by simp [xorL, strOfNums, up, addS]
  | a :: r, b :: q, h, g => by
    have e := xorL_up r q (BitL_tail h).2 (BitL_tail g).2
    have e1 : ∀ (v : Int) (z : List Int), (strOfNums (up (v :: z))).data.toList = UInt8.ofNat (48 + v).toNat :: (strOfNums (up z)).data.toList := fun v z => by simp [strOfNums, up]
    rw [e1, e1, show addS (a :: r) (b :: q) = (a + b) % 2 :: addS r q from rfl, e1]
    unfold xorL at e ⊢
    rw [List.zipWith_cons_cons, e, xor_up8 (BitL_tail h).1 (BitL_tail g).1]
theorem xorBits_eq (a b : List Int) (ha : BitL a) (hb : BitL b) (hl : a.length = b.length) (h4 : a.length ≤ 400) : impl_xorBits.f (strOfNums (up a)) (strOfNums (up b)) = some (strOfNums (up (addS a b))) := by
  unfold impl_xorBits.f
  rw [if_pos ⟨by rw [sz_up, sz_up]; omega, by rw [sz_up]; omega⟩, xorL_up a b ha hb]
theorem isBits_up (b : List Int) (hb : BitL b) (hbl : b.length ≤ 400) : impl_IsBits.f (strOfNums (up b)) = some true := by
  obtain ⟨c, hc, hd⟩ := isBits_ev (strOfNums (up b)) (by rw [sz_up]; omega)
  have : c = true := hd.2 ⟨AllBit_up b hb, by rw [sz_up]; omega⟩
  rw [hc, this]
theorem valid_ok {l : List Int} {s : ByteArray} (h : ScrOk l s) : Ev (fun k => impl_ValidScrambler.f k l s) true := by
  have h16 := h.small
  have := h.1.2.1
  obtain ⟨b, hb, hi⟩ := validScr_ev l s (by omega) (by omega)
  rw [hi.2 h] at hb
  exact hb
def hist (s : ByteArray) : List Int := revB s s.size
theorem hist_ok {l : List Int} {s : ByteArray} (h : ScrOk l s) : BitL (hist s) ∧ (hist s).length = s.size := ⟨revB_bit s h.2.1 _ (Nat.le_refl _), revB_length s _⟩
theorem hist_drop {l : List Int} {s : ByteArray} (h : ScrOk l s) : (hist s).drop s.size = [] := List.drop_of_length_le (by rw [(hist_ok h).2]; exact Nat.le_refl _)
theorem scramble_ev {l : List Int} {s : ByteArray} (h : ScrOk l s) (b : List Int) (hb : BitL b) (hbl : b.length ≤ 400) : Ev (fun k => impl_SelfScramble.f k l s (strOfNums (up b))) (strOfNums (up (scrS l (hist s) b)), true) := by
  have h16 := h.small
  have hE := scr_loopM h b hb hbl b.length (hist s) 0 (by omega) (hist_ok h).1 (by rw [(hist_ok h).2]; rfl)
  rw [hist_drop h, List.nil_append, List.drop_zero] at hE
  simp only [impl_SelfScramble.f, isBits_up b hb hbl, Option.bind_some]
  refine Ev.bind (valid_ok h) ?_
  simp only [if_true, Bool.not_true]
  refine Ev_succ ?_
  simp only [impl_SelfScramble.j0, Bool.false_eq_true, if_false, history_eq s (by omega) l, Option.bind_some, sz_up]
  exact hE
theorem descramble_ev {l : List Int} {s : ByteArray} (h : ScrOk l s) (b : List Int) (hb : BitL b) (hbl : b.length ≤ 400) : Ev (fun k => impl_SelfDescramble.f k l s (strOfNums (up b))) (strOfNums (up (desS l (hist s) b)), true) := by
  have h16 := h.small
  have hE := des_loopM h b hb hbl b.length (hist s) [] 0 (by omega) (hist_ok h).1 (by rw [(hist_ok h).2]; rfl) rfl
  rw [List.nil_append, List.drop_zero] at hE
  simp only [impl_SelfDescramble.f, isBits_up b hb hbl, Option.bind_some]
  refine Ev.bind (valid_ok h) ?_
  simp only [if_true, Bool.not_true]
  refine Ev_succ ?_
  simp only [impl_SelfDescramble.j0, Bool.false_eq_true, if_false, history_eq s (by omega) l, Option.bind_some, sz_up]
  exact hE
theorem keyBits_ev {l : List Int} {s : ByteArray} (h : ScrOk l s) (n : Nat) (hn : n ≤ 400) : Ev (fun k => impl_Scrambler_keyBits.f k l s n) (strOfNums (up (keyS l (hist s) n))) := by
  have h16 := h.small
  have hE := key_loopM h n hn n (hist s) 0 (by omega) (hist_ok h).1 (by rw [(hist_ok h).2]; rfl)
  rw [hist_drop h, List.nil_append] at hE
  simp only [impl_Scrambler_keyBits.f, history_eq s (by omega) l, Option.bind_some]
  exact hE
theorem addScr_ev {l : List Int} {s : ByteArray} (h : ScrOk l s) (b : List Int) (hb : BitL b) (hbl : b.length ≤ 400) : Ev (fun k => impl_AddScramble.f k l s (strOfNums (up b))) (strOfNums (up (addS b (keyS l (hist s) b.length))), true) := by
  have hE := keyBits_ev h b.length hbl
  simp only [impl_AddScramble.f, isBits_up b hb hbl, Option.bind_some]
  refine Ev.bind (valid_ok h) ?_
  simp only [if_true, Bool.not_true]
  refine Ev_succ ?_
  simp only [impl_AddScramble.j0, Bool.false_eq_true, if_false, sz_up]
  refine Ev.bind hE ?_
  simp only [xorBits_eq b _ hb (keyS_bit l _ _) (keyS_length l _ _).symm hbl, Option.bind_some]
  exact Ev.now _

def putL : List Int → Int → List Int
  | [], n => [n]
  | v :: r, n => if v ≥ n then (if v > n then n :: v :: r else v :: r) else v :: putL r n
theorem put_loop (x : List Int) (n : Int) (hx : x.length ≤ 1000) (d : Nat) : ∀ (o : List Int) (i : Nat), i + d = x.length → o.length ≤ i + 1 →
    Ev (fun k => spec_l00Put.l0 k x n o true i) (o ++ x.drop i) ∧ (o.length ≤ i → Ev (fun k => spec_l00Put.l0 k x n o false i) (o ++ putL (x.drop i) n)) := by
  induction d with
  | zero =>
    intro o i hd ho
    have q : ¬ (i : Int) < (x.length : Int) := by omega
    have lt : o.length < 17592186044416 := by omega
    rw [List.drop_of_length_le (by omega)]
    refine ⟨Ev_succ ?_, fun _ => Ev_succ ?_⟩
    · simp only [spec_l00Put.l0, if_neg q, if_true, List.append_nil]; exact Ev.now _
    · simp only [spec_l00Put.l0, if_neg q, Bool.false_eq_true, if_false, if_pos lt, putL]; exact Ev.now _
  | succ d ih =>
    intro o i hd ho
    have q : (i : Int) < (x.length : Int) := by omega
    have q0 : (0 : Int) ≤ i := by omega
    have lt : o.length < 17592186044416 := by omega
    have lt2 : (o ++ [n]).length < 17592186044416 := by simp; omega
    have b2 : -9223372036854775808 ≤ ((i + 1 : Nat) : Int) ∧ ((i + 1 : Nat) : Int) ≤ 9223372036854775807 := by omega
    have b3 : (i : Int) + 1 = ((i + 1 : Nat) : Int) := by omega
    rw [drop_rd x i (by omega)]
    have hT := ih (o ++ [rd x i]) (i + 1) (by omega) (by simp; omega)
    have hTT := hT.1
    rw [List.append_assoc] at hTT
    refine ⟨Ev_succ ?_, fun ho' => Ev_succ ?_⟩
    · simp only [spec_l00Put.l0, if_pos q, if_true]
      refine Ev_succ ?_
      simp only [spec_l00Put.j1, Bool.false_eq_true, if_false, if_pos q, if_pos q0, if_pos lt, b3, w64 b2.1 b2.2]
      exact hTT
    · simp only [spec_l00Put.l0, if_pos q, if_pos q0, Bool.false_eq_true, if_false]
      by_cases g : rd x i ≥ n
      · simp only [putL, if_pos g, decide_eq_true g]
        by_cases g2 : rd x i > n
        · have hN := (ih (o ++ [n] ++ [rd x i]) (i + 1) (by omega) (by simp; omega)).1
          simp only [if_pos g2]
          rw [List.append_assoc, List.append_assoc] at hN
          refine Ev_succ ?_
          simp only [spec_l00Put.j1, if_true, if_pos q, if_pos q0, if_pos g2, if_pos lt, Option.bind_some, if_pos lt2, b3, w64 b2.1 b2.2]
          simpa using hN
        · simp only [if_neg g2]
          refine Ev_succ ?_
          simp only [spec_l00Put.j1, if_true, if_pos q, if_pos q0, if_neg g2, if_pos lt, b3, w64 b2.1 b2.2]
          exact hTT
      · simp only [putL, if_neg g, decide_eq_false g]
        have hF := hT.2 (by simp; omega)
        rw [List.append_assoc] at hF
        refine Ev_succ ?_
        simp only [spec_l00Put.j1, Bool.false_eq_true, if_false, if_pos q, if_pos q0, if_pos lt, b3, w64 b2.1 b2.2]
        exact hF
theorem put_ev (x : List Int) (n : Int) (hx : x.length ≤ 1000) : Ev (fun k => spec_l00Put.f k x n) (putL x n) := by
  have h := (put_loop x n hx x.length [] 0 (by omega) (by simp)).2 (by simp)
  rw [List.drop_zero, List.nil_append] at h
  exact h
theorem putL_length : ∀ (x : List Int) (n : Int), 1 ≤ (putL x n).length ∧ (putL x n).length ≤ x.length + 1
  | [], n => by simp [putL]
  | v :: r, n => by
    have := putL_length r n
    simp only [putL]; split
    · split <;> simp
    · simp; omega
theorem putL_mem : ∀ (x : List Int) (n v : Int), v ∈ putL x n → v ∈ x ∨ v = n
  | [], n, v, h => by right; simpa [putL] using h
  | w :: r, n, v, h => by
    simp only [putL] at h
    split at h
    · split at h
      · rcases List.mem_cons.1 h with e | e
        · exact .inr e
        · exact .inl e
      · exact .inl h
    · rcases List.mem_cons.1 h with e | e
      · exact .inl (by rw [e]; exact List.mem_cons_self)
      · rcases putL_mem r n v e with g | g
        · exact .inl (List.mem_cons_of_mem _ g)
        · exact .inr g
theorem putL_sorted : ∀ (x : List Int) (n : Int), x.Pairwise (· < ·) → (putL x n).Pairwise (· < ·)
  | [], n, h => by simp [putL]
  | w :: r, n, h => by
    obtain ⟨h1, h2⟩ := List.pairwise_cons.1 h
    simp only [putL]
    split
    · split
      · refine List.pairwise_cons.2 ⟨fun v hv => ?_, h⟩
        rcases List.mem_cons.1 hv with e | e
        · omega
        · have := h1 v e; omega
      · exact h
    · refine List.pairwise_cons.2 ⟨fun v hv => ?_, putL_sorted r n h2⟩
      rcases putL_mem r n v hv with e | e
      · exact h1 v e
      · omega
theorem rises_of (l : List Int) (h : l.Pairwise (· < ·)) (lo hi : Int) (hb : ∀ v ∈ l, lo ≤ v ∧ v ≤ hi) : RisesIn l lo hi := by
  intro i h0 h1
  obtain ⟨n, rfl⟩ : ∃ n : Nat, i = n := ⟨i.toNat, by omega⟩
  have hn : n < l.length := by omega
  rw [rd_nat l n hn]
  refine ⟨hb _ (List.getElem_mem _), fun z => ?_⟩
  rw [show (n : Int) - 1 = ((n - 1 : Nat) : Int) by omega, rd_nat l (n - 1) (by omega)]
  exact List.pairwise_iff_getElem.1 h (n - 1) n (by omega) hn (by omega)
theorem r8Scr_bits (l : List Int) (hu : U8L l) (hl : l.length ≤ 1000000) (T : List Int) (q : ByteArray) (d : Nat) : ∀ (x : List Int) (a s : Int), BitL x → x.length + d ≤ 1000 → 0 ≤ a → a + 4 * d ≤ 100000000 →
    ∃ y, BitL y ∧ y.length = x.length + d ∧ Ev (fun k => spec_R8Scrambler.l1 k x d l a s T q) (T, strOfNums (up y)) := by
  induction d with
  | zero =>
    intro x a s hx hxl h0 h1
    refine ⟨x, hx, rfl, Ev_succ ?_⟩
    simp only [spec_R8Scrambler.l1, if_neg (show ¬ ((0 : Nat) : Int) > 0 by omega)]
    exact Ev.bind (text_ev x hx (by omega)) (Ev.now _)
  | succ d ih =>
    intro x a s hx hxl h0 h1
    obtain ⟨v, a1, s1, e1, hv0, hv1, ha1, ha2⟩ := pick_ev l hu hl 2 a s h0 (by omega)
    have hv1 := hv1 (by omega)
    obtain ⟨y, hy, hyl, hE⟩ := ih (x ++ [v]) a1 s1 (BitL_append hx (BitL_one (by omega))) (by simp; omega) (by omega) (by omega)
    have d1 : ((d + 1 : Nat) : Int) > 0 := by omega
    have lt : x.length < 140737488355328 := by omega
    have b2 : -9223372036854775808 ≤ (d : Int) ∧ (d : Int) ≤ 9223372036854775807 := by omega
    have b3 : ((d + 1 : Nat) : Int) - 1 = d := by omega
    have b4 : v % 256 = v := by omega
    refine ⟨y, hy, by rw [hyl]; simp; omega, Ev_succ ?_⟩
    simp only [spec_R8Scrambler.l1, if_pos d1, e1, Option.bind_some, if_pos lt, b3, w64 b2.1 b2.2, b4]
    exact hE
def TapsR (T : List Int) : Prop := T.Pairwise (· < ·) ∧ ∀ v ∈ T, 1 ≤ v ∧ v ≤ 7
theorem r8Scr_taps (l : List Int) (hu : U8L l) (hl : l.length ≤ 1000000) (q : ByteArray) (d : Nat) : ∀ (T : List Int) (a s : Int), TapsR T → 1 ≤ T.length + d → T.length + d ≤ 3 → 0 ≤ a → a + 4 * d ≤ 10000 →
    ∃ T' s', ScrOk T' s' ∧ s'.size ≤ 7 ∧ TapsR T' ∧ T'.length ≤ 3 ∧ Ev (fun k => spec_R8Scrambler.l0 k d l a s T q) (T', s') := by
  induction d with
  | zero =>
    intro T a s hT h1 h3 h0 h4
    have hT1 : (T.length : Int) - 1 = ((T.length - 1 : Nat) : Int) := by omega
    have hlast := rd_nat T (T.length - 1) (by omega)
    have hW := hT.2 _ (List.getElem_mem (l := T) (n := T.length - 1) (by omega))
    rw [← hlast, ← hT1] at hW
    obtain ⟨W, hWe⟩ : ∃ W : Nat, rd T ((T.length : Int) - 1) = W := ⟨(rd T ((T.length : Int) - 1)).toNat, by omega⟩
    rw [hWe] at hW
    obtain ⟨y, hy, hyl, hE⟩ := r8Scr_bits l hu hl T q W [] a s (by intro v hv; cases hv) (by simp; omega) h0 (by omega)
    have hyl : y.length = W := by simpa using hyl
    have b1 : -9223372036854775808 ≤ (T.length : Int) - 1 ∧ (T.length : Int) - 1 ≤ 9223372036854775807 := by omega
    have b2 : 0 ≤ (T.length : Int) - 1 := by omega
    have b3 : (T.length : Int) - 1 < (T.length : Int) := by omega
    refine ⟨T, strOfNums (up y), ⟨⟨by omega, by omega, rises_of T hT.1 1 16 (fun v hv => by have := hT.2 v hv; omega)⟩, AllBit_up y hy, by rw [sz_up, hWe, hyl]⟩, by rw [sz_up]; omega, hT, by omega, Ev_succ ?_⟩
    simp only [spec_R8Scrambler.l0, if_neg (show ¬ ((0 : Nat) : Int) > 0 by omega), w64 b1.1 b1.2, if_pos b2, if_pos b3, hWe]
    exact hE
  | succ d ih =>
    intro T a s hT h1 h3 h0 h4
    obtain ⟨v, a1, s1, e1, hv0, hv1, ha1, ha2⟩ := pick_ev l hu hl 7 a s h0 (by omega)
    have hv1 := hv1 (by omega)
    have hp := put_ev T (1 + v) (by omega)
    have hpl := putL_length T (1 + v)
    obtain ⟨T', s', hA, hB, hC, hD, hE⟩ := ih (putL T (1 + v)) a1 s1 ⟨putL_sorted T _ hT.1, fun w hw => by
      rcases putL_mem T _ w hw with e | e
      · exact hT.2 w e
      · omega⟩ (by omega) (by omega) (by omega) (by omega)
    have d1 : ((d + 1 : Nat) : Int) > 0 := by omega
    have b1 : -9223372036854775808 ≤ 1 + v ∧ 1 + v ≤ 9223372036854775807 := by omega
    have b2 : -9223372036854775808 ≤ (d : Int) ∧ (d : Int) ≤ 9223372036854775807 := by omega
    have b3 : ((d + 1 : Nat) : Int) - 1 = d := by omega
    refine ⟨T', s', hA, hB, hC, hD, Ev_succ ?_⟩
    simp only [spec_R8Scrambler.l0, if_pos d1, e1, Option.bind_some, w64 b1.1 b1.2]
    refine Ev.bind hp ?_
    simp only [b3, w64 b2.1 b2.2]
    exact hE
theorem r8Scr_ev (l : List Int) (hu : U8L l) (hl : l.length ≤ 1000000) : ∃ T s, ScrOk T s ∧ s.size ≤ 7 ∧ TapsR T ∧ T.length ≤ 3 ∧ Ev (fun k => spec_R8Scrambler.f k l) (T, s) := by
  obtain ⟨v, a1, s1, e1, hv0, hv1, ha1, ha2⟩ := pick_ev l hu hl 3 0 0 (by omega) (by omega)
  have hv1 := hv1 (by omega)
  obtain ⟨d, hd⟩ : ∃ d : Nat, 1 + v = d := ⟨(1 + v).toNat, by omega⟩
  obtain ⟨T', s', hA, hB, hC, hD, hE⟩ := r8Scr_taps l hu hl (⟨#[]⟩ : ByteArray) d [] a1 s1 ⟨List.Pairwise.nil, by intro v hv; cases hv⟩ (by simp; omega) (by simp; omega) (by omega) (by omega)
  have b2 : -9223372036854775808 ≤ (d : Int) ∧ (d : Int) ≤ 9223372036854775807 := by omega
  refine ⟨T', s', hA, hB, hC, hD, ?_⟩
  simp only [spec_R8Scrambler.f, spec_l00From.f, Option.bind_some, e1, hd, w64 b2.1 b2.2]
  exact hE
theorem r8At_ev (l : List Int) (hu : U8L l) (i n : Int) (h0 : 0 ≤ i) (hn : 1 ≤ n) : ∃ v, laws_r8At.f l i n = some v ∧ 0 ≤ v ∧ v < n := by
  have hr := u8_rd hu i
  have ht := tmod_range (rd l i) n hr.1 hn
  have hn0 : ¬ n = 0 := by omega
  simp only [laws_r8At.f]
  by_cases c : n ≤ 1
  · rw [if_pos c]; exact ⟨0, rfl, by omega, by omega⟩
  rw [if_neg c]
  by_cases c1 : i ≥ (l.length : Int)
  · rw [if_pos c1]; exact ⟨0, rfl, by omega, by omega⟩
  have c2 : i < (l.length : Int) := by omega
  rw [if_neg c1, if_pos h0, if_pos c2, if_neg hn0, w64 (Int.le_trans (by decide) hr.1) (Int.le_trans hr.2 (by decide))]
  exact ⟨_, rfl, ht⟩
theorem r8Bits_up (l : List Int) (hu : U8L l) (hl : l.length ≤ 1000000) (n : Nat) (hn : n ≤ 1000) : ∃ b, BitL b ∧ b.length ≤ n ∧ Ev (fun k => spec_R8Bits.f k l n) (strOfNums (up b)) := by
  obtain ⟨y, hy, hyl, hE⟩ := r8Bits_ev l hu hl n hn
  have e : up (y.map (fun v => v - 48)) = y := by
    unfold up
    rw [List.map_map]
    conv => rhs; rw [← List.map_id y]
    apply List.map_congr_left
    intro v hv
    show 48 + (v - 48) = v
    omega
  refine ⟨y.map (fun v => v - 48), ?_, by simpa using hyl, by rw [e]; exact hE⟩
  intro v hv
  obtain ⟨w, hw, rfl⟩ := List.mem_map.1 hv
  rcases hy w hw with g | g <;> rw [g]
  · exact .inl rfl
  · exact .inr rfl
theorem r8Long_big (l0 l1 : List Int) (g : (l0.length : Int) > 48 ∨ (l1.length : Int) > 48) : laws_r8Long.f l0 l1 = some true := by
  simp only [laws_r8Long.f]
  by_cases g0 : (l0.length : Int) > 48
  · rw [if_pos g0]
  · rw [if_neg g0]; rcases g with g | g
    · exact absurd g g0
    · rw [decide_eq_true g]
theorem r8Long_small (l0 l1 : List Int) (g : ¬ ((l0.length : Int) > 48 ∨ (l1.length : Int) > 48)) : laws_r8Long.f l0 l1 = some false := by
  simp only [laws_r8Long.f]
  rw [if_neg (fun z => g (.inl z)), decide_eq_false (fun z => g (.inr z))]

def valN : List Int → Nat
  | [] => 0
  | b :: r => b.toNat + 2 * valN r
theorem valN_lt : ∀ x : List Int, BitL x → valN x < 2 ^ x.length
  | [], h => by simp [valN]
  | b :: r, h => by
    have := valN_lt r (BitL_tail h).2
    have hb := (BitL_tail h).1
    rw [valN, List.length_cons, Nat.pow_succ]; omega
theorem valN_inj : ∀ x y : List Int, BitL x → BitL y → x.length = y.length → valN x = valN y → x = y
  | [], [], _, _, _, _ => rfl
  | a :: r, b :: q, h, g, hl, e => by
    have ha := (BitL_tail h).1
    have hb := (BitL_tail g).1
    rw [valN, valN] at e
    rw [valN_inj r q (BitL_tail h).2 (BitL_tail g).2 (by simpa using hl) (by omega), show a = b by omega]
theorem valN_snoc : ∀ (x : List Int) (c : Int), valN (x ++ [c]) = valN x + c.toNat * 2 ^ x.length
  | [], c => by simp [valN]
  | b :: r, c => by
    rw [List.cons_append, valN, valN, valN_snoc r c, List.length_cons, Nat.pow_succ, Nat.mul_add, ← Nat.mul_assoc c.toNat, Nat.mul_comm (c.toNat * 2 ^ r.length) 2]
    omega
theorem valN_half (b : Int) (r : List Int) (h : b = 0 ∨ b = 1) : valN (b :: r) / 2 = valN r := by rw [valN]; omega
theorem valN_bit : ∀ (x : List Int) (j : Nat), BitL x → j < x.length → ((valN x / 2 ^ j % 2 : Nat) : Int) = rd x j
  | [], j, h, hj => by simp at hj
  | b :: r, 0, h, hj => by
    have hb := (BitL_tail h).1
    have e : rd (b :: r) ((0 : Nat) : Int) = b := rfl
    rw [e, valN, Nat.pow_zero, Nat.div_one]; omega
  | b :: r, j + 1, h, hj => by
    have e : rd (b :: r) ((j + 1 : Nat) : Int) = rd r j := by unfold rd; rw [Int.toNat_natCast, Int.toNat_natCast]; rfl
    rw [e, Nat.pow_succ, Nat.mul_comm, ← Nat.div_div_eq_div_mul, valN_half b r (BitL_tail h).1]
    exact valN_bit r j (BitL_tail h).2 (by simpa using hj)
theorem wrap_i64 (n : Nat) (h : n < 9223372036854775808) : IntKind.i64.wrap (n : Int) = n := by
  have e : IntKind.i64.wrap (n : Int) = if (true && decide ((n : Int) % 18446744073709551616 ≥ 9223372036854775808)) = true then (n : Int) % 18446744073709551616 - 18446744073709551616 else (n : Int) % 18446744073709551616 := rfl
  rw [e]
  have h2 : ¬ (n : Int) % 18446744073709551616 ≥ 9223372036854775808 := by omega
  rw [decide_eq_false h2]
  simp only [Bool.and_false, Bool.false_eq_true, if_false]
  omega
theorem ofInt_toNat (n : Nat) (h : n < 9223372036854775808) : (BitVec.ofInt 64 (n : Int)).toNat = n := by
  rw [BitVec.ofInt_natCast, BitVec.toNat_ofNat]; omega
theorem and_i64 (n : Nat) (h : n < 9223372036854775808) : Go.bits .and .i64 (n : Int) 1 = ((n % 2 : Nat) : Int) := by
  have e : Go.bits .and .i64 (n : Int) 1 = IntKind.i64.wrap ((BitVec.ofInt 64 (n : Int) &&& BitVec.ofInt 64 ((1 : Nat) : Int)).toNat : Int) := rfl
  rw [e, BitVec.toNat_and, ofInt_toNat n h, ofInt_toNat 1 (by omega), Nat.and_one_is_mod, wrap_i64 _ (by omega)]
theorem or_i64 (a m r : Nat) (h : a * 2 ^ m + r < 9223372036854775808) (hr : r < 2 ^ m) : Go.bits .or .i64 ((a * 2 ^ m : Nat) : Int) (r : Int) = ((a * 2 ^ m + r : Nat) : Int) := by
  have e : Go.bits .or .i64 ((a * 2 ^ m : Nat) : Int) (r : Int) = IntKind.i64.wrap ((BitVec.ofInt 64 ((a * 2 ^ m : Nat) : Int) ||| BitVec.ofInt 64 (r : Int)).toNat : Int) := rfl
  rw [e, BitVec.toNat_or, ofInt_toNat _ (by omega), ofInt_toNat r (by omega), Nat.mul_comm a, ← Nat.two_pow_add_eq_or_of_lt hr, wrap_i64 _ (by rw [Nat.mul_comm]; exact h)]
theorem xor_i64 {a b : Int} (ha : a = 0 ∨ a = 1) (hb : b = 0 ∨ b = 1) : Go.bits .xor .i64 a b = (a + b) % 2 := by
  rcases ha with rfl | rfl <;> rcases hb with rfl | rfl <;> decide
theorem shr_i64 (n : Nat) (j : Nat) (hj : j ≤ 16) : shr .i64 (n : Int) (j : Int) = ((n / 2 ^ j : Nat) : Int) := by
  have e : shr .i64 (n : Int) (j : Int) = (n : Int) / 2 ^ min j 64 := rfl
  rw [e, Nat.min_eq_left (by omega), Int.natCast_ediv, Int.natCast_pow]; rfl
theorem shl_i64 (a j : Nat) (hj : j ≤ 16) (h : a * 2 ^ j < 9223372036854775808) : shl .i64 (a : Int) (j : Int) = ((a * 2 ^ j : Nat) : Int) := by
  have e : shl .i64 (a : Int) (j : Int) = IntKind.i64.wrap ((a : Int) * 2 ^ min j 64) := rfl
  have e2 : (a : Int) * 2 ^ j = ((a * 2 ^ j : Nat) : Int) := by rw [Int.natCast_mul, Int.natCast_pow]; rfl
  rw [e, Nat.min_eq_left (by omega), e2, wrap_i64 _ h]
def stepK (T x : List Int) : List Int := x.drop 1 ++ [sumM T x]
def iterK (T x : List Int) : Nat → List Int
  | 0 => x
  | n + 1 => stepK T (iterK T x n)
theorem stepK_ok (T x : List Int) (hx : BitL x) (h1 : 1 ≤ x.length) : BitL (stepK T x) ∧ (stepK T x).length = x.length :=
  ⟨BitL_append (BitL_drop hx 1) (BitL_one (sumM_bit T x)), by rw [stepK, List.length_append, List.length_drop]; show x.length - 1 + 1 = _; omega⟩
theorem iterK_ok (T x : List Int) (hx : BitL x) (h1 : 1 ≤ x.length) : ∀ n, BitL (iterK T x n) ∧ (iterK T x n).length = x.length
  | 0 => ⟨hx, rfl⟩
  | n + 1 => by
    have := iterK_ok T x hx h1 n
    have h2 := stepK_ok T _ this.1 (by omega)
    exact ⟨h2.1, by rw [iterK, h2.2, this.2]⟩
theorem sumT_append : ∀ (A B x : List Int), sumT (A ++ B) x = sumT A x + sumT B x
  | [], B, x => by simp [sumT]
  | t :: r, B, x => by rw [List.cons_append, sumT, sumT, sumT_append r B x]; omega
theorem taps_split {T : List Int} {s : ByteArray} (h : ScrOk T s) : ∃ A, T = A ++ [(s.size : Int)] ∧ ∀ t ∈ A, 1 ≤ t ∧ t < s.size := by
  have h1 := h.1.1
  have hT : T.length - 1 < T.length := by omega
  have hd : T = T.take (T.length - 1) ++ [T[T.length - 1]] := by
    conv => lhs; rw [← List.take_append_drop (T.length - 1) T]
    rw [List.drop_eq_getElem_cons hT, List.drop_of_length_le (by omega)]
  have hl := rd_nat T (T.length - 1) hT
  have hs := h.2.2
  rw [show (T.length : Int) - 1 = ((T.length - 1 : Nat) : Int) by omega, hl] at hs
  refine ⟨T.take (T.length - 1), by rw [hs]; exact hd, fun t ht => ?_⟩
  obtain ⟨n, hn, rfl⟩ := List.getElem_of_mem ht
  rw [List.length_take] at hn
  have hn' : n < T.length := by omega
  rw [List.getElem_take]
  have hb := (h.1.2.2 n (by omega) (by omega)).1.1
  have hst := (h.1.2.2 ((n + 1 : Nat) : Int) (by omega) (by omega)).2 (by omega)
  rw [show ((n + 1 : Nat) : Int) - 1 = (n : Int) by omega] at hst
  have hm := rises_mono T h.1.2.2 (T.length - 1 - (n + 1)) ((n + 1 : Nat) : Int) (by omega) (by omega)
  rw [show ((n + 1 : Nat) : Int) + ((T.length - 1 - (n + 1) : Nat) : Int) = ((T.length - 1 : Nat) : Int) by omega, hl, ← hs] at hm
  rw [rd_nat T n hn'] at hb hst
  omega
theorem stepK_inj {T : List Int} {s : ByteArray} (h : ScrOk T s) (x y : List Int) (hx : BitL x) (hy : BitL y) (hxl : x.length = s.size) (hyl : y.length = s.size) (e : stepK T x = stepK T y) : x = y := by
  have h16 := h.small
  obtain ⟨A, rfl, hA⟩ := taps_split h
  match x, y, hx, hy, hxl, hyl, e with
  | [], _, _, _, hxl, _, _ => simp at hxl; omega
  | _ :: _, [], _, _, _, hyl, _ => simp at hyl; omega
  | a :: r, b :: q, hx, hy, hxl, hyl, e =>
    unfold stepK at e
    have e1 := List.append_inj e (by simp at hxl hyl ⊢; omega)
    have er : r = q := by simpa using e1.1
    subst er
    have e2 : sumM (A ++ [(s.size : Int)]) (a :: r) = sumM (A ++ [(s.size : Int)]) (b :: r) := by simpa using e1.2
    have hl : (r.length : Int) + 1 = s.size := by simp at hxl; omega
    have k : ∀ c : Int, sumT (A ++ [(s.size : Int)]) (c :: r) = sumT A r + c := by
      intro c
      have k1 := sumT_app [c] r A (fun t ht => by have := hA t ht; omega)
      rw [List.singleton_append] at k1
      rw [sumT_append, k1, sumT, sumT, List.length_cons]
      rw [show ((r.length + 1 : Nat) : Int) - (s.size : Int) = 0 by omega]
      show _ + (c + 0) = _
      omega
    unfold sumM at e2
    rw [k, k] at e2
    have ha := (BitL_tail hx).1
    have hb := (BitL_tail hy).1
    rw [show a = b by omega]
theorem pigeon : ∀ (n : Nat) (f : Nat → Nat), (∀ i, i ≤ n → f i < n) → ∃ i j, i < j ∧ j ≤ n ∧ f i = f j
  | 0, f, h => by have := h 0 (Nat.le_refl _); omega
  | n + 1, f, h => by
    by_cases c : ∃ i, i ≤ n ∧ f i = f (n + 1)
    · obtain ⟨i, hi, e⟩ := c; exact ⟨i, n + 1, by omega, Nat.le_refl _, e⟩
    have c' : ∀ i, i ≤ n → f i ≠ f (n + 1) := fun i hi e => c ⟨i, hi, e⟩
    obtain ⟨i, j, hij, hj, e⟩ := pigeon n (fun i => if f i = n then f (n + 1) else f i) (fun i hi => by
      have h1 := h i (by omega)
      have h2 := h (n + 1) (Nat.le_refl _)
      have h3 := c' i hi
      show (if f i = n then f (n + 1) else f i) < n
      split <;> omega)
    refine ⟨i, j, hij, by omega, ?_⟩
    have hi2 := c' i (by omega)
    have hj2 := c' j hj
    have e : (if f i = n then f (n + 1) else f i) = (if f j = n then f (n + 1) else f j) := e
    split at e <;> split at e <;> omega
theorem iterK_back {T : List Int} {s : ByteArray} (h : ScrOk T s) (x : List Int) (hx : BitL x) (hxl : x.length = s.size) (m : Nat) : ∀ i : Nat, iterK T x i = iterK T x (i + m) → x = iterK T x m := by
  have h16 := h.small
  intro i
  induction i with
  | zero => intro e; rw [Nat.zero_add] at e; exact e
  | succ i ih =>
    intro e
    have h1 := iterK_ok T x hx (by omega) i
    have h2 := iterK_ok T x hx (by omega) (i + m)
    rw [show i + 1 + m = (i + m) + 1 by omega, iterK, iterK] at e
    exact ih (stepK_inj h _ _ h1.1 h2.1 (by omega) (by omega) e)
theorem period_ex {T : List Int} {s : ByteArray} (h : ScrOk T s) (x : List Int) (hx : BitL x) (hxl : x.length = s.size) : ∃ p, 1 ≤ p ∧ p ≤ 2 ^ s.size ∧ iterK T x p = x := by
  have h16 := h.small
  obtain ⟨i, j, hij, hj, e⟩ := pigeon (2 ^ s.size) (fun n => valN (iterK T x n)) (fun n hn => by
    have := iterK_ok T x hx (by omega) n
    have h2 := valN_lt _ this.1
    rw [this.2, hxl] at h2
    exact h2)
  have h1 := iterK_ok T x hx (by omega) i
  have h2 := iterK_ok T x hx (by omega) j
  have e2 := valN_inj _ _ h1.1 h2.1 (by omega) e
  have e3 := iterK_back h x hx hxl (j - i) i (by rw [show i + (j - i) = j by omega]; exact e2)
  exact ⟨j - i, by omega, by omega, e3.symm⟩
theorem least_of (P : Nat → Prop) [DecidablePred P] (n : Nat) (h : P n) : ∃ m, m ≤ n ∧ P m ∧ ∀ k, k < m → ¬ P k := by
  induction n using Nat.strongRecOn with
  | ind n ih =>
    by_cases c : ∃ k, k < n ∧ P k
    · obtain ⟨k, hk, hp⟩ := c
      obtain ⟨m, h1, h2, h3⟩ := ih k hk hp
      exact ⟨m, by omega, h2, h3⟩
    · exact ⟨n, Nat.le_refl _, h, fun k hk hp => c ⟨k, hk, hp⟩⟩
theorem period_least {T : List Int} {s : ByteArray} (h : ScrOk T s) (x : List Int) (hx : BitL x) (hxl : x.length = s.size) : ∃ p, 1 ≤ p ∧ p ≤ 65536 ∧ p ≤ 2 ^ s.size ∧ iterK T x p = x ∧ ∀ q, 1 ≤ q → q < p → iterK T x q ≠ x := by
  have h16 := h.small
  obtain ⟨p, h1, h2, h3⟩ := period_ex h x hx hxl
  have hp : (2 : Nat) ^ s.size ≤ 2 ^ 16 := Nat.pow_le_pow_right (by omega) (by omega)
  have h64 : (2 : Nat) ^ 16 = 65536 := by decide
  obtain ⟨m, k1, ⟨k2, k4⟩, k3⟩ := least_of (fun q => 1 ≤ q ∧ iterK T x q = x) p ⟨h1, h3⟩
  exact ⟨m, k2, by omega, by omega, k4, fun q q1 q2 e => k3 q q2 ⟨q1, e⟩⟩

def valB (x : List Int) : Nat := x.foldl (fun n b => 2 * n + b.toNat) 0
def valA (n : Nat) : List Int → Nat
  | [] => n
  | b :: r => valA (2 * n + b.toNat) r
theorem valA_eq : ∀ (x : List Int) (n : Nat), valA n x = n * 2 ^ x.length + valN x.reverse
  | [], n => by simp [valA, valN]
  | b :: r, n => by
    rw [valA, valA_eq r, List.reverse_cons, valN_snoc, List.length_reverse, List.length_cons, Nat.pow_succ, Nat.add_mul, Nat.mul_comm 2 n, Nat.mul_assoc, Nat.mul_comm (2 ^ r.length) 2]
    omega
theorem valA_lt (x : List Int) (hx : BitL x) : valA 0 x < 2 ^ x.length := by
  rw [valA_eq, Nat.zero_mul, Nat.zero_add]
  have := valN_lt x.reverse (fun v hv => hx v (List.mem_reverse.1 hv))
  rwa [List.length_reverse] at this
theorem valA_inj (x y : List Int) (hx : BitL x) (hy : BitL y) (hl : x.length = y.length) (e : valA 0 x = valA 0 y) : x = y := by
  rw [valA_eq, valA_eq, Nat.zero_mul, Nat.zero_mul, Nat.zero_add, Nat.zero_add] at e
  have := valN_inj x.reverse y.reverse (fun v hv => hx v (List.mem_reverse.1 hv)) (fun v hv => hy v (List.mem_reverse.1 hv)) (by simpa using hl) e
  simpa using congrArg List.reverse this
theorem pow16 {n : Nat} (h : n ≤ 16) : 2 ^ n ≤ 65536 := by
  have : (2 : Nat) ^ n ≤ 2 ^ 16 := Nat.pow_le_pow_right (by omega) h
  have h64 : (2 : Nat) ^ 16 = 65536 := by decide
  omega
def bitsS (s : ByteArray) : List Int := (revB s s.size).reverse
theorem rd_rev (x : List Int) (i : Nat) (h : i < x.length) : rd x.reverse i = rd x ((x.length - 1 - i : Nat) : Int) := by
  rw [rd_nat _ i (by simpa using h), rd_nat _ _ (by omega), List.getElem_reverse]
theorem rd_revB (s : ByteArray) : ∀ (n i : Nat), i < n → rd (revB s n) i = bt s ((n - 1 - i : Nat) : Int) - 48
  | 0, i, h => by omega
  | n + 1, 0, h => by rw [revB]; show bt s n - 48 = _; simp
  | n + 1, i + 1, h => by
    have e : rd (revB s (n + 1)) ((i + 1 : Nat) : Int) = rd (revB s n) i := by rw [revB]; unfold rd; rw [Int.toNat_natCast, Int.toNat_natCast]; rfl
    rw [e, rd_revB s n i (by omega), show n + 1 - 1 - (i + 1) = n - 1 - i by omega]
theorem rd_bitsS (s : ByteArray) (i : Nat) (h : i < s.size) : rd (bitsS s) i = bt s i - 48 := by
  have hl := revB_length s s.size
  unfold bitsS
  rw [rd_rev _ i (by omega), hl, rd_revB s s.size _ (by omega), show s.size - 1 - (s.size - 1 - i) = i by omega]
theorem num_impl (s : ByteArray) (hs : AllBit s) (hl : s.size ≤ 16) (d : Nat) : ∀ (n i : Nat), i + d = s.size → n < 2 ^ i → Ev (fun k => impl_number.l0 k s n s.size i) ((valA n ((bitsS s).drop i) : Nat) : Int) := by
  have hbl : (bitsS s).length = s.size := by unfold bitsS; rw [List.length_reverse, revB_length]
  induction d with
  | zero =>
    intro n i hd hn
    refine Ev_succ ?_
    rw [List.drop_of_length_le (by omega), valA]
    simp only [impl_number.l0, if_neg (show ¬ (i : Int) < (s.size : Int) by omega)]; exact Ev.now _
  | succ d ih =>
    intro n i hd hn
    have q : (i : Int) < (s.size : Int) := by omega
    have q0 : (0 : Int) ≤ i := by omega
    have hb := hs i q0 q
    have hr := rd_bitsS s i (by omega)
    obtain ⟨c, hc⟩ : ∃ c : Nat, bt s i - 48 = c := ⟨(bt s i - 48).toNat, by omega⟩
    have hc2 : (bt s i - 48) % 256 = c := by omega
    have hp := pow16 (show i ≤ 16 by omega)
    have hE := ih (2 * n + c) (i + 1) (by omega) (by rw [Nat.pow_succ]; omega)
    have b1 : -9223372036854775808 ≤ 2 * (n : Int) ∧ 2 * (n : Int) ≤ 9223372036854775807 := by omega
    have b2 : -9223372036854775808 ≤ ((2 * n + c : Nat) : Int) ∧ ((2 * n + c : Nat) : Int) ≤ 9223372036854775807 := by omega
    have b3 : -9223372036854775808 ≤ ((i + 1 : Nat) : Int) ∧ ((i + 1 : Nat) : Int) ≤ 9223372036854775807 := by omega
    have b4 : (i : Int) + 1 = ((i + 1 : Nat) : Int) := by omega
    have b5 : 2 * (n : Int) + (c : Int) = ((2 * n + c : Nat) : Int) := by omega
    have e : valA n ((bitsS s).drop i) = valA (2 * n + c) ((bitsS s).drop (i + 1)) := by rw [drop_rd _ i (by omega), valA, hr, hc, Int.toNat_natCast]
    rw [← e] at hE
    refine Ev_succ ?_
    simp only [impl_number.l0, if_pos q, if_pos q0, hc2, w64 b1.1 b1.2, b5, w64 b2.1 b2.2, b4, w64 b3.1 b3.2]
    exact hE
theorem num_implE (s : ByteArray) (hs : AllBit s) (hl : s.size ≤ 16) : Ev (fun k => impl_number.f k s) ((valN (revB s s.size) : Nat) : Int) := by
  have := num_impl s hs hl s.size 0 0 (by omega) (by decide)
  rw [List.drop_zero, valA_eq, Nat.zero_mul, Nat.zero_add] at this
  unfold bitsS at this
  rw [List.reverse_reverse] at this
  exact this
theorem per_inner {T : List Int} {s : ByteArray} (h : ScrOk T s) (x : List Int) (hx : BitL x) (hxl : x.length = s.size) (first q : Int) (r : Int × Bool) (hj : Ev (fun k => impl_KeyPeriod.l1 k (s.size : Int) first (valN x : Nat) q (sumM T x) T T.length T.length T s) r) (d : Nat) : ∀ (v : Int) (i : Nat), i + d = T.length → (v = 0 ∨ v = 1) → (v + sumT (T.drop i) x) % 2 = sumM T x →
    Ev (fun k => impl_KeyPeriod.l1 k (s.size : Int) first (valN x : Nat) q v T T.length i T s) r := by
  have h16 := h.small
  have hlt := valN_lt x hx
  have hp := pow16 (show x.length ≤ 16 by omega)
  induction d with
  | zero =>
    intro v i hd hv he
    rw [List.drop_of_length_le (by omega), sumT] at he
    obtain rfl : i = T.length := by omega
    rw [show v = sumM T x by omega]
    exact hj
  | succ d ih =>
    intro v i hd hv he
    have hl : (i : Int) < (T.length : Int) := by omega
    have h0 : (0 : Int) ≤ i := by omega
    have ht := tap_le h i h0 hl
    have h17 := h.1.2.1
    obtain ⟨j, hj2⟩ : ∃ j : Nat, (s.size : Int) - rd T i = j := ⟨((s.size : Int) - rd T i).toNat, by omega⟩
    have hbit := valN_bit x j hx (by omega)
    have hb := rd_bit hx j (by omega) (by omega)
    have b1 : -9223372036854775808 ≤ (j : Int) ∧ (j : Int) ≤ 9223372036854775807 := by omega
    have b2 : -9223372036854775808 ≤ ((i + 1 : Nat) : Int) ∧ ((i + 1 : Nat) : Int) ≤ 9223372036854775807 := by omega
    have b3 : (i : Int) + 1 = ((i + 1 : Nat) : Int) := by omega
    have b4 : (0 : Int) ≤ (j : Int) := by omega
    have hd2 : valN x / 2 ^ j ≤ valN x := Nat.div_le_self _ _
    have hnew : (v + rd x j) % 2 = 0 ∨ (v + rd x j) % 2 = 1 := by omega
    have hE := ih ((v + rd x j) % 2) (i + 1) (by omega) hnew (by
      rw [drop_rd T i (by omega), sumT, hxl, hj2] at he
      rw [← he]; omega)
    refine Ev_succ ?_
    simp only [impl_KeyPeriod.l1, if_pos hl, if_pos h0, hj2, w64 b1.1 b1.2, if_pos b4, shr_i64 (valN x) j (by omega), and_i64 (valN x / 2 ^ j) (by omega), hbit, xor_i64 hv hb, b3, w64 b2.1 b2.2]
    exact hE
theorem per_step {T : List Int} {s : ByteArray} (h : ScrOk T s) (x : List Int) (hx : BitL x) (hxl : x.length = s.size) (y : List Int) (hy : BitL y) (hyl : y.length = s.size) (q : Int) (hq : 0 ≤ q ∧ q ≤ 100000) (r : Int × Bool)
    (hj : Ev (fun k => if stepK T x = y then some (q, true) else impl_KeyPeriod.l0 k (s.size : Int) (valN y : Nat) (valN (stepK T x) : Nat) (q + 1) T s) r) :
    Ev (fun k => impl_KeyPeriod.l0 k (s.size : Int) (valN y : Nat) (valN x : Nat) q T s) r := by
  have h16 := h.small
  have hs := stepK_ok T x hx (by omega)
  have hlt := valN_lt x hx
  have hp := pow16 (show x.length ≤ 16 by omega)
  refine Ev_succ ?_
  simp only [impl_KeyPeriod.l0]
  refine per_inner h x hx hxl _ q r (Ev_succ ?_) T.length 0 0 (by omega) (.inl rfl) (by rw [List.drop_zero, Int.zero_add]; rfl)
  obtain ⟨m, hm⟩ : ∃ m : Nat, s.size = m + 1 := ⟨s.size - 1, by omega⟩
  have b1 : (s.size : Int) - 1 = (m : Int) := by omega
  have b2 : -9223372036854775808 ≤ (m : Int) ∧ (m : Int) ≤ 9223372036854775807 := by omega
  have b3 : (0 : Int) ≤ (m : Int) := by omega
  have b4 : ¬ (T.length : Int) < (T.length : Int) := by omega
  have b5 : -9223372036854775808 ≤ q + 1 ∧ q + 1 ≤ 9223372036854775807 := by omega
  have hsb := sumM_bit T x
  obtain ⟨c, hc⟩ : ∃ c : Nat, sumM T x = c := ⟨(sumM T x).toNat, by omega⟩
  have hc1 : c ≤ 1 := by omega
  have hpm := pow16 (show m ≤ 16 by omega)
  have hcm : c * 2 ^ m ≤ 1 * 2 ^ m := Nat.mul_le_mul_right _ hc1
  have hhalf : valN x / 2 < 2 ^ m := by rw [hxl, hm, Nat.pow_succ] at hlt; omega
  have hdiv : ((valN x : Nat) : Int) / 2 = ((valN x / 2 : Nat) : Int) := by omega
  have hval : c * 2 ^ m + valN x / 2 = valN (stepK T x) := by
    unfold stepK
    rw [valN_snoc, List.length_drop, hxl, hm, Nat.add_sub_cancel, hc, Int.toNat_natCast]
    match x, hx, hxl with
    | [], _, hxl => simp at hxl; omega
    | b :: r, hx, hxl => rw [valN_half b r (BitL_tail hx).1, List.drop_succ_cons, List.drop_zero]; omega
  have hor := or_i64 c m (valN x / 2) (by omega) hhalf
  rw [hval] at hor
  have hsh := shl_i64 c m (by omega) (by omega)
  simp only [impl_KeyPeriod.l1, if_neg b4, b1, w64 b2.1 b2.2, if_pos b3, hc, hsh, hdiv, hor]
  by_cases e : stepK T x = y
  · have hv2 : ((valN (stepK T x) : Nat) : Int) = ((valN y : Nat) : Int) := by rw [e]
    simp only [if_pos e] at hj
    simp only [if_pos hv2]
    exact hj
  · have hv2 : ¬ ((valN (stepK T x) : Nat) : Int) = ((valN y : Nat) : Int) := fun g => e (valN_inj _ _ hs.1 hy (by rw [hs.2, hxl, hyl]) (Int.ofNat.inj g))
    simp only [if_neg e] at hj
    simp only [if_neg hv2, w64 b5.1 b5.2]
    exact hj
theorem per_impl {T : List Int} {s : ByteArray} (h : ScrOk T s) (y : List Int) (hy : BitL y) (hyl : y.length = s.size) (p : Nat) (hp : 1 ≤ p) (hp6 : p ≤ 65536) (hpe : iterK T y p = y) (hne : ∀ q, 1 ≤ q → q < p → iterK T y q ≠ y) (d : Nat) : ∀ i : Nat, i + d + 1 = p →
    Ev (fun k => impl_KeyPeriod.l0 k (s.size : Int) (valN y : Nat) (valN (iterK T y i) : Nat) ((i : Int) + 1) T s) ((p : Int), true) := by
  have h16 := h.small
  induction d with
  | zero =>
    intro i hd
    have hi := iterK_ok T y hy (by omega) i
    have e : stepK T (iterK T y i) = y := by rw [show stepK T (iterK T y i) = iterK T y (i + 1) from rfl, show i + 1 = p by omega, hpe]
    refine per_step h _ hi.1 (by omega) y hy hyl _ (by omega) _ ?_
    simp only [if_pos e]
    rw [show (i : Int) + 1 = p by omega]; exact Ev.now _
  | succ d ih =>
    intro i hd
    have hi := iterK_ok T y hy (by omega) i
    have e : ¬ stepK T (iterK T y i) = y := hne (i + 1) (by omega) (by omega)
    refine per_step h _ hi.1 (by omega) y hy hyl _ (by omega) _ ?_
    simp only [if_neg e]
    have := ih (i + 1) (by omega)
    rw [show ((i + 1 : Nat) : Int) + 1 = (i : Int) + 1 + 1 by omega] at this
    exact this

theorem rd_app_r (a b : List Int) (i : Nat) : rd (a ++ b) ((a.length + i : Nat) : Int) = rd b i := by
  unfold rd
  rw [Int.toNat_natCast, Int.toNat_natCast, List.getD_eq_getElem?_getD, List.getD_eq_getElem?_getD, List.getElem?_append_right (by omega), Nat.add_sub_cancel_left]
theorem rd_setN (l : List Int) (i j : Nat) (v : Int) (hi : i < l.length) : rd (l.set i v) j = if j = i then v else rd l j := by
  unfold rd
  rw [Int.toNat_natCast, List.getD_eq_getElem?_getD, List.getD_eq_getElem?_getD]
  by_cases e : j = i
  · subst e; rw [if_pos rfl, List.getElem?_set_self hi]; rfl
  · rw [if_neg e, List.getElem?_set_ne (fun g => e g.symm)]
theorem taps_splitK {T : List Int} {s : ByteArray} (h : ScrOk T s) : ∃ A, T = A ++ [(s.size : Int)] ∧ ∀ t ∈ A, 1 ≤ t ∧ t < s.size := by
  have h1 := h.1.1
  have hT : T.length - 1 < T.length := by omega
  have hd : T = T.take (T.length - 1) ++ [T[T.length - 1]] := by
    conv => lhs; rw [← List.take_append_drop (T.length - 1) T]
    rw [List.drop_eq_getElem_cons hT, List.drop_of_length_le (by omega)]
  have hl := rd_nat T (T.length - 1) hT
  have hs := h.2.2
  rw [show (T.length : Int) - 1 = ((T.length - 1 : Nat) : Int) by omega, hl] at hs
  refine ⟨T.take (T.length - 1), by rw [hs]; exact hd, fun t ht => ?_⟩
  obtain ⟨n, hn, rfl⟩ := List.getElem_of_mem ht
  rw [List.length_take] at hn
  have hn' : n < T.length := by omega
  rw [List.getElem_take]
  have hb := (h.1.2.2 n (by omega) (by omega)).1.1
  have hst := (h.1.2.2 ((n + 1 : Nat) : Int) (by omega) (by omega)).2 (by omega)
  rw [show ((n + 1 : Nat) : Int) - 1 = (n : Int) by omega] at hst
  have hm := rises_mono T h.1.2.2 (T.length - 1 - (n + 1)) ((n + 1 : Nat) : Int) (by omega) (by omega)
  rw [show ((n + 1 : Nat) : Int) + ((T.length - 1 - (n + 1) : Nat) : Int) = ((T.length - 1 : Nat) : Int) by omega, hl, ← hs] at hm
  rw [rd_nat T n hn'] at hb hst
  omega
theorem rd_addSK (x y : List Int) (h : x.length = y.length) (i : Int) : rd (addS x y) i = (rd x i + rd y i) % 2 := by
  unfold rd addS
  rw [List.getD_eq_getElem?_getD, List.getD_eq_getElem?_getD, List.getD_eq_getElem?_getD, List.getElem?_zipWith]
  by_cases c : i.toNat < x.length
  · rw [List.getElem?_eq_getElem c, List.getElem?_eq_getElem (show i.toNat < y.length by omega)]; rfl
  · rw [List.getElem?_eq_none (by omega), List.getElem?_eq_none (by omega)]; rfl
def bitsOf (s : ByteArray) : List Int := s.data.toList.map (fun c => (c.toNat : Int) - 48)
theorem bitsOf_ok (s : ByteArray) (h : AllBit s) : BitL (bitsOf s) ∧ s = strOfNums (up (bitsOf s)) ∧ (bitsOf s).length = s.size := by
  have hb : ∀ c ∈ s.data.toList, (c.toNat : Int) = 48 ∨ (c.toNat : Int) = 49 := by
    intro c hc
    obtain ⟨n, hn, rfl⟩ := List.getElem_of_mem hc
    have hn' : n < s.size := by rw [← dl_size]; exact hn
    have := h n (by omega) (by omega)
    rw [bt_list s n hn'] at this
    exact this
  refine ⟨?_, ?_, by unfold bitsOf; rw [List.length_map, dl_size]⟩
  · intro v hv
    obtain ⟨c, hc, rfl⟩ := List.mem_map.1 hv
    have := hb c hc
    omega
  · apply ba_ext
    have e : (strOfNums (up (bitsOf s))).data.toList = s.data.toList.map (fun c => UInt8.ofNat (48 + ((c.toNat : Int) - 48)).toNat) := by
      simp [strOfNums, up, bitsOf]
    rw [e]
    conv => lhs; rw [← List.map_id s.data.toList]
    apply List.map_congr_left
    intro c hc
    show c = _
    rw [show (48 + ((c.toNat : Int) - 48)).toNat = c.toNat by omega]
    exact UInt8.ofNat_toNat.symm
theorem byte_up {v : Int} (h : v = 0 ∨ v = 1) : ((UInt8.ofNat (48 + v).toNat).toNat : Int) = 48 + v := by rcases h with rfl | rfl <;> decide
theorem bytesOf_up (b : List Int) (hb : BitL b) : bytesOf (strOfNums (up b)) = up b := by
  have e : bytesOf (strOfNums (up b)) = b.map (fun v => ((UInt8.ofNat (48 + v).toNat).toNat : Int)) := by simp [bytesOf, strOfNums, up]
  rw [e]
  unfold up
  apply List.map_congr_left
  intro v hv
  exact byte_up (hb v hv)
theorem extract_up (b : List Int) (n : Nat) : (strOfNums (up b)).extract 0 n = strOfNums (up (b.take n)) := by
  apply ba_ext
  rw [ex_list]
  simp [strOfNums, up, List.map_take]
theorem up_inj {a b : List Int} (ha : BitL a) (hb : BitL b) (h : strOfNums (up a) = strOfNums (up b)) : a = b := by
  have h1 := congrArg bytesOf h
  rw [bytesOf_up a ha, bytesOf_up b hb] at h1
  unfold up at h1
  exact (List.map_inj_right (fun x y e => by omega)).1 h1
theorem rev_swap (l : List Int) (hl : l.length ≤ 1000000) (d : Nat) : ∀ (y : List Int) (i : Nat), l.length ≤ 2 * i + d + 1 → 2 * i ≤ l.length + 1 → y.length = l.length → (∀ j : Nat, j < l.length → rd y j = if j < i ∨ l.length ≤ j + i then rd l ((l.length - 1 - j : Nat) : Int) else rd l j) →
    Ev (fun k => slices_Reverse_byte_byte.l0 k y i ((l.length : Int) - 1 - i)) l.reverse := by
  have fin : ∀ (y : List Int) (i : Nat), l.length ≤ 2 * i + 1 → y.length = l.length → (∀ j : Nat, j < l.length → rd y j = if j < i ∨ l.length ≤ j + i then rd l ((l.length - 1 - j : Nat) : Int) else rd l j) → y = l.reverse := by
    intro y i hi hy hp
    apply List.ext_getElem (by rw [List.length_reverse, hy])
    intro j h1 h2
    have := hp j (by omega)
    rw [rd_nat y j h1] at this
    rw [this, List.getElem_reverse]
    by_cases c : j < i ∨ l.length ≤ j + i
    · rw [if_pos c, rd_nat l _ (by omega)]
    · rw [if_neg c, rd_nat l j (by omega)]
      congr 1
      omega
  induction d with
  | zero =>
    intro y i h1 h2 hy hp
    rw [← fin y i (by omega) hy hp]
    refine Ev_succ ?_
    simp only [slices_Reverse_byte_byte.l0, if_neg (show ¬ (i : Int) < (l.length : Int) - 1 - i by omega)]; exact Ev.now _
  | succ d ih =>
    intro y i h1 h2 hy hp
    by_cases c : (i : Int) < (l.length : Int) - 1 - i
    · obtain ⟨e, he⟩ : ∃ e : Nat, (l.length : Int) - 1 - i = e := ⟨l.length - 1 - i, by omega⟩
      rw [he] at c ⊢
      have hye := hp e (by omega)
      have hyi := hp i (by omega)
      rw [if_neg (by omega)] at hye hyi
      have q1 : (0 : Int) ≤ e := by omega
      have q2 : (e : Int) < (y.length : Int) := by omega
      have q3 : (0 : Int) ≤ i := by omega
      have q4 : (i : Int) < (y.length : Int) := by omega
      have b1 : -9223372036854775808 ≤ ((i + 1 : Nat) : Int) ∧ ((i + 1 : Nat) : Int) ≤ 9223372036854775807 := by omega
      have b2 : (i : Int) + 1 = ((i + 1 : Nat) : Int) := by omega
      have b3 : -9223372036854775808 ≤ (e : Int) - 1 ∧ (e : Int) - 1 ≤ 9223372036854775807 := by omega
      have hE := ih ((y.set i (rd y e)).set e (rd y i)) (i + 1) (by omega) (by omega) (by rw [List.length_set, List.length_set]; exact hy) (fun j hj => by
        have s1 := rd_setN (y.set i (rd y e)) e j (rd y i) (by rw [List.length_set]; omega)
        have s2 := rd_setN y i j (rd y e) (by omega)
        rw [s1, s2]
        by_cases j1 : j = e
        · rw [if_pos j1, if_pos (by omega), hyi, j1, show l.length - 1 - e = i by omega]
        · rw [if_neg j1]
          by_cases j2 : j = i
          · rw [if_pos j2, if_pos (by omega), hye, j2, show l.length - 1 - i = e by omega]
          · rw [if_neg j2, hp j hj]
            by_cases g : j < i ∨ l.length ≤ j + i
            · rw [if_pos g, if_pos (by omega)]
            · rw [if_neg g, if_neg (by omega)])
      rw [show (l.length : Int) - 1 - ((i + 1 : Nat) : Int) = (e : Int) - 1 by omega] at hE
      refine Ev_succ ?_
      simp only [slices_Reverse_byte_byte.l0, if_pos c, if_pos q1, if_pos q2, if_pos q3, if_pos q4, Int.toNat_natCast, b2, w64 b1.1 b1.2, w64 b3.1 b3.2]
      exact hE
    · rw [← fin y i (by omega) hy hp]
      refine Ev_succ ?_
      simp only [slices_Reverse_byte_byte.l0, if_neg c]; exact Ev.now _
theorem rev_ev (l : List Int) (hl : l.length ≤ 1000000) : Ev (fun k => slices_Reverse_byte_byte.f k l) l.reverse := by
  have b : -9223372036854775808 ≤ (l.length : Int) - 1 ∧ (l.length : Int) - 1 ≤ 9223372036854775807 := by omega
  have h := rev_swap l hl l.length l 0 (by omega) (by omega) rfl (fun j hj => by rw [if_neg (by omega)])
  rw [show (l.length : Int) - 1 - ((0 : Nat) : Int) = (l.length : Int) - 1 by omega] at h
  simp only [slices_Reverse_byte_byte.f, w64 b.1 b.2]
  exact h
def sumB : List Int → List Int → Int → Int
  | [], _, _ => 0
  | t :: r, x, i => rd x (i - t) + sumB r x i
def prevB (A : List Int) (W : Nat) (y : List Int) : Int := (rd y ((W : Int) - 1) + sumB A y ((W : Int) - 1)) % 2
theorem prevB_bit (A : List Int) (W : Nat) (y : List Int) : prevB A W y = 0 ∨ prevB A W y = 1 := by unfold prevB; omega
theorem impl_inner (A : List Int) (W : Nat) (hW : 1 ≤ W ∧ W ≤ 16) (hA : ∀ t ∈ A, 1 ≤ t ∧ t < W) (hAl : A.length ≤ 16) (T : List Int) (kt : ByteArray) (y : List Int) (hy : BitL y) (m : Nat) (hm : m < W) (hyl : y.length = W + m) (r : ByteArray × Bool)
    (h : Ev (fun k => impl_FindKey.l0 k T W kt (List.replicate (W - (m + 1)) 0 ++ up (prevB A W y :: y)) ((W : Int) - 1 - ((m + 1 : Nat) : Int))) r) (d : Nat) : ∀ (v : Int) (j : Nat), j + d = A.length → (v = 0 ∨ v = 1) → (v + sumB (A.drop j) y ((W : Int) - 1)) % 2 = prevB A W y →
    Ev (fun k => impl_FindKey.l1 k T W kt (List.replicate (W - m) 0 ++ up y) ((W : Int) - 1 - m) v A A.length j) r := by
  have hlen : ((List.replicate (W - m) (0 : Int) ++ up y).length : Int) = 2 * W := by rw [List.length_append, List.length_replicate, up_length]; omega
  have hrd : ∀ q : Nat, q < y.length → rd (List.replicate (W - m) 0 ++ up y) ((W - m + q : Nat) : Int) = 48 + rd y q := by
    intro q hq
    have e1 := rd_app_r (List.replicate (W - m) (0 : Int)) (up y) q
    rw [List.length_replicate] at e1
    rw [e1, rd_up y q (by omega) (by omega)]
  induction d with
  | zero =>
    intro v j hd hv he
    rw [List.drop_of_length_le (by omega), sumB] at he
    have hve : v = prevB A W y := by omega
    have q1 : ¬ (j : Int) < (A.length : Int) := by omega
    obtain ⟨n, hn⟩ : ∃ n : Nat, (W : Int) - 1 - m = n := ⟨W - 1 - m, by omega⟩
    have q2 : (0 : Int) ≤ n := by omega
    have q3 : (n : Int) < ((List.replicate (W - m) (0 : Int) ++ up y).length : Int) := by rw [hlen]; omega
    have hp := prevB_bit A W y
    have b1 : (48 + prevB A W y) % 256 = 48 + prevB A W y := by omega
    have b2 : -9223372036854775808 ≤ (n : Int) - 1 ∧ (n : Int) - 1 ≤ 9223372036854775807 := by omega
    have hset : (List.replicate (W - m) (0 : Int) ++ up y).set n (48 + prevB A W y) = List.replicate (W - (m + 1)) 0 ++ up (prevB A W y :: y) := by
      have e1 : List.replicate (W - m) (0 : Int) = List.replicate (W - (m + 1)) 0 ++ [0] := by rw [show W - m = W - (m + 1) + 1 by omega, List.replicate_succ']
      have hle : (List.replicate (W - (m + 1)) (0 : Int)).length ≤ n := by rw [List.length_replicate]; omega
      rw [e1, List.append_assoc, List.set_append_right _ _ hle, List.length_replicate, show n - (W - (m + 1)) = 0 by omega]
      rfl
    rw [hn]
    refine Ev_succ ?_
    simp only [impl_FindKey.l1, if_neg q1, if_pos q2, if_pos q3, Int.toNat_natCast, hve, b1, w64 b2.1 b2.2, hset]
    rw [show (W : Int) - 1 - ((m + 1 : Nat) : Int) = (n : Int) - 1 by omega] at h
    exact h
  | succ d ih =>
    intro v j hd hv he
    have hj : j < A.length := by omega
    have q1 : (j : Int) < (A.length : Int) := by omega
    have q0 : (0 : Int) ≤ j := by omega
    have hrA := rd_nat A j hj
    have ht := hA _ (List.getElem_mem hj)
    rw [← hrA] at ht
    obtain ⟨q, hq⟩ : ∃ q : Nat, (W : Int) - 1 - rd A j = q := ⟨((W : Int) - 1 - rd A j).toNat, by omega⟩
    have hb := rd_bit hy q (by omega) (by omega)
    have e0 : (W : Int) + ((W : Int) - 1 - m) - rd A j = ((W - m + q : Nat) : Int) := by omega
    have b0 : -9223372036854775808 ≤ (W : Int) + ((W : Int) - 1 - m) ∧ (W : Int) + ((W : Int) - 1 - m) ≤ 9223372036854775807 := by omega
    have b1 : -9223372036854775808 ≤ ((W - m + q : Nat) : Int) ∧ ((W - m + q : Nat) : Int) ≤ 9223372036854775807 := by omega
    have b2 : -9223372036854775808 ≤ ((j + 1 : Nat) : Int) ∧ ((j + 1 : Nat) : Int) ≤ 9223372036854775807 := by omega
    have b3 : (j : Int) + 1 = ((j + 1 : Nat) : Int) := by omega
    have q2 : (0 : Int) ≤ ((W - m + q : Nat) : Int) := by omega
    have q3 : ((W - m + q : Nat) : Int) < ((List.replicate (W - m) (0 : Int) ++ up y).length : Int) := by rw [hlen]; omega
    have hE := ih ((v + rd y q) % 2) (j + 1) (by omega) (by omega) (by
      rw [drop_rd A j hj, sumB, hq] at he
      rw [← he]; omega)
    refine Ev_succ ?_
    simp only [impl_FindKey.l1, if_pos q1, if_pos q0, w64 b0.1 b0.2, e0, w64 b1.1 b1.2, if_pos q2, if_pos q3, hrd q (by omega), and_up hb, xor_mod hv hb, b3, w64 b2.1 b2.2]
    exact hE
theorem impl_outer (A : List Int) (W : Nat) (hW : 1 ≤ W ∧ W ≤ 16) (hA : ∀ t ∈ A, 1 ≤ t ∧ t < W) (hAl : A.length ≤ 16) (kt : ByteArray) (y : List Int) (hy : BitL y) (m : Nat) (hm : m < W) (hyl : y.length = W + m) (r : ByteArray × Bool)
    (h : Ev (fun k => impl_FindKey.l0 k (A ++ [(W : Int)]) W kt (List.replicate (W - (m + 1)) 0 ++ up (prevB A W y :: y)) ((W : Int) - 1 - ((m + 1 : Nat) : Int))) r) :
    Ev (fun k => impl_FindKey.l0 k (A ++ [(W : Int)]) W kt (List.replicate (W - m) 0 ++ up y) ((W : Int) - 1 - m)) r := by
  have hlen : ((List.replicate (W - m) (0 : Int) ++ up y).length : Int) = 2 * W := by rw [List.length_append, List.length_replicate, up_length]; omega
  have hTl : ((A ++ [(W : Int)]).length : Int) = A.length + 1 := by rw [List.length_append]; rfl
  have hb := rd_bit hy ((W : Int) - 1) (by omega) (by omega)
  have e0 : (W : Int) + ((W : Int) - 1 - m) = ((W - m + (W - 1) : Nat) : Int) := by omega
  have e1 := rd_app_r (List.replicate (W - m) (0 : Int)) (up y) (W - 1)
  rw [List.length_replicate] at e1
  have e2 := rd_up y ((W - 1 : Nat) : Int) (by omega) (by omega)
  rw [e2, show ((W - 1 : Nat) : Int) = (W : Int) - 1 by omega] at e1
  have b0 : -9223372036854775808 ≤ ((W - m + (W - 1) : Nat) : Int) ∧ ((W - m + (W - 1) : Nat) : Int) ≤ 9223372036854775807 := by omega
  have q0 : (W : Int) - 1 - m ≥ 0 := by omega
  have q1 : (0 : Int) ≤ ((W - m + (W - 1) : Nat) : Int) := by omega
  have q2 : ((W - m + (W - 1) : Nat) : Int) < ((List.replicate (W - m) (0 : Int) ++ up y).length : Int) := by rw [hlen]; omega
  have b1 : -9223372036854775808 ≤ ((A ++ [(W : Int)]).length : Int) - 1 ∧ ((A ++ [(W : Int)]).length : Int) - 1 ≤ 9223372036854775807 := by omega
  have q3 : 0 ≤ ((A ++ [(W : Int)]).length : Int) - 1 := by omega
  have q4 : ((A ++ [(W : Int)]).length : Int) - 1 ≤ ((A ++ [(W : Int)]).length : Int) := by omega
  have e3 : (((A ++ [(W : Int)]).length : Int) - 1).toNat = A.length := by omega
  have e4 : (A ++ [(W : Int)]).take A.length = A := by rw [List.take_append_of_le_length (Nat.le_refl _), List.take_length]
  have hI := impl_inner A W hW hA hAl (A ++ [(W : Int)]) kt y hy m hm hyl r h A.length (rd y ((W : Int) - 1)) 0 (by omega) hb (by rw [List.drop_zero]; rfl)
  refine Ev_succ ?_
  simp only [impl_FindKey.l0, if_pos q0, e0, w64 b0.1 b0.2, if_pos q1, if_pos q2, w64 b1.1 b1.2, if_pos q3, if_pos q4, e1, and_up hb, e3, e4]
  exact hI

theorem addS_cons2 (a b : Int) (r q : List Int) : addS (a :: r) (b :: q) = (a + b) % 2 :: addS r q := rfl
theorem addS_back2 : ∀ b t : List Int, BitL t → b.length = t.length → addS (addS b t) b = t
  | [], [], h, g => rfl
  | a :: r, b :: q, h, g => by
    have e := addS_back2 r q (BitL_tail h).2 (by simpa using g)
    rw [addS_cons2, addS_cons2, e]
    congr 1
    have := (BitL_tail h).1
    omega
def keyW (T : List Int) : List Int → Nat → List Int
  | _, 0 => []
  | y, n + 1 => sumM T y :: keyW T (stepK T y) n
theorem keyS_win (T : List Int) : ∀ (n : Nat) (p y : List Int), 1 ≤ y.length → (∀ t ∈ T, 1 ≤ t ∧ t ≤ y.length) → keyS T (p ++ y) n = keyW T y n
  | 0, p, y, h1, h2 => rfl
  | n + 1, p, y, h1, h2 => by
    have e : sumM T (p ++ y) = sumM T y := by unfold sumM; rw [sumT_app p y T h2]
    have hl : (stepK T y).length = y.length := by unfold stepK; rw [List.length_append, List.length_drop]; show y.length - 1 + 1 = _; omega
    have e3 : ∀ c : Int, p ++ y ++ [c] = (p ++ y.take 1) ++ (y.drop 1 ++ [c]) := fun c => by
      conv => lhs; rw [← List.take_append_drop 1 y]
      simp only [List.append_assoc]
    have e2 : p ++ y ++ [sumM T y] = (p ++ y.take 1) ++ stepK T y := e3 _
    rw [keyS, keyW, e, e2, keyS_win T n _ (stepK T y) (by omega) (by rw [hl]; exact h2)]
theorem keyW_length (T : List Int) : ∀ n y, (keyW T y n).length = n
  | 0, y => rfl
  | n + 1, y => by rw [keyW, List.length_cons, keyW_length T n]
theorem iterK_comm (T : List Int) (y : List Int) : ∀ i, iterK T (stepK T y) i = iterK T y (i + 1)
  | 0 => rfl
  | i + 1 => by rw [iterK, iterK_comm T y i]; rfl
theorem iterK_add (T : List Int) (y : List Int) (a : Nat) : ∀ b, iterK T (iterK T y a) b = iterK T y (a + b)
  | 0 => rfl
  | b + 1 => by rw [iterK, iterK_add T y a b]; rfl
theorem keyW_get (T : List Int) : ∀ (n i : Nat) (y : List Int) (h : i < n), (keyW T y n)[i]'(by rw [keyW_length]; exact h) = sumM T (iterK T y i)
  | 0, i, y, h => by omega
  | n + 1, 0, y, h => by simp only [keyW, List.getElem_cons_zero]; rfl
  | n + 1, i + 1, y, h => by
    simp only [keyW, List.getElem_cons_succ]
    rw [keyW_get T n i (stepK T y) (by omega), iterK_comm]
theorem iterK_keyW (T : List Int) : ∀ (m : Nat) (y : List Int), m ≤ y.length → iterK T y m = y.drop m ++ keyW T y m
  | 0, y, h => by rw [keyW, List.append_nil]; rfl
  | m + 1, y, h => by
    have hl : (stepK T y).length = y.length := by unfold stepK; rw [List.length_append, List.length_drop]; show y.length - 1 + 1 = _; omega
    rw [← iterK_comm, iterK_keyW T m (stepK T y) (by omega)]
    unfold stepK
    rw [List.drop_append_of_le_length (by rw [List.length_drop]; omega), List.drop_drop, keyW, List.append_assoc, Nat.add_comm 1 m]
    rfl
theorem keyS_hist {T : List Int} {s : ByteArray} (h : ScrOk T s) (n : Nat) : keyS T (hist s) n = keyW T (hist s) n := by
  have h16 := h.small
  have hh := hist_ok h
  have := keyS_win T n [] (hist s) (by omega) (by rw [hh.2]; exact taps_mem h)
  rwa [List.nil_append] at this
theorem key_bit {T : List Int} {s : ByteArray} (h : ScrOk T s) (n i : Nat) (hi : i < n) : rd (keyS T (hist s) n) i = sumM T (iterK T (hist s) i) := by
  rw [keyS_hist h, rd_nat _ i (by rw [keyW_length]; exact hi), keyW_get T n i _ hi]
/-! the period is at most 127 -/
theorem step_zero (T : List Int) (n : Nat) (hn : 1 ≤ n) : stepK T (List.replicate n 0) = List.replicate n 0 := by
  have h0 : ∀ (l : List Int), sumT l (List.replicate n 0) = 0 := by
    intro l
    induction l with
    | nil => rfl
    | cons t r ih =>
      rw [sumT, ih]
      have : rd (List.replicate n (0 : Int)) (((List.replicate n (0 : Int)).length : Int) - t) = 0 := by
        unfold rd
        rw [List.getD_eq_getElem?_getD, List.getElem?_replicate]
        split <;> rfl
      rw [this]; rfl
  unfold stepK sumM
  rw [h0, List.drop_replicate]
  show List.replicate (n - 1) 0 ++ [0] = _
  rw [← List.replicate_succ', show n - 1 + 1 = n by omega]
theorem valN_zero : ∀ (x : List Int), BitL x → valN x = 0 → x = List.replicate x.length 0
  | [], h, e => rfl
  | b :: r, h, e => by
    have hb := (BitL_tail h).1
    rw [valN] at e
    have := valN_zero r (BitL_tail h).2 (by omega)
    rw [List.length_cons, List.replicate_succ, ← this, show b = 0 by omega]
theorem iter_nz {T : List Int} {s : ByteArray} (h : ScrOk T s) (x : List Int) (hx : BitL x) (hxl : x.length = s.size) (hz : x ≠ List.replicate s.size 0) : ∀ n, iterK T x n ≠ List.replicate s.size 0
  | 0 => hz
  | n + 1 => by
    intro e
    have h16 := h.small
    have hi := iterK_ok T x hx (by omega) n
    have hs := step_zero T s.size (by omega)
    refine iter_nz h x hx hxl hz n (stepK_inj h _ _ hi.1 (BitL_zeros _) (by omega) (by simp) ?_)
    rw [hs]; exact e
theorem period_127 {T : List Int} {s : ByteArray} (h : ScrOk T s) (h7 : s.size ≤ 7) (x : List Int) (hx : BitL x) (hxl : x.length = s.size) : ∃ p, 1 ≤ p ∧ p ≤ 127 ∧ iterK T x p = x ∧ ∀ q, 1 ≤ q → q < p → iterK T x q ≠ x := by
  have h16 := h.small
  have ex : ∃ p, 1 ≤ p ∧ p ≤ 127 ∧ iterK T x p = x := by
    by_cases hz : x = List.replicate s.size 0
    · refine ⟨1, by omega, by omega, ?_⟩
      show stepK T x = x
      rw [hz]; exact step_zero T s.size (by omega)
    · have hnz := iter_nz h x hx hxl hz
      have hpw : 1 ≤ 2 ^ s.size := Nat.one_le_two_pow
      have hp7 : (2 : Nat) ^ s.size ≤ 2 ^ 7 := Nat.pow_le_pow_right (by omega) h7
      have h128 : (2 : Nat) ^ 7 = 128 := by decide
      obtain ⟨i, j, hij, hj, e⟩ := pigeon (2 ^ s.size - 1) (fun n => valN (iterK T x n) - 1) (fun n hn => by
        have hk := iterK_ok T x hx (by omega) n
        have h2 := valN_lt _ hk.1
        rw [hk.2, hxl] at h2
        have h3 : valN (iterK T x n) ≠ 0 := fun g => hnz n (by have := valN_zero _ hk.1 g; rwa [hk.2, hxl] at this)
        show valN (iterK T x n) - 1 < 2 ^ s.size - 1
        omega)
      have h1 := iterK_ok T x hx (by omega) i
      have h2 := iterK_ok T x hx (by omega) j
      have n1 : valN (iterK T x i) ≠ 0 := fun g => hnz i (by have := valN_zero _ h1.1 g; rwa [h1.2, hxl] at this)
      have n2 : valN (iterK T x j) ≠ 0 := fun g => hnz j (by have := valN_zero _ h2.1 g; rwa [h2.2, hxl] at this)
      have e : valN (iterK T x i) - 1 = valN (iterK T x j) - 1 := e
      have e2 := valN_inj _ _ h1.1 h2.1 (by omega) (by omega)
      have e3 := iterK_back h x hx hxl (j - i) i (by rw [show i + (j - i) = j by omega]; exact e2)
      exact ⟨j - i, by omega, by omega, e3.symm⟩
  obtain ⟨p, h1, h2, h3⟩ := ex
  obtain ⟨m, k1, ⟨k2, k4⟩, k3⟩ := least_of (fun q => 1 ≤ q ∧ iterK T x q = x) p ⟨h1, h3⟩
  exact ⟨m, k2, by omega, k4, fun q q1 q2 e => k3 q q2 ⟨q1, e⟩⟩
/-! a lesser shift does not keep the key -/
theorem shift_breaks {T : List Int} {s : ByteArray} (h : ScrOk T s) (d : Nat) (he : ∀ i : Nat, i < s.size → sumM T (iterK T (hist s) i) = sumM T (iterK T (hist s) (i + d))) : iterK T (hist s) d = hist s := by
  have h16 := h.small
  have hh := hist_ok h
  have hd := iterK_ok T (hist s) hh.1 (by omega) d
  have e1 := iterK_keyW T s.size (hist s) (by omega)
  have e2 := iterK_keyW T s.size (iterK T (hist s) d) (by omega)
  rw [List.drop_of_length_le (by omega), List.nil_append] at e1 e2
  have e3 : keyW T (hist s) s.size = keyW T (iterK T (hist s) d) s.size := by
    apply List.ext_getElem (by rw [keyW_length, keyW_length])
    intro i i1 i2
    rw [keyW_length] at i1
    rw [keyW_get T s.size i _ i1, keyW_get T s.size i _ i1, iterK_add, he i i1, Nat.add_comm]
  rw [← e1, ← e2, iterK_add, Nat.add_comm d] at e3
  exact (iterK_back h (hist s) hh.1 hh.2 d s.size e3).symm
/-! the state is found -/
theorem seq_prev {T : List Int} {s : ByteArray} (h : ScrOk T s) (A : List Int) (hTA : T = A ++ [(s.size : Int)]) (hA : ∀ t ∈ A, 1 ≤ t ∧ t < s.size) (m : Nat) (hm : m < s.size) :
    prevB A s.size ((hist s ++ keyW T (hist s) s.size).drop (s.size - m)) = rd (hist s ++ keyW T (hist s) s.size) ((s.size - m - 1 : Nat) : Int) := by
  have h16 := h.small
  have hh := hist_ok h
  have hkl := keyW_length T s.size (hist s)
  obtain ⟨S, hS⟩ : ∃ S, S = hist s ++ keyW T (hist s) s.size := ⟨_, rfl⟩
  have hSl : S.length = 2 * s.size := by rw [hS, List.length_append, hkl, hh.2]; omega
  rw [← hS]
  -- the window at time i is S.drop i, s.size long
  have win : ∀ i : Nat, i ≤ s.size → iterK T (hist s) i = (S.drop i).take s.size := by
    intro i hi
    rw [iterK_keyW T i (hist s) (by omega), hS]
    have e : keyW T (hist s) s.size = keyW T (hist s) i ++ (keyW T (hist s) s.size).drop i := by
      have : keyW T (hist s) i = (keyW T (hist s) s.size).take i := by
        apply List.ext_getElem (by rw [keyW_length, List.length_take, hkl]; omega)
        intro q q1 q2
        rw [keyW_length] at q1
        rw [List.getElem_take, keyW_get T i q _ q1, keyW_get T s.size q _ (by omega)]
      rw [this, List.take_append_drop]
    rw [List.drop_append_of_le_length (by omega), e, ← List.append_assoc, List.take_append_of_le_length (by rw [List.length_append, List.length_drop, keyW_length]; omega), List.take_of_length_le (by rw [List.length_append, List.length_drop, keyW_length]; omega)]
  obtain ⟨i, hi⟩ : ∃ i, i = s.size - m - 1 := ⟨_, rfl⟩
  have hi1 : s.size - m = i + 1 := by omega
  have hnext : rd S ((i + s.size : Nat) : Int) = sumM T (iterK T (hist s) i) := by
    rw [hS, ← hh.2, Nat.add_comm i, rd_app_r (hist s) _ i, hh.2, rd_nat _ i (by rw [hkl]; omega), keyW_get T s.size i _ (by omega)]
  have hrdd : ∀ (a : Nat) (n : Nat), rd (S.drop a) n = rd S ((a + n : Nat) : Int) := by
    intro a n
    unfold rd
    rw [Int.toNat_natCast, Int.toNat_natCast, List.getD_eq_getElem?_getD, List.getD_eq_getElem?_getD, List.getElem?_drop]
  have hwl : (iterK T (hist s) i).length = s.size := by rw [(iterK_ok T (hist s) hh.1 (by omega) i).2, hh.2]
  have hwr : ∀ n : Nat, n < s.size → rd (iterK T (hist s) i) n = rd S ((i + n : Nat) : Int) := by
    intro n hn
    rw [win i (by omega), ← hrdd]
    unfold rd
    rw [Int.toNat_natCast, List.getD_eq_getElem?_getD, List.getD_eq_getElem?_getD, List.getElem?_take, if_pos hn]
  have hsum : ∀ B : List Int, (∀ t ∈ B, 1 ≤ t ∧ t < s.size) → sumT B (iterK T (hist s) i) = sumB B (S.drop (i + 1)) ((s.size : Int) - 1) := by
    intro B
    induction B with
    | nil => intro _; rfl
    | cons t r ih =>
      intro hB
      have ht := hB t List.mem_cons_self
      rw [sumT, sumB, ih (fun q hq => hB q (List.mem_cons_of_mem _ hq)), hwl]
      obtain ⟨q, hq⟩ : ∃ q : Nat, (s.size : Int) - t = ((q + 1 : Nat) : Int) := ⟨((s.size : Int) - t - 1).toNat, by omega⟩
      rw [hq, show (s.size : Int) - 1 - t = (q : Int) by omega, hwr (q + 1) (by omega), hrdd, show i + 1 + q = i + (q + 1) by omega]
  have hlast : sumT [(s.size : Int)] (iterK T (hist s) i) = rd S (i : Int) := by
    rw [sumT, sumT, hwl, show (s.size : Int) - (s.size : Int) = ((0 : Nat) : Int) by omega, hwr 0 (by omega)]
    show rd S ((i + 0 : Nat) : Int) + 0 = _
    rw [Nat.add_zero, Int.add_zero]
  have hSb : BitL S := by
    rw [hS]
    refine BitL_append hh.1 ?_
    intro v hv
    obtain ⟨n, hn, rfl⟩ := List.getElem_of_mem hv
    rw [keyW_length] at hn
    rw [keyW_get T s.size n _ hn]; exact sumM_bit _ _
  have hb := rd_bit hSb (i : Int) (by omega) (by omega)
  rw [hi1]
  unfold prevB
  rw [show (s.size : Int) - 1 = ((s.size - 1 : Nat) : Int) by omega, hrdd, show i + 1 + (s.size - 1) = i + s.size by omega, hnext, show ((s.size - 1 : Nat) : Int) = (s.size : Int) - 1 by omega, ← hsum A hA]
  have hcut : sumT T (iterK T (hist s) i) = sumT A (iterK T (hist s) i) + rd S (i : Int) := by
    rw [← hlast, ← sumT_append, ← hTA]
  unfold sumM
  rw [hcut, show i + 1 - 1 = i by omega]
  omega
theorem found_loop {T : List Int} {s : ByteArray} (h : ScrOk T s) (A : List Int) (hTA : T = A ++ [(s.size : Int)]) (hA : ∀ t ∈ A, 1 ≤ t ∧ t < s.size) (hAl : A.length ≤ 16) (kt : ByteArray) (r : ByteArray × Bool)
    (hr : Ev (fun k => impl_FindKey.l0 k T s.size kt (up (hist s ++ keyW T (hist s) s.size)) (-1)) r) (d : Nat) : ∀ m : Nat, m + d = s.size →
    Ev (fun k => impl_FindKey.l0 k T s.size kt (List.replicate (s.size - m) 0 ++ up ((hist s ++ keyW T (hist s) s.size).drop (s.size - m))) ((s.size : Int) - 1 - m)) r := by
  have h16 := h.small
  have hh := hist_ok h
  have hkl := keyW_length T s.size (hist s)
  have hSb : BitL (hist s ++ keyW T (hist s) s.size) := by
    refine BitL_append hh.1 ?_
    intro v hv
    obtain ⟨n, hn, rfl⟩ := List.getElem_of_mem hv
    rw [keyW_length] at hn
    rw [keyW_get T s.size n _ hn]; exact sumM_bit _ _
  induction d with
  | zero =>
    intro m hm
    obtain rfl : m = s.size := by omega
    rw [Nat.sub_self, List.drop_zero, List.replicate_zero, List.nil_append, show (s.size : Int) - 1 - s.size = -1 by omega]
    exact hr
  | succ d ih =>
    intro m hm
    have hE := ih (m + 1) (by omega)
    have hp := seq_prev h A hTA hA m (by omega)
    have hl : (hist s ++ keyW T (hist s) s.size).length = 2 * s.size := by rw [List.length_append, hkl, hh.2]; omega
    have hd : (hist s ++ keyW T (hist s) s.size).drop (s.size - (m + 1)) = prevB A s.size ((hist s ++ keyW T (hist s) s.size).drop (s.size - m)) :: (hist s ++ keyW T (hist s) s.size).drop (s.size - m) := by
      rw [hp, show s.size - (m + 1) = s.size - m - 1 by omega, drop_rd _ (s.size - m - 1) (by omega), show s.size - m - 1 + 1 = s.size - m by omega]
    rw [hd] at hE
    have := impl_outer A s.size (by omega) hA hAl kt ((hist s ++ keyW T (hist s) s.size).drop (s.size - m)) (BitL_drop hSb _) m (by omega) (by rw [List.length_drop]; omega) r (by rw [← hTA]; exact hE)
    rw [← hTA] at this
    exact this
theorem bits_back (s : ByteArray) (h : AllBit s) : strOfNums (up (hist s).reverse) = s := by
  have hb := bitsOf_ok s h
  have e : (hist s).reverse = bitsOf s := by
    have hl := revB_length s s.size
    apply List.ext_getElem (by rw [List.length_reverse, hb.2.2]; exact hl)
    intro n n1 n2
    have hn : n < s.size := by rw [List.length_reverse] at n1; have : (hist s).length = s.size := hl; omega
    have h1 := rd_bitsS s n hn
    unfold bitsS at h1
    rw [rd_nat _ n (by rw [List.length_reverse, hl]; exact hn)] at h1
    have h2 : (bitsOf s)[n] = bt s n - 48 := by
      simp only [bitsOf, List.getElem_map, bt_list s n hn]
    rw [h2, ← h1]; rfl
  rw [e, ← hb.2.1]
theorem findKey_back {T : List Int} {s : ByteArray} (h : ScrOk T s) (P : List Int) (hP : BitL P) (hPl : s.size ≤ P.length ∧ P.length ≤ 400) : Ev (fun k => impl_FindKey.f k T (strOfNums (up (addS P (keyS T (hist s) P.length)))) (strOfNums (up P))) (s, true) := by
  have h16 := h.small
  have hh := hist_ok h
  obtain ⟨A, hTA, hA⟩ := taps_splitK h
  have hT := h.1
  have hAl : A.length + 1 ≤ 16 := by have := hT.2.1; rw [hTA, List.length_append] at this; simp at this; omega
  have hkl := keyS_length T P.length (hist s)
  have hal := addS_length P (keyS T (hist s) P.length) hkl.symm
  obtain ⟨c, hc, hj⟩ := areTaps_ev T (by have := hT.2.1; omega)
  obtain rfl : c = true := hj.2 hT
  have hx := xorBits_eq (addS P (keyS T (hist s) P.length)) P (addS_bit _ _) hP (by omega) (by omega)
  rw [addS_back2 P (keyS T (hist s) P.length) (keyS_bit _ _ _) hkl.symm] at hx
  have hWe := h.2.2.symm
  have q0 : 0 ≤ (T.length : Int) - 1 := by have := hT.1; omega
  have q1 : (T.length : Int) - 1 < (T.length : Int) := by omega
  have b1 : -9223372036854775808 ≤ (T.length : Int) - 1 ∧ (T.length : Int) - 1 ≤ 9223372036854775807 := by have := hT.2.1; omega
  have hs : ¬ ((strOfNums (up (addS P (keyS T (hist s) P.length)))).size : Int) < s.size := by rw [sz_up]; omega
  have hsz : ((strOfNums (up (addS P (keyS T (hist s) P.length)))).size : Int) = ((strOfNums (up P)).size : Int) := by rw [sz_up, sz_up]; omega
  have p1 : (0 : Int) ≤ s.size := by omega
  have p2 : s.size ≤ 281474976710656 := by omega
  have p3 : (s.size : Int) ≤ ((strOfNums (up (keyS T (hist s) P.length))).size : Int) := by rw [sz_up]; omega
  have p4 : (List.replicate s.size (0 : Int)).length + (strOfNums (up ((keyS T (hist s) P.length).take s.size))).size < 140737488355328 := by rw [List.length_replicate, sz_up, List.length_take]; omega
  have p5 : -9223372036854775808 ≤ (s.size : Int) - 1 ∧ (s.size : Int) - 1 ≤ 9223372036854775807 := by omega
  have hbo := bytesOf_up ((keyS T (hist s) P.length).take s.size) (fun v hv => keyS_bit _ _ _ v (List.mem_of_mem_take hv))
  have etk : (keyS T (hist s) P.length).take s.size = keyW T (hist s) s.size := by
    rw [keyS_hist h]
    apply List.ext_getElem (by rw [List.length_take, keyW_length, keyW_length]; omega)
    intro n n1 n2
    rw [keyW_length] at n2
    rw [List.getElem_take, keyW_get T _ n _ (by omega), keyW_get T _ n _ n2]
  have hend : Ev (fun k => impl_FindKey.l0 k T s.size (strOfNums (up (keyS T (hist s) P.length))) (up (hist s ++ keyW T (hist s) s.size)) (-1)) (s, true) := by
    have hrev := rev_ev (up (hist s)) (by rw [up_length]; omega)
    have eup : (up (hist s)).reverse = up (hist s).reverse := by unfold up; rw [← List.map_reverse]
    rw [eup] at hrev
    have etake : (up (hist s ++ keyW T (hist s) s.size)).take s.size = up (hist s) := by
      unfold up
      rw [← List.map_take, List.take_append_of_le_length (by omega), List.take_of_length_le (by omega)]
    have r0 : ¬ (-1 : Int) ≥ 0 := by omega
    have r2 : (s.size : Int) ≤ ((up (hist s ++ keyW T (hist s) s.size)).length : Int) := by rw [up_length, List.length_append]; omega
    have hK := keyBits_ev h P.length (by omega)
    refine Ev_succ ?_
    simp only [impl_FindKey.l0, if_neg r0, if_pos p1, if_pos r2, Int.toNat_natCast, etake]
    refine Ev.bind hrev ?_
    simp only [bits_back s h.2.1]
    have ksz : ((strOfNums (up (keyS T (hist s) P.length))).size : Int) = ((P.length : Nat) : Int) := by rw [sz_up, hkl]
    rw [ksz]
    refine Ev.bind hK ?_
    simp only [if_true]; exact Ev.now _
  have hloop := found_loop h A hTA hA (by omega) _ _ hend s.size 0 (by omega)
  rw [Nat.sub_zero, List.drop_append_of_le_length (by omega), List.drop_of_length_le (by omega), List.nil_append, show (s.size : Int) - 1 - ((0 : Nat) : Int) = (s.size : Int) - 1 by omega, ← etk] at hloop
  simp only [impl_FindKey.f, isBits_up _ (addS_bit P (keyS T (hist s) P.length)) (by omega), isBits_up P hP hPl.2, Option.bind_some]
  refine Ev.bind hc ?_
  simp only [if_true, if_pos hsz, w64 b1.1 b1.2, if_pos q0, if_pos q1, hWe, decide_eq_false hs]
  refine Ev_succ ?_
  simp only [impl_FindKey.j0, Bool.false_eq_true, if_false, w64 b1.1 b1.2, if_pos q0, if_pos q1, hWe, hx, Option.bind_some, if_pos p1, Int.toNat_natCast, if_pos p2, if_pos p3, extract_up, if_pos p4, hbo, w64 p5.1 p5.2]
  exact hloop
theorem scrS_desS (l : List Int) : ∀ c x, BitL c → scrS l x (desS l x c) = c
  | [], x, h => rfl
  | c :: r, x, h => by
    have e : ((c + sumM l x) % 2 + sumM l x) % 2 = c := by have := (BitL_tail h).1; omega
    rw [desS, scrS, e, scrS_desS l r _ (BitL_tail h).2]
def Z20 : List Int := List.replicate 20 0
theorem runs20 (d : Nat) : ∀ i : Nat, 1 ≤ i → i + d = 20 → Ev (fun k => impl_runLengths.l0 k (strOfNums (up Z20)) [(i : Int)] 20 i) [20] := by
  have hz : (strOfNums (up Z20)).size = 20 := by rw [sz_up]; rfl
  have hb : BitL Z20 := BitL_zeros 20
  have hrd : ∀ j : Nat, j < 20 → rd Z20 j = 0 := fun j hj => by rw [rd_nat _ j (by simpa [Z20] using hj)]; exact List.getElem_replicate _
  induction d with
  | zero =>
    intro i h1 h2
    obtain rfl : i = 20 := by omega
    refine Ev_succ ?_
    simp only [impl_runLengths.l0, if_neg (show ¬ ((20 : Nat) : Int) < 20 by omega)]; exact Ev.now _
  | succ d ih =>
    intro i h1 h2
    have q0 : (i : Int) < 20 := by omega
    have q1 : ¬ (i : Int) = 0 := by omega
    have q2 : (0 : Int) ≤ i := by omega
    have q3 : (i : Int) < ((strOfNums (up Z20)).size : Int) := by rw [hz]; omega
    have e0 : (i : Int) - 1 = ((i - 1 : Nat) : Int) := by omega
    have b0 : -9223372036854775808 ≤ ((i - 1 : Nat) : Int) ∧ ((i - 1 : Nat) : Int) ≤ 9223372036854775807 := by omega
    have q4 : (0 : Int) ≤ ((i - 1 : Nat) : Int) := by omega
    have q5 : ((i - 1 : Nat) : Int) < ((strOfNums (up Z20)).size : Int) := by rw [hz]; omega
    have h1' := bt_up Z20 hb i (by simp [Z20]; omega)
    have h2' := bt_up Z20 hb (i - 1) (by simp [Z20]; omega)
    rw [hrd i (by omega)] at h1'
    rw [hrd (i - 1) (by omega)] at h2'
    have q6 : bt (strOfNums (up Z20)) i = bt (strOfNums (up Z20)) ((i - 1 : Nat) : Int) := by rw [h1', h2']
    have b1 : -9223372036854775808 ≤ (i : Int) + 1 ∧ (i : Int) + 1 ≤ 9223372036854775807 := by omega
    have e1 : wrap64 ((([(i : Int)] : List Int).length : Int) - 1) = 0 := by show wrap64 (((1 : Nat) : Int) - 1) = 0; rw [w64 (by omega) (by omega)]; rfl
    have e2 : rd [(i : Int)] 0 = i := rfl
    have e3 : ([(i : Int)] : List Int).set (0 : Int).toNat ((i : Int) + 1) = [((i + 1 : Nat) : Int)] := by
      show [(i : Int) + 1] = _
      rw [show (i : Int) + 1 = ((i + 1 : Nat) : Int) by omega]
    have q7 : (0 : Int) < (([(i : Int)] : List Int).length : Int) := by show (0 : Int) < ((1 : Nat) : Int); omega
    have b3 : (i : Int) + 1 = ((i + 1 : Nat) : Int) := by omega
    have hE := ih (i + 1) (by omega) (by omega)
    refine Ev_succ ?_
    simp only [impl_runLengths.l0, if_pos q0, if_neg q1, if_pos q2, if_pos q3, e0, w64 b0.1 b0.2, if_pos q4, if_pos q5, if_pos q6, e1, if_pos (Int.le_refl 0), if_pos q7, e2, w64 b1.1 b1.2, e3]
    rw [b3]
    exact hE
theorem same20 : Ev (fun k => impl_LongestSame.f k (strOfNums (up Z20))) (20, true) := by
  have hz : ((strOfNums (up Z20)).size : Int) = 20 := by rw [sz_up]; rfl
  have hr : Ev (fun k => impl_runLengths.f k (strOfNums (up Z20))) [20] := by
    have h := runs20 19 1 (by omega) (by omega)
    simp only [impl_runLengths.f, hz]
    have e1 : wrap64 (((([] : List Int) ++ [0]).length : Int) - 1) = 0 := by show wrap64 (((1 : Nat) : Int) - 1) = 0; rw [w64 (by omega) (by omega)]; rfl
    have q7 : (0 : Int) < ((([] : List Int) ++ [0]).length : Int) := by decide
    have e4 : (([] : List Int) ++ [0]).set (0 : Int).toNat (wrap64 (rd (([] : List Int) ++ [0]) 0 + 1)) = [((1 : Nat) : Int)] := by show [wrap64 ((0 : Int) + 1)] = _; rw [w64 (by omega) (by omega)]; rfl
    have e5 : wrap64 ((0 : Int) + 1) = ((1 : Nat) : Int) := by rw [w64 (by omega) (by omega)]; rfl
    refine Ev_succ ?_
    simp only [impl_runLengths.l0, if_pos (show (0 : Int) < 20 by omega), if_true, if_pos (show ([] : List Int).length < 17592186044416 by decide), Option.bind_some, e1, if_pos (Int.le_refl 0), if_pos q7, e4, e5]
    exact h
  simp only [impl_LongestSame.f, isBits_up Z20 (BitL_zeros 20) (by decide), Option.bind_some, if_true]
  refine Ev.bind hr ?_
  have m1 : mx 0 (rd [(20 : Int)] 0) = 20 := by decide
  have e5 : wrap64 ((0 : Int) + 1) = 1 := by rw [w64 (by omega) (by omega)]; rfl
  have l1 : (([(20 : Int)] : List Int).length : Int) = 1 := rfl
  simp only [l1]
  refine Ev_succ ?_
  simp only [impl_LongestSame.l0, l1, if_pos (show (0 : Int) < 1 by omega), if_pos (Int.le_refl 0), m1, e5]
  refine Ev_succ ?_
  simp only [impl_LongestSame.l0, if_neg (show ¬ (1 : Int) < 1 by omega)]; exact Ev.now _
def P7 : List Int := [1, 0, 1, 0, 1, 0, 1]
theorem keys_end {T : List Int} {s : ByteArray} (h : ScrOk T s) (h7 : s.size ≤ 7) (l1 : List Int) (h6 : U8L l1) (hl1 : l1.length ≤ 48) (kt : ByteArray) (q d : Int) (same : Bool) (i : Int) (hi : ¬ wrap64 (i + q) < 300) (hsame : d = q ∨ same = false) :
    Ev (fun k => laws_FnKeys.l0 k l1 q kt d same i T s) true := by
  obtain ⟨b, hb, hbl, hbits⟩ := r8Bits_up l1 h6 (by omega) 20 (by omega)
  have lit : (⟨#[49, 48, 49, 48, 49, 48, 49]⟩ : ByteArray) = strOfNums (up P7) := by decide
  have hz : (strOfNums (up b)).size + 7 ≤ 9223372036854775807 := by rw [sz_up]; omega
  have hP : BitL (b ++ P7) := BitL_append hb (by intro v hv; unfold P7 at hv; simp at hv; omega)
  have hPl : (b ++ P7).length = b.length + 7 := by rw [List.length_append]; rfl
  have E1 := addScr_ev h (b ++ P7) hP (by omega)
  have E2 := findKey_back h (b ++ P7) hP (by omega)
  have E3 : Ev (fun k => impl_WorstBits.f k T s 20) (strOfNums (up (desS T (hist s) Z20)), true) := by
    have hD := descramble_ev h Z20 (BitL_zeros 20) (by decide)
    have hR := repeat_zeros 20 (by omega)
    simp only [impl_WorstBits.f]
    refine Ev.bind (valid_ok h) ?_
    simp only [if_true, within_eq, Option.bind_some, decide_eq_true (show (0 : Int) ≤ 20 ∧ (20 : Int) ≤ 400 by omega), Bool.not_true]
    refine Ev_succ ?_
    simp only [impl_WorstBits.j0, Bool.false_eq_true, if_false]
    have hR2 : strings_Repeat.f (⟨#[48]⟩ : ByteArray) 20 = some (strOfNums (up Z20)) := hR
    simp only [hR2, Option.bind_some]
    exact Ev.bind hD (Ev.now _)
  have E4 := scramble_ev h (desS T (hist s) Z20) (desS_bit _ _ _) (by rw [desS_length]; decide)
  rw [scrS_desS T Z20 (hist s) (BitL_zeros 20)] at E4
  have lit2 : (strOfNums (up Z20)).toList = [48, 48, 48, 48, 48, 48, 48, 48, 48, 48, 48, 48, 48, 48, 48, 48, 48, 48, 48, 48] := by rw [Lib.toList_data]; decide
  have E5 := same20
  refine Ev_succ ?_
  simp only [laws_FnKeys.l0, if_neg hi]
  refine Ev.bind hbits ?_
  simp only [if_pos hz, lit, ← sn_append, ← up_append]
  refine Ev.bind E1 (Ev.bind E2 (Ev.bind E3 (Ev.bind E4 (Ev.bind E5 ?_))))
  simp only [if_true, lit2]
  rcases hsame with g | g
  · simp only [if_pos g, beq_self_eq_true]; exact Ev.now _
  · by_cases g2 : d = q
    · simp only [if_pos g2, beq_self_eq_true]; exact Ev.now _
    · simp only [if_neg g2, g, Bool.false_eq_true, if_false, beq_self_eq_true]; exact Ev.now _
theorem keys_loop {T : List Int} {s : ByteArray} (h : ScrOk T s) (h7 : s.size ≤ 7) (l1 : List Int) (h6 : U8L l1) (hl1 : l1.length ≤ 48) (p d : Nat) (hp : 1 ≤ p ∧ p ≤ 127) (hd : 1 ≤ d ∧ d ≤ p) (hpe : iterK T (hist s) p = hist s) (hleast : ∀ q, 1 ≤ q → q < p → iterK T (hist s) q ≠ hist s) (dd : Nat) : ∀ (i : Nat) (same : Bool), i + dd = 300 - p → (same = true → ∀ j : Nat, j < i → rd (keyS T (hist s) 300) j = rd (keyS T (hist s) 300) ((j + d : Nat) : Int)) →
    Ev (fun k => laws_FnKeys.l0 k l1 p (strOfNums (up (keyS T (hist s) 300))) d same i T s) true := by
  have hKl := keyS_length T 300 (hist s)
  have hKb := keyS_bit T 300 (hist s)
  have hks := h.small
  have hper : ∀ i : Nat, i + p < 300 → rd (keyS T (hist s) 300) i = rd (keyS T (hist s) 300) ((i + p : Nat) : Int) := by
    intro i hi
    rw [key_bit h 300 i (by omega), key_bit h 300 (i + p) (by omega), Nat.add_comm i p, ← iterK_add, hpe]
  induction dd with
  | zero =>
    intro i same hi hs
    have b : -9223372036854775808 ≤ (i : Int) + p ∧ (i : Int) + p ≤ 9223372036854775807 := by omega
    refine keys_end h h7 l1 h6 hl1 _ p d same i (by rw [w64 b.1 b.2]; omega) ?_
    by_cases g : d = p
    · left; omega
    · right
      cases hsm : same with
      | false => rfl
      | true =>
        exfalso
        have hs := hs hsm
        refine hleast d hd.1 (by omega) (shift_breaks h d (fun j hj => ?_))
        have := hs j (by omega)
        rw [key_bit h 300 j (by omega), key_bit h 300 (j + d) (by omega)] at this
        exact this
  | succ dd ih =>
    intro i same hi hs
    have b0 : -9223372036854775808 ≤ ((i + p : Nat) : Int) ∧ ((i + p : Nat) : Int) ≤ 9223372036854775807 := by omega
    have e0 : (i : Int) + p = ((i + p : Nat) : Int) := by omega
    have b1 : -9223372036854775808 ≤ ((i + d : Nat) : Int) ∧ ((i + d : Nat) : Int) ≤ 9223372036854775807 := by omega
    have e1 : (i : Int) + d = ((i + d : Nat) : Int) := by omega
    have b2 : -9223372036854775808 ≤ ((i + 1 : Nat) : Int) ∧ ((i + 1 : Nat) : Int) ≤ 9223372036854775807 := by omega
    have e2 : (i : Int) + 1 = ((i + 1 : Nat) : Int) := by omega
    have hz : ((strOfNums (up (keyS T (hist s) 300))).size : Int) = 300 := by rw [sz_up, hKl]; rfl
    have q0 : ((i + p : Nat) : Int) < 300 := by omega
    have q1 : (0 : Int) ≤ i := by omega
    have q2 : (i : Int) < 300 := by omega
    have q3 : (0 : Int) ≤ ((i + p : Nat) : Int) := by omega
    have q4 : (0 : Int) ≤ ((i + d : Nat) : Int) := by omega
    have q5 : ((i + d : Nat) : Int) < 300 := by omega
    have t0 := bt_up _ hKb i (by omega)
    have t1 := bt_up _ hKb (i + p) (by omega)
    have t2 := bt_up _ hKb (i + d) (by omega)
    have heq : bt (strOfNums (up (keyS T (hist s) 300))) i = bt (strOfNums (up (keyS T (hist s) 300))) ((i + p : Nat) : Int) := by rw [t0, t1, hper i (by omega)]
    refine Ev_succ ?_
    cases hsm : same with
    | true =>
      have hs := hs hsm
      have hE := ih (i + 1) (bt (strOfNums (up (keyS T (hist s) 300))) i == bt (strOfNums (up (keyS T (hist s) 300))) ((i + d : Nat) : Int)) (by omega) (fun g j hj => by
        by_cases c : j = i
        · have g := beq_iff_eq.1 g
          rw [t0, t2] at g
          rw [c]; omega
        · exact hs j (by omega))
      simp only [laws_FnKeys.l0, e0, w64 b0.1 b0.2, if_pos q0, if_pos q1, hz, if_pos q2, if_pos q3, if_pos heq, if_true, e1, w64 b1.1 b1.2, if_pos q4, if_pos q5, e2, w64 b2.1 b2.2]
      exact hE
    | false =>
      have hE := ih (i + 1) false (by omega) (fun g => by cases g)
      simp only [laws_FnKeys.l0, e0, w64 b0.1 b0.2, if_pos q0, if_pos q1, hz, if_pos q2, if_pos q3, if_pos heq, Bool.false_eq_true, if_false, e2, w64 b2.1 b2.2]
      exact hE
theorem FnKeys : laws_FnKeys.Pure := by
  intro l0 l1 h1 h2 h3 h4 h5 h6
  apply Ev.rounds
  simp only [laws_FnKeys.f]
  by_cases g : (l0.length : Int) > 48 ∨ (l1.length : Int) > 48
  · simp only [r8Long_big l0 l1 g, Option.bind_some, if_true]; exact Ev.now _
  obtain ⟨T, s, hs, hs7, htr, hl3, hscr⟩ := r8Scr_ev l0 h3 (by omega)
  have h16 := hs.small
  have hh := hist_ok hs
  obtain ⟨p, p1, p2, p3, p4⟩ := period_127 hs hs7 (hist s) hh.1 hh.2
  have EP : Ev (fun k => impl_KeyPeriod.f k T s) ((p : Int), true) := by
    simp only [impl_KeyPeriod.f]
    refine Ev.bind (valid_ok hs) ?_
    simp only [if_true]
    refine Ev.bind (num_implE s hs.2.1 (by omega)) ?_
    exact per_impl hs (hist s) hh.1 hh.2 p p1 (by omega) p3 p4 (p - 1) 0 (by omega)
  have EK : Ev (fun k => impl_KeyBits.f k T s 300) (strOfNums (up (keyS T (hist s) 300)), true) := by
    simp only [impl_KeyBits.f]
    refine Ev.bind (valid_ok hs) ?_
    simp only [if_true, within_eq, Option.bind_some, decide_eq_true (show (0 : Int) ≤ 300 ∧ (300 : Int) ≤ 400 by omega)]
    exact Ev.bind (keyBits_ev hs 300 (by omega)) (Ev.now _)
  have hz : ((strOfNums (up (keyS T (hist s) 300))).size : Int) = 300 := by rw [sz_up, keyS_length]; rfl
  obtain ⟨v, hv, hv0, hv1⟩ := r8At_ev l1 h6 0 (p : Int) (by omega) (by omega)
  obtain ⟨d, hd⟩ : ∃ d : Nat, 1 + v = d := ⟨(1 + v).toNat, by omega⟩
  have bd : -9223372036854775808 ≤ (d : Int) ∧ (d : Int) ≤ 9223372036854775807 := by omega
  simp only [r8Long_small l0 l1 g, Option.bind_some, Bool.false_eq_true, if_false]
  refine Ev.bind hscr (Ev.bind EP (Ev.bind EK ?_))
  simp only [if_true, if_neg (show ¬ (p : Int) < 1 by omega), if_neg (show ¬ (p : Int) > 127 by omega), hz, bne_self_eq_false]
  refine Ev_succ ?_
  simp only [laws_FnKeys.j0, Bool.false_eq_true, if_false, hv, Option.bind_some, hd, w64 bd.1 bd.2]
  exact keys_loop hs hs7 l1 h6 (by omega) p d ⟨p1, p2⟩ (by omega) p3 p4 (300 - p) 0 true (by omega) (fun _ j hj => by omega)

end Go.Proofs.YtondkjcmibnbpaaDoor.Pure
