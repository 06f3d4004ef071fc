/- The law FnSpread of the given program holds: for every input that the row lets in the call returns true and leaves its arguments as they were. No condition ahead of it. -/
import Derived.Test.YtondkjcmibnbpaaDoorPFnSpreadx6
import Derived.Test.YtondkjcmibnbpaaDoorMine
namespace Go.Proofs.YtondkjcmibnbpaaDoor.Pure
open Go.RowKit Go.Proofs.YtondkjcmibnbpaaDoor.PFnSpread Go.Proofs.YtondkjcmibnbpaaDoorW.PrintWords Go.Proofs.YtondkjcmibnbpaaDoorW.PrintLast Go.Proofs.YtondkjcmibnbpaaDoorW.PrintMore Go.Proofs.YtondkjcmibnbpaaDoor.Mine
set_option linter.unusedVariables false
set_option linter.unusedSimpArgs false
theorem within_eq (a b c : Int) : impl_within.f a b c = some (decide (b ≤ a ∧ a ≤ c)) := by
  unfold impl_within.f; by_cases h : a ≥ b
  · rw [if_pos h]; simp; intro _; exact h
  · rw [if_neg h]; simp; intro h'; omega

def AllBit (s : ByteArray) : Prop := ∀ i : Int, 0 ≤ i → i < s.size → bt s i = 48 ∨ bt s i = 49
def IsBitS (s : ByteArray) : Prop := AllBit s ∧ (s.size : Int) ≤ 400
theorem bt_list (s : ByteArray) (i : Nat) (h : i < s.size) : bt s i = ((s.data.toList[i]'(by simpa using h)).toNat : Int) := by
  unfold bt
  simp only [Int.toNat_natCast, h, dif_pos]
  rfl
theorem dropWhile_nil (p : UInt8 → Bool) : ∀ l : List UInt8, l.dropWhile p = [] ↔ ∀ b ∈ l, p b = true
  | [] => by simp
  | x :: l => by
    rw [List.dropWhile_cons]
    cases h : p x with
    | true => simp [h, dropWhile_nil p l]
    | false => simp [h]
theorem trim_empty (l : List UInt8) : (Lib.trimS l [48, 49]).isEmpty = true ↔ ∀ b ∈ l, b = 48 ∨ b = 49 := by
  have key : ∀ p : UInt8 → Bool, List.dropWhile p (List.dropWhile p l.reverse).reverse = [] ↔ ∀ b ∈ l, p b = true := by
    intro p
    rw [dropWhile_nil]
    constructor
    · intro h
      by_cases e : List.dropWhile p l.reverse = []
      · have := (dropWhile_nil p _).1 e
        exact fun b hb => this b (by simpa using hb)
      · have hh := List.head_dropWhile_not p e
        have h3 := h ((List.dropWhile p l.reverse).head e) (by simp)
        rw [hh] at h3
        cases h3
    · intro h b hb
      have : List.dropWhile p l.reverse = [] := (dropWhile_nil p _).2 (fun b hb => h b (by simpa using hb))
      rw [this] at hb
      simp at hb
  unfold Lib.trimS Lib.trimRightS Lib.trimLeftS
  rw [List.isEmpty_iff, key]
  simp
theorem areBits_ev (s : ByteArray) (hs : s.size ≤ 140737488351232) : ∃ b, impl_areBits.f s = some b ∧ (b = true ↔ AllBit s) := by
  refine ⟨(Lib.trimS s.data.toList [48, 49]).isEmpty, by unfold impl_areBits.f; rw [if_pos (by omega)], ?_⟩
  rw [trim_empty]
  constructor
  · intro h i h0 h1
    obtain ⟨n, rfl⟩ : ∃ n : Nat, i = n := ⟨i.toNat, by omega⟩
    rw [bt_list s n (by omega)]
    rcases h _ (List.getElem_mem (l := s.data.toList) (n := n) (by simp; omega)) with e | e <;> rw [e]
    · exact Or.inl rfl
    · exact Or.inr rfl
  · intro h b hb
    obtain ⟨n, hn, rfl⟩ := List.getElem_of_mem hb
    have hn' : n < s.size := by simpa using hn
    have := h n (by omega) (by omega)
    rw [bt_list s n hn'] at this
    rcases this with e | e
    · left; apply UInt8.toNat_inj.1; show s.data.toList[n].toNat = 48; omega
    · right; apply UInt8.toNat_inj.1; show s.data.toList[n].toNat = 49; omega
theorem isBits_ev (s : ByteArray) (hs : s.size ≤ 140737488351232) : ∃ b, impl_IsBits.f s = some b ∧ (b = true ↔ IsBitS s) := by
  obtain ⟨b, hb, hi⟩ := areBits_ev s hs
  simp only [impl_IsBits.f, hb, Option.bind_some, IsBitS]
  by_cases h : (s.size : Int) ≤ 400
  · exact ⟨b, by rw [if_pos h], by rw [hi]; exact ⟨fun g => ⟨g, h⟩, fun g => g.1⟩⟩
  · exact ⟨false, by rw [if_neg h], by simp only [Bool.false_eq_true, false_iff]; exact fun g => h g.2⟩

theorem ba_ext {a b : ByteArray} (h : a.data.toList = b.data.toList) : a = b := by apply ByteArray.ext; exact Array.toList_inj.1 h
theorem sn_append (a b : List Int) : strOfNums (a ++ b) = strOfNums a ++ strOfNums b := by apply ba_ext; simp [strOfNums]
theorem sn_size (a : List Int) : (strOfNums a).size = a.length := by simp [strOfNums, ByteArray.size]
theorem sn_nil : strOfNums [] = (⟨#[]⟩ : ByteArray) := rfl
theorem bt_range (s : ByteArray) (i : Int) (h0 : 0 ≤ i) (h1 : i < s.size) : 0 ≤ bt s i ∧ bt s i < 256 := by
  obtain ⟨n, rfl⟩ : ∃ n : Nat, i = n := ⟨i.toNat, by omega⟩
  rw [bt_list s n (by omega)]
  have := (s.data.toList[n]'(by simp; omega)).toNat_lt
  omega
theorem extract_one (s : ByteArray) (n : Nat) (h : n < s.size) : (s.extract n (n + 1)).data.toList = [s.data.toList[n]'(by simpa using h)] := by
  have h' : n < s.data.size := h
  simp only [ByteArray.data_extract, Array.toList_extract, List.extract_eq_take_drop]
  rw [show n + 1 - n = 1 by omega, List.drop_eq_getElem_cons (show n < s.data.toList.length by simpa using h')]
  simp
theorem sn_one (s : ByteArray) (i : Int) (h0 : 0 ≤ i) (h1 : i < s.size) : strOfNums [bt s i] = s.extract i.toNat (i + 1).toNat := by
  obtain ⟨n, rfl⟩ : ∃ n : Nat, i = n := ⟨i.toNat, by omega⟩
  apply ba_ext
  rw [show ((n : Int) + 1).toNat = n + 1 by omega, Int.toNat_natCast, extract_one s n (by omega), bt_list s n (by omega)]
  simp [strOfNums]
theorem sn_rep (x : Int) : ∀ n, strOfNums (List.replicate n x) = ⟨(Lib.repeatL (strOfNums [x]).data.toList n).toArray⟩
  | 0 => by apply ba_ext; simp [strOfNums, Lib.repeatL]
  | n + 1 => by
    rw [List.replicate_succ, show x :: List.replicate n x = [x] ++ List.replicate n x from rfl, sn_append, sn_rep x n]
    apply ba_ext
    simp [Lib.repeatL]

theorem and255 (x : Int) : 0 ≤ Go.bits .and .u64 x 255 ∧ Go.bits .and .u64 x 255 ≤ 255 := by
  have h : (BitVec.ofInt 64 x &&& BitVec.ofInt 64 255).toNat ≤ 255 := by
    rw [BitVec.toNat_and]; exact Nat.le_trans Nat.and_le_right (by decide)
  have e : Go.bits .and .u64 x 255 = IntKind.u64.wrap ((BitVec.ofInt 64 x &&& BitVec.ofInt 64 255).toNat : Int) := rfl
  rw [e]
  generalize (BitVec.ofInt 64 x &&& BitVec.ofInt 64 255).toNat = n at h
  have e2 : IntKind.u64.wrap (n : Int) = (n : Int) % 18446744073709551616 := rfl
  rw [e2]; omega
def U8L (l : List Int) : Prop := ∀ x ∈ l, (Lit.int .u8 x).wf = true
theorem u8_rd {l : List Int} (h : U8L l) (i : Int) : 0 ≤ rd l i ∧ rd l i ≤ 255 := by
  unfold rd
  rw [List.getD_eq_getElem?_getD]
  cases e : l[i.toNat]? with
  | none => exact ⟨by decide, by decide⟩
  | some v =>
    have := h v (List.mem_of_getElem? e)
    simp only [Lit.wf, IntKind.min, IntKind.max, IntKind.signed, IntKind.bits, Bool.and_eq_true, decide_eq_true_eq, Bool.false_eq_true, if_false] at this
    simp only [Option.getD_some]
    omega
theorem next_ev (l : List Int) (hu : U8L l) (hl : l.length ≤ 1000000) (a s : Int) (h0 : 0 ≤ a) (h1 : a ≤ 1000000000000) : ∃ v s', spec_l00Src_next.f l a s = some (v, a + 1, s') ∧ 0 ≤ v ∧ v ≤ 255 := by
  have ha := and255 ((IntKind.u64.wrap ((IntKind.u64.wrap ((IntKind.u64.wrap (s * 6364136223846793005)) + (IntKind.u64.wrap (wrap64 (rd l a))))) + 1442695040888963407)) / 1099511627776)
  have hb := and255 ((IntKind.u64.wrap ((IntKind.u64.wrap ((IntKind.u64.wrap (s * 6364136223846793005)) + 0)) + 1442695040888963407)) / 1099511627776)
  have hr := u8_rd hu a
  have e1 : wrap64 (a + 1) = a + 1 := w64 (by omega) (by omega)
  simp only [spec_l00Src_next.f]
  rw [e1]
  by_cases c : a < (l.length : Int)
  · rw [if_pos c, if_pos h0]
    by_cases c2 : a + 1 ≤ (l.length : Int)
    · rw [if_pos c2]; refine ⟨_, _, rfl, ?_⟩; rw [w64 (Int.le_trans (by decide) hr.1) (Int.le_trans hr.2 (by decide))]; exact hr
    · rw [if_neg c2]; refine ⟨_, _, rfl, ?_⟩; rw [w64 (Int.le_trans (by decide) ha.1) (Int.le_trans ha.2 (by decide))]; exact ha
  · rw [if_neg c]
    by_cases c2 : a + 1 ≤ (l.length : Int)
    · rw [if_pos c2]; exact ⟨_, _, rfl, by decide⟩
    · rw [if_neg c2]; refine ⟨_, _, rfl, ?_⟩; rw [w64 (Int.le_trans (by decide) hb.1) (Int.le_trans hb.2 (by decide))]; exact hb
theorem tmod_range (x n : Int) (h0 : 0 ≤ x) (hn : 1 ≤ n) : 0 ≤ Int.tmod x n ∧ Int.tmod x n < n := by
  rw [Int.tmod_eq_emod_of_nonneg h0]
  exact ⟨Int.emod_nonneg _ (by omega), Int.emod_lt_of_pos _ (by omega)⟩
theorem pick_ev (l : List Int) (hu : U8L l) (hl : l.length ≤ 1000000) (n a s : Int) (h0 : 0 ≤ a) (h1 : a ≤ 100000000000) :
    ∃ v a' s', spec_l00Src_pick.f l a s n = some (v, a', s') ∧ 0 ≤ v ∧ (1 ≤ n → v < n) ∧ a ≤ a' ∧ a' ≤ a + 2 := by
  simp only [spec_l00Src_pick.f]
  by_cases c : n ≤ 1
  · rw [if_pos c]; exact ⟨0, a, s, rfl, by omega, by omega, by omega, by omega⟩
  obtain ⟨v, s', e, hv⟩ := next_ev l hu hl a s h0 (by omega)
  obtain ⟨v2, s2, e2, hv2⟩ := next_ev l hu hl (a + 1) s' (by omega) (by omega)
  have hn0 : ¬ n = 0 := by omega
  have t1 := tmod_range v n hv.1 (by omega)
  have t2 := tmod_range (v * 256 + v2) n (by omega) (by omega)
  have b1 : -9223372036854775808 ≤ v * 256 ∧ v * 256 ≤ 9223372036854775807 := by omega
  have b2 : -9223372036854775808 ≤ v * 256 + v2 ∧ v * 256 + v2 ≤ 9223372036854775807 := by omega
  rw [if_neg c, e, Option.bind_some]
  by_cases c2 : n > 200
  · refine ⟨_, a + 1 + 1, s2, ?_, t2.1, fun _ => t2.2, by omega, by omega⟩
    simp only [if_pos c2]
    rw [e2, Option.bind_some, if_neg hn0, w64 b1.1 b1.2, w64 b2.1 b2.2]
  · refine ⟨_, a + 1, s', ?_, t1.1, fun _ => t1.2, by omega, by omega⟩
    rw [if_neg c2, if_neg hn0]
theorem one_ev (l : List Int) (hu : U8L l) (hl : l.length ≤ 1000000) (n a s : Int) (h0 : 0 ≤ a) (h1 : a ≤ 100000000000) :
    ∃ c a' s', spec_l00Src_one.f l a s n = some (c, a', s') ∧ a ≤ a' ∧ a' ≤ a + 2 := by
  obtain ⟨v, a', s', e, -, -, h2, h3⟩ := pick_ev l hu hl n a s h0 h1
  exact ⟨_, a', s', by rw [spec_l00Src_one.f, e, Option.bind_some], h2, h3⟩
def Bit48 (x : List Int) : Prop := ∀ v ∈ x, v = 48 ∨ v = 49
theorem r8Bits_loop (l : List Int) (hu : U8L l) (hl : l.length ≤ 1000000) (n : Nat) (hn : n ≤ 1000) (d : Nat) : ∀ (x : List Int) (a s : Int), Bit48 x → x.length + d ≤ n → 0 ≤ a → a + 4 * d ≤ 100000000 →
    ∃ y, Bit48 y ∧ y.length ≤ n ∧ Ev (fun k => spec_R8Bits.l0 k x d l a s) (strOfNums y) := by
  induction d with
  | zero =>
    intro x a s hx hxl h0 h1
    refine ⟨x, hx, by omega, Ev_succ ?_⟩
    simp only [spec_R8Bits.l0, if_neg (show ¬ ((0 : Nat) : Int) > 0 by omega)]; exact Ev.now _
  | succ d ih =>
    intro x a s hx hxl h0 h1
    obtain ⟨v, a1, s1, e1, hv0, hv1, ha1, ha2⟩ := pick_ev l hu hl 2 a s h0 (by omega)
    obtain ⟨c, a2, s2, e2, ha3, ha4⟩ := one_ev l hu hl 2 a1 s1 (by omega) (by omega)
    have hv1 := hv1 (by omega)
    have d1 : ((d + 1 : Nat) : Int) > 0 := by omega
    have lt : x.length < 140737488355328 := by omega
    have b1 : -9223372036854775808 ≤ 48 + v ∧ 48 + v ≤ 9223372036854775807 := by omega
    have b2 : -9223372036854775808 ≤ (d : Int) ∧ (d : Int) ≤ 9223372036854775807 := by omega
    have b3 : ((d + 1 : Nat) : Int) - 1 = d := by omega
    have b4 : (48 + v) % 256 = 48 + v := by omega
    have b5 : -9223372036854775808 ≤ (x.length : Int) - 1 ∧ (x.length : Int) - 1 ≤ 9223372036854775807 := by omega
    have new : Bit48 (x ++ [48 + v]) := by
      intro w hw
      rcases List.mem_append.1 hw with g | g
      · exact hx w g
      · rw [List.mem_singleton.1 g]; omega
    have nl : ∀ w : Int, (x ++ [w]).length = x.length + 1 := fun w => by rw [List.length_append]; rfl
    by_cases hz : (x.length : Int) > 0
    · cases c with
      | true =>
        have q0 : 0 ≤ (x.length : Int) - 1 := by omega
        have q1 : (x.length : Int) - 1 < x.length := by omega
        have hm : rd x ((x.length : Int) - 1) ∈ x := by
          unfold rd
          rw [List.getD_eq_getElem?_getD, List.getElem?_eq_getElem (show ((x.length : Int) - 1).toNat < x.length by omega)]
          exact List.getElem_mem _
        obtain ⟨y, hy, hyl, hE⟩ := ih (x ++ [rd x ((x.length : Int) - 1)]) a2 s2 (by
          intro w hw
          rcases List.mem_append.1 hw with g | g
          · exact hx w g
          · rw [List.mem_singleton.1 g]; exact hx _ hm) (by rw [nl]; omega) (by omega) (by omega)
        refine ⟨y, hy, hyl, Ev_succ ?_⟩
        simp only [spec_R8Bits.l0, if_pos d1, e1, e2, Option.bind_some, if_pos hz, if_true, w64 b5.1 b5.2, if_pos q0, if_pos q1, if_pos lt, w64 b2.1 b2.2, b3]
        exact hE
      | false =>
        obtain ⟨y, hy, hyl, hE⟩ := ih (x ++ [48 + v]) a2 s2 new (by rw [nl]; omega) (by omega) (by omega)
        refine ⟨y, hy, hyl, Ev_succ ?_⟩
        simp only [spec_R8Bits.l0, if_pos d1, e1, e2, Option.bind_some, if_pos hz, Bool.false_eq_true, if_false, w64 b1.1 b1.2, b4, if_pos lt, w64 b2.1 b2.2, b3]
        exact hE
    · obtain ⟨y, hy, hyl, hE⟩ := ih (x ++ [48 + v]) a1 s1 new (by rw [nl]; omega) (by omega) (by omega)
      refine ⟨y, hy, hyl, Ev_succ ?_⟩
      simp only [spec_R8Bits.l0, if_pos d1, e1, Option.bind_some, if_neg hz, w64 b1.1 b1.2, b4, if_pos lt, w64 b2.1 b2.2, b3]
      exact hE
theorem r8Bits_ev (l : List Int) (hu : U8L l) (hl : l.length ≤ 1000000) (n : Nat) (hn : n ≤ 1000) : ∃ y, Bit48 y ∧ y.length ≤ n ∧ Ev (fun k => spec_R8Bits.f k l n) (strOfNums y) := by
  have b1 : -9223372036854775808 ≤ (n : Int) + 1 ∧ (n : Int) + 1 ≤ 9223372036854775807 := by omega
  obtain ⟨v, a1, s1, e1, hv0, hv1, ha1, ha2⟩ := pick_ev l hu hl ((n : Int) + 1) 0 0 (by omega) (by omega)
  have hv1 := hv1 (by omega)
  obtain ⟨d, rfl⟩ : ∃ d : Nat, v = d := ⟨v.toNat, by omega⟩
  obtain ⟨y, hy, hyl, hE⟩ := r8Bits_loop l hu hl n hn d [] a1 s1 (by intro w hw; cases hw) (by simp; omega) (by omega) (by omega)
  refine ⟨y, hy, hyl, ?_⟩
  simp only [spec_R8Bits.f, spec_l00From.f, Option.bind_some, w64 b1.1 b1.2, e1]
  exact hE
theorem bit48_sn {y : List Int} (h : Bit48 y) : AllBit (strOfNums y) ∧ (strOfNums y).size = y.length := by
  refine ⟨?_, sn_size y⟩
  intro i h0 h1
  rw [sn_size] at h1
  obtain ⟨n, rfl⟩ : ∃ n : Nat, i = n := ⟨i.toNat, by omega⟩
  have hn : n < y.length := by omega
  rw [bt_list _ n (by rw [sn_size]; exact hn)]
  have e : ((strOfNums y).data.toList[n]'(by have := sn_size y; simp only [ByteArray.size] at this; rw [Array.length_toList]; omega)) = UInt8.ofNat (y[n]).toNat := by simp [strOfNums]
  rw [e]
  rcases h _ (List.getElem_mem hn) with g | g <;> rw [g]
  · exact .inl rfl
  · exact .inr rfl

theorem ex_size (s : ByteArray) (a b : Nat) (hb : b ≤ s.size) : (s.extract a b).size = b - a := by
  simp only [ByteArray.size_extract]; omega
theorem ex_list (s : ByteArray) (a b : Nat) : (s.extract a b).data.toList = (s.data.toList.drop a).take (b - a) := by
  simp only [ByteArray.data_extract, Array.toList_extract, List.extract_eq_take_drop]
theorem ex_ex (s : ByteArray) (a b c d : Nat) (h : a + d ≤ b) : (s.extract a b).extract c d = s.extract (a + c) (a + d) := by
  apply ba_ext
  rw [ex_list, ex_list, ex_list, List.drop_take, List.drop_drop, List.take_take]
  congr 1
  omega
theorem dl_size (s : ByteArray) : s.data.toList.length = s.size := Array.length_toList
theorem ex_whole (s : ByteArray) : s.extract 0 s.size = s := by
  apply ba_ext; rw [ex_list, List.drop_zero]; exact List.take_of_length_le (by rw [dl_size]; omega)
theorem bt_extract (s : ByteArray) (a b : Nat) (hb : b ≤ s.size) (j : Int) (h0 : 0 ≤ j) (h1 : j < (b : Int) - a) : bt (s.extract a b) j = bt s (a + j) := by
  obtain ⟨n, rfl⟩ : ∃ n : Nat, j = n := ⟨j.toNat, by omega⟩
  have hz := ex_size s a b hb
  rw [bt_list _ n (by omega), show (a : Int) + n = ((a + n : Nat) : Int) by omega, bt_list _ _ (by omega)]
  congr 2
  simp only [ex_list]
  rw [List.getElem_take, List.getElem_drop]
theorem AllBit_extract (s : ByteArray) (h : AllBit s) (a b : Nat) (hb : b ≤ s.size) : AllBit (s.extract a b) := by
  intro j h0 h1
  have hz := ex_size s a b hb
  rw [bt_extract s a b hb j h0 (by omega)]
  exact h _ (by omega) (by omega)
theorem nil_size (s : ByteArray) : s.toList = ([] : List UInt8) ↔ s.size = 0 := by
  rw [Lib.toList_data]
  show _ ↔ s.data.size = 0
  rw [← Array.length_toList]
  exact List.length_eq_zero_iff.symm

theorem areIn_loop (l : List Int) (lo hi : Int) (hl : (l.length : Int) ≤ 4611686018427387904) (d : Nat) : ∀ i : Int, 0 ≤ i → i ≤ l.length → (l.length : Int) - i = d →
    (∀ j, 0 ≤ j → j < i → lo ≤ rd l j ∧ rd l j ≤ hi) → ∃ b, Ev (fun k => impl_areIn.l0 k lo hi l l.length i) b ∧ (b = true ↔ ∀ j, 0 ≤ j → j < (l.length : Int) → lo ≤ rd l j ∧ rd l j ≤ hi) := by
  induction d with
  | zero =>
    intro i h0 h1 hd hp
    refine ⟨true, Ev_succ ?_, ?_⟩
    · simp only [impl_areIn.l0, if_neg (show ¬ i < (l.length : Int) by omega)]; exact Ev.now _
    · simp only [true_iff]; exact fun j j0 j1 => hp j j0 (by omega)
  | succ d ih =>
    intro i h0 h1 hd hp
    have hlt : i < (l.length : Int) := by omega
    by_cases hb : lo ≤ rd l i ∧ rd l i ≤ hi
    · obtain ⟨b, h, hbi⟩ := ih (i + 1) (by omega) (by omega) (by omega) (fun j j0 j1 => by
        by_cases e : j = i
        · rw [e]; exact hb
        · exact hp j j0 (by omega))
      refine ⟨b, Ev_succ ?_, hbi⟩
      simp (disch := omega) only [impl_areIn.l0, w64, within_eq, Option.bind_some]
      simp only [if_pos hlt, if_pos h0, hb, and_self, decide_true, if_true]
      exact h
    · refine ⟨false, Ev_succ ?_, ?_⟩
      · simp (disch := omega) only [impl_areIn.l0, w64, within_eq, Option.bind_some]
        simp only [if_pos hlt, if_pos h0, hb, decide_false, Bool.false_eq_true, if_false]
        exact Ev.now _
      · simp only [Bool.false_eq_true, false_iff]; exact fun g => hb (g i h0 hlt)
theorem areIn_ev (l : List Int) (lo hi : Int) (hl : (l.length : Int) ≤ 4611686018427387904) : ∃ b, Ev (fun k => impl_areIn.f k l lo hi) b ∧ (b = true ↔ ∀ j, 0 ≤ j → j < (l.length : Int) → lo ≤ rd l j ∧ rd l j ≤ hi) :=
  areIn_loop l lo hi hl l.length 0 (by omega) (by omega) (by omega) (fun j _ _ => by omega)

def RisesIn (l : List Int) (lo hi : Int) : Prop := ∀ i : Int, 0 ≤ i → i < l.length → (lo ≤ rd l i ∧ rd l i ≤ hi) ∧ (0 < i → rd l (i - 1) < rd l i)
theorem isInc_loop (l : List Int) (hl : (l.length : Int) ≤ 4611686018427387904) (d : Nat) : ∀ i : Int, 0 ≤ i → i ≤ l.length → (l.length : Int) - i = d →
    (∀ j, 0 < j → j < i → rd l (j - 1) < rd l j) → ∃ b, Ev (fun k => impl_isIncreasing.l0 k l l.length i) b ∧ (b = true ↔ ∀ j, 0 < j → j < (l.length : Int) → rd l (j - 1) < rd l j) := by
  induction d with
  | zero =>
    intro i h0 h1 hd hp
    refine ⟨true, Ev_succ ?_, ?_⟩
    · simp only [impl_isIncreasing.l0, if_neg (show ¬ i < (l.length : Int) by omega)]; exact Ev.now _
    · simp only [true_iff]; exact fun j j0 j1 => hp j j0 (by omega)
  | succ d ih =>
    intro i h0 h1 hd hp
    have hlt : i < (l.length : Int) := by omega
    by_cases hi0 : i > 0
    · by_cases hr : rd l i ≤ rd l (i - 1)
      · refine ⟨false, Ev_succ ?_, ?_⟩
        · simp (disch := omega) only [impl_isIncreasing.l0, w64]
          simp only [if_pos hlt, if_pos hi0, if_pos h0, if_pos (show 0 ≤ i - 1 by omega), if_pos (show i - 1 < (l.length : Int) by omega), if_pos hr]
          exact Ev.now _
        · simp only [Bool.false_eq_true, false_iff]; exact fun g => by have := g i hi0 hlt; omega
      · obtain ⟨b, h, hbi⟩ := ih (i + 1) (by omega) (by omega) (by omega) (fun j j0 j1 => by
          by_cases e : j = i
          · rw [e]; omega
          · exact hp j j0 (by omega))
        refine ⟨b, Ev_succ ?_, hbi⟩
        simp (disch := omega) only [impl_isIncreasing.l0, w64]
        simp only [if_pos hlt, if_pos hi0, if_pos h0, if_pos (show 0 ≤ i - 1 by omega), if_pos (show i - 1 < (l.length : Int) by omega), if_neg hr]
        exact h
    · obtain ⟨b, h, hbi⟩ := ih (i + 1) (by omega) (by omega) (by omega) (fun j j0 j1 => by
        by_cases e : j = i
        · omega
        · exact hp j j0 (by omega))
      refine ⟨b, Ev_succ ?_, hbi⟩
      simp (disch := omega) only [impl_isIncreasing.l0, w64]
      simp only [if_pos hlt, if_neg hi0]
      exact h
theorem isInc_ev (l : List Int) (hl : (l.length : Int) ≤ 4611686018427387904) : ∃ b, Ev (fun k => impl_isIncreasing.f k l) b ∧ (b = true ↔ ∀ j, 0 < j → j < (l.length : Int) → rd l (j - 1) < rd l j) :=
  isInc_loop l hl l.length 0 (by omega) (by omega) (by omega) (fun j _ _ => by omega)
def TapsOk (l : List Int) : Prop := 1 ≤ (l.length : Int) ∧ (l.length : Int) ≤ 16 ∧ RisesIn l 1 16
theorem areTaps_ev (l : List Int) (hl : (l.length : Int) ≤ 4611686018427387904) : ∃ b, Ev (fun k => impl_areTaps.f k l) b ∧ (b = true ↔ TapsOk l) := by
  simp only [impl_areTaps.f]
  by_cases h1 : (l.length : Int) ≥ 1
  · by_cases h2 : (l.length : Int) ≤ 16
    · obtain ⟨b, hb, hi⟩ := areIn_ev l 1 16 hl
      obtain ⟨c, hc, hj⟩ := isInc_ev l hl
      simp only [if_pos h1, if_pos h2]
      cases b with
      | true =>
        refine ⟨c, Ev.bind hb ?_, ?_⟩
        · simp only [if_true]; exact Ev.bind hc (Ev.now _)
        · rw [hj]
          exact ⟨fun g => ⟨h1, h2, fun i i0 i1 => ⟨hi.1 rfl i i0 i1, fun z => g i z i1⟩⟩, fun g j j0 j1 => (g.2.2 j (by omega) j1).2 j0⟩
      | false =>
        refine ⟨false, Ev.bind hb ?_, ?_⟩
        · simp only [Bool.false_eq_true, if_false]; exact Ev.now _
        · simp only [Bool.false_eq_true, false_iff]
          intro g
          have := hi.2 (fun j j0 j1 => (g.2.2 j j0 j1).1)
          cases this
    · exact ⟨false, by simp only [if_pos h1, if_neg h2]; exact Ev.now _, by simp only [Bool.false_eq_true, false_iff]; exact fun g => h2 g.2.1⟩
  · exact ⟨false, by simp only [if_neg h1]; exact Ev.now _, by simp only [Bool.false_eq_true, false_iff]; exact fun g => h1 g.1⟩
def ScrOk (l : List Int) (s : ByteArray) : Prop := TapsOk l ∧ AllBit s ∧ (s.size : Int) = rd l ((l.length : Int) - 1)
theorem ScrOk.small {l : List Int} {s : ByteArray} (h : ScrOk l s) : 1 ≤ (s.size : Int) ∧ (s.size : Int) ≤ 16 := by
  obtain ⟨⟨h1, h2, h3⟩, -, h4⟩ := h
  have := (h3 ((l.length : Int) - 1) (by omega) (by omega)).1
  omega
theorem validScr_ev (l : List Int) (s : ByteArray) (hl : (l.length : Int) ≤ 1048576) (hs : s.size ≤ 140737488351232) : ∃ b, Ev (fun k => impl_ValidScrambler.f k l s) b ∧ (b = true ↔ ScrOk l s) := by
  obtain ⟨b, hb, hi⟩ := areTaps_ev l (by omega)
  obtain ⟨c, hc, hj⟩ := areBits_ev s hs
  simp only [impl_ValidScrambler.f, hc, Option.bind_some]
  simp (disch := omega) only [w64]
  cases b with
  | false =>
    refine ⟨false, Ev.bind hb (by simp only [Bool.false_eq_true, if_false]; exact Ev.now _), ?_⟩
    simp only [Bool.false_eq_true, false_iff]
    exact fun g => by have := hi.2 g.1; cases this
  | true =>
    have ht := hi.1 rfl
    cases c with
    | false =>
      refine ⟨false, Ev.bind hb ?_, ?_⟩
      · simp only [if_true, Bool.false_eq_true, if_false]; exact Ev.now _
      · simp only [Bool.false_eq_true, false_iff]
        exact fun g => by have := hj.2 g.2.1; cases this
    | true =>
      have hb2 := hj.1 rfl
      refine ⟨(s.size : Int) == rd l ((l.length : Int) - 1), Ev.bind hb ?_, ?_⟩
      · simp only [if_true, if_pos (show 0 ≤ (l.length : Int) - 1 by have := ht.1; omega), if_pos (show (l.length : Int) - 1 < (l.length : Int) by omega)]
        exact Ev.now _
      · rw [beq_iff_eq]
        exact ⟨fun g => ⟨ht, hb2, g⟩, fun g => g.2.2⟩

def BitL (x : List Int) : Prop := ∀ v ∈ x, v = 0 ∨ v = 1
def up (x : List Int) : List Int := x.map (fun v => 48 + v)
theorem up_length (x : List Int) : (up x).length = x.length := by simp [up]
theorem up_append (x y : List Int) : up (x ++ y) = up x ++ up y := by simp [up]
theorem up_drop (x : List Int) (n : Nat) : (up x).drop n = up (x.drop n) := by simp [up]
theorem BitL_append {x y : List Int} (hx : BitL x) (hy : BitL y) : BitL (x ++ y) := by
  intro v hv; rcases List.mem_append.1 hv with h | h
  · exact hx v h
  · exact hy v h
theorem BitL_one {v : Int} (h : v = 0 ∨ v = 1) : BitL [v] := by intro w hw; rw [List.mem_singleton.1 hw]; exact h
theorem BitL_drop {x : List Int} (hx : BitL x) (n : Nat) : BitL (x.drop n) := fun v hv => hx v (List.mem_of_mem_drop hv)
theorem rd_bit {x : List Int} (hx : BitL x) (i : Int) (h0 : 0 ≤ i) (h1 : i < x.length) : rd x i = 0 ∨ rd x i = 1 := by
  unfold rd
  rw [List.getD_eq_getElem?_getD, List.getElem?_eq_getElem (show i.toNat < x.length by omega)]
  exact hx _ (List.getElem_mem _)
theorem rd_up (x : List Int) (i : Int) (h0 : 0 ≤ i) (h1 : i < x.length) : rd (up x) i = 48 + rd x i := by
  unfold rd up
  rw [List.getD_eq_getElem?_getD, List.getD_eq_getElem?_getD, List.getElem?_map, List.getElem?_eq_getElem (show i.toNat < x.length by omega)]
  rfl
theorem xor_bit {a b : Int} (ha : a = 0 ∨ a = 1) (hb : b = 0 ∨ b = 1) : Go.bits .xor .u8 a b = 0 ∨ Go.bits .xor .u8 a b = 1 := by
  rcases ha with rfl | rfl <;> rcases hb with rfl | rfl <;> decide
theorem and_up {a : Int} (ha : a = 0 ∨ a = 1) : Go.bits .and .u8 (48 + a) 1 = a := by
  rcases ha with rfl | rfl <;> decide
theorem xor_up {a b : Int} (ha : a = 0 ∨ a = 1) (hb : b = 0 ∨ b = 1) : Go.bits .xor .u8 (48 + a) b = 48 + Go.bits .xor .u8 a b := by
  rcases ha with rfl | rfl <;> rcases hb with rfl | rfl <;> decide
theorem xor_self_down {a b : Int} (ha : a = 0 ∨ a = 1) (hb : b = 0 ∨ b = 1) : Go.bits .xor .u8 a b = Go.bits .xor .u8 b a := by
  rcases ha with rfl | rfl <;> rcases hb with rfl | rfl <;> decide
theorem rises_mono (l : List Int) {lo hi : Int} (h : RisesIn l lo hi) (d : Nat) : ∀ i : Int, 0 ≤ i → i + d < l.length → rd l i ≤ rd l (i + d) := by
  induction d with
  | zero => intro i h0 h1; simp
  | succ d ih =>
    intro i h0 h1
    have h2 := ih i h0 (by omega)
    have h3 := (h (i + d + 1) (by omega) (by omega)).2 (by omega)
    rw [show i + (d : Int) + 1 - 1 = i + d by omega] at h3
    rw [show i + ((d + 1 : Nat) : Int) = i + d + 1 by omega]
    omega
theorem tap_le {l : List Int} {s : ByteArray} (h : ScrOk l s) (i : Int) (h0 : 0 ≤ i) (h1 : i < l.length) : 1 ≤ rd l i ∧ rd l i ≤ s.size := by
  have h2 := rises_mono l h.1.2.2 ((l.length : Int) - 1 - i).toNat i h0 (by omega)
  rw [show i + (((l.length : Int) - 1 - i).toNat : Int) = (l.length : Int) - 1 by omega, ← h.2.2] at h2
  exact ⟨(h.1.2.2 i h0 h1).1.1, h2⟩
def revB (s : ByteArray) : Nat → List Int
  | 0 => []
  | n + 1 => (bt s n - 48) :: revB s n
theorem revB_length (s : ByteArray) : ∀ n, (revB s n).length = n
  | 0 => rfl
  | n + 1 => by simp [revB, revB_length s n]
theorem revB_bit (s : ByteArray) (h : AllBit s) : ∀ n : Nat, n ≤ s.size → BitL (revB s n)
  | 0, _ => by intro v hv; cases hv
  | n + 1, hn => by
    intro v hv
    rcases List.mem_cons.1 hv with e | e
    · have := h n (by omega) (by omega); omega
    · exact revB_bit s h n (by omega) v e
theorem up_revB (s : ByteArray) : ∀ n : Nat, n ≤ s.size → up (revB s n) = ((Gd.zsOf s).take n).reverse
  | 0, _ => by simp [up, revB]
  | n + 1, hn => by
    have hz := Gd.zsOf_length s
    have h1 : n < (Gd.zsOf s).length := by omega
    have hd : n < s.data.toList.length := by rw [Array.length_toList]; exact hn
    rw [List.take_succ_eq_append_getElem h1, List.reverse_append, ← up_revB s n (by omega)]
    have : (Gd.zsOf s)[n] = bt s n := by rw [bt_list s n (by omega)]; simp [Gd.zsOf]
    simp [this, revB, up]
    omega
theorem history_eq (s : ByteArray) (hs : s.size ≤ 140737488355328) (l : List Int) : impl_Scrambler_history.f l s = some (up (revB s s.size)) := by
  rw [impl_Scrambler_history.f, if_pos hs, up_revB s s.size (Nat.le_refl _), ← Gd.zsOf_length, List.take_length]
/-! the text of bits -/
theorem text_loop (x : List Int) (hx : BitL x) (hl : x.length ≤ 1000000) (d : Nat) : ∀ (n : Nat), n + d = x.length → Ev (fun k => spec_l06Text.l0 k x (up (x.take n)) n) (strOfNums (up x)) := by
  induction d with
  | zero =>
    intro n hd
    refine Ev_succ ?_
    simp only [spec_l06Text.l0, if_neg (show ¬ (n : Int) < (x.length : Int) by omega), List.take_of_length_le (show x.length ≤ n by omega)]; exact Ev.now _
  | succ d ih =>
    intro n hd
    refine Ev_succ ?_
    have hn : n < x.length := by omega
    have hb := rd_bit hx n (by omega) (by omega)
    have hr : rd x n = x[n] := by unfold rd; rw [Int.toNat_natCast, List.getD_eq_getElem?_getD, List.getElem?_eq_getElem hn]; rfl
    rw [hr] at hb
    have h := ih (n + 1) (by omega)
    rw [List.take_succ_eq_append_getElem hn, up_append] at h
    have hu := up_length (x.take n)
    rw [List.length_take] at hu
    simp (disch := omega) only [spec_l06Text.l0, w64]
    simp only [if_pos (show (n : Int) < (x.length : Int) by omega), if_pos (show (0 : Int) ≤ n by omega), if_pos (show (up (x.take n)).length < 140737488355328 by omega), hr, show (48 + x[n]) % 256 = 48 + x[n] by omega]
    exact h
theorem text_ev (x : List Int) (hx : BitL x) (hl : x.length ≤ 1000000) : Ev (fun k => spec_l06Text.f k x) (strOfNums (up x)) := text_loop x hx hl x.length 0 (by omega)

theorem bt_sn (xs : List Int) (i : Int) (h0 : 0 ≤ i) (h1 : i < xs.length) (hr : 0 ≤ rd xs i ∧ rd xs i < 256) : bt (strOfNums xs) i = rd xs i := by
  obtain ⟨n, rfl⟩ : ∃ n : Nat, i = n := ⟨i.toNat, by omega⟩
  have hz := sn_size xs
  have hn : n < xs.length := by omega
  rw [bt_list _ n (by omega)]
  have hrd : rd xs n = xs[n] := by unfold rd; rw [Int.toNat_natCast, List.getD_eq_getElem?_getD, List.getElem?_eq_getElem hn]; rfl
  rw [hrd] at hr ⊢
  have e : (strOfNums xs).data.toList[n]'(by rw [dl_size]; omega) = UInt8.ofNat (xs[n]).toNat := by simp [strOfNums]
  rw [e, UInt8.toNat_ofNat']
  omega
theorem AllBit_up (z : List Int) (hz : BitL z) : AllBit (strOfNums (up z)) := by
  intro i h0 h1
  rw [sn_size, up_length] at h1
  have hb := rd_bit hz i h0 (by omega)
  have hr := rd_up z i h0 (by omega)
  rw [bt_sn (up z) i h0 (by rw [up_length]; omega) (by omega)]
  omega
theorem BitL_zeros (n : Nat) : BitL (List.replicate n 0) := fun v hv => .inl (List.eq_of_mem_replicate hv)
theorem zeros_text (n : Nat) (hn : n ≤ 1000000) : Ev (fun k => spec_l06Text.f k (List.replicate n 0)) (strOfNums (up (List.replicate n 0))) := text_ev _ (BitL_zeros n) (by simp; omega)
theorem zeros_size (n : Nat) : (strOfNums (up (List.replicate n 0))).size = n := by rw [sn_size, up_length, List.length_replicate]
theorem repeat_zeros (n : Nat) (hn : n ≤ 1000000) : strings_Repeat.f (⟨#[48]⟩ : ByteArray) n = some (strOfNums (up (List.replicate n 0))) := by
  have e : (⟨#[48]⟩ : ByteArray) = strOfNums [48] := rfl
  have e2 : up (List.replicate n 0) = List.replicate n 48 := by simp [up]
  have hz : ((strOfNums [48]).size : Int) = 1 := by rw [sn_size]; rfl
  rw [e, e2]
  unfold strings_Repeat.f
  rw [if_pos ⟨by omega, by omega, by rw [hz]; omega⟩, sn_rep, Int.toNat_natCast]

def sumT : List Int → List Int → Int
  | [], _ => 0
  | t :: r, x => rd x ((x.length : Int) - t) + sumT r x
def sumM (l x : List Int) : Int := sumT l x % 2
theorem xor_mod {a b : Int} (ha : a = 0 ∨ a = 1) (hb : b = 0 ∨ b = 1) : Go.bits .xor .u8 a b = (a + b) % 2 := by
  rcases ha with rfl | rfl <;> rcases hb with rfl | rfl <;> decide
theorem sumM_bit (l x : List Int) : sumM l x = 0 ∨ sumM l x = 1 := by unfold sumM; omega
theorem drop_rd (l : List Int) (n : Nat) (h : n < l.length) : l.drop n = rd l n :: l.drop (n + 1) := by
  rw [List.drop_eq_getElem_cons h]
  congr 1
  unfold rd
  rw [Int.toNat_natCast, List.getD_eq_getElem?_getD, List.getElem?_eq_getElem h]
  rfl
theorem sum_loopM {l : List Int} {s : ByteArray} (h : ScrOk l s) (x : List Int) (hx : BitL x) (hl : s.size ≤ x.length) (hm : x.length ≤ 1000000) (d : Nat) : ∀ (v : Int) (i : Nat), i + d = l.length → (v = 0 ∨ v = 1) →
    Ev (fun k => impl_sum.l0 k (up x) v l l.length i) ((v + sumT (l.drop i) x) % 2) := by
  induction d with
  | zero =>
    intro v i hd hv
    refine Ev_succ ?_
    rw [List.drop_of_length_le (by omega), sumT]
    simp only [impl_sum.l0, if_neg (show ¬ (i : Int) < (l.length : Int) by omega)]
    rw [show (v + 0) % 2 = v by omega]; exact Ev.now _
  | succ d ih =>
    intro v i hd hv
    have hlt : (i : Int) < (l.length : Int) := by omega
    have h0 : (0 : Int) ≤ i := by omega
    have ht := tap_le h i h0 hlt
    have h16 := h.1.2.1
    have hu := up_length x
    have q0 : 0 ≤ (x.length : Int) - rd l i := by omega
    have q1 : (x.length : Int) - rd l i < x.length := by omega
    have hb := rd_bit hx ((x.length : Int) - rd l i) q0 q1
    have hv' : (v + rd x ((x.length : Int) - rd l i)) % 2 = 0 ∨ (v + rd x ((x.length : Int) - rd l i)) % 2 = 1 := by omega
    have hE := ih _ (i + 1) (by omega) hv'
    have b1 : -9223372036854775808 ≤ (x.length : Int) - rd l i ∧ (x.length : Int) - rd l i ≤ 9223372036854775807 := by omega
    have b2 : -9223372036854775808 ≤ ((i + 1 : Nat) : Int) ∧ ((i + 1 : Nat) : Int) ≤ 9223372036854775807 := by omega
    have b3 : (i : Int) + 1 = ((i + 1 : Nat) : Int) := by omega
    have e : ((v + rd x ((x.length : Int) - rd l i)) % 2 + sumT (l.drop (i + 1)) x) % 2 = (v + sumT (l.drop i) x) % 2 := by
      rw [drop_rd l i (by omega), sumT]; omega
    rw [e] at hE
    refine Ev_succ ?_
    simp only [impl_sum.l0, hu, w64 b1.1 b1.2, b3, w64 b2.1 b2.2, if_pos hlt, if_pos h0, if_pos q0, if_pos q1, rd_up x _ q0 q1, and_up hb, xor_mod hv hb]
    exact hE
theorem sum_evM {l : List Int} {s : ByteArray} (h : ScrOk l s) (x : List Int) (hx : BitL x) (hl : s.size ≤ x.length) (hm : x.length ≤ 1000000) : Ev (fun k => impl_sum.f k l (up x)) (sumM l x) := by
  have := sum_loopM h x hx hl hm l.length 0 0 (by omega) (.inl rfl)
  rw [List.drop_zero, Int.zero_add] at this
  exact this
def scrS (l : List Int) : List Int → List Int → List Int
  | _, [] => []
  | x, b :: r => (b + sumM l x) % 2 :: scrS l (x ++ [(b + sumM l x) % 2]) r
def desS (l : List Int) : List Int → List Int → List Int
  | _, [] => []
  | x, c :: r => (c + sumM l x) % 2 :: desS l (x ++ [c]) r
def keyS (l : List Int) : List Int → Nat → List Int
  | _, 0 => []
  | x, n + 1 => sumM l x :: keyS l (x ++ [sumM l x]) n
def addS (a b : List Int) : List Int := List.zipWith (fun x y => (x + y) % 2) a b
theorem BitL_mod (v : Int) : v % 2 = 0 ∨ v % 2 = 1 := by omega
theorem scrS_bit (l : List Int) : ∀ b x, BitL (scrS l x b)
  | [], x => by intro v hv; cases hv
  | b :: r, x => by
    intro v hv
    rcases List.mem_cons.1 hv with e | e
    · rw [e]; exact BitL_mod _
    · exact scrS_bit l r _ v e
theorem scrS_length (l : List Int) : ∀ b x, (scrS l x b).length = b.length
  | [], x => rfl
  | b :: r, x => by rw [scrS, List.length_cons, List.length_cons, scrS_length l r]
theorem desS_bit (l : List Int) : ∀ b x, BitL (desS l x b)
  | [], x => by intro v hv; cases hv
  | b :: r, x => by
    intro v hv
    rcases List.mem_cons.1 hv with e | e
    · rw [e]; exact BitL_mod _
    · exact desS_bit l r _ v e
theorem desS_length (l : List Int) : ∀ b x, (desS l x b).length = b.length
  | [], x => rfl
  | b :: r, x => by rw [desS, List.length_cons, List.length_cons, desS_length l r]
theorem keyS_bit (l : List Int) : ∀ n x, BitL (keyS l x n)
  | 0, x => by intro v hv; cases hv
  | n + 1, x => by
    intro v hv
    rcases List.mem_cons.1 hv with e | e
    · rw [e]; exact sumM_bit _ _
    · exact keyS_bit l n _ v e
theorem keyS_length (l : List Int) : ∀ n x, (keyS l x n).length = n
  | 0, x => rfl
  | n + 1, x => by rw [keyS, List.length_cons, keyS_length l n]
theorem BitL_tail {b : Int} {r : List Int} (h : BitL (b :: r)) : (b = 0 ∨ b = 1) ∧ BitL r := ⟨h b List.mem_cons_self, fun v hv => h v (List.mem_cons_of_mem _ hv)⟩
theorem desS_scrS (l : List Int) : ∀ b x, BitL b → desS l x (scrS l x b) = b
  | [], x, h => rfl
  | b :: r, x, h => by
    rw [scrS, desS, desS_scrS l r _ (BitL_tail h).2]
    congr 1
    have := (BitL_tail h).1
    omega
theorem addS_addS : ∀ a b : List Int, BitL a → a.length = b.length → addS (addS a b) b = a
  | [], b, h, hl => by simp [addS]
  | a :: r, [], h, hl => by simp at hl
  | a :: r, b :: q, h, hl => by
    have e := addS_addS r q (BitL_tail h).2 (by simpa using hl)
    unfold addS at e ⊢
    rw [List.zipWith_cons_cons, List.zipWith_cons_cons, e]
    congr 1
    have := (BitL_tail h).1
    omega
theorem addS_length (a b : List Int) (h : a.length = b.length) : (addS a b).length = a.length := by simp [addS, h]
theorem addS_bit (a b : List Int) : BitL (addS a b) := by
  intro v hv
  unfold addS at hv
  obtain ⟨n, hn, e⟩ := List.getElem_of_mem hv
  rw [← e, List.getElem_zipWith]
  exact BitL_mod _
theorem desS_append (l : List Int) : ∀ a b x, desS l x (a ++ b) = desS l x a ++ desS l (x ++ a) b
  | [], b, x => by simp [desS]
  | c :: r, b, x => by
    rw [List.cons_append, desS, desS, List.cons_append, desS_append l r b, List.append_assoc, List.singleton_append]
theorem rd_app (x z : List Int) (t : Int) (h1 : 1 ≤ t) (h2 : t ≤ z.length) : rd (x ++ z) (((x ++ z).length : Int) - t) = rd z ((z.length : Int) - t) := by
  unfold rd
  have e : (((x ++ z).length : Int) - t).toNat = x.length + ((z.length : Int) - t).toNat := by rw [List.length_append]; omega
  rw [e, List.getD_eq_getElem?_getD, List.getD_eq_getElem?_getD, List.getElem?_append_right (by omega), Nat.add_sub_cancel_left]
theorem sumT_app (x z : List Int) : ∀ l : List Int, (∀ t ∈ l, 1 ≤ t ∧ t ≤ z.length) → sumT l (x ++ z) = sumT l z
  | [], h => rfl
  | t :: r, h => by
    have ht := h t List.mem_cons_self
    rw [sumT, sumT, sumT_app x z r (fun q hq => h q (List.mem_cons_of_mem _ hq)), rd_app x z t ht.1 ht.2]
theorem desS_tail (l x : List Int) : ∀ (r z : List Int), (∀ t ∈ l, 1 ≤ t ∧ t ≤ z.length) → desS l (x ++ z) r = desS l z r
  | [], z, h => rfl
  | c :: r, z, h => by
    rw [desS, desS, sumM, sumM, sumT_app x z l h, List.append_assoc, desS_tail l x r (z ++ [c]) (fun t ht => by have := h t ht; rw [List.length_append]; simp; omega)]
theorem taps_mem {l : List Int} {s : ByteArray} (h : ScrOk l s) : ∀ t ∈ l, 1 ≤ t ∧ t ≤ s.size := by
  intro t ht
  obtain ⟨n, hn, rfl⟩ := List.getElem_of_mem ht
  have := tap_le h n (by omega) (by omega)
  have e : rd l n = l[n] := by unfold rd; rw [Int.toNat_natCast, List.getD_eq_getElem?_getD, List.getElem?_eq_getElem hn]; rfl
  rw [e] at this
  exact this
theorem rd_nat (l : List Int) (n : Nat) (h : n < l.length) : rd l n = l[n] := by
  unfold rd; rw [Int.toNat_natCast, List.getD_eq_getElem?_getD, List.getElem?_eq_getElem h]; rfl
theorem bt_up (b : List Int) (hb : BitL b) (i : Nat) (h : i < b.length) : bt (strOfNums (up b)) i = 48 + rd b i := by
  have h1 := rd_up b i (by omega) (by omega)
  have h2 := rd_bit hb i (by omega) (by omega)
  rw [bt_sn (up b) i (by omega) (by rw [up_length]; omega) (by rw [h1]; omega), h1]
theorem sz_up (b : List Int) : (strOfNums (up b)).size = b.length := by rw [sn_size, up_length]
theorem scr_loopM {l : List Int} {s : ByteArray} (h : ScrOk l s) (b : List Int) (hb : BitL b) (hbl : b.length ≤ 400) (d : Nat) : ∀ (x : List Int) (i : Nat), i + d = b.length → BitL x → x.length = s.size + i →
    Ev (fun k => impl_SelfScramble.l0 k (strOfNums (up b)) (up x) (b.length : Int) i l s) (strOfNums (up (x.drop s.size ++ scrS l x (b.drop i))), true) := by
  have h16 := h.small
  induction d with
  | zero =>
    intro x i hd hx hl
    refine Ev_succ ?_
    have q1 : ¬ (i : Int) < (b.length : Int) := by omega
    have q2 : (s.size : Int) ≤ (x.length : Int) := by omega
    have q3 : (0 : Int) ≤ s.size := by omega
    rw [List.drop_of_length_le (show b.length ≤ i by omega), scrS, List.append_nil]
    simp only [impl_SelfScramble.l0, if_neg q1, up_length, if_pos q3, if_pos q2, Int.toNat_natCast, up_drop]
    exact Ev.now _
  | succ d ih =>
    intro x i hd hx hl
    have q0 : (i : Int) < (b.length : Int) := by omega
    have q1 : (0 : Int) ≤ i := by omega
    have q2 : (i : Int) < ((strOfNums (up b)).size : Int) := by rw [sz_up]; exact q0
    have q3 : (up x).length < 140737488355328 := by rw [up_length]; omega
    have b2 : -9223372036854775808 ≤ ((i + 1 : Nat) : Int) ∧ ((i + 1 : Nat) : Int) ≤ 9223372036854775807 := by omega
    have b3 : (i : Int) + 1 = ((i + 1 : Nat) : Int) := by omega
    have hs := sum_evM h x hx (by omega) (by omega)
    have hbi := rd_bit hb i q1 q0
    obtain ⟨c, hc⟩ : ∃ c, c = (rd b i + sumM l x) % 2 := ⟨_, rfl⟩
    have hcb : c = 0 ∨ c = 1 := by rw [hc]; exact BitL_mod _
    have hE := ih (x ++ [c]) (i + 1) (by omega) (BitL_append hx (BitL_one hcb)) (by simp; omega)
    have e2 : (x ++ [c]).drop s.size = x.drop s.size ++ [c] := List.drop_append_of_le_length (by omega)
    have e3 : x.drop s.size ++ scrS l x (b.drop i) = (x ++ [c]).drop s.size ++ scrS l (x ++ [c]) (b.drop (i + 1)) := by
      rw [drop_rd b i (by omega), scrS, ← hc, e2, List.append_assoc]; rfl
    rw [← e3, up_append] at hE
    have e4 : Go.bits .xor .u8 (48 + rd b i) (sumM l x) = 48 + c := by rw [xor_up hbi (sumM_bit l x), xor_mod hbi (sumM_bit l x), hc]
    have e5 : up [c] = [48 + c] := rfl
    rw [e5] at hE
    refine Ev_succ ?_
    simp only [impl_SelfScramble.l0, if_pos q0, if_pos q1, if_pos q2]
    refine Ev.bind hs ?_
    simp only [if_pos q3, bt_up b hb i (by omega), e4, b3, w64 b2.1 b2.2]
    exact hE
theorem des_loopM {l : List Int} {s : ByteArray} (h : ScrOk l s) (b : List Int) (hb : BitL b) (hbl : b.length ≤ 400) (d : Nat) : ∀ (x y : List Int) (i : Nat), i + d = b.length → BitL x → x.length = s.size + i → y.length = i →
    Ev (fun k => impl_SelfDescramble.l0 k (strOfNums (up b)) (up x) (up y) (b.length : Int) i l s) (strOfNums (up (y ++ desS l x (b.drop i))), true) := by
  have h16 := h.small
  induction d with
  | zero =>
    intro x y i hd hx hl hyl
    refine Ev_succ ?_
    have q1 : ¬ (i : Int) < (b.length : Int) := by omega
    rw [List.drop_of_length_le (show b.length ≤ i by omega), desS, List.append_nil]
    simp only [impl_SelfDescramble.l0, if_neg q1]
    exact Ev.now _
  | succ d ih =>
    intro x y i hd hx hl hyl
    have q0 : (i : Int) < (b.length : Int) := by omega
    have q1 : (0 : Int) ≤ i := by omega
    have q2 : (i : Int) < ((strOfNums (up b)).size : Int) := by rw [sz_up]; exact q0
    have q3 : (up x).length < 140737488355328 := by rw [up_length]; omega
    have q4 : (up y).length < 140737488355328 := by rw [up_length]; omega
    have b2 : -9223372036854775808 ≤ ((i + 1 : Nat) : Int) ∧ ((i + 1 : Nat) : Int) ≤ 9223372036854775807 := by omega
    have b3 : (i : Int) + 1 = ((i + 1 : Nat) : Int) := by omega
    have hs := sum_evM h x hx (by omega) (by omega)
    have hbi := rd_bit hb i q1 q0
    obtain ⟨c, hc⟩ : ∃ c, c = (rd b i + sumM l x) % 2 := ⟨_, rfl⟩
    have hE := ih (x ++ [rd b i]) (y ++ [c]) (i + 1) (by omega) (BitL_append hx (BitL_one hbi)) (by simp; omega) (by simp; omega)
    have e3 : y ++ desS l x (b.drop i) = y ++ [c] ++ desS l (x ++ [rd b i]) (b.drop (i + 1)) := by
      rw [drop_rd b i (by omega), desS, ← hc, List.append_assoc]; rfl
    rw [← e3, up_append, up_append] at hE
    have e4 : Go.bits .xor .u8 (48 + rd b i) (sumM l x) = 48 + c := by rw [xor_up hbi (sumM_bit l x), xor_mod hbi (sumM_bit l x), hc]
    have e5 : up [c] = [48 + c] := rfl
    have e6 : up [rd b i] = [48 + rd b i] := rfl
    rw [e5, e6] at hE
    refine Ev_succ ?_
    simp only [impl_SelfDescramble.l0, if_pos q0, if_pos q1, if_pos q2]
    refine Ev.bind hs ?_
    simp only [if_pos q3, if_pos q4, bt_up b hb i (by omega), e4, b3, w64 b2.1 b2.2]
    exact hE
theorem xor_up8 {a b : Int} (ha : a = 0 ∨ a = 1) (hb : b = 0 ∨ b = 1) : (if UInt8.ofNat (48 + a).toNat = UInt8.ofNat (48 + b).toNat then (48 : UInt8) else 49) = UInt8.ofNat (48 + (a + b) % 2).toNat := by
  rcases ha with rfl | rfl <;> rcases hb with rfl | rfl <;> decide
theorem xorL_up : ∀ a b : List Int, BitL a → BitL b → xorL (strOfNums (up a)).data.toList (strOfNums (up b)).data.toList = (strOfNums (up (addS a b))).data.toList
  | [], b, h, g => by simp [xorL, strOfNums, up, addS]
  | a :: r, [], h, g => by simp [xorL, strOfNums, up, addS]
  | a :: r, b :: q, h, g => by
    have e := xorL_up r q (BitL_tail h).2 (BitL_tail g).2
    have e1 : ∀ (v : Int) (z : List Int), (strOfNums (up (v :: z))).data.toList = UInt8.ofNat (48 + v).toNat :: (strOfNums (up z)).data.toList := fun v z => by simp [strOfNums, up]
    rw [e1, e1, show addS (a :: r) (b :: q) = (a + b) % 2 :: addS r q from rfl, e1]
    unfold xorL at e ⊢
    rw [List.zipWith_cons_cons, e, xor_up8 (BitL_tail h).1 (BitL_tail g).1]
theorem xorBits_eq (a b : List Int) (ha : BitL a) (hb : BitL b) (hl : a.length = b.length) (h4 : a.length ≤ 400) : impl_xorBits.f (strOfNums (up a)) (strOfNums (up b)) = some (strOfNums (up (addS a b))) := by
  unfold impl_xorBits.f
  rw [if_pos ⟨by rw [sz_up, sz_up]; omega, by rw [sz_up]; omega⟩, xorL_up a b ha hb]
theorem isBits_up (b : List Int) (hb : BitL b) (hbl : b.length ≤ 400) : impl_IsBits.f (strOfNums (up b)) = some true := by
  obtain ⟨c, hc, hd⟩ := isBits_ev (strOfNums (up b)) (by rw [sz_up]; omega)
  have : c = true := hd.2 ⟨AllBit_up b hb, by rw [sz_up]; omega⟩
  rw [hc, this]
theorem valid_ok {l : List Int} {s : ByteArray} (h : ScrOk l s) : Ev (fun k => impl_ValidScrambler.f k l s) true := by
  have h16 := h.small
  have := h.1.2.1
  obtain ⟨b, hb, hi⟩ := validScr_ev l s (by omega) (by omega)
  rw [hi.2 h] at hb
  exact hb
def hist (s : ByteArray) : List Int := revB s s.size
theorem hist_ok {l : List Int} {s : ByteArray} (h : ScrOk l s) : BitL (hist s) ∧ (hist s).length = s.size := ⟨revB_bit s h.2.1 _ (Nat.le_refl _), revB_length s _⟩
theorem hist_drop {l : List Int} {s : ByteArray} (h : ScrOk l s) : (hist s).drop s.size = [] := List.drop_of_length_le (by rw [(hist_ok h).2]; exact Nat.le_refl _)
theorem scramble_ev {l : List Int} {s : ByteArray} (h : ScrOk l s) (b : List Int) (hb : BitL b) (hbl : b.length ≤ 400) : Ev (fun k => impl_SelfScramble.f k l s (strOfNums (up b))) (strOfNums (up (scrS l (hist s) b)), true) := by
  have h16 := h.small
  have hE := scr_loopM h b hb hbl b.length (hist s) 0 (by omega) (hist_ok h).1 (by rw [(hist_ok h).2]; rfl)
  rw [hist_drop h, List.nil_append, List.drop_zero] at hE
  simp only [impl_SelfScramble.f, isBits_up b hb hbl, Option.bind_some]
  refine Ev.bind (valid_ok h) ?_
  simp only [if_true, Bool.not_true]
  refine Ev_succ ?_
  simp only [impl_SelfScramble.j0, Bool.false_eq_true, if_false, history_eq s (by omega) l, Option.bind_some, sz_up]
  exact hE
theorem descramble_ev {l : List Int} {s : ByteArray} (h : ScrOk l s) (b : List Int) (hb : BitL b) (hbl : b.length ≤ 400) : Ev (fun k => impl_SelfDescramble.f k l s (strOfNums (up b))) (strOfNums (up (desS l (hist s) b)), true) := by
  have h16 := h.small
  have hE := des_loopM h b hb hbl b.length (hist s) [] 0 (by omega) (hist_ok h).1 (by rw [(hist_ok h).2]; rfl) rfl
  rw [List.nil_append, List.drop_zero] at hE
  simp only [impl_SelfDescramble.f, isBits_up b hb hbl, Option.bind_some]
  refine Ev.bind (valid_ok h) ?_
  simp only [if_true, Bool.not_true]
  refine Ev_succ ?_
  simp only [impl_SelfDescramble.j0, Bool.false_eq_true, if_false, history_eq s (by omega) l, Option.bind_some, sz_up]
  exact hE

def putL : List Int → Int → List Int
  | [], n => [n]
  | v :: r, n => if v ≥ n then (if v > n then n :: v :: r else v :: r) else v :: putL r n
theorem put_loop (x : List Int) (n : Int) (hx : x.length ≤ 1000) (d : Nat) : ∀ (o : List Int) (i : Nat), i + d = x.length → o.length ≤ i + 1 →
    Ev (fun k => spec_l00Put.l0 k x n o true i) (o ++ x.drop i) ∧ (o.length ≤ i → Ev (fun k => spec_l00Put.l0 k x n o false i) (o ++ putL (x.drop i) n)) := by
  induction d with
  | zero =>
    intro o i hd ho
    have q : ¬ (i : Int) < (x.length : Int) := by omega
    have lt : o.length < 17592186044416 := by omega
    rw [List.drop_of_length_le (by omega)]
    refine ⟨Ev_succ ?_, fun _ => Ev_succ ?_⟩
    · simp only [spec_l00Put.l0, if_neg q, if_true, List.append_nil]; exact Ev.now _
    · simp only [spec_l00Put.l0, if_neg q, Bool.false_eq_true, if_false, if_pos lt, putL]; exact Ev.now _
  | succ d ih =>
    intro o i hd ho
    have q : (i : Int) < (x.length : Int) := by omega
    have q0 : (0 : Int) ≤ i := by omega
    have lt : o.length < 17592186044416 := by omega
    have lt2 : (o ++ [n]).length < 17592186044416 := by simp; omega
    have b2 : -9223372036854775808 ≤ ((i + 1 : Nat) : Int) ∧ ((i + 1 : Nat) : Int) ≤ 9223372036854775807 := by omega
    have b3 : (i : Int) + 1 = ((i + 1 : Nat) : Int) := by omega
    rw [drop_rd x i (by omega)]
    have hT := ih (o ++ [rd x i]) (i + 1) (by omega) (by simp; omega)
    have hTT := hT.1
    rw [List.append_assoc] at hTT
    refine ⟨Ev_succ ?_, fun ho' => Ev_succ ?_⟩
    · simp only [spec_l00Put.l0, if_pos q, if_true]
      refine Ev_succ ?_
      simp only [spec_l00Put.j1, Bool.false_eq_true, if_false, if_pos q, if_pos q0, if_pos lt, b3, w64 b2.1 b2.2]
      exact hTT
    · simp only [spec_l00Put.l0, if_pos q, if_pos q0, Bool.false_eq_true, if_false]
      by_cases g : rd x i ≥ n
      · simp only [putL, if_pos g, decide_eq_true g]
        by_cases g2 : rd x i > n
        · have hN := (ih (o ++ [n] ++ [rd x i]) (i + 1) (by omega) (by simp; omega)).1
          simp only [if_pos g2]
          rw [List.append_assoc, List.append_assoc] at hN
          refine Ev_succ ?_
          simp only [spec_l00Put.j1, if_true, if_pos q, if_pos q0, if_pos g2, if_pos lt, Option.bind_some, if_pos lt2, b3, w64 b2.1 b2.2]
          simpa using hN
        · simp only [if_neg g2]
          refine Ev_succ ?_
          simp only [spec_l00Put.j1, if_true, if_pos q, if_pos q0, if_neg g2, if_pos lt, b3, w64 b2.1 b2.2]
          exact hTT
      · simp only [putL, if_neg g, decide_eq_false g]
        have hF := hT.2 (by simp; omega)
        rw [List.append_assoc] at hF
        refine Ev_succ ?_
        simp only [spec_l00Put.j1, Bool.false_eq_true, if_false, if_pos q, if_pos q0, if_pos lt, b3, w64 b2.1 b2.2]
        exact hF
theorem put_ev (x : List Int) (n : Int) (hx : x.length ≤ 1000) : Ev (fun k => spec_l00Put.f k x n) (putL x n) := by
  have h := (put_loop x n hx x.length [] 0 (by omega) (by simp)).2 (by simp)
  rw [List.drop_zero, List.nil_append] at h
  exact h
theorem putL_length : ∀ (x : List Int) (n : Int), 1 ≤ (putL x n).length ∧ (putL x n).length ≤ x.length + 1
  | [], n => by simp [putL]
  | v :: r, n => by
    have := putL_length r n
    simp only [putL]; split
    · split <;> simp
    · simp; omega
theorem putL_mem : ∀ (x : List Int) (n v : Int), v ∈ putL x n → v ∈ x ∨ v = n
  | [], n, v, h => by right; simpa [putL] using h
  | w :: r, n, v, h => by
    simp only [putL] at h
    split at h
    · split at h
      · rcases List.mem_cons.1 h with e | e
        · exact .inr e
        · exact .inl e
      · exact .inl h
    · rcases List.mem_cons.1 h with e | e
      · exact .inl (by rw [e]; exact List.mem_cons_self)
      · rcases putL_mem r n v e with g | g
        · exact .inl (List.mem_cons_of_mem _ g)
        · exact .inr g
theorem putL_sorted : ∀ (x : List Int) (n : Int), x.Pairwise (· < ·) → (putL x n).Pairwise (· < ·)
  | [], n, h => by simp [putL]
  | w :: r, n, h => by
    obtain ⟨h1, h2⟩ := List.pairwise_cons.1 h
    simp only [putL]
    split
    · split
      · refine List.pairwise_cons.2 ⟨fun v hv => ?_, h⟩
        rcases List.mem_cons.1 hv with e | e
        · omega
        · have := h1 v e; omega
      · exact h
    · refine List.pairwise_cons.2 ⟨fun v hv => ?_, putL_sorted r n h2⟩
      rcases putL_mem r n v hv with e | e
      · exact h1 v e
      · omega
theorem rises_of (l : List Int) (h : l.Pairwise (· < ·)) (lo hi : Int) (hb : ∀ v ∈ l, lo ≤ v ∧ v ≤ hi) : RisesIn l lo hi := by
  intro i h0 h1
  obtain ⟨n, rfl⟩ : ∃ n : Nat, i = n := ⟨i.toNat, by omega⟩
  have hn : n < l.length := by omega
  rw [rd_nat l n hn]
  refine ⟨hb _ (List.getElem_mem _), fun z => ?_⟩
  rw [show (n : Int) - 1 = ((n - 1 : Nat) : Int) by omega, rd_nat l (n - 1) (by omega)]
  exact List.pairwise_iff_getElem.1 h (n - 1) n (by omega) hn (by omega)
theorem r8Scr_bits (l : List Int) (hu : U8L l) (hl : l.length ≤ 1000000) (T : List Int) (q : ByteArray) (d : Nat) : ∀ (x : List Int) (a s : Int), BitL x → x.length + d ≤ 1000 → 0 ≤ a → a + 4 * d ≤ 100000000 →
    ∃ y, BitL y ∧ y.length = x.length + d ∧ Ev (fun k => spec_R8Scrambler.l1 k x d l a s T q) (T, strOfNums (up y)) := by
  induction d with
  | zero =>
    intro x a s hx hxl h0 h1
    refine ⟨x, hx, rfl, Ev_succ ?_⟩
    simp only [spec_R8Scrambler.l1, if_neg (show ¬ ((0 : Nat) : Int) > 0 by omega)]
    exact Ev.bind (text_ev x hx (by omega)) (Ev.now _)
  | succ d ih =>
    intro x a s hx hxl h0 h1
    obtain ⟨v, a1, s1, e1, hv0, hv1, ha1, ha2⟩ := pick_ev l hu hl 2 a s h0 (by omega)
    have hv1 := hv1 (by omega)
    obtain ⟨y, hy, hyl, hE⟩ := ih (x ++ [v]) a1 s1 (BitL_append hx (BitL_one (by omega))) (by simp; omega) (by omega) (by omega)
    have d1 : ((d + 1 : Nat) : Int) > 0 := by omega
    have lt : x.length < 140737488355328 := by omega
    have b2 : -9223372036854775808 ≤ (d : Int) ∧ (d : Int) ≤ 9223372036854775807 := by omega
    have b3 : ((d + 1 : Nat) : Int) - 1 = d := by omega
    have b4 : v % 256 = v := by omega
    refine ⟨y, hy, by rw [hyl]; simp; omega, Ev_succ ?_⟩
    simp only [spec_R8Scrambler.l1, if_pos d1, e1, Option.bind_some, if_pos lt, b3, w64 b2.1 b2.2, b4]
    exact hE
def TapsR (T : List Int) : Prop := T.Pairwise (· < ·) ∧ ∀ v ∈ T, 1 ≤ v ∧ v ≤ 7
theorem r8Scr_taps (l : List Int) (hu : U8L l) (hl : l.length ≤ 1000000) (q : ByteArray) (d : Nat) : ∀ (T : List Int) (a s : Int), TapsR T → 1 ≤ T.length + d → T.length + d ≤ 3 → 0 ≤ a → a + 4 * d ≤ 10000 →
    ∃ T' s', ScrOk T' s' ∧ s'.size ≤ 7 ∧ TapsR T' ∧ T'.length ≤ 3 ∧ Ev (fun k => spec_R8Scrambler.l0 k d l a s T q) (T', s') := by
  induction d with
  | zero =>
    intro T a s hT h1 h3 h0 h4
    have hT1 : (T.length : Int) - 1 = ((T.length - 1 : Nat) : Int) := by omega
    have hlast := rd_nat T (T.length - 1) (by omega)
    have hW := hT.2 _ (List.getElem_mem (l := T) (n := T.length - 1) (by omega))
    rw [← hlast, ← hT1] at hW
    obtain ⟨W, hWe⟩ : ∃ W : Nat, rd T ((T.length : Int) - 1) = W := ⟨(rd T ((T.length : Int) - 1)).toNat, by omega⟩
    rw [hWe] at hW
    obtain ⟨y, hy, hyl, hE⟩ := r8Scr_bits l hu hl T q W [] a s (by intro v hv; cases hv) (by simp; omega) h0 (by omega)
    have hyl : y.length = W := by simpa using hyl
    have b1 : -9223372036854775808 ≤ (T.length : Int) - 1 ∧ (T.length : Int) - 1 ≤ 9223372036854775807 := by omega
    have b2 : 0 ≤ (T.length : Int) - 1 := by omega
    have b3 : (T.length : Int) - 1 < (T.length : Int) := by omega
    refine ⟨T, strOfNums (up y), ⟨⟨by omega, by omega, rises_of T hT.1 1 16 (fun v hv => by have := hT.2 v hv; omega)⟩, AllBit_up y hy, by rw [sz_up, hWe, hyl]⟩, by rw [sz_up]; omega, hT, by omega, Ev_succ ?_⟩
    simp only [spec_R8Scrambler.l0, if_neg (show ¬ ((0 : Nat) : Int) > 0 by omega), w64 b1.1 b1.2, if_pos b2, if_pos b3, hWe]
    exact hE
  | succ d ih =>
    intro T a s hT h1 h3 h0 h4
    obtain ⟨v, a1, s1, e1, hv0, hv1, ha1, ha2⟩ := pick_ev l hu hl 7 a s h0 (by omega)
    have hv1 := hv1 (by omega)
    have hp := put_ev T (1 + v) (by omega)
    have hpl := putL_length T (1 + v)
    obtain ⟨T', s', hA, hB, hC, hD, hE⟩ := ih (putL T (1 + v)) a1 s1 ⟨putL_sorted T _ hT.1, fun w hw => by
      rcases putL_mem T _ w hw with e | e
      · exact hT.2 w e
      · omega⟩ (by omega) (by omega) (by omega) (by omega)
    have d1 : ((d + 1 : Nat) : Int) > 0 := by omega
    have b1 : -9223372036854775808 ≤ 1 + v ∧ 1 + v ≤ 9223372036854775807 := by omega
    have b2 : -9223372036854775808 ≤ (d : Int) ∧ (d : Int) ≤ 9223372036854775807 := by omega
    have b3 : ((d + 1 : Nat) : Int) - 1 = d := by omega
    refine ⟨T', s', hA, hB, hC, hD, Ev_succ ?_⟩
    simp only [spec_R8Scrambler.l0, if_pos d1, e1, Option.bind_some, w64 b1.1 b1.2]
    refine Ev.bind hp ?_
    simp only [b3, w64 b2.1 b2.2]
    exact hE
theorem r8Scr_ev (l : List Int) (hu : U8L l) (hl : l.length ≤ 1000000) : ∃ T s, ScrOk T s ∧ s.size ≤ 7 ∧ TapsR T ∧ T.length ≤ 3 ∧ Ev (fun k => spec_R8Scrambler.f k l) (T, s) := by
  obtain ⟨v, a1, s1, e1, hv0, hv1, ha1, ha2⟩ := pick_ev l hu hl 3 0 0 (by omega) (by omega)
  have hv1 := hv1 (by omega)
  obtain ⟨d, hd⟩ : ∃ d : Nat, 1 + v = d := ⟨(1 + v).toNat, by omega⟩
  obtain ⟨T', s', hA, hB, hC, hD, hE⟩ := r8Scr_taps l hu hl (⟨#[]⟩ : ByteArray) d [] a1 s1 ⟨List.Pairwise.nil, by intro v hv; cases hv⟩ (by simp; omega) (by simp; omega) (by omega) (by omega)
  have b2 : -9223372036854775808 ≤ (d : Int) ∧ (d : Int) ≤ 9223372036854775807 := by omega
  refine ⟨T', s', hA, hB, hC, hD, ?_⟩
  simp only [spec_R8Scrambler.f, spec_l00From.f, Option.bind_some, e1, hd, w64 b2.1 b2.2]
  exact hE
theorem r8At_ev (l : List Int) (hu : U8L l) (i n : Int) (h0 : 0 ≤ i) (hn : 1 ≤ n) : ∃ v, laws_r8At.f l i n = some v ∧ 0 ≤ v ∧ v < n := by
  have hr := u8_rd hu i
  have ht := tmod_range (rd l i) n hr.1 hn
  have hn0 : ¬ n = 0 := by omega
  simp only [laws_r8At.f]
  by_cases c : n ≤ 1
  · rw [if_pos c]; exact ⟨0, rfl, by omega, by omega⟩
  rw [if_neg c]
  by_cases c1 : i ≥ (l.length : Int)
  · rw [if_pos c1]; exact ⟨0, rfl, by omega, by omega⟩
  have c2 : i < (l.length : Int) := by omega
  rw [if_neg c1, if_pos h0, if_pos c2, if_neg hn0, w64 (Int.le_trans (by decide) hr.1) (Int.le_trans hr.2 (by decide))]
  exact ⟨_, rfl, ht⟩
theorem r8Bits_up (l : List Int) (hu : U8L l) (hl : l.length ≤ 1000000) (n : Nat) (hn : n ≤ 1000) : ∃ b, BitL b ∧ b.length ≤ n ∧ Ev (fun k => spec_R8Bits.f k l n) (strOfNums (up b)) := by
  obtain ⟨y, hy, hyl, hE⟩ := r8Bits_ev l hu hl n hn
  have e : up (y.map (fun v => v - 48)) = y := by
    unfold up
    rw [List.map_map]
    conv => rhs; rw [← List.map_id y]
    apply List.map_congr_left
    intro v hv
    show 48 + (v - 48) = v
    omega
  refine ⟨y.map (fun v => v - 48), ?_, by simpa using hyl, by rw [e]; exact hE⟩
  intro v hv
  obtain ⟨w, hw, rfl⟩ := List.mem_map.1 hv
  rcases hy w hw with g | g <;> rw [g]
  · exact .inl rfl
  · exact .inr rfl
theorem r8Long_big (l0 l1 : List Int) (g : (l0.length : Int) > 48 ∨ (l1.length : Int) > 48) : laws_r8Long.f l0 l1 = some true := by
  simp only [laws_r8Long.f]
  by_cases g0 : (l0.length : Int) > 48
  · rw [if_pos g0]
  · rw [if_neg g0]; rcases g with g | g
    · exact absurd g g0
    · rw [decide_eq_true g]
theorem r8Long_small (l0 l1 : List Int) (g : ¬ ((l0.length : Int) > 48 ∨ (l1.length : Int) > 48)) : laws_r8Long.f l0 l1 = some false := by
  simp only [laws_r8Long.f]
  rw [if_neg (fun z => g (.inl z)), decide_eq_false (fun z => g (.inr z))]

theorem rd_addS (x y : List Int) (h : x.length = y.length) (i : Int) : rd (addS x y) i = (rd x i + rd y i) % 2 := by
  unfold rd addS
  rw [List.getD_eq_getElem?_getD, List.getD_eq_getElem?_getD, List.getD_eq_getElem?_getD, List.getElem?_zipWith]
  by_cases c : i.toNat < x.length
  · rw [List.getElem?_eq_getElem c, List.getElem?_eq_getElem (show i.toNat < y.length by omega)]; rfl
  · rw [List.getElem?_eq_none (by omega), List.getElem?_eq_none (by omega)]; rfl
theorem sumT_addS (x y : List Int) (h : x.length = y.length) : ∀ l : List Int, sumT l (addS x y) % 2 = (sumT l x + sumT l y) % 2
  | [] => rfl
  | t :: r => by
    have := sumT_addS x y h r
    have hl := addS_length x y h
    rw [sumT, sumT, sumT, rd_addS x y h, hl, ← h]
    omega
theorem addS_snoc (x y : List Int) (h : x.length = y.length) (c e : Int) : addS (x ++ [c]) (y ++ [e]) = addS x y ++ [(c + e) % 2] := by
  unfold addS
  rw [List.zipWith_append h]; rfl
theorem addS_cons (a b : Int) (r q : List Int) : addS (a :: r) (b :: q) = (a + b) % 2 :: addS r q := rfl
theorem desS_lin (l : List Int) : ∀ (c e x y : List Int), c.length = e.length → x.length = y.length → desS l (addS x y) (addS c e) = addS (desS l x c) (desS l y e)
  | [], [], x, y, h, g => rfl
  | c :: r, e :: q, x, y, h, g => by
    have ih := desS_lin l r q (x ++ [c]) (y ++ [e]) (by simpa using h) (by simp [g])
    rw [addS_snoc x y g] at ih
    rw [addS_cons, desS, ih, desS, desS, addS_cons]
    congr 1
    have := sumT_addS x y g l
    unfold sumM
    omega
theorem addS_zero : ∀ (x : List Int) (n : Nat), BitL x → x.length = n → addS x (List.replicate n 0) = x
  | [], 0, h, g => rfl
  | v :: r, n + 1, h, g => by
    rw [List.replicate_succ, addS_cons, addS_zero r n (BitL_tail h).2 (by simpa using g)]
    congr 1
    have := (BitL_tail h).1
    omega
theorem addS_back : ∀ b t : List Int, BitL t → b.length = t.length → addS (addS b t) b = t
  | [], [], h, g => rfl
  | a :: r, b :: q, h, g => by
    have e := addS_back r q (BitL_tail h).2 (by simpa using g)
    rw [addS_cons, addS_cons, e]
    congr 1
    have := (BitL_tail h).1
    omega
theorem hist_zero (n : Nat) : hist (strOfNums (up (List.replicate n 0))) = List.replicate n 0 := by
  have key : ∀ m, m ≤ n → revB (strOfNums (up (List.replicate n 0))) m = List.replicate m 0 := by
    intro m
    induction m with
    | zero => intro _; rfl
    | succ m ih =>
      intro hm
      rw [revB, ih (by omega), List.replicate_succ, bt_up _ (BitL_zeros n) m (by simp; omega), rd_nat _ m (by simp; omega)]
      simp
  unfold hist
  rw [sz_up, List.length_replicate]
  exact key n (Nat.le_refl _)
theorem xorFn_eq (a b : List Int) (ha : BitL a) (hb : BitL b) (hl : a.length = b.length) (h4 : a.length ≤ 400) : impl_XorBits.f (strOfNums (up a)) (strOfNums (up b)) = some (strOfNums (up (addS a b)), true) := by
  have e : (a.length : Int) = (b.length : Int) := by omega
  simp only [impl_XorBits.f, isBits_up a ha h4, isBits_up b hb (by omega), Option.bind_some, if_true, sz_up, if_pos e, xorBits_eq a b ha hb hl h4]
theorem errsM {l : List Int} {s : ByteArray} (h : ScrOk l s) (e : List Int) (he : BitL e) (hel : e.length ≤ 400) : Ev (fun k => impl_ErrorsBehind.f k l s (strOfNums (up e))) (strOfNums (up (desS l (List.replicate s.size 0) e)), true) := by
  have h16 := h.small
  have hz : ScrOk l (strOfNums (up (List.replicate s.size 0))) := ⟨h.1, AllBit_up _ (BitL_zeros _), by rw [zeros_size]; exact h.2.2⟩
  have hD := descramble_ev hz e he hel
  rw [hist_zero] at hD
  simp only [impl_ErrorsBehind.f]
  refine Ev.bind (valid_ok h) ?_
  simp only [if_true, repeat_zeros s.size (by omega), Option.bind_some]
  exact Ev.bind hD (Ev.now _)
def cnt : List Int → Int
  | [] => 0
  | v :: r => if v = 1 then cnt r + 1 else cnt r
def E11 : List Int := [0, 0, 1, 0, 0, 0, 0, 0, 0, 0, 0]
theorem single1 : ∀ a : Fin 7, cnt (desS [(a.val : Int) + 1] (List.replicate (a.val + 1) 0) E11) = 2 := by decide +kernel
theorem single2 : ∀ a b : Fin 7, a < b → cnt (desS [(a.val : Int) + 1, (b.val : Int) + 1] (List.replicate (b.val + 1) 0) E11) = 3 := by decide +kernel
theorem single3 : ∀ a b c : Fin 7, a < b → b < c → cnt (desS [(a.val : Int) + 1, (b.val : Int) + 1, (c.val : Int) + 1] (List.replicate (c.val + 1) 0) E11) = 4 := by decide +kernel
theorem fin_of (v : Int) (h : 1 ≤ v ∧ v ≤ 7) : ∃ a : Fin 7, v = (a.val : Int) + 1 := ⟨⟨(v - 1).toNat, by omega⟩, by show v = ((v - 1).toNat : Int) + 1; omega⟩
theorem single_ok (l : List Int) (s : ByteArray) (h : ScrOk l s) (ht : TapsR l) (h3 : l.length ≤ 3) : cnt (desS l (List.replicate s.size 0) E11) = (l.length : Int) + 1 := by
  have hs := h.2.2
  have h1 := h.1.1
  match l, ht, h3, hs, h1 with
  | [a], ht, h3, hs, h1 =>
    obtain ⟨a, rfl⟩ := fin_of a (ht.2 a (by simp))
    have e : s.size = a.val + 1 := by have hs : (s.size : Int) = (a.val : Int) + 1 := hs; omega
    rw [e]; exact single1 a
  | [a, b], ht, h3, hs, h1 =>
    obtain ⟨a, rfl⟩ := fin_of a (ht.2 a (by simp))
    obtain ⟨b, rfl⟩ := fin_of b (ht.2 b (by simp))
    have q := (List.pairwise_cons.1 ht.1).1 _ List.mem_cons_self
    have e : s.size = b.val + 1 := by have hs : (s.size : Int) = (b.val : Int) + 1 := hs; omega
    rw [e]; exact single2 a b (by show a.val < b.val; omega)
  | [a, b, c], ht, h3, hs, h1 =>
    obtain ⟨a, rfl⟩ := fin_of a (ht.2 a (by simp))
    obtain ⟨b, rfl⟩ := fin_of b (ht.2 b (by simp))
    obtain ⟨c, rfl⟩ := fin_of c (ht.2 c (by simp))
    have q := (List.pairwise_cons.1 ht.1).1 _ List.mem_cons_self
    have q2 := (List.pairwise_cons.1 (List.pairwise_cons.1 ht.1).2).1 _ List.mem_cons_self
    have e : s.size = c.val + 1 := by have hs : (s.size : Int) = (c.val : Int) + 1 := hs; omega
    rw [e]; exact single3 a b c (by show a.val < b.val; omega) (by show b.val < c.val; omega)
theorem cnt_loop (z : List Int) (hz : BitL z) (hzl : z.length ≤ 400) (n : Int) (l : List Int) (hl : l.length ≤ 16) (s : ByteArray) (hn : n = (l.length : Int) + 1) (d : Nat) : ∀ (m : Int) (i : Nat), i + d = z.length → 0 ≤ m → m ≤ i → m + cnt (z.drop i) = n →
    Ev (fun k => laws_FnSpread.l1 k (strOfNums (up z)) n m i l s) true := by
  induction d with
  | zero =>
    intro m i hd h0 h1 hm
    have q : ¬ (i : Int) < (z.length : Int) := by omega
    rw [List.drop_of_length_le (by omega), cnt] at hm
    have e : m = (l.length : Int) + 1 := by omega
    have b1 : -9223372036854775808 ≤ (l.length : Int) + 1 ∧ (l.length : Int) + 1 ≤ 9223372036854775807 := by omega
    refine Ev_succ ?_
    simp only [laws_FnSpread.l1, sz_up, if_neg q, hn, if_pos e, w64 b1.1 b1.2, beq_self_eq_true]
    exact Ev.now _
  | succ d ih =>
    intro m i hd h0 h1 hm
    have q : (i : Int) < (z.length : Int) := by omega
    have q0 : (0 : Int) ≤ i := by omega
    have b2 : -9223372036854775808 ≤ ((i + 1 : Nat) : Int) ∧ ((i + 1 : Nat) : Int) ≤ 9223372036854775807 := by omega
    have b3 : (i : Int) + 1 = ((i + 1 : Nat) : Int) := by omega
    have b4 : -9223372036854775808 ≤ m + 1 ∧ m + 1 ≤ 9223372036854775807 := by omega
    rw [drop_rd z i (by omega), cnt] at hm
    by_cases e : rd z i = 1
    · rw [if_pos e] at hm
      have hE := ih (m + 1) (i + 1) (by omega) (by omega) (by omega) (by omega)
      refine Ev_succ ?_
      simp only [laws_FnSpread.l1, sz_up, if_pos q, if_pos q0, bt_up z hz i (by omega), e, if_pos (show (48 : Int) + 1 = 49 by omega), b3, w64 b2.1 b2.2, w64 b4.1 b4.2]
      exact hE
    · rw [if_neg e] at hm
      have hE := ih m (i + 1) (by omega) (by omega) (by omega) (by omega)
      refine Ev_succ ?_
      simp only [laws_FnSpread.l1, sz_up, if_pos q, if_pos q0, bt_up z hz i (by omega), if_neg (show ¬ (48 : Int) + rd z i = 49 by omega), b3, w64 b2.1 b2.2]
      exact hE
theorem spread_loop {l : List Int} {s : ByteArray} (h : ScrOk l s) (ht : TapsR l) (h3 : l.length ≤ 3) (code : List Int) (hu : U8L code) (b : List Int) (hb : BitL b) (hbl : b.length ≤ 30) (d : Nat) : ∀ (e : List Int) (i : Nat), BitL e → e.length = i → i + d = b.length →
    Ev (fun k => laws_FnSpread.l0 k code (strOfNums (up b)) (strOfNums (up e)) i l s) true := by
  have h16 := h.small
  induction d with
  | zero =>
    intro e i he hel hd
    have q : ¬ (i : Int) < (b.length : Int) := by omega
    have hCl := scrS_length l b (hist s)
    have hC := scramble_ev h b hb (by omega)
    have hX := xorFn_eq (scrS l (hist s) b) e (scrS_bit l _ _) he (by omega) (by omega)
    have hbl2 := addS_length (scrS l (hist s) b) e (by omega)
    have hD := descramble_ev h (addS (scrS l (hist s) b) e) (addS_bit _ _) (by omega)
    have hlin : desS l (hist s) (addS (scrS l (hist s) b) e) = addS b (desS l (List.replicate s.size 0) e) := by
      have := desS_lin l (scrS l (hist s) b) e (hist s) (List.replicate s.size 0) (by omega) (by rw [(hist_ok h).2, List.length_replicate])
      rw [addS_zero _ _ (hist_ok h).1 (hist_ok h).2, desS_scrS l b _ hb] at this
      exact this
    rw [hlin] at hD
    have htl := desS_length l e (List.replicate s.size 0)
    have htb := desS_bit l e (List.replicate s.size 0)
    have hrl := addS_length b (desS l (List.replicate s.size 0) e) (by omega)
    have hY := xorFn_eq (addS b (desS l (List.replicate s.size 0) e)) b (addS_bit _ _) hb (by omega) (by omega)
    rw [addS_back b _ htb (by omega)] at hY
    have hE := errsM h e he (by omega)
    have hS := errsM h E11 (by intro v hv; unfold E11 at hv; simp at hv; omega) (by decide)
    have elit : (⟨#[48, 48, 49, 48, 48, 48, 48, 48, 48, 48, 48]⟩ : ByteArray) = strOfNums (up E11) := by decide
    have hL : Ev (fun k => impl_SpreadOf.f k l s) ((l.length : Int) + 1, true) := by
      simp only [impl_SpreadOf.f]
      refine Ev.bind (valid_ok h) ?_
      simp only [if_true, w64 (show -9223372036854775808 ≤ (l.length : Int) + 1 by omega) (by omega)]; exact Ev.now _
    have hcnt := single_ok l s h ht h3
    refine Ev_succ ?_
    simp only [laws_FnSpread.l0, sz_up, if_neg q, elit]
    refine Ev.bind hC ?_
    simp only [hX, Option.bind_some]
    refine Ev.bind hD ?_
    simp only [hY, Option.bind_some]
    refine Ev.bind hE (Ev.bind hS (Ev.bind hL ?_))
    simp only [if_true, bne_self_eq_false]
    refine Ev_succ ?_
    simp only [laws_FnSpread.j1, Bool.false_eq_true, if_false]
    refine cnt_loop _ (desS_bit l _ _) (by rw [desS_length]; decide) _ l (by omega) s rfl 11 0 0 (by rw [desS_length]; rfl) (by omega) (by omega) ?_
    rw [List.drop_zero, hcnt]; omega
  | succ d ih =>
    intro e i he hel hd
    obtain ⟨v, hv, hv0, hv1⟩ := r8At_ev code hu i 3 (by omega) (by omega)
    have q : (i : Int) < (b.length : Int) := by omega
    have et : Int.tdiv v 2 = v / 2 := Int.tdiv_eq_ediv_of_nonneg hv0
    have b0 : -9223372036854775808 ≤ v / 2 ∧ v / 2 ≤ 9223372036854775807 := by omega
    have b1 : -9223372036854775808 ≤ 48 + v / 2 ∧ 48 + v / 2 ≤ 9223372036854775807 := by omega
    have b2 : -9223372036854775808 ≤ ((i + 1 : Nat) : Int) ∧ ((i + 1 : Nat) : Int) ≤ 9223372036854775807 := by omega
    have b3 : (i : Int) + 1 = ((i + 1 : Nat) : Int) := by omega
    have b4 : (48 + v / 2) % 256 = 48 + v / 2 := by omega
    have hz : (strOfNums (up e)).size + (strOfNums [48 + v / 2]).size ≤ 9223372036854775807 := by
      rw [sz_up, sn_size]; show e.length + 1 ≤ _; omega
    have hE := ih (e ++ [v / 2]) (i + 1) (BitL_append he (BitL_one (by omega))) (by simp; omega) (by omega)
    rw [up_append, show up [v / 2] = [48 + v / 2] from rfl, sn_append] at hE
    refine Ev_succ ?_
    simp only [laws_FnSpread.l0, sz_up, if_pos q, hv, Option.bind_some, et, w64 b0.1 b0.2, w64 b1.1 b1.2, b4]
    rw [sz_up] at hz
    simp only [if_pos hz, b3, w64 b2.1 b2.2]
    exact hE
theorem FnSpread : laws_FnSpread.Pure := by
  intro l0 l1 h1 h2 h3 h4 h5 h6
  apply Ev.rounds
  simp only [laws_FnSpread.f]
  by_cases g : (l0.length : Int) > 48 ∨ (l1.length : Int) > 48
  · simp only [r8Long_big l0 l1 g, Option.bind_some, if_true]; exact Ev.now _
  obtain ⟨l, s, hs, hs7, htr, hl3, hscr⟩ := r8Scr_ev l0 h3 (by omega)
  obtain ⟨b, hb, hbl, hbits⟩ := r8Bits_up l1 h6 (by omega) 20 (by omega)
  have lit : (⟨#[48, 48, 48, 48, 48, 48, 48, 48]⟩ : ByteArray) = strOfNums (up (List.replicate 8 0)) := by decide
  have hz : (strOfNums (up b)).size + 8 ≤ 9223372036854775807 := by rw [sz_up]; omega
  simp only [r8Long_small l0 l1 g, Option.bind_some, Bool.false_eq_true, if_false]
  refine Ev.bind hscr (Ev.bind hbits ?_)
  simp only [if_pos hz, lit, ← sn_append, ← up_append]
  exact spread_loop hs htr hl3 l0 h3 (b ++ List.replicate 8 0) (BitL_append hb (BitL_zeros 8)) (by simp; omega) (b.length + 8) [] 0 (by intro v hv; cases hv) rfl (by simp)

end Go.Proofs.YtondkjcmibnbpaaDoor.Pure
