/- The law FnExactUnstuffBits of the given program holds: for every input that the row lets in the call returns true and leaves its arguments as they were. No condition ahead of it. -/
import Derived.Test.YtbifbbfkcbgnlaaDoorPFnExactUnstuffBitsx2
import Derived.Test.YtbifbbfkcbgnlaaDoorMine
namespace Go.Proofs.YtbifbbfkcbgnlaaDoor.Pure
open Go.RowKit Go.Proofs.YtbifbbfkcbgnlaaDoor.PFnExactUnstuffBits Go.Proofs.YtbifbbfkcbgnlaaDoorW.PrintWords Go.Proofs.YtbifbbfkcbgnlaaDoorW.PrintLast Go.Proofs.YtbifbbfkcbgnlaaDoorW.PrintMore Go.Proofs.YtbifbbfkcbgnlaaDoor.Mine
set_option linter.unusedVariables false
set_option linter.unusedSimpArgs false
theorem l00In_eq (a b c : Int) : spec_l00In.f a b c = some (decide (b ≤ a ∧ a ≤ c)) := by
  unfold spec_l00In.f; by_cases h : a ≥ b
  · rw [if_pos h]; simp; intro _; exact h
  · rw [if_neg h]; simp; intro h'; omega
theorem within_eq (a b c : Int) : impl_within.f a b c = some (decide (b ≤ a ∧ a ≤ c)) := by
  unfold impl_within.f; by_cases h : a ≥ b
  · rw [if_pos h]; simp; intro _; exact h
  · rw [if_neg h]; simp; intro h'; omega

def StOk (a b : Int) : Prop := (1 ≤ a ∧ a ≤ 10) ∧ (0 ≤ b ∧ b ≤ 1)
theorem l04Is_eq (a b : Int) : ∃ c, spec_l04Is.f a b = some c ∧ impl_ValidStuffer.f a b = some c ∧ (c = true ↔ StOk a b) := by
  simp only [spec_l04Is.f, impl_ValidStuffer.f, l00In_eq, within_eq, Option.bind_some, StOk]
  by_cases h0 : 1 ≤ a ∧ a ≤ 10
  · by_cases h1 : 0 ≤ b ∧ b ≤ 1
    · exact ⟨true, by simp [h0, h1], by simp [h0, h1], by simp [h0, h1]⟩
    · exact ⟨false, by simp [h0, h1], by simp [h0, h1], by simp [h0, h1]⟩
  · exact ⟨false, by simp [h0], by simp [h0], by simp [h0]⟩
theorem toStuffer_eq (a b : Int) : laws_toStuffer.f a b = some (a, b) := by simp [laws_toStuffer.f]

def AllBit (s : ByteArray) : Prop := ∀ i : Int, 0 ≤ i → i < s.size → bt s i = 48 ∨ bt s i = 49
def IsBitS (s : ByteArray) : Prop := AllBit s ∧ (s.size : Int) ≤ 400
theorem bt_list (s : ByteArray) (i : Nat) (h : i < s.size) : bt s i = ((s.data.toList[i]'(by simpa using h)).toNat : Int) := by
  unfold bt
  simp only [Int.toNat_natCast, h, dif_pos]
  rfl
theorem dropWhile_nil (p : UInt8 → Bool) : ∀ l : List UInt8, l.dropWhile p = [] ↔ ∀ b ∈ l, p b = true
  | [] => by simp
  | x :: l => by
    rw [List.dropWhile_cons]
    cases h : p x with
    | true => simp [h, dropWhile_nil p l]
    | false => simp [h]
theorem trim_empty (l : List UInt8) : (Lib.trimS l [48, 49]).isEmpty = true ↔ ∀ b ∈ l, b = 48 ∨ b = 49 := by
  have key : ∀ p : UInt8 → Bool, List.dropWhile p (List.dropWhile p l.reverse).reverse = [] ↔ ∀ b ∈ l, p b = true := by
    intro p
    rw [dropWhile_nil]
    constructor
    · intro h
      by_cases e : List.dropWhile p l.reverse = []
      · have := (dropWhile_nil p _).1 e
        exact fun b hb => this b (by simpa using hb)
      · have hh := List.head_dropWhile_not p e
        have h3 := h ((List.dropWhile p l.reverse).head e) (by simp)
        rw [hh] at h3
        cases h3
    · intro h b hb
      have : List.dropWhile p l.reverse = [] := (dropWhile_nil p _).2 (fun b hb => h b (by simpa using hb))
      rw [this] at hb
      simp at hb
  unfold Lib.trimS Lib.trimRightS Lib.trimLeftS
  rw [List.isEmpty_iff, key]
  simp
theorem areBits_ev (s : ByteArray) (hs : s.size ≤ 140737488351232) : ∃ b, impl_areBits.f s = some b ∧ (b = true ↔ AllBit s) := by
  refine ⟨(Lib.trimS s.data.toList [48, 49]).isEmpty, by unfold impl_areBits.f; rw [if_pos (by omega)], ?_⟩
  rw [trim_empty]
  constructor
  · intro h i h0 h1
    obtain ⟨n, rfl⟩ : ∃ n : Nat, i = n := ⟨i.toNat, by omega⟩
    rw [bt_list s n (by omega)]
    rcases h _ (List.getElem_mem (l := s.data.toList) (n := n) (by simp; omega)) with e | e <;> rw [e]
    · exact Or.inl rfl
    · exact Or.inr rfl
  · intro h b hb
    obtain ⟨n, hn, rfl⟩ := List.getElem_of_mem hb
    have hn' : n < s.size := by simpa using hn
    have := h n (by omega) (by omega)
    rw [bt_list s n hn'] at this
    rcases this with e | e
    · left; apply UInt8.toNat_inj.1; show s.data.toList[n].toNat = 48; omega
    · right; apply UInt8.toNat_inj.1; show s.data.toList[n].toNat = 49; omega
theorem isBits_ev (s : ByteArray) (hs : s.size ≤ 140737488351232) : ∃ b, impl_IsBits.f s = some b ∧ (b = true ↔ IsBitS s) := by
  obtain ⟨b, hb, hi⟩ := areBits_ev s hs
  simp only [impl_IsBits.f, hb, Option.bind_some, IsBitS]
  by_cases h : (s.size : Int) ≤ 400
  · exact ⟨b, by rw [if_pos h], by rw [hi]; exact ⟨fun g => ⟨g, h⟩, fun g => g.1⟩⟩
  · exact ⟨false, by rw [if_neg h], by simp only [Bool.false_eq_true, false_iff]; exact fun g => h g.2⟩
theorem l01Bits_loop (s : ByteArray) (hs : s.size ≤ 140737488351232) (d : Nat) : ∀ i : Int, 0 ≤ i → i ≤ s.size → (s.size : Int) - i = d → (∀ j, 0 ≤ j → j < i → bt s j = 48 ∨ bt s j = 49) →
    ∃ b, Ev (fun k => spec_l01Bits.l0 k s i) b ∧ (b = true ↔ IsBitS s) := by
  induction d with
  | zero =>
    intro i h0 h1 hd hp
    refine ⟨decide ((s.size : Int) ≤ 400), Ev_succ ?_, ?_⟩
    · simp only [spec_l01Bits.l0, if_neg (show ¬ i < (s.size : Int) by omega)]
      exact Ev.now _
    · rw [decide_eq_true_eq]
      exact ⟨fun h => ⟨fun j j0 j1 => hp j j0 (by omega), h⟩, fun h => h.2⟩
  | succ d ih =>
    intro i h0 h1 hd hp
    have hlt : i < (s.size : Int) := by omega
    by_cases e : bt s i = 48 ∨ bt s i = 49
    · obtain ⟨b, hb, hi⟩ := ih (i + 1) (by omega) (by omega) (by omega) (fun j j0 j1 => by
        by_cases z : j = i
        · rw [z]; exact e
        · exact hp j j0 (by omega))
      refine ⟨b, Ev_succ ?_, hi⟩
      simp (disch := omega) only [spec_l01Bits.l0, w64]
      rcases e with e | e
      · simp only [if_pos hlt, if_pos h0, if_pos e]; exact hb
      · simp only [if_pos hlt, if_pos h0, e, if_neg (show ¬ (49 : Int) = 48 by omega), if_true]; exact hb
    · refine ⟨false, Ev_succ ?_, ?_⟩
      · simp only [spec_l01Bits.l0, if_pos hlt, if_pos h0, if_neg (fun g => e (Or.inl g)), if_neg (fun g => e (Or.inr g))]
        exact Ev.now _
      · simp only [Bool.false_eq_true, false_iff]
        exact fun g => e (g.1 i h0 hlt)
theorem l01Bits_ev (s : ByteArray) (hs : s.size ≤ 140737488351232) : ∃ b, Ev (fun k => spec_l01Bits.f k s) b ∧ (b = true ↔ IsBitS s) :=
  l01Bits_loop s hs s.size 0 (by omega) (by omega) (by omega) (fun j _ _ => by omega)
theorem bits_same (s : ByteArray) (hs : s.size ≤ 140737488351232) : ∃ b, Ev (fun k => spec_l01Bits.f k s) b ∧ impl_IsBits.f s = some b ∧ (b = true ↔ IsBitS s) := by
  obtain ⟨b, hb, hi⟩ := l01Bits_ev s hs
  obtain ⟨c, hc, hj⟩ := isBits_ev s hs
  have e : c = b := by cases b <;> cases c <;> simp_all
  subst e
  exact ⟨c, hb, hc, hi⟩

theorem ba_ext {a b : ByteArray} (h : a.data.toList = b.data.toList) : a = b := by apply ByteArray.ext; exact Array.toList_inj.1 h
theorem sn_append (a b : List Int) : strOfNums (a ++ b) = strOfNums a ++ strOfNums b := by apply ba_ext; simp [strOfNums]
theorem sn_size (a : List Int) : (strOfNums a).size = a.length := by simp [strOfNums, ByteArray.size]
theorem sn_nil : strOfNums [] = (⟨#[]⟩ : ByteArray) := rfl
theorem bt_range (s : ByteArray) (i : Int) (h0 : 0 ≤ i) (h1 : i < s.size) : 0 ≤ bt s i ∧ bt s i < 256 := by
  obtain ⟨n, rfl⟩ : ∃ n : Nat, i = n := ⟨i.toNat, by omega⟩
  rw [bt_list s n (by omega)]
  have := (s.data.toList[n]'(by simp; omega)).toNat_lt
  omega
theorem extract_one (s : ByteArray) (n : Nat) (h : n < s.size) : (s.extract n (n + 1)).data.toList = [s.data.toList[n]'(by simpa using h)] := by
  have h' : n < s.data.size := h
  simp only [ByteArray.data_extract, Array.toList_extract, List.extract_eq_take_drop]
  rw [show n + 1 - n = 1 by omega, List.drop_eq_getElem_cons (show n < s.data.toList.length by simpa using h')]
  simp
theorem sn_one (s : ByteArray) (i : Int) (h0 : 0 ≤ i) (h1 : i < s.size) : strOfNums [bt s i] = s.extract i.toNat (i + 1).toNat := by
  obtain ⟨n, rfl⟩ : ∃ n : Nat, i = n := ⟨i.toNat, by omega⟩
  apply ba_ext
  rw [show ((n : Int) + 1).toNat = n + 1 by omega, Int.toNat_natCast, extract_one s n (by omega), bt_list s n (by omega)]
  simp [strOfNums]
theorem sn_rep (x : Int) : ∀ n, strOfNums (List.replicate n x) = ⟨(Lib.repeatL (strOfNums [x]).data.toList n).toArray⟩
  | 0 => by apply ba_ext; simp [strOfNums, Lib.repeatL]
  | n + 1 => by
    rw [List.replicate_succ, show x :: List.replicate n x = [x] ++ List.replicate n x from rfl, sn_append, sn_rep x n]
    apply ba_ext
    simp [Lib.repeatL]

theorem ex_size (s : ByteArray) (a b : Nat) (hb : b ≤ s.size) : (s.extract a b).size = b - a := by
  simp only [ByteArray.size_extract]; omega
theorem ex_list (s : ByteArray) (a b : Nat) : (s.extract a b).data.toList = (s.data.toList.drop a).take (b - a) := by
  simp only [ByteArray.data_extract, Array.toList_extract, List.extract_eq_take_drop]
theorem ex_ex (s : ByteArray) (a b c d : Nat) (h : a + d ≤ b) : (s.extract a b).extract c d = s.extract (a + c) (a + d) := by
  apply ba_ext
  rw [ex_list, ex_list, ex_list, List.drop_take, List.drop_drop, List.take_take]
  congr 1
  omega
theorem dl_size (s : ByteArray) : s.data.toList.length = s.size := Array.length_toList
theorem ex_whole (s : ByteArray) : s.extract 0 s.size = s := by
  apply ba_ext; rw [ex_list, List.drop_zero]; exact List.take_of_length_le (by rw [dl_size]; omega)
theorem bt_extract (s : ByteArray) (a b : Nat) (hb : b ≤ s.size) (j : Int) (h0 : 0 ≤ j) (h1 : j < (b : Int) - a) : bt (s.extract a b) j = bt s (a + j) := by
  obtain ⟨n, rfl⟩ : ∃ n : Nat, j = n := ⟨j.toNat, by omega⟩
  have hz := ex_size s a b hb
  rw [bt_list _ n (by omega), show (a : Int) + n = ((a + n : Nat) : Int) by omega, bt_list _ _ (by omega)]
  congr 2
  simp only [ex_list]
  rw [List.getElem_take, List.getElem_drop]
theorem AllBit_extract (s : ByteArray) (h : AllBit s) (a b : Nat) (hb : b ≤ s.size) : AllBit (s.extract a b) := by
  intro j h0 h1
  have hz := ex_size s a b hb
  rw [bt_extract s a b hb j h0 (by omega)]
  exact h _ (by omega) (by omega)
theorem nil_size (s : ByteArray) : s.toList = ([] : List UInt8) ↔ s.size = 0 := by
  rw [Lib.toList_data]
  show _ ↔ s.data.size = 0
  rw [← Array.length_toList]
  exact List.length_eq_zero_iff.symm

def stuffM (a b : Int) : Int → List UInt8 → List UInt8
  | _, [] => []
  | run, c :: r => if ((c.toNat : Int) - 48) % 256 ≠ b then c :: stuffM a b 0 r else if run + 1 = a then c :: (if b = 0 then 49 else 48) :: stuffM a b 0 r else c :: stuffM a b (run + 1) r
theorem sn_push (acc : List Int) (v : Int) : (strOfNums (acc ++ [v])).data.toList = (strOfNums acc).data.toList ++ [UInt8.ofNat v.toNat] := by simp [strOfNums]
theorem stuff_loop (s : ByteArray) (a b : Int) (hb : 0 ≤ b ∧ b ≤ 1) (hs : s.size ≤ 400) (d : Nat) : ∀ (acc : List Int) (run : Int) (i : Nat), i + d = s.size → 0 ≤ run → run ≤ i → acc.length ≤ 2 * i →
    Ev (fun k => spec_l04Stuff.l0 k s acc run i a b) ⟨((strOfNums acc).data.toList ++ stuffM a b run (s.data.toList.drop i)).toArray⟩ := by
  have hdl := dl_size s
  induction d with
  | zero =>
    intro acc run i hd h0 h1 hl
    refine Ev_succ ?_
    simp only [spec_l04Stuff.l0, if_neg (show ¬ (i : Int) < (s.size : Int) by omega)]
    rw [List.drop_of_length_le (by omega), stuffM, List.append_nil]
    exact Ev.now _
  | succ d ih =>
    intro acc run i hd h0 h1 hl
    have hi : i < s.size := by omega
    have hbt := bt_list s i hi
    have hlt8 := (s.data.toList[i]'(by omega)).toNat_lt
    have h8 : UInt8.ofNat (bt s i).toNat = s.data.toList[i]'(by omega) := by
      rw [hbt, Int.toNat_natCast]; exact UInt8.ofNat_toNat
    have hdrop : s.data.toList.drop i = s.data.toList[i]'(by omega) :: s.data.toList.drop (i + 1) := List.drop_eq_getElem_cons (by omega)
    refine Ev_succ ?_
    simp (disch := omega) only [spec_l04Stuff.l0, w64, Option.bind_some]
    simp only [if_pos (show (i : Int) < (s.size : Int) by omega), if_pos (show (0 : Int) ≤ i by omega), if_pos (show acc.length < 140737488355328 by omega)]
    by_cases hq : (bt s i - 48) % 256 = b
    · have hq' : ¬ ((s.data.toList[i]'(by omega)).toNat - 48 : Int) % 256 ≠ b := by rw [← hbt]; simpa using hq
      by_cases hr : run + 1 = a
      · have h := ih (acc ++ [bt s i] ++ [(49 - b) % 256]) 0 (i + 1) (by omega) (by omega) (by omega) (by simp; omega)
        rw [sn_push, sn_push, h8] at h
        simp only [if_pos hq, if_pos hr, if_pos (show (acc ++ [bt s i]).length < 140737488355328 by simp; omega)]
        rw [hdrop, stuffM, if_neg hq', if_pos hr]
        have e : UInt8.ofNat ((49 - b) % 256).toNat = if b = 0 then 49 else 48 := by
          by_cases z : b = 0
          · rw [z]; rfl
          · rw [show b = 1 by omega]; rfl
        rw [e] at h
        simpa using h
      · have h := ih (acc ++ [bt s i]) (run + 1) (i + 1) (by omega) (by omega) (by omega) (by simp; omega)
        rw [sn_push, h8] at h
        simp only [if_pos hq, if_neg hr]
        rw [hdrop, stuffM, if_neg hq', if_neg hr]
        simpa using h
    · have hq' : ((s.data.toList[i]'(by omega)).toNat - 48 : Int) % 256 ≠ b := by rw [← hbt]; exact hq
      have h := ih (acc ++ [bt s i]) 0 (i + 1) (by omega) (by omega) (by omega) (by simp; omega)
      rw [sn_push, h8] at h
      simp only [if_neg hq]
      rw [hdrop, stuffM, if_pos hq']
      simpa using h
theorem stuff_ev (s : ByteArray) (a b : Int) (hb : 0 ≤ b ∧ b ≤ 1) (hs : s.size ≤ 400) : Ev (fun k => spec_l04Stuff.f k a b s) ⟨(stuffM a b 0 s.data.toList).toArray⟩ := by
  have h := stuff_loop s a b hb hs s.size [] 0 0 (by omega) (by omega) (by omega) (by simp)
  rw [List.drop_zero] at h
  exact h

def keptL (a b : Int) : Int → List UInt8 → List UInt8
  | _, [] => []
  | run, c :: r => if run = a then keptL a b 0 r else if ((c.toNat : Int) - 48) % 256 = b then c :: keptL a b (run + 1) r else c :: keptL a b 0 r
def isBitB (c : UInt8) : Prop := c = 48 ∨ c = 49
theorem kept_length (a b : Int) (l : List UInt8) : ∀ run, (keptL a b run l).length ≤ l.length := by
  induction l with
  | nil => intro run; simp [keptL]
  | cons c r ih =>
    intro run
    have h1 := ih 0
    have h2 := ih (run + 1)
    simp only [keptL]
    split
    · simp; omega
    · split <;> simp <;> omega
theorem bitB_val {c : UInt8} (h : isBitB c) : ((c.toNat : Int) - 48) % 256 = 0 ∨ ((c.toNat : Int) - 48) % 256 = 1 := by rcases h with rfl | rfl <;> decide
theorem bitB_other {c : UInt8} (h : isBitB c) {b : Int} (hb : 0 ≤ b ∧ b ≤ 1) : (if b = 0 then (49 : UInt8) else 48) = c ↔ ¬ ((c.toNat : Int) - 48) % 256 = b := by
  by_cases z : b = 0
  · subst z; rcases h with rfl | rfl <;> decide
  · have : b = 1 := by omega
    subst this; rcases h with rfl | rfl <;> decide
theorem unstuff_ok (a b : Int) (ha : 1 ≤ a) (hb : 0 ≤ b ∧ b ≤ 1) (l : List UInt8) (hl : ∀ c ∈ l, isBitB c) : ∀ (run : Int) (acc : List UInt8), 0 ≤ run → run ≤ a →
    (((unstuffL a b run acc l).2 = true ↔ (if run = a then (if b = 0 then (49 : UInt8) else 48) :: stuffM a b 0 (keptL a b run l) else stuffM a b run (keptL a b run l)) = l) ∧
      ((unstuffL a b run acc l).2 = true → (unstuffL a b run acc l).1 = acc ++ keptL a b run l)) := by
  induction l with
  | nil =>
    intro run acc h0 h1
    by_cases e : run = a
    · simp [unstuffL, keptL, e]
    · simp [unstuffL, keptL, e, stuffM]; omega
  | cons c r ih =>
    intro run acc h0 h1
    have hc := hl c (List.mem_cons_self)
    have ih' := ih (fun x hx => hl x (List.mem_cons_of_mem _ hx))
    have ho := bitB_other hc hb
    by_cases e : run = a
    · by_cases q : ((c.toNat : Int) - 48) % 256 = b
      · have hne : ¬ (if b = 0 then (49 : UInt8) else 48) = c := fun g => (ho.1 g) q
        simp only [unstuffL, keptL, if_pos e, if_pos q, Bool.false_eq_true, false_iff, false_implies, and_true]
        intro g
        exact hne (List.cons.inj g).1
      · have he := ho.2 q
        obtain ⟨i1, i2⟩ := ih' 0 acc (by omega) (by omega)
        rw [if_neg (show ¬ (0 : Int) = a by omega)] at i1
        simp only [unstuffL, keptL, if_pos e, if_neg q, he, List.cons.injEq, true_and]
        exact ⟨i1, i2⟩
    · by_cases q : ((c.toNat : Int) - 48) % 256 = b
      · obtain ⟨i1, i2⟩ := ih' (run + 1) (acc ++ [c]) (by omega) (by omega)
        simp only [unstuffL, keptL, if_neg e, if_pos q, stuffM, if_neg (show ¬ ((c.toNat : Int) - 48) % 256 ≠ b from fun g => g q)]
        refine ⟨?_, fun g => by rw [i2 g]; simp⟩
        by_cases e2 : run + 1 = a
        · rw [if_pos e2] at i1 ⊢
          rw [List.cons.injEq, i1]; simp
        · rw [if_neg e2] at i1 ⊢
          rw [List.cons.injEq, i1]; simp
      · obtain ⟨i1, i2⟩ := ih' 0 (acc ++ [c]) (by omega) (by omega)
        rw [if_neg (show ¬ (0 : Int) = a by omega)] at i1
        simp only [unstuffL, keptL, if_neg e, if_neg q, stuffM, if_pos (show ((c.toNat : Int) - 48) % 256 ≠ b from q)]
        refine ⟨by rw [List.cons.injEq, i1]; simp, fun g => by rw [i2 g]; simp⟩
theorem allBit_list (s : ByteArray) (h : AllBit s) : ∀ c ∈ s.data.toList, isBitB c := by
  intro c hc
  obtain ⟨n, hn, rfl⟩ := List.getElem_of_mem hc
  have hn' : n < s.size := by rw [dl_size] at hn; exact hn
  have := h n (by omega) (by omega)
  rw [bt_list s n hn'] at this
  rcases this with e | e
  · left; apply UInt8.toNat_inj.1; show s.data.toList[n].toNat = 48; omega
  · right; apply UInt8.toNat_inj.1; show s.data.toList[n].toNat = 49; omega
theorem unstuff_loop (s : ByteArray) (a b : Int) (hb : 0 ≤ b ∧ b ≤ 1) (hs : s.size ≤ 400) (d : Nat) : ∀ (acc : List Int) (run : Int) (i : Nat), i + d = s.size → 0 ≤ run → run ≤ i → acc.length ≤ i → ∀ out : List UInt8,
    out = (strOfNums acc).data.toList ++ keptL a b run (s.data.toList.drop i) →
    Ev (fun k => spec_l04Unstuff.l0 k s acc run i a b) ((⟨out.toArray⟩ : ByteArray), ((⟨(stuffM a b 0 out).toArray⟩ : ByteArray).toList == s.toList)) := by
  have hdl := dl_size s
  induction d with
  | zero =>
    intro acc run i hd h0 h1 hl out ho
    refine Ev_succ ?_
    rw [List.drop_of_length_le (by omega), keptL, List.append_nil] at ho
    have e : strOfNums acc = ⟨out.toArray⟩ := by apply ba_ext; rw [ho]
    have hz : (⟨out.toArray⟩ : ByteArray).size ≤ 400 := by rw [← e, sn_size]; omega
    simp only [spec_l04Unstuff.l0, if_neg (show ¬ (i : Int) < (s.size : Int) by omega), e]
    exact Ev.bind (stuff_ev _ a b hb hz) (Ev.now _)
  | succ d ih =>
    intro acc run i hd h0 h1 hl out ho
    have hi : i < s.size := by omega
    have hbt := bt_list s i hi
    have h8 : UInt8.ofNat (bt s i).toNat = s.data.toList[i]'(by omega) := by
      rw [hbt, Int.toNat_natCast]; exact UInt8.ofNat_toNat
    have hdrop : s.data.toList.drop i = s.data.toList[i]'(by omega) :: s.data.toList.drop (i + 1) := List.drop_eq_getElem_cons (by omega)
    rw [hdrop, keptL, ← hbt] at ho
    refine Ev_succ ?_
    simp (disch := omega) only [spec_l04Unstuff.l0, w64, Option.bind_some]
    simp only [if_pos (show (i : Int) < (s.size : Int) by omega)]
    by_cases hr : run = a
    · rw [if_pos hr] at ho
      simp only [if_pos hr]
      exact ih acc 0 (i + 1) (by omega) (by omega) (by omega) (by omega) out ho
    · rw [if_neg hr] at ho
      simp only [if_neg hr, if_pos (show (0 : Int) ≤ i by omega), if_pos (show acc.length < 140737488355328 by omega)]
      by_cases hq : (bt s i - 48) % 256 = b
      · rw [if_pos hq] at ho
        simp only [if_pos hq]
        exact ih (acc ++ [bt s i]) (run + 1) (i + 1) (by omega) (by omega) (by omega) (by simp; omega) out (by rw [sn_push, h8, ho]; simp)
      · rw [if_neg hq] at ho
        simp only [if_neg hq]
        exact ih (acc ++ [bt s i]) 0 (i + 1) (by omega) (by omega) (by omega) (by simp; omega) out (by rw [sn_push, h8, ho]; simp)
theorem unstuff_ev (s : ByteArray) (a b : Int) (hb : 0 ≤ b ∧ b ≤ 1) (hs : s.size ≤ 400) : Ev (fun k => spec_l04Unstuff.f k a b s) ((⟨(keptL a b 0 s.data.toList).toArray⟩ : ByteArray), ((⟨(stuffM a b 0 (keptL a b 0 s.data.toList)).toArray⟩ : ByteArray).toList == s.toList)) :=
  unstuff_loop s a b hb hs s.size [] 0 0 (by omega) (by omega) (by omega) (by simp) _ (by rw [List.drop_zero]; rfl)
theorem unstuff_eq (s : ByteArray) (a b : Int) (ha : 1 ≤ a) (hb : 0 ≤ b ∧ b ≤ 1) (hs : s.size ≤ 400) (h : AllBit s) : ∃ t, impl_Stuffer_unstuff.f a b s = some (t, ((⟨(stuffM a b 0 (keptL a b 0 s.data.toList)).toArray⟩ : ByteArray).toList == s.toList)) ∧
    (((⟨(stuffM a b 0 (keptL a b 0 s.data.toList)).toArray⟩ : ByteArray).toList == s.toList) = true → t = ⟨(keptL a b 0 s.data.toList).toArray⟩) := by
  obtain ⟨h1, h2⟩ := unstuff_ok a b ha hb s.data.toList (allBit_list s h) 0 [] (by omega) (by omega)
  rw [if_neg (show ¬ (0 : Int) = a by omega)] at h1
  have e : ((⟨(stuffM a b 0 (keptL a b 0 s.data.toList)).toArray⟩ : ByteArray).toList == s.toList) = (unstuffL a b 0 [] s.data.toList).2 := by
    rw [Bool.eq_iff_iff, beq_iff_eq, h1, Lib.toList_data, Lib.toList_data]
  refine ⟨_, by rw [impl_Stuffer_unstuff.f, if_pos (by omega), e], fun g => ?_⟩
  rw [e] at g
  rw [h2 g, List.nil_append]

def FnExactUnstuffBits_Pure : Prop := ∀ (a0_0 : Int) (a0_1 : Int) (a1 : ByteArray), (Lit.int .i64 a0_0).wf = true → (Lit.int .i64 a0_1).wf = true → a1.size ≤ 140737488351232 → ∃ k, laws_FnExactUnstuffBits.f k a0_0 a0_1 a1 = some true
theorem unstuffBits_both (a b : Int) (s : ByteArray) (hs : (s.size : Int) ≤ 1048576) : ∃ r, Ev (fun k => spec_UnstuffBits.f k a b s) r ∧ Ev (fun k => impl_UnstuffBits.f k a b s) r := by
  obtain ⟨c, h1, h2, h3⟩ := l04Is_eq a b
  obtain ⟨d, hc, hd, he⟩ := bits_same s (by omega)
  have no : Ev (fun k => spec_UnstuffBits.j0 k s true a b) ((⟨#[]⟩ : ByteArray), false) := by
    refine Ev_succ ?_; simp only [spec_UnstuffBits.j0, if_true]; exact Ev.now _
  have no' : Ev (fun k => impl_UnstuffBits.j0 k s true a b) ((⟨#[]⟩ : ByteArray), false) := by
    refine Ev_succ ?_; simp only [impl_UnstuffBits.j0, if_true]; exact Ev.now _
  simp only [spec_UnstuffBits.f, impl_UnstuffBits.f, h1, h2, hd, Option.bind_some]
  cases c with
  | false => exact ⟨_, by simp only [Bool.false_eq_true, if_false]; exact no, by simp only [Bool.false_eq_true, if_false]; exact no'⟩
  | true =>
    have hok := h3.1 rfl
    cases d with
    | false => exact ⟨_, by simp only [if_true]; exact Ev.bind hc (by simp only [Bool.not_false]; exact no), by simp only [if_true, Bool.not_false]; exact no'⟩
    | true =>
      have ⟨hall, h400⟩ := he.1 rfl
      have hA := unstuff_ev s a b hok.2 (by omega)
      obtain ⟨t, hB, hT⟩ := unstuff_eq s a b hok.1.1 hok.2 (by omega) hall
      generalize ((⟨(stuffM a b 0 (keptL a b 0 s.data.toList)).toArray⟩ : ByteArray).toList == s.toList) = ok at hA hB hT
      generalize (⟨(keptL a b 0 s.data.toList).toArray⟩ : ByteArray) = u at hA hT
      refine ⟨if ok = true then (u, true) else ((⟨#[]⟩ : ByteArray), false), ?_, ?_⟩
      · simp only [if_true]
        refine Ev.bind hc ?_
        simp only [Bool.not_true]
        refine Ev_succ ?_
        simp only [spec_UnstuffBits.j0, Bool.false_eq_true, if_false]
        refine Ev.bind hA ?_
        cases ok <;> exact Ev.now _
      · simp only [if_true, Bool.not_true]
        refine Ev_succ ?_
        simp only [impl_UnstuffBits.j0, Bool.false_eq_true, if_false, hB, Option.bind_some]
        cases ok with
        | false => exact Ev.now _
        | true => rw [hT rfl]; exact Ev.now _
theorem FnExactUnstuffBits : FnExactUnstuffBits_Pure := by
  intro a b s _ _ _
  apply Ev.rounds
  simp only [laws_FnExactUnstuffBits.f]
  by_cases hbig : (s.size : Int) > 1048576
  · simp only [if_pos hbig]; exact Ev.now _
  simp only [if_neg hbig, toStuffer_eq, Option.bind_some]
  obtain ⟨r, hA, hB⟩ := unstuffBits_both a b s (by omega)
  refine Ev.bind hA (Ev.bind hB ?_)
  simp only [if_true, bne_self_eq_false, Bool.false_eq_true, if_false]
  exact Ev.now _

end Go.Proofs.YtbifbbfkcbgnlaaDoor.Pure
