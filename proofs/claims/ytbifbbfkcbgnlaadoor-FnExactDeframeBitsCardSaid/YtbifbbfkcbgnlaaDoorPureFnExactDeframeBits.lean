/- The law FnExactDeframeBits of the given program holds: for every input that the row lets in the call returns true and leaves its arguments as they were. No condition ahead of it. -/
import Derived.Test.YtbifbbfkcbgnlaaDoorPFnExactDeframeBitsx5
import Derived.Test.YtbifbbfkcbgnlaaDoorMine
namespace Go.Proofs.YtbifbbfkcbgnlaaDoor.Pure
open Go.RowKit Go.Proofs.YtbifbbfkcbgnlaaDoor.PFnExactDeframeBits Go.Proofs.YtbifbbfkcbgnlaaDoorW.PrintWords Go.Proofs.YtbifbbfkcbgnlaaDoorW.PrintLast Go.Proofs.YtbifbbfkcbgnlaaDoorW.PrintMore Go.Proofs.YtbifbbfkcbgnlaaDoor.Mine
set_option linter.unusedVariables false
set_option linter.unusedSimpArgs false
theorem l00In_eq (a b c : Int) : spec_l00In.f a b c = some (decide (b ≤ a ∧ a ≤ c)) := by
  unfold spec_l00In.f; by_cases h : a ≥ b
  · rw [if_pos h]; simp; intro _; exact h
  · rw [if_neg h]; simp; intro h'; omega
theorem within_eq (a b c : Int) : impl_within.f a b c = some (decide (b ≤ a ∧ a ≤ c)) := by
  unfold impl_within.f; by_cases h : a ≥ b
  · rw [if_pos h]; simp; intro _; exact h
  · rw [if_neg h]; simp; intro h'; omega

def StOk (a b : Int) : Prop := (1 ≤ a ∧ a ≤ 10) ∧ (0 ≤ b ∧ b ≤ 1)
theorem l04Is_eq (a b : Int) : ∃ c, spec_l04Is.f a b = some c ∧ impl_ValidStuffer.f a b = some c ∧ (c = true ↔ StOk a b) := by
  simp only [spec_l04Is.f, impl_ValidStuffer.f, l00In_eq, within_eq, Option.bind_some, StOk]
  by_cases h0 : 1 ≤ a ∧ a ≤ 10
  · by_cases h1 : 0 ≤ b ∧ b ≤ 1
    · exact ⟨true, by simp [h0, h1], by simp [h0, h1], by simp [h0, h1]⟩
    · exact ⟨false, by simp [h0, h1], by simp [h0, h1], by simp [h0, h1]⟩
  · exact ⟨false, by simp [h0], by simp [h0], by simp [h0]⟩
theorem toStuffer_eq (a b : Int) : laws_toStuffer.f a b = some (a, b) := by simp [laws_toStuffer.f]

def AllBit (s : ByteArray) : Prop := ∀ i : Int, 0 ≤ i → i < s.size → bt s i = 48 ∨ bt s i = 49
def IsBitS (s : ByteArray) : Prop := AllBit s ∧ (s.size : Int) ≤ 400
theorem bt_list (s : ByteArray) (i : Nat) (h : i < s.size) : bt s i = ((s.data.toList[i]'(by simpa using h)).toNat : Int) := by
  unfold bt
  simp only [Int.toNat_natCast, h, dif_pos]
  rfl
theorem dropWhile_nil (p : UInt8 → Bool) : ∀ l : List UInt8, l.dropWhile p = [] ↔ ∀ b ∈ l, p b = true
  | [] => by simp
  | x :: l => by
    rw [List.dropWhile_cons]
    cases h : p x with
    | true => simp [h, dropWhile_nil p l]
    | false => simp [h]
theorem trim_empty (l : List UInt8) : (Lib.trimS l [48, 49]).isEmpty = true ↔ ∀ b ∈ l, b = 48 ∨ b = 49 := by
  have key : ∀ p : UInt8 → Bool, List.dropWhile p (List.dropWhile p l.reverse).reverse = [] ↔ ∀ b ∈ l, p b = true := by
    intro p
    rw [dropWhile_nil]
    constructor
    · intro h
      by_cases e : List.dropWhile p l.reverse = []
      · have := (dropWhile_nil p _).1 e
        exact fun b hb => this b (by simpa using hb)
      · have hh := List.head_dropWhile_not p e
        have h3 := h ((List.dropWhile p l.reverse).head e) (by simp)
        rw [hh] at h3
        cases h3
    · intro h b hb
      have : List.dropWhile p l.reverse = [] := (dropWhile_nil p _).2 (fun b hb => h b (by simpa using hb))
      rw [this] at hb
      simp at hb
  unfold Lib.trimS Lib.trimRightS Lib.trimLeftS
  rw [List.isEmpty_iff, key]
  simp
theorem areBits_ev (s : ByteArray) (hs : s.size ≤ 140737488351232) : ∃ b, impl_areBits.f s = some b ∧ (b = true ↔ AllBit s) := by
  refine ⟨(Lib.trimS s.data.toList [48, 49]).isEmpty, by unfold impl_areBits.f; rw [if_pos (by omega)], ?_⟩
  rw [trim_empty]
  constructor
  · intro h i h0 h1
    obtain ⟨n, rfl⟩ : ∃ n : Nat, i = n := ⟨i.toNat, by omega⟩
    rw [bt_list s n (by omega)]
    rcases h _ (List.getElem_mem (l := s.data.toList) (n := n) (by simp; omega)) with e | e <;> rw [e]
    · exact Or.inl rfl
    · exact Or.inr rfl
  · intro h b hb
    obtain ⟨n, hn, rfl⟩ := List.getElem_of_mem hb
    have hn' : n < s.size := by simpa using hn
    have := h n (by omega) (by omega)
    rw [bt_list s n hn'] at this
    rcases this with e | e
    · left; apply UInt8.toNat_inj.1; show s.data.toList[n].toNat = 48; omega
    · right; apply UInt8.toNat_inj.1; show s.data.toList[n].toNat = 49; omega
theorem isBits_ev (s : ByteArray) (hs : s.size ≤ 140737488351232) : ∃ b, impl_IsBits.f s = some b ∧ (b = true ↔ IsBitS s) := by
  obtain ⟨b, hb, hi⟩ := areBits_ev s hs
  simp only [impl_IsBits.f, hb, Option.bind_some, IsBitS]
  by_cases h : (s.size : Int) ≤ 400
  · exact ⟨b, by rw [if_pos h], by rw [hi]; exact ⟨fun g => ⟨g, h⟩, fun g => g.1⟩⟩
  · exact ⟨false, by rw [if_neg h], by simp only [Bool.false_eq_true, false_iff]; exact fun g => h g.2⟩
theorem l01Bits_loop (s : ByteArray) (hs : s.size ≤ 140737488351232) (d : Nat) : ∀ i : Int, 0 ≤ i → i ≤ s.size → (s.size : Int) - i = d → (∀ j, 0 ≤ j → j < i → bt s j = 48 ∨ bt s j = 49) →
    ∃ b, Ev (fun k => spec_l01Bits.l0 k s i) b ∧ (b = true ↔ IsBitS s) := by
  induction d with
  | zero =>
    intro i h0 h1 hd hp
    refine ⟨decide ((s.size : Int) ≤ 400), Ev_succ ?_, ?_⟩
    · simp only [spec_l01Bits.l0, if_neg (show ¬ i < (s.size : Int) by omega)]
      exact Ev.now _
    · rw [decide_eq_true_eq]
      exact ⟨fun h => ⟨fun j j0 j1 => hp j j0 (by omega), h⟩, fun h => h.2⟩
  | succ d ih =>
    intro i h0 h1 hd hp
    have hlt : i < (s.size : Int) := by omega
    by_cases e : bt s i = 48 ∨ bt s i = 49
    · obtain ⟨b, hb, hi⟩ := ih (i + 1) (by omega) (by omega) (by omega) (fun j j0 j1 => by
        by_cases z : j = i
        · rw [z]; exact e
        · exact hp j j0 (by omega))
      refine ⟨b, Ev_succ ?_, hi⟩
      simp (disch := omega) only [spec_l01Bits.l0, w64]
      rcases e with e | e
      · simp only [if_pos hlt, if_pos h0, if_pos e]; exact hb
      · simp only [if_pos hlt, if_pos h0, e, if_neg (show ¬ (49 : Int) = 48 by omega), if_true]; exact hb
    · refine ⟨false, Ev_succ ?_, ?_⟩
      · simp only [spec_l01Bits.l0, if_pos hlt, if_pos h0, if_neg (fun g => e (Or.inl g)), if_neg (fun g => e (Or.inr g))]
        exact Ev.now _
      · simp only [Bool.false_eq_true, false_iff]
        exact fun g => e (g.1 i h0 hlt)
theorem l01Bits_ev (s : ByteArray) (hs : s.size ≤ 140737488351232) : ∃ b, Ev (fun k => spec_l01Bits.f k s) b ∧ (b = true ↔ IsBitS s) :=
  l01Bits_loop s hs s.size 0 (by omega) (by omega) (by omega) (fun j _ _ => by omega)
theorem bits_same (s : ByteArray) (hs : s.size ≤ 140737488351232) : ∃ b, Ev (fun k => spec_l01Bits.f k s) b ∧ impl_IsBits.f s = some b ∧ (b = true ↔ IsBitS s) := by
  obtain ⟨b, hb, hi⟩ := l01Bits_ev s hs
  obtain ⟨c, hc, hj⟩ := isBits_ev s hs
  have e : c = b := by cases b <;> cases c <;> simp_all
  subst e
  exact ⟨c, hb, hc, hi⟩

theorem ba_ext {a b : ByteArray} (h : a.data.toList = b.data.toList) : a = b := by apply ByteArray.ext; exact Array.toList_inj.1 h
theorem sn_append (a b : List Int) : strOfNums (a ++ b) = strOfNums a ++ strOfNums b := by apply ba_ext; simp [strOfNums]
theorem sn_size (a : List Int) : (strOfNums a).size = a.length := by simp [strOfNums, ByteArray.size]
theorem sn_nil : strOfNums [] = (⟨#[]⟩ : ByteArray) := rfl
theorem bt_range (s : ByteArray) (i : Int) (h0 : 0 ≤ i) (h1 : i < s.size) : 0 ≤ bt s i ∧ bt s i < 256 := by
  obtain ⟨n, rfl⟩ : ∃ n : Nat, i = n := ⟨i.toNat, by omega⟩
  rw [bt_list s n (by omega)]
  have := (s.data.toList[n]'(by simp; omega)).toNat_lt
  omega
theorem extract_one (s : ByteArray) (n : Nat) (h : n < s.size) : (s.extract n (n + 1)).data.toList = [s.data.toList[n]'(by simpa using h)] := by
  have h' : n < s.data.size := h
  simp only [ByteArray.data_extract, Array.toList_extract, List.extract_eq_take_drop]
  rw [show n + 1 - n = 1 by omega, List.drop_eq_getElem_cons (show n < s.data.toList.length by simpa using h')]
  simp
theorem sn_one (s : ByteArray) (i : Int) (h0 : 0 ≤ i) (h1 : i < s.size) : strOfNums [bt s i] = s.extract i.toNat (i + 1).toNat := by
  obtain ⟨n, rfl⟩ : ∃ n : Nat, i = n := ⟨i.toNat, by omega⟩
  apply ba_ext
  rw [show ((n : Int) + 1).toNat = n + 1 by omega, Int.toNat_natCast, extract_one s n (by omega), bt_list s n (by omega)]
  simp [strOfNums]
theorem sn_rep (x : Int) : ∀ n, strOfNums (List.replicate n x) = ⟨(Lib.repeatL (strOfNums [x]).data.toList n).toArray⟩
  | 0 => by apply ba_ext; simp [strOfNums, Lib.repeatL]
  | n + 1 => by
    rw [List.replicate_succ, show x :: List.replicate n x = [x] ++ List.replicate n x from rfl, sn_append, sn_rep x n]
    apply ba_ext
    simp [Lib.repeatL]

theorem ex_size (s : ByteArray) (a b : Nat) (hb : b ≤ s.size) : (s.extract a b).size = b - a := by
  simp only [ByteArray.size_extract]; omega
theorem ex_list (s : ByteArray) (a b : Nat) : (s.extract a b).data.toList = (s.data.toList.drop a).take (b - a) := by
  simp only [ByteArray.data_extract, Array.toList_extract, List.extract_eq_take_drop]
theorem ex_ex (s : ByteArray) (a b c d : Nat) (h : a + d ≤ b) : (s.extract a b).extract c d = s.extract (a + c) (a + d) := by
  apply ba_ext
  rw [ex_list, ex_list, ex_list, List.drop_take, List.drop_drop, List.take_take]
  congr 1
  omega
theorem dl_size (s : ByteArray) : s.data.toList.length = s.size := Array.length_toList
theorem ex_whole (s : ByteArray) : s.extract 0 s.size = s := by
  apply ba_ext; rw [ex_list, List.drop_zero]; exact List.take_of_length_le (by rw [dl_size]; omega)
theorem bt_extract (s : ByteArray) (a b : Nat) (hb : b ≤ s.size) (j : Int) (h0 : 0 ≤ j) (h1 : j < (b : Int) - a) : bt (s.extract a b) j = bt s (a + j) := by
  obtain ⟨n, rfl⟩ : ∃ n : Nat, j = n := ⟨j.toNat, by omega⟩
  have hz := ex_size s a b hb
  rw [bt_list _ n (by omega), show (a : Int) + n = ((a + n : Nat) : Int) by omega, bt_list _ _ (by omega)]
  congr 2
  simp only [ex_list]
  rw [List.getElem_take, List.getElem_drop]
theorem AllBit_extract (s : ByteArray) (h : AllBit s) (a b : Nat) (hb : b ≤ s.size) : AllBit (s.extract a b) := by
  intro j h0 h1
  have hz := ex_size s a b hb
  rw [bt_extract s a b hb j h0 (by omega)]
  exact h _ (by omega) (by omega)
theorem nil_size (s : ByteArray) : s.toList = ([] : List UInt8) ↔ s.size = 0 := by
  rw [Lib.toList_data]
  show _ ↔ s.data.size = 0
  rw [← Array.length_toList]
  exact List.length_eq_zero_iff.symm

def stuffM (a b : Int) : Int → List UInt8 → List UInt8
  | _, [] => []
  | run, c :: r => if ((c.toNat : Int) - 48) % 256 ≠ b then c :: stuffM a b 0 r else if run + 1 = a then c :: (if b = 0 then 49 else 48) :: stuffM a b 0 r else c :: stuffM a b (run + 1) r
theorem sn_push (acc : List Int) (v : Int) : (strOfNums (acc ++ [v])).data.toList = (strOfNums acc).data.toList ++ [UInt8.ofNat v.toNat] := by simp [strOfNums]
theorem stuff_loop (s : ByteArray) (a b : Int) (hb : 0 ≤ b ∧ b ≤ 1) (hs : s.size ≤ 400) (d : Nat) : ∀ (acc : List Int) (run : Int) (i : Nat), i + d = s.size → 0 ≤ run → run ≤ i → acc.length ≤ 2 * i →
    Ev (fun k => spec_l04Stuff.l0 k s acc run i a b) ⟨((strOfNums acc).data.toList ++ stuffM a b run (s.data.toList.drop i)).toArray⟩ := by
  have hdl := dl_size s
  induction d with
  | zero =>
    intro acc run i hd h0 h1 hl
    refine Ev_succ ?_
    simp only [spec_l04Stuff.l0, if_neg (show ¬ (i : Int) < (s.size : Int) by omega)]
    rw [List.drop_of_length_le (by omega), stuffM, List.append_nil]
    exact Ev.now _
  | succ d ih =>
    intro acc run i hd h0 h1 hl
    have hi : i < s.size := by omega
    have hbt := bt_list s i hi
    have hlt8 := (s.data.toList[i]'(by omega)).toNat_lt
    have h8 : UInt8.ofNat (bt s i).toNat = s.data.toList[i]'(by omega) := by
      rw [hbt, Int.toNat_natCast]; exact UInt8.ofNat_toNat
    have hdrop : s.data.toList.drop i = s.data.toList[i]'(by omega) :: s.data.toList.drop (i + 1) := List.drop_eq_getElem_cons (by omega)
    refine Ev_succ ?_
    simp (disch := omega) only [spec_l04Stuff.l0, w64, Option.bind_some]
    simp only [if_pos (show (i : Int) < (s.size : Int) by omega), if_pos (show (0 : Int) ≤ i by omega), if_pos (show acc.length < 140737488355328 by omega)]
    by_cases hq : (bt s i - 48) % 256 = b
    · have hq' : ¬ ((s.data.toList[i]'(by omega)).toNat - 48 : Int) % 256 ≠ b := by rw [← hbt]; simpa using hq
      by_cases hr : run + 1 = a
      · have h := ih (acc ++ [bt s i] ++ [(49 - b) % 256]) 0 (i + 1) (by omega) (by omega) (by omega) (by simp; omega)
        rw [sn_push, sn_push, h8] at h
        simp only [if_pos hq, if_pos hr, if_pos (show (acc ++ [bt s i]).length < 140737488355328 by simp; omega)]
        rw [hdrop, stuffM, if_neg hq', if_pos hr]
        have e : UInt8.ofNat ((49 - b) % 256).toNat = if b = 0 then 49 else 48 := by
          by_cases z : b = 0
          · rw [z]; rfl
          · rw [show b = 1 by omega]; rfl
        rw [e] at h
        simpa using h
      · have h := ih (acc ++ [bt s i]) (run + 1) (i + 1) (by omega) (by omega) (by omega) (by simp; omega)
        rw [sn_push, h8] at h
        simp only [if_pos hq, if_neg hr]
        rw [hdrop, stuffM, if_neg hq', if_neg hr]
        simpa using h
    · have hq' : ((s.data.toList[i]'(by omega)).toNat - 48 : Int) % 256 ≠ b := by rw [← hbt]; exact hq
      have h := ih (acc ++ [bt s i]) 0 (i + 1) (by omega) (by omega) (by omega) (by simp; omega)
      rw [sn_push, h8] at h
      simp only [if_neg hq]
      rw [hdrop, stuffM, if_pos hq']
      simpa using h
theorem stuff_ev (s : ByteArray) (a b : Int) (hb : 0 ≤ b ∧ b ≤ 1) (hs : s.size ≤ 400) : Ev (fun k => spec_l04Stuff.f k a b s) ⟨(stuffM a b 0 s.data.toList).toArray⟩ := by
  have h := stuff_loop s a b hb hs s.size [] 0 0 (by omega) (by omega) (by omega) (by simp)
  rw [List.drop_zero] at h
  exact h

def keptL (a b : Int) : Int → List UInt8 → List UInt8
  | _, [] => []
  | run, c :: r => if run = a then keptL a b 0 r else if ((c.toNat : Int) - 48) % 256 = b then c :: keptL a b (run + 1) r else c :: keptL a b 0 r
def isBitB (c : UInt8) : Prop := c = 48 ∨ c = 49
theorem kept_length (a b : Int) (l : List UInt8) : ∀ run, (keptL a b run l).length ≤ l.length := by
  induction l with
  | nil => intro run; simp [keptL]
  | cons c r ih =>
    intro run
    have h1 := ih 0
    have h2 := ih (run + 1)
    simp only [keptL]
    split
    · simp; omega
    · split <;> simp <;> omega
theorem bitB_val {c : UInt8} (h : isBitB c) : ((c.toNat : Int) - 48) % 256 = 0 ∨ ((c.toNat : Int) - 48) % 256 = 1 := by rcases h with rfl | rfl <;> decide
theorem bitB_other {c : UInt8} (h : isBitB c) {b : Int} (hb : 0 ≤ b ∧ b ≤ 1) : (if b = 0 then (49 : UInt8) else 48) = c ↔ ¬ ((c.toNat : Int) - 48) % 256 = b := by
  by_cases z : b = 0
  · subst z; rcases h with rfl | rfl <;> decide
  · have : b = 1 := by omega
    subst this; rcases h with rfl | rfl <;> decide
theorem unstuff_ok (a b : Int) (ha : 1 ≤ a) (hb : 0 ≤ b ∧ b ≤ 1) (l : List UInt8) (hl : ∀ c ∈ l, isBitB c) : ∀ (run : Int) (acc : List UInt8), 0 ≤ run → run ≤ a →
    (((unstuffL a b run acc l).2 = true ↔ (if run = a then (if b = 0 then (49 : UInt8) else 48) :: stuffM a b 0 (keptL a b run l) else stuffM a b run (keptL a b run l)) = l) ∧
      ((unstuffL a b run acc l).2 = true → (unstuffL a b run acc l).1 = acc ++ keptL a b run l)) := by
  induction l with
  | nil =>
    intro run acc h0 h1
    by_cases e : run = a
    · simp [unstuffL, keptL, e]
    · simp [unstuffL, keptL, e, stuffM]; omega
  | cons c r ih =>
    intro run acc h0 h1
    have hc := hl c (List.mem_cons_self)
    have ih' := ih (fun x hx => hl x (List.mem_cons_of_mem _ hx))
    have ho := bitB_other hc hb
    by_cases e : run = a
    · by_cases q : ((c.toNat : Int) - 48) % 256 = b
      · have hne : ¬ (if b = 0 then (49 : UInt8) else 48) = c := fun g => (ho.1 g) q
        simp only [unstuffL, keptL, if_pos e, if_pos q, Bool.false_eq_true, false_iff, false_implies, and_true]
        intro g
        exact hne (List.cons.inj g).1
      · have he := ho.2 q
        obtain ⟨i1, i2⟩ := ih' 0 acc (by omega) (by omega)
        rw [if_neg (show ¬ (0 : Int) = a by omega)] at i1
        simp only [unstuffL, keptL, if_pos e, if_neg q, he, List.cons.injEq, true_and]
        exact ⟨i1, i2⟩
    · by_cases q : ((c.toNat : Int) - 48) % 256 = b
      · obtain ⟨i1, i2⟩ := ih' (run + 1) (acc ++ [c]) (by omega) (by omega)
        simp only [unstuffL, keptL, if_neg e, if_pos q, stuffM, if_neg (show ¬ ((c.toNat : Int) - 48) % 256 ≠ b from fun g => g q)]
        refine ⟨?_, fun g => by rw [i2 g]; simp⟩
        by_cases e2 : run + 1 = a
        · rw [if_pos e2] at i1 ⊢
          rw [List.cons.injEq, i1]; simp
        · rw [if_neg e2] at i1 ⊢
          rw [List.cons.injEq, i1]; simp
      · obtain ⟨i1, i2⟩ := ih' 0 (acc ++ [c]) (by omega) (by omega)
        rw [if_neg (show ¬ (0 : Int) = a by omega)] at i1
        simp only [unstuffL, keptL, if_neg e, if_neg q, stuffM, if_pos (show ((c.toNat : Int) - 48) % 256 ≠ b from q)]
        refine ⟨by rw [List.cons.injEq, i1]; simp, fun g => by rw [i2 g]; simp⟩
theorem allBit_list (s : ByteArray) (h : AllBit s) : ∀ c ∈ s.data.toList, isBitB c := by
  intro c hc
  obtain ⟨n, hn, rfl⟩ := List.getElem_of_mem hc
  have hn' : n < s.size := by rw [dl_size] at hn; exact hn
  have := h n (by omega) (by omega)
  rw [bt_list s n hn'] at this
  rcases this with e | e
  · left; apply UInt8.toNat_inj.1; show s.data.toList[n].toNat = 48; omega
  · right; apply UInt8.toNat_inj.1; show s.data.toList[n].toNat = 49; omega
theorem unstuff_loop (s : ByteArray) (a b : Int) (hb : 0 ≤ b ∧ b ≤ 1) (hs : s.size ≤ 400) (d : Nat) : ∀ (acc : List Int) (run : Int) (i : Nat), i + d = s.size → 0 ≤ run → run ≤ i → acc.length ≤ i → ∀ out : List UInt8,
    out = (strOfNums acc).data.toList ++ keptL a b run (s.data.toList.drop i) →
    Ev (fun k => spec_l04Unstuff.l0 k s acc run i a b) ((⟨out.toArray⟩ : ByteArray), ((⟨(stuffM a b 0 out).toArray⟩ : ByteArray).toList == s.toList)) := by
  have hdl := dl_size s
  induction d with
  | zero =>
    intro acc run i hd h0 h1 hl out ho
    refine Ev_succ ?_
    rw [List.drop_of_length_le (by omega), keptL, List.append_nil] at ho
    have e : strOfNums acc = ⟨out.toArray⟩ := by apply ba_ext; rw [ho]
    have hz : (⟨out.toArray⟩ : ByteArray).size ≤ 400 := by rw [← e, sn_size]; omega
    simp only [spec_l04Unstuff.l0, if_neg (show ¬ (i : Int) < (s.size : Int) by omega), e]
    exact Ev.bind (stuff_ev _ a b hb hz) (Ev.now _)
  | succ d ih =>
    intro acc run i hd h0 h1 hl out ho
    have hi : i < s.size := by omega
    have hbt := bt_list s i hi
    have h8 : UInt8.ofNat (bt s i).toNat = s.data.toList[i]'(by omega) := by
      rw [hbt, Int.toNat_natCast]; exact UInt8.ofNat_toNat
    have hdrop : s.data.toList.drop i = s.data.toList[i]'(by omega) :: s.data.toList.drop (i + 1) := List.drop_eq_getElem_cons (by omega)
    rw [hdrop, keptL, ← hbt] at ho
    refine Ev_succ ?_
    simp (disch := omega) only [spec_l04Unstuff.l0, w64, Option.bind_some]
    simp only [if_pos (show (i : Int) < (s.size : Int) by omega)]
    by_cases hr : run = a
    · rw [if_pos hr] at ho
      simp only [if_pos hr]
      exact ih acc 0 (i + 1) (by omega) (by omega) (by omega) (by omega) out ho
    · rw [if_neg hr] at ho
      simp only [if_neg hr, if_pos (show (0 : Int) ≤ i by omega), if_pos (show acc.length < 140737488355328 by omega)]
      by_cases hq : (bt s i - 48) % 256 = b
      · rw [if_pos hq] at ho
        simp only [if_pos hq]
        exact ih (acc ++ [bt s i]) (run + 1) (i + 1) (by omega) (by omega) (by omega) (by simp; omega) out (by rw [sn_push, h8, ho]; simp)
      · rw [if_neg hq] at ho
        simp only [if_neg hq]
        exact ih (acc ++ [bt s i]) 0 (i + 1) (by omega) (by omega) (by omega) (by simp; omega) out (by rw [sn_push, h8, ho]; simp)
theorem unstuff_ev (s : ByteArray) (a b : Int) (hb : 0 ≤ b ∧ b ≤ 1) (hs : s.size ≤ 400) : Ev (fun k => spec_l04Unstuff.f k a b s) ((⟨(keptL a b 0 s.data.toList).toArray⟩ : ByteArray), ((⟨(stuffM a b 0 (keptL a b 0 s.data.toList)).toArray⟩ : ByteArray).toList == s.toList)) :=
  unstuff_loop s a b hb hs s.size [] 0 0 (by omega) (by omega) (by omega) (by simp) _ (by rw [List.drop_zero]; rfl)
theorem unstuff_eq (s : ByteArray) (a b : Int) (ha : 1 ≤ a) (hb : 0 ≤ b ∧ b ≤ 1) (hs : s.size ≤ 400) (h : AllBit s) : ∃ t, impl_Stuffer_unstuff.f a b s = some (t, ((⟨(stuffM a b 0 (keptL a b 0 s.data.toList)).toArray⟩ : ByteArray).toList == s.toList)) ∧
    (((⟨(stuffM a b 0 (keptL a b 0 s.data.toList)).toArray⟩ : ByteArray).toList == s.toList) = true → t = ⟨(keptL a b 0 s.data.toList).toArray⟩) := by
  obtain ⟨h1, h2⟩ := unstuff_ok a b ha hb s.data.toList (allBit_list s h) 0 [] (by omega) (by omega)
  rw [if_neg (show ¬ (0 : Int) = a by omega)] at h1
  have e : ((⟨(stuffM a b 0 (keptL a b 0 s.data.toList)).toArray⟩ : ByteArray).toList == s.toList) = (unstuffL a b 0 [] s.data.toList).2 := by
    rw [Bool.eq_iff_iff, beq_iff_eq, h1, Lib.toList_data, Lib.toList_data]
  refine ⟨_, by rw [impl_Stuffer_unstuff.f, if_pos (by omega), e], fun g => ?_⟩
  rw [e] at g
  rw [h2 g, List.nil_append]

def flagL (a : Nat) (b : Int) : List Int := ([49 - b] ++ List.replicate (a + 1) (48 + b)) ++ [49 - b]
theorem flagL_length (a : Nat) (b : Int) : (flagL a b).length = a + 3 := by simp [flagL]
theorem l04Flag_loop (a : Nat) (b : Int) (ha : a ≤ 10) (hb : 0 ≤ b ∧ b ≤ 1) (d : Nat) : ∀ (i : Nat), i + d = a + 1 →
    Ev (fun k => spec_l04Flag.l0 k (strOfNums [49 - b]) (strOfNums ([49 - b] ++ List.replicate i (48 + b))) i a b) (strOfNums (flagL a b)) := by
  induction d with
  | zero =>
    intro i hd
    refine Ev_succ ?_
    simp only [spec_l04Flag.l0, if_neg (show ¬ (i : Int) ≤ a by omega), sn_size]
    rw [if_pos (by simp; omega), ← sn_append, show i = a + 1 by omega]
    exact Ev.now _
  | succ d ih =>
    intro i hd
    refine Ev_succ ?_
    simp (disch := omega) only [spec_l04Flag.l0, w64]
    simp only [if_pos (show (i : Int) ≤ a by omega), Option.bind_some, sn_size, show (48 + b) % 256 = 48 + b by omega]
    simp only [if_pos (show ([49 - b] ++ List.replicate i (48 + b)).length + [48 + b].length ≤ 9223372036854775807 by simp; omega)]
    have h := ih (i + 1) (by omega)
    rw [List.replicate_succ', ← List.append_assoc, sn_append] at h
    exact h
theorem l04Flag_ev (a : Nat) (b : Int) (ha : a ≤ 10) (hb : 0 ≤ b ∧ b ≤ 1) : Ev (fun k => spec_l04Flag.f k a b) (strOfNums (flagL a b)) := by
  have e : (49 - b) % 256 = 49 - b := by omega
  simp (disch := omega) only [spec_l04Flag.f, w64, Option.bind_some, e]
  exact l04Flag_loop a b ha hb (a + 1) 0 (by omega)
theorem bitOf_eq' (c : Bool) : impl_bitOf.f c = some (strOfNums [if c = true then 49 else 48]) := by cases c <;> rfl
theorem flag_rep (a : Nat) (b : Int) (ha : a ≤ 10) : strings_Repeat.f (strOfNums [48 + b]) ((a : Int) + 1) = some (strOfNums (List.replicate (a + 1) (48 + b))) := by
  have hz : ((strOfNums [48 + b]).size : Int) = 1 := by rw [sn_size]; rfl
  unfold strings_Repeat.f
  rw [if_pos ⟨by omega, by omega, by rw [hz]; omega⟩, sn_rep, show ((a : Int) + 1).toNat = a + 1 by omega]
theorem flag_bit0 (b : Int) (hb : 0 ≤ b ∧ b ≤ 1) : impl_bitOf.f (b == 0) = some (strOfNums [49 - b]) := by
  rw [bitOf_eq']
  by_cases h : b = 0
  · rw [h]; rfl
  · rw [show b = 1 by omega]; rfl
theorem flag_bit1 (b : Int) (hb : 0 ≤ b ∧ b ≤ 1) : impl_bitOf.f (b == 1) = some (strOfNums [48 + b]) := by
  rw [bitOf_eq']
  by_cases h : b = 0
  · rw [h]; rfl
  · rw [show b = 1 by omega]; rfl
theorem flag_eq (a : Nat) (b : Int) (ha : a ≤ 10) (hb : 0 ≤ b ∧ b ≤ 1) : impl_Stuffer_flag.f a b = some (strOfNums (flagL a b)) := by
  have l1 : (strOfNums [49 - b]).size = 1 := by rw [sn_size]; rfl
  have l2 : (strOfNums (List.replicate (a + 1) (48 + b))).size = a + 1 := by rw [sn_size, List.length_replicate]
  have l3 : (strOfNums [49 - b] ++ strOfNums (List.replicate (a + 1) (48 + b))).size = a + 2 := by rw [ByteArray.size_append, l1, l2]; omega
  unfold impl_Stuffer_flag.f
  rw [flag_bit0 b hb, Option.bind_some, flag_bit1 b hb, Option.bind_some, w64 (by omega) (by omega), flag_rep a b ha, Option.bind_some, if_pos (by rw [l1, l2]; omega), if_pos (by rw [l3, l1]; omega), flagL, sn_append, sn_append]

theorem rs_set (l : List ByteArray) (i j : Int) (v : ByteArray) (hi : 0 ≤ i) (hil : i < l.length) (hj : 0 ≤ j) : rdOf ByteArray.empty (l.set i.toNat v) j = if j = i then v else rdOf ByteArray.empty l j := by
  unfold rdOf
  by_cases e : j = i
  · subst e; rw [if_pos rfl, List.getD_eq_getElem?_getD, List.getElem?_set_self (by omega)]; rfl
  · rw [if_neg e, List.getD_eq_getElem?_getD, List.getElem?_set_ne (by omega), List.getD_eq_getElem?_getD]
theorem ext_rs (a b : List ByteArray) (h : a.length = b.length) (hp : ∀ j : Int, 0 ≤ j → j < a.length → rdOf ByteArray.empty a j = rdOf ByteArray.empty b j) : a = b := by
  apply List.ext_getElem h
  intro n h1 h2
  have := hp n (by omega) (by omega)
  unfold rdOf at this
  rw [List.getD_eq_getElem?_getD, List.getD_eq_getElem?_getD, Int.toNat_natCast, List.getElem?_eq_getElem h1, List.getElem?_eq_getElem h2] at this
  simpa using this
theorem rs_mem (l : List ByteArray) (i : Int) (h0 : 0 ≤ i) (h1 : i < l.length) : rdOf ByteArray.empty l i ∈ l := by
  unfold rdOf
  rw [List.getD_eq_getElem?_getD, List.getElem?_eq_getElem (show i.toNat < l.length by omega)]
  exact List.getElem_mem _
theorem eqStr_loop (l : List ByteArray) (hl : (l.length : Int) ≤ 4611686018427387904) (d : Nat) : ∀ i : Int, 0 ≤ i → i ≤ l.length → (l.length : Int) - i = d → Ev (fun k => laws_eqStringS.l0 k l l i) true := by
  induction d with
  | zero =>
    intro i h0 h1 hd
    refine Ev_succ ?_
    simp only [laws_eqStringS.l0, if_neg (show ¬ i < (l.length : Int) by omega)]; exact Ev.now _
  | succ d ih =>
    intro i h0 h1 hd
    refine Ev_succ ?_
    simp (disch := omega) only [laws_eqStringS.l0, w64]
    simp only [if_pos (show i < (l.length : Int) by omega), if_pos h0, if_true]
    exact ih (i + 1) (by omega) (by omega) (by omega)
theorem eqStr_ev (l : List ByteArray) (hl : (l.length : Int) ≤ 1048576) : Ev (fun k => laws_eqStringS.f k l l) true := by
  simp only [laws_eqStringS.f, if_true]
  exact eqStr_loop l (by omega) l.length 0 (by omega) (by omega) (by omega)
theorem toList_inj {a b : ByteArray} : a.toList = b.toList ↔ a = b := by
  constructor
  · intro h
    rw [Lib.toList_data, Lib.toList_data] at h
    apply ByteArray.ext
    exact Array.toList_inj.1 h
  · rintro rfl; rfl

open Lib in
theorem piece_at (s f : ByteArray) (o j : Nat) (h : o + (j + f.size) ≤ s.size) : occAt (s.extract o s.size).data.toList f.data.toList j = true ↔ (s.extract (o + j) (o + j + f.size)).toList = f.toList := by
  have hz : (s.extract o s.size).size = s.size - o := ex_size s o s.size (Nat.le_refl _)
  rw [occ_of_piece _ f j (by omega), ex_ex s o s.size j (j + f.size) h, beq_iff_eq, Nat.add_assoc]
def okP (a b : Int) (p : ByteArray) : Bool := ((⟨(stuffM a b 0 (keptL a b 0 p.data.toList)).toArray⟩ : ByteArray).toList == p.toList)
def kpP (a b : Int) (p : ByteArray) : ByteArray := ⟨(keptL a b 0 p.data.toList).toArray⟩
def addP (a b : Int) (out : List ByteArray) (p : ByteArray) : List ByteArray := if okP a b p = true ∧ p.size ≠ 0 then out ++ [kpP a b p] else out
theorem kp_empty (a b : Int) (ha : 1 ≤ a) (p : ByteArray) : (kpP a b p).toList = [] ↔ p.size = 0 := by
  have hd : p.data.toList.length = p.size := dl_size p
  rw [Lib.toList_data]
  show keptL a b 0 p.data.toList = [] ↔ _
  cases h : p.data.toList with
  | nil => rw [h] at hd; simp [keptL]; simpa using hd.symm
  | cons c r =>
    rw [h] at hd
    simp only [keptL, if_neg (show ¬ (0 : Int) = a by omega)]
    constructor
    · intro g; split at g <;> cases g
    · intro g; rw [g] at hd; simp at hd
theorem addP_length (a b : Int) (out : List ByteArray) (p : ByteArray) : (addP a b out p).length ≤ out.length + 1 := by
  unfold addP; split <;> simp
theorem rs_nat (l : List ByteArray) (n : Nat) (h : n < l.length) : rdOf ByteArray.empty l n = l[n] := by
  unfold rdOf; rw [Int.toNat_natCast, List.getD_eq_getElem?_getD, List.getElem?_eq_getElem h]; rfl
theorem mid_loop (a b : Int) (ha : 1 ≤ a) (hb : 0 ≤ b ∧ b ≤ 1) (L : List ByteArray) (hL : L.length ≤ 1000) (hp : ∀ p ∈ L, AllBit p ∧ p.size ≤ 400) (d : Nat) : ∀ (out : List ByteArray) (i : Nat), i + d = L.length → 1 ≤ i → out.length ≤ i →
    Ev (fun k => impl_DeframeBits.l0 k L out L L.length i a b) (((L.drop i).dropLast.foldl (addP a b) out), true) := by
  induction d with
  | zero =>
    intro out i hd hi ho
    rw [List.drop_of_length_le (by omega)]
    refine Ev_succ ?_
    simp only [impl_DeframeBits.l0, if_neg (show ¬ (i : Int) < (L.length : Int) by omega)]; exact Ev.now _
  | succ d ih =>
    intro out i hd hi ho
    have hin : i < L.length := by omega
    have q : (i : Int) < (L.length : Int) := by omega
    have q0 : (0 : Int) ≤ i := by omega
    have q1 : ¬ (i : Int) = 0 := by omega
    have b1 : -9223372036854775808 ≤ (L.length : Int) - 1 ∧ (L.length : Int) - 1 ≤ 9223372036854775807 := by omega
    have b2 : -9223372036854775808 ≤ ((i + 1 : Nat) : Int) ∧ ((i + 1 : Nat) : Int) ≤ 9223372036854775807 := by omega
    have b3 : (i : Int) + 1 = ((i + 1 : Nat) : Int) := by omega
    have hdrop : L.drop i = L[i] :: L.drop (i + 1) := List.drop_eq_getElem_cons hin
    have hrs := rs_nat L i hin
    by_cases hl : (i : Int) = (L.length : Int) - 1
    · have e0 : (L.drop i).dropLast = [] := by rw [hdrop, List.drop_of_length_le (by omega)]; rfl
      have ihE := ih out (i + 1) (by omega) (by omega) (by omega)
      rw [List.drop_of_length_le (by omega)] at ihE
      rw [e0]
      refine Ev_succ ?_
      simp only [impl_DeframeBits.l0, if_pos q, if_pos q0, if_neg q1, w64 b1.1 b1.2, beq_iff_eq.2 hl]
      refine Ev_succ ?_
      simp only [impl_DeframeBits.j2, if_true, b3, w64 b2.1 b2.2]
      exact ihE
    · obtain ⟨hA, h4⟩ := hp L[i] (List.getElem_mem hin)
      obtain ⟨t, hB, hT⟩ := unstuff_eq L[i] a b ha hb h4 hA
      have hok : okP a b L[i] = ((⟨(stuffM a b 0 (keptL a b 0 L[i].data.toList)).toArray⟩ : ByteArray).toList == L[i].toList) := rfl
      rw [← hok] at hB hT
      have hne : L.drop (i + 1) ≠ [] := by intro g; have := congrArg List.length g; rw [List.length_drop] at this; simp at this; omega
      have e0 : (L.drop i).dropLast = L[i] :: (L.drop (i + 1)).dropLast := by
        rw [hdrop]
        cases hq : L.drop (i + 1) with
        | nil => exact absurd hq hne
        | cons c r => rfl
      have hal := addP_length a b out L[i]
      have ihE := ih (addP a b out L[i]) (i + 1) (by omega) (by omega) (by omega)
      rw [e0, List.foldl_cons]
      have lt : out.length < 8796093022208 := by omega
      have hne2 : ((i : Int) == (L.length : Int) - 1) = false := beq_eq_false_iff_ne.2 hl
      refine Ev_succ ?_
      simp only [impl_DeframeBits.l0, if_pos q, if_pos q0, if_neg q1, w64 b1.1 b1.2, hne2]
      refine Ev_succ ?_
      simp only [impl_DeframeBits.j2, Bool.false_eq_true, if_false, hrs, hB, Option.bind_some, b3, w64 b2.1 b2.2]
      cases hc : okP a b L[i] with
      | false =>
        have ea : addP a b out L[i] = out := by unfold addP; rw [hc]; simp
        rw [ea] at ihE
        simp only [Bool.false_eq_true, if_false]; rw [ea]; exact ihE
      | true =>
        have ht : t = kpP a b L[i] := hT hc
        subst ht
        have hk := kp_empty a b ha L[i]
        by_cases hz : L[i].size = 0
        · have ea : addP a b out L[i] = out := by unfold addP; rw [if_neg (fun g => g.2 hz)]
          rw [ea] at ihE
          simp only [if_true, if_pos (hk.2 hz)]; rw [ea]; exact ihE
        · have ea : addP a b out L[i] = out ++ [kpP a b L[i]] := by unfold addP; rw [if_pos ⟨hc, hz⟩]
          rw [ea] at ihE
          simp only [if_true, if_neg (fun g => hz (hk.1 g)), if_pos lt]; rw [ea]; exact ihE
theorem parts_ev (a b : Int) (ha : 1 ≤ a) (hb : 0 ≤ b ∧ b ≤ 1) (L : List ByteArray) (hL : L.length ≤ 1000) (hp : ∀ p ∈ L, AllBit p ∧ p.size ≤ 400) :
    Ev (fun k => impl_DeframeBits.l0 k L [] L L.length 0 a b) (((L.drop 1).dropLast.foldl (addP a b) []), true) := by
  by_cases h : L.length = 0
  · rw [List.drop_of_length_le (by omega)]
    refine Ev_succ ?_
    simp only [impl_DeframeBits.l0, if_neg (show ¬ (0 : Int) < (L.length : Int) by omega)]; exact Ev.now _
  · have hE := mid_loop a b ha hb L hL hp (L.length - 1) [] 1 (by omega) (Nat.le_refl _) (by simp)
    have q : (0 : Int) < (L.length : Int) := by omega
    have q0 : (0 : Int) ≤ 0 := by omega
    have b2 : -9223372036854775808 ≤ ((1 : Nat) : Int) ∧ ((1 : Nat) : Int) ≤ 9223372036854775807 := by omega
    have b3 : (0 : Int) + 1 = ((1 : Nat) : Int) := by omega
    refine Ev_succ ?_
    simp only [impl_DeframeBits.l0, if_pos q, if_pos q0, if_true]
    refine Ev_succ ?_
    simp only [impl_DeframeBits.j2, if_true, b3, w64 b2.1 b2.2]
    exact hE
theorem split_parts (f : ByteArray) (hf : 1 ≤ f.size) : ∀ (k : Nat) (s : ByteArray), AllBit s → s.size ≤ 400 → ∀ p ∈ Lib.splitB f 0 k s, AllBit p ∧ p.size ≤ 400
  | 0, s, h, hs, p, hp => by
    rw [Lib.splitB_zero, List.mem_singleton] at hp
    rw [hp]; exact ⟨h, hs⟩
  | k + 1, s, h, hs, p, hp => by
    rcases Lib.indexB_cases s f with hix | ⟨i, hix, hroom⟩
    · rw [Lib.splitB_miss f 0 (k + 1) s hix, List.mem_singleton] at hp
      rw [hp]; exact ⟨h, hs⟩
    · rw [Lib.splitB_hit f 0 k s i hix] at hp
      rcases List.mem_cons.1 hp with e | e
      · rw [e]; exact ⟨AllBit_extract s h 0 (i + 0) (by omega), by rw [ex_size s 0 (i + 0) (by omega)]; omega⟩
      · exact split_parts f hf k _ (AllBit_extract s h (i + f.size) s.size (Nat.le_refl _)) (by rw [ex_size s (i + f.size) s.size (Nat.le_refl _)]; omega) p e

theorem markText_loop (d : Nat) : ∀ (x : Nat) (t : ByteArray), x ≤ d → t.size + x ≤ 1000000000000000 → ∃ r, Ev (fun k => laws_markText.l0 k (x : Int) t) r := by
  induction d with
  | zero =>
    intro x t hx ht
    obtain rfl : x = 0 := by omega
    refine ⟨(⟨#[109]⟩ : ByteArray) ++ t, Ev_succ ?_⟩
    simp only [laws_markText.l0, if_neg (show ¬ ((0 : Nat) : Int) > 0 by omega), if_pos (show 1 + t.size ≤ 9223372036854775807 by omega)]
    exact Ev.now _
  | succ d ih =>
    intro x t hx ht
    by_cases c : x = 0
    · subst c
      refine ⟨(⟨#[109]⟩ : ByteArray) ++ t, Ev_succ ?_⟩
      simp only [laws_markText.l0, if_neg (show ¬ ((0 : Nat) : Int) > 0 by omega), if_pos (show 1 + t.size ≤ 9223372036854775807 by omega)]
      exact Ev.now _
    · have c0 : (x : Int) > 0 := by omega
      have e1 : Int.tdiv (x : Int) 10 = ((x / 10 : Nat) : Int) := by rw [Int.tdiv_eq_ediv_of_nonneg (by omega)]; omega
      have b1 : -9223372036854775808 ≤ ((x / 10 : Nat) : Int) ∧ ((x / 10 : Nat) : Int) ≤ 9223372036854775807 := by omega
      have hz : ∀ v : Int, (strOfNums [v]).size + t.size ≤ 9223372036854775807 := fun v => by rw [sn_size]; show 1 + _ ≤ _; omega
      obtain ⟨r, hr⟩ := ih (x / 10) (strOfNums [(wrap64 (48 + (Int.tmod (x : Int) 10))) % 256] ++ t) (by omega) (by rw [ByteArray.size_append, sn_size]; show 1 + _ + _ ≤ _; omega)
      refine ⟨r, Ev_succ ?_⟩
      simp only [laws_markText.l0, if_pos c0, Option.bind_some, if_pos (hz _), e1, w64 b1.1 b1.2]
      exact hr
theorem markText_ev (x : Int) (h0 : 1 ≤ x) (h1 : x ≤ 100000000000) : ∃ r, Ev (fun k => laws_markText.f k x) r := by
  obtain ⟨n, rfl⟩ : ∃ n : Nat, x = n := ⟨x.toNat, by omega⟩
  obtain ⟨r, hr⟩ := markText_loop n n (⟨#[]⟩ : ByteArray) (Nat.le_refl _) (by show 0 + n ≤ _; omega)
  refine ⟨r, ?_⟩
  simp only [laws_markText.f, if_neg (show ¬ (n : Int) ≤ 0 by omega)]
  exact hr
theorem markStr_loop (n : Int) (hn : n ≤ 1000000000) (d : Nat) : ∀ (l : List ByteArray) (i : Int), (l.length : Int) = n → 0 ≤ i → i ≤ n → n - i = d → (∀ j, 0 ≤ j → j < i → Ev (fun k => laws_markText.f k (1 + j)) (rdOf ByteArray.empty l j)) →
    ∃ m, Ev (fun k => laws_markStringS.l0 k l (1 + i) i) (1 + n, m) ∧ (m.length : Int) = n ∧ ∀ j, 0 ≤ j → j < n → Ev (fun k => laws_markText.f k (1 + j)) (rdOf ByteArray.empty m j) := by
  induction d with
  | zero =>
    intro l i hl h0 h1 hd hp
    obtain rfl : i = n := by omega
    refine ⟨l, Ev_succ ?_, hl, hp⟩
    simp only [laws_markStringS.l0, if_neg (show ¬ i < (l.length : Int) by omega)]
    exact Ev.now _
  | succ d ih =>
    intro l i hl h0 h1 hd hp
    obtain ⟨t, ht⟩ := markText_ev (1 + i) (by omega) (by omega)
    obtain ⟨m, hm, g⟩ := ih (l.set i.toNat t) (i + 1) (by rw [List.length_set]; exact hl) (by omega) (by omega) (by omega) (fun j g0 g1 => by
      rw [rs_set l i j _ h0 (by omega) g0]
      by_cases e : j = i
      · rw [if_pos e, e]; exact ht
      · rw [if_neg e]; exact hp j g0 (by omega))
    have b1 : -9223372036854775808 ≤ 1 + i + 1 ∧ 1 + i + 1 ≤ 9223372036854775807 := by omega
    have b2 : -9223372036854775808 ≤ i + 1 ∧ i + 1 ≤ 9223372036854775807 := by omega
    refine ⟨m, Ev_succ ?_, g⟩
    simp only [laws_markStringS.l0, if_pos (show i < (l.length : Int) by omega)]
    refine Ev.bind ht ?_
    simp only [if_pos h0, w64 b1.1 b1.2, w64 b2.1 b2.2]
    rw [show 1 + i + 1 = 1 + (i + 1) by omega]
    exact hm
theorem markStr_ev (l : List ByteArray) (hn : (l.length : Int) ≤ 1000000000) :
    ∃ m, Ev (fun k => laws_markStringS.f k l 1) (1 + (l.length : Int), m) ∧ m.length = l.length ∧ ∀ j, 0 ≤ j → j < (l.length : Int) → Ev (fun k => laws_markText.f k (1 + j)) (rdOf ByteArray.empty m j) := by
  obtain ⟨m, h, h1, h2⟩ := markStr_loop l.length hn l.length l 0 rfl (by omega) (by omega) (by omega) (fun j _ _ => by omega)
  exact ⟨m, h, by omega, h2⟩
theorem heldStr_loop (m : List ByteArray) (hn : (m.length : Int) ≤ 1000000000) (hp : ∀ j, 0 ≤ j → j < (m.length : Int) → Ev (fun k => laws_markText.f k (1 + j)) (rdOf ByteArray.empty m j)) (d : Nat) : ∀ i : Int, 0 ≤ i → i ≤ m.length → (m.length : Int) - i = d →
    Ev (fun k => laws_heldStringS.l0 k m (1 + i) i) (1 + (m.length : Int)) := by
  induction d with
  | zero =>
    intro i h0 h1 hd
    have e : i = (m.length : Int) := by omega
    refine Ev_succ ?_
    simp only [laws_heldStringS.l0, if_neg (show ¬ i < (m.length : Int) by omega)]
    rw [e]
    exact Ev.now _
  | succ d ih =>
    intro i h0 h1 hd
    have q : i < (m.length : Int) := by omega
    have b1 : -9223372036854775808 ≤ 1 + i + 1 ∧ 1 + i + 1 ≤ 9223372036854775807 := by omega
    have b2 : -9223372036854775808 ≤ i + 1 ∧ i + 1 ≤ 9223372036854775807 := by omega
    refine Ev_succ ?_
    simp only [laws_heldStringS.l0, if_pos q, if_pos h0]
    refine Ev.bind (hp i h0 q) ?_
    simp only [if_true, w64 b1.1 b1.2, w64 b2.1 b2.2]
    rw [show 1 + i + 1 = 1 + (i + 1) by omega]
    exact ih (i + 1) (by omega) (by omega) (by omega)
theorem heldStr_ev (m : List ByteArray) (hn : (m.length : Int) ≤ 1000000000) (hp : ∀ j, 0 ≤ j → j < (m.length : Int) → Ev (fun k => laws_markText.f k (1 + j)) (rdOf ByteArray.empty m j)) :
    Ev (fun k => laws_heldStringS.f k m 1) (1 + (m.length : Int)) :=
  heldStr_loop m hn hp m.length 0 (by omega) (by omega) (by omega)

def FnExactDeframeBits_Pure : Prop := ∀ (a0_0 : Int) (a0_1 : Int) (a1 : ByteArray), (Lit.int .i64 a0_0).wf = true → (Lit.int .i64 a0_1).wf = true → a1.size ≤ 140737488351232 → ∃ k, laws_FnExactDeframeBits.f k a0_0 a0_1 a1 = some true
theorem spec_skip (s f : ByteArray) (hs : s.size ≤ 400) (hf : 1 ≤ f.size ∧ f.size ≤ 100) (a b frm : Int) (o : Nat) (out : List ByteArray) (r : List ByteArray × Bool) (d : Nat) : ∀ (j : Nat), (∀ j', j ≤ j' → j' < j + d → o + (j' + f.size) ≤ s.size ∧ Lib.occAt (s.extract o s.size).data.toList f.data.toList j' = false) →
    Ev (fun k => spec_DeframeBits.l0 k s f out frm ((o + (j + d) : Nat) : Int) a b) r → Ev (fun k => spec_DeframeBits.l0 k s f out frm ((o + j : Nat) : Int) a b) r := by
  induction d with
  | zero => intro j _ h; exact h
  | succ d ih =>
    intro j hno h
    obtain ⟨h1, h2⟩ := hno j (Nat.le_refl _) (by omega)
    have hne : ¬ (s.extract (o + j) (o + j + f.size)).toList = f.toList := fun g => by
      rw [(piece_at s f o j h1).2 g] at h2; cases h2
    have h := ih (j + 1) (fun j' g0 g1 => hno j' (by omega) (by omega)) (by rw [show j + 1 + d = j + (d + 1) by omega]; exact h)
    have b1 : -9223372036854775808 ≤ ((o + j : Nat) : Int) + (f.size : Int) ∧ ((o + j : Nat) : Int) + (f.size : Int) ≤ 9223372036854775807 := by omega
    have b2 : -9223372036854775808 ≤ ((o + (j + 1) : Nat) : Int) ∧ ((o + (j + 1) : Nat) : Int) ≤ 9223372036854775807 := by omega
    have b3 : ((o + j : Nat) : Int) + 1 = ((o + (j + 1) : Nat) : Int) := by omega
    have q1 : ((o + j : Nat) : Int) + (f.size : Int) ≤ (s.size : Int) := by omega
    have q2 : (0 : Int) ≤ ((o + j : Nat) : Int) := by omega
    have q3 : ((o + j : Nat) : Int) ≤ ((o + j : Nat) : Int) + (f.size : Int) := by omega
    have q4 : (((o + j : Nat) : Int) + (f.size : Int)).toNat = o + j + f.size := by omega
    refine Ev_succ ?_
    simp only [spec_DeframeBits.l0, w64 b1.1 b1.2, if_pos q1, if_pos q2, if_pos q3, Int.toNat_natCast, q4, if_neg hne, b3, w64 b2.1 b2.2]
    exact h
theorem spec_over (s f : ByteArray) (hs : s.size ≤ 400) (hf : 1 ≤ f.size ∧ f.size ≤ 100) (a b frm : Int) (o : Nat) (ho : o ≤ s.size) (out : List ByteArray) (hm : Lib.indexB (s.extract o s.size) f = -1) :
    Ev (fun k => spec_DeframeBits.l0 k s f out frm (o : Int) a b) (out, true) := by
  have hz : (s.extract o s.size).data.toList.length = s.size - o := by rw [dl_size, ex_size s o s.size (Nat.le_refl _)]
  rcases Lib.index_spec (s.extract o s.size).data.toList f.data.toList with ⟨-, hno⟩ | ⟨i, hi, -⟩
  · have fin : ∀ p : Nat, s.size < p + f.size → p ≤ s.size + 1 → Ev (fun k => spec_DeframeBits.l0 k s f out frm (p : Int) a b) (out, true) := by
      intro p hp hp2
      have b1 : -9223372036854775808 ≤ (p : Int) + (f.size : Int) ∧ (p : Int) + (f.size : Int) ≤ 9223372036854775807 := by omega
      refine Ev_succ ?_
      simp only [spec_DeframeBits.l0, w64 b1.1 b1.2, if_neg (show ¬ (p : Int) + (f.size : Int) ≤ (s.size : Int) by omega)]; exact Ev.now _
    by_cases c : s.size < o + f.size
    · exact fin o c (by omega)
    · have := spec_skip s f hs hf a b frm o out (out, true) (s.size + 1 - f.size - o) 0 (fun j' g0 g1 => ⟨by omega, hno j' (by omega)⟩) (by
        rw [show o + (0 + (s.size + 1 - f.size - o)) = s.size + 1 - f.size by omega]
        exact fin _ (by omega) (by omega))
      exact this
  · have : Lib.indexB (s.extract o s.size) f = i := hi
    omega
theorem spec_parts (s f : ByteArray) (hs : s.size ≤ 400) (hf : 1 ≤ f.size ∧ f.size ≤ 100) (a b : Int) (ha : 1 ≤ a) (hb : 0 ≤ b ∧ b ≤ 1) (hA : AllBit s) : ∀ (k o : Nat) (out : List ByteArray), o ≤ s.size → Lib.countB (s.extract o s.size) f = k → out.length ≤ o →
    Ev (fun n => spec_DeframeBits.l0 n s f out (o : Int) (o : Int) a b) ((Lib.splitB f 0 k (s.extract o s.size)).dropLast.foldl (addP a b) out, true)
  | 0, o, out, ho, hk, hol => by
    rcases Lib.indexB_cases (s.extract o s.size) f with hix | ⟨i, hix, hroom⟩
    · exact spec_over s f hs hf a b o o ho out hix
    · rw [Lib.countB_hit _ f i hf.1 hix] at hk; omega
  | k + 1, o, out, ho, hk, hol => by
    have hz : (s.extract o s.size).size = s.size - o := ex_size s o s.size (Nat.le_refl _)
    rcases Lib.indexB_cases (s.extract o s.size) f with hix | ⟨i, hix, hroom⟩
    · rw [Lib.countB_miss _ f hix] at hk; omega
    rw [hz] at hroom
    have hc := Lib.countB_hit _ f i hf.1 hix
    have hocc : Lib.occAt (s.extract o s.size).data.toList f.data.toList i = true ∧ ∀ j, j < i → Lib.occAt (s.extract o s.size).data.toList f.data.toList j = false := by
      rcases Lib.index_spec (s.extract o s.size).data.toList f.data.toList with ⟨h1, -⟩ | ⟨i2, h1, -, h2, h3⟩
      · have : Lib.indexB (s.extract o s.size) f = -1 := h1
        omega
      · have : Lib.indexB (s.extract o s.size) f = i2 := h1
        obtain rfl : i2 = i := by omega
        exact ⟨h2, h3⟩
    have hrest : (s.extract o s.size).extract (i + f.size) (s.extract o s.size).size = s.extract (o + i + f.size) s.size := by
      rw [hz, ex_ex s o s.size _ _ (by omega), show o + (i + f.size) = o + i + f.size by omega, show o + (s.size - o) = s.size by omega]
    have hpart : (s.extract o s.size).extract 0 (i + 0) = s.extract o (o + i) := by rw [ex_ex s o s.size 0 (i + 0) (by omega)]; rfl
    rw [hrest] at hc
    have hsp : Lib.splitB f 0 (k + 1) (s.extract o s.size) = s.extract o (o + i) :: Lib.splitB f 0 k (s.extract (o + i + f.size) s.size) := by
      rw [Lib.splitB_hit f 0 k _ i hix, hrest, hpart]
    have hne : Lib.splitB f 0 k (s.extract (o + i + f.size) s.size) ≠ [] := by
      intro g
      have := Lib.splitB_all f hf.1 0 k (s.extract (o + i + f.size) s.size) (by omega)
      rw [g] at this; simp at this
    have hdl : (Lib.splitB f 0 (k + 1) (s.extract o s.size)).dropLast = s.extract o (o + i) :: (Lib.splitB f 0 k (s.extract (o + i + f.size) s.size)).dropLast := by
      rw [hsp]
      cases hq : Lib.splitB f 0 k (s.extract (o + i + f.size) s.size) with
      | nil => exact absurd hq hne
      | cons c r => rfl
    rw [hdl, List.foldl_cons]
    have hal := addP_length a b out (s.extract o (o + i))
    have ih := spec_parts s f hs hf a b ha hb hA k (o + i + f.size) (addP a b out (s.extract o (o + i))) (by omega) (by omega) (by omega)
    refine spec_skip s f hs hf a b o o out _ i 0 (fun j' g0 g1 => ⟨by omega, hocc.2 j' (by omega)⟩) ?_
    rw [Nat.zero_add]
    have hm := (piece_at s f o i (by omega)).1 hocc.1
    have hpz : (s.extract o (o + i)).size = i := by rw [ex_size s o (o + i) (by omega)]; omega
    have hun := unstuff_ev (s.extract o (o + i)) a b hb (by omega)
    have b1 : -9223372036854775808 ≤ ((o + i : Nat) : Int) + (f.size : Int) ∧ ((o + i : Nat) : Int) + (f.size : Int) ≤ 9223372036854775807 := by omega
    have b4 : -9223372036854775808 ≤ ((o + i : Nat) : Int) + (f.size : Int) - 1 ∧ ((o + i : Nat) : Int) + (f.size : Int) - 1 ≤ 9223372036854775807 := by omega
    have b5 : ((o + i : Nat) : Int) + (f.size : Int) - 1 + 1 = ((o + i : Nat) : Int) + (f.size : Int) := by omega
    have b6 : ((o + i : Nat) : Int) + (f.size : Int) = ((o + i + f.size : Nat) : Int) := by omega
    have q1 : ((o + i : Nat) : Int) + (f.size : Int) ≤ (s.size : Int) := by omega
    have q2 : (0 : Int) ≤ ((o + i : Nat) : Int) := by omega
    have q3 : ((o + i : Nat) : Int) ≤ ((o + i : Nat) : Int) + (f.size : Int) := by omega
    have q4 : (((o + i : Nat) : Int) + (f.size : Int)).toNat = o + i + f.size := by omega
    have q5 : (o : Int) ≥ 0 := by omega
    have q6 : (o : Int) ≤ ((o + i : Nat) : Int) := by omega
    have q7 : ((o + i : Nat) : Int) ≤ (s.size : Int) := by omega
    have lt : out.length < 8796093022208 := by omega
    rw [← b6] at ih
    refine Ev_succ ?_
    simp only [spec_DeframeBits.l0, w64 b1.1 b1.2, if_pos q1, if_pos q2, if_pos q3, Int.toNat_natCast, q4, if_pos hm, if_pos q5]
    by_cases hi : i = 0
    · have g : ¬ ((o + i : Nat) : Int) > (o : Int) := by omega
      have ea : addP a b out (s.extract o (o + i)) = out := by unfold addP; rw [if_neg (fun g => g.2 (by omega))]
      rw [ea] at ih ⊢
      rw [decide_eq_false g]
      refine Ev_succ ?_
      simp only [spec_DeframeBits.j2, Bool.false_eq_true, if_false, w64 b1.1 b1.2, w64 b4.1 b4.2, b5]
      exact ih
    · have g : ((o + i : Nat) : Int) > (o : Int) := by omega
      rw [decide_eq_true g]
      refine Ev_succ ?_
      simp only [spec_DeframeBits.j2, if_true, if_pos (show (0 : Int) ≤ (o : Int) from q5), if_pos q6, if_pos q7, Int.toNat_natCast]
      refine Ev.bind hun ?_
      have hok : okP a b (s.extract o (o + i)) = ((⟨(stuffM a b 0 (keptL a b 0 (s.extract o (o + i)).data.toList)).toArray⟩ : ByteArray).toList == (s.extract o (o + i)).toList) := rfl
      simp only [← hok]
      cases hcz : okP a b (s.extract o (o + i)) with
      | false =>
        have ea : addP a b out (s.extract o (o + i)) = out := by unfold addP; rw [hcz]; simp
        rw [ea] at ih ⊢
        simp only [Bool.false_eq_true, if_false, w64 b1.1 b1.2, w64 b4.1 b4.2, b5]
        exact ih
      | true =>
        have ea : addP a b out (s.extract o (o + i)) = out ++ [kpP a b (s.extract o (o + i))] := by unfold addP; rw [if_pos ⟨hcz, by omega⟩]
        rw [ea] at ih ⊢
        simp only [if_true, if_pos lt, w64 b1.1 b1.2, w64 b4.1 b4.2, b5]
        exact ih
theorem spec_first (s f : ByteArray) (hs : s.size ≤ 400) (hf : 1 ≤ f.size ∧ f.size ≤ 100) (a b : Int) (ha : 1 ≤ a) (hb : 0 ≤ b ∧ b ≤ 1) (hA : AllBit s) :
    Ev (fun n => spec_DeframeBits.l0 n s f [] (-1) 0 a b) (((Lib.splitB f 0 (Lib.countB s f) s).drop 1).dropLast.foldl (addP a b) [], true) := by
  have hw : s.extract 0 s.size = s := ex_whole s
  rcases Lib.indexB_cases s f with hix | ⟨i, hix, hroom⟩
  · rw [Lib.countB_miss s f hix, Lib.splitB_zero]
    exact spec_over s f hs hf a b (-1) 0 (Nat.zero_le _) [] (by rw [hw]; exact hix)
  have hc := Lib.countB_hit s f i hf.1 hix
  obtain ⟨k, hk⟩ : ∃ k, k = Lib.countB (s.extract (i + f.size) s.size) f := ⟨_, rfl⟩
  rw [← hk] at hc
  rw [hc, Nat.add_comm 1 k, Lib.splitB_hit f 0 k s i hix, List.drop_succ_cons, List.drop_zero]
  have hocc : Lib.occAt (s.extract 0 s.size).data.toList f.data.toList i = true ∧ ∀ j, j < i → Lib.occAt (s.extract 0 s.size).data.toList f.data.toList j = false := by
    rw [hw]
    rcases Lib.index_spec s.data.toList f.data.toList with ⟨h1, -⟩ | ⟨i2, h1, -, h2, h3⟩
    · have : Lib.indexB s f = -1 := h1
      omega
    · have : Lib.indexB s f = i2 := h1
      obtain rfl : i2 = i := by omega
      exact ⟨h2, h3⟩
  have hE := spec_parts s f hs hf a b ha hb hA k (i + f.size) [] (by omega) hk.symm (by simp)
  have := spec_skip s f hs hf a b (-1) 0 [] ((Lib.splitB f 0 k (s.extract (i + f.size) s.size)).dropLast.foldl (addP a b) [], true) i 0 (fun j' g0 g1 => ⟨by omega, hocc.2 j' (by omega)⟩) (by
    rw [Nat.zero_add]
    have hm := (piece_at s f 0 i (by omega)).1 hocc.1
    have b1 : -9223372036854775808 ≤ ((0 + i : Nat) : Int) + (f.size : Int) ∧ ((0 + i : Nat) : Int) + (f.size : Int) ≤ 9223372036854775807 := by omega
    have b4 : -9223372036854775808 ≤ ((0 + i : Nat) : Int) + (f.size : Int) - 1 ∧ ((0 + i : Nat) : Int) + (f.size : Int) - 1 ≤ 9223372036854775807 := by omega
    have b5 : ((0 + i : Nat) : Int) + (f.size : Int) - 1 + 1 = ((0 + i : Nat) : Int) + (f.size : Int) := by omega
    have b6 : ((0 + i : Nat) : Int) + (f.size : Int) = ((i + f.size : Nat) : Int) := by omega
    have q1 : ((0 + i : Nat) : Int) + (f.size : Int) ≤ (s.size : Int) := by omega
    have q2 : (0 : Int) ≤ ((0 + i : Nat) : Int) := by omega
    have q3 : ((0 + i : Nat) : Int) ≤ ((0 + i : Nat) : Int) + (f.size : Int) := by omega
    have q4 : (((0 + i : Nat) : Int) + (f.size : Int)).toNat = 0 + i + f.size := by omega
    have q5 : ¬ (-1 : Int) ≥ 0 := by omega
    rw [← b6] at hE
    refine Ev_succ ?_
    simp only [spec_DeframeBits.l0, w64 b1.1 b1.2, if_pos q1, if_pos q2, if_pos q3, Int.toNat_natCast, q4, if_pos hm, if_neg q5]
    refine Ev_succ ?_
    simp only [spec_DeframeBits.j2, Bool.false_eq_true, if_false, w64 b1.1 b1.2, w64 b4.1 b4.2, b5]
    exact hE)
  exact this
theorem fold_length (a b : Int) : ∀ (L : List ByteArray) (out : List ByteArray), (L.foldl (addP a b) out).length ≤ out.length + L.length
  | [], out => by simp
  | p :: L, out => by
    rw [List.foldl_cons]
    have := fold_length a b L (addP a b out p)
    have := addP_length a b out p
    simp; omega
theorem deframe_both (a b : Int) (s : ByteArray) (hs : (s.size : Int) ≤ 1048576) : ∃ r, (r.1.length : Int) ≤ 1000000 ∧ Ev (fun k => spec_DeframeBits.f k a b s) r ∧ Ev (fun k => impl_DeframeBits.f k a b s) r := by
  obtain ⟨c, h1, h2, h3⟩ := l04Is_eq a b
  obtain ⟨d, hc, hd, he⟩ := bits_same s (by omega)
  have no : Ev (fun k => spec_DeframeBits.j0 k s true a b) (([] : List ByteArray), false) := by
    refine Ev_succ ?_; simp only [spec_DeframeBits.j0, if_true]; exact Ev.now _
  have no' : Ev (fun k => impl_DeframeBits.j0 k s true a b) (([] : List ByteArray), false) := by
    refine Ev_succ ?_; simp only [impl_DeframeBits.j0, if_true]; exact Ev.now _
  simp only [spec_DeframeBits.f, impl_DeframeBits.f, h1, h2, hd, Option.bind_some]
  cases c with
  | false => exact ⟨([], false), by simp, by simp only [Bool.false_eq_true, if_false]; exact no, by simp only [Bool.false_eq_true, if_false]; exact no'⟩
  | true =>
    have hok := h3.1 rfl
    cases d with
    | false => exact ⟨([], false), by simp, by simp only [if_true]; exact Ev.bind hc (by simp only [Bool.not_false]; exact no), by simp only [if_true, Bool.not_false]; exact no'⟩
    | true =>
      have ⟨hall, h400⟩ := he.1 rfl
      obtain ⟨n, rfl⟩ : ∃ n : Nat, a = n := ⟨a.toNat, by have := hok.1; omega⟩
      have hn := hok.1
      have hfz : (strOfNums (flagL n b)).size = n + 3 := by rw [sn_size, flagL_length]
      have hF : 1 ≤ (strOfNums (flagL n b)).size ∧ (strOfNums (flagL n b)).size ≤ 100 := by rw [hfz]; omega
      have hS := spec_first s (strOfNums (flagL n b)) (by omega) hF n b hn.1 hok.2 hall
      have hcl := Lib.countB_le (strOfNums (flagL n b)) hF.1 _ s (Nat.le_refl _)
      have hll := Lib.splitB_all (strOfNums (flagL n b)) hF.1 0 _ s rfl
      have hps := split_parts _ hF.1 (Lib.countB s (strOfNums (flagL n b))) s hall (by omega)
      have hsp : strings_Split.f s (strOfNums (flagL n b)) = some (Lib.splitB (strOfNums (flagL n b)) 0 (Lib.countB s (strOfNums (flagL n b))) s) := by
        rw [strings_Split.f, if_pos ⟨by omega, hF.1⟩]
      generalize Lib.splitB (strOfNums (flagL n b)) 0 (Lib.countB s (strOfNums (flagL n b))) s = L at hS hll hps hsp
      have hI := parts_ev n b hn.1 hok.2 L (by omega) hps
      have hfl := fold_length (n : Int) b (L.drop 1).dropLast []
      refine ⟨((L.drop 1).dropLast.foldl (addP n b) [], true), ?_, ?_, ?_⟩
      · show (((L.drop 1).dropLast.foldl (addP n b) []).length : Int) ≤ 1000000
        rw [List.length_dropLast, List.length_drop] at hfl
        simp only [List.length_nil] at hfl
        omega
      · simp only [if_true]
        refine Ev.bind hc ?_
        simp only [Bool.not_true]
        refine Ev_succ ?_
        simp only [spec_DeframeBits.j0, Bool.false_eq_true, if_false]
        exact Ev.bind (l04Flag_ev n b (by omega) hok.2) hS
      · simp only [if_true, Bool.not_true]
        refine Ev_succ ?_
        simp only [impl_DeframeBits.j0, Bool.false_eq_true, if_false, flag_eq n b (by omega) hok.2, hsp, Option.bind_some]
        exact hI
theorem FnExactDeframeBits : FnExactDeframeBits_Pure := by
  intro a b s _ _ _
  apply Ev.rounds
  simp only [laws_FnExactDeframeBits.f]
  by_cases hbig : (s.size : Int) > 1048576
  · simp only [if_pos hbig]; exact Ev.now _
  simp only [if_neg hbig, toStuffer_eq, Option.bind_some]
  obtain ⟨⟨r, ok⟩, hl, hA, hB⟩ := deframe_both a b s (by omega)
  simp only at hl
  have he := eqStr_ev r (by omega)
  obtain ⟨m, hm, hml, hmp⟩ := markStr_ev r (by omega)
  have hh := heldStr_ev m (by omega) (fun j h0 h1 => hmp j h0 (by omega))
  rw [hml] at hh
  have g1 : ¬ (1 + (r.length : Int) < 0) := by omega
  refine Ev.bind hA (Ev.bind hB (Ev.bind he ?_))
  simp only [if_true, bne_self_eq_false]
  refine Ev_succ ?_
  simp only [laws_FnExactDeframeBits.j0, Bool.false_eq_true, if_false]
  refine Ev.bind hm (Ev.bind hh ?_)
  simp only [if_neg g1, if_true, toStuffer_eq, Option.bind_some]
  refine Ev.bind hB (Ev.bind he ?_)
  simp only [if_true, bne_self_eq_false]
  refine Ev_succ ?_
  simp only [laws_FnExactDeframeBits.j1, Bool.false_eq_true, if_false]
  refine Ev.bind hh ?_
  simp only [if_neg g1, if_true]
  exact Ev.now _

end Go.Proofs.YtbifbbfkcbgnlaaDoor.Pure
