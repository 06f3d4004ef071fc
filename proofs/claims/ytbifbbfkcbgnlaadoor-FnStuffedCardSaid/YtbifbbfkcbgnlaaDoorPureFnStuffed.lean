/- The law FnStuffed of the given program holds: for every input that the row lets in the call returns true and leaves its arguments as they were. No condition ahead of it. -/
import Derived.Test.YtbifbbfkcbgnlaaDoorPFnStuffedx3
import Derived.Test.YtbifbbfkcbgnlaaDoorMine
namespace Go.Proofs.YtbifbbfkcbgnlaaDoor.Pure
open Go.RowKit Go.Proofs.YtbifbbfkcbgnlaaDoor.PFnStuffed Go.Proofs.YtbifbbfkcbgnlaaDoorW.PrintWords Go.Proofs.YtbifbbfkcbgnlaaDoorW.PrintLast Go.Proofs.YtbifbbfkcbgnlaaDoorW.PrintMore Go.Proofs.YtbifbbfkcbgnlaaDoor.Mine
set_option linter.unusedVariables false
set_option linter.unusedSimpArgs false
theorem within_eq (a b c : Int) : impl_within.f a b c = some (decide (b ≤ a ∧ a ≤ c)) := by
  unfold impl_within.f; by_cases h : a ≥ b
  · rw [if_pos h]; simp; intro _; exact h
  · rw [if_neg h]; simp; intro h'; omega

def StOk (a b : Int) : Prop := (1 ≤ a ∧ a ≤ 10) ∧ (0 ≤ b ∧ b ≤ 1)

def AllBit (s : ByteArray) : Prop := ∀ i : Int, 0 ≤ i → i < s.size → bt s i = 48 ∨ bt s i = 49
def IsBitS (s : ByteArray) : Prop := AllBit s ∧ (s.size : Int) ≤ 400
theorem bt_list (s : ByteArray) (i : Nat) (h : i < s.size) : bt s i = ((s.data.toList[i]'(by simpa using h)).toNat : Int) := by
  unfold bt
  simp only [Int.toNat_natCast, h, dif_pos]
  rfl
theorem dropWhile_nil (p : UInt8 → Bool) : ∀ l : List UInt8, l.dropWhile p = [] ↔ ∀ b ∈ l, p b = true
  | [] => by simp
  | x :: l => by
    rw [List.dropWhile_cons]
    cases h : p x with
    | true => simp [h, dropWhile_nil p l]
    | false => simp [h]
theorem trim_empty (l : List UInt8) : (Lib.trimS l [48, 49]).isEmpty = true ↔ ∀ b ∈ l, b = 48 ∨ b = 49 := by
  have key : ∀ p : UInt8 → Bool, List.dropWhile p (List.dropWhile p l.reverse).reverse = [] ↔ ∀ b ∈ l, p b = true := by
    intro p
    rw [dropWhile_nil]
    constructor
    · intro h
      by_cases e : List.dropWhile p l.reverse = []
      · have := (dropWhile_nil p _).1 e
        exact fun b hb => this b (by simpa using hb)
      · have hh := List.head_dropWhile_not p e
        have h3 := h ((List.dropWhile p l.reverse).head e) (by simp)
        rw [hh] at h3
        cases h3
    · intro h b hb
      have : List.dropWhile p l.reverse = [] := (dropWhile_nil p _).2 (fun b hb => h b (by simpa using hb))
      rw [this] at hb
      simp at hb
  unfold Lib.trimS Lib.trimRightS Lib.trimLeftS
  rw [List.isEmpty_iff, key]
  simp
theorem areBits_ev (s : ByteArray) (hs : s.size ≤ 140737488351232) : ∃ b, impl_areBits.f s = some b ∧ (b = true ↔ AllBit s) := by
  refine ⟨(Lib.trimS s.data.toList [48, 49]).isEmpty, by unfold impl_areBits.f; rw [if_pos (by omega)], ?_⟩
  rw [trim_empty]
  constructor
  · intro h i h0 h1
    obtain ⟨n, rfl⟩ : ∃ n : Nat, i = n := ⟨i.toNat, by omega⟩
    rw [bt_list s n (by omega)]
    rcases h _ (List.getElem_mem (l := s.data.toList) (n := n) (by simp; omega)) with e | e <;> rw [e]
    · exact Or.inl rfl
    · exact Or.inr rfl
  · intro h b hb
    obtain ⟨n, hn, rfl⟩ := List.getElem_of_mem hb
    have hn' : n < s.size := by simpa using hn
    have := h n (by omega) (by omega)
    rw [bt_list s n hn'] at this
    rcases this with e | e
    · left; apply UInt8.toNat_inj.1; show s.data.toList[n].toNat = 48; omega
    · right; apply UInt8.toNat_inj.1; show s.data.toList[n].toNat = 49; omega
theorem isBits_ev (s : ByteArray) (hs : s.size ≤ 140737488351232) : ∃ b, impl_IsBits.f s = some b ∧ (b = true ↔ IsBitS s) := by
  obtain ⟨b, hb, hi⟩ := areBits_ev s hs
  simp only [impl_IsBits.f, hb, Option.bind_some, IsBitS]
  by_cases h : (s.size : Int) ≤ 400
  · exact ⟨b, by rw [if_pos h], by rw [hi]; exact ⟨fun g => ⟨g, h⟩, fun g => g.1⟩⟩
  · exact ⟨false, by rw [if_neg h], by simp only [Bool.false_eq_true, false_iff]; exact fun g => h g.2⟩

theorem ba_ext {a b : ByteArray} (h : a.data.toList = b.data.toList) : a = b := by apply ByteArray.ext; exact Array.toList_inj.1 h
theorem sn_append (a b : List Int) : strOfNums (a ++ b) = strOfNums a ++ strOfNums b := by apply ba_ext; simp [strOfNums]
theorem sn_size (a : List Int) : (strOfNums a).size = a.length := by simp [strOfNums, ByteArray.size]
theorem sn_nil : strOfNums [] = (⟨#[]⟩ : ByteArray) := rfl
theorem bt_range (s : ByteArray) (i : Int) (h0 : 0 ≤ i) (h1 : i < s.size) : 0 ≤ bt s i ∧ bt s i < 256 := by
  obtain ⟨n, rfl⟩ : ∃ n : Nat, i = n := ⟨i.toNat, by omega⟩
  rw [bt_list s n (by omega)]
  have := (s.data.toList[n]'(by simp; omega)).toNat_lt
  omega
theorem extract_one (s : ByteArray) (n : Nat) (h : n < s.size) : (s.extract n (n + 1)).data.toList = [s.data.toList[n]'(by simpa using h)] := by
  have h' : n < s.data.size := h
  simp only [ByteArray.data_extract, Array.toList_extract, List.extract_eq_take_drop]
  rw [show n + 1 - n = 1 by omega, List.drop_eq_getElem_cons (show n < s.data.toList.length by simpa using h')]
  simp
theorem sn_one (s : ByteArray) (i : Int) (h0 : 0 ≤ i) (h1 : i < s.size) : strOfNums [bt s i] = s.extract i.toNat (i + 1).toNat := by
  obtain ⟨n, rfl⟩ : ∃ n : Nat, i = n := ⟨i.toNat, by omega⟩
  apply ba_ext
  rw [show ((n : Int) + 1).toNat = n + 1 by omega, Int.toNat_natCast, extract_one s n (by omega), bt_list s n (by omega)]
  simp [strOfNums]
theorem sn_rep (x : Int) : ∀ n, strOfNums (List.replicate n x) = ⟨(Lib.repeatL (strOfNums [x]).data.toList n).toArray⟩
  | 0 => by apply ba_ext; simp [strOfNums, Lib.repeatL]
  | n + 1 => by
    rw [List.replicate_succ, show x :: List.replicate n x = [x] ++ List.replicate n x from rfl, sn_append, sn_rep x n]
    apply ba_ext
    simp [Lib.repeatL]

theorem ex_size (s : ByteArray) (a b : Nat) (hb : b ≤ s.size) : (s.extract a b).size = b - a := by
  simp only [ByteArray.size_extract]; omega
theorem ex_list (s : ByteArray) (a b : Nat) : (s.extract a b).data.toList = (s.data.toList.drop a).take (b - a) := by
  simp only [ByteArray.data_extract, Array.toList_extract, List.extract_eq_take_drop]
theorem ex_ex (s : ByteArray) (a b c d : Nat) (h : a + d ≤ b) : (s.extract a b).extract c d = s.extract (a + c) (a + d) := by
  apply ba_ext
  rw [ex_list, ex_list, ex_list, List.drop_take, List.drop_drop, List.take_take]
  congr 1
  omega
theorem dl_size (s : ByteArray) : s.data.toList.length = s.size := Array.length_toList
theorem ex_whole (s : ByteArray) : s.extract 0 s.size = s := by
  apply ba_ext; rw [ex_list, List.drop_zero]; exact List.take_of_length_le (by rw [dl_size]; omega)
theorem bt_extract (s : ByteArray) (a b : Nat) (hb : b ≤ s.size) (j : Int) (h0 : 0 ≤ j) (h1 : j < (b : Int) - a) : bt (s.extract a b) j = bt s (a + j) := by
  obtain ⟨n, rfl⟩ : ∃ n : Nat, j = n := ⟨j.toNat, by omega⟩
  have hz := ex_size s a b hb
  rw [bt_list _ n (by omega), show (a : Int) + n = ((a + n : Nat) : Int) by omega, bt_list _ _ (by omega)]
  congr 2
  simp only [ex_list]
  rw [List.getElem_take, List.getElem_drop]
theorem AllBit_extract (s : ByteArray) (h : AllBit s) (a b : Nat) (hb : b ≤ s.size) : AllBit (s.extract a b) := by
  intro j h0 h1
  have hz := ex_size s a b hb
  rw [bt_extract s a b hb j h0 (by omega)]
  exact h _ (by omega) (by omega)
theorem nil_size (s : ByteArray) : s.toList = ([] : List UInt8) ↔ s.size = 0 := by
  rw [Lib.toList_data]
  show _ ↔ s.data.size = 0
  rw [← Array.length_toList]
  exact List.length_eq_zero_iff.symm

def stuffM (a b : Int) : Int → List UInt8 → List UInt8
  | _, [] => []
  | run, c :: r => if ((c.toNat : Int) - 48) % 256 ≠ b then c :: stuffM a b 0 r else if run + 1 = a then c :: (if b = 0 then 49 else 48) :: stuffM a b 0 r else c :: stuffM a b (run + 1) r
theorem sn_push (acc : List Int) (v : Int) : (strOfNums (acc ++ [v])).data.toList = (strOfNums acc).data.toList ++ [UInt8.ofNat v.toNat] := by simp [strOfNums]
theorem stuff_eq (s : ByteArray) (a b : Int) (hs : s.size ≤ 400) : impl_Stuffer_stuff.f a b s = some ⟨(stuffM a b 0 s.data.toList).toArray⟩ := by
  have h : ∀ (l : List UInt8) (run : Int), stuffL a b run l = stuffM a b run l := by
    intro l
    induction l with
    | nil => intro run; rfl
    | cons c r ih => intro run; simp only [stuffL, stuffM, ih]
  rw [impl_Stuffer_stuff.f, if_pos (by omega), h]

def keptL (a b : Int) : Int → List UInt8 → List UInt8
  | _, [] => []
  | run, c :: r => if run = a then keptL a b 0 r else if ((c.toNat : Int) - 48) % 256 = b then c :: keptL a b (run + 1) r else c :: keptL a b 0 r
def isBitB (c : UInt8) : Prop := c = 48 ∨ c = 49
theorem kept_length (a b : Int) (l : List UInt8) : ∀ run, (keptL a b run l).length ≤ l.length := by
  induction l with
  | nil => intro run; simp [keptL]
  | cons c r ih =>
    intro run
    have h1 := ih 0
    have h2 := ih (run + 1)
    simp only [keptL]
    split
    · simp; omega
    · split <;> simp <;> omega
theorem bitB_val {c : UInt8} (h : isBitB c) : ((c.toNat : Int) - 48) % 256 = 0 ∨ ((c.toNat : Int) - 48) % 256 = 1 := by rcases h with rfl | rfl <;> decide
theorem bitB_other {c : UInt8} (h : isBitB c) {b : Int} (hb : 0 ≤ b ∧ b ≤ 1) : (if b = 0 then (49 : UInt8) else 48) = c ↔ ¬ ((c.toNat : Int) - 48) % 256 = b := by
  by_cases z : b = 0
  · subst z; rcases h with rfl | rfl <;> decide
  · have : b = 1 := by omega
    subst this; rcases h with rfl | rfl <;> decide
theorem unstuff_ok (a b : Int) (ha : 1 ≤ a) (hb : 0 ≤ b ∧ b ≤ 1) (l : List UInt8) (hl : ∀ c ∈ l, isBitB c) : ∀ (run : Int) (acc : List UInt8), 0 ≤ run → run ≤ a →
    (((unstuffL a b run acc l).2 = true ↔ (if run = a then (if b = 0 then (49 : UInt8) else 48) :: stuffM a b 0 (keptL a b run l) else stuffM a b run (keptL a b run l)) = l) ∧
      ((unstuffL a b run acc l).2 = true → (unstuffL a b run acc l).1 = acc ++ keptL a b run l)) := by
  induction l with
  | nil =>
    intro run acc h0 h1
    by_cases e : run = a
    · simp [unstuffL, keptL, e]
    · simp [unstuffL, keptL, e, stuffM]; omega
  | cons c r ih =>
    intro run acc h0 h1
    have hc := hl c (List.mem_cons_self)
    have ih' := ih (fun x hx => hl x (List.mem_cons_of_mem _ hx))
    have ho := bitB_other hc hb
    by_cases e : run = a
    · by_cases q : ((c.toNat : Int) - 48) % 256 = b
      · have hne : ¬ (if b = 0 then (49 : UInt8) else 48) = c := fun g => (ho.1 g) q
        simp only [unstuffL, keptL, if_pos e, if_pos q, Bool.false_eq_true, false_iff, false_implies, and_true]
        intro g
        exact hne (List.cons.inj g).1
      · have he := ho.2 q
        obtain ⟨i1, i2⟩ := ih' 0 acc (by omega) (by omega)
        rw [if_neg (show ¬ (0 : Int) = a by omega)] at i1
        simp only [unstuffL, keptL, if_pos e, if_neg q, he, List.cons.injEq, true_and]
        exact ⟨i1, i2⟩
    · by_cases q : ((c.toNat : Int) - 48) % 256 = b
      · obtain ⟨i1, i2⟩ := ih' (run + 1) (acc ++ [c]) (by omega) (by omega)
        simp only [unstuffL, keptL, if_neg e, if_pos q, stuffM, if_neg (show ¬ ((c.toNat : Int) - 48) % 256 ≠ b from fun g => g q)]
        refine ⟨?_, fun g => by rw [i2 g]; simp⟩
        by_cases e2 : run + 1 = a
        · rw [if_pos e2] at i1 ⊢
          rw [List.cons.injEq, i1]; simp
        · rw [if_neg e2] at i1 ⊢
          rw [List.cons.injEq, i1]; simp
      · obtain ⟨i1, i2⟩ := ih' 0 (acc ++ [c]) (by omega) (by omega)
        rw [if_neg (show ¬ (0 : Int) = a by omega)] at i1
        simp only [unstuffL, keptL, if_neg e, if_neg q, stuffM, if_pos (show ((c.toNat : Int) - 48) % 256 ≠ b from q)]
        refine ⟨by rw [List.cons.injEq, i1]; simp, fun g => by rw [i2 g]; simp⟩
theorem allBit_list (s : ByteArray) (h : AllBit s) : ∀ c ∈ s.data.toList, isBitB c := by
  intro c hc
  obtain ⟨n, hn, rfl⟩ := List.getElem_of_mem hc
  have hn' : n < s.size := by rw [dl_size] at hn; exact hn
  have := h n (by omega) (by omega)
  rw [bt_list s n hn'] at this
  rcases this with e | e
  · left; apply UInt8.toNat_inj.1; show s.data.toList[n].toNat = 48; omega
  · right; apply UInt8.toNat_inj.1; show s.data.toList[n].toNat = 49; omega
theorem unstuff_eq (s : ByteArray) (a b : Int) (ha : 1 ≤ a) (hb : 0 ≤ b ∧ b ≤ 1) (hs : s.size ≤ 400) (h : AllBit s) : ∃ t, impl_Stuffer_unstuff.f a b s = some (t, ((⟨(stuffM a b 0 (keptL a b 0 s.data.toList)).toArray⟩ : ByteArray).toList == s.toList)) ∧
    (((⟨(stuffM a b 0 (keptL a b 0 s.data.toList)).toArray⟩ : ByteArray).toList == s.toList) = true → t = ⟨(keptL a b 0 s.data.toList).toArray⟩) := by
  obtain ⟨h1, h2⟩ := unstuff_ok a b ha hb s.data.toList (allBit_list s h) 0 [] (by omega) (by omega)
  rw [if_neg (show ¬ (0 : Int) = a by omega)] at h1
  have e : ((⟨(stuffM a b 0 (keptL a b 0 s.data.toList)).toArray⟩ : ByteArray).toList == s.toList) = (unstuffL a b 0 [] s.data.toList).2 := by
    rw [Bool.eq_iff_iff, beq_iff_eq, h1, Lib.toList_data, Lib.toList_data]
  refine ⟨_, by rw [impl_Stuffer_unstuff.f, if_pos (by omega), e], fun g => ?_⟩
  rw [e] at g
  rw [h2 g, List.nil_append]

def leadB (b : Int) : List UInt8 → Nat
  | [] => 0
  | c :: r => if ((c.toNat : Int) - 48) % 256 = b then leadB b r + 1 else 0
theorem oB_ne (b : Int) (hb : 0 ≤ b ∧ b ≤ 1) : ¬ (((if b = 0 then (49 : UInt8) else 48).toNat : Int) - 48) % 256 = b := by
  by_cases z : b = 0
  · subst z; decide
  · have : b = 1 := by omega
    subst this; decide
theorem stuffM_lead (a b : Int) (hb : 0 ≤ b ∧ b ≤ 1) (l : List UInt8) : ∀ run : Int, 0 ≤ run → run < a → (leadB b (stuffM a b run l) : Int) ≤ a - run ∧ ∀ n, (leadB b ((stuffM a b run l).drop n) : Int) ≤ a := by
  induction l with
  | nil => intro run h0 h1; refine ⟨?_, fun n => ?_⟩ <;> simp [stuffM, leadB] <;> omega
  | cons c r ih =>
    intro run h0 h1
    obtain ⟨i1, i2⟩ := ih 0 (by omega) (by omega)
    simp only [stuffM]
    by_cases q : ((c.toNat : Int) - 48) % 256 = b
    · rw [if_neg (fun g => g q)]
      by_cases e : run + 1 = a
      · rw [if_pos e]
        have ho := oB_ne b hb
        refine ⟨by simp only [leadB, if_pos q, if_neg ho]; omega, fun n => ?_⟩
        match n with
        | 0 => rw [List.drop_zero]; simp only [leadB, if_pos q, if_neg ho]; omega
        | 1 => simp only [List.drop_succ_cons, List.drop_zero, leadB, if_neg ho]; omega
        | n + 2 => simp only [List.drop_succ_cons]; exact i2 n
      · rw [if_neg e]
        obtain ⟨j1, j2⟩ := ih (run + 1) (by omega) (by omega)
        refine ⟨by simp only [leadB, if_pos q]; omega, fun n => ?_⟩
        cases n with
        | zero => rw [List.drop_zero]; simp only [leadB, if_pos q]; omega
        | succ n => rw [List.drop_succ_cons]; exact j2 n
    · rw [if_pos q]
      refine ⟨by simp only [leadB, if_neg q]; omega, fun n => ?_⟩
      cases n with
      | zero => rw [List.drop_zero]; simp only [leadB, if_neg q]; omega
      | succ n => rw [List.drop_succ_cons]; exact i2 n
theorem stuffM_len (a b : Int) (ha : 1 ≤ a) (l : List UInt8) : ∀ run : Int, 0 ≤ run → run < a → ∃ k : Nat, (stuffM a b run l).length = l.length + k ∧ (k : Int) * a ≤ run + l.length := by
  induction l with
  | nil => intro run h0 h1; exact ⟨0, by simp [stuffM], by simp; omega⟩
  | cons c r ih =>
    intro run h0 h1
    obtain ⟨k, i1, i2⟩ := ih 0 (by omega) (by omega)
    simp only [stuffM]
    by_cases q : ((c.toNat : Int) - 48) % 256 = b
    · rw [if_neg (fun g => g q)]
      by_cases e : run + 1 = a
      · rw [if_pos e]
        refine ⟨k + 1, by simp only [List.length_cons, i1]; omega, ?_⟩
        rw [show ((k + 1 : Nat) : Int) = (k : Int) + 1 by omega, Int.add_mul]
        simp only [List.length_cons]; omega
      · rw [if_neg e]
        obtain ⟨k, j1, j2⟩ := ih (run + 1) (by omega) (by omega)
        exact ⟨k, by simp only [List.length_cons, j1]; omega, by simp only [List.length_cons]; omega⟩
    · rw [if_pos q]
      exact ⟨k, by simp only [List.length_cons, i1]; omega, by simp only [List.length_cons]; omega⟩
theorem kept_stuff (a b : Int) (l : List UInt8) : ∀ run : Int, run < a → (0 : Int) < a → keptL a b run (stuffM a b run l) = l := by
  induction l with
  | nil => intro run h1 h2; rfl
  | cons c r ih =>
    intro run h1 h2
    simp only [stuffM]
    by_cases q : ((c.toNat : Int) - 48) % 256 = b
    · rw [if_neg (fun g => g q)]
      by_cases e : run + 1 = a
      · rw [if_pos e]
        simp only [keptL, if_neg (show ¬ run = a by omega), if_pos q, if_pos e]
        rw [ih 0 h2 h2]
      · rw [if_neg e]
        simp only [keptL, if_neg (show ¬ run = a by omega), if_pos q]
        rw [ih (run + 1) (by omega) h2]
    · rw [if_pos q]
      simp only [keptL, if_neg (show ¬ run = a by omega), if_neg q]
      rw [ih 0 h2 h2]
theorem stuffM_bits (a b : Int) (l : List UInt8) (hl : ∀ c ∈ l, isBitB c) : ∀ run : Int, ∀ c ∈ stuffM a b run l, isBitB c := by
  induction l with
  | nil => intro run c hc; cases hc
  | cons c r ih =>
    intro run
    have hc := hl c List.mem_cons_self
    have ih := ih (fun x hx => hl x (List.mem_cons_of_mem _ hx))
    simp only [stuffM]
    split
    · intro x hx; rcases List.mem_cons.1 hx with rfl | h
      · exact hc
      · exact ih _ x h
    · split
      · intro x hx; rcases List.mem_cons.1 hx with rfl | h
        · exact hc
        · rcases List.mem_cons.1 h with rfl | h
          · split
            · exact .inr rfl
            · exact .inl rfl
          · exact ih _ x h
      · intro x hx; rcases List.mem_cons.1 hx with rfl | h
        · exact hc
        · exact ih _ x h

def flagL (a : Nat) (b : Int) : List Int := ([49 - b] ++ List.replicate (a + 1) (48 + b)) ++ [49 - b]
theorem flagL_length (a : Nat) (b : Int) : (flagL a b).length = a + 3 := by simp [flagL]
theorem bitOf_eq' (c : Bool) : impl_bitOf.f c = some (strOfNums [if c = true then 49 else 48]) := by cases c <;> rfl
theorem flag_rep (a : Nat) (b : Int) (ha : a ≤ 10) : strings_Repeat.f (strOfNums [48 + b]) ((a : Int) + 1) = some (strOfNums (List.replicate (a + 1) (48 + b))) := by
  have hz : ((strOfNums [48 + b]).size : Int) = 1 := by rw [sn_size]; rfl
  unfold strings_Repeat.f
  rw [if_pos ⟨by omega, by omega, by rw [hz]; omega⟩, sn_rep, show ((a : Int) + 1).toNat = a + 1 by omega]
theorem flag_bit0 (b : Int) (hb : 0 ≤ b ∧ b ≤ 1) : impl_bitOf.f (b == 0) = some (strOfNums [49 - b]) := by
  rw [bitOf_eq']
  by_cases h : b = 0
  · rw [h]; rfl
  · rw [show b = 1 by omega]; rfl
theorem flag_bit1 (b : Int) (hb : 0 ≤ b ∧ b ≤ 1) : impl_bitOf.f (b == 1) = some (strOfNums [48 + b]) := by
  rw [bitOf_eq']
  by_cases h : b = 0
  · rw [h]; rfl
  · rw [show b = 1 by omega]; rfl
theorem flag_eq (a : Nat) (b : Int) (ha : a ≤ 10) (hb : 0 ≤ b ∧ b ≤ 1) : impl_Stuffer_flag.f a b = some (strOfNums (flagL a b)) := by
  have l1 : (strOfNums [49 - b]).size = 1 := by rw [sn_size]; rfl
  have l2 : (strOfNums (List.replicate (a + 1) (48 + b))).size = a + 1 := by rw [sn_size, List.length_replicate]
  have l3 : (strOfNums [49 - b] ++ strOfNums (List.replicate (a + 1) (48 + b))).size = a + 2 := by rw [ByteArray.size_append, l1, l2]; omega
  unfold impl_Stuffer_flag.f
  rw [flag_bit0 b hb, Option.bind_some, flag_bit1 b hb, Option.bind_some, w64 (by omega) (by omega), flag_rep a b ha, Option.bind_some, if_pos (by rw [l1, l2]; omega), if_pos (by rw [l3, l1]; omega), flagL, sn_append, sn_append]

theorem and255 (x : Int) : 0 ≤ Go.bits .and .u64 x 255 ∧ Go.bits .and .u64 x 255 ≤ 255 := by
  have h : (BitVec.ofInt 64 x &&& BitVec.ofInt 64 255).toNat ≤ 255 := by
    rw [BitVec.toNat_and]; exact Nat.le_trans Nat.and_le_right (by decide)
  have e : Go.bits .and .u64 x 255 = IntKind.u64.wrap ((BitVec.ofInt 64 x &&& BitVec.ofInt 64 255).toNat : Int) := rfl
  rw [e]
  generalize (BitVec.ofInt 64 x &&& BitVec.ofInt 64 255).toNat = n at h
  have e2 : IntKind.u64.wrap (n : Int) = (n : Int) % 18446744073709551616 := rfl
  rw [e2]; omega
def U8L (l : List Int) : Prop := ∀ x ∈ l, (Lit.int .u8 x).wf = true
theorem u8_rd {l : List Int} (h : U8L l) (i : Int) : 0 ≤ rd l i ∧ rd l i ≤ 255 := by
  unfold rd
  rw [List.getD_eq_getElem?_getD]
  cases e : l[i.toNat]? with
  | none => exact ⟨by decide, by decide⟩
  | some v =>
    have := h v (List.mem_of_getElem? e)
    simp only [Lit.wf, IntKind.min, IntKind.max, IntKind.signed, IntKind.bits, Bool.and_eq_true, decide_eq_true_eq, Bool.false_eq_true, if_false] at this
    simp only [Option.getD_some]
    omega
theorem next_ev (l : List Int) (hu : U8L l) (hl : l.length ≤ 1000000) (a s : Int) (h0 : 0 ≤ a) (h1 : a ≤ 1000000000000) : ∃ v s', spec_l00Src_next.f l a s = some (v, a + 1, s') ∧ 0 ≤ v ∧ v ≤ 255 := by
  have ha := and255 ((IntKind.u64.wrap ((IntKind.u64.wrap ((IntKind.u64.wrap (s * 6364136223846793005)) + (IntKind.u64.wrap (wrap64 (rd l a))))) + 1442695040888963407)) / 1099511627776)
  have hb := and255 ((IntKind.u64.wrap ((IntKind.u64.wrap ((IntKind.u64.wrap (s * 6364136223846793005)) + 0)) + 1442695040888963407)) / 1099511627776)
  have hr := u8_rd hu a
  have e1 : wrap64 (a + 1) = a + 1 := w64 (by omega) (by omega)
  simp only [spec_l00Src_next.f]
  rw [e1]
  by_cases c : a < (l.length : Int)
  · rw [if_pos c, if_pos h0]
    by_cases c2 : a + 1 ≤ (l.length : Int)
    · rw [if_pos c2]; refine ⟨_, _, rfl, ?_⟩; rw [w64 (Int.le_trans (by decide) hr.1) (Int.le_trans hr.2 (by decide))]; exact hr
    · rw [if_neg c2]; refine ⟨_, _, rfl, ?_⟩; rw [w64 (Int.le_trans (by decide) ha.1) (Int.le_trans ha.2 (by decide))]; exact ha
  · rw [if_neg c]
    by_cases c2 : a + 1 ≤ (l.length : Int)
    · rw [if_pos c2]; exact ⟨_, _, rfl, by decide⟩
    · rw [if_neg c2]; refine ⟨_, _, rfl, ?_⟩; rw [w64 (Int.le_trans (by decide) hb.1) (Int.le_trans hb.2 (by decide))]; exact hb
theorem tmod_range (x n : Int) (h0 : 0 ≤ x) (hn : 1 ≤ n) : 0 ≤ Int.tmod x n ∧ Int.tmod x n < n := by
  rw [Int.tmod_eq_emod_of_nonneg h0]
  exact ⟨Int.emod_nonneg _ (by omega), Int.emod_lt_of_pos _ (by omega)⟩
theorem pick_ev (l : List Int) (hu : U8L l) (hl : l.length ≤ 1000000) (n a s : Int) (h0 : 0 ≤ a) (h1 : a ≤ 100000000000) :
    ∃ v a' s', spec_l00Src_pick.f l a s n = some (v, a', s') ∧ 0 ≤ v ∧ (1 ≤ n → v < n) ∧ a ≤ a' ∧ a' ≤ a + 2 := by
  simp only [spec_l00Src_pick.f]
  by_cases c : n ≤ 1
  · rw [if_pos c]; exact ⟨0, a, s, rfl, by omega, by omega, by omega, by omega⟩
  obtain ⟨v, s', e, hv⟩ := next_ev l hu hl a s h0 (by omega)
  obtain ⟨v2, s2, e2, hv2⟩ := next_ev l hu hl (a + 1) s' (by omega) (by omega)
  have hn0 : ¬ n = 0 := by omega
  have t1 := tmod_range v n hv.1 (by omega)
  have t2 := tmod_range (v * 256 + v2) n (by omega) (by omega)
  have b1 : -9223372036854775808 ≤ v * 256 ∧ v * 256 ≤ 9223372036854775807 := by omega
  have b2 : -9223372036854775808 ≤ v * 256 + v2 ∧ v * 256 + v2 ≤ 9223372036854775807 := by omega
  rw [if_neg c, e, Option.bind_some]
  by_cases c2 : n > 200
  · refine ⟨_, a + 1 + 1, s2, ?_, t2.1, fun _ => t2.2, by omega, by omega⟩
    simp only [if_pos c2]
    rw [e2, Option.bind_some, if_neg hn0, w64 b1.1 b1.2, w64 b2.1 b2.2]
  · refine ⟨_, a + 1, s', ?_, t1.1, fun _ => t1.2, by omega, by omega⟩
    rw [if_neg c2, if_neg hn0]
theorem one_ev (l : List Int) (hu : U8L l) (hl : l.length ≤ 1000000) (n a s : Int) (h0 : 0 ≤ a) (h1 : a ≤ 100000000000) :
    ∃ c a' s', spec_l00Src_one.f l a s n = some (c, a', s') ∧ a ≤ a' ∧ a' ≤ a + 2 := by
  obtain ⟨v, a', s', e, -, -, h2, h3⟩ := pick_ev l hu hl n a s h0 h1
  exact ⟨_, a', s', by rw [spec_l00Src_one.f, e, Option.bind_some], h2, h3⟩
def Bit48 (x : List Int) : Prop := ∀ v ∈ x, v = 48 ∨ v = 49
theorem r8Bits_loop (l : List Int) (hu : U8L l) (hl : l.length ≤ 1000000) (n : Nat) (hn : n ≤ 1000) (d : Nat) : ∀ (x : List Int) (a s : Int), Bit48 x → x.length + d ≤ n → 0 ≤ a → a + 4 * d ≤ 100000000 →
    ∃ y, Bit48 y ∧ y.length ≤ n ∧ Ev (fun k => spec_R8Bits.l0 k x d l a s) (strOfNums y) := by
  induction d with
  | zero =>
    intro x a s hx hxl h0 h1
    refine ⟨x, hx, by omega, Ev_succ ?_⟩
    simp only [spec_R8Bits.l0, if_neg (show ¬ ((0 : Nat) : Int) > 0 by omega)]; exact Ev.now _
  | succ d ih =>
    intro x a s hx hxl h0 h1
    obtain ⟨v, a1, s1, e1, hv0, hv1, ha1, ha2⟩ := pick_ev l hu hl 2 a s h0 (by omega)
    obtain ⟨c, a2, s2, e2, ha3, ha4⟩ := one_ev l hu hl 2 a1 s1 (by omega) (by omega)
    have hv1 := hv1 (by omega)
    have d1 : ((d + 1 : Nat) : Int) > 0 := by omega
    have lt : x.length < 140737488355328 := by omega
    have b1 : -9223372036854775808 ≤ 48 + v ∧ 48 + v ≤ 9223372036854775807 := by omega
    have b2 : -9223372036854775808 ≤ (d : Int) ∧ (d : Int) ≤ 9223372036854775807 := by omega
    have b3 : ((d + 1 : Nat) : Int) - 1 = d := by omega
    have b4 : (48 + v) % 256 = 48 + v := by omega
    have b5 : -9223372036854775808 ≤ (x.length : Int) - 1 ∧ (x.length : Int) - 1 ≤ 9223372036854775807 := by omega
    have new : Bit48 (x ++ [48 + v]) := by
      intro w hw
      rcases List.mem_append.1 hw with g | g
      · exact hx w g
      · rw [List.mem_singleton.1 g]; omega
    have nl : ∀ w : Int, (x ++ [w]).length = x.length + 1 := fun w => by rw [List.length_append]; rfl
    by_cases hz : (x.length : Int) > 0
    · cases c with
      | true =>
        have q0 : 0 ≤ (x.length : Int) - 1 := by omega
        have q1 : (x.length : Int) - 1 < x.length := by omega
        have hm : rd x ((x.length : Int) - 1) ∈ x := by
          unfold rd
          rw [List.getD_eq_getElem?_getD, List.getElem?_eq_getElem (show ((x.length : Int) - 1).toNat < x.length by omega)]
          exact List.getElem_mem _
        obtain ⟨y, hy, hyl, hE⟩ := ih (x ++ [rd x ((x.length : Int) - 1)]) a2 s2 (by
          intro w hw
          rcases List.mem_append.1 hw with g | g
          · exact hx w g
          · rw [List.mem_singleton.1 g]; exact hx _ hm) (by rw [nl]; omega) (by omega) (by omega)
        refine ⟨y, hy, hyl, Ev_succ ?_⟩
        simp only [spec_R8Bits.l0, if_pos d1, e1, e2, Option.bind_some, if_pos hz, if_true, w64 b5.1 b5.2, if_pos q0, if_pos q1, if_pos lt, w64 b2.1 b2.2, b3]
        exact hE
      | false =>
        obtain ⟨y, hy, hyl, hE⟩ := ih (x ++ [48 + v]) a2 s2 new (by rw [nl]; omega) (by omega) (by omega)
        refine ⟨y, hy, hyl, Ev_succ ?_⟩
        simp only [spec_R8Bits.l0, if_pos d1, e1, e2, Option.bind_some, if_pos hz, Bool.false_eq_true, if_false, w64 b1.1 b1.2, b4, if_pos lt, w64 b2.1 b2.2, b3]
        exact hE
    · obtain ⟨y, hy, hyl, hE⟩ := ih (x ++ [48 + v]) a1 s1 new (by rw [nl]; omega) (by omega) (by omega)
      refine ⟨y, hy, hyl, Ev_succ ?_⟩
      simp only [spec_R8Bits.l0, if_pos d1, e1, Option.bind_some, if_neg hz, w64 b1.1 b1.2, b4, if_pos lt, w64 b2.1 b2.2, b3]
      exact hE
theorem r8Bits_ev (l : List Int) (hu : U8L l) (hl : l.length ≤ 1000000) (n : Nat) (hn : n ≤ 1000) : ∃ y, Bit48 y ∧ y.length ≤ n ∧ Ev (fun k => spec_R8Bits.f k l n) (strOfNums y) := by
  have b1 : -9223372036854775808 ≤ (n : Int) + 1 ∧ (n : Int) + 1 ≤ 9223372036854775807 := by omega
  obtain ⟨v, a1, s1, e1, hv0, hv1, ha1, ha2⟩ := pick_ev l hu hl ((n : Int) + 1) 0 0 (by omega) (by omega)
  have hv1 := hv1 (by omega)
  obtain ⟨d, rfl⟩ : ∃ d : Nat, v = d := ⟨v.toNat, by omega⟩
  obtain ⟨y, hy, hyl, hE⟩ := r8Bits_loop l hu hl n hn d [] a1 s1 (by intro w hw; cases hw) (by simp; omega) (by omega) (by omega)
  refine ⟨y, hy, hyl, ?_⟩
  simp only [spec_R8Bits.f, spec_l00From.f, Option.bind_some, w64 b1.1 b1.2, e1]
  exact hE
theorem bit48_sn {y : List Int} (h : Bit48 y) : AllBit (strOfNums y) ∧ (strOfNums y).size = y.length := by
  refine ⟨?_, sn_size y⟩
  intro i h0 h1
  rw [sn_size] at h1
  obtain ⟨n, rfl⟩ : ∃ n : Nat, i = n := ⟨i.toNat, by omega⟩
  have hn : n < y.length := by omega
  rw [bt_list _ n (by rw [sn_size]; exact hn)]
  have e : ((strOfNums y).data.toList[n]'(by have := sn_size y; simp only [ByteArray.size] at this; rw [Array.length_toList]; omega)) = UInt8.ofNat (y[n]).toNat := by simp [strOfNums]
  rw [e]
  rcases h _ (List.getElem_mem hn) with g | g <;> rw [g]
  · exact .inl rfl
  · exact .inr rfl
theorem r8Stuffer_ev (l : List Int) (hu : U8L l) (hl : l.length ≤ 1000000) : ∃ a b : Int, spec_R8Stuffer.f l = some (a, b) ∧ (1 ≤ a ∧ a ≤ 5) ∧ (0 ≤ b ∧ b ≤ 1) := by
  obtain ⟨v, a1, s1, e1, hv0, hv1, ha1, ha2⟩ := pick_ev l hu hl 5 0 0 (by omega) (by omega)
  obtain ⟨v2, a2, s2, e2, hw0, hw1, hb1, hb2⟩ := pick_ev l hu hl 2 a1 s1 (by omega) (by omega)
  have hv1 := hv1 (by omega)
  have hw1 := hw1 (by omega)
  refine ⟨1 + v, v2, ?_, by omega, by omega⟩
  simp only [spec_R8Stuffer.f, spec_l00From.f, Option.bind_some, e1, e2, w64 (show -9223372036854775808 ≤ 1 + v by omega) (by omega)]

theorem mx_eq (a b : Int) : (mx a b = a ∧ b ≤ a) ∨ (mx a b = b ∧ a < b) := by unfold mx; split <;> omega

theorem run_loop (s : ByteArray) (a b : Int) (hb : 0 ≤ b ∧ b ≤ 1) (ha : 1 ≤ a ∧ a ≤ 10) (hs : s.size ≤ 400) (hw : ∀ n, (leadB b (s.data.toList.drop n) : Int) ≤ a) (d : Nat) : ∀ (m r : Int) (i : Nat), i + d = s.size → 0 ≤ m → m ≤ a → 0 ≤ r → r + leadB b (s.data.toList.drop i) ≤ a →
    ∃ x : Int, x ≤ a ∧ Ev (fun k => impl_LongestRun.l0 k s m r s.size i a b) (x, true) := by
  have hdl := dl_size s
  induction d with
  | zero =>
    intro m r i hd h0 h1 h2 h3
    refine ⟨m, h1, Ev_succ ?_⟩
    simp only [impl_LongestRun.l0, if_neg (show ¬ (i : Int) < (s.size : Int) by omega)]; exact Ev.now _
  | succ d ih =>
    intro m r i hd h0 h1 h2 h3
    have hi : i < s.size := by omega
    have hii : (i : Int) < (s.size : Int) := by omega
    have hi0 : (0 : Int) ≤ i := by omega
    have hbt := bt_list s i hi
    have hdrop : s.data.toList.drop i = s.data.toList[i]'(by omega) :: s.data.toList.drop (i + 1) := List.drop_eq_getElem_cons (by omega)
    have hn := hw (i + 1)
    have b1 : -9223372036854775808 ≤ ((i + 1 : Nat) : Int) ∧ ((i + 1 : Nat) : Int) ≤ 9223372036854775807 := by omega
    have b2 : (i : Int) + 1 = ((i + 1 : Nat) : Int) := by omega
    have b3 : -9223372036854775808 ≤ r + 1 ∧ r + 1 ≤ 9223372036854775807 := by omega
    rw [hdrop] at h3
    by_cases e : (bt s i - 48) % 256 = b
    · have e' := e
      rw [hbt] at e'
      rw [leadB, if_pos e'] at h3
      have hx := mx_eq m (r + 1)
      obtain ⟨x, hx1, hE⟩ := ih (mx m (r + 1)) (r + 1) (i + 1) (by omega) (by omega) (by omega) (by omega) (by omega)
      refine ⟨x, hx1, Ev_succ ?_⟩
      simp only [impl_LongestRun.l0, if_pos hii, if_pos hi0, if_pos e, w64 b1.1 b1.2, w64 b3.1 b3.2, b2]
      exact hE
    · obtain ⟨x, hx1, hE⟩ := ih m 0 (i + 1) (by omega) (by omega) (by omega) (by omega) (by omega)
      refine ⟨x, hx1, Ev_succ ?_⟩
      simp only [impl_LongestRun.l0, if_pos hii, if_pos hi0, if_neg e, w64 b1.1 b1.2, b2]
      exact hE
theorem leadB_rep (b : Int) (c : UInt8) (hc : ((c.toNat : Int) - 48) % 256 = b) : ∀ (n : Nat) (r : List UInt8), n ≤ leadB b (List.replicate n c ++ r)
  | 0, r => Nat.zero_le _
  | n + 1, r => by
    rw [List.replicate_succ, List.cons_append, leadB, if_pos hc]
    have := leadB_rep b c hc n r
    omega
theorem flag_none (s : ByteArray) (a : Nat) (b : Int) (hb : 0 ≤ b ∧ b ≤ 1) (hw : ∀ n, (leadB b (s.data.toList.drop n) : Int) ≤ a) (i : Nat) (hi : i + (a + 3) ≤ s.size) : ¬ (s.extract i (i + (a + 3))).toList = (strOfNums (flagL a b)).toList := by
  intro h
  rw [Lib.toList_data, Lib.toList_data] at h
  simp only [ByteArray.data_extract, Array.toList_extract, List.extract_eq_take_drop] at h
  rw [show i + (a + 3) - i = a + 3 by omega] at h
  obtain ⟨R, hR⟩ : ∃ R, s.data.toList.drop i = (strOfNums (flagL a b)).data.toList ++ R := ⟨(s.data.toList.drop i).drop (a + 3), by rw [← h, List.take_append_drop]⟩
  have h2 : s.data.toList.drop (i + 1) = List.replicate (a + 1) (UInt8.ofNat (48 + b).toNat) ++ (UInt8.ofNat (49 - b).toNat :: R) := by
    rw [← List.drop_drop, hR]
    simp [strOfNums, flagL]
  have hc : (((UInt8.ofNat (48 + b).toNat).toNat : Int) - 48) % 256 = b := by
    by_cases z : b = 0
    · subst z; decide
    · have : b = 1 := by omega
      subst this; decide
  have h3 := leadB_rep b _ hc (a + 1) (UInt8.ofNat (49 - b).toNat :: R)
  have h4 := hw (i + 1)
  rw [← h2] at h3
  omega
theorem law_loop (s : ByteArray) (a : Nat) (b : Int) (ha : a ≤ 10) (hs : s.size ≤ 400) (hb : 0 ≤ b ∧ b ≤ 1) (hw : ∀ n, (leadB b (s.data.toList.drop n) : Int) ≤ a) (d : Nat) : ∀ i : Nat, i + d = s.size →
    Ev (fun k => laws_FnStuffed.l0 k s (strOfNums (flagL a b)) i) true := by
  have hz : (strOfNums (flagL a b)).size = a + 3 := by rw [sn_size, flagL_length]
  have stop : ∀ i : Nat, i ≤ s.size → s.size < i + (a + 3) → Ev (fun k => laws_FnStuffed.l0 k s (strOfNums (flagL a b)) i) true := by
    intro i h0 h1
    refine Ev_succ ?_
    have b1 : -9223372036854775808 ≤ (i : Int) + ((a + 3 : Nat) : Int) ∧ (i : Int) + ((a + 3 : Nat) : Int) ≤ 9223372036854775807 := by omega
    have b2 : ¬ (i : Int) + ((a + 3 : Nat) : Int) ≤ (s.size : Int) := by omega
    simp only [laws_FnStuffed.l0, hz, w64 b1.1 b1.2, if_neg b2]; exact Ev.now _
  induction d with
  | zero => intro i hd; exact stop i (by omega) (by omega)
  | succ d ih =>
    intro i hd
    by_cases c : s.size < i + (a + 3)
    · exact stop i (by omega) c
    refine Ev_succ ?_
    have b1 : -9223372036854775808 ≤ (i : Int) + ((a + 3 : Nat) : Int) ∧ (i : Int) + ((a + 3 : Nat) : Int) ≤ 9223372036854775807 := by omega
    have b2 : (i : Int) + ((a + 3 : Nat) : Int) ≤ (s.size : Int) := by omega
    have b3 : (0 : Int) ≤ i := by omega
    have b4 : (i : Int) ≤ (i : Int) + ((a + 3 : Nat) : Int) := by omega
    have b5 : ((i : Int) + ((a + 3 : Nat) : Int)).toNat = i + (a + 3) := by omega
    have b6 : -9223372036854775808 ≤ ((i + 1 : Nat) : Int) ∧ ((i + 1 : Nat) : Int) ≤ 9223372036854775807 := by omega
    have b7 : (i : Int) + 1 = ((i + 1 : Nat) : Int) := by omega
    have hne := flag_none s a b hb hw i (by omega)
    simp only [laws_FnStuffed.l0, hz, w64 b1.1 b1.2, if_pos b2, if_pos b3, if_pos b4, Int.toNat_natCast, b5, if_neg hne, w64 b6.1 b6.2, b7]
    exact ih (i + 1) (by omega)
theorem FnStuffed : laws_FnStuffed.Pure := by
  intro l0 l1 h1 h2 h3 h4 h5 h6
  apply Ev.rounds
  simp only [laws_FnStuffed.f]
  by_cases g : (l0.length : Int) > 48 ∨ (l1.length : Int) > 48
  · have e : laws_r8Long.f l0 l1 = some true := by
      simp only [laws_r8Long.f]
      by_cases g0 : (l0.length : Int) > 48
      · rw [if_pos g0]
      · rw [if_neg g0]; rcases g with g | g
        · exact absurd g g0
        · rw [decide_eq_true g]
    simp only [e, Option.bind_some, if_true]; exact Ev.now _
  have e : laws_r8Long.f l0 l1 = some false := by
    simp only [laws_r8Long.f]
    rw [if_neg (fun z => g (.inl z)), decide_eq_false (fun z => g (.inr z))]
  obtain ⟨a, b, hst, ha, hb⟩ := r8Stuffer_ev l0 h3 (by omega)
  obtain ⟨y, hy, hyl, hbits⟩ := r8Bits_ev l1 h6 (by omega) 40 (by omega)
  obtain ⟨hyA, hyz⟩ := bit48_sn hy
  obtain ⟨t, ht⟩ : ∃ t, t = strOfNums y := ⟨_, rfl⟩
  rw [← ht] at hbits hyA hyz
  obtain ⟨a, rfl⟩ : ∃ n : Nat, a = n := ⟨a.toNat, by omega⟩
  have hdl := dl_size t
  obtain ⟨q, hq1, hq2⟩ := stuffM_len a b (by omega) t.data.toList 0 (by omega) (by omega)
  have hlead := (stuffM_lead a b hb t.data.toList 0 (by omega) (by omega))
  have hkept := kept_stuff a b t.data.toList 0 (by omega) (by omega)
  have hbl := stuffM_bits a b t.data.toList (allBit_list t hyA) 0
  obtain ⟨S, hS⟩ : ∃ S, S = stuffM a b 0 t.data.toList := ⟨_, rfl⟩
  obtain ⟨u, hu⟩ : ∃ u : ByteArray, u = ⟨S.toArray⟩ := ⟨_, rfl⟩
  have hud : u.data.toList = S := by rw [hu]
  rw [← hS] at hq1 hlead hkept hbl
  have hqa : (q : Int) ≤ (t.size : Int) / a := by
    refine Int.le_ediv_of_mul_le (by omega) ?_
    omega
  have hq40 : (q : Int) ≤ t.size := by
    have : (t.size : Int) / a ≤ t.size := Int.ediv_le_self _ (by omega)
    omega
  have huz : u.size = t.size + q := by rw [← dl_size u, hud, hq1, hdl]
  have hstuff : impl_Stuffer_stuff.f a b t = some u := by rw [stuff_eq t a b (by omega), ← hS, ← hu]
  have huA : AllBit u := by
    intro i h0 h1
    obtain ⟨n, rfl⟩ : ∃ n : Nat, i = n := ⟨i.toNat, by omega⟩
    rw [bt_list u n (by omega)]
    have hm : (u.data.toList[n]'(by rw [dl_size]; omega)) ∈ S := by rw [← hud]; exact List.getElem_mem _
    rcases hbl _ hm with z | z <;> rw [z]
    · exact .inl rfl
    · exact .inr rfl
  obtain ⟨c1, hc1, hd1⟩ := isBits_ev t (by omega)
  have hc1t : c1 = true := hd1.2 ⟨hyA, by omega⟩
  subst hc1t
  obtain ⟨c2, hc2, hd2⟩ := isBits_ev u (by omega)
  have hc2t : c2 = true := hd2.2 ⟨huA, by omega⟩
  subst hc2t
  have hv : impl_ValidStuffer.f a b = some true := by
    simp only [impl_ValidStuffer.f, within_eq, Option.bind_some, decide_eq_true (show (1 : Int) ≤ (a : Int) ∧ (a : Int) ≤ 10 by omega), decide_eq_true hb, if_true]
  have E1 : Ev (fun k => impl_StuffBits.f k a b t) (u, true) := by
    simp only [impl_StuffBits.f, hv, hc1, Option.bind_some, if_true, Bool.not_true]
    refine Ev_succ ?_
    simp only [impl_StuffBits.j0, Bool.false_eq_true, if_false, hstuff, Option.bind_some, if_neg (show ¬ (u.size : Int) > 400 by omega)]; exact Ev.now _
  obtain ⟨t', hB, hT⟩ := unstuff_eq u a b (by omega) hb (by omega) huA
  rw [hud, hkept] at hB hT
  have hself : ((⟨(stuffM a b 0 t.data.toList).toArray⟩ : ByteArray).toList == u.toList) = true := by rw [← hS, ← hu, beq_iff_eq]
  rw [hself] at hB
  have ht' : t' = t := by rw [hT hself]
  subst ht'
  have E2 : Ev (fun k => impl_UnstuffBits.f k a b u) (t', true) := by
    simp only [impl_UnstuffBits.f, hv, hc2, Option.bind_some, if_true, Bool.not_true]
    refine Ev_succ ?_
    simp only [impl_UnstuffBits.j0, Bool.false_eq_true, if_false, hB, Option.bind_some, if_true]; exact Ev.now _
  have hw : ∀ n, (leadB b (u.data.toList.drop n) : Int) ≤ (a : Int) := by rw [hud]; exact hlead.2
  obtain ⟨x, hx, hrun⟩ := run_loop u a b hb (by omega) (by omega) hw u.size 0 0 0 (by omega) (by omega) (by omega) (by omega) (by have := hw 0; omega)
  have E3 : Ev (fun k => impl_LongestRun.f k a b u) (x, true) := by
    simp only [impl_LongestRun.f, hv, hc2, Option.bind_some, if_true, Bool.not_true]
    refine Ev_succ ?_
    simp only [impl_LongestRun.j0, Bool.false_eq_true, if_false]; exact hrun
  have E4 : impl_MostStuffed.f a b (t'.size : Int) = some ((t'.size : Int) / a, true) := by
    have hd0 : 0 ≤ (t'.size : Int) / a := Int.ediv_nonneg (by omega) (by omega)
    have hd1 : (t'.size : Int) / a ≤ t'.size := Int.ediv_le_self _ (by omega)
    simp only [impl_MostStuffed.f, hv, Option.bind_some, if_true, within_eq, decide_eq_true (show (0 : Int) ≤ (t'.size : Int) ∧ (t'.size : Int) ≤ 400 by omega), if_neg (show ¬ (a : Int) = 0 by omega), Int.tdiv_eq_ediv_of_nonneg (show (0 : Int) ≤ (t'.size : Int) by omega)]
    rw [w64 (by omega) (by omega)]
  have E5 : impl_FlagOf.f a b = some (strOfNums (flagL a b), true) := by
    simp only [impl_FlagOf.f, hv, Option.bind_some, if_true, flag_eq a b (by omega) hb]
  have hfz : (strOfNums (flagL a b)).size = a + 3 := by rw [sn_size, flagL_length]
  have w1 : -9223372036854775808 ≤ (u.size : Int) - t'.size ∧ (u.size : Int) - t'.size ≤ 9223372036854775807 := by omega
  have w2 : -9223372036854775808 ≤ (a : Int) + 3 ∧ (a : Int) + 3 ≤ 9223372036854775807 := by omega
  have c3 : ¬ x > (a : Int) := by omega
  have c4 : ¬ (u.size : Int) < (t'.size : Int) := by omega
  have c5 : ¬ (u.size : Int) - t'.size > (t'.size : Int) / a := by omega
  have c6 : ((a + 3 : Nat) : Int) = (a : Int) + 3 := by omega
  simp only [e, hst, Option.bind_some, Bool.false_eq_true, if_false]
  refine Ev.bind hbits (Ev.bind E1 (Ev.bind E2 (Ev.bind E3 ?_)))
  simp only [E4, E5, hv, Option.bind_some, if_true, if_neg c3, if_neg c4, w64 w1.1 w1.2, if_neg c5, hfz, w64 w2.1 w2.2, if_pos c6, Bool.not_true]
  refine Ev_succ ?_
  simp only [laws_FnStuffed.j0, Bool.false_eq_true, if_false]
  exact law_loop u a b (by omega) (by omega) hb hw u.size 0 (by omega)

end Go.Proofs.YtbifbbfkcbgnlaaDoor.Pure
