/- The law FnFramed of the given program holds: for every input that the row lets in the call returns true and leaves its arguments as they were. No condition ahead of it. -/
import Derived.Test.YtbifbbfkcbgnlaaDoorPFnFramedx5
import Derived.Test.YtbifbbfkcbgnlaaDoorMine
namespace Go.Proofs.YtbifbbfkcbgnlaaDoor.Pure
open Go.RowKit Go.Proofs.YtbifbbfkcbgnlaaDoor.PFnFramed Go.Proofs.YtbifbbfkcbgnlaaDoorW.PrintWords Go.Proofs.YtbifbbfkcbgnlaaDoorW.PrintLast Go.Proofs.YtbifbbfkcbgnlaaDoorW.PrintMore Go.Proofs.YtbifbbfkcbgnlaaDoor.Mine
set_option linter.unusedVariables false
set_option linter.unusedSimpArgs false
theorem within_eq (a b c : Int) : impl_within.f a b c = some (decide (b ≤ a ∧ a ≤ c)) := by
  unfold impl_within.f; by_cases h : a ≥ b
  · rw [if_pos h]; simp; intro _; exact h
  · rw [if_neg h]; simp; intro h'; omega

def StOk (a b : Int) : Prop := (1 ≤ a ∧ a ≤ 10) ∧ (0 ≤ b ∧ b ≤ 1)

def AllBit (s : ByteArray) : Prop := ∀ i : Int, 0 ≤ i → i < s.size → bt s i = 48 ∨ bt s i = 49
def IsBitS (s : ByteArray) : Prop := AllBit s ∧ (s.size : Int) ≤ 400
theorem bt_list (s : ByteArray) (i : Nat) (h : i < s.size) : bt s i = ((s.data.toList[i]'(by simpa using h)).toNat : Int) := by
  unfold bt
  simp only [Int.toNat_natCast, h, dif_pos]
  rfl
theorem dropWhile_nil (p : UInt8 → Bool) : ∀ l : List UInt8, l.dropWhile p = [] ↔ ∀ b ∈ l, p b = true
  | [] => by simp
  | x :: l => by
    rw [List.dropWhile_cons]
    cases h : p x with
    | true => simp [h, dropWhile_nil p l]
    | false => simp [h]
theorem trim_empty (l : List UInt8) : (Lib.trimS l [48, 49]).isEmpty = true ↔ ∀ b ∈ l, b = 48 ∨ b = 49 := by
  have key : ∀ p : UInt8 → Bool, List.dropWhile p (List.dropWhile p l.reverse).reverse = [] ↔ ∀ b ∈ l, p b = true := by
    intro p
    rw [dropWhile_nil]
    constructor
    · intro h
      by_cases e : List.dropWhile p l.reverse = []
      · have := (dropWhile_nil p _).1 e
        exact fun b hb => this b (by simpa using hb)
      · have hh := List.head_dropWhile_not p e
        have h3 := h ((List.dropWhile p l.reverse).head e) (by simp)
        rw [hh] at h3
        cases h3
    · intro h b hb
      have : List.dropWhile p l.reverse = [] := (dropWhile_nil p _).2 (fun b hb => h b (by simpa using hb))
      rw [this] at hb
      simp at hb
  unfold Lib.trimS Lib.trimRightS Lib.trimLeftS
  rw [List.isEmpty_iff, key]
  simp
theorem areBits_ev (s : ByteArray) (hs : s.size ≤ 140737488351232) : ∃ b, impl_areBits.f s = some b ∧ (b = true ↔ AllBit s) := by
  refine ⟨(Lib.trimS s.data.toList [48, 49]).isEmpty, by unfold impl_areBits.f; rw [if_pos (by omega)], ?_⟩
  rw [trim_empty]
  constructor
  · intro h i h0 h1
    obtain ⟨n, rfl⟩ : ∃ n : Nat, i = n := ⟨i.toNat, by omega⟩
    rw [bt_list s n (by omega)]
    rcases h _ (List.getElem_mem (l := s.data.toList) (n := n) (by simp; omega)) with e | e <;> rw [e]
    · exact Or.inl rfl
    · exact Or.inr rfl
  · intro h b hb
    obtain ⟨n, hn, rfl⟩ := List.getElem_of_mem hb
    have hn' : n < s.size := by simpa using hn
    have := h n (by omega) (by omega)
    rw [bt_list s n hn'] at this
    rcases this with e | e
    · left; apply UInt8.toNat_inj.1; show s.data.toList[n].toNat = 48; omega
    · right; apply UInt8.toNat_inj.1; show s.data.toList[n].toNat = 49; omega
theorem isBits_ev (s : ByteArray) (hs : s.size ≤ 140737488351232) : ∃ b, impl_IsBits.f s = some b ∧ (b = true ↔ IsBitS s) := by
  obtain ⟨b, hb, hi⟩ := areBits_ev s hs
  simp only [impl_IsBits.f, hb, Option.bind_some, IsBitS]
  by_cases h : (s.size : Int) ≤ 400
  · exact ⟨b, by rw [if_pos h], by rw [hi]; exact ⟨fun g => ⟨g, h⟩, fun g => g.1⟩⟩
  · exact ⟨false, by rw [if_neg h], by simp only [Bool.false_eq_true, false_iff]; exact fun g => h g.2⟩

theorem ba_ext {a b : ByteArray} (h : a.data.toList = b.data.toList) : a = b := by apply ByteArray.ext; exact Array.toList_inj.1 h
theorem sn_append (a b : List Int) : strOfNums (a ++ b) = strOfNums a ++ strOfNums b := by apply ba_ext; simp [strOfNums]
theorem sn_size (a : List Int) : (strOfNums a).size = a.length := by simp [strOfNums, ByteArray.size]
theorem sn_nil : strOfNums [] = (⟨#[]⟩ : ByteArray) := rfl
theorem bt_range (s : ByteArray) (i : Int) (h0 : 0 ≤ i) (h1 : i < s.size) : 0 ≤ bt s i ∧ bt s i < 256 := by
  obtain ⟨n, rfl⟩ : ∃ n : Nat, i = n := ⟨i.toNat, by omega⟩
  rw [bt_list s n (by omega)]
  have := (s.data.toList[n]'(by simp; omega)).toNat_lt
  omega
theorem extract_one (s : ByteArray) (n : Nat) (h : n < s.size) : (s.extract n (n + 1)).data.toList = [s.data.toList[n]'(by simpa using h)] := by
  have h' : n < s.data.size := h
  simp only [ByteArray.data_extract, Array.toList_extract, List.extract_eq_take_drop]
  rw [show n + 1 - n = 1 by omega, List.drop_eq_getElem_cons (show n < s.data.toList.length by simpa using h')]
  simp
theorem sn_one (s : ByteArray) (i : Int) (h0 : 0 ≤ i) (h1 : i < s.size) : strOfNums [bt s i] = s.extract i.toNat (i + 1).toNat := by
  obtain ⟨n, rfl⟩ : ∃ n : Nat, i = n := ⟨i.toNat, by omega⟩
  apply ba_ext
  rw [show ((n : Int) + 1).toNat = n + 1 by omega, Int.toNat_natCast, extract_one s n (by omega), bt_list s n (by omega)]
  simp [strOfNums]
theorem sn_rep (x : Int) : ∀ n, strOfNums (List.replicate n x) = ⟨(Lib.repeatL (strOfNums [x]).data.toList n).toArray⟩
  | 0 => by apply ba_ext; simp [strOfNums, Lib.repeatL]
  | n + 1 => by
    rw [List.replicate_succ, show x :: List.replicate n x = [x] ++ List.replicate n x from rfl, sn_append, sn_rep x n]
    apply ba_ext
    simp [Lib.repeatL]

theorem ex_size (s : ByteArray) (a b : Nat) (hb : b ≤ s.size) : (s.extract a b).size = b - a := by
  simp only [ByteArray.size_extract]; omega
theorem ex_list (s : ByteArray) (a b : Nat) : (s.extract a b).data.toList = (s.data.toList.drop a).take (b - a) := by
  simp only [ByteArray.data_extract, Array.toList_extract, List.extract_eq_take_drop]
theorem ex_ex (s : ByteArray) (a b c d : Nat) (h : a + d ≤ b) : (s.extract a b).extract c d = s.extract (a + c) (a + d) := by
  apply ba_ext
  rw [ex_list, ex_list, ex_list, List.drop_take, List.drop_drop, List.take_take]
  congr 1
  omega
theorem dl_size (s : ByteArray) : s.data.toList.length = s.size := Array.length_toList
theorem ex_whole (s : ByteArray) : s.extract 0 s.size = s := by
  apply ba_ext; rw [ex_list, List.drop_zero]; exact List.take_of_length_le (by rw [dl_size]; omega)
theorem bt_extract (s : ByteArray) (a b : Nat) (hb : b ≤ s.size) (j : Int) (h0 : 0 ≤ j) (h1 : j < (b : Int) - a) : bt (s.extract a b) j = bt s (a + j) := by
  obtain ⟨n, rfl⟩ : ∃ n : Nat, j = n := ⟨j.toNat, by omega⟩
  have hz := ex_size s a b hb
  rw [bt_list _ n (by omega), show (a : Int) + n = ((a + n : Nat) : Int) by omega, bt_list _ _ (by omega)]
  congr 2
  simp only [ex_list]
  rw [List.getElem_take, List.getElem_drop]
theorem AllBit_extract (s : ByteArray) (h : AllBit s) (a b : Nat) (hb : b ≤ s.size) : AllBit (s.extract a b) := by
  intro j h0 h1
  have hz := ex_size s a b hb
  rw [bt_extract s a b hb j h0 (by omega)]
  exact h _ (by omega) (by omega)
theorem nil_size (s : ByteArray) : s.toList = ([] : List UInt8) ↔ s.size = 0 := by
  rw [Lib.toList_data]
  show _ ↔ s.data.size = 0
  rw [← Array.length_toList]
  exact List.length_eq_zero_iff.symm

def stuffM (a b : Int) : Int → List UInt8 → List UInt8
  | _, [] => []
  | run, c :: r => if ((c.toNat : Int) - 48) % 256 ≠ b then c :: stuffM a b 0 r else if run + 1 = a then c :: (if b = 0 then 49 else 48) :: stuffM a b 0 r else c :: stuffM a b (run + 1) r
theorem sn_push (acc : List Int) (v : Int) : (strOfNums (acc ++ [v])).data.toList = (strOfNums acc).data.toList ++ [UInt8.ofNat v.toNat] := by simp [strOfNums]
theorem stuff_eq (s : ByteArray) (a b : Int) (hs : s.size ≤ 400) : impl_Stuffer_stuff.f a b s = some ⟨(stuffM a b 0 s.data.toList).toArray⟩ := by
  have h : ∀ (l : List UInt8) (run : Int), stuffL a b run l = stuffM a b run l := by
    intro l
    induction l with
    | nil => intro run; rfl
    | cons c r ih => intro run; simp only [stuffL, stuffM, ih]
  rw [impl_Stuffer_stuff.f, if_pos (by omega), h]

def keptL (a b : Int) : Int → List UInt8 → List UInt8
  | _, [] => []
  | run, c :: r => if run = a then keptL a b 0 r else if ((c.toNat : Int) - 48) % 256 = b then c :: keptL a b (run + 1) r else c :: keptL a b 0 r
def isBitB (c : UInt8) : Prop := c = 48 ∨ c = 49
theorem kept_length (a b : Int) (l : List UInt8) : ∀ run, (keptL a b run l).length ≤ l.length := by
  induction l with
  | nil => intro run; simp [keptL]
  | cons c r ih =>
    intro run
    have h1 := ih 0
    have h2 := ih (run + 1)
    simp only [keptL]
    split
    · simp; omega
    · split <;> simp <;> omega
theorem bitB_val {c : UInt8} (h : isBitB c) : ((c.toNat : Int) - 48) % 256 = 0 ∨ ((c.toNat : Int) - 48) % 256 = 1 := by rcases h with rfl | rfl <;> decide
theorem bitB_other {c : UInt8} (h : isBitB c) {b : Int} (hb : 0 ≤ b ∧ b ≤ 1) : (if b = 0 then (49 : UInt8) else 48) = c ↔ ¬ ((c.toNat : Int) - 48) % 256 = b := by
  by_cases z : b = 0
  · subst z; rcases h with rfl | rfl <;> decide
  · have : b = 1 := by omega
    subst this; rcases h with rfl | rfl <;> decide
theorem unstuff_ok (a b : Int) (ha : 1 ≤ a) (hb : 0 ≤ b ∧ b ≤ 1) (l : List UInt8) (hl : ∀ c ∈ l, isBitB c) : ∀ (run : Int) (acc : List UInt8), 0 ≤ run → run ≤ a →
    (((unstuffL a b run acc l).2 = true ↔ (if run = a then (if b = 0 then (49 : UInt8) else 48) :: stuffM a b 0 (keptL a b run l) else stuffM a b run (keptL a b run l)) = l) ∧
      ((unstuffL a b run acc l).2 = true → (unstuffL a b run acc l).1 = acc ++ keptL a b run l)) := by
  induction l with
  | nil =>
    intro run acc h0 h1
    by_cases e : run = a
    · simp [unstuffL, keptL, e]
    · simp [unstuffL, keptL, e, stuffM]; omega
  | cons c r ih =>
    intro run acc h0 h1
    have hc := hl c (List.mem_cons_self)
    have ih' := ih (fun x hx => hl x (List.mem_cons_of_mem _ hx))
    have ho := bitB_other hc hb
    by_cases e : run = a
    · by_cases q : ((c.toNat : Int) - 48) % 256 = b
      · have hne : ¬ (if b = 0 then (49 : UInt8) else 48) = c := fun g => (ho.1 g) q
        simp only [unstuffL, keptL, if_pos e, if_pos q, Bool.false_eq_true, false_iff, false_implies, and_true]
        intro g
        exact hne (List.cons.inj g).1
      · have he := ho.2 q
        obtain ⟨i1, i2⟩ := ih' 0 acc (by omega) (by omega)
        rw [if_neg (show ¬ (0 : Int) = a by omega)] at i1
        simp only [unstuffL, keptL, if_pos e, if_neg q, he, List.cons.injEq, true_and]
        exact ⟨i1, i2⟩
    · by_cases q : ((c.toNat : Int) - 48) % 256 = b
      · obtain ⟨i1, i2⟩ := ih' (run + 1) (acc ++ [c]) (by omega) (by omega)
        simp only [unstuffL, keptL, if_neg e, if_pos q, stuffM, if_neg (show ¬ ((c.toNat : Int) - 48) % 256 ≠ b from fun g => g q)]
        refine ⟨?_, fun g => by rw [i2 g]; simp⟩
        by_cases e2 : run + 1 = a
        · rw [if_pos e2] at i1 ⊢
          rw [List.cons.injEq, i1]; simp
        · rw [if_neg e2] at i1 ⊢
          rw [List.cons.injEq, i1]; simp
      · obtain ⟨i1, i2⟩ := ih' 0 (acc ++ [c]) (by omega) (by omega)
        rw [if_neg (show ¬ (0 : Int) = a by omega)] at i1
        simp only [unstuffL, keptL, if_neg e, if_neg q, stuffM, if_pos (show ((c.toNat : Int) - 48) % 256 ≠ b from q)]
        refine ⟨by rw [List.cons.injEq, i1]; simp, fun g => by rw [i2 g]; simp⟩
theorem allBit_list (s : ByteArray) (h : AllBit s) : ∀ c ∈ s.data.toList, isBitB c := by
  intro c hc
  obtain ⟨n, hn, rfl⟩ := List.getElem_of_mem hc
  have hn' : n < s.size := by rw [dl_size] at hn; exact hn
  have := h n (by omega) (by omega)
  rw [bt_list s n hn'] at this
  rcases this with e | e
  · left; apply UInt8.toNat_inj.1; show s.data.toList[n].toNat = 48; omega
  · right; apply UInt8.toNat_inj.1; show s.data.toList[n].toNat = 49; omega
theorem unstuff_eq (s : ByteArray) (a b : Int) (ha : 1 ≤ a) (hb : 0 ≤ b ∧ b ≤ 1) (hs : s.size ≤ 400) (h : AllBit s) : ∃ t, impl_Stuffer_unstuff.f a b s = some (t, ((⟨(stuffM a b 0 (keptL a b 0 s.data.toList)).toArray⟩ : ByteArray).toList == s.toList)) ∧
    (((⟨(stuffM a b 0 (keptL a b 0 s.data.toList)).toArray⟩ : ByteArray).toList == s.toList) = true → t = ⟨(keptL a b 0 s.data.toList).toArray⟩) := by
  obtain ⟨h1, h2⟩ := unstuff_ok a b ha hb s.data.toList (allBit_list s h) 0 [] (by omega) (by omega)
  rw [if_neg (show ¬ (0 : Int) = a by omega)] at h1
  have e : ((⟨(stuffM a b 0 (keptL a b 0 s.data.toList)).toArray⟩ : ByteArray).toList == s.toList) = (unstuffL a b 0 [] s.data.toList).2 := by
    rw [Bool.eq_iff_iff, beq_iff_eq, h1, Lib.toList_data, Lib.toList_data]
  refine ⟨_, by rw [impl_Stuffer_unstuff.f, if_pos (by omega), e], fun g => ?_⟩
  rw [e] at g
  rw [h2 g, List.nil_append]

def leadB (b : Int) : List UInt8 → Nat
  | [] => 0
  | c :: r => if ((c.toNat : Int) - 48) % 256 = b then leadB b r + 1 else 0
theorem oB_ne (b : Int) (hb : 0 ≤ b ∧ b ≤ 1) : ¬ (((if b = 0 then (49 : UInt8) else 48).toNat : Int) - 48) % 256 = b := by
  by_cases z : b = 0
  · subst z; decide
  · have : b = 1 := by omega
    subst this; decide
theorem stuffM_lead (a b : Int) (hb : 0 ≤ b ∧ b ≤ 1) (l : List UInt8) : ∀ run : Int, 0 ≤ run → run < a → (leadB b (stuffM a b run l) : Int) ≤ a - run ∧ ∀ n, (leadB b ((stuffM a b run l).drop n) : Int) ≤ a := by
  induction l with
  | nil => intro run h0 h1; refine ⟨?_, fun n => ?_⟩ <;> simp [stuffM, leadB] <;> omega
  | cons c r ih =>
    intro run h0 h1
    obtain ⟨i1, i2⟩ := ih 0 (by omega) (by omega)
    simp only [stuffM]
    by_cases q : ((c.toNat : Int) - 48) % 256 = b
    · rw [if_neg (fun g => g q)]
      by_cases e : run + 1 = a
      · rw [if_pos e]
        have ho := oB_ne b hb
        refine ⟨by simp only [leadB, if_pos q, if_neg ho]; omega, fun n => ?_⟩
        match n with
        | 0 => rw [List.drop_zero]; simp only [leadB, if_pos q, if_neg ho]; omega
        | 1 => simp only [List.drop_succ_cons, List.drop_zero, leadB, if_neg ho]; omega
        | n + 2 => simp only [List.drop_succ_cons]; exact i2 n
      · rw [if_neg e]
        obtain ⟨j1, j2⟩ := ih (run + 1) (by omega) (by omega)
        refine ⟨by simp only [leadB, if_pos q]; omega, fun n => ?_⟩
        cases n with
        | zero => rw [List.drop_zero]; simp only [leadB, if_pos q]; omega
        | succ n => rw [List.drop_succ_cons]; exact j2 n
    · rw [if_pos q]
      refine ⟨by simp only [leadB, if_neg q]; omega, fun n => ?_⟩
      cases n with
      | zero => rw [List.drop_zero]; simp only [leadB, if_neg q]; omega
      | succ n => rw [List.drop_succ_cons]; exact i2 n
theorem stuffM_len (a b : Int) (ha : 1 ≤ a) (l : List UInt8) : ∀ run : Int, 0 ≤ run → run < a → ∃ k : Nat, (stuffM a b run l).length = l.length + k ∧ (k : Int) * a ≤ run + l.length := by
  induction l with
  | nil => intro run h0 h1; exact ⟨0, by simp [stuffM], by simp; omega⟩
  | cons c r ih =>
    intro run h0 h1
    obtain ⟨k, i1, i2⟩ := ih 0 (by omega) (by omega)
    simp only [stuffM]
    by_cases q : ((c.toNat : Int) - 48) % 256 = b
    · rw [if_neg (fun g => g q)]
      by_cases e : run + 1 = a
      · rw [if_pos e]
        refine ⟨k + 1, by simp only [List.length_cons, i1]; omega, ?_⟩
        rw [show ((k + 1 : Nat) : Int) = (k : Int) + 1 by omega, Int.add_mul]
        simp only [List.length_cons]; omega
      · rw [if_neg e]
        obtain ⟨k, j1, j2⟩ := ih (run + 1) (by omega) (by omega)
        exact ⟨k, by simp only [List.length_cons, j1]; omega, by simp only [List.length_cons]; omega⟩
    · rw [if_pos q]
      exact ⟨k, by simp only [List.length_cons, i1]; omega, by simp only [List.length_cons]; omega⟩
theorem kept_stuff (a b : Int) (l : List UInt8) : ∀ run : Int, run < a → (0 : Int) < a → keptL a b run (stuffM a b run l) = l := by
  induction l with
  | nil => intro run h1 h2; rfl
  | cons c r ih =>
    intro run h1 h2
    simp only [stuffM]
    by_cases q : ((c.toNat : Int) - 48) % 256 = b
    · rw [if_neg (fun g => g q)]
      by_cases e : run + 1 = a
      · rw [if_pos e]
        simp only [keptL, if_neg (show ¬ run = a by omega), if_pos q, if_pos e]
        rw [ih 0 h2 h2]
      · rw [if_neg e]
        simp only [keptL, if_neg (show ¬ run = a by omega), if_pos q]
        rw [ih (run + 1) (by omega) h2]
    · rw [if_pos q]
      simp only [keptL, if_neg (show ¬ run = a by omega), if_neg q]
      rw [ih 0 h2 h2]
theorem stuffM_bits (a b : Int) (l : List UInt8) (hl : ∀ c ∈ l, isBitB c) : ∀ run : Int, ∀ c ∈ stuffM a b run l, isBitB c := by
  induction l with
  | nil => intro run c hc; cases hc
  | cons c r ih =>
    intro run
    have hc := hl c List.mem_cons_self
    have ih := ih (fun x hx => hl x (List.mem_cons_of_mem _ hx))
    simp only [stuffM]
    split
    · intro x hx; rcases List.mem_cons.1 hx with rfl | h
      · exact hc
      · exact ih _ x h
    · split
      · intro x hx; rcases List.mem_cons.1 hx with rfl | h
        · exact hc
        · rcases List.mem_cons.1 h with rfl | h
          · split
            · exact .inr rfl
            · exact .inl rfl
          · exact ih _ x h
      · intro x hx; rcases List.mem_cons.1 hx with rfl | h
        · exact hc
        · exact ih _ x h

def flagL (a : Nat) (b : Int) : List Int := ([49 - b] ++ List.replicate (a + 1) (48 + b)) ++ [49 - b]
theorem flagL_length (a : Nat) (b : Int) : (flagL a b).length = a + 3 := by simp [flagL]
theorem bitOf_eq' (c : Bool) : impl_bitOf.f c = some (strOfNums [if c = true then 49 else 48]) := by cases c <;> rfl
theorem flag_rep (a : Nat) (b : Int) (ha : a ≤ 10) : strings_Repeat.f (strOfNums [48 + b]) ((a : Int) + 1) = some (strOfNums (List.replicate (a + 1) (48 + b))) := by
  have hz : ((strOfNums [48 + b]).size : Int) = 1 := by rw [sn_size]; rfl
  unfold strings_Repeat.f
  rw [if_pos ⟨by omega, by omega, by rw [hz]; omega⟩, sn_rep, show ((a : Int) + 1).toNat = a + 1 by omega]
theorem flag_bit0 (b : Int) (hb : 0 ≤ b ∧ b ≤ 1) : impl_bitOf.f (b == 0) = some (strOfNums [49 - b]) := by
  rw [bitOf_eq']
  by_cases h : b = 0
  · rw [h]; rfl
  · rw [show b = 1 by omega]; rfl
theorem flag_bit1 (b : Int) (hb : 0 ≤ b ∧ b ≤ 1) : impl_bitOf.f (b == 1) = some (strOfNums [48 + b]) := by
  rw [bitOf_eq']
  by_cases h : b = 0
  · rw [h]; rfl
  · rw [show b = 1 by omega]; rfl
theorem flag_eq (a : Nat) (b : Int) (ha : a ≤ 10) (hb : 0 ≤ b ∧ b ≤ 1) : impl_Stuffer_flag.f a b = some (strOfNums (flagL a b)) := by
  have l1 : (strOfNums [49 - b]).size = 1 := by rw [sn_size]; rfl
  have l2 : (strOfNums (List.replicate (a + 1) (48 + b))).size = a + 1 := by rw [sn_size, List.length_replicate]
  have l3 : (strOfNums [49 - b] ++ strOfNums (List.replicate (a + 1) (48 + b))).size = a + 2 := by rw [ByteArray.size_append, l1, l2]; omega
  unfold impl_Stuffer_flag.f
  rw [flag_bit0 b hb, Option.bind_some, flag_bit1 b hb, Option.bind_some, w64 (by omega) (by omega), flag_rep a b ha, Option.bind_some, if_pos (by rw [l1, l2]; omega), if_pos (by rw [l3, l1]; omega), flagL, sn_append, sn_append]

theorem and255 (x : Int) : 0 ≤ Go.bits .and .u64 x 255 ∧ Go.bits .and .u64 x 255 ≤ 255 := by
  have h : (BitVec.ofInt 64 x &&& BitVec.ofInt 64 255).toNat ≤ 255 := by
    rw [BitVec.toNat_and]; exact Nat.le_trans Nat.and_le_right (by decide)
  have e : Go.bits .and .u64 x 255 = IntKind.u64.wrap ((BitVec.ofInt 64 x &&& BitVec.ofInt 64 255).toNat : Int) := rfl
  rw [e]
  generalize (BitVec.ofInt 64 x &&& BitVec.ofInt 64 255).toNat = n at h
  have e2 : IntKind.u64.wrap (n : Int) = (n : Int) % 18446744073709551616 := rfl
  rw [e2]; omega
def U8L (l : List Int) : Prop := ∀ x ∈ l, (Lit.int .u8 x).wf = true
theorem u8_rd {l : List Int} (h : U8L l) (i : Int) : 0 ≤ rd l i ∧ rd l i ≤ 255 := by
  unfold rd
  rw [List.getD_eq_getElem?_getD]
  cases e : l[i.toNat]? with
  | none => exact ⟨by decide, by decide⟩
  | some v =>
    have := h v (List.mem_of_getElem? e)
    simp only [Lit.wf, IntKind.min, IntKind.max, IntKind.signed, IntKind.bits, Bool.and_eq_true, decide_eq_true_eq, Bool.false_eq_true, if_false] at this
    simp only [Option.getD_some]
    omega
theorem next_ev (l : List Int) (hu : U8L l) (hl : l.length ≤ 1000000) (a s : Int) (h0 : 0 ≤ a) (h1 : a ≤ 1000000000000) : ∃ v s', spec_l00Src_next.f l a s = some (v, a + 1, s') ∧ 0 ≤ v ∧ v ≤ 255 := by
  have ha := and255 ((IntKind.u64.wrap ((IntKind.u64.wrap ((IntKind.u64.wrap (s * 6364136223846793005)) + (IntKind.u64.wrap (wrap64 (rd l a))))) + 1442695040888963407)) / 1099511627776)
  have hb := and255 ((IntKind.u64.wrap ((IntKind.u64.wrap ((IntKind.u64.wrap (s * 6364136223846793005)) + 0)) + 1442695040888963407)) / 1099511627776)
  have hr := u8_rd hu a
  have e1 : wrap64 (a + 1) = a + 1 := w64 (by omega) (by omega)
  simp only [spec_l00Src_next.f]
  rw [e1]
  by_cases c : a < (l.length : Int)
  · rw [if_pos c, if_pos h0]
    by_cases c2 : a + 1 ≤ (l.length : Int)
    · rw [if_pos c2]; refine ⟨_, _, rfl, ?_⟩; rw [w64 (Int.le_trans (by decide) hr.1) (Int.le_trans hr.2 (by decide))]; exact hr
    · rw [if_neg c2]; refine ⟨_, _, rfl, ?_⟩; rw [w64 (Int.le_trans (by decide) ha.1) (Int.le_trans ha.2 (by decide))]; exact ha
  · rw [if_neg c]
    by_cases c2 : a + 1 ≤ (l.length : Int)
    · rw [if_pos c2]; exact ⟨_, _, rfl, by decide⟩
    · rw [if_neg c2]; refine ⟨_, _, rfl, ?_⟩; rw [w64 (Int.le_trans (by decide) hb.1) (Int.le_trans hb.2 (by decide))]; exact hb
theorem tmod_range (x n : Int) (h0 : 0 ≤ x) (hn : 1 ≤ n) : 0 ≤ Int.tmod x n ∧ Int.tmod x n < n := by
  rw [Int.tmod_eq_emod_of_nonneg h0]
  exact ⟨Int.emod_nonneg _ (by omega), Int.emod_lt_of_pos _ (by omega)⟩
theorem pick_ev (l : List Int) (hu : U8L l) (hl : l.length ≤ 1000000) (n a s : Int) (h0 : 0 ≤ a) (h1 : a ≤ 100000000000) :
    ∃ v a' s', spec_l00Src_pick.f l a s n = some (v, a', s') ∧ 0 ≤ v ∧ (1 ≤ n → v < n) ∧ a ≤ a' ∧ a' ≤ a + 2 := by
  simp only [spec_l00Src_pick.f]
  by_cases c : n ≤ 1
  · rw [if_pos c]; exact ⟨0, a, s, rfl, by omega, by omega, by omega, by omega⟩
  obtain ⟨v, s', e, hv⟩ := next_ev l hu hl a s h0 (by omega)
  obtain ⟨v2, s2, e2, hv2⟩ := next_ev l hu hl (a + 1) s' (by omega) (by omega)
  have hn0 : ¬ n = 0 := by omega
  have t1 := tmod_range v n hv.1 (by omega)
  have t2 := tmod_range (v * 256 + v2) n (by omega) (by omega)
  have b1 : -9223372036854775808 ≤ v * 256 ∧ v * 256 ≤ 9223372036854775807 := by omega
  have b2 : -9223372036854775808 ≤ v * 256 + v2 ∧ v * 256 + v2 ≤ 9223372036854775807 := by omega
  rw [if_neg c, e, Option.bind_some]
  by_cases c2 : n > 200
  · refine ⟨_, a + 1 + 1, s2, ?_, t2.1, fun _ => t2.2, by omega, by omega⟩
    simp only [if_pos c2]
    rw [e2, Option.bind_some, if_neg hn0, w64 b1.1 b1.2, w64 b2.1 b2.2]
  · refine ⟨_, a + 1, s', ?_, t1.1, fun _ => t1.2, by omega, by omega⟩
    rw [if_neg c2, if_neg hn0]
theorem one_ev (l : List Int) (hu : U8L l) (hl : l.length ≤ 1000000) (n a s : Int) (h0 : 0 ≤ a) (h1 : a ≤ 100000000000) :
    ∃ c a' s', spec_l00Src_one.f l a s n = some (c, a', s') ∧ a ≤ a' ∧ a' ≤ a + 2 := by
  obtain ⟨v, a', s', e, -, -, h2, h3⟩ := pick_ev l hu hl n a s h0 h1
  exact ⟨_, a', s', by rw [spec_l00Src_one.f, e, Option.bind_some], h2, h3⟩
def Bit48 (x : List Int) : Prop := ∀ v ∈ x, v = 48 ∨ v = 49
theorem r8Bits_loop (l : List Int) (hu : U8L l) (hl : l.length ≤ 1000000) (n : Nat) (hn : n ≤ 1000) (d : Nat) : ∀ (x : List Int) (a s : Int), Bit48 x → x.length + d ≤ n → 0 ≤ a → a + 4 * d ≤ 100000000 →
    ∃ y, Bit48 y ∧ y.length ≤ n ∧ Ev (fun k => spec_R8Bits.l0 k x d l a s) (strOfNums y) := by
  induction d with
  | zero =>
    intro x a s hx hxl h0 h1
    refine ⟨x, hx, by omega, Ev_succ ?_⟩
    simp only [spec_R8Bits.l0, if_neg (show ¬ ((0 : Nat) : Int) > 0 by omega)]; exact Ev.now _
  | succ d ih =>
    intro x a s hx hxl h0 h1
    obtain ⟨v, a1, s1, e1, hv0, hv1, ha1, ha2⟩ := pick_ev l hu hl 2 a s h0 (by omega)
    obtain ⟨c, a2, s2, e2, ha3, ha4⟩ := one_ev l hu hl 2 a1 s1 (by omega) (by omega)
    have hv1 := hv1 (by omega)
    have d1 : ((d + 1 : Nat) : Int) > 0 := by omega
    have lt : x.length < 140737488355328 := by omega
    have b1 : -9223372036854775808 ≤ 48 + v ∧ 48 + v ≤ 9223372036854775807 := by omega
    have b2 : -9223372036854775808 ≤ (d : Int) ∧ (d : Int) ≤ 9223372036854775807 := by omega
    have b3 : ((d + 1 : Nat) : Int) - 1 = d := by omega
    have b4 : (48 + v) % 256 = 48 + v := by omega
    have b5 : -9223372036854775808 ≤ (x.length : Int) - 1 ∧ (x.length : Int) - 1 ≤ 9223372036854775807 := by omega
    have new : Bit48 (x ++ [48 + v]) := by
      intro w hw
      rcases List.mem_append.1 hw with g | g
      · exact hx w g
      · rw [List.mem_singleton.1 g]; omega
    have nl : ∀ w : Int, (x ++ [w]).length = x.length + 1 := fun w => by rw [List.length_append]; rfl
    by_cases hz : (x.length : Int) > 0
    · cases c with
      | true =>
        have q0 : 0 ≤ (x.length : Int) - 1 := by omega
        have q1 : (x.length : Int) - 1 < x.length := by omega
        have hm : rd x ((x.length : Int) - 1) ∈ x := by
          unfold rd
          rw [List.getD_eq_getElem?_getD, List.getElem?_eq_getElem (show ((x.length : Int) - 1).toNat < x.length by omega)]
          exact List.getElem_mem _
        obtain ⟨y, hy, hyl, hE⟩ := ih (x ++ [rd x ((x.length : Int) - 1)]) a2 s2 (by
          intro w hw
          rcases List.mem_append.1 hw with g | g
          · exact hx w g
          · rw [List.mem_singleton.1 g]; exact hx _ hm) (by rw [nl]; omega) (by omega) (by omega)
        refine ⟨y, hy, hyl, Ev_succ ?_⟩
        simp only [spec_R8Bits.l0, if_pos d1, e1, e2, Option.bind_some, if_pos hz, if_true, w64 b5.1 b5.2, if_pos q0, if_pos q1, if_pos lt, w64 b2.1 b2.2, b3]
        exact hE
      | false =>
        obtain ⟨y, hy, hyl, hE⟩ := ih (x ++ [48 + v]) a2 s2 new (by rw [nl]; omega) (by omega) (by omega)
        refine ⟨y, hy, hyl, Ev_succ ?_⟩
        simp only [spec_R8Bits.l0, if_pos d1, e1, e2, Option.bind_some, if_pos hz, Bool.false_eq_true, if_false, w64 b1.1 b1.2, b4, if_pos lt, w64 b2.1 b2.2, b3]
        exact hE
    · obtain ⟨y, hy, hyl, hE⟩ := ih (x ++ [48 + v]) a1 s1 new (by rw [nl]; omega) (by omega) (by omega)
      refine ⟨y, hy, hyl, Ev_succ ?_⟩
      simp only [spec_R8Bits.l0, if_pos d1, e1, Option.bind_some, if_neg hz, w64 b1.1 b1.2, b4, if_pos lt, w64 b2.1 b2.2, b3]
      exact hE
theorem r8Bits_ev (l : List Int) (hu : U8L l) (hl : l.length ≤ 1000000) (n : Nat) (hn : n ≤ 1000) : ∃ y, Bit48 y ∧ y.length ≤ n ∧ Ev (fun k => spec_R8Bits.f k l n) (strOfNums y) := by
  have b1 : -9223372036854775808 ≤ (n : Int) + 1 ∧ (n : Int) + 1 ≤ 9223372036854775807 := by omega
  obtain ⟨v, a1, s1, e1, hv0, hv1, ha1, ha2⟩ := pick_ev l hu hl ((n : Int) + 1) 0 0 (by omega) (by omega)
  have hv1 := hv1 (by omega)
  obtain ⟨d, rfl⟩ : ∃ d : Nat, v = d := ⟨v.toNat, by omega⟩
  obtain ⟨y, hy, hyl, hE⟩ := r8Bits_loop l hu hl n hn d [] a1 s1 (by intro w hw; cases hw) (by simp; omega) (by omega) (by omega)
  refine ⟨y, hy, hyl, ?_⟩
  simp only [spec_R8Bits.f, spec_l00From.f, Option.bind_some, w64 b1.1 b1.2, e1]
  exact hE
theorem bit48_sn {y : List Int} (h : Bit48 y) : AllBit (strOfNums y) ∧ (strOfNums y).size = y.length := by
  refine ⟨?_, sn_size y⟩
  intro i h0 h1
  rw [sn_size] at h1
  obtain ⟨n, rfl⟩ : ∃ n : Nat, i = n := ⟨i.toNat, by omega⟩
  have hn : n < y.length := by omega
  rw [bt_list _ n (by rw [sn_size]; exact hn)]
  have e : ((strOfNums y).data.toList[n]'(by have := sn_size y; simp only [ByteArray.size] at this; rw [Array.length_toList]; omega)) = UInt8.ofNat (y[n]).toNat := by simp [strOfNums]
  rw [e]
  rcases h _ (List.getElem_mem hn) with g | g <;> rw [g]
  · exact .inl rfl
  · exact .inr rfl
theorem r8Stuffer_ev (l : List Int) (hu : U8L l) (hl : l.length ≤ 1000000) : ∃ a b : Int, spec_R8Stuffer.f l = some (a, b) ∧ (1 ≤ a ∧ a ≤ 5) ∧ (0 ≤ b ∧ b ≤ 1) := by
  obtain ⟨v, a1, s1, e1, hv0, hv1, ha1, ha2⟩ := pick_ev l hu hl 5 0 0 (by omega) (by omega)
  obtain ⟨v2, a2, s2, e2, hw0, hw1, hb1, hb2⟩ := pick_ev l hu hl 2 a1 s1 (by omega) (by omega)
  have hv1 := hv1 (by omega)
  have hw1 := hw1 (by omega)
  refine ⟨1 + v, v2, ?_, by omega, by omega⟩
  simp only [spec_R8Stuffer.f, spec_l00From.f, Option.bind_some, e1, e2, w64 (show -9223372036854775808 ≤ 1 + v by omega) (by omega)]

theorem rs_set (l : List ByteArray) (i j : Int) (v : ByteArray) (hi : 0 ≤ i) (hil : i < l.length) (hj : 0 ≤ j) : rdOf ByteArray.empty (l.set i.toNat v) j = if j = i then v else rdOf ByteArray.empty l j := by
  unfold rdOf
  by_cases e : j = i
  · subst e; rw [if_pos rfl, List.getD_eq_getElem?_getD, List.getElem?_set_self (by omega)]; rfl
  · rw [if_neg e, List.getD_eq_getElem?_getD, List.getElem?_set_ne (by omega), List.getD_eq_getElem?_getD]
theorem ext_rs (a b : List ByteArray) (h : a.length = b.length) (hp : ∀ j : Int, 0 ≤ j → j < a.length → rdOf ByteArray.empty a j = rdOf ByteArray.empty b j) : a = b := by
  apply List.ext_getElem h
  intro n h1 h2
  have := hp n (by omega) (by omega)
  unfold rdOf at this
  rw [List.getD_eq_getElem?_getD, List.getD_eq_getElem?_getD, Int.toNat_natCast, List.getElem?_eq_getElem h1, List.getElem?_eq_getElem h2] at this
  simpa using this
theorem rs_mem (l : List ByteArray) (i : Int) (h0 : 0 ≤ i) (h1 : i < l.length) : rdOf ByteArray.empty l i ∈ l := by
  unfold rdOf
  rw [List.getD_eq_getElem?_getD, List.getElem?_eq_getElem (show i.toNat < l.length by omega)]
  exact List.getElem_mem _
theorem toList_inj {a b : ByteArray} : a.toList = b.toList ↔ a = b := by
  constructor
  · intro h
    rw [Lib.toList_data, Lib.toList_data] at h
    apply ByteArray.ext
    exact Array.toList_inj.1 h
  · rintro rfl; rfl

open Lib in
theorem piece_at (s f : ByteArray) (o j : Nat) (h : o + (j + f.size) ≤ s.size) : occAt (s.extract o s.size).data.toList f.data.toList j = true ↔ (s.extract (o + j) (o + j + f.size)).toList = f.toList := by
  have hz : (s.extract o s.size).size = s.size - o := ex_size s o s.size (Nat.le_refl _)
  rw [occ_of_piece _ f j (by omega), ex_ex s o s.size j (j + f.size) h, beq_iff_eq, Nat.add_assoc]
def okP (a b : Int) (p : ByteArray) : Bool := ((⟨(stuffM a b 0 (keptL a b 0 p.data.toList)).toArray⟩ : ByteArray).toList == p.toList)
def kpP (a b : Int) (p : ByteArray) : ByteArray := ⟨(keptL a b 0 p.data.toList).toArray⟩
def addP (a b : Int) (out : List ByteArray) (p : ByteArray) : List ByteArray := if okP a b p = true ∧ p.size ≠ 0 then out ++ [kpP a b p] else out
theorem kp_empty (a b : Int) (ha : 1 ≤ a) (p : ByteArray) : (kpP a b p).toList = [] ↔ p.size = 0 := by
  have hd : p.data.toList.length = p.size := dl_size p
  rw [Lib.toList_data]
  show keptL a b 0 p.data.toList = [] ↔ _
  cases h : p.data.toList with
  | nil => rw [h] at hd; simp [keptL]; simpa using hd.symm
  | cons c r =>
    rw [h] at hd
    simp only [keptL, if_neg (show ¬ (0 : Int) = a by omega)]
    constructor
    · intro g; split at g <;> cases g
    · intro g; rw [g] at hd; simp at hd
theorem addP_length (a b : Int) (out : List ByteArray) (p : ByteArray) : (addP a b out p).length ≤ out.length + 1 := by
  unfold addP; split <;> simp
theorem rs_nat (l : List ByteArray) (n : Nat) (h : n < l.length) : rdOf ByteArray.empty l n = l[n] := by
  unfold rdOf; rw [Int.toNat_natCast, List.getD_eq_getElem?_getD, List.getElem?_eq_getElem h]; rfl
theorem mid_loop (a b : Int) (ha : 1 ≤ a) (hb : 0 ≤ b ∧ b ≤ 1) (L : List ByteArray) (hL : L.length ≤ 1000) (hp : ∀ p ∈ L, AllBit p ∧ p.size ≤ 400) (d : Nat) : ∀ (out : List ByteArray) (i : Nat), i + d = L.length → 1 ≤ i → out.length ≤ i →
    Ev (fun k => impl_DeframeBits.l0 k L out L L.length i a b) (((L.drop i).dropLast.foldl (addP a b) out), true) := by
  induction d with
  | zero =>
    intro out i hd hi ho
    rw [List.drop_of_length_le (by omega)]
    refine Ev_succ ?_
    simp only [impl_DeframeBits.l0, if_neg (show ¬ (i : Int) < (L.length : Int) by omega)]; exact Ev.now _
  | succ d ih =>
    intro out i hd hi ho
    have hin : i < L.length := by omega
    have q : (i : Int) < (L.length : Int) := by omega
    have q0 : (0 : Int) ≤ i := by omega
    have q1 : ¬ (i : Int) = 0 := by omega
    have b1 : -9223372036854775808 ≤ (L.length : Int) - 1 ∧ (L.length : Int) - 1 ≤ 9223372036854775807 := by omega
    have b2 : -9223372036854775808 ≤ ((i + 1 : Nat) : Int) ∧ ((i + 1 : Nat) : Int) ≤ 9223372036854775807 := by omega
    have b3 : (i : Int) + 1 = ((i + 1 : Nat) : Int) := by omega
    have hdrop : L.drop i = L[i] :: L.drop (i + 1) := List.drop_eq_getElem_cons hin
    have hrs := rs_nat L i hin
    by_cases hl : (i : Int) = (L.length : Int) - 1
    · have e0 : (L.drop i).dropLast = [] := by rw [hdrop, List.drop_of_length_le (by omega)]; rfl
      have ihE := ih out (i + 1) (by omega) (by omega) (by omega)
      rw [List.drop_of_length_le (by omega)] at ihE
      rw [e0]
      refine Ev_succ ?_
      simp only [impl_DeframeBits.l0, if_pos q, if_pos q0, if_neg q1, w64 b1.1 b1.2, beq_iff_eq.2 hl]
      refine Ev_succ ?_
      simp only [impl_DeframeBits.j2, if_true, b3, w64 b2.1 b2.2]
      exact ihE
    · obtain ⟨hA, h4⟩ := hp L[i] (List.getElem_mem hin)
      obtain ⟨t, hB, hT⟩ := unstuff_eq L[i] a b ha hb h4 hA
      have hok : okP a b L[i] = ((⟨(stuffM a b 0 (keptL a b 0 L[i].data.toList)).toArray⟩ : ByteArray).toList == L[i].toList) := rfl
      rw [← hok] at hB hT
      have hne : L.drop (i + 1) ≠ [] := by intro g; have := congrArg List.length g; rw [List.length_drop] at this; simp at this; omega
      have e0 : (L.drop i).dropLast = L[i] :: (L.drop (i + 1)).dropLast := by
        rw [hdrop]
        cases hq : L.drop (i + 1) with
        | nil => exact absurd hq hne
        | cons c r => rfl
      have hal := addP_length a b out L[i]
      have ihE := ih (addP a b out L[i]) (i + 1) (by omega) (by omega) (by omega)
      rw [e0, List.foldl_cons]
      have lt : out.length < 8796093022208 := by omega
      have hne2 : ((i : Int) == (L.length : Int) - 1) = false := beq_eq_false_iff_ne.2 hl
      refine Ev_succ ?_
      simp only [impl_DeframeBits.l0, if_pos q, if_pos q0, if_neg q1, w64 b1.1 b1.2, hne2]
      refine Ev_succ ?_
      simp only [impl_DeframeBits.j2, Bool.false_eq_true, if_false, hrs, hB, Option.bind_some, b3, w64 b2.1 b2.2]
      cases hc : okP a b L[i] with
      | false =>
        have ea : addP a b out L[i] = out := by unfold addP; rw [hc]; simp
        rw [ea] at ihE
        simp only [Bool.false_eq_true, if_false]; rw [ea]; exact ihE
      | true =>
        have ht : t = kpP a b L[i] := hT hc
        subst ht
        have hk := kp_empty a b ha L[i]
        by_cases hz : L[i].size = 0
        · have ea : addP a b out L[i] = out := by unfold addP; rw [if_neg (fun g => g.2 hz)]
          rw [ea] at ihE
          simp only [if_true, if_pos (hk.2 hz)]; rw [ea]; exact ihE
        · have ea : addP a b out L[i] = out ++ [kpP a b L[i]] := by unfold addP; rw [if_pos ⟨hc, hz⟩]
          rw [ea] at ihE
          simp only [if_true, if_neg (fun g => hz (hk.1 g)), if_pos lt]; rw [ea]; exact ihE
theorem parts_ev (a b : Int) (ha : 1 ≤ a) (hb : 0 ≤ b ∧ b ≤ 1) (L : List ByteArray) (hL : L.length ≤ 1000) (hp : ∀ p ∈ L, AllBit p ∧ p.size ≤ 400) :
    Ev (fun k => impl_DeframeBits.l0 k L [] L L.length 0 a b) (((L.drop 1).dropLast.foldl (addP a b) []), true) := by
  by_cases h : L.length = 0
  · rw [List.drop_of_length_le (by omega)]
    refine Ev_succ ?_
    simp only [impl_DeframeBits.l0, if_neg (show ¬ (0 : Int) < (L.length : Int) by omega)]; exact Ev.now _
  · have hE := mid_loop a b ha hb L hL hp (L.length - 1) [] 1 (by omega) (Nat.le_refl _) (by simp)
    have q : (0 : Int) < (L.length : Int) := by omega
    have q0 : (0 : Int) ≤ 0 := by omega
    have b2 : -9223372036854775808 ≤ ((1 : Nat) : Int) ∧ ((1 : Nat) : Int) ≤ 9223372036854775807 := by omega
    have b3 : (0 : Int) + 1 = ((1 : Nat) : Int) := by omega
    refine Ev_succ ?_
    simp only [impl_DeframeBits.l0, if_pos q, if_pos q0, if_true]
    refine Ev_succ ?_
    simp only [impl_DeframeBits.j2, if_true, b3, w64 b2.1 b2.2]
    exact hE
theorem split_parts (f : ByteArray) (hf : 1 ≤ f.size) : ∀ (k : Nat) (s : ByteArray), AllBit s → s.size ≤ 400 → ∀ p ∈ Lib.splitB f 0 k s, AllBit p ∧ p.size ≤ 400
  | 0, s, h, hs, p, hp => by
    rw [Lib.splitB_zero, List.mem_singleton] at hp
    rw [hp]; exact ⟨h, hs⟩
  | k + 1, s, h, hs, p, hp => by
    rcases Lib.indexB_cases s f with hix | ⟨i, hix, hroom⟩
    · rw [Lib.splitB_miss f 0 (k + 1) s hix, List.mem_singleton] at hp
      rw [hp]; exact ⟨h, hs⟩
    · rw [Lib.splitB_hit f 0 k s i hix] at hp
      rcases List.mem_cons.1 hp with e | e
      · rw [e]; exact ⟨AllBit_extract s h 0 (i + 0) (by omega), by rw [ex_size s 0 (i + 0) (by omega)]; omega⟩
      · exact split_parts f hf k _ (AllBit_extract s h (i + f.size) s.size (Nat.le_refl _)) (by rw [ex_size s (i + f.size) s.size (Nat.le_refl _)]; omega) p e

theorem r8At_ev (l : List Int) (hu : U8L l) (i n : Int) (h0 : 0 ≤ i) (hn : 1 ≤ n) : ∃ v, laws_r8At.f l i n = some v ∧ 0 ≤ v ∧ v < n := by
  have hr := u8_rd hu i
  have ht := tmod_range (rd l i) n hr.1 hn
  have hn0 : ¬ n = 0 := by omega
  simp only [laws_r8At.f]
  by_cases c : n ≤ 1
  · rw [if_pos c]; exact ⟨0, rfl, by omega, by omega⟩
  rw [if_neg c]
  by_cases c1 : i ≥ (l.length : Int)
  · rw [if_pos c1]; exact ⟨0, rfl, by omega, by omega⟩
  have c2 : i < (l.length : Int) := by omega
  rw [if_neg c1, if_pos h0, if_pos c2, if_neg hn0, w64 (Int.le_trans (by decide) hr.1) (Int.le_trans hr.2 (by decide))]
  exact ⟨_, rfl, ht⟩
theorem r8Long_big (l0 l1 : List Int) (g : (l0.length : Int) > 48 ∨ (l1.length : Int) > 48) : laws_r8Long.f l0 l1 = some true := by
  simp only [laws_r8Long.f]
  by_cases g0 : (l0.length : Int) > 48
  · rw [if_pos g0]
  · rw [if_neg g0]; rcases g with g | g
    · exact absurd g g0
    · rw [decide_eq_true g]
theorem r8Long_small (l0 l1 : List Int) (g : ¬ ((l0.length : Int) > 48 ∨ (l1.length : Int) > 48)) : laws_r8Long.f l0 l1 = some false := by
  simp only [laws_r8Long.f]
  rw [if_neg (fun z => g (.inl z)), decide_eq_false (fun z => g (.inr z))]

theorem leadB_app (b : Int) (o : UInt8) (ho : ¬ ((o.toNat : Int) - 48) % 256 = b) (X : List UInt8) : ∀ x : List UInt8, leadB b (x ++ o :: X) = leadB b x
  | [] => by simp only [List.nil_append, leadB, if_neg ho]
  | c :: r => by rw [List.cons_append, leadB, leadB, leadB_app b o ho X r]
theorem leadB_repF (b : Int) (c : UInt8) (hc : ((c.toNat : Int) - 48) % 256 = b) : ∀ (n : Nat) (r : List UInt8), n ≤ leadB b (List.replicate n c ++ r)
  | 0, r => Nat.zero_le _
  | n + 1, r => by
    rw [List.replicate_succ, List.cons_append, leadB, if_pos hc]
    have := leadB_repF b c hc n r
    omega
def oB (b : Int) : UInt8 := UInt8.ofNat (49 - b).toNat
def bB (b : Int) : UInt8 := UInt8.ofNat (48 + b).toNat
theorem oB_val (b : Int) (hb : 0 ≤ b ∧ b ≤ 1) : ¬ (((oB b).toNat : Int) - 48) % 256 = b := by
  by_cases z : b = 0
  · subst z; decide
  · have : b = 1 := by omega
    subst this; decide
theorem bB_val (b : Int) (hb : 0 ≤ b ∧ b ≤ 1) : (((bB b).toNat : Int) - 48) % 256 = b := by
  by_cases z : b = 0
  · subst z; decide
  · have : b = 1 := by omega
    subst this; decide
def flB (a : Nat) (b : Int) : List UInt8 := oB b :: (List.replicate (a + 1) (bB b) ++ [oB b])
theorem flB_eq (a : Nat) (b : Int) : (strOfNums (flagL a b)).data.toList = flB a b := by simp [strOfNums, flagL, flB, oB, bB]
theorem flB_length (a : Nat) (b : Int) : (flB a b).length = a + 3 := by simp [flB]
def Low (a : Nat) (b : Int) (x : List UInt8) : Prop := ∀ n, (leadB b (x.drop n) : Int) ≤ a
open Lib in
theorem no_early (a : Nat) (b : Int) (hb : 0 ≤ b ∧ b ≤ 1) (x : List UInt8) (hx : Low a b x) (y : List UInt8) (j : Nat) (hj : j < x.length) : occAt (x ++ flB a b ++ y) (flB a b) j = false := by
  rw [Bool.eq_false_iff]
  intro h
  unfold occAt at h
  rw [List.isPrefixOf_iff_prefix] at h
  obtain ⟨z, hz⟩ := h
  have h1 : (x ++ flB a b ++ y).drop (j + 1) = List.replicate (a + 1) (bB b) ++ ([oB b] ++ z) := by
    rw [← List.drop_drop, ← hz]
    simp [flB]
  have h2 := leadB_repF b (bB b) (bB_val b hb) (a + 1) ([oB b] ++ z)
  rw [← h1, List.append_assoc, List.drop_append_of_le_length (by omega)] at h2
  have h3 := leadB_app b (oB b) (oB_val b hb) (List.replicate (a + 1) (bB b) ++ [oB b] ++ y) (x.drop (j + 1))
  have h4 : x.drop (j + 1) ++ (flB a b ++ y) = x.drop (j + 1) ++ oB b :: (List.replicate (a + 1) (bB b) ++ [oB b] ++ y) := by simp [flB]
  rw [h4, h3] at h2
  have := hx (j + 1)
  omega
open Lib in
theorem no_at_all (a : Nat) (b : Int) (hb : 0 ≤ b ∧ b ≤ 1) (x : List UInt8) (hx : Low a b x) (j : Nat) : occAt x (flB a b) j = false := by
  rw [Bool.eq_false_iff]
  intro h
  unfold occAt at h
  rw [List.isPrefixOf_iff_prefix] at h
  obtain ⟨z, hz⟩ := h
  have h1 : x.drop (j + 1) = List.replicate (a + 1) (bB b) ++ ([oB b] ++ z) := by
    rw [← List.drop_drop, ← hz]
    simp [flB]
  have h2 := leadB_repF b (bB b) (bB_val b hb) (a + 1) ([oB b] ++ z)
  rw [← h1] at h2
  have := hx (j + 1)
  omega
def BA (x : List UInt8) : ByteArray := ⟨x.toArray⟩
theorem BA_data (x : List UInt8) : (BA x).data.toList = x := rfl
theorem BA_size (x : List UInt8) : (BA x).size = x.length := by show x.toArray.size = _; simp
theorem BA_of (s : ByteArray) : s = BA s.data.toList := by apply ba_ext; rfl
theorem BA_append (x y : List UInt8) : BA x ++ BA y = BA (x ++ y) := by apply ba_ext; simp [BA]
def joinF (F : List UInt8) : List (List UInt8) → List UInt8
  | [] => []
  | x :: r => x ++ F ++ joinF F r
theorem joinF_snoc (F : List UInt8) (st : List UInt8) : ∀ xs : List (List UInt8), joinF F (xs ++ [st]) = joinF F xs ++ (st ++ F)
  | [] => by simp [joinF]
  | x :: r => by rw [List.cons_append, joinF, joinF, joinF_snoc F st r]; simp
theorem split_join (a : Nat) (b : Int) (hb : 0 ≤ b ∧ b ≤ 1) : ∀ (xs : List (List UInt8)), (∀ x ∈ xs, Low a b x) →
    Lib.countB (BA (joinF (flB a b) xs)) (BA (flB a b)) = xs.length ∧ Lib.splitB (BA (flB a b)) 0 xs.length (BA (joinF (flB a b) xs)) = xs.map BA ++ [BA []]
  | [], h => by
    refine ⟨?_, rfl⟩
    refine Lib.countB_miss _ _ ?_
    exact Lib.index_none (fun j hj => no_at_all a b hb [] (fun n => by simp [leadB]) j)
  | x :: r, h => by
    obtain ⟨h1, h2⟩ := split_join a b hb r (fun y hy => h y (List.mem_cons_of_mem _ hy))
    have hx := h x List.mem_cons_self
    have hF : (BA (flB a b)).size = (flB a b).length := BA_size _
    have hFl := flB_length a b
    have hocc : Lib.occAt (x ++ flB a b ++ joinF (flB a b) r) (flB a b) x.length = true := by
      unfold Lib.occAt
      rw [List.isPrefixOf_iff_prefix, List.append_assoc, List.drop_append_of_le_length (Nat.le_refl _), List.drop_length, List.nil_append]
      exact List.prefix_append _ _
    have hix : Lib.indexB (BA (joinF (flB a b) (x :: r))) (BA (flB a b)) = (x.length : Nat) := by
      refine Lib.index_first ?_ hocc (fun j hj => no_early a b hb x hx _ j hj)
      show x.length ≤ (x ++ flB a b ++ joinF (flB a b) r).length
      rw [List.length_append, List.length_append]; omega
    have hrest : (BA (joinF (flB a b) (x :: r))).extract (x.length + (BA (flB a b)).size) (BA (joinF (flB a b) (x :: r))).size = BA (joinF (flB a b) r) := by
      apply ba_ext
      rw [ex_list, BA_size, hF, BA_data, BA_data, joinF]
      rw [List.drop_append_of_le_length (by simp), List.drop_of_length_le (by simp), List.nil_append, List.take_of_length_le (by rw [List.length_append, List.length_append]; omega)]
    have hpart : (BA (joinF (flB a b) (x :: r))).extract 0 (x.length + 0) = BA x := by
      apply ba_ext
      rw [ex_list, BA_data, BA_data, joinF, List.drop_zero, List.append_assoc, Nat.add_zero, Nat.sub_zero, List.take_append_of_le_length (Nat.le_refl _), List.take_length]
    have hc := Lib.countB_hit _ _ x.length (by rw [hF]; omega) hix
    rw [hrest, h1] at hc
    refine ⟨by rw [hc, List.length_cons]; omega, ?_⟩
    rw [List.length_cons, Lib.splitB_hit _ 0 r.length _ x.length hix, hrest, h2, hpart, List.map_cons, List.cons_append]
theorem split_none (a : Nat) (b : Int) (hb : 0 ≤ b ∧ b ≤ 1) (x : List UInt8) (hx : Low a b x) : Lib.countB (BA x) (BA (flB a b)) = 0 :=
  Lib.countB_miss _ _ (Lib.index_none (fun j hj => no_at_all a b hb x hx j))
/-! the frames -/
def stF (a : Nat) (b : Int) (f : List UInt8) : List UInt8 := stuffM a b 0 f
theorem stF_low (a : Nat) (b : Int) (ha : 1 ≤ a) (hb : 0 ≤ b ∧ b ≤ 1) (f : List UInt8) : Low a b (stF a b f) := (stuffM_lead a b hb f 0 (by omega) (by omega)).2
theorem stF_len (a : Nat) (b : Int) (ha : 1 ≤ a) (f : List UInt8) : f.length ≤ (stF a b f).length ∧ (stF a b f).length ≤ 2 * f.length := by
  obtain ⟨k, h1, h2⟩ := stuffM_len a b (by omega) f 0 (by omega) (by omega)
  have h3 : (k : Int) * 1 ≤ (k : Int) * a := Int.mul_le_mul_of_nonneg_left (by omega) (by omega)
  unfold stF
  omega
theorem bits_all (x : List UInt8) (hx : ∀ c ∈ x, isBitB c) : AllBit (BA x) := by
  intro i h0 h1
  rw [BA_size] at h1
  obtain ⟨n, rfl⟩ : ∃ n : Nat, i = n := ⟨i.toNat, by omega⟩
  rw [bt_list (BA x) n (by rw [BA_size]; omega)]
  have hm : ((BA x).data.toList[n]'(by rw [BA_data]; omega)) ∈ x := List.getElem_mem (l := x) _
  rcases hx _ hm with z | z <;> rw [z]
  · exact .inl rfl
  · exact .inr rfl
theorem add_frame (a : Nat) (b : Int) (ha : 1 ≤ a) (out : List ByteArray) (f : List UInt8) (hf : f ≠ []) : addP a b out (BA (stF a b f)) = out ++ [BA f] := by
  have hk := kept_stuff a b f 0 (by omega) (by omega)
  have hkp : kpP a b (BA (stF a b f)) = BA f := by
    unfold kpP stF
    rw [BA_data, hk]; rfl
  have hok : okP a b (BA (stF a b f)) = true := by
    unfold okP stF
    rw [BA_data, hk, beq_iff_eq]; rfl
  have hz : (BA (stF a b f)).size ≠ 0 := by
    have := stF_len a b ha f
    have : 0 < f.length := List.length_pos_iff.2 hf
    rw [BA_size]; omega
  unfold addP
  rw [if_pos ⟨hok, hz⟩, hkp]
theorem add_frames (a : Nat) (b : Int) (ha : 1 ≤ a) : ∀ (fs : List (List UInt8)) (out : List ByteArray), (∀ f ∈ fs, f ≠ []) → ((fs.map (stF a b)).map BA).foldl (addP a b) out = out ++ fs.map BA
  | [], out, h => by simp
  | f :: r, out, h => by
    rw [List.map_cons, List.map_cons, List.foldl_cons, add_frame a b ha out f (h f List.mem_cons_self), add_frames a b ha r _ (fun g hg => h g (List.mem_cons_of_mem _ hg)), List.map_cons, List.append_assoc]
    rfl
theorem isBits_BA (x : List UInt8) (hx : ∀ c ∈ x, isBitB c) (hl : x.length ≤ 400) : impl_IsBits.f (BA x) = some true := by
  obtain ⟨c, hc, hd⟩ := isBits_ev (BA x) (by rw [BA_size]; omega)
  have : c = true := hd.2 ⟨bits_all x hx, by rw [BA_size]; omega⟩
  rw [hc, this]
theorem deframe_ev (a : Nat) (b : Int) (ha : 1 ≤ a ∧ a ≤ 10) (hb : 0 ≤ b ∧ b ≤ 1) (s : List UInt8) (hs : ∀ c ∈ s, isBitB c) (hl : s.length ≤ 400) (L : List ByteArray) (hL : L.length ≤ 1000) (hsp : Lib.splitB (BA (flB a b)) 0 (Lib.countB (BA s) (BA (flB a b))) (BA s) = L) (hv : impl_ValidStuffer.f a b = some true) :
    Ev (fun k => impl_DeframeBits.f k a b (BA s)) (((L.drop 1).dropLast.foldl (addP a b) []), true) := by
  have hF : (BA (flB a b)).size = a + 3 := by rw [BA_size, flB_length]
  have hps := split_parts (BA (flB a b)) (by omega) (Lib.countB (BA s) (BA (flB a b))) (BA s) (bits_all s hs) (by rw [BA_size]; exact hl)
  rw [hsp] at hps
  have hfe : strOfNums (flagL a b) = BA (flB a b) := by apply ba_ext; rw [flB_eq]; rfl
  have hsf : strings_Split.f (BA s) (BA (flB a b)) = some L := by rw [strings_Split.f, if_pos ⟨by rw [BA_size]; omega, by omega⟩, hsp]
  have hI := parts_ev a b (by omega) hb L hL hps
  simp only [impl_DeframeBits.f, hv, isBits_BA s hs hl, Option.bind_some, if_true, Bool.not_true]
  refine Ev_succ ?_
  simp only [impl_DeframeBits.j0, Bool.false_eq_true, if_false, flag_eq a b (by omega) hb, hfe, hsf, Option.bind_some]
  exact hI
theorem frame_loop (a : Nat) (b : Int) (ha : 1 ≤ a ∧ a ≤ 5) (hb : 0 ≤ b ∧ b ≤ 1) (fs : List (List UInt8)) (hfs : fs.length ≤ 4) (hf : ∀ f ∈ fs, (∀ c ∈ f, isBitB c) ∧ f.length ≤ 13) (d : Nat) : ∀ i : Nat, i + d = fs.length →
    (flB a b ++ joinF (flB a b) ((fs.take i).map (stF a b))).length ≤ 8 + 34 * i →
    Ev (fun k => impl_FrameBits.l0 k (BA (flB a b ++ joinF (flB a b) ((fs.take i).map (stF a b)))) (fs.map BA) (fs.length : Int) i a b) (BA (flB a b ++ joinF (flB a b) (fs.map (stF a b))), true) := by
  induction d with
  | zero =>
    intro i hd hl
    have q : ¬ (i : Int) < (fs.length : Int) := by omega
    rw [List.take_of_length_le (show fs.length ≤ i by omega)]
    refine Ev_succ ?_
    simp only [impl_FrameBits.l0, if_neg q]; exact Ev.now _
  | succ d ih =>
    intro i hd hl
    have hin : i < fs.length := by omega
    have q : (i : Int) < (fs.length : Int) := by omega
    have q0 : (0 : Int) ≤ i := by omega
    have q1 : (i : Int) < ((fs.map BA).length : Int) := by rw [List.length_map]; exact q
    obtain ⟨hfb, hfl⟩ := hf fs[i] (List.getElem_mem hin)
    have hrs : rdOf ByteArray.empty (fs.map BA) i = BA fs[i] := by rw [rs_nat _ i (by rw [List.length_map]; exact hin), List.getElem_map]
    have hfe : strOfNums (flagL a b) = BA (flB a b) := by apply ba_ext; rw [flB_eq]; rfl
    have hst : impl_Stuffer_stuff.f a b (BA fs[i]) = some (BA (stF a b fs[i])) := by rw [stuff_eq (BA fs[i]) a b (by rw [BA_size]; omega)]; rfl
    have hsl := stF_len a b ha.1 fs[i]
    have hFl := flB_length a b
    have htk : (fs.take (i + 1)).map (stF a b) = (fs.take i).map (stF a b) ++ [stF a b fs[i]] := by
      rw [List.take_succ_eq_append_getElem hin, List.map_append]; rfl
    have hnext : BA (flB a b ++ joinF (flB a b) ((fs.take i).map (stF a b))) ++ (BA (stF a b fs[i]) ++ BA (flB a b)) = BA (flB a b ++ joinF (flB a b) ((fs.take (i + 1)).map (stF a b))) := by
      rw [BA_append, BA_append, htk, joinF_snoc, List.append_assoc]
    have hlen : (flB a b ++ joinF (flB a b) ((fs.take (i + 1)).map (stF a b))).length ≤ 8 + 34 * (i + 1) := by
      rw [htk, joinF_snoc]
      simp only [List.length_append] at hl ⊢
      omega
    have hE := ih (i + 1) (by omega) hlen
    have z1 : (BA (stF a b fs[i])).size + (BA (flB a b)).size ≤ 9223372036854775807 := by rw [BA_size, BA_size]; omega
    have z2 : (BA (flB a b ++ joinF (flB a b) ((fs.take i).map (stF a b)))).size + (BA (stF a b fs[i]) ++ BA (flB a b)).size ≤ 9223372036854775807 := by
      simp only [BA_append, BA_size, List.length_append]
      simp only [List.length_append] at hl
      omega
    have z3 : ¬ ((BA (flB a b ++ joinF (flB a b) ((fs.take i).map (stF a b))) ++ (BA (stF a b fs[i]) ++ BA (flB a b))).size : Int) > 400 := by rw [hnext, BA_size]; omega
    have b2 : -9223372036854775808 ≤ ((i + 1 : Nat) : Int) ∧ ((i + 1 : Nat) : Int) ≤ 9223372036854775807 := by omega
    have b3 : (i : Int) + 1 = ((i + 1 : Nat) : Int) := by omega
    refine Ev_succ ?_
    simp only [impl_FrameBits.l0, if_pos q, if_pos q0, if_pos q1, hrs, isBits_BA _ hfb (show fs[i].length ≤ 400 by omega), Option.bind_some, if_true, hst, flag_eq a b (show a ≤ 10 by omega) hb, hfe, if_pos z1, if_pos z2, if_neg z3, b3, w64 b2.1 b2.2]
    rw [hnext]
    exact hE
theorem same_frames (L : List ByteArray) (hl : (L.length : Int) ≤ 1000000) : Ev (fun k => laws_r8Same.f k L L) true := by
  have loop : ∀ (d : Nat) (i : Int), 0 ≤ i → i ≤ L.length → (L.length : Int) - i = d → Ev (fun k => laws_r8Same.l0 k L L i) true := by
    intro d
    induction d with
    | zero =>
      intro i h0 h1 hd
      refine Ev_succ ?_
      simp only [laws_r8Same.l0, if_neg (show ¬ i < (L.length : Int) by omega)]; exact Ev.now _
    | succ d ih =>
      intro i h0 h1 hd
      refine Ev_succ ?_
      simp (disch := omega) only [laws_r8Same.l0, w64]
      simp only [if_pos (show i < (L.length : Int) by omega), if_pos h0, if_true]
      exact ih (i + 1) (by omega) (by omega) (by omega)
  simp only [laws_r8Same.f, if_true]
  exact loop L.length 0 (by omega) (by omega) (by omega)
theorem bit48_bytes {y : List Int} (h : Bit48 y) : ∀ c ∈ (strOfNums y).data.toList, isBitB c := allBit_list _ (bit48_sn h).1
theorem joinF_bits (F : List UInt8) (hF : ∀ c ∈ F, isBitB c) : ∀ xs : List (List UInt8), (∀ x ∈ xs, ∀ c ∈ x, isBitB c) → ∀ c ∈ joinF F xs, isBitB c
  | [], h, c, hc => by cases hc
  | x :: r, h, c, hc => by
    rw [joinF] at hc
    rcases List.mem_append.1 hc with e | e
    · rcases List.mem_append.1 e with e | e
      · exact h x List.mem_cons_self c e
      · exact hF c e
    · exact joinF_bits F hF r (fun y hy => h y (List.mem_cons_of_mem _ hy)) c e
theorem flB_bits (a : Nat) (b : Int) (hb : 0 ≤ b ∧ b ≤ 1) : ∀ c ∈ flB a b, isBitB c := by
  have ho : isBitB (oB b) := by
    by_cases z : b = 0
    · subst z; right; decide
    · have : b = 1 := by omega
      subst this; left; decide
  have hbb : isBitB (bB b) := by
    by_cases z : b = 0
    · subst z; left; decide
    · have : b = 1 := by omega
      subst this; right; decide
  intro c hc
  unfold flB at hc
  rcases List.mem_cons.1 hc with e | e
  · rw [e]; exact ho
  · rcases List.mem_append.1 e with e | e
    · rw [List.eq_of_mem_replicate e]; exact hbb
    · rw [List.mem_singleton.1 e]; exact ho
theorem joinF_len (F : List UInt8) (hF : F.length ≤ 8) : ∀ xs : List (List UInt8), (∀ x ∈ xs, x.length ≤ 26) → (joinF F xs).length ≤ 34 * xs.length
  | [], h => by simp [joinF]
  | x :: r, h => by
    have h1 := h x List.mem_cons_self
    have h2 := joinF_len F hF r (fun y hy => h y (List.mem_cons_of_mem _ hy))
    rw [joinF, List.length_append, List.length_append, List.length_cons]; omega
theorem framed_end (l0 l1 : List Int) (h3 : U8L l0) (hl0 : l0.length ≤ 48) (a : Nat) (b : Int) (ha : 1 ≤ a ∧ a ≤ 5) (hb : 0 ≤ b ∧ b ≤ 1) (fs : List (List UInt8)) (hfs : 1 ≤ fs.length ∧ fs.length ≤ 4) (hf : ∀ f ∈ fs, (∀ c ∈ f, isBitB c) ∧ f.length ≤ 13 ∧ f ≠ []) (v : Int) (hv3 : laws_r8At.f l0 3 4 = some v) (x7 : Int) (hx7 : ¬ x7 ≤ v) :
    Ev (fun k => laws_FnFramed.l0 k l0 l1 (fs.map BA) x7 a b) true := by
  have hv : impl_ValidStuffer.f a b = some true := by
    simp only [impl_ValidStuffer.f, within_eq, Option.bind_some, decide_eq_true (show (1 : Int) ≤ (a : Int) ∧ (a : Int) ≤ 10 by omega), decide_eq_true hb, if_true]
  have hfe : strOfNums (flagL a b) = BA (flB a b) := by apply ba_ext; rw [flB_eq]; rfl
  have hFl := flB_length a b
  have hne : ∀ f ∈ fs, f ≠ [] := fun f hf' => (hf f hf').2.2
  have hlow : ∀ x ∈ fs.map (stF a b), Low a b x := by
    intro x hx; obtain ⟨f, hf', rfl⟩ := List.mem_map.1 hx; exact stF_low a b ha.1 hb f
  have hsb : ∀ x ∈ fs.map (stF a b), ∀ c ∈ x, isBitB c := by
    intro x hx; obtain ⟨f, hf', rfl⟩ := List.mem_map.1 hx; exact stuffM_bits a b f (hf f hf').1 0
  have hsl : ∀ x ∈ fs.map (stF a b), x.length ≤ 26 := by
    intro x hx; obtain ⟨f, hf', rfl⟩ := List.mem_map.1 hx
    have := stF_len a b ha.1 f
    have := (hf f hf').2.1
    omega
  have hjl := joinF_len (flB a b) (by omega) (fs.map (stF a b)) hsl
  rw [List.length_map] at hjl
  have hjb := joinF_bits (flB a b) (flB_bits a b hb) (fs.map (stF a b)) hsb
  obtain ⟨y, hy, hyl, hbits⟩ := r8Bits_ev l0 h3 (by omega) 9 (by omega)
  obtain ⟨t, ht⟩ : ∃ t, t = (strOfNums y).data.toList := ⟨_, rfl⟩
  have htb : ∀ c ∈ t, isBitB c := by rw [ht]; exact bit48_bytes hy
  have htl : t.length ≤ 9 := by rw [ht, dl_size, sn_size]; exact hyl
  have hte : strOfNums y = BA t := by rw [ht]; exact BA_of _
  rw [hte] at hbits
  have hfl := stF_len a b ha.1 t
  have hfb : ∀ c ∈ stF a b t, isBitB c := stuffM_bits a b t htb 0
  have hst : impl_Stuffer_stuff.f a b (BA t) = some (BA (stF a b t)) := by rw [stuff_eq (BA t) a b (by rw [BA_size]; omega)]; rfl
  have E1 : Ev (fun k => impl_FrameBits.f k a b (fs.map BA)) (BA (flB a b ++ joinF (flB a b) (fs.map (stF a b))), true) := by
    have hE := frame_loop a b ha hb fs hfs.2 (fun f hf' => ⟨(hf f hf').1, (hf f hf').2.1⟩) fs.length 0 (by omega) (by rw [List.take_zero, List.map_nil, joinF, List.append_nil]; omega)
    rw [List.take_zero, List.map_nil, joinF, List.append_nil] at hE
    have hz : (((fs.map BA).length : Int) == 0) = false := by rw [List.length_map]; exact beq_eq_false_iff_ne.2 (by omega)
    simp only [impl_FrameBits.f, hv, Option.bind_some, if_true, hz]
    refine Ev_succ ?_
    simp only [impl_FrameBits.j0, Bool.false_eq_true, if_false, flag_eq a b (show a ≤ 10 by omega) hb, hfe, Option.bind_some, List.length_map]
    exact hE
  have E2 : ∀ x0 : List UInt8, Low a b x0 → (∀ c ∈ x0, isBitB c) → x0.length ≤ 100 → Ev (fun k => impl_DeframeBits.f k a b (BA (x0 ++ flB a b ++ joinF (flB a b) (fs.map (stF a b))))) (fs.map BA, true) := by
    intro x0 hx0 hxb hxl
    obtain ⟨h1, h2⟩ := split_join a b hb (x0 :: fs.map (stF a b)) (fun x hx => by
      rcases List.mem_cons.1 hx with e | e
      · rw [e]; exact hx0
      · exact hlow x e)
    have hb2 : ∀ c ∈ joinF (flB a b) (x0 :: fs.map (stF a b)), isBitB c := joinF_bits (flB a b) (flB_bits a b hb) _ (fun x hx => by
      rcases List.mem_cons.1 hx with e | e
      · rw [e]; exact hxb
      · exact hsb x e)
    have hE := deframe_ev a b (by omega) hb (joinF (flB a b) (x0 :: fs.map (stF a b))) hb2 (by rw [joinF, List.length_append, List.length_append]; omega) ((x0 :: fs.map (stF a b)).map BA ++ [BA []]) (by simp only [List.length_append, List.length_map, List.length_cons, List.length_nil]; omega) (by rw [h1]; exact h2) hv
    rw [List.map_cons, List.cons_append, List.drop_succ_cons, List.drop_zero, List.dropLast_concat, add_frames a b ha.1 fs [] hne, List.nil_append] at hE
    exact hE
  have E3 := E2 [] (fun n => by simp [leadB]) (by intro c hc; cases hc) (by simp)
  rw [List.nil_append] at E3
  have E4 : Ev (fun k => impl_StuffBits.f k a b (BA t)) (BA (stF a b t), true) := by
    simp only [impl_StuffBits.f, hv, isBits_BA t htb (by omega), Option.bind_some, if_true, Bool.not_true]
    refine Ev_succ ?_
    simp only [impl_StuffBits.j0, Bool.false_eq_true, if_false, hst, Option.bind_some, BA_size, if_neg (show ¬ ((stF a b t).length : Int) > 400 by omega)]; exact Ev.now _
  have E5 := E2 (stF a b t) (stF_low a b ha.1 hb t) hfb (by omega)
  rw [List.append_assoc, ← BA_append] at E5
  have E6 : Ev (fun k => impl_DeframeBits.f k a b (BA (stF a b t))) ([], true) := by
    have h0 := split_none a b hb (stF a b t) (stF_low a b ha.1 hb t)
    have hE := deframe_ev a b (by omega) hb (stF a b t) hfb (by omega) [BA (stF a b t)] (by simp) (by rw [h0]; rfl) hv
    exact hE
  have hz : (BA (stF a b t)).size + (BA (flB a b ++ joinF (flB a b) (fs.map (stF a b)))).size ≤ 9223372036854775807 := by rw [BA_size, BA_size, List.length_append]; omega
  have hsm := same_frames (fs.map BA) (by rw [List.length_map]; omega)
  refine Ev_succ ?_
  simp only [laws_FnFramed.l0, hv3, Option.bind_some, if_neg hx7]
  refine Ev.bind E1 (Ev.bind E3 (Ev.bind hbits (Ev.bind E4 ?_)))
  simp only [if_pos hz]
  refine Ev.bind E5 (Ev.bind E6 ?_)
  simp only [if_true]
  refine Ev.bind hsm ?_
  simp only [if_true]
  refine Ev.bind hsm ?_
  simp only [if_true, List.length_nil]
  exact Ev.now _
theorem framed_loop (l0 l1 : List Int) (h3 : U8L l0) (hl0 : l0.length ≤ 48) (h6 : U8L l1) (hl1 : l1.length ≤ 48) (a : Nat) (b : Int) (ha : 1 ≤ a ∧ a ≤ 5) (hb : 0 ≤ b ∧ b ≤ 1) (v : Nat) (hv : v ≤ 3) (hv3 : laws_r8At.f l0 3 4 = some (v : Int)) (d : Nat) : ∀ (fs : List (List UInt8)) (i : Nat), i + d = v + 1 → fs.length = i → (∀ f ∈ fs, (∀ c ∈ f, isBitB c) ∧ f.length ≤ 13 ∧ f ≠ []) →
    Ev (fun k => laws_FnFramed.l0 k l0 l1 (fs.map BA) i a b) true := by
  induction d with
  | zero =>
    intro fs i hd hfl hf
    exact framed_end l0 l1 h3 hl0 a b ha hb fs (by omega) hf v hv3 i (by omega)
  | succ d ih =>
    intro fs i hd hfl hf
    have q : (i : Int) ≤ (v : Int) := by omega
    have hm : (i : Int) % 256 = i := by omega
    have hu : U8L ([(i : Int)] ++ l1) := by
      intro x hx
      rcases List.mem_append.1 hx with e | e
      · rw [List.mem_singleton.1 e]
        simp only [Lit.wf, IntKind.min, IntKind.max, IntKind.signed, IntKind.bits, Bool.and_eq_true, decide_eq_true_eq, Bool.false_eq_true, if_false]
        omega
      · exact h6 x e
    obtain ⟨y, hy, hyl, hbits⟩ := r8Bits_ev ([(i : Int)] ++ l1) hu (by simp; omega) 12 (by omega)
    have z1 : [(i : Int)].length + l1.length < 140737488355328 := by show 1 + _ < _; omega
    have z2 : (strOfNums y).size + 1 ≤ 9223372036854775807 := by rw [sn_size]; omega
    have z3 : (fs.map BA).length < 8796093022208 := by rw [List.length_map]; omega
    have b2 : -9223372036854775808 ≤ ((i + 1 : Nat) : Int) ∧ ((i + 1 : Nat) : Int) ≤ 9223372036854775807 := by omega
    have b3 : (i : Int) + 1 = ((i + 1 : Nat) : Int) := by omega
    have hfe : strOfNums y ++ (⟨#[49]⟩ : ByteArray) = BA ((strOfNums y).data.toList ++ [49]) := by
      rw [← BA_append, ← BA_of]; rfl
    have hE := ih (fs ++ [(strOfNums y).data.toList ++ [49]]) (i + 1) (by omega) (by rw [List.length_append, hfl]; rfl) (fun f hf' => by
      rcases List.mem_append.1 hf' with e | e
      · exact hf f e
      · rw [List.mem_singleton.1 e]
        refine ⟨fun c hc => ?_, by rw [List.length_append, dl_size, sn_size]; show y.length + 1 ≤ 13; omega, by simp⟩
        rcases List.mem_append.1 hc with e | e
        · exact bit48_bytes hy c e
        · rw [List.mem_singleton.1 e]; exact .inr rfl)
    rw [List.map_append] at hE
    refine Ev_succ ?_
    simp only [laws_FnFramed.l0, hv3, Option.bind_some, if_pos q, hm, if_pos z1]
    refine Ev.bind hbits ?_
    simp only [if_pos z2, if_pos z3, hfe, b3, w64 b2.1 b2.2]
    exact hE
theorem FnFramed : laws_FnFramed.Pure := by
  intro l0 l1 h1 h2 h3 h4 h5 h6
  apply Ev.rounds
  simp only [laws_FnFramed.f]
  by_cases g : (l0.length : Int) > 48 ∨ (l1.length : Int) > 48
  · simp only [r8Long_big l0 l1 g, Option.bind_some, if_true]; exact Ev.now _
  obtain ⟨a, b, hst, ha, hb⟩ := r8Stuffer_ev l0 h3 (by omega)
  obtain ⟨a, rfl⟩ : ∃ n : Nat, a = n := ⟨a.toNat, by omega⟩
  obtain ⟨v, hv, hv0, hv1⟩ := r8At_ev l0 h3 3 4 (by omega) (by omega)
  obtain ⟨v, rfl⟩ : ∃ n : Nat, v = n := ⟨v.toNat, by omega⟩
  simp only [r8Long_small l0 l1 g, hst, Option.bind_some, Bool.false_eq_true, if_false]
  exact framed_loop l0 l1 h3 (by omega) h6 (by omega) a b (by omega) hb v (by omega) hv (v + 1) [] 0 (by omega) rfl (by intro f hf; cases hf)

end Go.Proofs.YtbifbbfkcbgnlaaDoor.Pure
