/- The law FnExactFrameBits of the given program holds: for every input that the row lets in the call returns true and leaves its arguments as they were. No condition ahead of it. -/
import Derived.Test.YtkdobeemgbefmaaDoorPFnExactFrameBitsx4
import Derived.Test.YtkdobeemgbefmaaDoorMine
namespace Go.Proofs.YtkdobeemgbefmaaDoor.Pure
open Go.RowKit Go.Proofs.YtkdobeemgbefmaaDoor.PFnExactFrameBits Go.Proofs.YtkdobeemgbefmaaDoorW.PrintWords Go.Proofs.YtkdobeemgbefmaaDoorW.PrintLast Go.Proofs.YtkdobeemgbefmaaDoorW.PrintMore Go.Proofs.YtkdobeemgbefmaaDoor.Mine
set_option linter.unusedVariables false
set_option linter.unusedSimpArgs false
theorem l00In_eq (a b c : Int) : spec_l00In.f a b c = some (decide (b ≤ a ∧ a ≤ c)) := by
  unfold spec_l00In.f; by_cases h : a ≥ b
  · rw [if_pos h]; simp; intro _; exact h
  · rw [if_neg h]; simp; intro h'; omega
theorem within_eq (a b c : Int) : impl_within.f a b c = some (decide (b ≤ a ∧ a ≤ c)) := by
  unfold impl_within.f; by_cases h : a ≥ b
  · rw [if_pos h]; simp; intro _; exact h
  · rw [if_neg h]; simp; intro h'; omega

def StOk (a b : Int) : Prop := (1 ≤ a ∧ a ≤ 10) ∧ (0 ≤ b ∧ b ≤ 1)
theorem l04Is_eq (a b : Int) : ∃ c, spec_l04Is.f a b = some c ∧ impl_ValidStuffer.f a b = some c ∧ (c = true ↔ StOk a b) := by
  simp only [spec_l04Is.f, impl_ValidStuffer.f, l00In_eq, within_eq, Option.bind_some, StOk]
  by_cases h0 : 1 ≤ a ∧ a ≤ 10
  · by_cases h1 : 0 ≤ b ∧ b ≤ 1
    · exact ⟨true, by simp [h0, h1], by simp [h0, h1], by simp [h0, h1]⟩
    · exact ⟨false, by simp [h0, h1], by simp [h0, h1], by simp [h0, h1]⟩
  · exact ⟨false, by simp [h0], by simp [h0], by simp [h0]⟩
theorem toStuffer_eq (a b : Int) : laws_toStuffer.f a b = some (a, b) := by simp [laws_toStuffer.f]

def AllBit (s : ByteArray) : Prop := ∀ i : Int, 0 ≤ i → i < s.size → bt s i = 48 ∨ bt s i = 49
def IsBitS (s : ByteArray) : Prop := AllBit s ∧ (s.size : Int) ≤ 400
theorem bt_list (s : ByteArray) (i : Nat) (h : i < s.size) : bt s i = ((s.data.toList[i]'(by simpa using h)).toNat : Int) := by
  unfold bt
  simp only [Int.toNat_natCast, h, dif_pos]
  rfl
theorem dropWhile_nil (p : UInt8 → Bool) : ∀ l : List UInt8, l.dropWhile p = [] ↔ ∀ b ∈ l, p b = true
  | [] => by simp
  | x :: l => by
    rw [List.dropWhile_cons]
    cases h : p x with
    | true => simp [h, dropWhile_nil p l]
    | false => simp [h]
theorem trim_empty (l : List UInt8) : (Lib.trimS l [48, 49]).isEmpty = true ↔ ∀ b ∈ l, b = 48 ∨ b = 49 := by
  have key : ∀ p : UInt8 → Bool, List.dropWhile p (List.dropWhile p l.reverse).reverse = [] ↔ ∀ b ∈ l, p b = true := by
    intro p
    rw [dropWhile_nil]
    constructor
    · intro h
      by_cases e : List.dropWhile p l.reverse = []
      · have := (dropWhile_nil p _).1 e
        exact fun b hb => this b (by simpa using hb)
      · have hh := List.head_dropWhile_not p e
        have h3 := h ((List.dropWhile p l.reverse).head e) (by simp)
        rw [hh] at h3
        cases h3
    · intro h b hb
      have : List.dropWhile p l.reverse = [] := (dropWhile_nil p _).2 (fun b hb => h b (by simpa using hb))
      rw [this] at hb
      simp at hb
  unfold Lib.trimS Lib.trimRightS Lib.trimLeftS
  rw [List.isEmpty_iff, key]
  simp
theorem areBits_ev (s : ByteArray) (hs : s.size ≤ 140737488351232) : ∃ b, impl_areBits.f s = some b ∧ (b = true ↔ AllBit s) := by
  refine ⟨(Lib.trimS s.data.toList [48, 49]).isEmpty, by unfold impl_areBits.f; rw [if_pos (by omega)], ?_⟩
  rw [trim_empty]
  constructor
  · intro h i h0 h1
    obtain ⟨n, rfl⟩ : ∃ n : Nat, i = n := ⟨i.toNat, by omega⟩
    rw [bt_list s n (by omega)]
    rcases h _ (List.getElem_mem (l := s.data.toList) (n := n) (by simp; omega)) with e | e <;> rw [e]
    · exact Or.inl rfl
    · exact Or.inr rfl
  · intro h b hb
    obtain ⟨n, hn, rfl⟩ := List.getElem_of_mem hb
    have hn' : n < s.size := by simpa using hn
    have := h n (by omega) (by omega)
    rw [bt_list s n hn'] at this
    rcases this with e | e
    · left; apply UInt8.toNat_inj.1; show s.data.toList[n].toNat = 48; omega
    · right; apply UInt8.toNat_inj.1; show s.data.toList[n].toNat = 49; omega
theorem isBits_ev (s : ByteArray) (hs : s.size ≤ 140737488351232) : ∃ b, impl_IsBits.f s = some b ∧ (b = true ↔ IsBitS s) := by
  obtain ⟨b, hb, hi⟩ := areBits_ev s hs
  simp only [impl_IsBits.f, hb, Option.bind_some, IsBitS]
  by_cases h : (s.size : Int) ≤ 400
  · exact ⟨b, by rw [if_pos h], by rw [hi]; exact ⟨fun g => ⟨g, h⟩, fun g => g.1⟩⟩
  · exact ⟨false, by rw [if_neg h], by simp only [Bool.false_eq_true, false_iff]; exact fun g => h g.2⟩
theorem l01Bits_loop (s : ByteArray) (hs : s.size ≤ 140737488351232) (d : Nat) : ∀ i : Int, 0 ≤ i → i ≤ s.size → (s.size : Int) - i = d → (∀ j, 0 ≤ j → j < i → bt s j = 48 ∨ bt s j = 49) →
    ∃ b, Ev (fun k => spec_l01Bits.l0 k s i) b ∧ (b = true ↔ IsBitS s) := by
  induction d with
  | zero =>
    intro i h0 h1 hd hp
    refine ⟨decide ((s.size : Int) ≤ 400), Ev_succ ?_, ?_⟩
    · simp only [spec_l01Bits.l0, if_neg (show ¬ i < (s.size : Int) by omega)]
      exact Ev.now _
    · rw [decide_eq_true_eq]
      exact ⟨fun h => ⟨fun j j0 j1 => hp j j0 (by omega), h⟩, fun h => h.2⟩
  | succ d ih =>
    intro i h0 h1 hd hp
    have hlt : i < (s.size : Int) := by omega
    by_cases e : bt s i = 48 ∨ bt s i = 49
    · obtain ⟨b, hb, hi⟩ := ih (i + 1) (by omega) (by omega) (by omega) (fun j j0 j1 => by
        by_cases z : j = i
        · rw [z]; exact e
        · exact hp j j0 (by omega))
      refine ⟨b, Ev_succ ?_, hi⟩
      simp (disch := omega) only [spec_l01Bits.l0, w64]
      rcases e with e | e
      · simp only [if_pos hlt, if_pos h0, if_pos e]; exact hb
      · simp only [if_pos hlt, if_pos h0, e, if_neg (show ¬ (49 : Int) = 48 by omega), if_true]; exact hb
    · refine ⟨false, Ev_succ ?_, ?_⟩
      · simp only [spec_l01Bits.l0, if_pos hlt, if_pos h0, if_neg (fun g => e (Or.inl g)), if_neg (fun g => e (Or.inr g))]
        exact Ev.now _
      · simp only [Bool.false_eq_true, false_iff]
        exact fun g => e (g.1 i h0 hlt)
theorem l01Bits_ev (s : ByteArray) (hs : s.size ≤ 140737488351232) : ∃ b, Ev (fun k => spec_l01Bits.f k s) b ∧ (b = true ↔ IsBitS s) :=
  l01Bits_loop s hs s.size 0 (by omega) (by omega) (by omega) (fun j _ _ => by omega)
theorem bits_same (s : ByteArray) (hs : s.size ≤ 140737488351232) : ∃ b, Ev (fun k => spec_l01Bits.f k s) b ∧ impl_IsBits.f s = some b ∧ (b = true ↔ IsBitS s) := by
  obtain ⟨b, hb, hi⟩ := l01Bits_ev s hs
  obtain ⟨c, hc, hj⟩ := isBits_ev s hs
  have e : c = b := by cases b <;> cases c <;> simp_all
  subst e
  exact ⟨c, hb, hc, hi⟩

theorem ba_ext {a b : ByteArray} (h : a.data.toList = b.data.toList) : a = b := by apply ByteArray.ext; exact Array.toList_inj.1 h
theorem sn_append (a b : List Int) : strOfNums (a ++ b) = strOfNums a ++ strOfNums b := by apply ba_ext; simp [strOfNums]
theorem sn_size (a : List Int) : (strOfNums a).size = a.length := by simp [strOfNums, ByteArray.size]
theorem sn_nil : strOfNums [] = (⟨#[]⟩ : ByteArray) := rfl
theorem bt_range (s : ByteArray) (i : Int) (h0 : 0 ≤ i) (h1 : i < s.size) : 0 ≤ bt s i ∧ bt s i < 256 := by
  obtain ⟨n, rfl⟩ : ∃ n : Nat, i = n := ⟨i.toNat, by omega⟩
  rw [bt_list s n (by omega)]
  have := (s.data.toList[n]'(by simp; omega)).toNat_lt
  omega
theorem extract_one (s : ByteArray) (n : Nat) (h : n < s.size) : (s.extract n (n + 1)).data.toList = [s.data.toList[n]'(by simpa using h)] := by
  have h' : n < s.data.size := h
  simp only [ByteArray.data_extract, Array.toList_extract, List.extract_eq_take_drop]
  rw [show n + 1 - n = 1 by omega, List.drop_eq_getElem_cons (show n < s.data.toList.length by simpa using h')]
  simp
theorem sn_one (s : ByteArray) (i : Int) (h0 : 0 ≤ i) (h1 : i < s.size) : strOfNums [bt s i] = s.extract i.toNat (i + 1).toNat := by
  obtain ⟨n, rfl⟩ : ∃ n : Nat, i = n := ⟨i.toNat, by omega⟩
  apply ba_ext
  rw [show ((n : Int) + 1).toNat = n + 1 by omega, Int.toNat_natCast, extract_one s n (by omega), bt_list s n (by omega)]
  simp [strOfNums]
theorem sn_rep (x : Int) : ∀ n, strOfNums (List.replicate n x) = ⟨(Lib.repeatL (strOfNums [x]).data.toList n).toArray⟩
  | 0 => by apply ba_ext; simp [strOfNums, Lib.repeatL]
  | n + 1 => by
    rw [List.replicate_succ, show x :: List.replicate n x = [x] ++ List.replicate n x from rfl, sn_append, sn_rep x n]
    apply ba_ext
    simp [Lib.repeatL]

theorem ex_size (s : ByteArray) (a b : Nat) (hb : b ≤ s.size) : (s.extract a b).size = b - a := by
  simp only [ByteArray.size_extract]; omega
theorem ex_list (s : ByteArray) (a b : Nat) : (s.extract a b).data.toList = (s.data.toList.drop a).take (b - a) := by
  simp only [ByteArray.data_extract, Array.toList_extract, List.extract_eq_take_drop]
theorem ex_ex (s : ByteArray) (a b c d : Nat) (h : a + d ≤ b) : (s.extract a b).extract c d = s.extract (a + c) (a + d) := by
  apply ba_ext
  rw [ex_list, ex_list, ex_list, List.drop_take, List.drop_drop, List.take_take]
  congr 1
  omega
theorem dl_size (s : ByteArray) : s.data.toList.length = s.size := Array.length_toList
theorem ex_whole (s : ByteArray) : s.extract 0 s.size = s := by
  apply ba_ext; rw [ex_list, List.drop_zero]; exact List.take_of_length_le (by rw [dl_size]; omega)
theorem bt_extract (s : ByteArray) (a b : Nat) (hb : b ≤ s.size) (j : Int) (h0 : 0 ≤ j) (h1 : j < (b : Int) - a) : bt (s.extract a b) j = bt s (a + j) := by
  obtain ⟨n, rfl⟩ : ∃ n : Nat, j = n := ⟨j.toNat, by omega⟩
  have hz := ex_size s a b hb
  rw [bt_list _ n (by omega), show (a : Int) + n = ((a + n : Nat) : Int) by omega, bt_list _ _ (by omega)]
  congr 2
  simp only [ex_list]
  rw [List.getElem_take, List.getElem_drop]
theorem AllBit_extract (s : ByteArray) (h : AllBit s) (a b : Nat) (hb : b ≤ s.size) : AllBit (s.extract a b) := by
  intro j h0 h1
  have hz := ex_size s a b hb
  rw [bt_extract s a b hb j h0 (by omega)]
  exact h _ (by omega) (by omega)
theorem nil_size (s : ByteArray) : s.toList = ([] : List UInt8) ↔ s.size = 0 := by
  rw [Lib.toList_data]
  show _ ↔ s.data.size = 0
  rw [← Array.length_toList]
  exact List.length_eq_zero_iff.symm

def stuffM (a b : Int) : Int → List UInt8 → List UInt8
  | _, [] => []
  | run, c :: r => if ((c.toNat : Int) - 48) % 256 ≠ b then c :: stuffM a b 0 r else if run + 1 = a then c :: (if b = 0 then 49 else 48) :: stuffM a b 0 r else c :: stuffM a b (run + 1) r
theorem sn_push (acc : List Int) (v : Int) : (strOfNums (acc ++ [v])).data.toList = (strOfNums acc).data.toList ++ [UInt8.ofNat v.toNat] := by simp [strOfNums]
theorem stuff_loop (s : ByteArray) (a b : Int) (hb : 0 ≤ b ∧ b ≤ 1) (hs : s.size ≤ 400) (d : Nat) : ∀ (acc : List Int) (run : Int) (i : Nat), i + d = s.size → 0 ≤ run → run ≤ i → acc.length ≤ 2 * i →
    Ev (fun k => spec_l04Stuff.l0 k s acc run i a b) ⟨((strOfNums acc).data.toList ++ stuffM a b run (s.data.toList.drop i)).toArray⟩ := by
  have hdl := dl_size s
  induction d with
  | zero =>
    intro acc run i hd h0 h1 hl
    refine Ev_succ ?_
    simp only [spec_l04Stuff.l0, if_neg (show ¬ (i : Int) < (s.size : Int) by omega)]
    rw [List.drop_of_length_le (by omega), stuffM, List.append_nil]
    exact Ev.now _
  | succ d ih =>
    intro acc run i hd h0 h1 hl
    have hi : i < s.size := by omega
    have hbt := bt_list s i hi
    have hlt8 := (s.data.toList[i]'(by omega)).toNat_lt
    have h8 : UInt8.ofNat (bt s i).toNat = s.data.toList[i]'(by omega) := by
      rw [hbt, Int.toNat_natCast]; exact UInt8.ofNat_toNat
    have hdrop : s.data.toList.drop i = s.data.toList[i]'(by omega) :: s.data.toList.drop (i + 1) := List.drop_eq_getElem_cons (by omega)
    refine Ev_succ ?_
    simp (disch := omega) only [spec_l04Stuff.l0, w64, Option.bind_some]
    simp only [if_pos (show (i : Int) < (s.size : Int) by omega), if_pos (show (0 : Int) ≤ i by omega), if_pos (show acc.length < 140737488355328 by omega)]
    by_cases hq : (bt s i - 48) % 256 = b
    · have hq' : ¬ ((s.data.toList[i]'(by omega)).toNat - 48 : Int) % 256 ≠ b := by rw [← hbt]; simpa using hq
      by_cases hr : run + 1 = a
      · have h := ih (acc ++ [bt s i] ++ [(49 - b) % 256]) 0 (i + 1) (by omega) (by omega) (by omega) (by simp; omega)
        rw [sn_push, sn_push, h8] at h
        simp only [if_pos hq, if_pos hr, if_pos (show (acc ++ [bt s i]).length < 140737488355328 by simp; omega)]
        rw [hdrop, stuffM, if_neg hq', if_pos hr]
        have e : UInt8.ofNat ((49 - b) % 256).toNat = if b = 0 then 49 else 48 := by
          by_cases z : b = 0
          · rw [z]; rfl
          · rw [show b = 1 by omega]; rfl
        rw [e] at h
        simpa using h
      · have h := ih (acc ++ [bt s i]) (run + 1) (i + 1) (by omega) (by omega) (by omega) (by simp; omega)
        rw [sn_push, h8] at h
        simp only [if_pos hq, if_neg hr]
        rw [hdrop, stuffM, if_neg hq', if_neg hr]
        simpa using h
    · have hq' : ((s.data.toList[i]'(by omega)).toNat - 48 : Int) % 256 ≠ b := by rw [← hbt]; exact hq
      have h := ih (acc ++ [bt s i]) 0 (i + 1) (by omega) (by omega) (by omega) (by simp; omega)
      rw [sn_push, h8] at h
      simp only [if_neg hq]
      rw [hdrop, stuffM, if_pos hq']
      simpa using h
theorem stuff_ev (s : ByteArray) (a b : Int) (hb : 0 ≤ b ∧ b ≤ 1) (hs : s.size ≤ 400) : Ev (fun k => spec_l04Stuff.f k a b s) ⟨(stuffM a b 0 s.data.toList).toArray⟩ := by
  have h := stuff_loop s a b hb hs s.size [] 0 0 (by omega) (by omega) (by omega) (by simp)
  rw [List.drop_zero] at h
  exact h
theorem stuff_eq (s : ByteArray) (a b : Int) (hs : s.size ≤ 400) : impl_Stuffer_stuff.f a b s = some ⟨(stuffM a b 0 s.data.toList).toArray⟩ := by
  have h : ∀ (l : List UInt8) (run : Int), stuffL a b run l = stuffM a b run l := by
    intro l
    induction l with
    | nil => intro run; rfl
    | cons c r ih => intro run; simp only [stuffL, stuffM, ih]
  rw [impl_Stuffer_stuff.f, if_pos (by omega), h]

theorem rs_set (l : List ByteArray) (i j : Int) (v : ByteArray) (hi : 0 ≤ i) (hil : i < l.length) (hj : 0 ≤ j) : rdOf ByteArray.empty (l.set i.toNat v) j = if j = i then v else rdOf ByteArray.empty l j := by
  unfold rdOf
  by_cases e : j = i
  · subst e; rw [if_pos rfl, List.getD_eq_getElem?_getD, List.getElem?_set_self (by omega)]; rfl
  · rw [if_neg e, List.getD_eq_getElem?_getD, List.getElem?_set_ne (by omega), List.getD_eq_getElem?_getD]
theorem ext_rs (a b : List ByteArray) (h : a.length = b.length) (hp : ∀ j : Int, 0 ≤ j → j < a.length → rdOf ByteArray.empty a j = rdOf ByteArray.empty b j) : a = b := by
  apply List.ext_getElem h
  intro n h1 h2
  have := hp n (by omega) (by omega)
  unfold rdOf at this
  rw [List.getD_eq_getElem?_getD, List.getD_eq_getElem?_getD, Int.toNat_natCast, List.getElem?_eq_getElem h1, List.getElem?_eq_getElem h2] at this
  simpa using this
theorem rs_mem (l : List ByteArray) (i : Int) (h0 : 0 ≤ i) (h1 : i < l.length) : rdOf ByteArray.empty l i ∈ l := by
  unfold rdOf
  rw [List.getD_eq_getElem?_getD, List.getElem?_eq_getElem (show i.toNat < l.length by omega)]
  exact List.getElem_mem _
theorem szStr_loop (l : List ByteArray) (n : Int) (hn : n ≤ 1048576) (hl : (l.length : Int) ≤ 4611686018427387904) (hs : ∀ x ∈ l, x.size ≤ 140737488351232) (d : Nat) : ∀ v i : Int, 0 ≤ i → i ≤ l.length → (l.length : Int) - i = d → 0 ≤ v → v ≤ n →
    (∀ j, 0 ≤ j → j < i → ((rdOf ByteArray.empty l j).size : Int) ≤ n) → ∃ r, Ev (fun k => laws_szStringS.l0 k l v i) r ∧ (¬ r < 0 → ∀ j, 0 ≤ j → j < (l.length : Int) → ((rdOf ByteArray.empty l j).size : Int) ≤ n) := by
  induction d with
  | zero =>
    intro v i h0 h1 hd hv0 hv hp
    refine ⟨v, Ev_succ ?_, fun _ j j0 j1 => hp j j0 (by omega)⟩
    simp only [laws_szStringS.l0, if_neg (show ¬ i < (l.length : Int) by omega)]; exact Ev.now _
  | succ d ih =>
    intro v i h0 h1 hd hv0 hv hp
    have hlt : i < (l.length : Int) := by omega
    have hz := hs _ (rs_mem l i h0 hlt)
    by_cases g : v - ((rdOf ByteArray.empty l i).size : Int) < 0
    · refine ⟨-1, Ev_succ ?_, fun h => absurd (by omega) h⟩
      simp (disch := omega) only [laws_szStringS.l0, w64]
      simp only [if_pos hlt, if_pos h0, if_pos g]; exact Ev.now _
    · obtain ⟨r, hr, hq⟩ := ih (v - ((rdOf ByteArray.empty l i).size : Int)) (i + 1) (by omega) (by omega) (by omega) (by omega) (by omega) (fun j j0 j1 => by
        by_cases e : j = i
        · rw [e]; omega
        · exact hp j j0 (by omega))
      refine ⟨r, Ev_succ ?_, hq⟩
      simp (disch := omega) only [laws_szStringS.l0, w64]
      simp only [if_pos hlt, if_pos h0, if_neg g]; exact hr
theorem szStr_ev (l : List ByteArray) (n : Int) (hn : 0 ≤ n ∧ n ≤ 1048576) (hl : l.length * 16 ≤ 140737488351232) (hs : ∀ x ∈ l, x.size ≤ 140737488351232) :
    ∃ r, Ev (fun k => laws_szStringS.f k l n) r ∧ (¬ r < 0 → (l.length : Int) ≤ n ∧ ∀ j, 0 ≤ j → j < (l.length : Int) → ((rdOf ByteArray.empty l j).size : Int) ≤ n) := by
  simp (disch := omega) only [laws_szStringS.f, w64]
  by_cases g : n - (l.length : Int) < 0
  · exact ⟨-1, by simp only [if_pos g]; exact Ev.now _, fun h => absurd (by omega) h⟩
  · obtain ⟨r, hr, hq⟩ := szStr_loop l n hn.2 (by omega) hs l.length (n - l.length) 0 (by omega) (by omega) (by omega) (by omega) (by omega) (fun j _ _ => by omega)
    exact ⟨r, by simp only [if_neg g]; exact hr, fun h => ⟨by omega, hq h⟩⟩
theorem toStr_loop (l : List ByteArray) (hl : (l.length : Int) ≤ 4611686018427387904) (d : Nat) : ∀ (m : List ByteArray) (i : Int), m.length = l.length → 0 ≤ i → i ≤ l.length → (l.length : Int) - i = d → (∀ j, 0 ≤ j → j < i → rdOf ByteArray.empty m j = rdOf ByteArray.empty l j) →
    Ev (fun k => laws_toStringS.l0 k l m i) l := by
  induction d with
  | zero =>
    intro m i hm h0 h1 hd hp
    refine Ev_succ ?_
    simp only [laws_toStringS.l0, if_neg (show ¬ i < (l.length : Int) by omega)]
    rw [ext_rs m l hm (fun j j0 j1 => hp j j0 (by omega))]
    exact Ev.now _
  | succ d ih =>
    intro m i hm h0 h1 hd hp
    refine Ev_succ ?_
    simp (disch := omega) only [laws_toStringS.l0, w64]
    simp only [if_pos (show i < (l.length : Int) by omega), if_pos h0, if_pos (show i < (m.length : Int) by omega)]
    refine ih (m.set i.toNat (rdOf ByteArray.empty l i)) (i + 1) (by rw [List.length_set]; exact hm) (by omega) (by omega) (by omega) (fun j j0 j1 => ?_)
    rw [rs_set m i j _ h0 (by omega) j0]
    by_cases e : j = i
    · rw [if_pos e, e]
    · rw [if_neg e]; exact hp j j0 (by omega)
theorem toStr_ev (l : List ByteArray) (hl : (l.length : Int) ≤ 1048576) : Ev (fun k => laws_toStringS.f k l) l := by
  simp only [laws_toStringS.f, if_pos (show 0 ≤ (l.length : Int) by omega), if_pos (show ((l.length : Int)).toNat ≤ 17592186044416 by omega)]
  exact toStr_loop l (by omega) l.length _ 0 (by simp) (by omega) (by omega) (by omega) (fun j _ _ => by omega)
theorem eqStr_loop (l : List ByteArray) (hl : (l.length : Int) ≤ 4611686018427387904) (d : Nat) : ∀ i : Int, 0 ≤ i → i ≤ l.length → (l.length : Int) - i = d → Ev (fun k => laws_eqStringS.l0 k l l i) true := by
  induction d with
  | zero =>
    intro i h0 h1 hd
    refine Ev_succ ?_
    simp only [laws_eqStringS.l0, if_neg (show ¬ i < (l.length : Int) by omega)]; exact Ev.now _
  | succ d ih =>
    intro i h0 h1 hd
    refine Ev_succ ?_
    simp (disch := omega) only [laws_eqStringS.l0, w64]
    simp only [if_pos (show i < (l.length : Int) by omega), if_pos h0, if_true]
    exact ih (i + 1) (by omega) (by omega) (by omega)
theorem eqStr_ev (l : List ByteArray) (hl : (l.length : Int) ≤ 1048576) : Ev (fun k => laws_eqStringS.f k l l) true := by
  simp only [laws_eqStringS.f, if_true]
  exact eqStr_loop l (by omega) l.length 0 (by omega) (by omega) (by omega)
theorem toList_inj {a b : ByteArray} : a.toList = b.toList ↔ a = b := by
  constructor
  · intro h
    rw [Lib.toList_data, Lib.toList_data] at h
    apply ByteArray.ext
    exact Array.toList_inj.1 h
  · rintro rfl; rfl

def flagL (a : Nat) (b : Int) : List Int := ([49 - b] ++ List.replicate (a + 1) (48 + b)) ++ [49 - b]
theorem flagL_length (a : Nat) (b : Int) : (flagL a b).length = a + 3 := by simp [flagL]
theorem l04Flag_loop (a : Nat) (b : Int) (ha : a ≤ 10) (hb : 0 ≤ b ∧ b ≤ 1) (d : Nat) : ∀ (i : Nat), i + d = a + 1 →
    Ev (fun k => spec_l04Flag.l0 k (strOfNums [49 - b]) (strOfNums ([49 - b] ++ List.replicate i (48 + b))) i a b) (strOfNums (flagL a b)) := by
  induction d with
  | zero =>
    intro i hd
    refine Ev_succ ?_
    simp only [spec_l04Flag.l0, if_neg (show ¬ (i : Int) ≤ a by omega), sn_size]
    rw [if_pos (by simp; omega), ← sn_append, show i = a + 1 by omega]
    exact Ev.now _
  | succ d ih =>
    intro i hd
    refine Ev_succ ?_
    simp (disch := omega) only [spec_l04Flag.l0, w64]
    simp only [if_pos (show (i : Int) ≤ a by omega), Option.bind_some, sn_size, show (48 + b) % 256 = 48 + b by omega]
    simp only [if_pos (show ([49 - b] ++ List.replicate i (48 + b)).length + [48 + b].length ≤ 9223372036854775807 by simp; omega)]
    have h := ih (i + 1) (by omega)
    rw [List.replicate_succ', ← List.append_assoc, sn_append] at h
    exact h
theorem l04Flag_ev (a : Nat) (b : Int) (ha : a ≤ 10) (hb : 0 ≤ b ∧ b ≤ 1) : Ev (fun k => spec_l04Flag.f k a b) (strOfNums (flagL a b)) := by
  have e : (49 - b) % 256 = 49 - b := by omega
  simp (disch := omega) only [spec_l04Flag.f, w64, Option.bind_some, e]
  exact l04Flag_loop a b ha hb (a + 1) 0 (by omega)
theorem bitOf_eq' (c : Bool) : impl_bitOf.f c = some (strOfNums [if c = true then 49 else 48]) := by cases c <;> rfl
theorem flag_rep (a : Nat) (b : Int) (ha : a ≤ 10) : strings_Repeat.f (strOfNums [48 + b]) ((a : Int) + 1) = some (strOfNums (List.replicate (a + 1) (48 + b))) := by
  have hz : ((strOfNums [48 + b]).size : Int) = 1 := by rw [sn_size]; rfl
  unfold strings_Repeat.f
  rw [if_pos ⟨by omega, by omega, by rw [hz]; omega⟩, sn_rep, show ((a : Int) + 1).toNat = a + 1 by omega]
theorem flag_bit0 (b : Int) (hb : 0 ≤ b ∧ b ≤ 1) : impl_bitOf.f (b == 0) = some (strOfNums [49 - b]) := by
  rw [bitOf_eq']
  by_cases h : b = 0
  · rw [h]; rfl
  · rw [show b = 1 by omega]; rfl
theorem flag_bit1 (b : Int) (hb : 0 ≤ b ∧ b ≤ 1) : impl_bitOf.f (b == 1) = some (strOfNums [48 + b]) := by
  rw [bitOf_eq']
  by_cases h : b = 0
  · rw [h]; rfl
  · rw [show b = 1 by omega]; rfl
theorem flag_eq (a : Nat) (b : Int) (ha : a ≤ 10) (hb : 0 ≤ b ∧ b ≤ 1) : impl_Stuffer_flag.f a b = some (strOfNums (flagL a b)) := by
  have l1 : (strOfNums [49 - b]).size = 1 := by rw [sn_size]; rfl
  have l2 : (strOfNums (List.replicate (a + 1) (48 + b))).size = a + 1 := by rw [sn_size, List.length_replicate]
  have l3 : (strOfNums [49 - b] ++ strOfNums (List.replicate (a + 1) (48 + b))).size = a + 2 := by rw [ByteArray.size_append, l1, l2]; omega
  unfold impl_Stuffer_flag.f
  rw [flag_bit0 b hb, Option.bind_some, flag_bit1 b hb, Option.bind_some, w64 (by omega) (by omega), flag_rep a b ha, Option.bind_some, if_pos (by rw [l1, l2]; omega), if_pos (by rw [l3, l1]; omega), flagL, sn_append, sn_append]

def FnExactFrameBits_Pure : Prop := ∀ (a0_0 : Int) (a0_1 : Int) (l1 : List ByteArray), (Lit.int .i64 a0_0).wf = true → (Lit.int .i64 a0_1).wf = true → l1.length ≤ maxLen → l1.length * 16 ≤ 140737488351232 → (∀ x ∈ l1, x.size ≤ 140737488351232) → ∃ k, laws_FnExactFrameBits.f k a0_0 a0_1 l1 = some true
theorem stuffM_length (a b : Int) (l : List UInt8) : ∀ run, (stuffM a b run l).length ≤ 2 * l.length := by
  induction l with
  | nil => intro run; simp [stuffM]
  | cons c r ih =>
    intro run
    have h1 := ih 0
    have h2 := ih (run + 1)
    simp only [stuffM]
    split
    · simp; omega
    · split <;> simp <;> omega
theorem frame_loops (l : List ByteArray) (a : Nat) (b : Int) (ha : a ≤ 10) (hb : 0 ≤ b ∧ b ≤ 1) (hl : (l.length : Int) ≤ 1048576) (hs : ∀ j : Int, 0 ≤ j → j < l.length → ((rdOf ByteArray.empty l j).size : Int) ≤ 1048576) (d : Nat) : ∀ (t : ByteArray) (i : Int), 0 ≤ i → (l.length : Int) - i = d → t.size ≤ 400 →
    ∃ r, Ev (fun k => spec_FrameBits.l0 k l t i a b) r ∧ Ev (fun k => impl_FrameBits.l0 k t l l.length i a b) r := by
  induction d with
  | zero =>
    intro t i h0 hd ht
    refine ⟨(t, true), Ev_succ ?_, Ev_succ ?_⟩
    · simp only [spec_FrameBits.l0, if_neg (show ¬ i < (l.length : Int) by omega)]; exact Ev.now _
    · simp only [impl_FrameBits.l0, if_neg (show ¬ i < (l.length : Int) by omega)]; exact Ev.now _
  | succ d ih =>
    intro t i h0 hd ht
    have hlt : i < (l.length : Int) := by omega
    have hz := hs i h0 hlt
    obtain ⟨c, hc, hd', he⟩ := bits_same (rdOf ByteArray.empty l i) (by omega)
    cases c with
    | false =>
      refine ⟨((⟨#[]⟩ : ByteArray), false), Ev_succ ?_, Ev_succ ?_⟩
      · simp only [spec_FrameBits.l0, if_pos hlt, if_pos h0]
        refine Ev.bind hc ?_
        simp only [Bool.false_eq_true, if_false]; exact Ev.now _
      · simp only [impl_FrameBits.l0, if_pos hlt, if_pos h0, hd', Option.bind_some, Bool.false_eq_true, if_false]; exact Ev.now _
    | true =>
      have ⟨hall, h400⟩ := he.1 rfl
      have hA := stuff_ev (rdOf ByteArray.empty l i) a b hb (by omega)
      have hB := stuff_eq (rdOf ByteArray.empty l i) a b (by omega)
      have hsl : (⟨(stuffM a b 0 (rdOf ByteArray.empty l i).data.toList).toArray⟩ : ByteArray).size ≤ 800 := by
        have h1 := stuffM_length a b (rdOf ByteArray.empty l i).data.toList 0
        rw [dl_size] at h1
        have h2 : (⟨(stuffM a b 0 (rdOf ByteArray.empty l i).data.toList).toArray⟩ : ByteArray).size = (stuffM a b 0 (rdOf ByteArray.empty l i).data.toList).length := rfl
        omega
      generalize (⟨(stuffM a b 0 (rdOf ByteArray.empty l i).data.toList).toArray⟩ : ByteArray) = u at hA hB hsl
      have hF := l04Flag_ev a b ha hb
      have hG := flag_eq a b ha hb
      have hfz : (strOfNums (flagL a b)).size = a + 3 := by rw [sn_size, flagL_length]
      generalize strOfNums (flagL a b) = f at hF hG hfz
      have g1 : u.size + f.size ≤ 9223372036854775807 := by omega
      have g2 : t.size + (u ++ f).size ≤ 9223372036854775807 := by rw [ByteArray.size_append]; omega
      by_cases g : ((t ++ (u ++ f)).size : Int) > 400
      · refine ⟨((⟨#[]⟩ : ByteArray), false), Ev_succ ?_, Ev_succ ?_⟩
        · simp only [spec_FrameBits.l0, if_pos hlt, if_pos h0]
          refine Ev.bind hc ?_
          simp only [if_true]
          refine Ev.bind hA (Ev.bind hF ?_)
          simp only [if_pos g1, if_pos g2, if_pos g]; exact Ev.now _
        · simp only [impl_FrameBits.l0, if_pos hlt, if_pos h0, hd', hB, hG, Option.bind_some, if_true, if_pos g1, if_pos g2, if_pos g]; exact Ev.now _
      · obtain ⟨r, hC, hD⟩ := ih (t ++ (u ++ f)) (i + 1) (by omega) (by omega) (by omega)
        refine ⟨r, Ev_succ ?_, Ev_succ ?_⟩
        · simp (disch := omega) only [spec_FrameBits.l0, w64]
          simp only [if_pos hlt, if_pos h0]
          refine Ev.bind hc ?_
          simp only [if_true]
          refine Ev.bind hA (Ev.bind hF ?_)
          simp only [if_pos g1, if_pos g2, if_neg g]; exact hC
        · simp (disch := omega) only [impl_FrameBits.l0, w64]
          simp only [if_pos hlt, if_pos h0, hd', hB, hG, Option.bind_some, if_true, if_pos g1, if_pos g2, if_neg g]; exact hD
theorem frameBits_both (a b : Int) (l : List ByteArray) (hl : (l.length : Int) ≤ 1048576) (hs : ∀ j : Int, 0 ≤ j → j < l.length → ((rdOf ByteArray.empty l j).size : Int) ≤ 1048576) : ∃ r, Ev (fun k => spec_FrameBits.f k a b l) r ∧ Ev (fun k => impl_FrameBits.f k a b l) r := by
  obtain ⟨c, h1, h2, h3⟩ := l04Is_eq a b
  have no : Ev (fun k => spec_FrameBits.j0 k l true a b) ((⟨#[]⟩ : ByteArray), false) := by
    refine Ev_succ ?_; simp only [spec_FrameBits.j0, if_true]; exact Ev.now _
  have no' : Ev (fun k => impl_FrameBits.j0 k l true a b) ((⟨#[]⟩ : ByteArray), false) := by
    refine Ev_succ ?_; simp only [impl_FrameBits.j0, if_true]; exact Ev.now _
  simp only [spec_FrameBits.f, impl_FrameBits.f, h1, h2, Option.bind_some]
  cases c with
  | false => exact ⟨_, by simp only [Bool.false_eq_true, if_false]; exact no, by simp only [Bool.false_eq_true, if_false]; exact no'⟩
  | true =>
    obtain ⟨ha, hb⟩ := h3.1 rfl
    obtain ⟨n, rfl⟩ : ∃ n : Nat, a = n := ⟨a.toNat, by omega⟩
    simp only [if_true]
    cases hE : ((l.length : Int) == 0) with
    | true => exact ⟨_, no, no'⟩
    | false =>
      have hF := l04Flag_ev n b (by omega) hb
      have hG := flag_eq n b (by omega) hb
      obtain ⟨r, hA, hB⟩ := frame_loops l n b (by omega) hb hl hs l.length (strOfNums (flagL n b)) 0 (by omega) (by omega) (by rw [sn_size, flagL_length]; omega)
      refine ⟨r, Ev_succ ?_, Ev_succ ?_⟩
      · simp only [spec_FrameBits.j0, Bool.false_eq_true, if_false]
        exact Ev.bind hF hA
      · simp only [impl_FrameBits.j0, Bool.false_eq_true, if_false, hG, Option.bind_some]
        exact hB
theorem FnExactFrameBits : FnExactFrameBits_Pure := by
  intro a b l _ _ h1 h2 h3
  apply Ev.rounds
  simp only [laws_FnExactFrameBits.f]
  obtain ⟨v, hv, hz⟩ := szStr_ev l 1048576 (by omega) h2 h3
  refine Ev.bind hv ?_
  by_cases hn : v < 0
  · simp only [if_pos hn]; exact Ev.now _
  obtain ⟨hl, hs⟩ := hz hn
  simp only [if_neg hn, toStuffer_eq, Option.bind_some]
  have ht := toStr_ev l (by omega)
  obtain ⟨r, hA, hB⟩ := frameBits_both a b l hl hs
  refine Ev.bind ht (Ev.bind hA (Ev.bind ht (Ev.bind hB ?_)))
  simp only [if_true, bne_self_eq_false]
  refine Ev_succ ?_
  simp only [laws_FnExactFrameBits.j0, Bool.false_eq_true, if_false]
  refine Ev.bind ht (Ev.bind (eqStr_ev l (by omega)) ?_)
  simp only [if_true]
  exact Ev.now _

end Go.Proofs.YtkdobeemgbefmaaDoor.Pure
