/- The law FnExactShortestClash of the given program holds: for every input that the row lets in the call returns true and leaves its arguments as they were. No condition ahead of it. -/
import Derived.Test.YtkpobdcnggdjaaaDoorPFnExactShortestClashx10
import Derived.Test.YtkpobdcnggdjaaaDoorMine
namespace Go.Proofs.YtkpobdcnggdjaaaDoor.Pure
open Go.RowKit Go.Proofs.YtkpobdcnggdjaaaDoor.PFnExactShortestClash Go.Proofs.YtkpobdcnggdjaaaDoorW.PrintWords Go.Proofs.YtkpobdcnggdjaaaDoorW.PrintLast Go.Proofs.YtkpobdcnggdjaaaDoorW.PrintMore Go.Proofs.YtkpobdcnggdjaaaDoor.Mine
set_option linter.unusedVariables false
set_option linter.unusedSimpArgs false
theorem rs_set (l : List ByteArray) (i j : Int) (v : ByteArray) (hi : 0 ≤ i) (hil : i < l.length) (hj : 0 ≤ j) : rdOf ByteArray.empty (l.set i.toNat v) j = if j = i then v else rdOf ByteArray.empty l j := by
  unfold rdOf
  by_cases e : j = i
  · subst e; rw [if_pos rfl, List.getD_eq_getElem?_getD, List.getElem?_set_self (by omega)]; rfl
  · rw [if_neg e, List.getD_eq_getElem?_getD, List.getElem?_set_ne (by omega), List.getD_eq_getElem?_getD]
theorem ext_rs (a b : List ByteArray) (h : a.length = b.length) (hp : ∀ j : Int, 0 ≤ j → j < a.length → rdOf ByteArray.empty a j = rdOf ByteArray.empty b j) : a = b := by
  apply List.ext_getElem h
  intro n h1 h2
  have := hp n (by omega) (by omega)
  unfold rdOf at this
  rw [List.getD_eq_getElem?_getD, List.getD_eq_getElem?_getD, Int.toNat_natCast, List.getElem?_eq_getElem h1, List.getElem?_eq_getElem h2] at this
  simpa using this
theorem rs_mem (l : List ByteArray) (i : Int) (h0 : 0 ≤ i) (h1 : i < l.length) : rdOf ByteArray.empty l i ∈ l := by
  unfold rdOf
  rw [List.getD_eq_getElem?_getD, List.getElem?_eq_getElem (show i.toNat < l.length by omega)]
  exact List.getElem_mem _
theorem szStr_loop (l : List ByteArray) (n : Int) (hn : n ≤ 1048576) (hl : (l.length : Int) ≤ 4611686018427387904) (hs : ∀ x ∈ l, x.size ≤ 140737488351232) (d : Nat) : ∀ v i : Int, 0 ≤ i → i ≤ l.length → (l.length : Int) - i = d → 0 ≤ v → v ≤ n →
    (∀ j, 0 ≤ j → j < i → ((rdOf ByteArray.empty l j).size : Int) ≤ n) → ∃ r, Ev (fun k => laws_szStringS.l0 k l v i) r ∧ (¬ r < 0 → ∀ j, 0 ≤ j → j < (l.length : Int) → ((rdOf ByteArray.empty l j).size : Int) ≤ n) := by
  induction d with
  | zero =>
    intro v i h0 h1 hd hv0 hv hp
    refine ⟨v, Ev_succ ?_, fun _ j j0 j1 => hp j j0 (by omega)⟩
    simp only [laws_szStringS.l0, if_neg (show ¬ i < (l.length : Int) by omega)]; exact Ev.now _
  | succ d ih =>
    intro v i h0 h1 hd hv0 hv hp
    have hlt : i < (l.length : Int) := by omega
    have hz := hs _ (rs_mem l i h0 hlt)
    by_cases g : v - ((rdOf ByteArray.empty l i).size : Int) < 0
    · refine ⟨-1, Ev_succ ?_, fun h => absurd (by omega) h⟩
      simp (disch := omega) only [laws_szStringS.l0, w64]
      simp only [if_pos hlt, if_pos h0, if_pos g]; exact Ev.now _
    · obtain ⟨r, hr, hq⟩ := ih (v - ((rdOf ByteArray.empty l i).size : Int)) (i + 1) (by omega) (by omega) (by omega) (by omega) (by omega) (fun j j0 j1 => by
        by_cases e : j = i
        · rw [e]; omega
        · exact hp j j0 (by omega))
      refine ⟨r, Ev_succ ?_, hq⟩
      simp (disch := omega) only [laws_szStringS.l0, w64]
      simp only [if_pos hlt, if_pos h0, if_neg g]; exact hr
theorem szStr_ev (l : List ByteArray) (n : Int) (hn : 0 ≤ n ∧ n ≤ 1048576) (hl : l.length * 16 ≤ 140737488351232) (hs : ∀ x ∈ l, x.size ≤ 140737488351232) :
    ∃ r, Ev (fun k => laws_szStringS.f k l n) r ∧ (¬ r < 0 → (l.length : Int) ≤ n ∧ ∀ j, 0 ≤ j → j < (l.length : Int) → ((rdOf ByteArray.empty l j).size : Int) ≤ n) := by
  simp (disch := omega) only [laws_szStringS.f, w64]
  by_cases g : n - (l.length : Int) < 0
  · exact ⟨-1, by simp only [if_pos g]; exact Ev.now _, fun h => absurd (by omega) h⟩
  · obtain ⟨r, hr, hq⟩ := szStr_loop l n hn.2 (by omega) hs l.length (n - l.length) 0 (by omega) (by omega) (by omega) (by omega) (by omega) (fun j _ _ => by omega)
    exact ⟨r, by simp only [if_neg g]; exact hr, fun h => ⟨by omega, hq h⟩⟩
theorem toStr_loop (l : List ByteArray) (hl : (l.length : Int) ≤ 4611686018427387904) (d : Nat) : ∀ (m : List ByteArray) (i : Int), m.length = l.length → 0 ≤ i → i ≤ l.length → (l.length : Int) - i = d → (∀ j, 0 ≤ j → j < i → rdOf ByteArray.empty m j = rdOf ByteArray.empty l j) →
    Ev (fun k => laws_toStringS.l0 k l m i) l := by
  induction d with
  | zero =>
    intro m i hm h0 h1 hd hp
    refine Ev_succ ?_
    simp only [laws_toStringS.l0, if_neg (show ¬ i < (l.length : Int) by omega)]
    rw [ext_rs m l hm (fun j j0 j1 => hp j j0 (by omega))]
    exact Ev.now _
  | succ d ih =>
    intro m i hm h0 h1 hd hp
    refine Ev_succ ?_
    simp (disch := omega) only [laws_toStringS.l0, w64]
    simp only [if_pos (show i < (l.length : Int) by omega), if_pos h0, if_pos (show i < (m.length : Int) by omega)]
    refine ih (m.set i.toNat (rdOf ByteArray.empty l i)) (i + 1) (by rw [List.length_set]; exact hm) (by omega) (by omega) (by omega) (fun j j0 j1 => ?_)
    rw [rs_set m i j _ h0 (by omega) j0]
    by_cases e : j = i
    · rw [if_pos e, e]
    · rw [if_neg e]; exact hp j j0 (by omega)
theorem toStr_ev (l : List ByteArray) (hl : (l.length : Int) ≤ 1048576) : Ev (fun k => laws_toStringS.f k l) l := by
  simp only [laws_toStringS.f, if_pos (show 0 ≤ (l.length : Int) by omega), if_pos (show ((l.length : Int)).toNat ≤ 17592186044416 by omega)]
  exact toStr_loop l (by omega) l.length _ 0 (by simp) (by omega) (by omega) (by omega) (fun j _ _ => by omega)
theorem eqStr_loop (l : List ByteArray) (hl : (l.length : Int) ≤ 4611686018427387904) (d : Nat) : ∀ i : Int, 0 ≤ i → i ≤ l.length → (l.length : Int) - i = d → Ev (fun k => laws_eqStringS.l0 k l l i) true := by
  induction d with
  | zero =>
    intro i h0 h1 hd
    refine Ev_succ ?_
    simp only [laws_eqStringS.l0, if_neg (show ¬ i < (l.length : Int) by omega)]; exact Ev.now _
  | succ d ih =>
    intro i h0 h1 hd
    refine Ev_succ ?_
    simp (disch := omega) only [laws_eqStringS.l0, w64]
    simp only [if_pos (show i < (l.length : Int) by omega), if_pos h0, if_true]
    exact ih (i + 1) (by omega) (by omega) (by omega)
theorem eqStr_ev (l : List ByteArray) (hl : (l.length : Int) ≤ 1048576) : Ev (fun k => laws_eqStringS.f k l l) true := by
  simp only [laws_eqStringS.f, if_true]
  exact eqStr_loop l (by omega) l.length 0 (by omega) (by omega) (by omega)
theorem toList_inj {a b : ByteArray} : a.toList = b.toList ↔ a = b := by
  constructor
  · intro h
    rw [Lib.toList_data, Lib.toList_data] at h
    apply ByteArray.ext
    exact Array.toList_inj.1 h
  · rintro rfl; rfl

def AllBit (s : ByteArray) : Prop := ∀ i : Int, 0 ≤ i → i < s.size → bt s i = 48 ∨ bt s i = 49
def IsBitS (s : ByteArray) : Prop := AllBit s ∧ (s.size : Int) ≤ 400
theorem bt_list (s : ByteArray) (i : Nat) (h : i < s.size) : bt s i = ((s.data.toList[i]'(by simpa using h)).toNat : Int) := by
  unfold bt
  simp only [Int.toNat_natCast, h, dif_pos]
  rfl
theorem dropWhile_nil (p : UInt8 → Bool) : ∀ l : List UInt8, l.dropWhile p = [] ↔ ∀ b ∈ l, p b = true
  | [] => by simp
  | x :: l => by
    rw [List.dropWhile_cons]
    cases h : p x with
    | true => simp [h, dropWhile_nil p l]
    | false => simp [h]
theorem trim_empty (l : List UInt8) : (Lib.trimS l [48, 49]).isEmpty = true ↔ ∀ b ∈ l, b = 48 ∨ b = 49 := by
  have key : ∀ p : UInt8 → Bool, List.dropWhile p (List.dropWhile p l.reverse).reverse = [] ↔ ∀ b ∈ l, p b = true := by
    intro p
    rw [dropWhile_nil]
    constructor
    · intro h
      by_cases e : List.dropWhile p l.reverse = []
      · have := (dropWhile_nil p _).1 e
        exact fun b hb => this b (by simpa using hb)
      · have hh := List.head_dropWhile_not p e
        have h3 := h ((List.dropWhile p l.reverse).head e) (by simp)
        rw [hh] at h3
        cases h3
    · intro h b hb
      have : List.dropWhile p l.reverse = [] := (dropWhile_nil p _).2 (fun b hb => h b (by simpa using hb))
      rw [this] at hb
      simp at hb
  unfold Lib.trimS Lib.trimRightS Lib.trimLeftS
  rw [List.isEmpty_iff, key]
  simp
theorem areBits_ev (s : ByteArray) (hs : s.size ≤ 140737488351232) : ∃ b, impl_areBits.f s = some b ∧ (b = true ↔ AllBit s) := by
  refine ⟨(Lib.trimS s.data.toList [48, 49]).isEmpty, by unfold impl_areBits.f; rw [if_pos (by omega)], ?_⟩
  rw [trim_empty]
  constructor
  · intro h i h0 h1
    obtain ⟨n, rfl⟩ : ∃ n : Nat, i = n := ⟨i.toNat, by omega⟩
    rw [bt_list s n (by omega)]
    rcases h _ (List.getElem_mem (l := s.data.toList) (n := n) (by simp; omega)) with e | e <;> rw [e]
    · exact Or.inl rfl
    · exact Or.inr rfl
  · intro h b hb
    obtain ⟨n, hn, rfl⟩ := List.getElem_of_mem hb
    have hn' : n < s.size := by simpa using hn
    have := h n (by omega) (by omega)
    rw [bt_list s n hn'] at this
    rcases this with e | e
    · left; apply UInt8.toNat_inj.1; show s.data.toList[n].toNat = 48; omega
    · right; apply UInt8.toNat_inj.1; show s.data.toList[n].toNat = 49; omega
theorem l01Bits_loop (s : ByteArray) (hs : s.size ≤ 140737488351232) (d : Nat) : ∀ i : Int, 0 ≤ i → i ≤ s.size → (s.size : Int) - i = d → (∀ j, 0 ≤ j → j < i → bt s j = 48 ∨ bt s j = 49) →
    ∃ b, Ev (fun k => spec_l01Bits.l0 k s i) b ∧ (b = true ↔ IsBitS s) := by
  induction d with
  | zero =>
    intro i h0 h1 hd hp
    refine ⟨decide ((s.size : Int) ≤ 400), Ev_succ ?_, ?_⟩
    · simp only [spec_l01Bits.l0, if_neg (show ¬ i < (s.size : Int) by omega)]
      exact Ev.now _
    · rw [decide_eq_true_eq]
      exact ⟨fun h => ⟨fun j j0 j1 => hp j j0 (by omega), h⟩, fun h => h.2⟩
  | succ d ih =>
    intro i h0 h1 hd hp
    have hlt : i < (s.size : Int) := by omega
    by_cases e : bt s i = 48 ∨ bt s i = 49
    · obtain ⟨b, hb, hi⟩ := ih (i + 1) (by omega) (by omega) (by omega) (fun j j0 j1 => by
        by_cases z : j = i
        · rw [z]; exact e
        · exact hp j j0 (by omega))
      refine ⟨b, Ev_succ ?_, hi⟩
      simp (disch := omega) only [spec_l01Bits.l0, w64]
      rcases e with e | e
      · simp only [if_pos hlt, if_pos h0, if_pos e]; exact hb
      · simp only [if_pos hlt, if_pos h0, e, if_neg (show ¬ (49 : Int) = 48 by omega), if_true]; exact hb
    · refine ⟨false, Ev_succ ?_, ?_⟩
      · simp only [spec_l01Bits.l0, if_pos hlt, if_pos h0, if_neg (fun g => e (Or.inl g)), if_neg (fun g => e (Or.inr g))]
        exact Ev.now _
      · simp only [Bool.false_eq_true, false_iff]
        exact fun g => e (g.1 i h0 hlt)
theorem l01Bits_ev (s : ByteArray) (hs : s.size ≤ 140737488351232) : ∃ b, Ev (fun k => spec_l01Bits.f k s) b ∧ (b = true ↔ IsBitS s) :=
  l01Bits_loop s hs s.size 0 (by omega) (by omega) (by omega) (fun j _ _ => by omega)

def Among (l : List ByteArray) (n : Int) (x : ByteArray) : Prop := ∃ j : Int, 0 ≤ j ∧ j < n ∧ rdOf ByteArray.empty l j = x
theorem rs_take (l : List ByteArray) (n j : Int) (h0 : 0 ≤ j) (h1 : j < n) (hn : n ≤ l.length) : rdOf ByteArray.empty (l.take n.toNat) j = rdOf ByteArray.empty l j := by
  unfold rdOf
  rw [List.getD_eq_getElem?_getD, List.getElem?_take, if_pos (by omega), List.getD_eq_getElem?_getD]
theorem index3_loop (l : List ByteArray) (x : ByteArray) (hl : (l.length : Int) ≤ 4611686018427387904) (d : Nat) : ∀ i : Int, 0 ≤ i → i ≤ l.length → (l.length : Int) - i = d → (∀ j, 0 ≤ j → j < i → rdOf ByteArray.empty l j ≠ x) →
    ∃ r, Ev (fun k => spec_l03Index.l0 k l x i) r ∧ (r ≥ 0 ↔ Among l l.length x) := by
  induction d with
  | zero =>
    intro i h0 h1 hd hp
    refine ⟨-1, Ev_succ ?_, ?_⟩
    · simp only [spec_l03Index.l0, if_neg (show ¬ i < (l.length : Int) by omega)]; exact Ev.now _
    · exact ⟨fun h => by omega, fun ⟨j, j0, j1, j2⟩ => absurd j2 (hp j j0 (by omega))⟩
  | succ d ih =>
    intro i h0 h1 hd hp
    have hlt : i < (l.length : Int) := by omega
    by_cases e : rdOf ByteArray.empty l i = x
    · refine ⟨i, Ev_succ ?_, ⟨fun _ => ⟨i, h0, hlt, e⟩, fun _ => h0⟩⟩
      simp only [spec_l03Index.l0, toList_inj, if_pos hlt, if_pos h0, if_pos e]; exact Ev.now _
    · obtain ⟨r, hr, hi⟩ := ih (i + 1) (by omega) (by omega) (by omega) (fun j j0 j1 => by
        by_cases z : j = i
        · rw [z]; exact e
        · exact hp j j0 (by omega))
      refine ⟨r, Ev_succ ?_, hi⟩
      simp (disch := omega) only [spec_l03Index.l0, toList_inj, w64]
      simp only [if_pos hlt, if_pos h0, if_neg e]; exact hr
theorem index_loop (l : List ByteArray) (x : ByteArray) (hl : (l.length : Int) ≤ 4611686018427387904) (d : Nat) : ∀ i : Int, 0 ≤ i → i ≤ l.length → (l.length : Int) - i = d → (∀ j, 0 ≤ j → j < i → rdOf ByteArray.empty l j ≠ x) →
    ∃ r, Ev (fun k => slices_Index_string_string.l0 k l x l.length i) r ∧ (r ≥ 0 ↔ Among l l.length x) := by
  induction d with
  | zero =>
    intro i h0 h1 hd hp
    refine ⟨-1, Ev_succ ?_, ?_⟩
    · simp only [slices_Index_string_string.l0, if_neg (show ¬ i < (l.length : Int) by omega)]; exact Ev.now _
    · exact ⟨fun h => by omega, fun ⟨j, j0, j1, j2⟩ => absurd j2 (hp j j0 (by omega))⟩
  | succ d ih =>
    intro i h0 h1 hd hp
    have hlt : i < (l.length : Int) := by omega
    by_cases e : x = rdOf ByteArray.empty l i
    · refine ⟨i, Ev_succ ?_, ⟨fun _ => ⟨i, h0, hlt, e.symm⟩, fun _ => h0⟩⟩
      simp only [slices_Index_string_string.l0, toList_inj, if_pos hlt, if_pos h0, if_pos e]; exact Ev.now _
    · obtain ⟨r, hr, hi⟩ := ih (i + 1) (by omega) (by omega) (by omega) (fun j j0 j1 => by
        by_cases z : j = i
        · rw [z]; exact fun h => e h.symm
        · exact hp j j0 (by omega))
      refine ⟨r, Ev_succ ?_, hi⟩
      simp (disch := omega) only [slices_Index_string_string.l0, toList_inj, w64]
      simp only [if_pos hlt, if_pos h0, if_neg e]; exact hr
theorem among_take (l : List ByteArray) (i : Int) (x : ByteArray) (h0 : 0 ≤ i) (h1 : i ≤ l.length) : Among (l.take i.toNat) (l.take i.toNat).length x ↔ Among l i x := by
  have hlen : ((l.take i.toNat).length : Int) = i := by rw [List.length_take]; omega
  unfold Among
  rw [hlen]
  constructor
  · rintro ⟨j, j0, j1, j2⟩; exact ⟨j, j0, j1, by rwa [rs_take l i j j0 j1 h1] at j2⟩
  · rintro ⟨j, j0, j1, j2⟩; exact ⟨j, j0, j1, by rwa [rs_take l i j j0 j1 h1]⟩
def WordOk (l : List ByteArray) (i : Int) : Prop := (1 ≤ ((rdOf ByteArray.empty l i).size : Int) ∧ ((rdOf ByteArray.empty l i).size : Int) ≤ 12) ∧ AllBit (rdOf ByteArray.empty l i) ∧ ¬ Among l i (rdOf ByteArray.empty l i)
def CodeOk (l : List ByteArray) : Prop := (1 ≤ (l.length : Int) ∧ (l.length : Int) ≤ 16) ∧ ∀ i, 0 ≤ i → i < (l.length : Int) → WordOk l i
theorem code_loops (l : List ByteArray) (hl : (l.length : Int) ≤ 16) (d : Nat) : ∀ i : Int, 0 ≤ i → i ≤ l.length → (l.length : Int) - i = d → (∀ j, 0 ≤ j → j < i → WordOk l j) →
    ∃ b, Ev (fun k => spec_l05Is.l0 k l i) b ∧ Ev (fun k => impl_IsCode.l0 k l l l.length i) b ∧ (b = true ↔ ∀ j, 0 ≤ j → j < (l.length : Int) → WordOk l j) := by
  induction d with
  | zero =>
    intro i h0 h1 hd hp
    refine ⟨true, Ev_succ ?_, Ev_succ ?_, ?_⟩
    · simp only [spec_l05Is.l0, if_neg (show ¬ i < (l.length : Int) by omega)]; exact Ev.now _
    · simp only [impl_IsCode.l0, if_neg (show ¬ i < (l.length : Int) by omega)]; exact Ev.now _
    · simp only [true_iff]; exact fun j j0 j1 => hp j j0 (by omega)
  | succ d ih =>
    intro i h0 h1 hd hp
    have hlt : i < (l.length : Int) := by omega
    have no : ∀ X : Prop, ¬ WordOk l i → (false = true ↔ ∀ j, 0 ≤ j → j < (l.length : Int) → WordOk l j) := fun _ h => by
      simp only [Bool.false_eq_true, false_iff]; exact fun g => h (g i h0 hlt)
    by_cases c1 : ((rdOf ByteArray.empty l i).size : Int) < 1
    · refine ⟨false, Ev_succ ?_, Ev_succ ?_, no True (fun g => by have := g.1.1; omega)⟩
      · simp only [spec_l05Is.l0, if_pos hlt, if_pos h0, if_pos c1]; exact Ev.now _
      · simp only [impl_IsCode.l0, if_pos hlt, if_pos h0, if_pos c1]; exact Ev.now _
    by_cases c2 : ((rdOf ByteArray.empty l i).size : Int) > 12
    · refine ⟨false, Ev_succ ?_, Ev_succ ?_, no True (fun g => by have := g.1.2; omega)⟩
      · simp only [spec_l05Is.l0, if_pos hlt, if_pos h0, if_neg c1, if_pos c2]; exact Ev.now _
      · simp only [impl_IsCode.l0, if_pos hlt, if_pos h0, if_neg c1, if_pos c2]; exact Ev.now _
    obtain ⟨b, hb, hbi⟩ := l01Bits_ev (rdOf ByteArray.empty l i) (by omega)
    obtain ⟨c, hc, hci⟩ := areBits_ev (rdOf ByteArray.empty l i) (by omega)
    have ebc : b = c := by
      have : (b = true) ↔ (c = true) := hbi.trans ⟨fun g => hci.2 g.1, fun g => ⟨hci.1 g, by omega⟩⟩
      cases b <;> cases c <;> simp_all
    subst ebc
    cases b with
    | false =>
      refine ⟨false, Ev_succ ?_, Ev_succ ?_, no True (fun g => by have := hci.2 g.2.1; cases this)⟩
      · simp only [spec_l05Is.l0, if_pos hlt, if_pos h0, if_neg c1, if_neg c2]
        exact Ev.bind hb (by simpa using Ev.now false)
      · simp only [impl_IsCode.l0, if_pos hlt, if_pos h0, if_neg c1, if_neg c2, hc, Option.bind_some]
        simpa using Ev.now false
    | true =>
      have htl : ((l.take i.toNat).length : Int) ≤ 4611686018427387904 := by rw [List.length_take]; omega
      obtain ⟨r, hr, hri⟩ := index3_loop (l.take i.toNat) (rdOf ByteArray.empty l i) htl (l.take i.toNat).length 0 (by omega) (by omega) (by omega) (fun j _ _ => by omega)
      obtain ⟨q, hq, hqi⟩ := index_loop (l.take i.toNat) (rdOf ByteArray.empty l i) htl (l.take i.toNat).length 0 (by omega) (by omega) (by omega) (fun j _ _ => by omega)
      rw [among_take l i _ h0 (by omega)] at hri hqi
      by_cases a : Among l i (rdOf ByteArray.empty l i)
      · have r0 := hri.2 a; have q0 := hqi.2 a
        refine ⟨false, Ev_succ ?_, Ev_succ ?_, no True (fun g => g.2.2 a)⟩
        · simp only [spec_l05Is.l0, if_pos hlt, if_pos h0, if_neg c1, if_neg c2]
          refine Ev.bind hb ?_
          simp only [if_true, if_pos (show i ≤ (l.length : Int) by omega)]
          refine Ev.bind hr ?_
          simp only [if_pos r0]; exact Ev.now _
        · simp only [impl_IsCode.l0, if_pos hlt, if_pos h0, if_neg c1, if_neg c2, hc, Option.bind_some, if_true, if_pos (show i ≤ (l.length : Int) by omega)]
          refine Ev.bind (a := true) ?_ ?_
          · simp only [slices_Contains_string_string.f]
            refine Ev.bind hq ?_
            simp only [decide_eq_true q0]; exact Ev.now _
          · simp only [if_true]; exact Ev.now _
      · have r0 : ¬ r ≥ 0 := fun h => a (hri.1 h)
        have q0 : ¬ q ≥ 0 := fun h => a (hqi.1 h)
        obtain ⟨z, hA, hB, hz⟩ := ih (i + 1) (by omega) (by omega) (by omega) (fun j j0 j1 => by
          by_cases e : j = i
          · rw [e]; exact ⟨⟨by omega, by omega⟩, hci.1 rfl, a⟩
          · exact hp j j0 (by omega))
        refine ⟨z, Ev_succ ?_, Ev_succ ?_, hz⟩
        · simp (disch := omega) only [spec_l05Is.l0, w64]
          simp only [if_pos hlt, if_pos h0, if_neg c1, if_neg c2]
          refine Ev.bind hb ?_
          simp only [if_true, if_pos (show i ≤ (l.length : Int) by omega)]
          refine Ev.bind hr ?_
          simp only [if_neg r0]; exact hA
        · simp (disch := omega) only [impl_IsCode.l0, w64]
          simp only [if_pos hlt, if_pos h0, if_neg c1, if_neg c2, hc, Option.bind_some, if_true, if_pos (show i ≤ (l.length : Int) by omega)]
          refine Ev.bind (a := false) ?_ ?_
          · simp only [slices_Contains_string_string.f]
            refine Ev.bind hq ?_
            simp only [decide_eq_false q0]; exact Ev.now _
          · simp only [Bool.false_eq_true, if_false]; exact hB
theorem code_both (l : List ByteArray) : ∃ b, Ev (fun k => spec_l05Is.f k l) b ∧ Ev (fun k => impl_IsCode.f k l) b ∧ (b = true ↔ CodeOk l) := by
  have JA : Ev (fun k => spec_l05Is.j0 k l true) false := by
    refine Ev_succ ?_
    simp only [spec_l05Is.j0, if_true]; exact Ev.now _
  have JB : Ev (fun k => impl_IsCode.j0 k l true) false := by
    refine Ev_succ ?_
    simp only [impl_IsCode.j0, if_true]; exact Ev.now _
  simp only [spec_l05Is.f, impl_IsCode.f]
  by_cases c1 : (l.length : Int) < 1
  · simp only [if_pos c1]
    exact ⟨false, JA, JB, by simp only [Bool.false_eq_true, false_iff]; exact fun g => by have := g.1.1; omega⟩
  by_cases c2 : (l.length : Int) > 16
  · simp only [if_neg c1, decide_eq_true c2]
    exact ⟨false, JA, JB, by simp only [Bool.false_eq_true, false_iff]; exact fun g => by have := g.1.2; omega⟩
  simp only [if_neg c1, decide_eq_false c2]
  obtain ⟨b, hA, hB, hb⟩ := code_loops l (by omega) l.length 0 (by omega) (by omega) (by omega) (fun j _ _ => by omega)
  refine ⟨b, Ev_succ ?_, Ev_succ ?_, by rw [hb]; exact ⟨fun g => ⟨⟨by omega, by omega⟩, g⟩, fun g => g.2⟩⟩
  · simpa [spec_l05Is.j0] using hA
  · simpa [impl_IsCode.j0] using hB

def WC (a b : Int) : Prop := a = b ∧ -9223372036854775808 ≤ b ∧ b ≤ 9223372036854775807
theorem WC.eq {a b : Int} (h : WC a b) : wrap64 a = b := by rw [h.1, w64 h.2.1 h.2.2]
theorem cl_ext {a b : ByteArray} (h : a.data.toList = b.data.toList) : a = b := by
  apply ByteArray.ext
  exact Array.toList_inj.1 h
theorem cl_extract (s : ByteArray) (a b : Nat) : (s.extract a b).data.toList = (s.data.toList.drop a).take (b - a) := by
  simp only [ByteArray.data_extract, Array.toList_extract, List.extract_eq_take_drop]
theorem cl_rest (a b : ByteArray) (x : Clash.S) (h : a.data.toList = b.data.toList ++ x) : (a.extract b.size a.size).data.toList = x := by
  have h1 := congrArg List.length h
  rw [List.length_append, clash_len, clash_len] at h1
  rw [cl_extract, h, ← clash_len b, List.drop_left]
  exact List.take_of_length_le (by rw [clash_len]; omega)
theorem cl_at (a b : ByteArray) (ha : (a.size : Int) ≤ 1048576) (hb : (b.size : Int) ≤ 1048576) : ∃ c, spec_l01At.f a b 0 = some c ∧ (c = true ↔ ∃ x, a.data.toList = b.data.toList ++ x) := by
  have e0 : wrap64 (0 + (b.size : Int)) = b.size := by rw [Int.zero_add]; exact w64 (by omega) (by omega)
  simp only [spec_l01At.f, e0]
  by_cases h : (b.size : Int) ≤ (a.size : Int)
  · simp only [if_pos h, if_pos (show (0 : Int) ≤ 0 by omega), if_pos (show (0 : Int) ≤ (b.size : Int) by omega)]
    refine ⟨_, rfl, ?_⟩
    rw [beq_iff_eq, toList_inj]
    constructor
    · intro g
      refine ⟨a.data.toList.drop b.size, ?_⟩
      have := congrArg (fun z : ByteArray => z.data.toList) g
      simp only [cl_extract] at this
      rw [show (0 : Int).toNat = 0 from rfl, List.drop_zero, Int.toNat_natCast, Nat.sub_zero] at this
      rw [← this, List.take_append_drop]
    · rintro ⟨x, hx⟩
      apply cl_ext
      rw [cl_extract, hx, show (0 : Int).toNat = 0 from rfl, List.drop_zero, Int.toNat_natCast, Nat.sub_zero, ← clash_len b, List.take_left]
  · simp only [if_neg h]
    refine ⟨_, rfl, ?_⟩
    simp only [Bool.false_eq_true, false_iff]
    rintro ⟨x, hx⟩
    have := congrArg List.length hx
    rw [List.length_append, clash_len, clash_len] at this
    omega
theorem cl_lt (a b : ByteArray) : Clash.lt a.data.toList b.data.toList = true ↔ (a.size : Int) < b.size ∨ ((a.size : Int) = b.size ∧ Op.bytesLess a.toList b.toList = true) := by
  rw [Clash.lt_iff, clash_len, clash_len, Lib.toList_data, Lib.toList_data]
  constructor
  · rintro (h | ⟨h, g⟩)
    · exact .inl (by omega)
    · exact .inr ⟨by omega, g⟩
  · rintro (h | ⟨h, g⟩)
    · exact .inl (by omega)
    · exact .inr ⟨by omega, g⟩
def pk (x : S48) : Clash.S × Clash.S := (x.f0.data.toList, x.f1.data.toList)
structure AL (P : List (Clash.S × Clash.S)) (T : Clash.S → Option Clash.S) (dn : Clash.S → Bool) : Prop where
  on : ∀ p ∈ P, dn p.1 = false ∧ T p.1 = some p.2
  all : ∀ s t, dn s = false → T s = some t → (s, t) ∈ P
  nd : P.Pairwise (fun p q => p.1 ≠ q.1)
theorem AL.away {A C : List (Clash.S × Clash.S)} {p : Clash.S × Clash.S} {T : Clash.S → Option Clash.S} {dn : Clash.S → Bool} (h : AL (A ++ p :: C) T dn) : ∀ q, q ∈ A ∨ q ∈ C → q.1 ≠ p.1 := by
  have hn := h.nd
  rw [List.pairwise_append] at hn
  intro q hq
  rcases hq with hq | hq
  · exact hn.2.2 q hq p List.mem_cons_self
  · exact fun e => (List.pairwise_cons.1 hn.2.1).1 q hq e.symm
theorem AL.erase {A C : List (Clash.S × Clash.S)} {p : Clash.S × Clash.S} {T : Clash.S → Option Clash.S} {dn : Clash.S → Bool} (h : AL (A ++ p :: C) T dn) : AL (A ++ C) T (fun x => dn x || decide (x = p.1)) where
  on q hq := by
    have hq' := List.mem_append.1 hq
    have h1 := h.on q (by
      rw [List.mem_append, List.mem_cons]
      rcases hq' with g | g
      · exact .inl g
      · exact .inr (.inr g))
    exact ⟨by rw [h1.1, decide_eq_false (h.away q hq')]; rfl, h1.2⟩
  all s t hd ht := by
    simp only [Bool.or_eq_false_iff, decide_eq_false_iff_not] at hd
    have h1 := h.all s t hd.1 ht
    rw [List.mem_append, List.mem_cons] at h1
    rw [List.mem_append]
    rcases h1 with g | g | g
    · exact .inl g
    · exact absurd (by rw [← g]) hd.2
    · exact .inr g
  nd := h.nd.sublist (List.Sublist.append (List.Sublist.refl A) (List.sublist_cons_self p C))
theorem AL.set {A C : List (Clash.S × Clash.S)} {p : Clash.S × Clash.S} {T : Clash.S → Option Clash.S} {dn : Clash.S → Bool} (h : AL (A ++ p :: C) T dn) {t : Clash.S} (hp : Clash.put T p.1 t p.1 = some t) : AL (A ++ (p.1, t) :: C) (Clash.put T p.1 t) dn where
  on q hq := by
    rw [List.mem_append, List.mem_cons] at hq
    have h1 := h.on p (by simp)
    rcases hq with g | rfl | g
    · have h2 := h.on q (by simp [g])
      exact ⟨h2.1, by rw [Clash.put_other (h.away q (.inl g))]; exact h2.2⟩
    · exact ⟨h1.1, hp⟩
    · have h2 := h.on q (by simp [g])
      exact ⟨h2.1, by rw [Clash.put_other (h.away q (.inr g))]; exact h2.2⟩
  all s u hd hu := by
    rw [List.mem_append, List.mem_cons]
    by_cases e : s = p.1
    · subst e
      rw [hp] at hu; cases hu
      exact .inr (.inl rfl)
    · rw [Clash.put_other e] at hu
      have h1 := h.all s u hd hu
      rw [List.mem_append, List.mem_cons] at h1
      rcases h1 with g | g | g
      · exact .inl g
      · exact absurd (by rw [← g]) e
      · exact .inr (.inr g)
  nd := by
    have hn := h.nd
    rw [List.pairwise_append, List.pairwise_cons] at hn ⊢
    refine ⟨hn.1, ⟨fun q hq => hn.2.1.1 q hq, hn.2.1.2⟩, fun q hq q' hq' => ?_⟩
    rw [List.mem_cons] at hq'
    rcases hq' with rfl | g
    · exact hn.2.2 q hq p List.mem_cons_self
    · exact hn.2.2 q hq q' (List.mem_cons_of_mem _ g)
theorem AL.snoc {P : List (Clash.S × Clash.S)} {T : Clash.S → Option Clash.S} {dn : Clash.S → Bool} (h : AL P T dn) {s t : Clash.S} (hs : ∀ p ∈ P, p.1 ≠ s) (hd : dn s = false) : AL (P ++ [(s, t)]) (Clash.put T s t) dn where
  on q hq := by
    rw [List.mem_append, List.mem_singleton] at hq
    rcases hq with g | rfl
    · rw [Clash.put_other (hs q g)]; exact h.on q g
    · refine ⟨hd, Clash.put_none _ ?_⟩
      cases e : T s with
      | none => rfl
      | some u => exact absurd rfl (hs _ (h.all s u hd e))
  all x u hx hu := by
    rw [List.mem_append, List.mem_singleton]
    by_cases e : x = s
    · subst e
      rw [Clash.put_none _ (by
        cases e : T x with
        | none => rfl
        | some u => exact absurd rfl (hs _ (h.all x u hx e)))] at hu
      cases hu
      exact .inr rfl
    · rw [Clash.put_other e] at hu
      exact .inl (h.all x u hx hu)
  nd := by
    rw [List.pairwise_append]
    refine ⟨h.nd, List.pairwise_singleton _ _, fun q hq q' hq' => ?_⟩
    rw [List.mem_singleton] at hq'
    subst hq'
    exact hs q hq
theorem op_split (op : List S48) (i : Nat) (h : i < op.length) : op.map pk = (op.map pk).take i ++ pk (rd_T48 op (i : Int)) :: (op.map pk).drop (i + 1) := by
  have h2 : i < (op.map pk).length := by rw [List.length_map]; exact h
  have e : pk (rd_T48 op (i : Int)) = (op.map pk)[i] := by
    unfold rd_T48
    rw [Int.toNat_natCast, List.getD_eq_getElem?_getD, List.getElem?_eq_getElem h, List.getElem_map]; rfl
  rw [e, ← List.drop_eq_getElem_cons h2, List.take_append_drop]
theorem op_set (op : List S48) (i : Nat) (h : i < op.length) (v : S48) : (op.set i v).map pk = (op.map pk).take i ++ pk v :: (op.map pk).drop (i + 1) := by
  rw [List.map_set, List.set_eq_take_append_cons_drop, if_pos (by rw [List.length_map]; exact h)]
theorem op_mem (op : List S48) (i : Nat) (h : i < op.length) : pk (rd_T48 op (i : Int)) ∈ op.map pk := by
  rw [op_split op i h]; simp
theorem put_loop (op : List S48) (a b : ByteArray) (T : Clash.S → Option Clash.S) (dn : Clash.S → Bool) (h : AL (op.map pk) T dn) (hd : dn a.data.toList = false) (hn : op.length ≤ 100000) (d : Nat) : ∀ i : Nat, i + d = op.length → (∀ j : Nat, j < i → (rd_T48 op (j : Int)).f0 ≠ a) →
    ∃ op', Ev (fun k => spec_l05Put.l0 k op (i : Int) a b) op' ∧ AL (op'.map pk) (Clash.put T a.data.toList b.data.toList) dn ∧ op'.length ≤ op.length + 1 := by
  induction d with
  | zero =>
    intro i hi hp
    refine ⟨op ++ [⟨a, b⟩], Ev_succ ?_, ?_, by rw [List.length_append, List.length_singleton]; omega⟩
    · simp only [spec_l05Put.l0, if_neg (show ¬ (i : Int) < (op.length : Int) by omega), if_pos (show op.length < 4398046511104 by omega)]; exact Ev.now _
    · rw [List.map_append]
      refine h.snoc (fun p hp2 e => ?_) hd
      obtain ⟨x, hx, rfl⟩ := List.mem_map.1 hp2
      obtain ⟨j, hj, rfl⟩ := List.getElem_of_mem hx
      refine hp j (by omega) ?_
      unfold rd_T48
      rw [Int.toNat_natCast, List.getD_eq_getElem?_getD, List.getElem?_eq_getElem hj]
      exact cl_ext e
  | succ d ih =>
    intro i hi hp
    have hlt : (i : Int) < (op.length : Int) := by omega
    have hil : i < op.length := by omega
    have e1 : WC ((i : Int) + 1) ((i + 1 : Nat) : Int) := ⟨by omega, by omega, by omega⟩
    by_cases c : (rd_T48 op (i : Int)).f0 = a
    · have hsp := op_split op i hil
      have h' := h
      rw [hsp] at h'
      have hT := (h.on _ (op_mem op i hil)).2
      have hk : (pk (rd_T48 op (i : Int))).1 = a.data.toList := by rw [← c]; rfl
      rw [hk] at hT
      by_cases hl : Clash.lt b.data.toList (pk (rd_T48 op (i : Int))).2 = true
      · have hl2 := (cl_lt b (rd_T48 op (i : Int)).f1).1 hl
        refine ⟨op.set i ⟨a, b⟩, Ev_succ ?_, ?_, by rw [List.length_set]; omega⟩
        · simp only [spec_l05Put.l0, if_pos hlt, if_pos (show (0 : Int) ≤ i by omega), toList_inj, if_pos c, Int.toNat_natCast]
          by_cases g : (b.size : Int) < ((rd_T48 op (i : Int)).f1.size : Int)
          · simp only [if_pos g]; exact Ev.now _
          · rcases hl2 with g2 | ⟨g2, g3⟩
            · exact absurd g2 g
            · simp only [if_neg g, if_pos g2, if_pos g3]; exact Ev.now _
        · rw [op_set op i hil]
          have := h'.set (t := b.data.toList) (by rw [hk]; exact Clash.put_less hT hl)
          rw [hk] at this
          exact this
      · have hl2 : ¬ ((b.size : Int) < (rd_T48 op (i : Int)).f1.size ∨ ((b.size : Int) = (rd_T48 op (i : Int)).f1.size ∧ Op.bytesLess b.toList (rd_T48 op (i : Int)).f1.toList = true)) := fun g => hl ((cl_lt b (rd_T48 op (i : Int)).f1).2 g)
        refine ⟨op, Ev_succ ?_, by rw [Clash.put_keep hT hl]; exact h, by omega⟩
        simp only [spec_l05Put.l0, if_pos hlt, if_pos (show (0 : Int) ≤ i by omega), toList_inj, if_pos c]
        simp only [if_neg (fun g => hl2 (.inl g))]
        by_cases g2 : (b.size : Int) = ((rd_T48 op (i : Int)).f1.size : Int)
        · simp only [if_pos g2, if_neg (fun g => hl2 (.inr ⟨g2, g⟩))]; exact Ev.now _
        · simp only [if_neg g2]; exact Ev.now _
    · obtain ⟨op', hE, hA, hL⟩ := ih (i + 1) (by omega) (fun j hj => by
        by_cases e : j = i
        · rw [e]; exact c
        · exact hp j (by omega))
      refine ⟨op', Ev_succ ?_, hA, hL⟩
      simp only [spec_l05Put.l0, if_pos hlt, if_pos (show (0 : Int) ≤ i by omega), toList_inj, if_neg c, e1.eq]
      exact hE
theorem put_ev (op : List S48) (a b : ByteArray) (T : Clash.S → Option Clash.S) (dn : Clash.S → Bool) (h : AL (op.map pk) T dn) (hd : dn a.data.toList = false) (hn : op.length ≤ 100000) :
    ∃ op', Ev (fun k => spec_l05Put.f k op a b) op' ∧ AL (op'.map pk) (Clash.put T a.data.toList b.data.toList) dn ∧ op'.length ≤ op.length + 1 := by
  obtain ⟨op', hE, r⟩ := put_loop op a b T dn h hd hn op.length 0 (by omega) (fun j hj => by omega)
  exact ⟨op', hE, r⟩
theorem cl_word (l0 : List ByteArray) (i : Nat) (h : i < l0.length) : (l0.map (·.data.toList))[i]? = some (rdOf ByteArray.empty l0 (i : Int)).data.toList := by
  rw [List.getElem?_map, List.getElem?_eq_getElem h]
  unfold rdOf
  rw [Int.toNat_natCast, List.getD_eq_getElem?_getD, List.getElem?_eq_getElem h]
  rfl
theorem first_loop (l : List ByteArray) (hl : l.length ≤ 16) (hs : ∀ i : Nat, i < l.length → (rdOf ByteArray.empty l (i : Int)).size ≤ 12) (ws : List Clash.S) (hws : ws = l.map (·.data.toList)) (e : Nat) : ∀ (i : Nat) (op : List S48) (T : Clash.S → Option Clash.S), i + e = l.length → AL (op.map pk) T (fun _ => false) → Clash.Inv ws T (fun _ => false) (clashC ws i 0) → ClB T 12 → op.length ≤ 16 * i →
    ∃ op' T', AL (op'.map pk) T' (fun _ => false) ∧ Clash.Inv ws T' (fun _ => false) (clashC ws l.length 0) ∧ ClB T' 12 ∧ op'.length ≤ 256 ∧ ∀ r, Ev (fun k => spec_l05Clash.l2 k l op' []) r → Ev (fun k => spec_l05Clash.l0 k l op (i : Int)) r := by
  have hwl : ws.length = l.length := by rw [hws, List.length_map]
  have hwi : ∀ i : Nat, i < l.length → ws[i]? = some (rdOf ByteArray.empty l (i : Int)).data.toList := fun i hi => by rw [hws]; exact cl_word l i hi
  induction e with
  | zero =>
    intro i op T hi hA hI hB hn
    obtain rfl : i = l.length := by omega
    refine ⟨op, T, hA, hI, hB, by omega, fun r hr => Ev_succ ?_⟩
    simp only [spec_l05Clash.l0, if_neg (show ¬ (l.length : Int) < (l.length : Int) by omega)]
    exact hr
  | succ e ih =>
    intro i op T hi hA hI hB hn
    have hil : i < l.length := by omega
    have inner : ∀ (d j : Nat) (op : List S48) (T : Clash.S → Option Clash.S), j + d = l.length → AL (op.map pk) T (fun _ => false) → Clash.Inv ws T (fun _ => false) (clashC ws i j) → ClB T 12 → op.length ≤ 16 * i + j →
        ∃ op' T', AL (op'.map pk) T' (fun _ => false) ∧ Clash.Inv ws T' (fun _ => false) (clashC ws l.length 0) ∧ ClB T' 12 ∧ op'.length ≤ 256 ∧ ∀ r, Ev (fun k => spec_l05Clash.l2 k l op' []) r → Ev (fun k => spec_l05Clash.l1 k l op (i : Int) (j : Int)) r := by
      intro d
      induction d with
      | zero =>
        intro j op T hj hA hI hB hn
        obtain ⟨op', T', h1, h2, h3, h4, h5⟩ := ih (i + 1) op T (by omega) hA (hI.weaken (fun x y g => clashC_next (by omega) g)) hB (by omega)
        refine ⟨op', T', h1, h2, h3, h4, fun r hr => Ev_succ ?_⟩
        have e1 : WC ((i : Int) + 1) ((i + 1 : Nat) : Int) := ⟨by omega, by omega, by omega⟩
        simp only [spec_l05Clash.l1, if_neg (show ¬ (j : Int) < (l.length : Int) by omega), e1.eq]
        exact h5 r hr
      | succ d ihd =>
        intro j op T hj hA hI hB hn
        have hjl : j < l.length := by omega
        have e1 : WC ((j : Int) + 1) ((j + 1 : Nat) : Int) := ⟨by omega, by omega, by omega⟩
        have skip : (i = j ∨ ∀ x, (rdOf ByteArray.empty l (j : Int)).data.toList ≠ (rdOf ByteArray.empty l (i : Int)).data.toList ++ x) → ∃ op' T', AL (op'.map pk) T' (fun _ => false) ∧ Clash.Inv ws T' (fun _ => false) (clashC ws l.length 0) ∧ ClB T' 12 ∧ op'.length ≤ 256 ∧ ∀ r, Ev (fun k => spec_l05Clash.l2 k l op' []) r → Ev (fun k => spec_l05Clash.l1 k l op (i : Int) ((j + 1 : Nat) : Int)) r :=
          fun hn' => ihd (j + 1) op T (by omega) hA (hI.weaken (fun x y g => clashC_none (hwi i hil) (hwi j hjl) hn' g)) hB (by omega)
        by_cases hij : i = j
        · obtain ⟨op', T', h1, h2, h3, h4, h5⟩ := skip (.inl hij)
          refine ⟨op', T', h1, h2, h3, h4, fun r hr => Ev_succ ?_⟩
          simp only [spec_l05Clash.l1, if_pos (show (j : Int) < (l.length : Int) by omega), if_pos (show (i : Int) = (j : Int) by omega), e1.eq]
          exact h5 r hr
        · have z1 := hs i hil
          have z2 := hs j hjl
          obtain ⟨c, hc, hci⟩ := cl_at (rdOf ByteArray.empty l (j : Int)) (rdOf ByteArray.empty l (i : Int)) (by omega) (by omega)
          cases c with
          | false =>
            obtain ⟨op', T', h1, h2, h3, h4, h5⟩ := skip (.inr (fun x hx => by have := hci.2 ⟨x, hx⟩; cases this))
            refine ⟨op', T', h1, h2, h3, h4, fun r hr => Ev_succ ?_⟩
            simp only [spec_l05Clash.l1, if_pos (show (j : Int) < (l.length : Int) by omega), if_neg (show ¬ (i : Int) = (j : Int) by omega), if_pos (show (0 : Int) ≤ j by omega), if_pos (show (0 : Int) ≤ i by omega), if_pos (show (i : Int) < (l.length : Int) by omega), hc, Option.bind_some, Bool.false_eq_true, if_false, e1.eq]
            exact h5 r hr
          | true =>
            obtain ⟨x, hx⟩ := hci.1 rfl
            have hzx := congrArg List.length hx
            rw [List.length_append, clash_len, clash_len] at hzx
            have hrest := cl_rest (rdOf ByteArray.empty l (j : Int)) (rdOf ByteArray.empty l (i : Int)) x hx
            obtain ⟨op1, hE, hA1, hL1⟩ := put_ev op ((rdOf ByteArray.empty l (j : Int)).extract (rdOf ByteArray.empty l (i : Int)).size (rdOf ByteArray.empty l (j : Int)).size) (rdOf ByteArray.empty l (j : Int)) T (fun _ => false) hA rfl (by omega)
            rw [hrest] at hA1
            obtain ⟨op', T', h1, h2, h3, h4, h5⟩ := ihd (j + 1) op1 _ (by omega) hA1
              ((hI.put_first (.base ⟨i, j, hij, (rdOf ByteArray.empty l (i : Int)).data.toList, hwi i hil, hwi j hjl, hx⟩)).weaken (fun a b g => clashC_some (hwi i hil) (hwi j hjl) hx g)) (hB.put (by omega) (by rw [clash_len]; omega)) (by omega)
            refine ⟨op', T', h1, h2, h3, h4, fun r hr => Ev_succ ?_⟩
            simp only [spec_l05Clash.l1, if_pos (show (j : Int) < (l.length : Int) by omega), if_neg (show ¬ (i : Int) = (j : Int) by omega), if_pos (show (0 : Int) ≤ j by omega), if_pos (show (0 : Int) ≤ i by omega), if_pos (show (i : Int) < (l.length : Int) by omega), hc, Option.bind_some, if_true, e1.eq, if_pos (show (0 : Int) ≤ ((rdOf ByteArray.empty l (i : Int)).size : Int) by omega), if_pos (show ((rdOf ByteArray.empty l (i : Int)).size : Int) ≤ ((rdOf ByteArray.empty l (j : Int)).size : Int) by omega), Int.toNat_natCast]
            exact Ev.bind hE (h5 r hr)
    obtain ⟨op', T', h1, h2, h3, h4, h5⟩ := inner l.length 0 op T (by omega) hA hI hB (by omega)
    refine ⟨op', T', h1, h2, h3, h4, fun r hr => Ev_succ ?_⟩
    simp only [spec_l05Clash.l0, if_pos (show (i : Int) < (l.length : Int) by omega)]
    exact h5 r hr

theorem best_loop (l : List ByteArray) (op : List S48) (done : List ByteArray) (hn : op.length ≤ 100000) (d : Nat) : ∀ b i : Nat, b < i → i + d = op.length → (∀ j : Nat, j < i → Clash.le (pk (rd_T48 op (b : Int))).2 (pk (rd_T48 op (j : Int))).2) →
    ∃ b', b' < op.length ∧ (∀ j : Nat, j < op.length → Clash.le (pk (rd_T48 op (b' : Int))).2 (pk (rd_T48 op (j : Int))).2) ∧ ∀ r, Ev (fun k => spec_l05Clash.l3 k l op done (b' : Int) (op.length : Int)) r → Ev (fun k => spec_l05Clash.l3 k l op done (b : Int) (i : Int)) r := by
  induction d with
  | zero =>
    intro b i hb hi hm
    obtain rfl : i = op.length := by omega
    exact ⟨b, hb, hm, fun r hr => hr⟩
  | succ d ih =>
    intro b i hb hi hm
    have e1 : WC ((i : Int) + 1) ((i + 1 : Nat) : Int) := ⟨by omega, by omega, by omega⟩
    by_cases hl : Clash.lt (pk (rd_T48 op (i : Int))).2 (pk (rd_T48 op (b : Int))).2 = true
    · obtain ⟨b', h1, h2, h3⟩ := ih i (i + 1) (by omega) (by omega) (fun j hj => by
        by_cases e : j = i
        · rw [e]; exact Clash.le_refl _
        · exact Clash.le_trans (Clash.le_of_lt hl) (hm j (by omega)))
      refine ⟨b', h1, h2, fun r hr => Ev_succ ?_⟩
      have hl2 := (cl_lt (rd_T48 op (i : Int)).f1 (rd_T48 op (b : Int)).f1).1 hl
      simp only [spec_l05Clash.l3, if_pos (show (i : Int) < (op.length : Int) by omega), if_pos (show (0 : Int) ≤ i by omega), if_pos (show (0 : Int) ≤ b by omega), if_pos (show (b : Int) < (op.length : Int) by omega), e1.eq]
      by_cases g : ((rd_T48 op (i : Int)).f1.size : Int) < ((rd_T48 op (b : Int)).f1.size : Int)
      · simp only [if_pos g]; exact h3 r hr
      · rcases hl2 with g2 | ⟨g2, g3⟩
        · exact absurd g2 g
        · simp only [if_neg g, if_pos g2, if_pos g3]; exact h3 r hr
    · obtain ⟨b', h1, h2, h3⟩ := ih b (i + 1) (by omega) (by omega) (fun j hj => by
        by_cases e : j = i
        · rw [e]; exact hl
        · exact hm j (by omega))
      refine ⟨b', h1, h2, fun r hr => Ev_succ ?_⟩
      have hl2 : ¬ (((rd_T48 op (i : Int)).f1.size : Int) < (rd_T48 op (b : Int)).f1.size ∨ (((rd_T48 op (i : Int)).f1.size : Int) = (rd_T48 op (b : Int)).f1.size ∧ Op.bytesLess (rd_T48 op (i : Int)).f1.toList (rd_T48 op (b : Int)).f1.toList = true)) := fun g => hl ((cl_lt _ _).2 g)
      simp only [spec_l05Clash.l3, if_pos (show (i : Int) < (op.length : Int) by omega), if_pos (show (0 : Int) ≤ i by omega), if_pos (show (0 : Int) ≤ b by omega), if_pos (show (b : Int) < (op.length : Int) by omega), e1.eq, if_neg (fun g => hl2 (.inl g))]
      by_cases g2 : ((rd_T48 op (i : Int)).f1.size : Int) = ((rd_T48 op (b : Int)).f1.size : Int)
      · simp only [if_pos g2, if_neg (fun g => hl2 (.inr ⟨g2, g⟩))]; exact h3 r hr
      · simp only [if_neg g2]; exact h3 r hr
theorem among_mem (l : List ByteArray) (x : ByteArray) : Among l l.length x ↔ x.data.toList ∈ l.map (·.data.toList) := by
  constructor
  · rintro ⟨j, h0, h1, rfl⟩
    exact List.mem_map.2 ⟨_, rs_mem l j h0 h1, rfl⟩
  · intro h
    obtain ⟨y, hy, e⟩ := List.mem_map.1 h
    obtain ⟨j, hj, rfl⟩ := List.getElem_of_mem hy
    refine ⟨(j : Int), by omega, by omega, ?_⟩
    unfold rdOf
    rw [Int.toNat_natCast, List.getD_eq_getElem?_getD, List.getElem?_eq_getElem hj]
    exact cl_ext e
theorem index_ev (l : List ByteArray) (x : ByteArray) (hl : l.length ≤ 100000) : ∃ r, Ev (fun k => spec_l03Index.f k l x) r ∧ (r ≥ 0 ↔ x.data.toList ∈ l.map (·.data.toList)) := by
  obtain ⟨r, hr, hi⟩ := index3_loop l x (by omega) l.length 0 (by omega) (by omega) (by omega) (fun j _ _ => by omega)
  exact ⟨r, hr, hi.trans (among_mem l x)⟩
section
variable {ws : List Clash.S} {best t0 : Clash.S} {T0 : Clash.S → Option Clash.S} {dn : Clash.S → Bool}
/-- behind a word: what the spec's round has made. -/
theorem word_step (l : List ByteArray) (done : List ByteArray) (op : List S48) (T : Clash.S → Option Clash.S) {C : Clash.S → Clash.S → Prop} (R : Clash.Rnd ws T dn C t0) (hA : AL (op.map pk) T dn) (hdn : ∀ s, dn s = true ↔ s ∈ done.map (·.data.toList)) (hdl : done.length ≤ 1000) (hol : op.length ≤ 10000)
    (a b : ByteArray) (hl : Clash.le t0 b.data.toList) (j ahead bits : ByteArray) (jj : Int) :
    ∃ op', AL (op'.map pk) (Clash.put T a.data.toList b.data.toList) dn ∧ op'.length ≤ op.length + 1 ∧ ∀ r, Ev (fun k => spec_l05Clash.l4 k l op' done (wrap64 (jj + 1)) ahead bits) r → Ev (fun k => spec_l05Clash.j5 k l op done jj ahead bits a b) r := by
  obtain ⟨q, hq, hqi⟩ := index_ev done a (by omega)
  by_cases hd : dn a.data.toList = true
  · have hq0 : q ≥ 0 := hqi.2 ((hdn _).1 hd)
    have hput : Clash.put T a.data.toList b.data.toList = T := by
      obtain ⟨u, hu⟩ := (R.done _ hd).2
      exact Clash.put_keep hu (Clash.le_trans (R.low _ _ hd hu) hl)
    refine ⟨op, by rw [hput]; exact hA, by omega, fun r hr => Ev_succ ?_⟩
    simp only [spec_l05Clash.j5]
    refine Ev.bind hq ?_
    simp only [if_neg (show ¬ q < 0 by omega)]
    exact hr
  · have hq0 : ¬ q ≥ 0 := fun g => hd ((hdn _).2 (hqi.1 g))
    obtain ⟨op', hE, hA', hL⟩ := put_ev op a b T dn hA (by simpa using hd) (by omega)
    refine ⟨op', hA', hL, fun r hr => Ev_succ ?_⟩
    simp only [spec_l05Clash.j5]
    refine Ev.bind hq ?_
    simp only [if_pos (show q < 0 by omega)]
    exact Ev.bind hE hr
end
theorem words_loop (l : List ByteArray) (hl : l.length ≤ 16) (hs : ∀ i : Nat, i < l.length → (rdOf ByteArray.empty l (i : Int)).size ≤ 12) (ws : List Clash.S) (hws : ws = l.map (·.data.toList)) (done : List ByteArray) (hdl : done.length ≤ 1000) (ahead bits : ByteArray) (hne : ahead.data.toList ≠ [])
    (C0 : Clash.S → Clash.S → Prop) (T0 : Clash.S → Option Clash.S) (dn : Clash.S → Bool) (hdn : ∀ s, dn s = true ↔ s ∈ done.map (·.data.toList)) (hd : dn ahead.data.toList = true) (b : Nat) (hb : b ≤ 10000) (ho : bits.size + 12 ≤ b) (e : Nat) : ∀ (j : Nat) (op : List S48) (T : Clash.S → Option Clash.S), j + e = l.length → AL (op.map pk) T dn →
    Clash.Rnd ws T dn (fun x y => C0 x y ∨ ∃ a, a < j ∧ ∃ wd, ws[a]? = some wd ∧ Clash.W ahead.data.toList bits.data.toList wd x y) bits.data.toList → (∀ a, dn a = true → T a = T0 a) → T ahead.data.toList = some bits.data.toList → ClB T b → op.length + (l.length - j) ≤ 9000 →
    ∃ op' T', AL (op'.map pk) T' dn ∧ Clash.Rnd ws T' dn (fun x y => C0 x y ∨ ∃ a, a < l.length ∧ ∃ wd, ws[a]? = some wd ∧ Clash.W ahead.data.toList bits.data.toList wd x y) bits.data.toList ∧ (∀ a, dn a = true → T' a = T0 a) ∧ ClB T' b ∧ op'.length ≤ op.length + (l.length - j) ∧
      ∀ r, Ev (fun k => spec_l05Clash.l2 k l op' done) r → Ev (fun k => spec_l05Clash.l4 k l op done (j : Int) ahead bits) r := by
  have hwl : ws.length = l.length := by rw [hws, List.length_map]
  have hwi : ∀ i : Nat, i < l.length → ws[i]? = some (rdOf ByteArray.empty l (i : Int)).data.toList := fun i hi => by rw [hws]; exact cl_word l i hi
  induction e with
  | zero =>
    intro j op T hj hA hR hk hT hB hn
    obtain rfl : j = l.length := by omega
    refine ⟨op, T, hA, hR, hk, hB, by omega, fun r hr => Ev_succ ?_⟩
    simp only [spec_l05Clash.l4, if_neg (show ¬ (l.length : Int) < (l.length : Int) by omega)]
    exact hr
  | succ e ih =>
    intro j op T hj hA hR hk hT hB hn
    have hjl : j < l.length := by omega
    have e1 : WC ((j : Int) + 1) ((j + 1 : Nat) : Int) := ⟨by omega, by omega, by omega⟩
    have z1 := hs j hjl
    have z2 := (hB _ _ hT).1
    have z3 := (hB _ _ hT).2
    rw [clash_len] at z2 z3
    have hw := hwi j hjl
    have fin : ∀ (a t : ByteArray), Clash.le bits.data.toList t.data.toList → Clash.Rnd ws (Clash.put T a.data.toList t.data.toList) dn (fun x y => (C0 x y ∨ ∃ a, a < j ∧ ∃ wd, ws[a]? = some wd ∧ Clash.W ahead.data.toList bits.data.toList wd x y) ∨ Clash.W ahead.data.toList bits.data.toList (rdOf ByteArray.empty l (j : Int)).data.toList x y) bits.data.toList →
        a.size ≤ 12 → t.size ≤ b → ∃ op' T', AL (op'.map pk) T' dn ∧ Clash.Rnd ws T' dn (fun x y => C0 x y ∨ ∃ a, a < l.length ∧ ∃ wd, ws[a]? = some wd ∧ Clash.W ahead.data.toList bits.data.toList wd x y) bits.data.toList ∧ (∀ a, dn a = true → T' a = T0 a) ∧ ClB T' b ∧ op'.length ≤ op.length + (l.length - j) ∧
        ∀ r, Ev (fun k => spec_l05Clash.l2 k l op' done) r → Ev (fun k => spec_l05Clash.j5 k l op done (j : Int) ahead bits a t) r := by
      intro a t hle hR2 ha ht
      obtain ⟨op1, hA1, hL1, hE1⟩ := word_step l done op T hR hA hdn hdl (by omega) a t hle ahead ahead bits (j : Int)
      have hkeep : ∀ x, dn x = true → Clash.put T a.data.toList t.data.toList x = T x := fun x hx => hR.keep hle x hx
      obtain ⟨op', T', h1, h2, h3, h4, h5, h6⟩ := ih (j + 1) op1 _ (by omega) hA1 (hR2.weaken (fun x y g => clash_next_word hw g)) (fun x hx => (hkeep x hx).trans (hk x hx)) ((hkeep _ hd).trans hT) (hB.put (by rw [clash_len]; exact ha) (by rw [clash_len]; exact ht)) (by omega)
      refine ⟨op', T', h1, h2, h3, h4, by omega, fun r hr => hE1 r ?_⟩
      rw [e1.eq]
      exact h6 r hr
    obtain ⟨c, hc, hci⟩ := cl_at ahead (rdOf ByteArray.empty l (j : Int)) (by omega) (by omega)
    cases c with
    | true =>
      obtain ⟨x, hx⟩ := hci.1 rfl
      have hzx := congrArg List.length hx
      rw [List.length_append, clash_len, clash_len] at hzx
      have hrest := cl_rest ahead (rdOf ByteArray.empty l (j : Int)) x hx
      obtain ⟨op', T', h1, h2, h3, h4, h5, h6⟩ := fin (ahead.extract (rdOf ByteArray.empty l (j : Int)).size ahead.size) bits (Clash.le_refl _) (by rw [hrest]; exact hR.word_cut hT hne (List.mem_of_getElem? hw) hx) (by rw [← clash_len, hrest]; omega) (by omega)
      refine ⟨op', T', h1, h2, h3, h4, h5, fun r hr => Ev_succ ?_⟩
      simp only [spec_l05Clash.l4, if_pos (show (j : Int) < (l.length : Int) by omega), if_pos (show (0 : Int) ≤ j by omega), hc, Option.bind_some, if_true, if_pos (show (0 : Int) ≤ ((rdOf ByteArray.empty l (j : Int)).size : Int) by omega), if_pos (show ((rdOf ByteArray.empty l (j : Int)).size : Int) ≤ (ahead.size : Int) by omega), Int.toNat_natCast]
      exact h6 r hr
    | false =>
      have hn1 : ∀ x, ahead.data.toList ≠ (rdOf ByteArray.empty l (j : Int)).data.toList ++ x := fun x hx => by have := hci.2 ⟨x, hx⟩; cases this
      obtain ⟨c2, hc2, hci2⟩ := cl_at (rdOf ByteArray.empty l (j : Int)) ahead (by omega) (by omega)
      cases c2 with
      | true =>
        obtain ⟨x, hx⟩ := hci2.1 rfl
        have hzx := congrArg List.length hx
        rw [List.length_append, clash_len, clash_len] at hzx
        have hrest := cl_rest (rdOf ByteArray.empty l (j : Int)) ahead x hx
        have hxs : ((rdOf ByteArray.empty l (j : Int)).extract ahead.size (rdOf ByteArray.empty l (j : Int)).size).size = x.length := by rw [← clash_len, hrest]
        have happ : (bits ++ (rdOf ByteArray.empty l (j : Int)).extract ahead.size (rdOf ByteArray.empty l (j : Int)).size).data.toList = bits.data.toList ++ x := by rw [ByteArray.data_append, Array.toList_append, hrest]
        obtain ⟨op', T', h1, h2, h3, h4, h5, h6⟩ := fin ((rdOf ByteArray.empty l (j : Int)).extract ahead.size (rdOf ByteArray.empty l (j : Int)).size) (bits ++ (rdOf ByteArray.empty l (j : Int)).extract ahead.size (rdOf ByteArray.empty l (j : Int)).size) (by rw [happ]; exact Clash.le_append _ _) (by rw [hrest, happ]; exact hR.word_more hT hne (List.mem_of_getElem? hw) hx hn1) (by rw [hxs]; omega) (by rw [← clash_len, happ, List.length_append, clash_len]; omega)
        refine ⟨op', T', h1, h2, h3, h4, h5, fun r hr => Ev_succ ?_⟩
        simp only [spec_l05Clash.l4, if_pos (show (j : Int) < (l.length : Int) by omega), if_pos (show (0 : Int) ≤ j by omega), hc, hc2, Option.bind_some, Bool.false_eq_true, if_false, if_true, if_pos (show (0 : Int) ≤ (ahead.size : Int) by omega), if_pos (show (ahead.size : Int) ≤ ((rdOf ByteArray.empty l (j : Int)).size : Int) by omega), Int.toNat_natCast, if_pos (show bits.size + ((rdOf ByteArray.empty l (j : Int)).extract ahead.size (rdOf ByteArray.empty l (j : Int)).size).size ≤ 9223372036854775807 by rw [hxs]; omega)]
        exact h6 r hr
      | false =>
        have hn2 : ∀ x, (rdOf ByteArray.empty l (j : Int)).data.toList ≠ ahead.data.toList ++ x := fun x hx => by have := hci2.2 ⟨x, hx⟩; cases this
        obtain ⟨op', T', h1, h2, h3, h4, h5, h6⟩ := ih (j + 1) op T (by omega) hA ((hR.word_none hn1 hn2).weaken (fun x y g => clash_next_word hw g)) hk hT hB (by omega)
        refine ⟨op', T', h1, h2, h3, h4, by omega, fun r hr => Ev_succ ?_⟩
        simp only [spec_l05Clash.l4, if_pos (show (j : Int) < (l.length : Int) by omega), if_pos (show (0 : Int) ≤ j by omega), hc, hc2, Option.bind_some, Bool.false_eq_true, if_false, e1.eq]
        exact h6 r hr

theorem op_all (op : List S48) {p : Clash.S × Clash.S} (h : p ∈ op.map pk) : ∃ j : Nat, j < op.length ∧ pk (rd_T48 op (j : Int)) = p := by
  obtain ⟨x, hx, rfl⟩ := List.mem_map.1 h
  obtain ⟨j, hj, rfl⟩ := List.getElem_of_mem hx
  refine ⟨j, hj, ?_⟩
  unfold rd_T48
  rw [Int.toNat_natCast, List.getD_eq_getElem?_getD, List.getElem?_eq_getElem hj]
  rfl
theorem main_loop (l : List ByteArray) (hl : l.length ≤ 16) (hs : ∀ i : Nat, i < l.length → (rdOf ByteArray.empty l (i : Int)).size ≤ 12) (ws : List Clash.S) (hws : ws = l.map (·.data.toList)) (hM : (Clash.sufs ws).length ≤ 208) (N : Nat) : ∀ (op : List S48) (done : List ByteArray) (T : Clash.S → Option Clash.S) (dn : Clash.S → Bool) (b : Nat),
    AL (op.map pk) T dn → Clash.Inv ws T dn (Clash.All ws T dn) → (∀ a t x u, dn a = true → T a = some t → dn x = false → T x = some u → Clash.le t u) → (∀ s, dn s = true ↔ s ∈ done.map (·.data.toList)) → N = Clash.cnt (Clash.sufs ws) dn → ClB T b →
    b + 12 * N ≤ 12 + 12 * (Clash.sufs ws).length → op.length + 16 * N ≤ 300 + 16 * (Clash.sufs ws).length → done.length + N ≤ (Clash.sufs ws).length → Ev (fun k => spec_l05Clash.l2 k l op done) (clashBs (Clash.clashOf ws).1) ∧ (Clash.clashOf ws).1.length ≤ 10000 := by
  induction N using Nat.strongRecOn with
  | _ N ih =>
    intro op done T dn b hA hI hf hdn hN hB b1 b2 b3
    have hno : dn [] = false := by
      cases e : dn [] with
      | false => rfl
      | true => exact absurd rfl (hI.done _ e).1
    by_cases h0 : op.length = 0
    · have hop : op = [] := List.eq_nil_of_length_eq_zero h0
      subst hop
      have hT : T [] = none := by
        cases e : T [] with
        | none => rfl
        | some t => have := hA.all _ _ hno e; cases this
      have hans := Clash.exit_ans hI (fun x u hd _ hu => by have := hA.all _ _ hd hu; cases this)
      rw [hT] at hans
      rw [Clash.clashOf_eq hans]
      refine ⟨Ev_succ ?_, by simp⟩
      simp only [spec_l05Clash.l2]
      exact Ev.now _
    · obtain ⟨b', hb', hmin, hgo⟩ := best_loop l op done (by omega) (op.length - 1) 0 1 (by omega) (by omega) (fun j hj => by
        obtain rfl : j = 0 := by omega
        exact Clash.le_refl _)
      have wrap : ∀ X : ByteArray, Ev (fun k => spec_l05Clash.l3 k l op done (b' : Int) (op.length : Int)) X → Ev (fun k => spec_l05Clash.l2 k l op done) X := fun X hX => by
        refine Ev_succ ?_
        simp only [spec_l05Clash.l2, if_pos (show (op.length : Int) > 0 by omega)]
        exact hgo _ hX
      have e1 : WC ((b' : Int) + 1) ((b' + 1 : Nat) : Int) := ⟨by omega, by omega, by omega⟩
      have q1 : ([] ++ op.take b').length + (op.drop (b' + 1)).length < 4398046511104 := by rw [List.nil_append, List.length_take, List.length_drop]; omega
      have q2 : ([] : List S48).length + (op.take b').length < 4398046511104 := by rw [List.length_nil, List.length_take]; omega
      have hx := hA.on _ (op_mem op b' hb')
      have hall : ∀ s u, dn s = false → T s = some u → Clash.le (pk (rd_T48 op (b' : Int))).2 u := fun s u hd hu => by
        obtain ⟨j, hj, e⟩ := op_all op (hA.all s u hd hu)
        have := hmin j hj
        rw [e] at this
        exact this
      obtain ⟨X, hX⟩ : ∃ X, X = rd_T48 op (b' : Int) := ⟨_, rfl⟩
      have unf : ∀ R : ByteArray, Ev (fun k => if X.f0.toList = ([] : List UInt8) then some X.f1 else if done.length < 8796093022208 then spec_l05Clash.l4 k l (([] ++ op.take b') ++ op.drop (b' + 1)) (done ++ [X.f0]) 0 X.f0 X.f1 else none) R → Ev (fun k => spec_l05Clash.l3 k l op done (b' : Int) (op.length : Int)) R := fun R hR => by
        refine Ev_succ ?_
        simp only [spec_l05Clash.l3, if_neg (show ¬ (op.length : Int) < (op.length : Int) by omega), if_pos (show (0 : Int) ≤ b' by omega), if_pos (show (b' : Int) < (op.length : Int) by omega), Option.bind_some, if_pos (show (b' : Int) ≤ (op.length : Int) by omega), Int.toNat_natCast, e1.eq, if_pos (show (0 : Int) ≤ ((b' + 1 : Nat) : Int) by omega), if_pos (show ((b' + 1 : Nat) : Int) ≤ (op.length : Int) by omega), if_pos q1, if_pos q2, ← hX]
        exact hR
      rw [← hX] at hx hall
      by_cases he : X.f0.toList = []
      · simp only [if_pos he] at unf
        have he2 : (pk X).1 = [] := by show X.f0.data.toList = []; rw [← Lib.toList_data]; exact he
        rw [he2] at hx
        have hans := Clash.exit_ans hI (fun x u hd _ hu => ⟨_, hx.2, hall x u hd hu⟩)
        rw [hx.2] at hans
        rw [Clash.clashOf_eq hans]
        have : clashBs ((some (pk X).2).getD []) = X.f1 := cl_ext rfl
        rw [this]
        have hXb := (hB _ _ hx.2).2
        exact ⟨wrap _ (unf _ (Ev.now _)), by show (pk X).2.length ≤ 10000; omega⟩
      · simp only [if_neg he, if_pos (show done.length < 8796093022208 by omega), List.nil_append] at unf
        have hne : (pk X).1 ≠ [] := fun g => he (by rw [Lib.toList_data]; exact g)
        have hlt := Clash.cnt_lt dn (pk X).1 hx.1 _ (Clash.mem_sufs (hI.sound _ _ hx.2).suffix)
        have hA1 : AL ((op.take b' ++ op.drop (b' + 1)).map pk) T (fun x => dn x || decide (x = (pk X).1)) := by
          rw [List.map_append, List.map_take, List.map_drop]
          have h := hA
          rw [op_split op b' hb', ← hX] at h
          exact h.erase
        have hdn' : ∀ s, (dn s || decide (s = (pk X).1)) = true ↔ s ∈ (done ++ [X.f0]).map (·.data.toList) := fun s => by
          rw [List.map_append, List.mem_append, List.map_singleton, List.mem_singleton, Bool.or_eq_true, decide_eq_true_eq, hdn s]
          exact Iff.rfl
        have R0 := Clash.Rnd.start hI hf hne hx.2 hx.1 hall
        have hXb := (hB _ _ hx.2).2
        obtain ⟨op', T', h1, h2, h3, h4, h5, h6⟩ := words_loop l hl hs ws hws (done ++ [X.f0]) (by rw [List.length_append, List.length_singleton]; omega) X.f0 X.f1 hne (Clash.All ws T dn) T _ hdn' (by simp [pk]) (b + 12) (by omega) (by
            have : X.f1.size = (pk X).2.length := (clash_len X.f1).symm
            omega) l.length 0 _ T (by omega) hA1 (R0.weaken (fun x y g => by
            rcases g with g | ⟨a, ha, _⟩
            · exact g
            · omega)) (fun _ _ => rfl) hx.2 (hB.mono (by omega)) (by rw [List.length_append, List.length_take, List.length_drop]; omega)
        have hwl : ws.length = l.length := by rw [hws, List.length_map]
        have hfin := Clash.Rnd.finish (best := (pk X).1) (t0 := (pk X).2) (h2.weaken (fun x y g => by
          rcases g with g | ⟨wd, hw, g⟩
          · exact .inl g
          · obtain ⟨a, ha, e⟩ := List.getElem_of_mem hw
            exact .inr ⟨a, by omega, wd, by rw [← e]; exact List.getElem?_eq_getElem ha, g⟩)) h3 hx.2
        rw [List.length_append, List.length_take, List.length_drop] at h5
        have hih := ih _ (by omega) op' (done ++ [X.f0]) T' _ (b + 12) h1 hfin h2.apart hdn' rfl h4 (by omega) (by omega) (by rw [List.length_append, List.length_singleton]; omega)
        exact ⟨wrap _ (unf _ (h6 _ hih.1)), hih.2⟩
theorem clash_ev (l : List ByteArray) (hl : l.length ≤ 16) (hs : ∀ i : Nat, i < l.length → (rdOf ByteArray.empty l (i : Int)).size ≤ 12) : Ev (fun k => spec_l05Clash.f k l) (clashBs (Clash.clashOf (l.map (·.data.toList))).1) ∧ (Clash.clashOf (l.map (·.data.toList))).1.length ≤ 10000 := by
  obtain ⟨ws, hws⟩ : ∃ ws : List Clash.S, ws = l.map (·.data.toList) := ⟨_, rfl⟩
  rw [← hws]
  have hwl : ws.length = l.length := by rw [hws, List.length_map]
  have hM : (Clash.sufs ws).length ≤ 208 := by
    have := Clash.sufs_length (ws := ws) 12 (by
      rw [hws]; intro x hx
      obtain ⟨y, hy, rfl⟩ := List.mem_map.1 hx
      obtain ⟨j, hj, rfl⟩ := List.getElem_of_mem hy
      have := hs j hj
      unfold rdOf at this
      rw [Int.toNat_natCast, List.getD_eq_getElem?_getD, List.getElem?_eq_getElem hj] at this
      rw [clash_len]; exact this)
    omega
  obtain ⟨op, T, h1, h2, h3, h4, h5⟩ := first_loop l hl hs ws hws l.length 0 [] (fun _ => none) (by omega) ⟨fun p hp => (by cases hp), fun s t _ h => (by cases h), List.Pairwise.nil⟩ ⟨fun s t h => (by cases h), fun s h => (by cases h), fun s t h => absurd h (clashC_zero ws s t)⟩ (fun s t h => (by cases h)) (by simp)
  have hc := Clash.cnt_le_length (Clash.sufs ws) (fun _ => false)
  have hml := main_loop l hl hs ws hws hM _ op [] T (fun _ => false) 12 h1 (h2.weaken (fun x y g => by
    rcases g with g | ⟨a, u, ha, _⟩
    · rw [← hwl]; exact clashC_base g
    · cases ha)) (fun a t x u ha => by cases ha) (fun s => by simp) rfl h3 (by omega) (by omega) (by rw [List.length_nil]; omega)
  exact ⟨h5 _ hml.1, hml.2⟩
theorem reach_ne {ws : List Clash.S} (h : ∀ w ∈ ws, w ≠ []) {s t : Clash.S} (hr : Clash.Reach ws s t) : t ≠ [] := by
  induction hr with
  | base hb =>
    obtain ⟨i, k, _, u, _, hk, _⟩ := hb
    exact h _ (List.mem_of_getElem? hk)
  | step _ _ hs ih =>
    rcases hs with ⟨w, _, _, rfl⟩ | ⟨w, _, _, rfl⟩
    · exact ih
    · intro e; exact ih (List.append_eq_nil_iff.1 e).1
/-- both sides of a clash: the bits, and whether there are any. -/
theorem clash_both (l : List ByteArray) (hc : CodeOk l) : ∃ (r : ByteArray) (b : Bool), Ev (fun k => spec_l05Clash.f k l) r ∧ impl_clash.f l = some (r, b) ∧ (r.toList = [] ↔ b = false) ∧ r.size ≤ 10000 ∧ (b = true → Clash.Reach (l.map (·.data.toList)) [] r.data.toList) := by
  have hl : l.length ≤ 16 := by have := hc.1.2; omega
  have hs : ∀ i : Nat, i < l.length → (rdOf ByteArray.empty l (i : Int)).size ≤ 12 := fun i hi => by have := (hc.2 i (by omega) (by omega)).1.2; omega
  have hmem : ∀ x ∈ l, 1 ≤ x.size ∧ x.size ≤ 12 := fun x hx => by
    obtain ⟨j, hj, rfl⟩ := List.getElem_of_mem hx
    have := (hc.2 j (by omega) (by omega)).1
    unfold rdOf at this
    rw [Int.toNat_natCast, List.getD_eq_getElem?_getD, List.getElem?_eq_getElem hj] at this
    simp only [Option.getD_some] at this
    omega
  have hev := clash_ev l hl hs
  refine ⟨_, _, hev.1, by unfold impl_clash.f clashF; rw [if_pos ⟨hl, fun x hx => (hmem x hx).2⟩], ?_⟩
  rw [Lib.toList_data, clashBs_data, clashBs_size]
  have hne : ∀ w ∈ l.map (·.data.toList), w ≠ [] := fun w hw e => by
    obtain ⟨x, hx, rfl⟩ := List.mem_map.1 hw
    have := (hmem x hx).1
    rw [← clash_len, e] at this
    simp at this
  by_cases hex : ∃ p : Clash.S × Bool, Clash.Ans (l.map (·.data.toList)) p.1 p.2
  · obtain ⟨⟨p, q⟩, ha⟩ := hex
    have hlen := hev.2
    rw [Clash.clashOf_eq ha] at hlen ⊢
    rcases ha with ⟨h1, h2, _⟩ | ⟨h1, h2, _⟩
    · simp only at h1 h2; subst h1; exact ⟨⟨fun e => absurd e (reach_ne hne h2), fun e => by cases e⟩, hlen, fun _ => h2⟩
    · simp only at h1 h2; subst h1; subst h2; exact ⟨⟨fun _ => rfl, fun _ => rfl⟩, hlen, fun e => by cases e⟩
  · unfold Clash.clashOf
    rw [dif_neg hex]
    exact ⟨⟨fun _ => rfl, fun _ => rfl⟩, by simp, fun e => by cases e⟩

theorem at_eq (a b : ByteArray) (i : Int) (h0 : 0 ≤ i) (hi : i ≤ a.size) (ha : (a.size : Int) ≤ 1048576) (hb : (b.size : Int) ≤ 1048576) :
    spec_l01At.f a b i = some (decide (i + b.size ≤ (a.size : Int)) && ((a.extract i.toNat (i + b.size).toNat).toList == b.toList)) := by
  simp (disch := omega) only [spec_l01At.f, w64]
  by_cases h : i + (b.size : Int) ≤ (a.size : Int)
  · simp only [if_pos h, if_pos h0, if_pos (show i ≤ i + (b.size : Int) by omega), decide_eq_true h, Bool.true_and]
  · simp only [if_neg h, decide_eq_false h, Bool.false_and]
theorem hasPrefix_eq (a b : ByteArray) : strings_HasPrefix.f a b = some (decide ((b.size : Int) ≤ (a.size : Int)) && ((a.extract 0 b.size).toList == b.toList)) := by
  simp only [strings_HasPrefix.f, stringslite_HasPrefix.f]
  by_cases h : (a.size : Int) ≥ (b.size : Int)
  · simp only [if_pos h, if_pos (show 0 ≤ (b.size : Int) by omega), Option.bind_some, Int.toNat_natCast, decide_eq_true (show (b.size : Int) ≤ (a.size : Int) from h), Bool.true_and]
  · simp only [if_neg h, Option.bind_some, decide_eq_false (show ¬ (b.size : Int) ≤ (a.size : Int) from h), Bool.false_and]
theorem at_prefix (a b : ByteArray) (i : Int) (h0 : 0 ≤ i) (hi : i ≤ a.size) (ha : (a.size : Int) ≤ 1048576) (hb : (b.size : Int) ≤ 1048576) :
    ∃ c, spec_l01At.f a b i = some c ∧ strings_HasPrefix.f (a.extract i.toNat a.size) b = some c ∧ (c = true → i + b.size ≤ (a.size : Int)) := by
  refine ⟨_, at_eq a b i h0 hi ha hb, ?_, fun h => by simp only [Bool.and_eq_true, decide_eq_true_eq] at h; exact h.1⟩
  rw [hasPrefix_eq]
  have e1 : (((a.extract i.toNat a.size).size : Nat) : Int) = a.size - i := by rw [ByteArray.size_extract]; omega
  have e2 : decide ((b.size : Int) ≤ (((a.extract i.toNat a.size).size : Nat) : Int)) = decide (i + b.size ≤ (a.size : Int)) := by
    rw [e1]; exact decide_eq_decide.2 ⟨fun h => by omega, fun h => by omega⟩
  rw [e2]
  by_cases h : i + (b.size : Int) ≤ (a.size : Int)
  · have e3 : (a.extract i.toNat a.size).extract 0 b.size = a.extract i.toNat (i + b.size).toNat := by
      rw [ByteArray.extract_extract]
      congr 1 <;> omega
    rw [e3]
  · simp only [decide_eq_false h, Bool.false_and]

theorem l00Min_eq (a b : Int) : spec_l00Min.f a b = some (mn a b) := by
  unfold spec_l00Min.f mn
  by_cases h : a < b
  · rw [if_pos h, if_neg (by omega)]
  · rw [if_neg h]
    by_cases g : b < a
    · rw [if_pos g]
    · rw [if_neg g, show a = b by omega]

inductive Wd (ws : List Clash.S) : Clash.S → Prop
  | nil : Wd ws []
  | cons {w x : Clash.S} : w ∈ ws → Wd ws x → Wd ws (w ++ x)
theorem Wd.snoc {ws : List Clash.S} {x w : Clash.S} (h : Wd ws x) (hw : w ∈ ws) : Wd ws (x ++ w) := by
  induction h with
  | nil =>
    have := Wd.cons hw Wd.nil
    rw [List.append_nil] at this
    exact this
  | cons hv _ ih => rw [List.append_assoc]; exact Wd.cons hv ih
theorem Wd.append {ws : List Clash.S} {x y : Clash.S} (h : Wd ws x) (h' : Wd ws y) : Wd ws (x ++ y) := by
  induction h with
  | nil => exact h'
  | cons hv _ ih => rw [List.append_assoc]; exact Wd.cons hv ih
theorem reach_wd {ws : List Clash.S} {s t : Clash.S} (h : Clash.Reach ws s t) : Wd ws t ∧ ∃ p, Wd ws p ∧ t = p ++ s := by
  induction h with
  | base hb =>
    obtain ⟨i, k, _, u, hi, hk, e⟩ := hb
    refine ⟨?_, u, ?_, e⟩
    · have := Wd.cons (List.mem_of_getElem? hk) Wd.nil
      rw [List.append_nil] at this
      exact this
    · have := Wd.cons (List.mem_of_getElem? hi) Wd.nil
      rw [List.append_nil] at this
      exact this
  | step _ _ hs ih =>
    obtain ⟨h1, p, h2, h3⟩ := ih
    rcases hs with ⟨w, hw, ha, rfl⟩ | ⟨w, hw, ha, rfl⟩
    · exact ⟨h1, p ++ w, h2.snoc hw, by rw [h3, ha, List.append_assoc]⟩
    · refine ⟨?_, _, h1, rfl⟩
      rw [h3, List.append_assoc, ← ha]
      exact h2.snoc hw
theorem Wd.split {ws : List Clash.S} (hne : ∀ w ∈ ws, w ≠ []) {s : Clash.S} (h : Wd ws s) (hs : s ≠ []) : ∃ w ∈ ws, ∃ x, s = w ++ x ∧ Wd ws x := by
  cases h with
  | nil => exact absurd rfl hs
  | cons hw hx => exact ⟨_, hw, _, rfl, hx⟩
theorem at_sem (a b : ByteArray) (i : Nat) (hi : i ≤ a.size) (ha : (a.size : Int) ≤ 1048576) (hb : (b.size : Int) ≤ 1048576) :
    ∃ c, spec_l01At.f a b (i : Int) = some c ∧ strings_HasPrefix.f (a.extract i a.size) b = some c ∧ (c = true → i + b.size ≤ a.size) ∧ (c = true ↔ ∃ x, a.data.toList.drop i = b.data.toList ++ x) := by
  obtain ⟨c, h1, h2, h3⟩ := at_prefix a b (i : Int) (by omega) (by omega) ha hb
  rw [Int.toNat_natCast] at h2
  have h4 := at_eq a b (i : Int) (by omega) (by omega) ha hb
  rw [h1] at h4
  have h5 := Option.some.inj h4
  refine ⟨c, h1, h2, fun g => by have := h3 g; omega, ?_⟩
  rw [h5, Bool.and_eq_true, decide_eq_true_eq, beq_iff_eq, toList_inj, Int.toNat_natCast, show ((i : Int) + (b.size : Int)).toNat = i + b.size by omega]
  constructor
  · rintro ⟨g1, g2⟩
    have := congrArg (fun z : ByteArray => z.data.toList) g2
    simp only [cl_extract] at this
    rw [show i + b.size - i = b.size by omega] at this
    exact ⟨(a.data.toList.drop i).drop b.size, by rw [← this, List.take_append_drop]⟩
  · rintro ⟨x, hx⟩
    have hl := congrArg List.length hx
    rw [List.length_drop, List.length_append, clash_len, clash_len] at hl
    by_cases hbz : b.size = 0
    · refine ⟨by omega, ?_⟩
      apply cl_ext
      rw [cl_extract, show i + b.size - i = b.size by omega, hx, ← clash_len b, List.take_left]
    · refine ⟨by omega, ?_⟩
      apply cl_ext
      rw [cl_extract, show i + b.size - i = b.size by omega, hx, ← clash_len b, List.take_left]
theorem rd_set' (l : List Int) (i : Nat) (v : Int) (h : i < l.length) (q : Nat) : rd (l.set i v) (q : Int) = if q = i then v else rd l (q : Int) := by
  unfold rd
  rw [Int.toNat_natCast, List.getD_eq_getElem?_getD, List.getD_eq_getElem?_getD, List.getElem?_set]
  by_cases e : q = i
  · subst e; simp [h]
  · rw [if_neg (fun g => e g.symm), if_neg e]
structure WW (ws : List Clash.S) (s : Clash.S) (m : Int) (w : List Int) (i : Nat) (P : Prop) : Prop where
  len : w.length = s.length + 1
  rng : ∀ q : Nat, q ≤ s.length → 0 ≤ rd w (q : Int) ∧ rd w (q : Int) ≤ m
  up : ∀ q : Nat, i < q → q ≤ s.length → (rd w (q : Int) > 0 ↔ Wd ws (s.drop q))
  here : rd w (i : Int) > 0 ↔ P
  low : ∀ q : Nat, q < i → rd w (q : Int) = 0
theorem WW.step {ws : List Clash.S} {s : Clash.S} {m : Int} {w : List Int} {i : Nat} {P : Prop} (h : WW ws s m w i P) (hm : 1 ≤ m ∧ m ≤ 1000000000000000) (hi : i < s.length) (n : Nat) (hn : 1 ≤ n) (hl : i + n ≤ s.length) :
    WW ws s m (w.set i (mn m (wrap64 (rd w (i : Int) + rd w ((i + n : Nat) : Int))))) i (P ∨ Wd ws (s.drop (i + n))) := by
  have r1 := h.rng i (by omega)
  have r2 := h.rng (i + n) hl
  have e1 : wrap64 (rd w (i : Int) + rd w ((i + n : Nat) : Int)) = rd w (i : Int) + rd w ((i + n : Nat) : Int) := w64 (by omega) (by omega)
  have hset := fun q => rd_set' w i (mn m (rd w (i : Int) + rd w ((i + n : Nat) : Int))) (by rw [h.len]; omega) q
  have hmn : 0 ≤ mn m (rd w (i : Int) + rd w ((i + n : Nat) : Int)) ∧ mn m (rd w (i : Int) + rd w ((i + n : Nat) : Int)) ≤ m ∧ (mn m (rd w (i : Int) + rd w ((i + n : Nat) : Int)) > 0 ↔ (rd w (i : Int) > 0 ∨ rd w ((i + n : Nat) : Int) > 0)) := by
    unfold mn
    split <;> refine ⟨by omega, by omega, ⟨fun g => by omega, fun g => by omega⟩⟩
  rw [e1]
  refine ⟨by rw [List.length_set]; exact h.len, fun q hq => ?_, fun q h1 h2 => ?_, ?_, fun q hq => ?_⟩
  · rw [hset q]; split
    · exact ⟨hmn.1, hmn.2.1⟩
    · exact h.rng q hq
  · rw [hset q, if_neg (by omega)]; exact h.up q h1 h2
  · rw [hset i, if_pos rfl, hmn.2.2, h.here, h.up (i + n) (by omega) hl]
  · rw [hset q, if_neg (by omega)]; exact h.low q hq
theorem WW.iff {ws : List Clash.S} {s : Clash.S} {m : Int} {w : List Int} {i : Nat} {P Q : Prop} (h : WW ws s m w i P) (g : P ↔ Q) : WW ws s m w i Q := ⟨h.len, h.rng, h.up, h.here.trans g, h.low⟩
theorem WW.down {ws : List Clash.S} {s : Clash.S} {m : Int} {w : List Int} {i : Nat} {P : Prop} (h : WW ws s m w (i + 1) P) (hi : i + 1 ≤ s.length) (g : P ↔ Wd ws (s.drop (i + 1))) : WW ws s m w i False where
  len := h.len
  rng := h.rng
  up q h1 h2 := by
    by_cases e : q = i + 1
    · subst e; exact h.here.trans g
    · exact h.up q (by omega) h2
  here := by rw [h.low i (by omega)]; simp
  low q hq := h.low q (by omega)
/-- what the word a asks at place i. -/
def Cnd (l : List ByteArray) (ws : List Clash.S) (s : ByteArray) (i : Nat) (a : Nat) : Prop := (∃ x, s.data.toList.drop i = (rdOf ByteArray.empty l (a : Int)).data.toList ++ x) ∧ Wd ws (s.data.toList.drop (i + (rdOf ByteArray.empty l (a : Int)).size))
theorem wd_cnd (l : List ByteArray) (ws : List Clash.S) (hws : ws = l.map (·.data.toList)) (hne : ∀ w ∈ ws, w ≠ []) (s : ByteArray) (i : Nat) (hi : i < s.size) : (∃ a, a < l.length ∧ Cnd l ws s i a) ↔ Wd ws (s.data.toList.drop i) := by
  have key : ∀ a x, s.data.toList.drop i = (rdOf ByteArray.empty l (a : Nat)).data.toList ++ x → s.data.toList.drop (i + (rdOf ByteArray.empty l (a : Nat)).size) = x := fun a x h => by
    rw [← List.drop_drop, h, ← clash_len, List.drop_left]
  constructor
  · rintro ⟨a, ha, ⟨x, hx⟩, hw⟩
    rw [key a x hx] at hw
    rw [hx]
    refine Wd.cons ?_ hw
    rw [hws]
    exact List.mem_map.2 ⟨_, rs_mem l a (by omega) (by omega), rfl⟩
  · intro h
    obtain ⟨w, hw, x, hx, hX⟩ := h.split hne (fun e => by have := congrArg List.length e; rw [List.length_drop, clash_len] at this; simp at this; omega)
    rw [hws] at hw
    obtain ⟨y, hy, rfl⟩ := List.mem_map.1 hw
    obtain ⟨a, ha, rfl⟩ := List.getElem_of_mem hy
    have e : rdOf ByteArray.empty l (a : Int) = l[a] := by
      unfold rdOf
      rw [Int.toNat_natCast, List.getD_eq_getElem?_getD, List.getElem?_eq_getElem ha]; rfl
    refine ⟨a, ha, ⟨x, by rw [e]; exact hx⟩, ?_⟩
    rw [key a x (by rw [e]; exact hx)]
    exact hX
theorem ways_sem (l : List ByteArray) (ws : List Clash.S) (hws : ws = l.map (·.data.toList)) (hne : ∀ w ∈ ws, w ≠ []) (hl : l.length ≤ 16) (hs : ∀ i : Nat, i < l.length → 1 ≤ (rdOf ByteArray.empty l (i : Int)).size ∧ (rdOf ByteArray.empty l (i : Int)).size ≤ 12) (s : ByteArray) (hz : s.size ≤ 100000) (m : Int) (hm : 1 ≤ m ∧ m ≤ 1000000000000000) (e : Nat) : ∀ w : List Int, e ≤ s.size → (e < s.size → WW ws s.data.toList m w e (Wd ws (s.data.toList.drop e))) → (e = s.size → WW ws s.data.toList m w e True) →
    ∃ r, WW ws s.data.toList m r 0 (Wd ws (s.data.toList.drop 0)) ∧ Ev (fun k => spec_l05Ways.l0 k l s m w ((e : Int) - 1)) r := by
  induction e with
  | zero =>
    intro w he h1 h2
    refine ⟨w, ?_, Ev_succ ?_⟩
    · by_cases g : 0 < s.size
      · exact h1 g
      · refine (h2 (by omega)).iff ?_
        have : s.data.toList = [] := List.eq_nil_of_length_eq_zero (by rw [clash_len]; omega)
        rw [this]
        exact ⟨fun _ => .nil, fun _ => trivial⟩
    · simp only [spec_l05Ways.l0, if_neg (show ¬ ((0 : Nat) : Int) - 1 ≥ 0 by omega)]; exact Ev.now _
  | succ e ih =>
    intro w he h1 h2
    have hse : s.data.toList.length = s.size := clash_len s
    have hdown : WW ws s.data.toList m w e False := by
      by_cases g : e + 1 < s.size
      · exact (h1 g).down (by omega) Iff.rfl
      · refine (h2 (by omega)).down (by omega) ?_
        rw [List.drop_of_length_le (by omega)]
        exact ⟨fun _ => .nil, fun _ => trivial⟩
    have e1 : WC ((e : Int) - 1) ((e : Int) - 1) := ⟨rfl, by omega, by omega⟩
    have inner : ∀ (d j : Nat) (w : List Int), j + d = l.length → WW ws s.data.toList m w e (∃ a, a < j ∧ Cnd l ws s e a) → ∃ r, WW ws s.data.toList m r 0 (Wd ws (s.data.toList.drop 0)) ∧ Ev (fun k => spec_l05Ways.l1 k l s m w (e : Int) (j : Int)) r := by
      intro d
      induction d with
      | zero =>
        intro j w hj hW
        obtain rfl : j = l.length := by omega
        obtain ⟨r, hr, hE⟩ := ih w (by omega) (fun g => hW.iff (wd_cnd l ws hws hne s e g)) (fun g => by omega)
        refine ⟨r, hr, Ev_succ ?_⟩
        simp only [spec_l05Ways.l1, if_neg (show ¬ (l.length : Int) < (l.length : Int) by omega), e1.eq]
        exact hE
      | succ d ihd =>
        intro j w hj hW
        have hjl : j < l.length := by omega
        have e2 : WC ((j : Int) + 1) ((j + 1 : Nat) : Int) := ⟨by omega, by omega, by omega⟩
        have hzj := hs j hjl
        obtain ⟨c, c1, c2, c3, c4⟩ := at_sem s (rdOf ByteArray.empty l (j : Int)) e (by omega) (by omega) (by omega)
        have hnext : ∀ Q : Prop, (Q ↔ Cnd l ws s e j) → ((∃ a, a < j ∧ Cnd l ws s e a) ∨ Q ↔ ∃ a, a < j + 1 ∧ Cnd l ws s e a) := fun Q hQ => by
          constructor
          · rintro (⟨a, ha, h⟩ | h)
            · exact ⟨a, by omega, h⟩
            · exact ⟨j, by omega, hQ.1 h⟩
          · rintro ⟨a, ha, h⟩
            by_cases g : a = j
            · subst g; exact .inr (hQ.2 h)
            · exact .inl ⟨a, by omega, h⟩
        cases c with
        | true =>
          have c5 := c3 rfl
          have e3 : WC ((e : Int) + ((rdOf ByteArray.empty l (j : Int)).size : Int)) ((e + (rdOf ByteArray.empty l (j : Int)).size : Nat) : Int) := ⟨by omega, by omega, by omega⟩
          obtain ⟨r, hr, hE⟩ := ihd (j + 1) _ (by omega) ((hW.step hm (by omega) (rdOf ByteArray.empty l (j : Int)).size hzj.1 (by omega)).iff (hnext _ ⟨fun g => ⟨c4.1 rfl, g⟩, fun g => g.2⟩))
          refine ⟨r, hr, Ev_succ ?_⟩
          have hlen := hW.len
          simp only [spec_l05Ways.l1, if_pos (show (j : Int) < (l.length : Int) by omega), if_pos (show (0 : Int) ≤ j by omega), c1, Option.bind_some, if_true, if_pos (show (0 : Int) ≤ e by omega), if_pos (show (e : Int) < (w.length : Int) by omega), e3.eq, e2.eq, if_pos (show (0 : Int) ≤ ((e + (rdOf ByteArray.empty l (j : Int)).size : Nat) : Int) by omega), if_pos (show ((e + (rdOf ByteArray.empty l (j : Int)).size : Nat) : Int) < (w.length : Int) by omega), l00Min_eq, Int.toNat_natCast]
          exact hE
        | false =>
          obtain ⟨r, hr, hE⟩ := ihd (j + 1) w (by omega) (hW.iff (((show (∃ a, a < j ∧ Cnd l ws s e a) ↔ (∃ a, a < j ∧ Cnd l ws s e a) ∨ False by simp)).trans (hnext _ ⟨fun g => g.elim, fun g => by have := c4.2 g.1; cases this⟩)))
          refine ⟨r, hr, Ev_succ ?_⟩
          simp only [spec_l05Ways.l1, if_pos (show (j : Int) < (l.length : Int) by omega), if_pos (show (0 : Int) ≤ j by omega), c1, Option.bind_some, Bool.false_eq_true, if_false, e2.eq]
          exact hE
    obtain ⟨r, hr, hE⟩ := inner l.length 0 w (by omega) (hdown.iff ⟨fun g => g.elim, fun ⟨a, ha, _⟩ => by omega⟩)
    refine ⟨r, hr, Ev_succ ?_⟩
    simp only [spec_l05Ways.l0, show (((e + 1 : Nat) : Int) - 1) = (e : Int) by omega, if_pos (show (e : Int) ≥ 0 by omega)]
    exact hE
theorem ends_sem (l : List ByteArray) (ws : List Clash.S) (hws : ws = l.map (·.data.toList)) (hne : ∀ w ∈ ws, w ≠ []) (hl : l.length ≤ 16) (hs : ∀ i : Nat, i < l.length → 1 ≤ (rdOf ByteArray.empty l (i : Int)).size ∧ (rdOf ByteArray.empty l (i : Int)).size ≤ 12) (s : ByteArray) (hz : s.size ≤ 100000) (e : Nat) : ∀ w : List Int, e ≤ s.size → (e < s.size → WW ws s.data.toList 1000000000000000 w e (Wd ws (s.data.toList.drop e))) → (e = s.size → WW ws s.data.toList 1000000000000000 w e True) →
    ∃ r, WW ws s.data.toList 1000000000000000 r 0 (Wd ws (s.data.toList.drop 0)) ∧ Ev (fun k => impl_endings.l0 k l s w ((e : Int) - 1)) r := by
  induction e with
  | zero =>
    intro w he h1 h2
    refine ⟨w, ?_, Ev_succ ?_⟩
    · by_cases g : 0 < s.size
      · exact h1 g
      · refine (h2 (by omega)).iff ?_
        have : s.data.toList = [] := List.eq_nil_of_length_eq_zero (by rw [clash_len]; omega)
        rw [this]
        exact ⟨fun _ => .nil, fun _ => trivial⟩
    · simp only [impl_endings.l0, if_neg (show ¬ ((0 : Nat) : Int) - 1 ≥ 0 by omega)]; exact Ev.now _
  | succ e ih =>
    intro w he h1 h2
    have hse : s.data.toList.length = s.size := clash_len s
    have hdown : WW ws s.data.toList 1000000000000000 w e False := by
      by_cases g : e + 1 < s.size
      · exact (h1 g).down (by omega) Iff.rfl
      · refine (h2 (by omega)).down (by omega) ?_
        rw [List.drop_of_length_le (by omega)]
        exact ⟨fun _ => .nil, fun _ => trivial⟩
    have e1 : WC ((e : Int) - 1) ((e : Int) - 1) := ⟨rfl, by omega, by omega⟩
    have inner : ∀ (d j : Nat) (w : List Int), j + d = l.length → WW ws s.data.toList 1000000000000000 w e (∃ a, a < j ∧ Cnd l ws s e a) → ∃ r, WW ws s.data.toList 1000000000000000 r 0 (Wd ws (s.data.toList.drop 0)) ∧ Ev (fun k => impl_endings.l1 k l s w (e : Int) l l.length (j : Int)) r := by
      intro d
      induction d with
      | zero =>
        intro j w hj hW
        obtain rfl : j = l.length := by omega
        obtain ⟨r, hr, hE⟩ := ih w (by omega) (fun g => hW.iff (wd_cnd l ws hws hne s e g)) (fun g => by omega)
        refine ⟨r, hr, Ev_succ ?_⟩
        simp only [impl_endings.l1, if_neg (show ¬ (l.length : Int) < (l.length : Int) by omega), e1.eq]
        exact hE
      | succ d ihd =>
        intro j w hj hW
        have hjl : j < l.length := by omega
        have e2 : WC ((j : Int) + 1) ((j + 1 : Nat) : Int) := ⟨by omega, by omega, by omega⟩
        have hzj := hs j hjl
        obtain ⟨c, c1, c2, c3, c4⟩ := at_sem s (rdOf ByteArray.empty l (j : Int)) e (by omega) (by omega) (by omega)
        have hnext : ∀ Q : Prop, (Q ↔ Cnd l ws s e j) → ((∃ a, a < j ∧ Cnd l ws s e a) ∨ Q ↔ ∃ a, a < j + 1 ∧ Cnd l ws s e a) := fun Q hQ => by
          constructor
          · rintro (⟨a, ha, h⟩ | h)
            · exact ⟨a, by omega, h⟩
            · exact ⟨j, by omega, hQ.1 h⟩
          · rintro ⟨a, ha, h⟩
            by_cases g : a = j
            · subst g; exact .inr (hQ.2 h)
            · exact .inl ⟨a, by omega, h⟩
        cases c with
        | true =>
          have c5 := c3 rfl
          have e3 : WC ((e : Int) + ((rdOf ByteArray.empty l (j : Int)).size : Int)) ((e + (rdOf ByteArray.empty l (j : Int)).size : Nat) : Int) := ⟨by omega, by omega, by omega⟩
          obtain ⟨r, hr, hE⟩ := ihd (j + 1) _ (by omega) ((hW.step ⟨by omega, by omega⟩ (by omega) (rdOf ByteArray.empty l (j : Int)).size hzj.1 (by omega)).iff (hnext _ ⟨fun g => ⟨c4.1 rfl, g⟩, fun g => g.2⟩))
          refine ⟨r, hr, Ev_succ ?_⟩
          have hlen := hW.len
          simp only [impl_endings.l1, if_pos (show (j : Int) < (l.length : Int) by omega), if_pos (show (0 : Int) ≤ j by omega), if_pos (show (0 : Int) ≤ e by omega), if_pos (show (e : Int) ≤ (s.size : Int) by omega), Int.toNat_natCast, c2, Option.bind_some, if_true, if_pos (show (e : Int) < (w.length : Int) by omega), e3.eq, e2.eq, if_pos (show (0 : Int) ≤ ((e + (rdOf ByteArray.empty l (j : Int)).size : Nat) : Int) by omega), if_pos (show ((e + (rdOf ByteArray.empty l (j : Int)).size : Nat) : Int) < (w.length : Int) by omega)]
          exact hE
        | false =>
          obtain ⟨r, hr, hE⟩ := ihd (j + 1) w (by omega) (hW.iff (((show (∃ a, a < j ∧ Cnd l ws s e a) ↔ (∃ a, a < j ∧ Cnd l ws s e a) ∨ False by simp)).trans (hnext _ ⟨fun g => g.elim, fun g => by have := c4.2 g.1; cases this⟩)))
          refine ⟨r, hr, Ev_succ ?_⟩
          simp only [impl_endings.l1, if_pos (show (j : Int) < (l.length : Int) by omega), if_pos (show (0 : Int) ≤ j by omega), if_pos (show (0 : Int) ≤ e by omega), if_pos (show (e : Int) ≤ (s.size : Int) by omega), Int.toNat_natCast, c2, Option.bind_some, Bool.false_eq_true, if_false, e2.eq]
          exact hE
    obtain ⟨r, hr, hE⟩ := inner l.length 0 w (by omega) (hdown.iff ⟨fun g => g.elim, fun ⟨a, ha, _⟩ => by omega⟩)
    refine ⟨r, hr, Ev_succ ?_⟩
    simp only [impl_endings.l0, show (((e + 1 : Nat) : Int) - 1) = (e : Int) by omega, if_pos (show (e : Int) ≥ 0 by omega)]
    exact hE
theorem both_sem (l : List ByteArray) (ws : List Clash.S) (hws : ws = l.map (·.data.toList)) (hne : ∀ w ∈ ws, w ≠ []) (hl : l.length ≤ 16) (hs : ∀ i : Nat, i < l.length → 1 ≤ (rdOf ByteArray.empty l (i : Int)).size ∧ (rdOf ByteArray.empty l (i : Int)).size ≤ 12) (s : ByteArray) (hz : s.size ≤ 100000) : ∃ r1 r2, (WW ws s.data.toList 1 r1 0 (Wd ws s.data.toList) ∧ Ev (fun k => spec_l05Ways.f k l s 1) r1) ∧ WW ws s.data.toList 1000000000000000 r2 0 (Wd ws s.data.toList) ∧ Ev (fun k => impl_endings.f k l s) r2 := by
  have hse : s.data.toList.length = s.size := clash_len s
  have e1 : WC ((s.size : Int) + 1) ((s.size + 1 : Nat) : Int) := ⟨by omega, by omega, by omega⟩
  have e2 : WC ((s.size : Int) - 1) ((s.size : Int) - 1) := ⟨rfl, by omega, by omega⟩
  have e3 : (List.replicate (s.size + 1) (0 : Int)).length = s.size + 1 := List.length_replicate
  have hrd : ∀ q : Nat, rd ((List.replicate (s.size + 1) (0 : Int)).set s.size 1) (q : Int) = if q = s.size then 1 else 0 := fun q => by
    rw [rd_set' _ _ _ (by omega)]
    split
    · rfl
    · unfold rd
      rw [Int.toNat_natCast, List.getD_eq_getElem?_getD, List.getElem?_replicate]
      split <;> rfl
  have h0 : ∀ m : Int, 1 ≤ m → WW ws s.data.toList m ((List.replicate (s.size + 1) (0 : Int)).set s.size 1) s.size True := fun m hm => by
    refine ⟨by rw [List.length_set, e3, hse], fun q hq => ?_, fun q h1 h2 => by omega, ?_, fun q hq => ?_⟩
    · rw [hrd]; split <;> omega
    · rw [hrd, if_pos rfl]; simp
    · rw [hrd, if_neg (by omega)]
  obtain ⟨r1, g1, g2⟩ := ways_sem l ws hws hne hl hs s hz 1 (by omega) s.size _ (by omega) (fun g => by omega) (fun _ => h0 1 (by omega))
  obtain ⟨r2, g3, g4⟩ := ends_sem l ws hws hne hl hs s hz s.size _ (by omega) (fun g => by omega) (fun _ => h0 1000000000000000 (by omega))
  refine ⟨r1, r2, ⟨g1, ?_⟩, g3, ?_⟩
  · simp only [spec_l05Ways.f, e1.eq, e2.eq, Int.toNat_natCast, if_pos (show (0 : Int) ≤ ((s.size + 1 : Nat) : Int) by omega), if_pos (show s.size + 1 ≤ 35184372088832 by omega), Option.bind_some, if_pos (show (0 : Int) ≤ (s.size : Int) by omega), e3, if_pos (show (s.size : Int) < ((s.size + 1 : Nat) : Int) by omega)]
    exact g2
  · simp only [impl_endings.f, e1.eq, e2.eq, Int.toNat_natCast, if_pos (show (0 : Int) ≤ ((s.size + 1 : Nat) : Int) by omega), if_pos (show s.size + 1 ≤ 35184372088832 by omega), Option.bind_some, if_pos (show (0 : Int) ≤ (s.size : Int) by omega), e3, if_pos (show (s.size : Int) < ((s.size + 1 : Nat) : Int) by omega)]
    exact g4
theorem inner_parse (l : List ByteArray) (ws : List Clash.S) (hl : l.length ≤ 16) (hs : ∀ i : Nat, i < l.length → 1 ≤ (rdOf ByteArray.empty l (i : Int)).size ∧ (rdOf ByteArray.empty l (i : Int)).size ≤ 12) (s : ByteArray) (hz : s.size ≤ 100000) (r1 r2 : List Int) (hr1 : WW ws s.data.toList 1 r1 0 (Wd ws s.data.toList)) (hr2 : WW ws s.data.toList 1000000000000000 r2 0 (Wd ws s.data.toList)) (at_ : Nat) (hat : at_ < s.size) (greatest : Bool) (out : List Int) (d : Nat) : ∀ (j : Nat) (best : Int), j + d = l.length → (best = -1 ∨ ∃ a : Nat, best = (a : Int) ∧ a < l.length ∧ Cnd l ws s at_ a) →
    ∃ b' : Int, (b' = -1 ∨ ∃ a : Nat, b' = (a : Int) ∧ a < l.length ∧ Cnd l ws s at_ a) ∧ ((best ≠ -1 ∨ ∃ a, j ≤ a ∧ a < l.length ∧ Cnd l ws s at_ a) → b' ≠ -1) ∧
      (∀ r, Ev (fun k => spec_l05Parse.l1 k l s (!greatest) r1 out (at_ : Int) b' (l.length : Int)) r → Ev (fun k => spec_l05Parse.l1 k l s (!greatest) r1 out (at_ : Int) best (j : Int)) r) ∧
      ∀ r, Ev (fun k => impl_parse.l1 k l s greatest r2 out (at_ : Int) b' l l.length (l.length : Int)) r → Ev (fun k => impl_parse.l1 k l s greatest r2 out (at_ : Int) best l l.length (j : Int)) r := by
  have hse : s.data.toList.length = s.size := clash_len s
  induction d with
  | zero =>
    intro j best hj hb
    obtain rfl : j = l.length := by omega
    refine ⟨best, hb, fun h => ?_, fun r h => h, fun r h => h⟩
    rcases h with h | ⟨a, h1, h2, _⟩
    · exact h
    · omega
  | succ d ih =>
    intro j best hj hb
    have hjl : j < l.length := by omega
    have hzj := hs j hjl
    have e2 : WC ((j : Int) + 1) ((j + 1 : Nat) : Int) := ⟨by omega, by omega, by omega⟩
    obtain ⟨c, c1, c2, c3, c4⟩ := at_sem s (rdOf ByteArray.empty l (j : Int)) at_ (by omega) (by omega) (by omega)
    have j1 : (j : Int) < (l.length : Int) := by omega
    have j0 : (0 : Int) ≤ (j : Int) := by omega
    have a0 : (0 : Int) ≤ (at_ : Int) := by omega
    have a1 : (at_ : Int) ≤ (s.size : Int) := by omega
    -- the word is none
    have skip : ¬ Cnd l ws s at_ j → ∃ b' : Int, (b' = -1 ∨ ∃ a : Nat, b' = (a : Int) ∧ a < l.length ∧ Cnd l ws s at_ a) ∧ ((best ≠ -1 ∨ ∃ a, j ≤ a ∧ a < l.length ∧ Cnd l ws s at_ a) → b' ≠ -1) ∧
        (∀ r, Ev (fun k => spec_l05Parse.l1 k l s (!greatest) r1 out (at_ : Int) b' (l.length : Int)) r → Ev (fun k => spec_l05Parse.l1 k l s (!greatest) r1 out (at_ : Int) best ((j + 1 : Nat) : Int)) r) ∧
        ∀ r, Ev (fun k => impl_parse.l1 k l s greatest r2 out (at_ : Int) b' l l.length (l.length : Int)) r → Ev (fun k => impl_parse.l1 k l s greatest r2 out (at_ : Int) best l l.length ((j + 1 : Nat) : Int)) r := fun hn => by
      obtain ⟨b', h1, h2, h3, h4⟩ := ih (j + 1) best (by omega) hb
      refine ⟨b', h1, fun h => h2 ?_, h3, h4⟩
      rcases h with h | ⟨a, g1, g2, g3⟩
      · exact .inl h
      · refine .inr ⟨a, ?_, g2, g3⟩
        by_cases e : a = j
        · subst e; exact absurd g3 hn
        · omega
    cases c with
    | false =>
      obtain ⟨b', h1, h2, h3, h4⟩ := skip (fun g => by have := c4.2 g.1; cases this)
      refine ⟨b', h1, h2, fun r hr => Ev_succ ?_, fun r hr => Ev_succ ?_⟩
      · simp only [spec_l05Parse.l1, if_pos j1, if_pos j0, c1, Option.bind_some, Bool.false_eq_true, if_false, e2.eq]
        exact h3 r hr
      · simp only [impl_parse.l1, if_pos j1, if_pos j0, if_pos a0, if_pos a1, Int.toNat_natCast, c2, Option.bind_some, Bool.false_eq_true, if_false, e2.eq]
        exact h4 r hr
    | true =>
      have c5 := c3 rfl
      have e3 : WC ((at_ : Int) + ((rdOf ByteArray.empty l (j : Int)).size : Int)) ((at_ + (rdOf ByteArray.empty l (j : Int)).size : Nat) : Int) := ⟨by omega, by omega, by omega⟩
      have q0 : (0 : Int) ≤ ((at_ + (rdOf ByteArray.empty l (j : Int)).size : Nat) : Int) := by omega
      have q1 : ((at_ + (rdOf ByteArray.empty l (j : Int)).size : Nat) : Int) < (r1.length : Int) := by have := hr1.len; omega
      have q2 : ((at_ + (rdOf ByteArray.empty l (j : Int)).size : Nat) : Int) < (r2.length : Int) := by have := hr2.len; omega
      have u1 := hr1.up (at_ + (rdOf ByteArray.empty l (j : Int)).size) (by omega) (by omega)
      have u2 := hr2.up (at_ + (rdOf ByteArray.empty l (j : Int)).size) (by omega) (by omega)
      by_cases hw : Wd ws (s.data.toList.drop (at_ + (rdOf ByteArray.empty l (j : Int)).size))
      · have hC : Cnd l ws s at_ j := ⟨c4.1 rfl, hw⟩
        have v1 := u1.2 hw
        have v2 := u2.2 hw
        have take : ∃ b' : Int, (b' = -1 ∨ ∃ a : Nat, b' = (a : Int) ∧ a < l.length ∧ Cnd l ws s at_ a) ∧ b' ≠ -1 ∧
            (∀ r, Ev (fun k => spec_l05Parse.l1 k l s (!greatest) r1 out (at_ : Int) b' (l.length : Int)) r → Ev (fun k => spec_l05Parse.l1 k l s (!greatest) r1 out (at_ : Int) (j : Int) ((j + 1 : Nat) : Int)) r) ∧
            ∀ r, Ev (fun k => impl_parse.l1 k l s greatest r2 out (at_ : Int) b' l l.length (l.length : Int)) r → Ev (fun k => impl_parse.l1 k l s greatest r2 out (at_ : Int) (j : Int) l l.length ((j + 1 : Nat) : Int)) r := by
          obtain ⟨b', h1, h2, h3, h4⟩ := ih (j + 1) (j : Int) (by omega) (.inr ⟨j, rfl, hjl, hC⟩)
          exact ⟨b', h1, h2 (.inl (by omega)), h3, h4⟩
        by_cases hbn : best < 0
        · obtain ⟨b', h1, h2, h3, h4⟩ := take
          refine ⟨b', h1, fun _ => h2, fun r hr => Ev_succ ?_, fun r hr => Ev_succ ?_⟩
          · simp only [spec_l05Parse.l1, if_pos j1, if_pos j0, c1, Option.bind_some, if_true, e3.eq, e2.eq, if_pos q0, if_pos q1, if_pos v1, if_pos hbn]
            exact h3 r hr
          · simp only [impl_parse.l1, if_pos j1, if_pos j0, if_pos a0, if_pos a1, Int.toNat_natCast, c2, Option.bind_some, if_true, e3.eq, e2.eq, if_pos q0, if_pos q2, if_pos v2, if_pos hbn]
            exact h4 r hr
        · cases greatest with
          | true =>
            obtain ⟨b', h1, h2, h3, h4⟩ := take
            refine ⟨b', h1, fun _ => h2, fun r hr => Ev_succ ?_, fun r hr => Ev_succ ?_⟩
            · simp only [spec_l05Parse.l1, if_pos j1, if_pos j0, c1, Option.bind_some, if_true, e3.eq, e2.eq, if_pos q0, if_pos q1, if_pos v1, if_neg hbn, Bool.not_true, Bool.false_eq_true, if_false]
              exact h3 r hr
            · simp only [impl_parse.l1, if_pos j1, if_pos j0, if_pos a0, if_pos a1, Int.toNat_natCast, c2, Option.bind_some, if_true, e3.eq, e2.eq, if_pos q0, if_pos q2, if_pos v2, if_neg hbn]
              exact h4 r hr
          | false =>
            obtain ⟨b', h1, h2, h3, h4⟩ := ih (j + 1) best (by omega) hb
            refine ⟨b', h1, fun _ => h2 (.inl (by omega)), fun r hr => Ev_succ ?_, fun r hr => Ev_succ ?_⟩
            · simp only [spec_l05Parse.l1, if_pos j1, if_pos j0, c1, Option.bind_some, if_true, e3.eq, e2.eq, if_pos q0, if_pos q1, if_pos v1, if_neg hbn, Bool.not_false]
              exact h3 r hr
            · simp only [impl_parse.l1, if_pos j1, if_pos j0, if_pos a0, if_pos a1, Int.toNat_natCast, c2, Option.bind_some, if_true, e3.eq, e2.eq, if_pos q0, if_pos q2, if_pos v2, if_neg hbn, Bool.false_eq_true, if_false]
              exact h4 r hr
      · obtain ⟨b', h1, h2, h3, h4⟩ := skip (fun g => hw g.2)
        have v1 := fun g => hw (u1.1 g)
        have v2 := fun g => hw (u2.1 g)
        refine ⟨b', h1, h2, fun r hr => Ev_succ ?_, fun r hr => Ev_succ ?_⟩
        · simp only [spec_l05Parse.l1, if_pos j1, if_pos j0, c1, Option.bind_some, if_true, e3.eq, e2.eq, if_pos q0, if_pos q1, if_neg v1]
          exact h3 r hr
        · simp only [impl_parse.l1, if_pos j1, if_pos j0, if_pos a0, if_pos a1, Int.toNat_natCast, c2, Option.bind_some, if_true, e3.eq, e2.eq, if_pos q0, if_pos q2, if_neg v2]
          exact h4 r hr
theorem outer_parse (l : List ByteArray) (ws : List Clash.S) (hws : ws = l.map (·.data.toList)) (hne : ∀ w ∈ ws, w ≠ []) (hl : l.length ≤ 16) (hs : ∀ i : Nat, i < l.length → 1 ≤ (rdOf ByteArray.empty l (i : Int)).size ∧ (rdOf ByteArray.empty l (i : Int)).size ≤ 12) (s : ByteArray) (hz : s.size ≤ 100000) (r1 r2 : List Int) (hr1 : WW ws s.data.toList 1 r1 0 (Wd ws s.data.toList)) (hr2 : WW ws s.data.toList 1000000000000000 r2 0 (Wd ws s.data.toList)) (greatest : Bool) (N : Nat) : ∀ (at_ : Nat) (out : List Int), at_ ≤ s.size → s.size - at_ = N → Wd ws (s.data.toList.drop at_) → out.length ≤ at_ →
    ∃ res, (res.length : Int) ≤ 100000 ∧ Ev (fun k => spec_l05Parse.l0 k l s (!greatest) r1 out (at_ : Int)) res ∧ Ev (fun k => impl_parse.l0 k l s greatest r2 out (at_ : Int)) res := by
  induction N using Nat.strongRecOn with
  | _ N ih =>
    intro at_ out hat hN hw ho
    by_cases hlt : at_ < s.size
    · obtain ⟨b', h1, h2, h3, h4⟩ := inner_parse l ws hl hs s hz r1 r2 hr1 hr2 at_ hlt greatest out l.length 0 (-1) (by omega) (.inl rfl)
      obtain ⟨a, ha, hC⟩ := (wd_cnd l ws hws hne s at_ hlt).2 hw
      have hb := h2 (.inr ⟨a, by omega, ha, hC⟩)
      rcases h1 with h1 | ⟨q, rfl, hq, hqC⟩
      · exact absurd h1 hb
      · have hzq := hs q hq
        obtain ⟨x, hx⟩ := hqC.1
        have hxl := congrArg List.length hx
        rw [List.length_drop, List.length_append, clash_len, clash_len] at hxl
        have e3 : WC ((at_ : Int) + ((rdOf ByteArray.empty l (q : Int)).size : Int)) ((at_ + (rdOf ByteArray.empty l (q : Int)).size : Nat) : Int) := ⟨by omega, by omega, by omega⟩
        have o1 : out.length < 17592186044416 := by omega
        have o2 : (0 : Int) ≤ (q : Int) := by omega
        have o3 : (q : Int) < (l.length : Int) := by omega
        have o4 : ¬ (l.length : Int) < (l.length : Int) := by omega
        have o5 : (at_ : Int) < (s.size : Int) := by omega
        obtain ⟨res, hl', hA, hB⟩ := ih (s.size - (at_ + (rdOf ByteArray.empty l (q : Int)).size)) (by omega) (at_ + (rdOf ByteArray.empty l (q : Int)).size) (out ++ [(q : Int)]) (by omega) rfl hqC.2 (by rw [List.length_append, List.length_singleton]; omega)
        refine ⟨res, hl', Ev_succ ?_, Ev_succ ?_⟩
        · simp only [spec_l05Parse.l0, if_pos o5]
          refine h3 _ (Ev_succ ?_)
          simp only [spec_l05Parse.l1, if_neg o4, if_pos o1, if_pos o2, if_pos o3, e3.eq]
          exact hA
        · simp only [impl_parse.l0, if_pos o5]
          refine h4 _ (Ev_succ ?_)
          simp only [impl_parse.l1, if_neg o4, if_pos o1, if_pos o2, if_pos o3, e3.eq]
          exact hB
    · refine ⟨out, by omega, Ev_succ ?_, Ev_succ ?_⟩
      · simp only [spec_l05Parse.l0, if_neg (show ¬ (at_ : Int) < (s.size : Int) by omega)]; exact Ev.now _
      · simp only [impl_parse.l0, if_neg (show ¬ (at_ : Int) < (s.size : Int) by omega)]; exact Ev.now _
theorem parse_both (l : List ByteArray) (ws : List Clash.S) (hws : ws = l.map (·.data.toList)) (hne : ∀ w ∈ ws, w ≠ []) (hl : l.length ≤ 16) (hs : ∀ i : Nat, i < l.length → 1 ≤ (rdOf ByteArray.empty l (i : Int)).size ∧ (rdOf ByteArray.empty l (i : Int)).size ≤ 12) (s : ByteArray) (hz : s.size ≤ 100000) (hw : Wd ws s.data.toList) (least greatest : Bool) (hlg : (!greatest) = least) : ∃ res, (res.length : Int) ≤ 100000 ∧ Ev (fun k => spec_l05Parse.f k l s least) res ∧ Ev (fun k => impl_parse.f k l s greatest) res := by
  obtain ⟨r1, r2, ⟨h1, h2⟩, h3, h4⟩ := both_sem l ws hws hne hl hs s hz
  obtain ⟨res, g1, g2, g3⟩ := outer_parse l ws hws hne hl hs s hz r1 r2 h1 h3 greatest _ 0 [] (by omega) rfl (by rw [List.drop_zero]; exact hw) (by simp)
  rw [hlg] at g2
  refine ⟨res, g1, ?_, ?_⟩
  · simp only [spec_l05Parse.f]; exact Ev.bind h2 g2
  · simp only [impl_parse.f]; exact Ev.bind h4 g3
theorem code_sizes {l : List ByteArray} (hc : CodeOk l) : l.length ≤ 16 ∧ (∀ i : Nat, i < l.length → 1 ≤ (rdOf ByteArray.empty l (i : Int)).size ∧ (rdOf ByteArray.empty l (i : Int)).size ≤ 12) ∧ (∀ w ∈ l.map (·.data.toList), w ≠ []) := by
  have h1 : l.length ≤ 16 := by have := hc.1.2; omega
  have h2 : ∀ i : Nat, i < l.length → 1 ≤ (rdOf ByteArray.empty l (i : Int)).size ∧ (rdOf ByteArray.empty l (i : Int)).size ≤ 12 := fun i hi => by have := (hc.2 i (by omega) (by omega)).1; omega
  refine ⟨h1, h2, fun w hw e => ?_⟩
  obtain ⟨y, hy, rfl⟩ := List.mem_map.1 hw
  obtain ⟨j, hj, rfl⟩ := List.getElem_of_mem hy
  have := (h2 j hj).1
  unfold rdOf at this
  rw [Int.toNat_natCast, List.getD_eq_getElem?_getD, List.getElem?_eq_getElem hj] at this
  simp only [Option.getD_some] at this
  rw [← clash_len, e] at this
  simp at this

theorem ba_ext {a b : ByteArray} (h : a.data.toList = b.data.toList) : a = b := by apply ByteArray.ext; exact Array.toList_inj.1 h
theorem sn_append (a b : List Int) : strOfNums (a ++ b) = strOfNums a ++ strOfNums b := by apply ba_ext; simp [strOfNums]
theorem sn_size (a : List Int) : (strOfNums a).size = a.length := by simp [strOfNums, ByteArray.size]
theorem sn_nil : strOfNums [] = (⟨#[]⟩ : ByteArray) := rfl
theorem bt_range (s : ByteArray) (i : Int) (h0 : 0 ≤ i) (h1 : i < s.size) : 0 ≤ bt s i ∧ bt s i < 256 := by
  obtain ⟨n, rfl⟩ : ∃ n : Nat, i = n := ⟨i.toNat, by omega⟩
  rw [bt_list s n (by omega)]
  have := (s.data.toList[n]'(by simp; omega)).toNat_lt
  omega
theorem extract_one (s : ByteArray) (n : Nat) (h : n < s.size) : (s.extract n (n + 1)).data.toList = [s.data.toList[n]'(by simpa using h)] := by
  have h' : n < s.data.size := h
  simp only [ByteArray.data_extract, Array.toList_extract, List.extract_eq_take_drop]
  rw [show n + 1 - n = 1 by omega, List.drop_eq_getElem_cons (show n < s.data.toList.length by simpa using h')]
  simp
theorem sn_one (s : ByteArray) (i : Int) (h0 : 0 ≤ i) (h1 : i < s.size) : strOfNums [bt s i] = s.extract i.toNat (i + 1).toNat := by
  obtain ⟨n, rfl⟩ : ∃ n : Nat, i = n := ⟨i.toNat, by omega⟩
  apply ba_ext
  rw [show ((n : Int) + 1).toNat = n + 1 by omega, Int.toNat_natCast, extract_one s n (by omega), bt_list s n (by omega)]
  simp [strOfNums]

theorem markText_loop (d : Nat) : ∀ (x : Nat) (t : ByteArray), x ≤ d → t.size + x ≤ 1000000000000000 → ∃ r, Ev (fun k => laws_markText.l0 k (x : Int) t) r := by
  induction d with
  | zero =>
    intro x t hx ht
    obtain rfl : x = 0 := by omega
    refine ⟨(⟨#[109]⟩ : ByteArray) ++ t, Ev_succ ?_⟩
    simp only [laws_markText.l0, if_neg (show ¬ ((0 : Nat) : Int) > 0 by omega), if_pos (show 1 + t.size ≤ 9223372036854775807 by omega)]
    exact Ev.now _
  | succ d ih =>
    intro x t hx ht
    by_cases c : x = 0
    · subst c
      refine ⟨(⟨#[109]⟩ : ByteArray) ++ t, Ev_succ ?_⟩
      simp only [laws_markText.l0, if_neg (show ¬ ((0 : Nat) : Int) > 0 by omega), if_pos (show 1 + t.size ≤ 9223372036854775807 by omega)]
      exact Ev.now _
    · have c0 : (x : Int) > 0 := by omega
      have e1 : Int.tdiv (x : Int) 10 = ((x / 10 : Nat) : Int) := by rw [Int.tdiv_eq_ediv_of_nonneg (by omega)]; omega
      have b1 : -9223372036854775808 ≤ ((x / 10 : Nat) : Int) ∧ ((x / 10 : Nat) : Int) ≤ 9223372036854775807 := by omega
      have hz : ∀ v : Int, (strOfNums [v]).size + t.size ≤ 9223372036854775807 := fun v => by rw [sn_size]; show 1 + _ ≤ _; omega
      obtain ⟨r, hr⟩ := ih (x / 10) (strOfNums [(wrap64 (48 + (Int.tmod (x : Int) 10))) % 256] ++ t) (by omega) (by rw [ByteArray.size_append, sn_size]; show 1 + _ + _ ≤ _; omega)
      refine ⟨r, Ev_succ ?_⟩
      simp only [laws_markText.l0, if_pos c0, Option.bind_some, if_pos (hz _), e1, w64 b1.1 b1.2]
      exact hr
theorem markText_ev (x : Int) (h0 : 1 ≤ x) (h1 : x ≤ 100000000000) : ∃ r, Ev (fun k => laws_markText.f k x) r := by
  obtain ⟨n, rfl⟩ : ∃ n : Nat, x = n := ⟨x.toNat, by omega⟩
  obtain ⟨r, hr⟩ := markText_loop n n (⟨#[]⟩ : ByteArray) (Nat.le_refl _) (by show 0 + n ≤ _; omega)
  refine ⟨r, ?_⟩
  simp only [laws_markText.f, if_neg (show ¬ (n : Int) ≤ 0 by omega)]
  exact hr
theorem markStr_loop (n : Int) (hn : n ≤ 1000000000) (d : Nat) : ∀ (l : List ByteArray) (i : Int), (l.length : Int) = n → 0 ≤ i → i ≤ n → n - i = d → (∀ j, 0 ≤ j → j < i → Ev (fun k => laws_markText.f k (1 + j)) (rdOf ByteArray.empty l j)) →
    ∃ m, Ev (fun k => laws_markStringS.l0 k l (1 + i) i) (1 + n, m) ∧ (m.length : Int) = n ∧ ∀ j, 0 ≤ j → j < n → Ev (fun k => laws_markText.f k (1 + j)) (rdOf ByteArray.empty m j) := by
  induction d with
  | zero =>
    intro l i hl h0 h1 hd hp
    obtain rfl : i = n := by omega
    refine ⟨l, Ev_succ ?_, hl, hp⟩
    simp only [laws_markStringS.l0, if_neg (show ¬ i < (l.length : Int) by omega)]
    exact Ev.now _
  | succ d ih =>
    intro l i hl h0 h1 hd hp
    obtain ⟨t, ht⟩ := markText_ev (1 + i) (by omega) (by omega)
    obtain ⟨m, hm, g⟩ := ih (l.set i.toNat t) (i + 1) (by rw [List.length_set]; exact hl) (by omega) (by omega) (by omega) (fun j g0 g1 => by
      rw [rs_set l i j _ h0 (by omega) g0]
      by_cases e : j = i
      · rw [if_pos e, e]; exact ht
      · rw [if_neg e]; exact hp j g0 (by omega))
    have b1 : -9223372036854775808 ≤ 1 + i + 1 ∧ 1 + i + 1 ≤ 9223372036854775807 := by omega
    have b2 : -9223372036854775808 ≤ i + 1 ∧ i + 1 ≤ 9223372036854775807 := by omega
    refine ⟨m, Ev_succ ?_, g⟩
    simp only [laws_markStringS.l0, if_pos (show i < (l.length : Int) by omega)]
    refine Ev.bind ht ?_
    simp only [if_pos h0, w64 b1.1 b1.2, w64 b2.1 b2.2]
    rw [show 1 + i + 1 = 1 + (i + 1) by omega]
    exact hm
theorem markStr_ev (l : List ByteArray) (hn : (l.length : Int) ≤ 1000000000) :
    ∃ m, Ev (fun k => laws_markStringS.f k l 1) (1 + (l.length : Int), m) ∧ m.length = l.length ∧ ∀ j, 0 ≤ j → j < (l.length : Int) → Ev (fun k => laws_markText.f k (1 + j)) (rdOf ByteArray.empty m j) := by
  obtain ⟨m, h, h1, h2⟩ := markStr_loop l.length hn l.length l 0 rfl (by omega) (by omega) (by omega) (fun j _ _ => by omega)
  exact ⟨m, h, by omega, h2⟩

theorem rd_set (l : List Int) (i j v : Int) (hi : 0 ≤ i) (hil : i < l.length) (hj : 0 ≤ j) : rd (l.set i.toNat v) j = if j = i then v else rd l j := by
  unfold rd
  by_cases e : j = i
  · subst e; rw [if_pos rfl, List.getD_eq_getElem?_getD, List.getElem?_set_self (by omega)]; rfl
  · rw [if_neg e, List.getD_eq_getElem?_getD, List.getElem?_set_ne (by omega), List.getD_eq_getElem?_getD]

theorem markHeld_loop (n : Int) (hn : n ≤ 1000000) (s : Int) (h0 : 1 ≤ s) (h1 : s ≤ 1000000) (d : Nat) : ∀ (l : List Int) (i : Int), (l.length : Int) = n → 0 ≤ i → i ≤ n → n - i = d → (∀ j, 0 ≤ j → j < i → rd l j = s + j) →
    ∃ m, Ev (fun k => laws_markInt64S.l0 k l (s + i) i) (s + n, m) ∧ (m.length : Int) = n ∧ ∀ j, 0 ≤ j → j < n → rd m j = s + j := by
  induction d with
  | zero =>
    intro l i hl h0 h1 hd hp
    obtain rfl : i = n := by omega
    refine ⟨l, Ev_succ ?_, hl, hp⟩
    simp only [laws_markInt64S.l0, if_neg (show ¬ i < (l.length : Int) by omega)]
    exact Ev.now _
  | succ d ih =>
    intro l i hl h0 h1 hd hp
    obtain ⟨m, hm, g⟩ := ih (l.set i.toNat (s + i)) (i + 1) (by rw [List.length_set]; exact hl) (by omega) (by omega) (by omega) (fun j g0 g1 => by
      rw [rd_set l i j _ h0 (by omega) g0]
      by_cases e : j = i
      · rw [if_pos e, e]
      · rw [if_neg e]; exact hp j g0 (by omega))
    refine ⟨m, Ev_succ ?_, g⟩
    simp (disch := omega) only [laws_markInt64S.l0, w64]
    simp only [if_pos (show i < (l.length : Int) by omega), if_pos h0]
    rw [show s + i + 1 = s + (i + 1) by omega]
    exact hm
theorem heldHeld_loop (m : List Int) (hn : (m.length : Int) ≤ 1000000) (s : Int) (h0 : 1 ≤ s) (h1 : s ≤ 1000000) (hp : ∀ j, 0 ≤ j → j < (m.length : Int) → rd m j = s + j) (d : Nat) : ∀ i : Int, 0 ≤ i → i ≤ m.length → (m.length : Int) - i = d →
    Ev (fun k => laws_heldInt64S.l0 k m (s + i) i) (s + (m.length : Int)) := by
  induction d with
  | zero =>
    intro i g0 g1 hd
    obtain rfl : i = (m.length : Int) := by omega
    refine Ev_succ ?_
    simp only [laws_heldInt64S.l0, if_neg (show ¬ (m.length : Int) < (m.length : Int) by omega)]
    exact Ev.now _
  | succ d ih =>
    intro i g0 g1 hd
    have q : i < (m.length : Int) := by omega
    refine Ev_succ ?_
    simp (disch := omega) only [laws_heldInt64S.l0, w64]
    simp only [if_pos q, if_pos g0, if_pos (hp i g0 q)]
    rw [show s + i + 1 = s + (i + 1) by omega]
    exact ih (i + 1) (by omega) (by omega) (by omega)
theorem markHeld_ev (l : List Int) (hl : (l.length : Int) ≤ 1000000) (s : Int) (h0 : 1 ≤ s) (h1 : s ≤ 1000000) : ∃ m, Ev (fun k => laws_markInt64S.f k l s) (s + (l.length : Int), m) ∧ Ev (fun k => laws_heldInt64S.f k m s) (s + (l.length : Int)) := by
  obtain ⟨m, h, hm, hp⟩ := markHeld_loop l.length hl s h0 h1 l.length l 0 rfl (by omega) (by omega) (by omega) (fun j _ _ => by omega)
  rw [show s + (0 : Int) = s by omega] at h
  have g := heldHeld_loop m (by omega) s h0 h1 (fun j j0 j1 => hp j j0 (by omega)) m.length 0 (by omega) (by omega) (by omega)
  rw [show s + (0 : Int) = s by omega, hm] at g
  exact ⟨m, h, g⟩

theorem eqInt64S_loop (l : List Int) (hl : (l.length : Int) ≤ 4611686018427387904) (d : Nat) : ∀ i : Int, 0 ≤ i → i ≤ l.length → (l.length : Int) - i = d → Ev (fun k => laws_eqInt64S.l0 k l l i) true := by
  induction d with
  | zero =>
    intro i h0 h1 hd
    refine Ev_succ ?_
    simp only [laws_eqInt64S.l0, if_neg (show ¬ i < (l.length : Int) by omega)]
    exact Ev.now _
  | succ d ih =>
    intro i h0 h1 hd
    refine Ev_succ ?_
    simp (disch := omega) only [laws_eqInt64S.l0, w64]
    simp only [if_pos (show i < (l.length : Int) by omega), if_pos h0, if_true]
    exact ih (i + 1) (by omega) (by omega) (by omega)
theorem eqInt64S_self (l : List Int) (hl : (l.length : Int) ≤ 4611686018427387904) : Ev (fun k => laws_eqInt64S.f k l l) true := by
  simp only [laws_eqInt64S.f, if_true]
  exact eqInt64S_loop l hl l.length 0 (by omega) (by omega) (by omega)

def FnExactShortestClash_Pure : Prop := ∀ (l0 : List ByteArray), l0.length ≤ maxLen → l0.length * 16 ≤ 140737488351232 → (∀ x ∈ l0, x.size ≤ 140737488351232) → ∃ k, laws_FnExactShortestClash.f k l0 = some true
theorem shortest_both (l : List ByteArray) : ∃ (c : ByteArray) (p q : List Int) (b : Bool), (p.length : Int) ≤ 100000 ∧ (q.length : Int) ≤ 100000 ∧ Ev (fun k => spec_ShortestClash.f k l) (c, p, q, b) ∧ Ev (fun k => impl_ShortestClash.f k l) (c, p, q, b) := by
  obtain ⟨b, hs, hi, hb⟩ := code_both l
  simp only [spec_ShortestClash.f, impl_ShortestClash.f]
  cases b with
  | false => exact ⟨⟨#[]⟩, [], [], false, by simp, by simp, Ev.bind hs (by simpa using Ev.now _), Ev.bind hi (by simpa using Ev.now _)⟩
  | true =>
    have hc := hb.1 rfl
    obtain ⟨r, q, hA, hB, hq, hz, hR⟩ := clash_both l hc
    obtain ⟨z1, z2, z3⟩ := code_sizes hc
    cases q with
    | false =>
      refine ⟨⟨#[]⟩, [], [], false, by simp, by simp, Ev.bind hs ?_, Ev.bind hi ?_⟩
      · simp only [if_true]
        refine Ev.bind hA ?_
        simp only [if_pos (hq.2 rfl)]
        exact Ev.now _
      · simp only [if_true]
        refine Ev.bind (a := (r, false)) (Ev_eq (fun _ => hB)) ?_
        simp only [Bool.false_eq_true, if_false]
        exact Ev.now _
    | true =>
      have hw := (reach_wd (hR rfl)).1
      obtain ⟨p1, l1, s1, i1⟩ := parse_both l _ rfl z3 z1 z2 r (by omega) hw true false rfl
      obtain ⟨p2, l2, s2, i2⟩ := parse_both l _ rfl z3 z1 z2 r (by omega) hw false true rfl
      refine ⟨r, p1, p2, true, l1, l2, Ev.bind hs ?_, Ev.bind hi ?_⟩
      · simp only [if_true]
        refine Ev.bind hA ?_
        have hne : ¬ r.toList = [] := fun g => by have := hq.1 g; cases this
        simp only [if_neg hne]
        exact Ev.bind s1 (Ev.bind s2 (Ev.now _))
      · simp only [if_true]
        refine Ev.bind (a := (r, true)) (Ev_eq (fun _ => hB)) ?_
        simp only [if_true]
        exact Ev.bind i1 (Ev.bind i2 (Ev.now _))
theorem FnExactShortestClash : FnExactShortestClash_Pure := by
  intro l h1 h2 h3
  apply Ev.rounds
  simp only [laws_FnExactShortestClash.f]
  obtain ⟨v, hv, hz⟩ := szStr_ev l 1048576 (by omega) h2 h3
  refine Ev.bind hv ?_
  by_cases hn : v < 0
  · simp only [if_pos hn]; exact Ev.now _
  have hb := hz hn
  simp only [if_neg hn]
  obtain ⟨c, p, q, ok, lp, lq, hs, hi⟩ := shortest_both l
  have ht := toStr_ev l (by omega)
  have hes := eqStr_ev l (by omega)
  have hp := eqInt64S_self p (by omega)
  have hq := eqInt64S_self q (by omega)
  obtain ⟨m0, hm0, -, -⟩ := markStr_ev l (by omega)
  obtain ⟨m1, hm1, hh1⟩ := markHeld_ev p (by omega) 1 (by omega) (by omega)
  obtain ⟨m2, hm2, hh2⟩ := markHeld_ev q (by omega) (1 + (p.length : Int)) (by omega) (by omega)
  have g0 : ¬ (1 + (l.length : Int) < 0) := by omega
  have g1 : ¬ (1 + (p.length : Int) < 0) := by omega
  have g2 : ¬ (1 + (p.length : Int) + (q.length : Int) < 0) := by omega
  refine Ev.bind ht (Ev.bind hs (Ev.bind ht (Ev.bind hi ?_)))
  simp only [if_true, bne_self_eq_false]
  refine Ev.bind hp ?_
  simp only [if_true]
  refine Ev.bind hq ?_
  simp only [if_true]
  refine Ev_succ ?_
  simp only [laws_FnExactShortestClash.j0, Bool.false_eq_true, if_false]
  refine Ev.bind ht (Ev.bind hes ?_)
  simp only [if_true]
  refine Ev.bind hm0 ?_
  simp only [if_neg g0]
  refine Ev.bind hp ?_
  simp only [if_true]
  refine Ev.bind hq ?_
  simp only [if_true, bne_self_eq_false]
  refine Ev_succ ?_
  simp only [laws_FnExactShortestClash.j1, Bool.false_eq_true, if_false]
  refine Ev.bind hm1 (Ev.bind hm2 (Ev.bind hh1 ?_))
  simp only [if_neg g1]
  refine Ev.bind hh2 ?_
  simp only [if_neg g2, if_true]
  refine Ev.bind ht (Ev.bind hi ?_)
  simp only [if_true]
  refine Ev.bind hp ?_
  simp only [if_true]
  refine Ev.bind hq ?_
  simp only [if_true, bne_self_eq_false]
  refine Ev_succ ?_
  simp only [laws_FnExactShortestClash.j2, Bool.false_eq_true, if_false]
  refine Ev.bind hh1 ?_
  simp only [if_neg g1]
  refine Ev.bind hh2 ?_
  simp only [if_neg g2, if_true]
  exact Ev.now _

end Go.Proofs.YtkpobdcnggdjaaaDoor.Pure
