/- The law FnExactIsDecodable of the given program holds: for every input that the row lets in the call returns true and leaves its arguments as they were. No condition ahead of it. -/
import Derived.Test.YtkpobdcnggdjaaaDoorPFnExactIsDecodablex8
import Derived.Test.YtkpobdcnggdjaaaDoorMine
namespace Go.Proofs.YtkpobdcnggdjaaaDoor.Pure
open Go.RowKit Go.Proofs.YtkpobdcnggdjaaaDoor.PFnExactIsDecodable Go.Proofs.YtkpobdcnggdjaaaDoorW.PrintWords Go.Proofs.YtkpobdcnggdjaaaDoorW.PrintLast Go.Proofs.YtkpobdcnggdjaaaDoorW.PrintMore Go.Proofs.YtkpobdcnggdjaaaDoor.Mine
set_option linter.unusedVariables false
set_option linter.unusedSimpArgs false
theorem rs_set (l : List ByteArray) (i j : Int) (v : ByteArray) (hi : 0 ≤ i) (hil : i < l.length) (hj : 0 ≤ j) : rdOf ByteArray.empty (l.set i.toNat v) j = if j = i then v else rdOf ByteArray.empty l j := by
  unfold rdOf
  by_cases e : j = i
  · subst e; rw [if_pos rfl, List.getD_eq_getElem?_getD, List.getElem?_set_self (by omega)]; rfl
  · rw [if_neg e, List.getD_eq_getElem?_getD, List.getElem?_set_ne (by omega), List.getD_eq_getElem?_getD]
theorem ext_rs (a b : List ByteArray) (h : a.length = b.length) (hp : ∀ j : Int, 0 ≤ j → j < a.length → rdOf ByteArray.empty a j = rdOf ByteArray.empty b j) : a = b := by
  apply List.ext_getElem h
  intro n h1 h2
  have := hp n (by omega) (by omega)
  unfold rdOf at this
  rw [List.getD_eq_getElem?_getD, List.getD_eq_getElem?_getD, Int.toNat_natCast, List.getElem?_eq_getElem h1, List.getElem?_eq_getElem h2] at this
  simpa using this
theorem rs_mem (l : List ByteArray) (i : Int) (h0 : 0 ≤ i) (h1 : i < l.length) : rdOf ByteArray.empty l i ∈ l := by
  unfold rdOf
  rw [List.getD_eq_getElem?_getD, List.getElem?_eq_getElem (show i.toNat < l.length by omega)]
  exact List.getElem_mem _
theorem szStr_loop (l : List ByteArray) (n : Int) (hn : n ≤ 1048576) (hl : (l.length : Int) ≤ 4611686018427387904) (hs : ∀ x ∈ l, x.size ≤ 140737488351232) (d : Nat) : ∀ v i : Int, 0 ≤ i → i ≤ l.length → (l.length : Int) - i = d → 0 ≤ v → v ≤ n →
    (∀ j, 0 ≤ j → j < i → ((rdOf ByteArray.empty l j).size : Int) ≤ n) → ∃ r, Ev (fun k => laws_szStringS.l0 k l v i) r ∧ (¬ r < 0 → ∀ j, 0 ≤ j → j < (l.length : Int) → ((rdOf ByteArray.empty l j).size : Int) ≤ n) := by
  induction d with
  | zero =>
    intro v i h0 h1 hd hv0 hv hp
    refine ⟨v, Ev_succ ?_, fun _ j j0 j1 => hp j j0 (by omega)⟩
    simp only [laws_szStringS.l0, if_neg (show ¬ i < (l.length : Int) by omega)]; exact Ev.now _
  | succ d ih =>
    intro v i h0 h1 hd hv0 hv hp
    have hlt : i < (l.length : Int) := by omega
    have hz := hs _ (rs_mem l i h0 hlt)
    by_cases g : v - ((rdOf ByteArray.empty l i).size : Int) < 0
    · refine ⟨-1, Ev_succ ?_, fun h => absurd (by omega) h⟩
      simp (disch := omega) only [laws_szStringS.l0, w64]
      simp only [if_pos hlt, if_pos h0, if_pos g]; exact Ev.now _
    · obtain ⟨r, hr, hq⟩ := ih (v - ((rdOf ByteArray.empty l i).size : Int)) (i + 1) (by omega) (by omega) (by omega) (by omega) (by omega) (fun j j0 j1 => by
        by_cases e : j = i
        · rw [e]; omega
        · exact hp j j0 (by omega))
      refine ⟨r, Ev_succ ?_, hq⟩
      simp (disch := omega) only [laws_szStringS.l0, w64]
      simp only [if_pos hlt, if_pos h0, if_neg g]; exact hr
theorem szStr_ev (l : List ByteArray) (n : Int) (hn : 0 ≤ n ∧ n ≤ 1048576) (hl : l.length * 16 ≤ 140737488351232) (hs : ∀ x ∈ l, x.size ≤ 140737488351232) :
    ∃ r, Ev (fun k => laws_szStringS.f k l n) r ∧ (¬ r < 0 → (l.length : Int) ≤ n ∧ ∀ j, 0 ≤ j → j < (l.length : Int) → ((rdOf ByteArray.empty l j).size : Int) ≤ n) := by
  simp (disch := omega) only [laws_szStringS.f, w64]
  by_cases g : n - (l.length : Int) < 0
  · exact ⟨-1, by simp only [if_pos g]; exact Ev.now _, fun h => absurd (by omega) h⟩
  · obtain ⟨r, hr, hq⟩ := szStr_loop l n hn.2 (by omega) hs l.length (n - l.length) 0 (by omega) (by omega) (by omega) (by omega) (by omega) (fun j _ _ => by omega)
    exact ⟨r, by simp only [if_neg g]; exact hr, fun h => ⟨by omega, hq h⟩⟩
theorem toStr_loop (l : List ByteArray) (hl : (l.length : Int) ≤ 4611686018427387904) (d : Nat) : ∀ (m : List ByteArray) (i : Int), m.length = l.length → 0 ≤ i → i ≤ l.length → (l.length : Int) - i = d → (∀ j, 0 ≤ j → j < i → rdOf ByteArray.empty m j = rdOf ByteArray.empty l j) →
    Ev (fun k => laws_toStringS.l0 k l m i) l := by
  induction d with
  | zero =>
    intro m i hm h0 h1 hd hp
    refine Ev_succ ?_
    simp only [laws_toStringS.l0, if_neg (show ¬ i < (l.length : Int) by omega)]
    rw [ext_rs m l hm (fun j j0 j1 => hp j j0 (by omega))]
    exact Ev.now _
  | succ d ih =>
    intro m i hm h0 h1 hd hp
    refine Ev_succ ?_
    simp (disch := omega) only [laws_toStringS.l0, w64]
    simp only [if_pos (show i < (l.length : Int) by omega), if_pos h0, if_pos (show i < (m.length : Int) by omega)]
    refine ih (m.set i.toNat (rdOf ByteArray.empty l i)) (i + 1) (by rw [List.length_set]; exact hm) (by omega) (by omega) (by omega) (fun j j0 j1 => ?_)
    rw [rs_set m i j _ h0 (by omega) j0]
    by_cases e : j = i
    · rw [if_pos e, e]
    · rw [if_neg e]; exact hp j j0 (by omega)
theorem toStr_ev (l : List ByteArray) (hl : (l.length : Int) ≤ 1048576) : Ev (fun k => laws_toStringS.f k l) l := by
  simp only [laws_toStringS.f, if_pos (show 0 ≤ (l.length : Int) by omega), if_pos (show ((l.length : Int)).toNat ≤ 17592186044416 by omega)]
  exact toStr_loop l (by omega) l.length _ 0 (by simp) (by omega) (by omega) (by omega) (fun j _ _ => by omega)
theorem eqStr_loop (l : List ByteArray) (hl : (l.length : Int) ≤ 4611686018427387904) (d : Nat) : ∀ i : Int, 0 ≤ i → i ≤ l.length → (l.length : Int) - i = d → Ev (fun k => laws_eqStringS.l0 k l l i) true := by
  induction d with
  | zero =>
    intro i h0 h1 hd
    refine Ev_succ ?_
    simp only [laws_eqStringS.l0, if_neg (show ¬ i < (l.length : Int) by omega)]; exact Ev.now _
  | succ d ih =>
    intro i h0 h1 hd
    refine Ev_succ ?_
    simp (disch := omega) only [laws_eqStringS.l0, w64]
    simp only [if_pos (show i < (l.length : Int) by omega), if_pos h0, if_true]
    exact ih (i + 1) (by omega) (by omega) (by omega)
theorem eqStr_ev (l : List ByteArray) (hl : (l.length : Int) ≤ 1048576) : Ev (fun k => laws_eqStringS.f k l l) true := by
  simp only [laws_eqStringS.f, if_true]
  exact eqStr_loop l (by omega) l.length 0 (by omega) (by omega) (by omega)
theorem toList_inj {a b : ByteArray} : a.toList = b.toList ↔ a = b := by
  constructor
  · intro h
    rw [Lib.toList_data, Lib.toList_data] at h
    apply ByteArray.ext
    exact Array.toList_inj.1 h
  · rintro rfl; rfl

def AllBit (s : ByteArray) : Prop := ∀ i : Int, 0 ≤ i → i < s.size → bt s i = 48 ∨ bt s i = 49
def IsBitS (s : ByteArray) : Prop := AllBit s ∧ (s.size : Int) ≤ 400
theorem bt_list (s : ByteArray) (i : Nat) (h : i < s.size) : bt s i = ((s.data.toList[i]'(by simpa using h)).toNat : Int) := by
  unfold bt
  simp only [Int.toNat_natCast, h, dif_pos]
  rfl
theorem dropWhile_nil (p : UInt8 → Bool) : ∀ l : List UInt8, l.dropWhile p = [] ↔ ∀ b ∈ l, p b = true
  | [] => by simp
  | x :: l => by
    rw [List.dropWhile_cons]
    cases h : p x with
    | true => simp [h, dropWhile_nil p l]
    | false => simp [h]
theorem trim_empty (l : List UInt8) : (Lib.trimS l [48, 49]).isEmpty = true ↔ ∀ b ∈ l, b = 48 ∨ b = 49 := by
  have key : ∀ p : UInt8 → Bool, List.dropWhile p (List.dropWhile p l.reverse).reverse = [] ↔ ∀ b ∈ l, p b = true := by
    intro p
    rw [dropWhile_nil]
    constructor
    · intro h
      by_cases e : List.dropWhile p l.reverse = []
      · have := (dropWhile_nil p _).1 e
        exact fun b hb => this b (by simpa using hb)
      · have hh := List.head_dropWhile_not p e
        have h3 := h ((List.dropWhile p l.reverse).head e) (by simp)
        rw [hh] at h3
        cases h3
    · intro h b hb
      have : List.dropWhile p l.reverse = [] := (dropWhile_nil p _).2 (fun b hb => h b (by simpa using hb))
      rw [this] at hb
      simp at hb
  unfold Lib.trimS Lib.trimRightS Lib.trimLeftS
  rw [List.isEmpty_iff, key]
  simp
theorem areBits_ev (s : ByteArray) (hs : s.size ≤ 140737488351232) : ∃ b, impl_areBits.f s = some b ∧ (b = true ↔ AllBit s) := by
  refine ⟨(Lib.trimS s.data.toList [48, 49]).isEmpty, by unfold impl_areBits.f; rw [if_pos (by omega)], ?_⟩
  rw [trim_empty]
  constructor
  · intro h i h0 h1
    obtain ⟨n, rfl⟩ : ∃ n : Nat, i = n := ⟨i.toNat, by omega⟩
    rw [bt_list s n (by omega)]
    rcases h _ (List.getElem_mem (l := s.data.toList) (n := n) (by simp; omega)) with e | e <;> rw [e]
    · exact Or.inl rfl
    · exact Or.inr rfl
  · intro h b hb
    obtain ⟨n, hn, rfl⟩ := List.getElem_of_mem hb
    have hn' : n < s.size := by simpa using hn
    have := h n (by omega) (by omega)
    rw [bt_list s n hn'] at this
    rcases this with e | e
    · left; apply UInt8.toNat_inj.1; show s.data.toList[n].toNat = 48; omega
    · right; apply UInt8.toNat_inj.1; show s.data.toList[n].toNat = 49; omega
theorem l01Bits_loop (s : ByteArray) (hs : s.size ≤ 140737488351232) (d : Nat) : ∀ i : Int, 0 ≤ i → i ≤ s.size → (s.size : Int) - i = d → (∀ j, 0 ≤ j → j < i → bt s j = 48 ∨ bt s j = 49) →
    ∃ b, Ev (fun k => spec_l01Bits.l0 k s i) b ∧ (b = true ↔ IsBitS s) := by
  induction d with
  | zero =>
    intro i h0 h1 hd hp
    refine ⟨decide ((s.size : Int) ≤ 400), Ev_succ ?_, ?_⟩
    · simp only [spec_l01Bits.l0, if_neg (show ¬ i < (s.size : Int) by omega)]
      exact Ev.now _
    · rw [decide_eq_true_eq]
      exact ⟨fun h => ⟨fun j j0 j1 => hp j j0 (by omega), h⟩, fun h => h.2⟩
  | succ d ih =>
    intro i h0 h1 hd hp
    have hlt : i < (s.size : Int) := by omega
    by_cases e : bt s i = 48 ∨ bt s i = 49
    · obtain ⟨b, hb, hi⟩ := ih (i + 1) (by omega) (by omega) (by omega) (fun j j0 j1 => by
        by_cases z : j = i
        · rw [z]; exact e
        · exact hp j j0 (by omega))
      refine ⟨b, Ev_succ ?_, hi⟩
      simp (disch := omega) only [spec_l01Bits.l0, w64]
      rcases e with e | e
      · simp only [if_pos hlt, if_pos h0, if_pos e]; exact hb
      · simp only [if_pos hlt, if_pos h0, e, if_neg (show ¬ (49 : Int) = 48 by omega), if_true]; exact hb
    · refine ⟨false, Ev_succ ?_, ?_⟩
      · simp only [spec_l01Bits.l0, if_pos hlt, if_pos h0, if_neg (fun g => e (Or.inl g)), if_neg (fun g => e (Or.inr g))]
        exact Ev.now _
      · simp only [Bool.false_eq_true, false_iff]
        exact fun g => e (g.1 i h0 hlt)
theorem l01Bits_ev (s : ByteArray) (hs : s.size ≤ 140737488351232) : ∃ b, Ev (fun k => spec_l01Bits.f k s) b ∧ (b = true ↔ IsBitS s) :=
  l01Bits_loop s hs s.size 0 (by omega) (by omega) (by omega) (fun j _ _ => by omega)

def Among (l : List ByteArray) (n : Int) (x : ByteArray) : Prop := ∃ j : Int, 0 ≤ j ∧ j < n ∧ rdOf ByteArray.empty l j = x
theorem rs_take (l : List ByteArray) (n j : Int) (h0 : 0 ≤ j) (h1 : j < n) (hn : n ≤ l.length) : rdOf ByteArray.empty (l.take n.toNat) j = rdOf ByteArray.empty l j := by
  unfold rdOf
  rw [List.getD_eq_getElem?_getD, List.getElem?_take, if_pos (by omega), List.getD_eq_getElem?_getD]
theorem index3_loop (l : List ByteArray) (x : ByteArray) (hl : (l.length : Int) ≤ 4611686018427387904) (d : Nat) : ∀ i : Int, 0 ≤ i → i ≤ l.length → (l.length : Int) - i = d → (∀ j, 0 ≤ j → j < i → rdOf ByteArray.empty l j ≠ x) →
    ∃ r, Ev (fun k => spec_l03Index.l0 k l x i) r ∧ (r ≥ 0 ↔ Among l l.length x) := by
  induction d with
  | zero =>
    intro i h0 h1 hd hp
    refine ⟨-1, Ev_succ ?_, ?_⟩
    · simp only [spec_l03Index.l0, if_neg (show ¬ i < (l.length : Int) by omega)]; exact Ev.now _
    · exact ⟨fun h => by omega, fun ⟨j, j0, j1, j2⟩ => absurd j2 (hp j j0 (by omega))⟩
  | succ d ih =>
    intro i h0 h1 hd hp
    have hlt : i < (l.length : Int) := by omega
    by_cases e : rdOf ByteArray.empty l i = x
    · refine ⟨i, Ev_succ ?_, ⟨fun _ => ⟨i, h0, hlt, e⟩, fun _ => h0⟩⟩
      simp only [spec_l03Index.l0, toList_inj, if_pos hlt, if_pos h0, if_pos e]; exact Ev.now _
    · obtain ⟨r, hr, hi⟩ := ih (i + 1) (by omega) (by omega) (by omega) (fun j j0 j1 => by
        by_cases z : j = i
        · rw [z]; exact e
        · exact hp j j0 (by omega))
      refine ⟨r, Ev_succ ?_, hi⟩
      simp (disch := omega) only [spec_l03Index.l0, toList_inj, w64]
      simp only [if_pos hlt, if_pos h0, if_neg e]; exact hr
theorem index_loop (l : List ByteArray) (x : ByteArray) (hl : (l.length : Int) ≤ 4611686018427387904) (d : Nat) : ∀ i : Int, 0 ≤ i → i ≤ l.length → (l.length : Int) - i = d → (∀ j, 0 ≤ j → j < i → rdOf ByteArray.empty l j ≠ x) →
    ∃ r, Ev (fun k => slices_Index_string_string.l0 k l x l.length i) r ∧ (r ≥ 0 ↔ Among l l.length x) := by
  induction d with
  | zero =>
    intro i h0 h1 hd hp
    refine ⟨-1, Ev_succ ?_, ?_⟩
    · simp only [slices_Index_string_string.l0, if_neg (show ¬ i < (l.length : Int) by omega)]; exact Ev.now _
    · exact ⟨fun h => by omega, fun ⟨j, j0, j1, j2⟩ => absurd j2 (hp j j0 (by omega))⟩
  | succ d ih =>
    intro i h0 h1 hd hp
    have hlt : i < (l.length : Int) := by omega
    by_cases e : x = rdOf ByteArray.empty l i
    · refine ⟨i, Ev_succ ?_, ⟨fun _ => ⟨i, h0, hlt, e.symm⟩, fun _ => h0⟩⟩
      simp only [slices_Index_string_string.l0, toList_inj, if_pos hlt, if_pos h0, if_pos e]; exact Ev.now _
    · obtain ⟨r, hr, hi⟩ := ih (i + 1) (by omega) (by omega) (by omega) (fun j j0 j1 => by
        by_cases z : j = i
        · rw [z]; exact fun h => e h.symm
        · exact hp j j0 (by omega))
      refine ⟨r, Ev_succ ?_, hi⟩
      simp (disch := omega) only [slices_Index_string_string.l0, toList_inj, w64]
      simp only [if_pos hlt, if_pos h0, if_neg e]; exact hr
theorem among_take (l : List ByteArray) (i : Int) (x : ByteArray) (h0 : 0 ≤ i) (h1 : i ≤ l.length) : Among (l.take i.toNat) (l.take i.toNat).length x ↔ Among l i x := by
  have hlen : ((l.take i.toNat).length : Int) = i := by rw [List.length_take]; omega
  unfold Among
  rw [hlen]
  constructor
  · rintro ⟨j, j0, j1, j2⟩; exact ⟨j, j0, j1, by rwa [rs_take l i j j0 j1 h1] at j2⟩
  · rintro ⟨j, j0, j1, j2⟩; exact ⟨j, j0, j1, by rwa [rs_take l i j j0 j1 h1]⟩
def WordOk (l : List ByteArray) (i : Int) : Prop := (1 ≤ ((rdOf ByteArray.empty l i).size : Int) ∧ ((rdOf ByteArray.empty l i).size : Int) ≤ 12) ∧ AllBit (rdOf ByteArray.empty l i) ∧ ¬ Among l i (rdOf ByteArray.empty l i)
def CodeOk (l : List ByteArray) : Prop := (1 ≤ (l.length : Int) ∧ (l.length : Int) ≤ 16) ∧ ∀ i, 0 ≤ i → i < (l.length : Int) → WordOk l i
theorem code_loops (l : List ByteArray) (hl : (l.length : Int) ≤ 16) (d : Nat) : ∀ i : Int, 0 ≤ i → i ≤ l.length → (l.length : Int) - i = d → (∀ j, 0 ≤ j → j < i → WordOk l j) →
    ∃ b, Ev (fun k => spec_l05Is.l0 k l i) b ∧ Ev (fun k => impl_IsCode.l0 k l l l.length i) b ∧ (b = true ↔ ∀ j, 0 ≤ j → j < (l.length : Int) → WordOk l j) := by
  induction d with
  | zero =>
    intro i h0 h1 hd hp
    refine ⟨true, Ev_succ ?_, Ev_succ ?_, ?_⟩
    · simp only [spec_l05Is.l0, if_neg (show ¬ i < (l.length : Int) by omega)]; exact Ev.now _
    · simp only [impl_IsCode.l0, if_neg (show ¬ i < (l.length : Int) by omega)]; exact Ev.now _
    · simp only [true_iff]; exact fun j j0 j1 => hp j j0 (by omega)
  | succ d ih =>
    intro i h0 h1 hd hp
    have hlt : i < (l.length : Int) := by omega
    have no : ∀ X : Prop, ¬ WordOk l i → (false = true ↔ ∀ j, 0 ≤ j → j < (l.length : Int) → WordOk l j) := fun _ h => by
      simp only [Bool.false_eq_true, false_iff]; exact fun g => h (g i h0 hlt)
    by_cases c1 : ((rdOf ByteArray.empty l i).size : Int) < 1
    · refine ⟨false, Ev_succ ?_, Ev_succ ?_, no True (fun g => by have := g.1.1; omega)⟩
      · simp only [spec_l05Is.l0, if_pos hlt, if_pos h0, if_pos c1]; exact Ev.now _
      · simp only [impl_IsCode.l0, if_pos hlt, if_pos h0, if_pos c1]; exact Ev.now _
    by_cases c2 : ((rdOf ByteArray.empty l i).size : Int) > 12
    · refine ⟨false, Ev_succ ?_, Ev_succ ?_, no True (fun g => by have := g.1.2; omega)⟩
      · simp only [spec_l05Is.l0, if_pos hlt, if_pos h0, if_neg c1, if_pos c2]; exact Ev.now _
      · simp only [impl_IsCode.l0, if_pos hlt, if_pos h0, if_neg c1, if_pos c2]; exact Ev.now _
    obtain ⟨b, hb, hbi⟩ := l01Bits_ev (rdOf ByteArray.empty l i) (by omega)
    obtain ⟨c, hc, hci⟩ := areBits_ev (rdOf ByteArray.empty l i) (by omega)
    have ebc : b = c := by
      have : (b = true) ↔ (c = true) := hbi.trans ⟨fun g => hci.2 g.1, fun g => ⟨hci.1 g, by omega⟩⟩
      cases b <;> cases c <;> simp_all
    subst ebc
    cases b with
    | false =>
      refine ⟨false, Ev_succ ?_, Ev_succ ?_, no True (fun g => by have := hci.2 g.2.1; cases this)⟩
      · simp only [spec_l05Is.l0, if_pos hlt, if_pos h0, if_neg c1, if_neg c2]
        exact Ev.bind hb (by simpa using Ev.now false)
      · simp only [impl_IsCode.l0, if_pos hlt, if_pos h0, if_neg c1, if_neg c2, hc, Option.bind_some]
        simpa using Ev.now false
    | true =>
      have htl : ((l.take i.toNat).length : Int) ≤ 4611686018427387904 := by rw [List.length_take]; omega
      obtain ⟨r, hr, hri⟩ := index3_loop (l.take i.toNat) (rdOf ByteArray.empty l i) htl (l.take i.toNat).length 0 (by omega) (by omega) (by omega) (fun j _ _ => by omega)
      obtain ⟨q, hq, hqi⟩ := index_loop (l.take i.toNat) (rdOf ByteArray.empty l i) htl (l.take i.toNat).length 0 (by omega) (by omega) (by omega) (fun j _ _ => by omega)
      rw [among_take l i _ h0 (by omega)] at hri hqi
      by_cases a : Among l i (rdOf ByteArray.empty l i)
      · have r0 := hri.2 a; have q0 := hqi.2 a
        refine ⟨false, Ev_succ ?_, Ev_succ ?_, no True (fun g => g.2.2 a)⟩
        · simp only [spec_l05Is.l0, if_pos hlt, if_pos h0, if_neg c1, if_neg c2]
          refine Ev.bind hb ?_
          simp only [if_true, if_pos (show i ≤ (l.length : Int) by omega)]
          refine Ev.bind hr ?_
          simp only [if_pos r0]; exact Ev.now _
        · simp only [impl_IsCode.l0, if_pos hlt, if_pos h0, if_neg c1, if_neg c2, hc, Option.bind_some, if_true, if_pos (show i ≤ (l.length : Int) by omega)]
          refine Ev.bind (a := true) ?_ ?_
          · simp only [slices_Contains_string_string.f]
            refine Ev.bind hq ?_
            simp only [decide_eq_true q0]; exact Ev.now _
          · simp only [if_true]; exact Ev.now _
      · have r0 : ¬ r ≥ 0 := fun h => a (hri.1 h)
        have q0 : ¬ q ≥ 0 := fun h => a (hqi.1 h)
        obtain ⟨z, hA, hB, hz⟩ := ih (i + 1) (by omega) (by omega) (by omega) (fun j j0 j1 => by
          by_cases e : j = i
          · rw [e]; exact ⟨⟨by omega, by omega⟩, hci.1 rfl, a⟩
          · exact hp j j0 (by omega))
        refine ⟨z, Ev_succ ?_, Ev_succ ?_, hz⟩
        · simp (disch := omega) only [spec_l05Is.l0, w64]
          simp only [if_pos hlt, if_pos h0, if_neg c1, if_neg c2]
          refine Ev.bind hb ?_
          simp only [if_true, if_pos (show i ≤ (l.length : Int) by omega)]
          refine Ev.bind hr ?_
          simp only [if_neg r0]; exact hA
        · simp (disch := omega) only [impl_IsCode.l0, w64]
          simp only [if_pos hlt, if_pos h0, if_neg c1, if_neg c2, hc, Option.bind_some, if_true, if_pos (show i ≤ (l.length : Int) by omega)]
          refine Ev.bind (a := false) ?_ ?_
          · simp only [slices_Contains_string_string.f]
            refine Ev.bind hq ?_
            simp only [decide_eq_false q0]; exact Ev.now _
          · simp only [Bool.false_eq_true, if_false]; exact hB
theorem code_both (l : List ByteArray) : ∃ b, Ev (fun k => spec_l05Is.f k l) b ∧ Ev (fun k => impl_IsCode.f k l) b ∧ (b = true ↔ CodeOk l) := by
  have JA : Ev (fun k => spec_l05Is.j0 k l true) false := by
    refine Ev_succ ?_
    simp only [spec_l05Is.j0, if_true]; exact Ev.now _
  have JB : Ev (fun k => impl_IsCode.j0 k l true) false := by
    refine Ev_succ ?_
    simp only [impl_IsCode.j0, if_true]; exact Ev.now _
  simp only [spec_l05Is.f, impl_IsCode.f]
  by_cases c1 : (l.length : Int) < 1
  · simp only [if_pos c1]
    exact ⟨false, JA, JB, by simp only [Bool.false_eq_true, false_iff]; exact fun g => by have := g.1.1; omega⟩
  by_cases c2 : (l.length : Int) > 16
  · simp only [if_neg c1, decide_eq_true c2]
    exact ⟨false, JA, JB, by simp only [Bool.false_eq_true, false_iff]; exact fun g => by have := g.1.2; omega⟩
  simp only [if_neg c1, decide_eq_false c2]
  obtain ⟨b, hA, hB, hb⟩ := code_loops l (by omega) l.length 0 (by omega) (by omega) (by omega) (fun j _ _ => by omega)
  refine ⟨b, Ev_succ ?_, Ev_succ ?_, by rw [hb]; exact ⟨fun g => ⟨⟨by omega, by omega⟩, g⟩, fun g => g.2⟩⟩
  · simpa [spec_l05Is.j0] using hA
  · simpa [impl_IsCode.j0] using hB

theorem cl_ext {a b : ByteArray} (h : a.data.toList = b.data.toList) : a = b := by
  apply ByteArray.ext
  exact Array.toList_inj.1 h
theorem cl_extract (s : ByteArray) (a b : Nat) : (s.extract a b).data.toList = (s.data.toList.drop a).take (b - a) := by
  simp only [ByteArray.data_extract, Array.toList_extract, List.extract_eq_take_drop]
theorem cl_rest (a b : ByteArray) (x : Clash.S) (h : a.data.toList = b.data.toList ++ x) : (a.extract b.size a.size).data.toList = x := by
  have h1 := congrArg List.length h
  rw [List.length_append, clash_len, clash_len] at h1
  rw [cl_extract, h, ← clash_len b, List.drop_left]
  exact List.take_of_length_le (by rw [clash_len]; omega)
theorem cl_at (a b : ByteArray) (ha : (a.size : Int) ≤ 1048576) (hb : (b.size : Int) ≤ 1048576) : ∃ c, spec_l01At.f a b 0 = some c ∧ (c = true ↔ ∃ x, a.data.toList = b.data.toList ++ x) := by
  have e0 : wrap64 (0 + (b.size : Int)) = b.size := by rw [Int.zero_add]; exact w64 (by omega) (by omega)
  simp only [spec_l01At.f, e0]
  by_cases h : (b.size : Int) ≤ (a.size : Int)
  · simp only [if_pos h, if_pos (show (0 : Int) ≤ 0 by omega), if_pos (show (0 : Int) ≤ (b.size : Int) by omega)]
    refine ⟨_, rfl, ?_⟩
    rw [beq_iff_eq, toList_inj]
    constructor
    · intro g
      refine ⟨a.data.toList.drop b.size, ?_⟩
      have := congrArg (fun z : ByteArray => z.data.toList) g
      simp only [cl_extract] at this
      rw [show (0 : Int).toNat = 0 from rfl, List.drop_zero, Int.toNat_natCast, Nat.sub_zero] at this
      rw [← this, List.take_append_drop]
    · rintro ⟨x, hx⟩
      apply cl_ext
      rw [cl_extract, hx, show (0 : Int).toNat = 0 from rfl, List.drop_zero, Int.toNat_natCast, Nat.sub_zero, ← clash_len b, List.take_left]
  · simp only [if_neg h]
    refine ⟨_, rfl, ?_⟩
    simp only [Bool.false_eq_true, false_iff]
    rintro ⟨x, hx⟩
    have := congrArg List.length hx
    rw [List.length_append, clash_len, clash_len] at this
    omega
theorem cl_lt (a b : ByteArray) : Clash.lt a.data.toList b.data.toList = true ↔ (a.size : Int) < b.size ∨ ((a.size : Int) = b.size ∧ Op.bytesLess a.toList b.toList = true) := by
  rw [Clash.lt_iff, clash_len, clash_len, Lib.toList_data, Lib.toList_data]
  constructor
  · rintro (h | ⟨h, g⟩)
    · exact .inl (by omega)
    · exact .inr ⟨by omega, g⟩
  · rintro (h | ⟨h, g⟩)
    · exact .inl (by omega)
    · exact .inr ⟨by omega, g⟩
def pk (x : S48) : Clash.S × Clash.S := (x.f0.data.toList, x.f1.data.toList)
structure AL (P : List (Clash.S × Clash.S)) (T : Clash.S → Option Clash.S) (dn : Clash.S → Bool) : Prop where
  on : ∀ p ∈ P, dn p.1 = false ∧ T p.1 = some p.2
  all : ∀ s t, dn s = false → T s = some t → (s, t) ∈ P
  nd : P.Pairwise (fun p q => p.1 ≠ q.1)
theorem AL.away {A C : List (Clash.S × Clash.S)} {p : Clash.S × Clash.S} {T : Clash.S → Option Clash.S} {dn : Clash.S → Bool} (h : AL (A ++ p :: C) T dn) : ∀ q, q ∈ A ∨ q ∈ C → q.1 ≠ p.1 := by
  have hn := h.nd
  rw [List.pairwise_append] at hn
  intro q hq
  rcases hq with hq | hq
  · exact hn.2.2 q hq p List.mem_cons_self
  · exact fun e => (List.pairwise_cons.1 hn.2.1).1 q hq e.symm
theorem AL.erase {A C : List (Clash.S × Clash.S)} {p : Clash.S × Clash.S} {T : Clash.S → Option Clash.S} {dn : Clash.S → Bool} (h : AL (A ++ p :: C) T dn) : AL (A ++ C) T (fun x => dn x || decide (x = p.1)) where
  on q hq := by
    have hq' := List.mem_append.1 hq
    have h1 := h.on q (by
      rw [List.mem_append, List.mem_cons]
      rcases hq' with g | g
      · exact .inl g
      · exact .inr (.inr g))
    exact ⟨by rw [h1.1, decide_eq_false (h.away q hq')]; rfl, h1.2⟩
  all s t hd ht := by
    simp only [Bool.or_eq_false_iff, decide_eq_false_iff_not] at hd
    have h1 := h.all s t hd.1 ht
    rw [List.mem_append, List.mem_cons] at h1
    rw [List.mem_append]
    rcases h1 with g | g | g
    · exact .inl g
    · exact absurd (by rw [← g]) hd.2
    · exact .inr g
  nd := h.nd.sublist (List.Sublist.append (List.Sublist.refl A) (List.sublist_cons_self p C))
theorem AL.set {A C : List (Clash.S × Clash.S)} {p : Clash.S × Clash.S} {T : Clash.S → Option Clash.S} {dn : Clash.S → Bool} (h : AL (A ++ p :: C) T dn) {t : Clash.S} (hp : Clash.put T p.1 t p.1 = some t) : AL (A ++ (p.1, t) :: C) (Clash.put T p.1 t) dn where
  on q hq := by
    rw [List.mem_append, List.mem_cons] at hq
    have h1 := h.on p (by simp)
    rcases hq with g | rfl | g
    · have h2 := h.on q (by simp [g])
      exact ⟨h2.1, by rw [Clash.put_other (h.away q (.inl g))]; exact h2.2⟩
    · exact ⟨h1.1, hp⟩
    · have h2 := h.on q (by simp [g])
      exact ⟨h2.1, by rw [Clash.put_other (h.away q (.inr g))]; exact h2.2⟩
  all s u hd hu := by
    rw [List.mem_append, List.mem_cons]
    by_cases e : s = p.1
    · subst e
      rw [hp] at hu; cases hu
      exact .inr (.inl rfl)
    · rw [Clash.put_other e] at hu
      have h1 := h.all s u hd hu
      rw [List.mem_append, List.mem_cons] at h1
      rcases h1 with g | g | g
      · exact .inl g
      · exact absurd (by rw [← g]) e
      · exact .inr (.inr g)
  nd := by
    have hn := h.nd
    rw [List.pairwise_append, List.pairwise_cons] at hn ⊢
    refine ⟨hn.1, ⟨fun q hq => hn.2.1.1 q hq, hn.2.1.2⟩, fun q hq q' hq' => ?_⟩
    rw [List.mem_cons] at hq'
    rcases hq' with rfl | g
    · exact hn.2.2 q hq p List.mem_cons_self
    · exact hn.2.2 q hq q' (List.mem_cons_of_mem _ g)
theorem AL.snoc {P : List (Clash.S × Clash.S)} {T : Clash.S → Option Clash.S} {dn : Clash.S → Bool} (h : AL P T dn) {s t : Clash.S} (hs : ∀ p ∈ P, p.1 ≠ s) (hd : dn s = false) : AL (P ++ [(s, t)]) (Clash.put T s t) dn where
  on q hq := by
    rw [List.mem_append, List.mem_singleton] at hq
    rcases hq with g | rfl
    · rw [Clash.put_other (hs q g)]; exact h.on q g
    · refine ⟨hd, Clash.put_none _ ?_⟩
      cases e : T s with
      | none => rfl
      | some u => exact absurd rfl (hs _ (h.all s u hd e))
  all x u hx hu := by
    rw [List.mem_append, List.mem_singleton]
    by_cases e : x = s
    · subst e
      rw [Clash.put_none _ (by
        cases e : T x with
        | none => rfl
        | some u => exact absurd rfl (hs _ (h.all x u hx e)))] at hu
      cases hu
      exact .inr rfl
    · rw [Clash.put_other e] at hu
      exact .inl (h.all x u hx hu)
  nd := by
    rw [List.pairwise_append]
    refine ⟨h.nd, List.pairwise_singleton _ _, fun q hq q' hq' => ?_⟩
    rw [List.mem_singleton] at hq'
    subst hq'
    exact hs q hq
theorem op_split (op : List S48) (i : Nat) (h : i < op.length) : op.map pk = (op.map pk).take i ++ pk (rd_T48 op (i : Int)) :: (op.map pk).drop (i + 1) := by
  have h2 : i < (op.map pk).length := by rw [List.length_map]; exact h
  have e : pk (rd_T48 op (i : Int)) = (op.map pk)[i] := by
    unfold rd_T48
    rw [Int.toNat_natCast, List.getD_eq_getElem?_getD, List.getElem?_eq_getElem h, List.getElem_map]; rfl
  rw [e, ← List.drop_eq_getElem_cons h2, List.take_append_drop]
theorem op_set (op : List S48) (i : Nat) (h : i < op.length) (v : S48) : (op.set i v).map pk = (op.map pk).take i ++ pk v :: (op.map pk).drop (i + 1) := by
  rw [List.map_set, List.set_eq_take_append_cons_drop, if_pos (by rw [List.length_map]; exact h)]
theorem op_mem (op : List S48) (i : Nat) (h : i < op.length) : pk (rd_T48 op (i : Int)) ∈ op.map pk := by
  rw [op_split op i h]; simp
theorem put_loop (op : List S48) (a b : ByteArray) (T : Clash.S → Option Clash.S) (dn : Clash.S → Bool) (h : AL (op.map pk) T dn) (hd : dn a.data.toList = false) (hn : op.length ≤ 100000) (d : Nat) : ∀ i : Nat, i + d = op.length → (∀ j : Nat, j < i → (rd_T48 op (j : Int)).f0 ≠ a) →
    ∃ op', Ev (fun k => spec_l05Put.l0 k op (i : Int) a b) op' ∧ AL (op'.map pk) (Clash.put T a.data.toList b.data.toList) dn ∧ op'.length ≤ op.length + 1 := by
  induction d with
  | zero =>
    intro i hi hp
    refine ⟨op ++ [⟨a, b⟩], Ev_succ ?_, ?_, by rw [List.length_append, List.length_singleton]; omega⟩
    · simp only [spec_l05Put.l0, if_neg (show ¬ (i : Int) < (op.length : Int) by omega), if_pos (show op.length < 4398046511104 by omega)]; exact Ev.now _
    · rw [List.map_append]
      refine h.snoc (fun p hp2 e => ?_) hd
      obtain ⟨x, hx, rfl⟩ := List.mem_map.1 hp2
      obtain ⟨j, hj, rfl⟩ := List.getElem_of_mem hx
      refine hp j (by omega) ?_
      unfold rd_T48
      rw [Int.toNat_natCast, List.getD_eq_getElem?_getD, List.getElem?_eq_getElem hj]
      exact cl_ext e
  | succ d ih =>
    intro i hi hp
    have hlt : (i : Int) < (op.length : Int) := by omega
    have hil : i < op.length := by omega
    have e1 : wrap64 ((i : Int) + 1) = ((i + 1 : Nat) : Int) := by rw [w64 (by omega) (by omega)]; omega
    by_cases c : (rd_T48 op (i : Int)).f0 = a
    · have hsp := op_split op i hil
      have h' := h
      rw [hsp] at h'
      have hT := (h.on _ (op_mem op i hil)).2
      have hk : (pk (rd_T48 op (i : Int))).1 = a.data.toList := by rw [← c]; rfl
      rw [hk] at hT
      by_cases hl : Clash.lt b.data.toList (pk (rd_T48 op (i : Int))).2 = true
      · have hl2 := (cl_lt b (rd_T48 op (i : Int)).f1).1 hl
        refine ⟨op.set i ⟨a, b⟩, Ev_succ ?_, ?_, by rw [List.length_set]; omega⟩
        · simp only [spec_l05Put.l0, if_pos hlt, if_pos (show (0 : Int) ≤ i by omega), toList_inj, if_pos c, Int.toNat_natCast]
          by_cases g : (b.size : Int) < ((rd_T48 op (i : Int)).f1.size : Int)
          · simp only [if_pos g]; exact Ev.now _
          · rcases hl2 with g2 | ⟨g2, g3⟩
            · exact absurd g2 g
            · simp only [if_neg g, if_pos g2, if_pos g3]; exact Ev.now _
        · rw [op_set op i hil]
          have := h'.set (t := b.data.toList) (by rw [hk]; exact Clash.put_less hT hl)
          rw [hk] at this
          exact this
      · have hl2 : ¬ ((b.size : Int) < (rd_T48 op (i : Int)).f1.size ∨ ((b.size : Int) = (rd_T48 op (i : Int)).f1.size ∧ Op.bytesLess b.toList (rd_T48 op (i : Int)).f1.toList = true)) := fun g => hl ((cl_lt b (rd_T48 op (i : Int)).f1).2 g)
        refine ⟨op, Ev_succ ?_, by rw [Clash.put_keep hT hl]; exact h, by omega⟩
        simp only [spec_l05Put.l0, if_pos hlt, if_pos (show (0 : Int) ≤ i by omega), toList_inj, if_pos c]
        simp only [if_neg (fun g => hl2 (.inl g))]
        by_cases g2 : (b.size : Int) = ((rd_T48 op (i : Int)).f1.size : Int)
        · simp only [if_pos g2, if_neg (fun g => hl2 (.inr ⟨g2, g⟩))]; exact Ev.now _
        · simp only [if_neg g2]; exact Ev.now _
    · obtain ⟨op', hE, hA, hL⟩ := ih (i + 1) (by omega) (fun j hj => by
        by_cases e : j = i
        · rw [e]; exact c
        · exact hp j (by omega))
      refine ⟨op', Ev_succ ?_, hA, hL⟩
      simp only [spec_l05Put.l0, if_pos hlt, if_pos (show (0 : Int) ≤ i by omega), toList_inj, if_neg c, e1]
      exact hE
theorem put_ev (op : List S48) (a b : ByteArray) (T : Clash.S → Option Clash.S) (dn : Clash.S → Bool) (h : AL (op.map pk) T dn) (hd : dn a.data.toList = false) (hn : op.length ≤ 100000) :
    ∃ op', Ev (fun k => spec_l05Put.f k op a b) op' ∧ AL (op'.map pk) (Clash.put T a.data.toList b.data.toList) dn ∧ op'.length ≤ op.length + 1 := by
  obtain ⟨op', hE, r⟩ := put_loop op a b T dn h hd hn op.length 0 (by omega) (fun j hj => by omega)
  exact ⟨op', hE, r⟩
theorem cl_word (l0 : List ByteArray) (i : Nat) (h : i < l0.length) : (l0.map (·.data.toList))[i]? = some (rdOf ByteArray.empty l0 (i : Int)).data.toList := by
  rw [List.getElem?_map, List.getElem?_eq_getElem h]
  unfold rdOf
  rw [Int.toNat_natCast, List.getD_eq_getElem?_getD, List.getElem?_eq_getElem h]
  rfl
theorem first_loop (l : List ByteArray) (hl : l.length ≤ 16) (hs : ∀ i : Nat, i < l.length → (rdOf ByteArray.empty l (i : Int)).size ≤ 12) (ws : List Clash.S) (hws : ws = l.map (·.data.toList)) (e : Nat) : ∀ (i : Nat) (op : List S48) (T : Clash.S → Option Clash.S), i + e = l.length → AL (op.map pk) T (fun _ => false) → Clash.Inv ws T (fun _ => false) (clashC ws i 0) → ClB T 12 → op.length ≤ 16 * i →
    ∃ op' T', AL (op'.map pk) T' (fun _ => false) ∧ Clash.Inv ws T' (fun _ => false) (clashC ws l.length 0) ∧ ClB T' 12 ∧ op'.length ≤ 256 ∧ ∀ r, Ev (fun k => spec_l05Clash.l2 k l op' []) r → Ev (fun k => spec_l05Clash.l0 k l op (i : Int)) r := by
  have hwl : ws.length = l.length := by rw [hws, List.length_map]
  have hwi : ∀ i : Nat, i < l.length → ws[i]? = some (rdOf ByteArray.empty l (i : Int)).data.toList := fun i hi => by rw [hws]; exact cl_word l i hi
  induction e with
  | zero =>
    intro i op T hi hA hI hB hn
    obtain rfl : i = l.length := by omega
    refine ⟨op, T, hA, hI, hB, by omega, fun r hr => Ev_succ ?_⟩
    simp only [spec_l05Clash.l0, if_neg (show ¬ (l.length : Int) < (l.length : Int) by omega)]
    exact hr
  | succ e ih =>
    intro i op T hi hA hI hB hn
    have hil : i < l.length := by omega
    have inner : ∀ (d j : Nat) (op : List S48) (T : Clash.S → Option Clash.S), j + d = l.length → AL (op.map pk) T (fun _ => false) → Clash.Inv ws T (fun _ => false) (clashC ws i j) → ClB T 12 → op.length ≤ 16 * i + j →
        ∃ op' T', AL (op'.map pk) T' (fun _ => false) ∧ Clash.Inv ws T' (fun _ => false) (clashC ws l.length 0) ∧ ClB T' 12 ∧ op'.length ≤ 256 ∧ ∀ r, Ev (fun k => spec_l05Clash.l2 k l op' []) r → Ev (fun k => spec_l05Clash.l1 k l op (i : Int) (j : Int)) r := by
      intro d
      induction d with
      | zero =>
        intro j op T hj hA hI hB hn
        obtain ⟨op', T', h1, h2, h3, h4, h5⟩ := ih (i + 1) op T (by omega) hA (hI.weaken (fun x y g => clashC_next (by omega) g)) hB (by omega)
        refine ⟨op', T', h1, h2, h3, h4, fun r hr => Ev_succ ?_⟩
        have e1 : wrap64 ((i : Int) + 1) = ((i + 1 : Nat) : Int) := by rw [w64 (by omega) (by omega)]; omega
        simp only [spec_l05Clash.l1, if_neg (show ¬ (j : Int) < (l.length : Int) by omega), e1]
        exact h5 r hr
      | succ d ihd =>
        intro j op T hj hA hI hB hn
        have hjl : j < l.length := by omega
        have e1 : wrap64 ((j : Int) + 1) = ((j + 1 : Nat) : Int) := by rw [w64 (by omega) (by omega)]; omega
        have skip : (i = j ∨ ∀ x, (rdOf ByteArray.empty l (j : Int)).data.toList ≠ (rdOf ByteArray.empty l (i : Int)).data.toList ++ x) → ∃ op' T', AL (op'.map pk) T' (fun _ => false) ∧ Clash.Inv ws T' (fun _ => false) (clashC ws l.length 0) ∧ ClB T' 12 ∧ op'.length ≤ 256 ∧ ∀ r, Ev (fun k => spec_l05Clash.l2 k l op' []) r → Ev (fun k => spec_l05Clash.l1 k l op (i : Int) ((j + 1 : Nat) : Int)) r :=
          fun hn' => ihd (j + 1) op T (by omega) hA (hI.weaken (fun x y g => clashC_none (hwi i hil) (hwi j hjl) hn' g)) hB (by omega)
        by_cases hij : i = j
        · obtain ⟨op', T', h1, h2, h3, h4, h5⟩ := skip (.inl hij)
          refine ⟨op', T', h1, h2, h3, h4, fun r hr => Ev_succ ?_⟩
          simp only [spec_l05Clash.l1, if_pos (show (j : Int) < (l.length : Int) by omega), if_pos (show (i : Int) = (j : Int) by omega), e1]
          exact h5 r hr
        · have z1 := hs i hil
          have z2 := hs j hjl
          obtain ⟨c, hc, hci⟩ := cl_at (rdOf ByteArray.empty l (j : Int)) (rdOf ByteArray.empty l (i : Int)) (by omega) (by omega)
          cases c with
          | false =>
            obtain ⟨op', T', h1, h2, h3, h4, h5⟩ := skip (.inr (fun x hx => by have := hci.2 ⟨x, hx⟩; cases this))
            refine ⟨op', T', h1, h2, h3, h4, fun r hr => Ev_succ ?_⟩
            simp only [spec_l05Clash.l1, if_pos (show (j : Int) < (l.length : Int) by omega), if_neg (show ¬ (i : Int) = (j : Int) by omega), if_pos (show (0 : Int) ≤ j by omega), if_pos (show (0 : Int) ≤ i by omega), if_pos (show (i : Int) < (l.length : Int) by omega), hc, Option.bind_some, Bool.false_eq_true, if_false, e1]
            exact h5 r hr
          | true =>
            obtain ⟨x, hx⟩ := hci.1 rfl
            have hzx := congrArg List.length hx
            rw [List.length_append, clash_len, clash_len] at hzx
            have hrest := cl_rest (rdOf ByteArray.empty l (j : Int)) (rdOf ByteArray.empty l (i : Int)) x hx
            obtain ⟨op1, hE, hA1, hL1⟩ := put_ev op ((rdOf ByteArray.empty l (j : Int)).extract (rdOf ByteArray.empty l (i : Int)).size (rdOf ByteArray.empty l (j : Int)).size) (rdOf ByteArray.empty l (j : Int)) T (fun _ => false) hA rfl (by omega)
            rw [hrest] at hA1
            obtain ⟨op', T', h1, h2, h3, h4, h5⟩ := ihd (j + 1) op1 _ (by omega) hA1
              ((hI.put_first (.base ⟨i, j, hij, (rdOf ByteArray.empty l (i : Int)).data.toList, hwi i hil, hwi j hjl, hx⟩)).weaken (fun a b g => clashC_some (hwi i hil) (hwi j hjl) hx g)) (hB.put (by omega) (by rw [clash_len]; omega)) (by omega)
            refine ⟨op', T', h1, h2, h3, h4, fun r hr => Ev_succ ?_⟩
            simp only [spec_l05Clash.l1, if_pos (show (j : Int) < (l.length : Int) by omega), if_neg (show ¬ (i : Int) = (j : Int) by omega), if_pos (show (0 : Int) ≤ j by omega), if_pos (show (0 : Int) ≤ i by omega), if_pos (show (i : Int) < (l.length : Int) by omega), hc, Option.bind_some, if_true, e1, if_pos (show (0 : Int) ≤ ((rdOf ByteArray.empty l (i : Int)).size : Int) by omega), if_pos (show ((rdOf ByteArray.empty l (i : Int)).size : Int) ≤ ((rdOf ByteArray.empty l (j : Int)).size : Int) by omega), Int.toNat_natCast]
            exact Ev.bind hE (h5 r hr)
    obtain ⟨op', T', h1, h2, h3, h4, h5⟩ := inner l.length 0 op T (by omega) hA hI hB (by omega)
    refine ⟨op', T', h1, h2, h3, h4, fun r hr => Ev_succ ?_⟩
    simp only [spec_l05Clash.l0, if_pos (show (i : Int) < (l.length : Int) by omega)]
    exact h5 r hr

theorem best_loop (l : List ByteArray) (op : List S48) (done : List ByteArray) (hn : op.length ≤ 100000) (d : Nat) : ∀ b i : Nat, b < i → i + d = op.length → (∀ j : Nat, j < i → Clash.le (pk (rd_T48 op (b : Int))).2 (pk (rd_T48 op (j : Int))).2) →
    ∃ b', b' < op.length ∧ (∀ j : Nat, j < op.length → Clash.le (pk (rd_T48 op (b' : Int))).2 (pk (rd_T48 op (j : Int))).2) ∧ ∀ r, Ev (fun k => spec_l05Clash.l3 k l op done (b' : Int) (op.length : Int)) r → Ev (fun k => spec_l05Clash.l3 k l op done (b : Int) (i : Int)) r := by
  induction d with
  | zero =>
    intro b i hb hi hm
    obtain rfl : i = op.length := by omega
    exact ⟨b, hb, hm, fun r hr => hr⟩
  | succ d ih =>
    intro b i hb hi hm
    have e1 : wrap64 ((i : Int) + 1) = ((i + 1 : Nat) : Int) := by rw [w64 (by omega) (by omega)]; omega
    by_cases hl : Clash.lt (pk (rd_T48 op (i : Int))).2 (pk (rd_T48 op (b : Int))).2 = true
    · obtain ⟨b', h1, h2, h3⟩ := ih i (i + 1) (by omega) (by omega) (fun j hj => by
        by_cases e : j = i
        · rw [e]; exact Clash.le_refl _
        · exact Clash.le_trans (Clash.le_of_lt hl) (hm j (by omega)))
      refine ⟨b', h1, h2, fun r hr => Ev_succ ?_⟩
      have hl2 := (cl_lt (rd_T48 op (i : Int)).f1 (rd_T48 op (b : Int)).f1).1 hl
      simp only [spec_l05Clash.l3, if_pos (show (i : Int) < (op.length : Int) by omega), if_pos (show (0 : Int) ≤ i by omega), if_pos (show (0 : Int) ≤ b by omega), if_pos (show (b : Int) < (op.length : Int) by omega), e1]
      by_cases g : ((rd_T48 op (i : Int)).f1.size : Int) < ((rd_T48 op (b : Int)).f1.size : Int)
      · simp only [if_pos g]; exact h3 r hr
      · rcases hl2 with g2 | ⟨g2, g3⟩
        · exact absurd g2 g
        · simp only [if_neg g, if_pos g2, if_pos g3]; exact h3 r hr
    · obtain ⟨b', h1, h2, h3⟩ := ih b (i + 1) (by omega) (by omega) (fun j hj => by
        by_cases e : j = i
        · rw [e]; exact hl
        · exact hm j (by omega))
      refine ⟨b', h1, h2, fun r hr => Ev_succ ?_⟩
      have hl2 : ¬ (((rd_T48 op (i : Int)).f1.size : Int) < (rd_T48 op (b : Int)).f1.size ∨ (((rd_T48 op (i : Int)).f1.size : Int) = (rd_T48 op (b : Int)).f1.size ∧ Op.bytesLess (rd_T48 op (i : Int)).f1.toList (rd_T48 op (b : Int)).f1.toList = true)) := fun g => hl ((cl_lt _ _).2 g)
      simp only [spec_l05Clash.l3, if_pos (show (i : Int) < (op.length : Int) by omega), if_pos (show (0 : Int) ≤ i by omega), if_pos (show (0 : Int) ≤ b by omega), if_pos (show (b : Int) < (op.length : Int) by omega), e1, if_neg (fun g => hl2 (.inl g))]
      by_cases g2 : ((rd_T48 op (i : Int)).f1.size : Int) = ((rd_T48 op (b : Int)).f1.size : Int)
      · simp only [if_pos g2, if_neg (fun g => hl2 (.inr ⟨g2, g⟩))]; exact h3 r hr
      · simp only [if_neg g2]; exact h3 r hr
theorem among_mem (l : List ByteArray) (x : ByteArray) : Among l l.length x ↔ x.data.toList ∈ l.map (·.data.toList) := by
  constructor
  · rintro ⟨j, h0, h1, rfl⟩
    exact List.mem_map.2 ⟨_, rs_mem l j h0 h1, rfl⟩
  · intro h
    obtain ⟨y, hy, e⟩ := List.mem_map.1 h
    obtain ⟨j, hj, rfl⟩ := List.getElem_of_mem hy
    refine ⟨(j : Int), by omega, by omega, ?_⟩
    unfold rdOf
    rw [Int.toNat_natCast, List.getD_eq_getElem?_getD, List.getElem?_eq_getElem hj]
    exact cl_ext e
theorem index_ev (l : List ByteArray) (x : ByteArray) (hl : l.length ≤ 100000) : ∃ r, Ev (fun k => spec_l03Index.f k l x) r ∧ (r ≥ 0 ↔ x.data.toList ∈ l.map (·.data.toList)) := by
  obtain ⟨r, hr, hi⟩ := index3_loop l x (by omega) l.length 0 (by omega) (by omega) (by omega) (fun j _ _ => by omega)
  exact ⟨r, hr, hi.trans (among_mem l x)⟩
section
variable {ws : List Clash.S} {best t0 : Clash.S} {T0 : Clash.S → Option Clash.S} {dn : Clash.S → Bool}
/-- behind a word: what the spec's round has made. -/
theorem word_step (l : List ByteArray) (done : List ByteArray) (op : List S48) (T : Clash.S → Option Clash.S) {C : Clash.S → Clash.S → Prop} (R : Clash.Rnd ws T dn C t0) (hA : AL (op.map pk) T dn) (hdn : ∀ s, dn s = true ↔ s ∈ done.map (·.data.toList)) (hdl : done.length ≤ 1000) (hol : op.length ≤ 10000)
    (a b : ByteArray) (hl : Clash.le t0 b.data.toList) (j ahead bits : ByteArray) (jj : Int) :
    ∃ op', AL (op'.map pk) (Clash.put T a.data.toList b.data.toList) dn ∧ op'.length ≤ op.length + 1 ∧ ∀ r, Ev (fun k => spec_l05Clash.l4 k l op' done (wrap64 (jj + 1)) ahead bits) r → Ev (fun k => spec_l05Clash.j5 k l op done jj ahead bits a b) r := by
  obtain ⟨q, hq, hqi⟩ := index_ev done a (by omega)
  by_cases hd : dn a.data.toList = true
  · have hq0 : q ≥ 0 := hqi.2 ((hdn _).1 hd)
    have hput : Clash.put T a.data.toList b.data.toList = T := by
      obtain ⟨u, hu⟩ := (R.done _ hd).2
      exact Clash.put_keep hu (Clash.le_trans (R.low _ _ hd hu) hl)
    refine ⟨op, by rw [hput]; exact hA, by omega, fun r hr => Ev_succ ?_⟩
    simp only [spec_l05Clash.j5]
    refine Ev.bind hq ?_
    simp only [if_neg (show ¬ q < 0 by omega)]
    exact hr
  · have hq0 : ¬ q ≥ 0 := fun g => hd ((hdn _).2 (hqi.1 g))
    obtain ⟨op', hE, hA', hL⟩ := put_ev op a b T dn hA (by simpa using hd) (by omega)
    refine ⟨op', hA', hL, fun r hr => Ev_succ ?_⟩
    simp only [spec_l05Clash.j5]
    refine Ev.bind hq ?_
    simp only [if_pos (show q < 0 by omega)]
    exact Ev.bind hE hr
end
theorem words_loop (l : List ByteArray) (hl : l.length ≤ 16) (hs : ∀ i : Nat, i < l.length → (rdOf ByteArray.empty l (i : Int)).size ≤ 12) (ws : List Clash.S) (hws : ws = l.map (·.data.toList)) (done : List ByteArray) (hdl : done.length ≤ 1000) (ahead bits : ByteArray) (hne : ahead.data.toList ≠ [])
    (C0 : Clash.S → Clash.S → Prop) (T0 : Clash.S → Option Clash.S) (dn : Clash.S → Bool) (hdn : ∀ s, dn s = true ↔ s ∈ done.map (·.data.toList)) (hd : dn ahead.data.toList = true) (b : Nat) (hb : b ≤ 10000) (ho : bits.size + 12 ≤ b) (e : Nat) : ∀ (j : Nat) (op : List S48) (T : Clash.S → Option Clash.S), j + e = l.length → AL (op.map pk) T dn →
    Clash.Rnd ws T dn (fun x y => C0 x y ∨ ∃ a, a < j ∧ ∃ wd, ws[a]? = some wd ∧ Clash.W ahead.data.toList bits.data.toList wd x y) bits.data.toList → (∀ a, dn a = true → T a = T0 a) → T ahead.data.toList = some bits.data.toList → ClB T b → op.length + (l.length - j) ≤ 9000 →
    ∃ op' T', AL (op'.map pk) T' dn ∧ Clash.Rnd ws T' dn (fun x y => C0 x y ∨ ∃ a, a < l.length ∧ ∃ wd, ws[a]? = some wd ∧ Clash.W ahead.data.toList bits.data.toList wd x y) bits.data.toList ∧ (∀ a, dn a = true → T' a = T0 a) ∧ ClB T' b ∧ op'.length ≤ op.length + (l.length - j) ∧
      ∀ r, Ev (fun k => spec_l05Clash.l2 k l op' done) r → Ev (fun k => spec_l05Clash.l4 k l op done (j : Int) ahead bits) r := by
  have hwl : ws.length = l.length := by rw [hws, List.length_map]
  have hwi : ∀ i : Nat, i < l.length → ws[i]? = some (rdOf ByteArray.empty l (i : Int)).data.toList := fun i hi => by rw [hws]; exact cl_word l i hi
  induction e with
  | zero =>
    intro j op T hj hA hR hk hT hB hn
    obtain rfl : j = l.length := by omega
    refine ⟨op, T, hA, hR, hk, hB, by omega, fun r hr => Ev_succ ?_⟩
    simp only [spec_l05Clash.l4, if_neg (show ¬ (l.length : Int) < (l.length : Int) by omega)]
    exact hr
  | succ e ih =>
    intro j op T hj hA hR hk hT hB hn
    have hjl : j < l.length := by omega
    have e1 : wrap64 ((j : Int) + 1) = ((j + 1 : Nat) : Int) := by rw [w64 (by omega) (by omega)]; omega
    have z1 := hs j hjl
    have z2 := (hB _ _ hT).1
    have z3 := (hB _ _ hT).2
    rw [clash_len] at z2 z3
    have hw := hwi j hjl
    have fin : ∀ (a t : ByteArray), Clash.le bits.data.toList t.data.toList → Clash.Rnd ws (Clash.put T a.data.toList t.data.toList) dn (fun x y => (C0 x y ∨ ∃ a, a < j ∧ ∃ wd, ws[a]? = some wd ∧ Clash.W ahead.data.toList bits.data.toList wd x y) ∨ Clash.W ahead.data.toList bits.data.toList (rdOf ByteArray.empty l (j : Int)).data.toList x y) bits.data.toList →
        a.size ≤ 12 → t.size ≤ b → ∃ op' T', AL (op'.map pk) T' dn ∧ Clash.Rnd ws T' dn (fun x y => C0 x y ∨ ∃ a, a < l.length ∧ ∃ wd, ws[a]? = some wd ∧ Clash.W ahead.data.toList bits.data.toList wd x y) bits.data.toList ∧ (∀ a, dn a = true → T' a = T0 a) ∧ ClB T' b ∧ op'.length ≤ op.length + (l.length - j) ∧
        ∀ r, Ev (fun k => spec_l05Clash.l2 k l op' done) r → Ev (fun k => spec_l05Clash.j5 k l op done (j : Int) ahead bits a t) r := by
      intro a t hle hR2 ha ht
      obtain ⟨op1, hA1, hL1, hE1⟩ := word_step l done op T hR hA hdn hdl (by omega) a t hle ahead ahead bits (j : Int)
      have hkeep : ∀ x, dn x = true → Clash.put T a.data.toList t.data.toList x = T x := fun x hx => hR.keep hle x hx
      obtain ⟨op', T', h1, h2, h3, h4, h5, h6⟩ := ih (j + 1) op1 _ (by omega) hA1 (hR2.weaken (fun x y g => clash_next_word hw g)) (fun x hx => (hkeep x hx).trans (hk x hx)) ((hkeep _ hd).trans hT) (hB.put (by rw [clash_len]; exact ha) (by rw [clash_len]; exact ht)) (by omega)
      refine ⟨op', T', h1, h2, h3, h4, by omega, fun r hr => hE1 r ?_⟩
      rw [e1]
      exact h6 r hr
    obtain ⟨c, hc, hci⟩ := cl_at ahead (rdOf ByteArray.empty l (j : Int)) (by omega) (by omega)
    cases c with
    | true =>
      obtain ⟨x, hx⟩ := hci.1 rfl
      have hzx := congrArg List.length hx
      rw [List.length_append, clash_len, clash_len] at hzx
      have hrest := cl_rest ahead (rdOf ByteArray.empty l (j : Int)) x hx
      obtain ⟨op', T', h1, h2, h3, h4, h5, h6⟩ := fin (ahead.extract (rdOf ByteArray.empty l (j : Int)).size ahead.size) bits (Clash.le_refl _) (by rw [hrest]; exact hR.word_cut hT hne (List.mem_of_getElem? hw) hx) (by rw [← clash_len, hrest]; omega) (by omega)
      refine ⟨op', T', h1, h2, h3, h4, h5, fun r hr => Ev_succ ?_⟩
      simp only [spec_l05Clash.l4, if_pos (show (j : Int) < (l.length : Int) by omega), if_pos (show (0 : Int) ≤ j by omega), hc, Option.bind_some, if_true, if_pos (show (0 : Int) ≤ ((rdOf ByteArray.empty l (j : Int)).size : Int) by omega), if_pos (show ((rdOf ByteArray.empty l (j : Int)).size : Int) ≤ (ahead.size : Int) by omega), Int.toNat_natCast]
      exact h6 r hr
    | false =>
      have hn1 : ∀ x, ahead.data.toList ≠ (rdOf ByteArray.empty l (j : Int)).data.toList ++ x := fun x hx => by have := hci.2 ⟨x, hx⟩; cases this
      obtain ⟨c2, hc2, hci2⟩ := cl_at (rdOf ByteArray.empty l (j : Int)) ahead (by omega) (by omega)
      cases c2 with
      | true =>
        obtain ⟨x, hx⟩ := hci2.1 rfl
        have hzx := congrArg List.length hx
        rw [List.length_append, clash_len, clash_len] at hzx
        have hrest := cl_rest (rdOf ByteArray.empty l (j : Int)) ahead x hx
        have hxs : ((rdOf ByteArray.empty l (j : Int)).extract ahead.size (rdOf ByteArray.empty l (j : Int)).size).size = x.length := by rw [← clash_len, hrest]
        have happ : (bits ++ (rdOf ByteArray.empty l (j : Int)).extract ahead.size (rdOf ByteArray.empty l (j : Int)).size).data.toList = bits.data.toList ++ x := by rw [ByteArray.data_append, Array.toList_append, hrest]
        obtain ⟨op', T', h1, h2, h3, h4, h5, h6⟩ := fin ((rdOf ByteArray.empty l (j : Int)).extract ahead.size (rdOf ByteArray.empty l (j : Int)).size) (bits ++ (rdOf ByteArray.empty l (j : Int)).extract ahead.size (rdOf ByteArray.empty l (j : Int)).size) (by rw [happ]; exact Clash.le_append _ _) (by rw [hrest, happ]; exact hR.word_more hT hne (List.mem_of_getElem? hw) hx hn1) (by rw [hxs]; omega) (by rw [← clash_len, happ, List.length_append, clash_len]; omega)
        refine ⟨op', T', h1, h2, h3, h4, h5, fun r hr => Ev_succ ?_⟩
        simp only [spec_l05Clash.l4, if_pos (show (j : Int) < (l.length : Int) by omega), if_pos (show (0 : Int) ≤ j by omega), hc, hc2, Option.bind_some, Bool.false_eq_true, if_false, if_true, if_pos (show (0 : Int) ≤ (ahead.size : Int) by omega), if_pos (show (ahead.size : Int) ≤ ((rdOf ByteArray.empty l (j : Int)).size : Int) by omega), Int.toNat_natCast, if_pos (show bits.size + ((rdOf ByteArray.empty l (j : Int)).extract ahead.size (rdOf ByteArray.empty l (j : Int)).size).size ≤ 9223372036854775807 by rw [hxs]; omega)]
        exact h6 r hr
      | false =>
        have hn2 : ∀ x, (rdOf ByteArray.empty l (j : Int)).data.toList ≠ ahead.data.toList ++ x := fun x hx => by have := hci2.2 ⟨x, hx⟩; cases this
        obtain ⟨op', T', h1, h2, h3, h4, h5, h6⟩ := ih (j + 1) op T (by omega) hA ((hR.word_none hn1 hn2).weaken (fun x y g => clash_next_word hw g)) hk hT hB (by omega)
        refine ⟨op', T', h1, h2, h3, h4, by omega, fun r hr => Ev_succ ?_⟩
        simp only [spec_l05Clash.l4, if_pos (show (j : Int) < (l.length : Int) by omega), if_pos (show (0 : Int) ≤ j by omega), hc, hc2, Option.bind_some, Bool.false_eq_true, if_false, e1]
        exact h6 r hr

theorem op_all (op : List S48) {p : Clash.S × Clash.S} (h : p ∈ op.map pk) : ∃ j : Nat, j < op.length ∧ pk (rd_T48 op (j : Int)) = p := by
  obtain ⟨x, hx, rfl⟩ := List.mem_map.1 h
  obtain ⟨j, hj, rfl⟩ := List.getElem_of_mem hx
  refine ⟨j, hj, ?_⟩
  unfold rd_T48
  rw [Int.toNat_natCast, List.getD_eq_getElem?_getD, List.getElem?_eq_getElem hj]
  rfl
theorem main_loop (l : List ByteArray) (hl : l.length ≤ 16) (hs : ∀ i : Nat, i < l.length → (rdOf ByteArray.empty l (i : Int)).size ≤ 12) (ws : List Clash.S) (hws : ws = l.map (·.data.toList)) (hM : (Clash.sufs ws).length ≤ 208) (N : Nat) : ∀ (op : List S48) (done : List ByteArray) (T : Clash.S → Option Clash.S) (dn : Clash.S → Bool) (b : Nat),
    AL (op.map pk) T dn → Clash.Inv ws T dn (Clash.All ws T dn) → (∀ a t x u, dn a = true → T a = some t → dn x = false → T x = some u → Clash.le t u) → (∀ s, dn s = true ↔ s ∈ done.map (·.data.toList)) → N = Clash.cnt (Clash.sufs ws) dn → ClB T b →
    b + 12 * N ≤ 12 + 12 * (Clash.sufs ws).length → op.length + 16 * N ≤ 300 + 16 * (Clash.sufs ws).length → done.length + N ≤ (Clash.sufs ws).length → Ev (fun k => spec_l05Clash.l2 k l op done) (clashBs (Clash.clashOf ws).1) := by
  induction N using Nat.strongRecOn with
  | _ N ih =>
    intro op done T dn b hA hI hf hdn hN hB b1 b2 b3
    have hno : dn [] = false := by
      cases e : dn [] with
      | false => rfl
      | true => exact absurd rfl (hI.done _ e).1
    by_cases h0 : op.length = 0
    · have hop : op = [] := List.eq_nil_of_length_eq_zero h0
      subst hop
      have hT : T [] = none := by
        cases e : T [] with
        | none => rfl
        | some t => have := hA.all _ _ hno e; cases this
      have hans := Clash.exit_ans hI (fun x u hd _ hu => by have := hA.all _ _ hd hu; cases this)
      rw [hT] at hans
      rw [Clash.clashOf_eq hans]
      refine Ev_succ ?_
      simp only [spec_l05Clash.l2]
      exact Ev.now _
    · obtain ⟨b', hb', hmin, hgo⟩ := best_loop l op done (by omega) (op.length - 1) 0 1 (by omega) (by omega) (fun j hj => by
        obtain rfl : j = 0 := by omega
        exact Clash.le_refl _)
      refine Ev_succ ?_
      simp only [spec_l05Clash.l2, if_pos (show (op.length : Int) > 0 by omega)]
      refine hgo _ (Ev_succ ?_)
      have e1 : wrap64 ((b' : Int) + 1) = ((b' + 1 : Nat) : Int) := by rw [w64 (by omega) (by omega)]; omega
      have q1 : ([] ++ op.take b').length + (op.drop (b' + 1)).length < 4398046511104 := by rw [List.nil_append, List.length_take, List.length_drop]; omega
      have q2 : ([] : List S48).length + (op.take b').length < 4398046511104 := by rw [List.length_nil, List.length_take]; omega
      have hx := hA.on _ (op_mem op b' hb')
      have hall : ∀ s u, dn s = false → T s = some u → Clash.le (pk (rd_T48 op (b' : Int))).2 u := fun s u hd hu => by
        obtain ⟨j, hj, e⟩ := op_all op (hA.all s u hd hu)
        have := hmin j hj
        rw [e] at this
        exact this
      simp only [spec_l05Clash.l3, if_neg (show ¬ (op.length : Int) < (op.length : Int) by omega), if_pos (show (0 : Int) ≤ b' by omega), if_pos (show (b' : Int) < (op.length : Int) by omega), Option.bind_some, if_pos (show (b' : Int) ≤ (op.length : Int) by omega), Int.toNat_natCast, e1, if_pos (show (0 : Int) ≤ ((b' + 1 : Nat) : Int) by omega), if_pos (show ((b' + 1 : Nat) : Int) ≤ (op.length : Int) by omega), if_pos q1, if_pos q2]
      obtain ⟨X, hX⟩ : ∃ X, X = rd_T48 op (b' : Int) := ⟨_, rfl⟩
      rw [← hX] at hx hall ⊢
      by_cases he : X.f0.toList = []
      · simp only [if_pos he]
        have he2 : (pk X).1 = [] := by show X.f0.data.toList = []; rw [← Lib.toList_data]; exact he
        rw [he2] at hx
        have hans := Clash.exit_ans hI (fun x u hd _ hu => ⟨_, hx.2, hall x u hd hu⟩)
        rw [hx.2] at hans
        rw [Clash.clashOf_eq hans]
        have : clashBs ((some (pk X).2).getD []) = X.f1 := cl_ext rfl
        rw [this]
        exact Ev.now _
      · simp only [if_neg he, if_pos (show done.length < 8796093022208 by omega), List.nil_append]
        have hne : (pk X).1 ≠ [] := fun g => he (by rw [Lib.toList_data]; exact g)
        have hlt := Clash.cnt_lt dn (pk X).1 hx.1 _ (Clash.mem_sufs (hI.sound _ _ hx.2).suffix)
        have hA1 : AL ((op.take b' ++ op.drop (b' + 1)).map pk) T (fun x => dn x || decide (x = (pk X).1)) := by
          rw [List.map_append, List.map_take, List.map_drop]
          have h := hA
          rw [op_split op b' hb', ← hX] at h
          exact h.erase
        have hdn' : ∀ s, (dn s || decide (s = (pk X).1)) = true ↔ s ∈ (done ++ [X.f0]).map (·.data.toList) := fun s => by
          rw [List.map_append, List.mem_append, List.map_singleton, List.mem_singleton, Bool.or_eq_true, decide_eq_true_eq, hdn s]
          exact Iff.rfl
        have R0 := Clash.Rnd.start hI hf hne hx.2 hx.1 hall
        have hXb := (hB _ _ hx.2).2
        obtain ⟨op', T', h1, h2, h3, h4, h5, h6⟩ := words_loop l hl hs ws hws (done ++ [X.f0]) (by rw [List.length_append, List.length_singleton]; omega) X.f0 X.f1 hne (Clash.All ws T dn) T _ hdn' (by simp [pk]) (b + 12) (by omega) (by
            have : X.f1.size = (pk X).2.length := (clash_len X.f1).symm
            omega) l.length 0 _ T (by omega) hA1 (R0.weaken (fun x y g => by
            rcases g with g | ⟨a, ha, _⟩
            · exact g
            · omega)) (fun _ _ => rfl) hx.2 (hB.mono (by omega)) (by rw [List.length_append, List.length_take, List.length_drop]; omega)
        have hwl : ws.length = l.length := by rw [hws, List.length_map]
        have hfin := Clash.Rnd.finish (best := (pk X).1) (t0 := (pk X).2) (h2.weaken (fun x y g => by
          rcases g with g | ⟨wd, hw, g⟩
          · exact .inl g
          · obtain ⟨a, ha, e⟩ := List.getElem_of_mem hw
            exact .inr ⟨a, by omega, wd, by rw [← e]; exact List.getElem?_eq_getElem ha, g⟩)) h3 hx.2
        rw [List.length_append, List.length_take, List.length_drop] at h5
        exact h6 _ (ih _ (by omega) op' (done ++ [X.f0]) T' _ (b + 12) h1 hfin h2.apart hdn' rfl h4 (by omega) (by omega) (by rw [List.length_append, List.length_singleton]; omega))
theorem clash_ev (l : List ByteArray) (hl : l.length ≤ 16) (hs : ∀ i : Nat, i < l.length → (rdOf ByteArray.empty l (i : Int)).size ≤ 12) : Ev (fun k => spec_l05Clash.f k l) (clashBs (Clash.clashOf (l.map (·.data.toList))).1) := by
  obtain ⟨ws, hws⟩ : ∃ ws : List Clash.S, ws = l.map (·.data.toList) := ⟨_, rfl⟩
  rw [← hws]
  have hwl : ws.length = l.length := by rw [hws, List.length_map]
  have hM : (Clash.sufs ws).length ≤ 208 := by
    have := Clash.sufs_length (ws := ws) 12 (by
      rw [hws]; intro x hx
      obtain ⟨y, hy, rfl⟩ := List.mem_map.1 hx
      obtain ⟨j, hj, rfl⟩ := List.getElem_of_mem hy
      have := hs j hj
      unfold rdOf at this
      rw [Int.toNat_natCast, List.getD_eq_getElem?_getD, List.getElem?_eq_getElem hj] at this
      rw [clash_len]; exact this)
    omega
  obtain ⟨op, T, h1, h2, h3, h4, h5⟩ := first_loop l hl hs ws hws l.length 0 [] (fun _ => none) (by omega) ⟨fun p hp => (by cases hp), fun s t _ h => (by cases h), List.Pairwise.nil⟩ ⟨fun s t h => (by cases h), fun s h => (by cases h), fun s t h => absurd h (clashC_zero ws s t)⟩ (fun s t h => (by cases h)) (by simp)
  have hc := Clash.cnt_le_length (Clash.sufs ws) (fun _ => false)
  exact h5 _ (main_loop l hl hs ws hws hM _ op [] T (fun _ => false) 12 h1 (h2.weaken (fun x y g => by
    rcases g with g | ⟨a, u, ha, _⟩
    · rw [← hwl]; exact clashC_base g
    · cases ha)) (fun a t x u ha => by cases ha) (fun s => by simp) rfl h3 (by omega) (by omega) (by rw [List.length_nil]; omega))
theorem reach_ne {ws : List Clash.S} (h : ∀ w ∈ ws, w ≠ []) {s t : Clash.S} (hr : Clash.Reach ws s t) : t ≠ [] := by
  induction hr with
  | base hb =>
    obtain ⟨i, k, _, u, _, hk, _⟩ := hb
    exact h _ (List.mem_of_getElem? hk)
  | step _ _ hs ih =>
    rcases hs with ⟨w, _, _, rfl⟩ | ⟨w, _, _, rfl⟩
    · exact ih
    · intro e; exact ih (List.append_eq_nil_iff.1 e).1
/-- both sides of a clash: the bits, and whether there are any. -/
theorem clash_both (l : List ByteArray) (hc : CodeOk l) : ∃ (r : ByteArray) (b : Bool), Ev (fun k => spec_l05Clash.f k l) r ∧ impl_clash.f l = some (r, b) ∧ (r.toList = [] ↔ b = false) := by
  have hl : l.length ≤ 16 := by have := hc.1.2; omega
  have hs : ∀ i : Nat, i < l.length → (rdOf ByteArray.empty l (i : Int)).size ≤ 12 := fun i hi => by have := (hc.2 i (by omega) (by omega)).1.2; omega
  have hmem : ∀ x ∈ l, 1 ≤ x.size ∧ x.size ≤ 12 := fun x hx => by
    obtain ⟨j, hj, rfl⟩ := List.getElem_of_mem hx
    have := (hc.2 j (by omega) (by omega)).1
    unfold rdOf at this
    rw [Int.toNat_natCast, List.getD_eq_getElem?_getD, List.getElem?_eq_getElem hj] at this
    simp only [Option.getD_some] at this
    omega
  refine ⟨_, _, clash_ev l hl hs, by unfold impl_clash.f clashF; rw [if_pos ⟨hl, fun x hx => (hmem x hx).2⟩], ?_⟩
  rw [Lib.toList_data, clashBs_data]
  have hne : ∀ w ∈ l.map (·.data.toList), w ≠ [] := fun w hw e => by
    obtain ⟨x, hx, rfl⟩ := List.mem_map.1 hw
    have := (hmem x hx).1
    rw [← clash_len, e] at this
    simp at this
  by_cases hex : ∃ p : Clash.S × Bool, Clash.Ans (l.map (·.data.toList)) p.1 p.2
  · obtain ⟨⟨p, q⟩, ha⟩ := hex
    rw [Clash.clashOf_eq ha]
    rcases ha with ⟨h1, h2, _⟩ | ⟨h1, h2, _⟩
    · simp only at h1 h2; subst h1; exact ⟨fun e => absurd e (reach_ne hne h2), fun e => by cases e⟩
    · simp only at h1 h2; subst h1; subst h2; exact ⟨fun _ => rfl, fun _ => rfl⟩
  · unfold Clash.clashOf
    rw [dif_neg hex]
    exact ⟨fun _ => rfl, fun _ => rfl⟩

def FnExactIsDecodable_Pure : Prop := ∀ (l0 : List ByteArray), l0.length ≤ maxLen → l0.length * 16 ≤ 140737488351232 → (∀ x ∈ l0, x.size ≤ 140737488351232) → ∃ k, laws_FnExactIsDecodable.f k l0 = some true
theorem decodable_both (l : List ByteArray) : ∃ b, Ev (fun k => spec_IsDecodable.f k l) b ∧ Ev (fun k => impl_IsDecodable.f k l) b := by
  obtain ⟨b, hs, hi, hb⟩ := code_both l
  simp only [spec_IsDecodable.f, impl_IsDecodable.f]
  cases b with
  | false => exact ⟨false, Ev.bind hs (by simpa using Ev.now false), Ev.bind hi (by simpa using Ev.now false)⟩
  | true =>
    obtain ⟨r, q, hA, hB, hq⟩ := clash_both l (hb.1 rfl)
    have e : (r.toList == ([] : List UInt8)) = !q := by
      cases q with
      | false => rw [hq.2 rfl]; rfl
      | true =>
        have : r.toList ≠ [] := fun g => by have := hq.1 g; cases this
        rw [beq_eq_false_iff_ne.2 this]; rfl
    refine ⟨!q, Ev.bind hs ?_, Ev.bind hi ?_⟩
    · simp only [if_true]
      refine Ev.bind hA ?_
      rw [e]
      exact Ev.now _
    · simp only [if_true, hB, Option.bind_some]
      exact Ev.now _
theorem FnExactIsDecodable : FnExactIsDecodable_Pure := by
  intro l h1 h2 h3
  apply Ev.rounds
  obtain ⟨v, hv, hz⟩ := szStr_ev l 1048576 (by omega) h2 h3
  simp only [laws_FnExactIsDecodable.f]
  refine Ev.bind hv ?_
  by_cases hn : v < 0
  · simp only [if_pos hn]; exact Ev.now _
  have hb := hz hn
  simp only [if_neg hn]
  obtain ⟨b, hs, hi⟩ := decodable_both l
  have ht := toStr_ev l (by omega)
  refine Ev.bind ht (Ev.bind hs (Ev.bind ht (Ev.bind hi ?_)))
  simp only [bne_self_eq_false, Bool.false_eq_true, if_false]
  refine Ev.bind ht (Ev.bind (eqStr_ev l (by omega)) ?_)
  simp only [if_true]
  exact Ev.now _

end Go.Proofs.YtkpobdcnggdjaaaDoor.Pure
