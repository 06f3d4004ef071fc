/- The law FnExactIsCompleteCode of the given program holds: for every input that the row lets in the call returns true and leaves its arguments as they were. No condition ahead of it. -/
import Derived.Test.YtnamhhmhmodmpaaDoorPFnExactIsCompleteCodex5
import Derived.Test.YtnamhhmhmodmpaaDoorMine
namespace Go.Proofs.YtnamhhmhmodmpaaDoor.Pure
open Go.RowKit Go.Proofs.YtnamhhmhmodmpaaDoor.PFnExactIsCompleteCode Go.Proofs.YtnamhhmhmodmpaaDoorW.PrintWords Go.Proofs.YtnamhhmhmodmpaaDoorW.PrintLast Go.Proofs.YtnamhhmhmodmpaaDoorW.PrintMore Go.Proofs.YtnamhhmhmodmpaaDoor.Mine
set_option linter.unusedVariables false
set_option linter.unusedSimpArgs false
theorem rs_set (l : List ByteArray) (i j : Int) (v : ByteArray) (hi : 0 ≤ i) (hil : i < l.length) (hj : 0 ≤ j) : rdOf ByteArray.empty (l.set i.toNat v) j = if j = i then v else rdOf ByteArray.empty l j := by
  unfold rdOf
  by_cases e : j = i
  · subst e; rw [if_pos rfl, List.getD_eq_getElem?_getD, List.getElem?_set_self (by omega)]; rfl
  · rw [if_neg e, List.getD_eq_getElem?_getD, List.getElem?_set_ne (by omega), List.getD_eq_getElem?_getD]
theorem ext_rs (a b : List ByteArray) (h : a.length = b.length) (hp : ∀ j : Int, 0 ≤ j → j < a.length → rdOf ByteArray.empty a j = rdOf ByteArray.empty b j) : a = b := by
  apply List.ext_getElem h
  intro n h1 h2
  have := hp n (by omega) (by omega)
  unfold rdOf at this
  rw [List.getD_eq_getElem?_getD, List.getD_eq_getElem?_getD, Int.toNat_natCast, List.getElem?_eq_getElem h1, List.getElem?_eq_getElem h2] at this
  simpa using this
theorem rs_mem (l : List ByteArray) (i : Int) (h0 : 0 ≤ i) (h1 : i < l.length) : rdOf ByteArray.empty l i ∈ l := by
  unfold rdOf
  rw [List.getD_eq_getElem?_getD, List.getElem?_eq_getElem (show i.toNat < l.length by omega)]
  exact List.getElem_mem _
theorem szStr_loop (l : List ByteArray) (n : Int) (hn : n ≤ 1048576) (hl : (l.length : Int) ≤ 4611686018427387904) (hs : ∀ x ∈ l, x.size ≤ 140737488351232) (d : Nat) : ∀ v i : Int, 0 ≤ i → i ≤ l.length → (l.length : Int) - i = d → 0 ≤ v → v ≤ n →
    (∀ j, 0 ≤ j → j < i → ((rdOf ByteArray.empty l j).size : Int) ≤ n) → ∃ r, Ev (fun k => laws_szStringS.l0 k l v i) r ∧ (¬ r < 0 → ∀ j, 0 ≤ j → j < (l.length : Int) → ((rdOf ByteArray.empty l j).size : Int) ≤ n) := by
  induction d with
  | zero =>
    intro v i h0 h1 hd hv0 hv hp
    refine ⟨v, Ev_succ ?_, fun _ j j0 j1 => hp j j0 (by omega)⟩
    simp only [laws_szStringS.l0, if_neg (show ¬ i < (l.length : Int) by omega)]; exact Ev.now _
  | succ d ih =>
    intro v i h0 h1 hd hv0 hv hp
    have hlt : i < (l.length : Int) := by omega
    have hz := hs _ (rs_mem l i h0 hlt)
    by_cases g : v - ((rdOf ByteArray.empty l i).size : Int) < 0
    · refine ⟨-1, Ev_succ ?_, fun h => absurd (by omega) h⟩
      simp (disch := omega) only [laws_szStringS.l0, w64]
      simp only [if_pos hlt, if_pos h0, if_pos g]; exact Ev.now _
    · obtain ⟨r, hr, hq⟩ := ih (v - ((rdOf ByteArray.empty l i).size : Int)) (i + 1) (by omega) (by omega) (by omega) (by omega) (by omega) (fun j j0 j1 => by
        by_cases e : j = i
        · rw [e]; omega
        · exact hp j j0 (by omega))
      refine ⟨r, Ev_succ ?_, hq⟩
      simp (disch := omega) only [laws_szStringS.l0, w64]
      simp only [if_pos hlt, if_pos h0, if_neg g]; exact hr
theorem szStr_ev (l : List ByteArray) (n : Int) (hn : 0 ≤ n ∧ n ≤ 1048576) (hl : l.length * 16 ≤ 140737488351232) (hs : ∀ x ∈ l, x.size ≤ 140737488351232) :
    ∃ r, Ev (fun k => laws_szStringS.f k l n) r ∧ (¬ r < 0 → (l.length : Int) ≤ n ∧ ∀ j, 0 ≤ j → j < (l.length : Int) → ((rdOf ByteArray.empty l j).size : Int) ≤ n) := by
  simp (disch := omega) only [laws_szStringS.f, w64]
  by_cases g : n - (l.length : Int) < 0
  · exact ⟨-1, by simp only [if_pos g]; exact Ev.now _, fun h => absurd (by omega) h⟩
  · obtain ⟨r, hr, hq⟩ := szStr_loop l n hn.2 (by omega) hs l.length (n - l.length) 0 (by omega) (by omega) (by omega) (by omega) (by omega) (fun j _ _ => by omega)
    exact ⟨r, by simp only [if_neg g]; exact hr, fun h => ⟨by omega, hq h⟩⟩
theorem toStr_loop (l : List ByteArray) (hl : (l.length : Int) ≤ 4611686018427387904) (d : Nat) : ∀ (m : List ByteArray) (i : Int), m.length = l.length → 0 ≤ i → i ≤ l.length → (l.length : Int) - i = d → (∀ j, 0 ≤ j → j < i → rdOf ByteArray.empty m j = rdOf ByteArray.empty l j) →
    Ev (fun k => laws_toStringS.l0 k l m i) l := by
  induction d with
  | zero =>
    intro m i hm h0 h1 hd hp
    refine Ev_succ ?_
    simp only [laws_toStringS.l0, if_neg (show ¬ i < (l.length : Int) by omega)]
    rw [ext_rs m l hm (fun j j0 j1 => hp j j0 (by omega))]
    exact Ev.now _
  | succ d ih =>
    intro m i hm h0 h1 hd hp
    refine Ev_succ ?_
    simp (disch := omega) only [laws_toStringS.l0, w64]
    simp only [if_pos (show i < (l.length : Int) by omega), if_pos h0, if_pos (show i < (m.length : Int) by omega)]
    refine ih (m.set i.toNat (rdOf ByteArray.empty l i)) (i + 1) (by rw [List.length_set]; exact hm) (by omega) (by omega) (by omega) (fun j j0 j1 => ?_)
    rw [rs_set m i j _ h0 (by omega) j0]
    by_cases e : j = i
    · rw [if_pos e, e]
    · rw [if_neg e]; exact hp j j0 (by omega)
theorem toStr_ev (l : List ByteArray) (hl : (l.length : Int) ≤ 1048576) : Ev (fun k => laws_toStringS.f k l) l := by
  simp only [laws_toStringS.f, if_pos (show 0 ≤ (l.length : Int) by omega), if_pos (show ((l.length : Int)).toNat ≤ 17592186044416 by omega)]
  exact toStr_loop l (by omega) l.length _ 0 (by simp) (by omega) (by omega) (by omega) (fun j _ _ => by omega)
theorem eqStr_loop (l : List ByteArray) (hl : (l.length : Int) ≤ 4611686018427387904) (d : Nat) : ∀ i : Int, 0 ≤ i → i ≤ l.length → (l.length : Int) - i = d → Ev (fun k => laws_eqStringS.l0 k l l i) true := by
  induction d with
  | zero =>
    intro i h0 h1 hd
    refine Ev_succ ?_
    simp only [laws_eqStringS.l0, if_neg (show ¬ i < (l.length : Int) by omega)]; exact Ev.now _
  | succ d ih =>
    intro i h0 h1 hd
    refine Ev_succ ?_
    simp (disch := omega) only [laws_eqStringS.l0, w64]
    simp only [if_pos (show i < (l.length : Int) by omega), if_pos h0, if_true]
    exact ih (i + 1) (by omega) (by omega) (by omega)
theorem eqStr_ev (l : List ByteArray) (hl : (l.length : Int) ≤ 1048576) : Ev (fun k => laws_eqStringS.f k l l) true := by
  simp only [laws_eqStringS.f, if_true]
  exact eqStr_loop l (by omega) l.length 0 (by omega) (by omega) (by omega)
theorem toList_inj {a b : ByteArray} : a.toList = b.toList ↔ a = b := by
  constructor
  · intro h
    rw [Lib.toList_data, Lib.toList_data] at h
    apply ByteArray.ext
    exact Array.toList_inj.1 h
  · rintro rfl; rfl

def AllBit (s : ByteArray) : Prop := ∀ i : Int, 0 ≤ i → i < s.size → bt s i = 48 ∨ bt s i = 49
def IsBitS (s : ByteArray) : Prop := AllBit s ∧ (s.size : Int) ≤ 400
theorem bt_list (s : ByteArray) (i : Nat) (h : i < s.size) : bt s i = ((s.data.toList[i]'(by simpa using h)).toNat : Int) := by
  unfold bt
  simp only [Int.toNat_natCast, h, dif_pos]
  rfl
theorem dropWhile_nil (p : UInt8 → Bool) : ∀ l : List UInt8, l.dropWhile p = [] ↔ ∀ b ∈ l, p b = true
  | [] => by simp
  | x :: l => by
    rw [List.dropWhile_cons]
    cases h : p x with
    | true => simp [h, dropWhile_nil p l]
    | false => simp [h]
theorem trim_empty (l : List UInt8) : (Lib.trimS l [48, 49]).isEmpty = true ↔ ∀ b ∈ l, b = 48 ∨ b = 49 := by
  have key : ∀ p : UInt8 → Bool, List.dropWhile p (List.dropWhile p l.reverse).reverse = [] ↔ ∀ b ∈ l, p b = true := by
    intro p
    rw [dropWhile_nil]
    constructor
    · intro h
      by_cases e : List.dropWhile p l.reverse = []
      · have := (dropWhile_nil p _).1 e
        exact fun b hb => this b (by simpa using hb)
      · have hh := List.head_dropWhile_not p e
        have h3 := h ((List.dropWhile p l.reverse).head e) (by simp)
        rw [hh] at h3
        cases h3
    · intro h b hb
      have : List.dropWhile p l.reverse = [] := (dropWhile_nil p _).2 (fun b hb => h b (by simpa using hb))
      rw [this] at hb
      simp at hb
  unfold Lib.trimS Lib.trimRightS Lib.trimLeftS
  rw [List.isEmpty_iff, key]
  simp
theorem areBits_ev (s : ByteArray) (hs : s.size ≤ 140737488351232) : ∃ b, impl_areBits.f s = some b ∧ (b = true ↔ AllBit s) := by
  refine ⟨(Lib.trimS s.data.toList [48, 49]).isEmpty, by unfold impl_areBits.f; rw [if_pos (by omega)], ?_⟩
  rw [trim_empty]
  constructor
  · intro h i h0 h1
    obtain ⟨n, rfl⟩ : ∃ n : Nat, i = n := ⟨i.toNat, by omega⟩
    rw [bt_list s n (by omega)]
    rcases h _ (List.getElem_mem (l := s.data.toList) (n := n) (by simp; omega)) with e | e <;> rw [e]
    · exact Or.inl rfl
    · exact Or.inr rfl
  · intro h b hb
    obtain ⟨n, hn, rfl⟩ := List.getElem_of_mem hb
    have hn' : n < s.size := by simpa using hn
    have := h n (by omega) (by omega)
    rw [bt_list s n hn'] at this
    rcases this with e | e
    · left; apply UInt8.toNat_inj.1; show s.data.toList[n].toNat = 48; omega
    · right; apply UInt8.toNat_inj.1; show s.data.toList[n].toNat = 49; omega
theorem l01Bits_loop (s : ByteArray) (hs : s.size ≤ 140737488351232) (d : Nat) : ∀ i : Int, 0 ≤ i → i ≤ s.size → (s.size : Int) - i = d → (∀ j, 0 ≤ j → j < i → bt s j = 48 ∨ bt s j = 49) →
    ∃ b, Ev (fun k => spec_l01Bits.l0 k s i) b ∧ (b = true ↔ IsBitS s) := by
  induction d with
  | zero =>
    intro i h0 h1 hd hp
    refine ⟨decide ((s.size : Int) ≤ 400), Ev_succ ?_, ?_⟩
    · simp only [spec_l01Bits.l0, if_neg (show ¬ i < (s.size : Int) by omega)]
      exact Ev.now _
    · rw [decide_eq_true_eq]
      exact ⟨fun h => ⟨fun j j0 j1 => hp j j0 (by omega), h⟩, fun h => h.2⟩
  | succ d ih =>
    intro i h0 h1 hd hp
    have hlt : i < (s.size : Int) := by omega
    by_cases e : bt s i = 48 ∨ bt s i = 49
    · obtain ⟨b, hb, hi⟩ := ih (i + 1) (by omega) (by omega) (by omega) (fun j j0 j1 => by
        by_cases z : j = i
        · rw [z]; exact e
        · exact hp j j0 (by omega))
      refine ⟨b, Ev_succ ?_, hi⟩
      simp (disch := omega) only [spec_l01Bits.l0, w64]
      rcases e with e | e
      · simp only [if_pos hlt, if_pos h0, if_pos e]; exact hb
      · simp only [if_pos hlt, if_pos h0, e, if_neg (show ¬ (49 : Int) = 48 by omega), if_true]; exact hb
    · refine ⟨false, Ev_succ ?_, ?_⟩
      · simp only [spec_l01Bits.l0, if_pos hlt, if_pos h0, if_neg (fun g => e (Or.inl g)), if_neg (fun g => e (Or.inr g))]
        exact Ev.now _
      · simp only [Bool.false_eq_true, false_iff]
        exact fun g => e (g.1 i h0 hlt)
theorem l01Bits_ev (s : ByteArray) (hs : s.size ≤ 140737488351232) : ∃ b, Ev (fun k => spec_l01Bits.f k s) b ∧ (b = true ↔ IsBitS s) :=
  l01Bits_loop s hs s.size 0 (by omega) (by omega) (by omega) (fun j _ _ => by omega)

def Among (l : List ByteArray) (n : Int) (x : ByteArray) : Prop := ∃ j : Int, 0 ≤ j ∧ j < n ∧ rdOf ByteArray.empty l j = x
theorem rs_take (l : List ByteArray) (n j : Int) (h0 : 0 ≤ j) (h1 : j < n) (hn : n ≤ l.length) : rdOf ByteArray.empty (l.take n.toNat) j = rdOf ByteArray.empty l j := by
  unfold rdOf
  rw [List.getD_eq_getElem?_getD, List.getElem?_take, if_pos (by omega), List.getD_eq_getElem?_getD]
theorem index3_loop (l : List ByteArray) (x : ByteArray) (hl : (l.length : Int) ≤ 4611686018427387904) (d : Nat) : ∀ i : Int, 0 ≤ i → i ≤ l.length → (l.length : Int) - i = d → (∀ j, 0 ≤ j → j < i → rdOf ByteArray.empty l j ≠ x) →
    ∃ r, Ev (fun k => spec_l03Index.l0 k l x i) r ∧ (r ≥ 0 ↔ Among l l.length x) := by
  induction d with
  | zero =>
    intro i h0 h1 hd hp
    refine ⟨-1, Ev_succ ?_, ?_⟩
    · simp only [spec_l03Index.l0, if_neg (show ¬ i < (l.length : Int) by omega)]; exact Ev.now _
    · exact ⟨fun h => by omega, fun ⟨j, j0, j1, j2⟩ => absurd j2 (hp j j0 (by omega))⟩
  | succ d ih =>
    intro i h0 h1 hd hp
    have hlt : i < (l.length : Int) := by omega
    by_cases e : rdOf ByteArray.empty l i = x
    · refine ⟨i, Ev_succ ?_, ⟨fun _ => ⟨i, h0, hlt, e⟩, fun _ => h0⟩⟩
      simp only [spec_l03Index.l0, toList_inj, if_pos hlt, if_pos h0, if_pos e]; exact Ev.now _
    · obtain ⟨r, hr, hi⟩ := ih (i + 1) (by omega) (by omega) (by omega) (fun j j0 j1 => by
        by_cases z : j = i
        · rw [z]; exact e
        · exact hp j j0 (by omega))
      refine ⟨r, Ev_succ ?_, hi⟩
      simp (disch := omega) only [spec_l03Index.l0, toList_inj, w64]
      simp only [if_pos hlt, if_pos h0, if_neg e]; exact hr
theorem index_loop (l : List ByteArray) (x : ByteArray) (hl : (l.length : Int) ≤ 4611686018427387904) (d : Nat) : ∀ i : Int, 0 ≤ i → i ≤ l.length → (l.length : Int) - i = d → (∀ j, 0 ≤ j → j < i → rdOf ByteArray.empty l j ≠ x) →
    ∃ r, Ev (fun k => slices_Index_string_string.l0 k l x l.length i) r ∧ (r ≥ 0 ↔ Among l l.length x) := by
  induction d with
  | zero =>
    intro i h0 h1 hd hp
    refine ⟨-1, Ev_succ ?_, ?_⟩
    · simp only [slices_Index_string_string.l0, if_neg (show ¬ i < (l.length : Int) by omega)]; exact Ev.now _
    · exact ⟨fun h => by omega, fun ⟨j, j0, j1, j2⟩ => absurd j2 (hp j j0 (by omega))⟩
  | succ d ih =>
    intro i h0 h1 hd hp
    have hlt : i < (l.length : Int) := by omega
    by_cases e : x = rdOf ByteArray.empty l i
    · refine ⟨i, Ev_succ ?_, ⟨fun _ => ⟨i, h0, hlt, e.symm⟩, fun _ => h0⟩⟩
      simp only [slices_Index_string_string.l0, toList_inj, if_pos hlt, if_pos h0, if_pos e]; exact Ev.now _
    · obtain ⟨r, hr, hi⟩ := ih (i + 1) (by omega) (by omega) (by omega) (fun j j0 j1 => by
        by_cases z : j = i
        · rw [z]; exact fun h => e h.symm
        · exact hp j j0 (by omega))
      refine ⟨r, Ev_succ ?_, hi⟩
      simp (disch := omega) only [slices_Index_string_string.l0, toList_inj, w64]
      simp only [if_pos hlt, if_pos h0, if_neg e]; exact hr
theorem among_take (l : List ByteArray) (i : Int) (x : ByteArray) (h0 : 0 ≤ i) (h1 : i ≤ l.length) : Among (l.take i.toNat) (l.take i.toNat).length x ↔ Among l i x := by
  have hlen : ((l.take i.toNat).length : Int) = i := by rw [List.length_take]; omega
  unfold Among
  rw [hlen]
  constructor
  · rintro ⟨j, j0, j1, j2⟩; exact ⟨j, j0, j1, by rwa [rs_take l i j j0 j1 h1] at j2⟩
  · rintro ⟨j, j0, j1, j2⟩; exact ⟨j, j0, j1, by rwa [rs_take l i j j0 j1 h1]⟩
def WordOk (l : List ByteArray) (i : Int) : Prop := (1 ≤ ((rdOf ByteArray.empty l i).size : Int) ∧ ((rdOf ByteArray.empty l i).size : Int) ≤ 12) ∧ AllBit (rdOf ByteArray.empty l i) ∧ ¬ Among l i (rdOf ByteArray.empty l i)
def CodeOk (l : List ByteArray) : Prop := (1 ≤ (l.length : Int) ∧ (l.length : Int) ≤ 16) ∧ ∀ i, 0 ≤ i → i < (l.length : Int) → WordOk l i
theorem code_loops (l : List ByteArray) (hl : (l.length : Int) ≤ 16) (d : Nat) : ∀ i : Int, 0 ≤ i → i ≤ l.length → (l.length : Int) - i = d → (∀ j, 0 ≤ j → j < i → WordOk l j) →
    ∃ b, Ev (fun k => spec_l05Is.l0 k l i) b ∧ Ev (fun k => impl_IsCode.l0 k l l l.length i) b ∧ (b = true ↔ ∀ j, 0 ≤ j → j < (l.length : Int) → WordOk l j) := by
  induction d with
  | zero =>
    intro i h0 h1 hd hp
    refine ⟨true, Ev_succ ?_, Ev_succ ?_, ?_⟩
    · simp only [spec_l05Is.l0, if_neg (show ¬ i < (l.length : Int) by omega)]; exact Ev.now _
    · simp only [impl_IsCode.l0, if_neg (show ¬ i < (l.length : Int) by omega)]; exact Ev.now _
    · simp only [true_iff]; exact fun j j0 j1 => hp j j0 (by omega)
  | succ d ih =>
    intro i h0 h1 hd hp
    have hlt : i < (l.length : Int) := by omega
    have no : ∀ X : Prop, ¬ WordOk l i → (false = true ↔ ∀ j, 0 ≤ j → j < (l.length : Int) → WordOk l j) := fun _ h => by
      simp only [Bool.false_eq_true, false_iff]; exact fun g => h (g i h0 hlt)
    by_cases c1 : ((rdOf ByteArray.empty l i).size : Int) < 1
    · refine ⟨false, Ev_succ ?_, Ev_succ ?_, no True (fun g => by have := g.1.1; omega)⟩
      · simp only [spec_l05Is.l0, if_pos hlt, if_pos h0, if_pos c1]; exact Ev.now _
      · simp only [impl_IsCode.l0, if_pos hlt, if_pos h0, if_pos c1]; exact Ev.now _
    by_cases c2 : ((rdOf ByteArray.empty l i).size : Int) > 12
    · refine ⟨false, Ev_succ ?_, Ev_succ ?_, no True (fun g => by have := g.1.2; omega)⟩
      · simp only [spec_l05Is.l0, if_pos hlt, if_pos h0, if_neg c1, if_pos c2]; exact Ev.now _
      · simp only [impl_IsCode.l0, if_pos hlt, if_pos h0, if_neg c1, if_pos c2]; exact Ev.now _
    obtain ⟨b, hb, hbi⟩ := l01Bits_ev (rdOf ByteArray.empty l i) (by omega)
    obtain ⟨c, hc, hci⟩ := areBits_ev (rdOf ByteArray.empty l i) (by omega)
    have ebc : b = c := by
      have : (b = true) ↔ (c = true) := hbi.trans ⟨fun g => hci.2 g.1, fun g => ⟨hci.1 g, by omega⟩⟩
      cases b <;> cases c <;> simp_all
    subst ebc
    cases b with
    | false =>
      refine ⟨false, Ev_succ ?_, Ev_succ ?_, no True (fun g => by have := hci.2 g.2.1; cases this)⟩
      · simp only [spec_l05Is.l0, if_pos hlt, if_pos h0, if_neg c1, if_neg c2]
        exact Ev.bind hb (by simpa using Ev.now false)
      · simp only [impl_IsCode.l0, if_pos hlt, if_pos h0, if_neg c1, if_neg c2, hc, Option.bind_some]
        simpa using Ev.now false
    | true =>
      have htl : ((l.take i.toNat).length : Int) ≤ 4611686018427387904 := by rw [List.length_take]; omega
      obtain ⟨r, hr, hri⟩ := index3_loop (l.take i.toNat) (rdOf ByteArray.empty l i) htl (l.take i.toNat).length 0 (by omega) (by omega) (by omega) (fun j _ _ => by omega)
      obtain ⟨q, hq, hqi⟩ := index_loop (l.take i.toNat) (rdOf ByteArray.empty l i) htl (l.take i.toNat).length 0 (by omega) (by omega) (by omega) (fun j _ _ => by omega)
      rw [among_take l i _ h0 (by omega)] at hri hqi
      by_cases a : Among l i (rdOf ByteArray.empty l i)
      · have r0 := hri.2 a; have q0 := hqi.2 a
        refine ⟨false, Ev_succ ?_, Ev_succ ?_, no True (fun g => g.2.2 a)⟩
        · simp only [spec_l05Is.l0, if_pos hlt, if_pos h0, if_neg c1, if_neg c2]
          refine Ev.bind hb ?_
          simp only [if_true, if_pos (show i ≤ (l.length : Int) by omega)]
          refine Ev.bind hr ?_
          simp only [if_pos r0]; exact Ev.now _
        · simp only [impl_IsCode.l0, if_pos hlt, if_pos h0, if_neg c1, if_neg c2, hc, Option.bind_some, if_true, if_pos (show i ≤ (l.length : Int) by omega)]
          refine Ev.bind (a := true) ?_ ?_
          · simp only [slices_Contains_string_string.f]
            refine Ev.bind hq ?_
            simp only [decide_eq_true q0]; exact Ev.now _
          · simp only [if_true]; exact Ev.now _
      · have r0 : ¬ r ≥ 0 := fun h => a (hri.1 h)
        have q0 : ¬ q ≥ 0 := fun h => a (hqi.1 h)
        obtain ⟨z, hA, hB, hz⟩ := ih (i + 1) (by omega) (by omega) (by omega) (fun j j0 j1 => by
          by_cases e : j = i
          · rw [e]; exact ⟨⟨by omega, by omega⟩, hci.1 rfl, a⟩
          · exact hp j j0 (by omega))
        refine ⟨z, Ev_succ ?_, Ev_succ ?_, hz⟩
        · simp (disch := omega) only [spec_l05Is.l0, w64]
          simp only [if_pos hlt, if_pos h0, if_neg c1, if_neg c2]
          refine Ev.bind hb ?_
          simp only [if_true, if_pos (show i ≤ (l.length : Int) by omega)]
          refine Ev.bind hr ?_
          simp only [if_neg r0]; exact hA
        · simp (disch := omega) only [impl_IsCode.l0, w64]
          simp only [if_pos hlt, if_pos h0, if_neg c1, if_neg c2, hc, Option.bind_some, if_true, if_pos (show i ≤ (l.length : Int) by omega)]
          refine Ev.bind (a := false) ?_ ?_
          · simp only [slices_Contains_string_string.f]
            refine Ev.bind hq ?_
            simp only [decide_eq_false q0]; exact Ev.now _
          · simp only [Bool.false_eq_true, if_false]; exact hB
theorem code_both (l : List ByteArray) : ∃ b, Ev (fun k => spec_l05Is.f k l) b ∧ Ev (fun k => impl_IsCode.f k l) b ∧ (b = true ↔ CodeOk l) := by
  have JA : Ev (fun k => spec_l05Is.j0 k l true) false := by
    refine Ev_succ ?_
    simp only [spec_l05Is.j0, if_true]; exact Ev.now _
  have JB : Ev (fun k => impl_IsCode.j0 k l true) false := by
    refine Ev_succ ?_
    simp only [impl_IsCode.j0, if_true]; exact Ev.now _
  simp only [spec_l05Is.f, impl_IsCode.f]
  by_cases c1 : (l.length : Int) < 1
  · simp only [if_pos c1]
    exact ⟨false, JA, JB, by simp only [Bool.false_eq_true, false_iff]; exact fun g => by have := g.1.1; omega⟩
  by_cases c2 : (l.length : Int) > 16
  · simp only [if_neg c1, decide_eq_true c2]
    exact ⟨false, JA, JB, by simp only [Bool.false_eq_true, false_iff]; exact fun g => by have := g.1.2; omega⟩
  simp only [if_neg c1, decide_eq_false c2]
  obtain ⟨b, hA, hB, hb⟩ := code_loops l (by omega) l.length 0 (by omega) (by omega) (by omega) (fun j _ _ => by omega)
  refine ⟨b, Ev_succ ?_, Ev_succ ?_, by rw [hb]; exact ⟨fun g => ⟨⟨by omega, by omega⟩, g⟩, fun g => g.2⟩⟩
  · simpa [spec_l05Is.j0] using hA
  · simpa [impl_IsCode.j0] using hB

theorem at_eq (a b : ByteArray) (i : Int) (h0 : 0 ≤ i) (hi : i ≤ a.size) (ha : (a.size : Int) ≤ 1048576) (hb : (b.size : Int) ≤ 1048576) :
    spec_l01At.f a b i = some (decide (i + b.size ≤ (a.size : Int)) && ((a.extract i.toNat (i + b.size).toNat).toList == b.toList)) := by
  simp (disch := omega) only [spec_l01At.f, w64]
  by_cases h : i + (b.size : Int) ≤ (a.size : Int)
  · simp only [if_pos h, if_pos h0, if_pos (show i ≤ i + (b.size : Int) by omega), decide_eq_true h, Bool.true_and]
  · simp only [if_neg h, decide_eq_false h, Bool.false_and]
theorem hasPrefix_eq (a b : ByteArray) : strings_HasPrefix.f a b = some (decide ((b.size : Int) ≤ (a.size : Int)) && ((a.extract 0 b.size).toList == b.toList)) := by
  simp only [strings_HasPrefix.f, stringslite_HasPrefix.f]
  by_cases h : (a.size : Int) ≥ (b.size : Int)
  · simp only [if_pos h, if_pos (show 0 ≤ (b.size : Int) by omega), Option.bind_some, Int.toNat_natCast, decide_eq_true (show (b.size : Int) ≤ (a.size : Int) from h), Bool.true_and]
  · simp only [if_neg h, Option.bind_some, decide_eq_false (show ¬ (b.size : Int) ≤ (a.size : Int) from h), Bool.false_and]
theorem at_prefix (a b : ByteArray) (i : Int) (h0 : 0 ≤ i) (hi : i ≤ a.size) (ha : (a.size : Int) ≤ 1048576) (hb : (b.size : Int) ≤ 1048576) :
    ∃ c, spec_l01At.f a b i = some c ∧ strings_HasPrefix.f (a.extract i.toNat a.size) b = some c ∧ (c = true → i + b.size ≤ (a.size : Int)) := by
  refine ⟨_, at_eq a b i h0 hi ha hb, ?_, fun h => by simp only [Bool.and_eq_true, decide_eq_true_eq] at h; exact h.1⟩
  rw [hasPrefix_eq]
  have e1 : (((a.extract i.toNat a.size).size : Nat) : Int) = a.size - i := by rw [ByteArray.size_extract]; omega
  have e2 : decide ((b.size : Int) ≤ (((a.extract i.toNat a.size).size : Nat) : Int)) = decide (i + b.size ≤ (a.size : Int)) := by
    rw [e1]; exact decide_eq_decide.2 ⟨fun h => by omega, fun h => by omega⟩
  rw [e2]
  by_cases h : i + (b.size : Int) ≤ (a.size : Int)
  · have e3 : (a.extract i.toNat a.size).extract 0 b.size = a.extract i.toNat (i + b.size).toNat := by
      rw [ByteArray.extract_extract]
      congr 1 <;> omega
    rw [e3]
  · simp only [decide_eq_false h, Bool.false_and]

theorem prefix_loops (l : List ByteArray) (hl : (l.length : Int) ≤ 16) (hs : ∀ j, 0 ≤ j → j < (l.length : Int) → ((rdOf ByteArray.empty l j).size : Int) ≤ 12) (e : Nat) : ∀ i : Int, 0 ≤ i → i ≤ l.length → (l.length : Int) - i = e →
    ∃ b, Ev (fun k => spec_l05Prefix.l0 k l i) b ∧ Ev (fun k => impl_IsPrefixCode.l0 k l l l.length i) b := by
  induction e with
  | zero =>
    intro i h0 h1 hd
    refine ⟨true, Ev_succ ?_, Ev_succ ?_⟩
    · simp only [spec_l05Prefix.l0, if_neg (show ¬ i < (l.length : Int) by omega)]; exact Ev.now _
    · simp only [impl_IsPrefixCode.l0, if_neg (show ¬ i < (l.length : Int) by omega)]; exact Ev.now _
  | succ e ih =>
    intro i h0 h1 hd
    have hlt : i < (l.length : Int) := by omega
    obtain ⟨z, hA, hB⟩ := ih (i + 1) (by omega) (by omega) (by omega)
    have inner : ∀ (d : Nat) (j : Int), 0 ≤ j → j ≤ l.length → (l.length : Int) - j = d → ∃ b, Ev (fun k => spec_l05Prefix.l1 k l i j) b ∧ Ev (fun k => impl_IsPrefixCode.l1 k l i (rdOf ByteArray.empty l i) l l.length i l l.length j) b := by
      intro d
      induction d with
      | zero =>
        intro j j0 j1 hj
        refine ⟨z, Ev_succ ?_, Ev_succ ?_⟩
        · simp (disch := omega) only [spec_l05Prefix.l1, w64]
          simp only [if_neg (show ¬ j < (l.length : Int) by omega)]; exact hA
        · simp (disch := omega) only [impl_IsPrefixCode.l1, w64]
          simp only [if_neg (show ¬ j < (l.length : Int) by omega)]; exact hB
      | succ d ihd =>
        intro j j0 j1 hj
        have jlt : j < (l.length : Int) := by omega
        obtain ⟨b, hb, hc⟩ := ihd (j + 1) (by omega) (by omega) (by omega)
        by_cases g : i = j
        · refine ⟨b, Ev_succ ?_, Ev_succ ?_⟩
          · simp (disch := omega) only [spec_l05Prefix.l1, w64]
            simp only [if_pos jlt, if_pos g]; exact hb
          · simp (disch := omega) only [impl_IsPrefixCode.l1, w64]
            simp only [if_pos jlt, if_pos j0, if_pos g]; exact hc
        · have s1 := hs i h0 hlt
          have s2 := hs j j0 jlt
          obtain ⟨c, c1, c2, -⟩ := at_prefix (rdOf ByteArray.empty l j) (rdOf ByteArray.empty l i) 0 (by omega) (by omega) (by omega) (by omega)
          have ex : (rdOf ByteArray.empty l j).extract (0 : Int).toNat (rdOf ByteArray.empty l j).size = rdOf ByteArray.empty l j := by simp
          rw [ex] at c2
          cases c with
          | true =>
            refine ⟨false, Ev_succ ?_, Ev_succ ?_⟩
            · simp only [spec_l05Prefix.l1, if_pos jlt, if_neg g, if_pos j0, if_pos h0, if_pos hlt, c1, Option.bind_some, if_true]; exact Ev.now _
            · simp only [impl_IsPrefixCode.l1, if_pos jlt, if_pos j0, if_neg g, c2, Option.bind_some, if_true]; exact Ev.now _
          | false =>
            refine ⟨b, Ev_succ ?_, Ev_succ ?_⟩
            · simp (disch := omega) only [spec_l05Prefix.l1, w64]
              simp only [if_pos jlt, if_neg g, if_pos j0, if_pos h0, if_pos hlt, c1, Option.bind_some, Bool.false_eq_true, if_false]; exact hb
            · simp (disch := omega) only [impl_IsPrefixCode.l1, w64]
              simp only [if_pos jlt, if_pos j0, if_neg g, c2, Option.bind_some, Bool.false_eq_true, if_false]; exact hc
    obtain ⟨b, hb, hc⟩ := inner l.length 0 (by omega) (by omega) (by omega)
    refine ⟨b, Ev_succ ?_, Ev_succ ?_⟩
    · simp only [spec_l05Prefix.l0, if_pos hlt]; exact hb
    · simp only [impl_IsPrefixCode.l0, if_pos hlt, if_pos h0]; exact hc
theorem CodeOk.sizes {l : List ByteArray} (h : CodeOk l) : (l.length : Int) ≤ 16 ∧ ∀ j, 0 ≤ j → j < (l.length : Int) → ((rdOf ByteArray.empty l j).size : Int) ≤ 12 := ⟨h.1.2, fun j j0 j1 => (h.2 j j0 j1).1.2⟩

def FnExactIsCompleteCode_Pure : Prop := ∀ (l0 : List ByteArray), l0.length ≤ maxLen → l0.length * 16 ≤ 140737488351232 → (∀ x ∈ l0, x.size ≤ 140737488351232) → ∃ k, laws_FnExactIsCompleteCode.f k l0 = some true
theorem wrapU {n : Int} (h0 : 0 ≤ n) (h1 : n ≤ 18446744073709551615) : IntKind.u64.wrap n = n := by
  simp only [IntKind.wrap, IntKind.signed, IntKind.bits]
  simp
  omega
theorem kraft_loops (l : List ByteArray) (hl : (l.length : Int) ≤ 16) (hs : ∀ j, 0 ≤ j → j < (l.length : Int) → ((rdOf ByteArray.empty l j).size : Int) ≤ 12) (d : Nat) : ∀ (n i : Int), 0 ≤ i → i ≤ l.length → (l.length : Int) - i = d →
    ∃ m, Ev (fun k => spec_l05Kraft.l0 k l n i) m ∧ Ev (fun k => impl_kraft.l0 k n l l.length i) m := by
  induction d with
  | zero =>
    intro n i h0 h1 hd
    refine ⟨n, Ev_succ ?_, Ev_succ ?_⟩
    · simp only [spec_l05Kraft.l0, if_neg (show ¬ i < (l.length : Int) by omega)]; exact Ev.now _
    · simp only [impl_kraft.l0, if_neg (show ¬ i < (l.length : Int) by omega)]; exact Ev.now _
  | succ d ih =>
    intro n i h0 h1 hd
    have hlt : i < (l.length : Int) := by omega
    have hz := hs i h0 hlt
    have e1 : wrap64 (12 - ((rdOf ByteArray.empty l i).size : Int)) = 12 - (rdOf ByteArray.empty l i).size := w64 (by omega) (by omega)
    have e2 : IntKind.u64.wrap (12 - ((rdOf ByteArray.empty l i).size : Int)) = 12 - (rdOf ByteArray.empty l i).size := wrapU (by omega) (by omega)
    have e3 : wrap64 (i + 1) = i + 1 := w64 (by omega) (by omega)
    obtain ⟨m, hA, hB⟩ := ih (wrap64 (n + shl .i64 1 (12 - (rdOf ByteArray.empty l i).size))) (i + 1) (by omega) (by omega) (by omega)
    refine ⟨m, Ev_succ ?_, Ev_succ ?_⟩
    · simp only [spec_l05Kraft.l0, e1, e2, e3, if_pos hlt, if_pos h0, if_pos (show 0 ≤ 12 - ((rdOf ByteArray.empty l i).size : Int) by omega)]; exact hA
    · simp only [impl_kraft.l0, e1, e3, if_pos hlt, if_pos h0, if_pos (show 0 ≤ 12 - ((rdOf ByteArray.empty l i).size : Int) by omega)]; exact hB
theorem complete_both (l : List ByteArray) : ∃ b, Ev (fun k => spec_IsCompleteCode.f k l) b ∧ Ev (fun k => impl_IsCompleteCode.f k l) b := by
  obtain ⟨b, hs, hi, hb⟩ := code_both l
  simp only [spec_IsCompleteCode.f, impl_IsCompleteCode.f, impl_IsPrefixCode.f]
  cases b with
  | false =>
    refine ⟨false, Ev.bind hs (by simpa using Ev.now false), Ev.bind (a := false) ?_ (by simpa using Ev.now false)⟩
    exact Ev.bind hi (by simpa using Ev.now false)
  | true =>
    have hz := (hb.1 rfl).sizes
    obtain ⟨c, hA, hB⟩ := prefix_loops l hz.1 hz.2 l.length 0 (by omega) (by omega) (by omega)
    obtain ⟨m, kA, kB⟩ := kraft_loops l hz.1 hz.2 l.length 0 0 (by omega) (by omega) (by omega)
    cases c with
    | false =>
      refine ⟨false, Ev.bind hs ?_, Ev.bind (a := false) ?_ (by simpa using Ev.now false)⟩
      · simp only [if_true, spec_l05Complete.f, spec_l05Prefix.f]
        refine Ev.bind (a := false) ?_ (Ev.now _)
        exact Ev.bind hA (by simpa using Ev.now false)
      · refine Ev.bind hi ?_
        simp only [if_true]; exact hB
    | true =>
      refine ⟨m == 4096, Ev.bind hs ?_, Ev.bind (a := true) ?_ ?_⟩
      · simp only [if_true, spec_l05Complete.f, spec_l05Prefix.f, spec_l05Kraft.f]
        refine Ev.bind (a := m == 4096) ?_ (Ev.now _)
        refine Ev.bind hA ?_
        simp only [if_true]
        exact Ev.bind kA (Ev.now _)
      · refine Ev.bind hi ?_
        simp only [if_true]; exact hB
      · simp only [if_true, impl_kraft.f]
        exact Ev.bind kB (Ev.now _)
theorem FnExactIsCompleteCode : FnExactIsCompleteCode_Pure := by
  intro l h1 h2 h3
  apply Ev.rounds
  obtain ⟨v, hv, hz⟩ := szStr_ev l 1048576 (by omega) h2 h3
  simp only [laws_FnExactIsCompleteCode.f]
  refine Ev.bind hv ?_
  by_cases hn : v < 0
  · simp only [if_pos hn]; exact Ev.now _
  have hb := hz hn
  simp only [if_neg hn]
  obtain ⟨b, hs, hi⟩ := complete_both l
  have ht := toStr_ev l (by omega)
  refine Ev.bind ht (Ev.bind hs (Ev.bind ht (Ev.bind hi ?_)))
  simp only [bne_self_eq_false, Bool.false_eq_true, if_false]
  refine Ev.bind ht (Ev.bind (eqStr_ev l (by omega)) ?_)
  simp only [if_true]
  exact Ev.now _

end Go.Proofs.YtnamhhmhmodmpaaDoor.Pure
