/- The law FnExactLongestSame of the given program holds: for every input that the row lets in the call returns true and leaves its arguments as they were. No condition ahead of it. -/
import Derived.Test.YtkhgmfnmgefpbaaDoorPFnExactLongestSamex2
import Derived.Test.YtkhgmfnmgefpbaaDoorMine
namespace Go.Proofs.YtkhgmfnmgefpbaaDoor.Pure
open Go.RowKit Go.Proofs.YtkhgmfnmgefpbaaDoor.PFnExactLongestSame Go.Proofs.YtkhgmfnmgefpbaaDoorW.PrintWords Go.Proofs.YtkhgmfnmgefpbaaDoorW.PrintLast Go.Proofs.YtkhgmfnmgefpbaaDoorW.PrintMore Go.Proofs.YtkhgmfnmgefpbaaDoor.Mine
set_option linter.unusedVariables false
set_option linter.unusedSimpArgs false
def AllBit (s : ByteArray) : Prop := ∀ i : Int, 0 ≤ i → i < s.size → bt s i = 48 ∨ bt s i = 49
def IsBitS (s : ByteArray) : Prop := AllBit s ∧ (s.size : Int) ≤ 400
theorem bt_list (s : ByteArray) (i : Nat) (h : i < s.size) : bt s i = ((s.data.toList[i]'(by simpa using h)).toNat : Int) := by
  unfold bt
  simp only [Int.toNat_natCast, h, dif_pos]
  rfl
theorem dropWhile_nil (p : UInt8 → Bool) : ∀ l : List UInt8, l.dropWhile p = [] ↔ ∀ b ∈ l, p b = true
  | [] => by simp
  | x :: l => by
    rw [List.dropWhile_cons]
    cases h : p x with
    | true => simp [h, dropWhile_nil p l]
    | false => simp [h]
theorem trim_empty (l : List UInt8) : (Lib.trimS l [48, 49]).isEmpty = true ↔ ∀ b ∈ l, b = 48 ∨ b = 49 := by
  have key : ∀ p : UInt8 → Bool, List.dropWhile p (List.dropWhile p l.reverse).reverse = [] ↔ ∀ b ∈ l, p b = true := by
    intro p
    rw [dropWhile_nil]
    constructor
    · intro h
      by_cases e : List.dropWhile p l.reverse = []
      · have := (dropWhile_nil p _).1 e
        exact fun b hb => this b (by simpa using hb)
      · have hh := List.head_dropWhile_not p e
        have h3 := h ((List.dropWhile p l.reverse).head e) (by simp)
        rw [hh] at h3
        cases h3
    · intro h b hb
      have : List.dropWhile p l.reverse = [] := (dropWhile_nil p _).2 (fun b hb => h b (by simpa using hb))
      rw [this] at hb
      simp at hb
  unfold Lib.trimS Lib.trimRightS Lib.trimLeftS
  rw [List.isEmpty_iff, key]
  simp
theorem areBits_ev (s : ByteArray) (hs : s.size ≤ 140737488351232) : ∃ b, impl_areBits.f s = some b ∧ (b = true ↔ AllBit s) := by
  refine ⟨(Lib.trimS s.data.toList [48, 49]).isEmpty, by unfold impl_areBits.f; rw [if_pos (by omega)], ?_⟩
  rw [trim_empty]
  constructor
  · intro h i h0 h1
    obtain ⟨n, rfl⟩ : ∃ n : Nat, i = n := ⟨i.toNat, by omega⟩
    rw [bt_list s n (by omega)]
    rcases h _ (List.getElem_mem (l := s.data.toList) (n := n) (by simp; omega)) with e | e <;> rw [e]
    · exact Or.inl rfl
    · exact Or.inr rfl
  · intro h b hb
    obtain ⟨n, hn, rfl⟩ := List.getElem_of_mem hb
    have hn' : n < s.size := by simpa using hn
    have := h n (by omega) (by omega)
    rw [bt_list s n hn'] at this
    rcases this with e | e
    · left; apply UInt8.toNat_inj.1; show s.data.toList[n].toNat = 48; omega
    · right; apply UInt8.toNat_inj.1; show s.data.toList[n].toNat = 49; omega
theorem isBits_ev (s : ByteArray) (hs : s.size ≤ 140737488351232) : ∃ b, impl_IsBits.f s = some b ∧ (b = true ↔ IsBitS s) := by
  obtain ⟨b, hb, hi⟩ := areBits_ev s hs
  simp only [impl_IsBits.f, hb, Option.bind_some, IsBitS]
  by_cases h : (s.size : Int) ≤ 400
  · exact ⟨b, by rw [if_pos h], by rw [hi]; exact ⟨fun g => ⟨g, h⟩, fun g => g.1⟩⟩
  · exact ⟨false, by rw [if_neg h], by simp only [Bool.false_eq_true, false_iff]; exact fun g => h g.2⟩
theorem l01Bits_loop (s : ByteArray) (hs : s.size ≤ 140737488351232) (d : Nat) : ∀ i : Int, 0 ≤ i → i ≤ s.size → (s.size : Int) - i = d → (∀ j, 0 ≤ j → j < i → bt s j = 48 ∨ bt s j = 49) →
    ∃ b, Ev (fun k => spec_l01Bits.l0 k s i) b ∧ (b = true ↔ IsBitS s) := by
  induction d with
  | zero =>
    intro i h0 h1 hd hp
    refine ⟨decide ((s.size : Int) ≤ 400), Ev_succ ?_, ?_⟩
    · simp only [spec_l01Bits.l0, if_neg (show ¬ i < (s.size : Int) by omega)]
      exact Ev.now _
    · rw [decide_eq_true_eq]
      exact ⟨fun h => ⟨fun j j0 j1 => hp j j0 (by omega), h⟩, fun h => h.2⟩
  | succ d ih =>
    intro i h0 h1 hd hp
    have hlt : i < (s.size : Int) := by omega
    by_cases e : bt s i = 48 ∨ bt s i = 49
    · obtain ⟨b, hb, hi⟩ := ih (i + 1) (by omega) (by omega) (by omega) (fun j j0 j1 => by
        by_cases z : j = i
        · rw [z]; exact e
        · exact hp j j0 (by omega))
      refine ⟨b, Ev_succ ?_, hi⟩
      simp (disch := omega) only [spec_l01Bits.l0, w64]
      rcases e with e | e
      · simp only [if_pos hlt, if_pos h0, if_pos e]; exact hb
      · simp only [if_pos hlt, if_pos h0, e, if_neg (show ¬ (49 : Int) = 48 by omega), if_true]; exact hb
    · refine ⟨false, Ev_succ ?_, ?_⟩
      · simp only [spec_l01Bits.l0, if_pos hlt, if_pos h0, if_neg (fun g => e (Or.inl g)), if_neg (fun g => e (Or.inr g))]
        exact Ev.now _
      · simp only [Bool.false_eq_true, false_iff]
        exact fun g => e (g.1 i h0 hlt)
theorem l01Bits_ev (s : ByteArray) (hs : s.size ≤ 140737488351232) : ∃ b, Ev (fun k => spec_l01Bits.f k s) b ∧ (b = true ↔ IsBitS s) :=
  l01Bits_loop s hs s.size 0 (by omega) (by omega) (by omega) (fun j _ _ => by omega)
theorem bits_same (s : ByteArray) (hs : s.size ≤ 140737488351232) : ∃ b, Ev (fun k => spec_l01Bits.f k s) b ∧ impl_IsBits.f s = some b ∧ (b = true ↔ IsBitS s) := by
  obtain ⟨b, hb, hi⟩ := l01Bits_ev s hs
  obtain ⟨c, hc, hj⟩ := isBits_ev s hs
  have e : c = b := by cases b <;> cases c <;> simp_all
  subst e
  exact ⟨c, hb, hc, hi⟩

theorem rd_set (l : List Int) (i j v : Int) (hi : 0 ≤ i) (hil : i < l.length) (hj : 0 ≤ j) : rd (l.set i.toNat v) j = if j = i then v else rd l j := by
  unfold rd
  by_cases e : j = i
  · subst e; rw [if_pos rfl, List.getD_eq_getElem?_getD, List.getElem?_set_self (by omega)]; rfl
  · rw [if_neg e, List.getD_eq_getElem?_getD, List.getElem?_set_ne (by omega), List.getD_eq_getElem?_getD]

theorem l00Max_eq (a b : Int) : spec_l00Max.f a b = some (mx a b) := by
  unfold spec_l00Max.f mx
  by_cases h : a > b
  · rw [if_pos h, if_neg (by omega)]
  · rw [if_neg h]
    by_cases g : a < b
    · rw [if_pos g]
    · rw [if_neg g, show a = b by omega]
theorem mx_eq (a b : Int) : (mx a b = a ∧ b ≤ a) ∨ (mx a b = b ∧ a < b) := by unfold mx; split <;> omega

structure TopIs (L : List Int) (m : Int) : Prop where
  ge : 0 ≤ m
  le : ∀ j : Int, 0 ≤ j → j < L.length → rd L j ≤ m
  is : m = 0 ∨ ∃ j : Int, 0 ≤ j ∧ j < L.length ∧ rd L j = m
theorem top_loop (L : List Int) (m : Int) (hL : (L.length : Int) ≤ 1048576) (h : TopIs L m) (d : Nat) : ∀ a i : Int, 0 ≤ i → i ≤ L.length → (L.length : Int) - i = d → 0 ≤ a → a ≤ m → (a = m ∨ ∃ j : Int, i ≤ j ∧ j < L.length ∧ rd L j = m) →
    Ev (fun k => impl_LongestSame.l0 k a L L.length i) (m, true) := by
  induction d with
  | zero =>
    intro a i h0 h1 hd ha0 ha hm
    refine Ev_succ ?_
    simp only [impl_LongestSame.l0, if_neg (show ¬ i < (L.length : Int) by omega)]
    have : a = m := by
      rcases hm with e | ⟨j, j0, j1, -⟩
      · exact e
      · omega
    rw [this]
    exact Ev.now _
  | succ d ih =>
    intro a i h0 h1 hd ha0 ha hm
    have hlt : i < (L.length : Int) := by omega
    refine Ev_succ ?_
    simp (disch := omega) only [impl_LongestSame.l0, w64]
    simp only [if_pos hlt, if_pos h0]
    have hle := h.le i h0 hlt
    have hx := mx_eq a (rd L i)
    refine ih (mx a (rd L i)) (i + 1) (by omega) (by omega) (by omega) (by omega) (by omega) ?_
    rcases hm with e | ⟨j, j0, j1, j2⟩
    · left; omega
    · by_cases e : j = i
      · left; rw [e] at j2; omega
      · exact Or.inr ⟨j, by omega, j1, j2⟩
theorem rd_app (L : List Int) (v j : Int) (hj : 0 ≤ j) : rd (L ++ [v]) j = if j < (L.length : Int) then rd L j else if j = (L.length : Int) then v else 0 := by
  unfold rd
  rw [List.getD_eq_getElem?_getD, List.getD_eq_getElem?_getD]
  by_cases h : j < (L.length : Int)
  · rw [if_pos h, List.getElem?_append_left (by omega)]
  · rw [if_neg h, List.getElem?_append_right (by omega)]
    by_cases e : j = (L.length : Int)
    · rw [if_pos e, show j.toNat - L.length = 0 by omega]; rfl
    · rw [if_neg e, List.getElem?_eq_none (by simp; omega)]; rfl
theorem runs_loops (s : ByteArray) (hs : (s.size : Int) ≤ 1048576) (d : Nat) : ∀ (L : List Int) (m r i : Int), 0 ≤ i → i ≤ s.size → (s.size : Int) - i = d → (L.length : Int) ≤ i → 0 ≤ r → r ≤ i → (i = 0 → L = []) → (0 < i → 0 < (L.length : Int) ∧ rd L ((L.length : Int) - 1) = r) → TopIs L m →
    ∃ L' m', (L'.length : Int) ≤ s.size ∧ TopIs L' m' ∧ Ev (fun k => spec_LongestSame.l0 k s m r i) (m', true) ∧ Ev (fun k => impl_runLengths.l0 k s L s.size i) L' := by
  induction d with
  | zero =>
    intro L m r i h0 h1 hd hl hr0 hri hz hp hT
    refine ⟨L, m, by omega, hT, Ev_succ ?_, Ev_succ ?_⟩
    · simp only [spec_LongestSame.l0, if_neg (show ¬ i < (s.size : Int) by omega)]; exact Ev.now _
    · simp only [impl_runLengths.l0, if_neg (show ¬ i < (s.size : Int) by omega)]; exact Ev.now _
  | succ d ih =>
    intro L m r i h0 h1 hd hl hr0 hri hz hp hT
    have hlt : i < (s.size : Int) := by omega
    have hroom : L.length < 17592186044416 := by omega
    -- a new run of one
    have fresh : TopIs ((L ++ [0]).set L.length 1) (mx m 1) ∧ rd ((L ++ [0]).set L.length 1) (L.length : Int) = 1 ∧ ((L ++ [0]).set L.length 1).length = L.length + 1 := by
      have e1 : ∀ j : Int, 0 ≤ j → rd ((L ++ [0]).set L.length 1) j = if j = (L.length : Int) then 1 else rd (L ++ [0]) j := fun j hj => by
        have := rd_set (L ++ [0]) (L.length : Int) j 1 (by omega) (by rw [List.length_append, List.length_singleton]; omega) hj
        rwa [Int.toNat_natCast] at this
      have hx := mx_eq m 1
      have hge := hT.ge
      refine ⟨⟨by omega, fun j j0 j1 => ?_, ?_⟩, by rw [e1 _ (by omega), if_pos rfl], by simp⟩
      · rw [List.length_set, List.length_append, List.length_singleton] at j1
        rw [e1 j j0]
        by_cases e : j = (L.length : Int)
        · rw [if_pos e]; omega
        · rw [if_neg e, rd_app L 0 j j0, if_pos (by omega)]
          have := hT.le j j0 (by omega); omega
      · right
        rcases hx with ⟨hx, hm⟩ | ⟨hx, hm⟩
        · rcases hT.is with e | ⟨j, j0, j1, j2⟩
          · omega
          · refine ⟨j, j0, by simp; omega, ?_⟩
            rw [e1 j j0, if_neg (by omega), rd_app L 0 j j0, if_pos j1, j2, hx]
        · exact ⟨L.length, by omega, by rw [List.length_set, List.length_append, List.length_singleton]; omega, by rw [e1 _ (by omega), if_pos rfl, hx]⟩
    obtain ⟨fT, fl, fn⟩ := fresh
    have last0 : rd (L ++ [0]) (L.length : Int) = 0 := by rw [rd_app L 0 _ (by omega), if_neg (by omega), if_pos rfl]
    have app1 : ∀ (X : Nat → List Int → Option (List Int)) (R : List Int), Ev (fun k => X k ((L ++ [0]).set L.length 1)) R →
        Ev (fun k => (some (L ++ [0] : List Int)).bind fun y => (if 0 ≤ wrap64 ((y.length : Int) - 1) then (if wrap64 ((y.length : Int) - 1) < (y.length : Int) then X k (y.set (wrap64 ((y.length : Int) - 1)).toNat (wrap64 (rd y (wrap64 ((y.length : Int) - 1)) + 1))) else none) else none)) R := by
      intro X R hX
      have e : wrap64 (((L ++ [0]).length : Int) - 1) = L.length := by rw [List.length_append, List.length_singleton, w64 (by omega) (by omega)]; omega
      have e0 : wrap64 (0 + 1) = 1 := w64 (by omega) (by omega)
      have e2 : (L.length : Int) < ((L ++ [0]).length : Int) := by rw [List.length_append, List.length_singleton]; omega
      simp only [Option.bind_some, e, last0, e0, if_pos (show 0 ≤ (L.length : Int) by omega), if_pos e2, Int.toNat_natCast]
      exact hX
    by_cases z : i = 0
    · have hL := hz z
      have hr : r = 0 := by omega
      obtain ⟨L', m', g1, g2, g3, g4⟩ := ih ((L ++ [0]).set L.length 1) (mx m 1) 1 (i + 1) (by omega) (by omega) (by omega) (by rw [fn]; omega) (by omega) (by omega) (fun e => by omega) (fun _ => ⟨by rw [fn]; omega, by rw [fn, show ((L.length + 1 : Nat) : Int) - 1 = L.length by omega]; exact fl⟩) fT
      refine ⟨L', m', g1, g2, Ev_succ ?_, Ev_succ ?_⟩
      · simp (disch := omega) only [spec_LongestSame.l0, w64, l00Max_eq, Option.bind_some]
        simp only [if_pos hlt, if_neg (show ¬ i > 0 by omega), hr, Int.zero_add]
        exact g3
      · have e9 : wrap64 (i + 1) = i + 1 := w64 (by omega) (by omega)
        simp only [impl_runLengths.l0, e9, if_pos hlt, if_pos z, if_pos hroom]
        exact app1 (fun k y => impl_runLengths.l0 k s y s.size (i + 1)) L' g4
    · obtain ⟨hlen, hlast⟩ := hp (by omega)
      by_cases e : bt s i = bt s (i - 1)
      · have e1 : ∀ j : Int, 0 ≤ j → rd (L.set (L.length - 1) (r + 1)) j = if j = (L.length : Int) - 1 then r + 1 else rd L j := fun j hj => by
          have := rd_set L ((L.length : Int) - 1) j (r + 1) (by omega) (by omega) hj
          rwa [show ((L.length : Int) - 1).toNat = L.length - 1 by omega] at this
        have hx := mx_eq m (r + 1)
        have hge := hT.ge
        have hrm : r ≤ m := by rw [← hlast]; exact hT.le _ (by omega) (by omega)
        have gT : TopIs (L.set (L.length - 1) (r + 1)) (mx m (r + 1)) := by
          refine ⟨by omega, fun j j0 j1 => ?_, ?_⟩
          · rw [List.length_set] at j1
            rw [e1 j j0]
            by_cases q : j = (L.length : Int) - 1
            · rw [if_pos q]; omega
            · rw [if_neg q]; have := hT.le j j0 j1; omega
          · right
            rcases hx with ⟨hx, hm⟩ | ⟨hx, hm⟩
            · rcases hT.is with q | ⟨j, j0, j1, j2⟩
              · omega
              · refine ⟨j, j0, by rw [List.length_set]; exact j1, ?_⟩
                rw [e1 j j0]
                by_cases q : j = (L.length : Int) - 1
                · rw [q, hlast] at j2; omega
                · rw [if_neg q, j2, hx]
            · exact ⟨(L.length : Int) - 1, by omega, by rw [List.length_set]; omega, by rw [e1 _ (by omega), if_pos rfl, hx]⟩
        obtain ⟨L', m', g1, g2, g3, g4⟩ := ih (L.set (L.length - 1) (r + 1)) (mx m (r + 1)) (r + 1) (i + 1) (by omega) (by omega) (by omega) (by rw [List.length_set]; omega) (by omega) (by omega) (fun e => by omega) (fun _ => ⟨by rw [List.length_set]; omega, by rw [List.length_set, e1 _ (by omega), if_pos rfl]⟩) gT
        refine ⟨L', m', g1, g2, Ev_succ ?_, Ev_succ ?_⟩
        · simp (disch := omega) only [spec_LongestSame.l0, w64, l00Max_eq, Option.bind_some]
          simp only [if_pos hlt, if_pos (show i > 0 by omega), if_pos h0, if_pos (show 0 ≤ i - 1 by omega), if_pos (show i - 1 < (s.size : Int) by omega), if_pos e]
          exact g3
        · have e7 : wrap64 ((L.length : Int) - 1) = (L.length : Int) - 1 := w64 (by omega) (by omega)
          have e8 : wrap64 (i - 1) = i - 1 := w64 (by omega) (by omega)
          have e9 : wrap64 (i + 1) = i + 1 := w64 (by omega) (by omega)
          have e6 : wrap64 (r + 1) = r + 1 := w64 (by omega) (by omega)
          simp only [impl_runLengths.l0, e9, e8, e7, hlast, e6, if_pos hlt, if_neg z, if_pos h0, if_pos (show 0 ≤ i - 1 by omega), if_pos (show i - 1 < (s.size : Int) by omega), if_pos e, if_pos (show 0 ≤ (L.length : Int) - 1 by omega), if_pos (show (L.length : Int) - 1 < (L.length : Int) by omega)]
          rw [show ((L.length : Int) - 1).toNat = L.length - 1 by omega]
          exact g4
      · obtain ⟨L', m', g1, g2, g3, g4⟩ := ih ((L ++ [0]).set L.length 1) (mx m 1) 1 (i + 1) (by omega) (by omega) (by omega) (by rw [fn]; omega) (by omega) (by omega) (fun e => by omega) (fun _ => ⟨by rw [fn]; omega, by rw [fn, show ((L.length + 1 : Nat) : Int) - 1 = L.length by omega]; exact fl⟩) fT
        refine ⟨L', m', g1, g2, Ev_succ ?_, Ev_succ ?_⟩
        · simp (disch := omega) only [spec_LongestSame.l0, w64, l00Max_eq, Option.bind_some]
          simp only [if_pos hlt, if_pos (show i > 0 by omega), if_pos h0, if_pos (show 0 ≤ i - 1 by omega), if_pos (show i - 1 < (s.size : Int) by omega), if_neg e]
          exact g3
        · have e8 : wrap64 (i - 1) = i - 1 := w64 (by omega) (by omega)
          have e9 : wrap64 (i + 1) = i + 1 := w64 (by omega) (by omega)
          simp only [impl_runLengths.l0, e9, e8, if_pos hlt, if_neg z, if_pos h0, if_pos (show 0 ≤ i - 1 by omega), if_pos (show i - 1 < (s.size : Int) by omega), if_neg e, if_pos hroom]
          exact app1 (fun k y => impl_runLengths.l0 k s y s.size (i + 1)) L' g4
theorem FnExactLongestSame : laws_FnExactLongestSame.Pure := by
  intro s _
  apply Ev.rounds
  simp only [laws_FnExactLongestSame.f]
  by_cases hbig : (s.size : Int) > 1048576
  · simp only [if_pos hbig]; exact Ev.now _
  simp only [if_neg hbig]
  obtain ⟨b, hb, hc, -⟩ := bits_same s (by omega)
  have E : ∃ r, Ev (fun k => spec_LongestSame.f k s) r ∧ Ev (fun k => impl_LongestSame.f k s) r := by
    cases b with
    | true =>
      obtain ⟨L, m, g1, g2, g3, g4⟩ := runs_loops s (by omega) s.size [] 0 0 0 (by omega) (by omega) (by omega) (by simp) (by omega) (by omega) (fun _ => rfl) (fun h => by omega) ⟨by omega, fun j j0 j1 => by simp at j1; omega, Or.inl rfl⟩
      refine ⟨(m, true), ?_, ?_⟩
      · simp only [spec_LongestSame.f]
        refine Ev.bind hb ?_
        simp only [if_true]
        exact g3
      · simp only [impl_LongestSame.f, hc, Option.bind_some, if_true]
        refine Ev.bind g4 (top_loop L m (by omega) g2 L.length 0 0 (by omega) (by omega) (by omega) (by omega) g2.ge ?_)
        rcases g2.is with e | ⟨j, j0, j1, j2⟩
        · exact Or.inl e.symm
        · exact Or.inr ⟨j, j0, j1, j2⟩
    | false =>
      refine ⟨(0, false), ?_, ?_⟩
      · simp only [spec_LongestSame.f]
        refine Ev.bind hb ?_
        simp only [Bool.false_eq_true, if_false]
        exact Ev.now _
      · simp only [impl_LongestSame.f, hc, Option.bind_some, Bool.false_eq_true, if_false]
        exact Ev.now _
  obtain ⟨r, hA, hB⟩ := E
  refine Ev.bind hA (Ev.bind hB ?_)
  simpa using Ev.now true

end Go.Proofs.YtkhgmfnmgefpbaaDoor.Pure
