/- The law FnExactRepeatBits of the given program holds: for every input that the row lets in the call returns true and leaves its arguments as they were. No condition ahead of it. -/
import Derived.Test.YtbienjnkjeaeiaaDoorPFnExactRepeatBitsx2
import Derived.Test.YtbienjnkjeaeiaaDoorMine
namespace Go.Proofs.YtbienjnkjeaeiaaDoor.Pure
open Go.RowKit Go.Proofs.YtbienjnkjeaeiaaDoor.PFnExactRepeatBits Go.Proofs.YtbienjnkjeaeiaaDoorW.PrintWords Go.Proofs.YtbienjnkjeaeiaaDoorW.PrintLast Go.Proofs.YtbienjnkjeaeiaaDoorW.PrintMore Go.Proofs.YtbienjnkjeaeiaaDoor.Mine
set_option linter.unusedVariables false
set_option linter.unusedSimpArgs false
theorem l00In_eq (a b c : Int) : spec_l00In.f a b c = some (decide (b ≤ a ∧ a ≤ c)) := by
  unfold spec_l00In.f; by_cases h : a ≥ b
  · rw [if_pos h]; simp; intro _; exact h
  · rw [if_neg h]; simp; intro h'; omega
theorem within_eq (a b c : Int) : impl_within.f a b c = some (decide (b ≤ a ∧ a ≤ c)) := by
  unfold impl_within.f; by_cases h : a ≥ b
  · rw [if_pos h]; simp; intro _; exact h
  · rw [if_neg h]; simp; intro h'; omega

def AllBit (s : ByteArray) : Prop := ∀ i : Int, 0 ≤ i → i < s.size → bt s i = 48 ∨ bt s i = 49
def IsBitS (s : ByteArray) : Prop := AllBit s ∧ (s.size : Int) ≤ 400
theorem bt_list (s : ByteArray) (i : Nat) (h : i < s.size) : bt s i = ((s.data.toList[i]'(by simpa using h)).toNat : Int) := by
  unfold bt
  simp only [Int.toNat_natCast, h, dif_pos]
  rfl
theorem dropWhile_nil (p : UInt8 → Bool) : ∀ l : List UInt8, l.dropWhile p = [] ↔ ∀ b ∈ l, p b = true
  | [] => by simp
  | x :: l => by
    rw [List.dropWhile_cons]
    cases h : p x with
    | true => simp [h, dropWhile_nil p l]
    | false => simp [h]
theorem trim_empty (l : List UInt8) : (Lib.trimS l [48, 49]).isEmpty = true ↔ ∀ b ∈ l, b = 48 ∨ b = 49 := by
  have key : ∀ p : UInt8 → Bool, List.dropWhile p (List.dropWhile p l.reverse).reverse = [] ↔ ∀ b ∈ l, p b = true := by
    intro p
    rw [dropWhile_nil]
    constructor
    · intro h
      by_cases e : List.dropWhile p l.reverse = []
      · have := (dropWhile_nil p _).1 e
        exact fun b hb => this b (by simpa using hb)
      · have hh := List.head_dropWhile_not p e
        have h3 := h ((List.dropWhile p l.reverse).head e) (by simp)
        rw [hh] at h3
        cases h3
    · intro h b hb
      have : List.dropWhile p l.reverse = [] := (dropWhile_nil p _).2 (fun b hb => h b (by simpa using hb))
      rw [this] at hb
      simp at hb
  unfold Lib.trimS Lib.trimRightS Lib.trimLeftS
  rw [List.isEmpty_iff, key]
  simp
theorem areBits_ev (s : ByteArray) (hs : s.size ≤ 140737488351232) : ∃ b, impl_areBits.f s = some b ∧ (b = true ↔ AllBit s) := by
  refine ⟨(Lib.trimS s.data.toList [48, 49]).isEmpty, by unfold impl_areBits.f; rw [if_pos (by omega)], ?_⟩
  rw [trim_empty]
  constructor
  · intro h i h0 h1
    obtain ⟨n, rfl⟩ : ∃ n : Nat, i = n := ⟨i.toNat, by omega⟩
    rw [bt_list s n (by omega)]
    rcases h _ (List.getElem_mem (l := s.data.toList) (n := n) (by simp; omega)) with e | e <;> rw [e]
    · exact Or.inl rfl
    · exact Or.inr rfl
  · intro h b hb
    obtain ⟨n, hn, rfl⟩ := List.getElem_of_mem hb
    have hn' : n < s.size := by simpa using hn
    have := h n (by omega) (by omega)
    rw [bt_list s n hn'] at this
    rcases this with e | e
    · left; apply UInt8.toNat_inj.1; show s.data.toList[n].toNat = 48; omega
    · right; apply UInt8.toNat_inj.1; show s.data.toList[n].toNat = 49; omega
theorem isBits_ev (s : ByteArray) (hs : s.size ≤ 140737488351232) : ∃ b, impl_IsBits.f s = some b ∧ (b = true ↔ IsBitS s) := by
  obtain ⟨b, hb, hi⟩ := areBits_ev s hs
  simp only [impl_IsBits.f, hb, Option.bind_some, IsBitS]
  by_cases h : (s.size : Int) ≤ 400
  · exact ⟨b, by rw [if_pos h], by rw [hi]; exact ⟨fun g => ⟨g, h⟩, fun g => g.1⟩⟩
  · exact ⟨false, by rw [if_neg h], by simp only [Bool.false_eq_true, false_iff]; exact fun g => h g.2⟩
theorem l01Bits_loop (s : ByteArray) (hs : s.size ≤ 140737488351232) (d : Nat) : ∀ i : Int, 0 ≤ i → i ≤ s.size → (s.size : Int) - i = d → (∀ j, 0 ≤ j → j < i → bt s j = 48 ∨ bt s j = 49) →
    ∃ b, Ev (fun k => spec_l01Bits.l0 k s i) b ∧ (b = true ↔ IsBitS s) := by
  induction d with
  | zero =>
    intro i h0 h1 hd hp
    refine ⟨decide ((s.size : Int) ≤ 400), Ev_succ ?_, ?_⟩
    · simp only [spec_l01Bits.l0, if_neg (show ¬ i < (s.size : Int) by omega)]
      exact Ev.now _
    · rw [decide_eq_true_eq]
      exact ⟨fun h => ⟨fun j j0 j1 => hp j j0 (by omega), h⟩, fun h => h.2⟩
  | succ d ih =>
    intro i h0 h1 hd hp
    have hlt : i < (s.size : Int) := by omega
    by_cases e : bt s i = 48 ∨ bt s i = 49
    · obtain ⟨b, hb, hi⟩ := ih (i + 1) (by omega) (by omega) (by omega) (fun j j0 j1 => by
        by_cases z : j = i
        · rw [z]; exact e
        · exact hp j j0 (by omega))
      refine ⟨b, Ev_succ ?_, hi⟩
      simp (disch := omega) only [spec_l01Bits.l0, w64]
      rcases e with e | e
      · simp only [if_pos hlt, if_pos h0, if_pos e]; exact hb
      · simp only [if_pos hlt, if_pos h0, e, if_neg (show ¬ (49 : Int) = 48 by omega), if_true]; exact hb
    · refine ⟨false, Ev_succ ?_, ?_⟩
      · simp only [spec_l01Bits.l0, if_pos hlt, if_pos h0, if_neg (fun g => e (Or.inl g)), if_neg (fun g => e (Or.inr g))]
        exact Ev.now _
      · simp only [Bool.false_eq_true, false_iff]
        exact fun g => e (g.1 i h0 hlt)
theorem l01Bits_ev (s : ByteArray) (hs : s.size ≤ 140737488351232) : ∃ b, Ev (fun k => spec_l01Bits.f k s) b ∧ (b = true ↔ IsBitS s) :=
  l01Bits_loop s hs s.size 0 (by omega) (by omega) (by omega) (fun j _ _ => by omega)
theorem bits_same (s : ByteArray) (hs : s.size ≤ 140737488351232) : ∃ b, Ev (fun k => spec_l01Bits.f k s) b ∧ impl_IsBits.f s = some b ∧ (b = true ↔ IsBitS s) := by
  obtain ⟨b, hb, hi⟩ := l01Bits_ev s hs
  obtain ⟨c, hc, hj⟩ := isBits_ev s hs
  have e : c = b := by cases b <;> cases c <;> simp_all
  subst e
  exact ⟨c, hb, hc, hi⟩

theorem ba_ext {a b : ByteArray} (h : a.data.toList = b.data.toList) : a = b := by apply ByteArray.ext; exact Array.toList_inj.1 h
theorem sn_append (a b : List Int) : strOfNums (a ++ b) = strOfNums a ++ strOfNums b := by apply ba_ext; simp [strOfNums]
theorem sn_size (a : List Int) : (strOfNums a).size = a.length := by simp [strOfNums, ByteArray.size]
theorem sn_nil : strOfNums [] = (⟨#[]⟩ : ByteArray) := rfl
theorem bt_range (s : ByteArray) (i : Int) (h0 : 0 ≤ i) (h1 : i < s.size) : 0 ≤ bt s i ∧ bt s i < 256 := by
  obtain ⟨n, rfl⟩ : ∃ n : Nat, i = n := ⟨i.toNat, by omega⟩
  rw [bt_list s n (by omega)]
  have := (s.data.toList[n]'(by simp; omega)).toNat_lt
  omega
theorem extract_one (s : ByteArray) (n : Nat) (h : n < s.size) : (s.extract n (n + 1)).data.toList = [s.data.toList[n]'(by simpa using h)] := by
  have h' : n < s.data.size := h
  simp only [ByteArray.data_extract, Array.toList_extract, List.extract_eq_take_drop]
  rw [show n + 1 - n = 1 by omega, List.drop_eq_getElem_cons (show n < s.data.toList.length by simpa using h')]
  simp
theorem sn_one (s : ByteArray) (i : Int) (h0 : 0 ≤ i) (h1 : i < s.size) : strOfNums [bt s i] = s.extract i.toNat (i + 1).toNat := by
  obtain ⟨n, rfl⟩ : ∃ n : Nat, i = n := ⟨i.toNat, by omega⟩
  apply ba_ext
  rw [show ((n : Int) + 1).toNat = n + 1 by omega, Int.toNat_natCast, extract_one s n (by omega), bt_list s n (by omega)]
  simp [strOfNums]
theorem sn_rep (x : Int) : ∀ n, strOfNums (List.replicate n x) = ⟨(Lib.repeatL (strOfNums [x]).data.toList n).toArray⟩
  | 0 => by apply ba_ext; simp [strOfNums, Lib.repeatL]
  | n + 1 => by
    rw [List.replicate_succ, show x :: List.replicate n x = [x] ++ List.replicate n x from rfl, sn_append, sn_rep x n]
    apply ba_ext
    simp [Lib.repeatL]

theorem rs_set (l : List ByteArray) (i j : Int) (v : ByteArray) (hi : 0 ≤ i) (hil : i < l.length) (hj : 0 ≤ j) : rdOf ByteArray.empty (l.set i.toNat v) j = if j = i then v else rdOf ByteArray.empty l j := by
  unfold rdOf
  by_cases e : j = i
  · subst e; rw [if_pos rfl, List.getD_eq_getElem?_getD, List.getElem?_set_self (by omega)]; rfl
  · rw [if_neg e, List.getD_eq_getElem?_getD, List.getElem?_set_ne (by omega), List.getD_eq_getElem?_getD]
theorem ext_rs (a b : List ByteArray) (h : a.length = b.length) (hp : ∀ j : Int, 0 ≤ j → j < a.length → rdOf ByteArray.empty a j = rdOf ByteArray.empty b j) : a = b := by
  apply List.ext_getElem h
  intro n h1 h2
  have := hp n (by omega) (by omega)
  unfold rdOf at this
  rw [List.getD_eq_getElem?_getD, List.getD_eq_getElem?_getD, Int.toNat_natCast, List.getElem?_eq_getElem h1, List.getElem?_eq_getElem h2] at this
  simpa using this
theorem rs_mem (l : List ByteArray) (i : Int) (h0 : 0 ≤ i) (h1 : i < l.length) : rdOf ByteArray.empty l i ∈ l := by
  unfold rdOf
  rw [List.getD_eq_getElem?_getD, List.getElem?_eq_getElem (show i.toNat < l.length by omega)]
  exact List.getElem_mem _
theorem toList_inj {a b : ByteArray} : a.toList = b.toList ↔ a = b := by
  constructor
  · intro h
    rw [Lib.toList_data, Lib.toList_data] at h
    apply ByteArray.ext
    exact Array.toList_inj.1 h
  · rintro rfl; rfl

theorem votes_eq (a : Int) : ∃ c, spec_l07Votes.f a = some c ∧ impl_isVotes.f a = some c ∧ (c = true → 1 ≤ a ∧ a ≤ 15) := by
  simp only [spec_l07Votes.f, impl_isVotes.f, l00In_eq, within_eq, Option.bind_some]
  by_cases h : 1 ≤ a ∧ a ≤ 15
  · refine ⟨(Int.tmod a 2) == 1, ?_, ?_, fun _ => h⟩ <;> simp [h]
  · refine ⟨false, ?_, ?_, by simp⟩ <;> simp [h]

theorem rep_inner (s : ByteArray) (t : Int) (ht : t ≤ 15) (i : Int) (h0 : 0 ≤ i) (h1 : i < s.size) (r : ByteArray × Bool) (d : Nat) : ∀ (l : List Int) (j : Int), 0 ≤ j → t - j = d → (l.length : Int) + d ≤ 100000 →
    Ev (fun k => spec_RepeatBits.l0 k s t (l ++ List.replicate d (bt s i)) (wrap64 (i + 1))) r → Ev (fun k => spec_RepeatBits.l1 k s t l i j) r := by
  induction d with
  | zero =>
    intro l j j0 hd hl h
    refine Ev_succ ?_
    simp only [spec_RepeatBits.l1, if_neg (show ¬ j < t by omega)]
    simpa using h
  | succ d ih =>
    intro l j j0 hd hl h
    refine Ev_succ ?_
    simp (disch := omega) only [spec_RepeatBits.l1, w64 (n := j + 1)]
    simp only [if_pos (show j < t by omega), if_pos h0, if_pos h1, if_pos (show l.length < 140737488355328 by omega)]
    refine ih _ (j + 1) (by omega) (by omega) (by simp; omega) ?_
    simpa [List.replicate_succ] using h
theorem rep_loops (s : ByteArray) (t : Int) (ht0 : 0 ≤ t) (ht : t ≤ 15) (hs : (s.size : Int) ≤ 400) (d : Nat) : ∀ (l : List Int) (i : Int), 0 ≤ i → i ≤ s.size → (s.size : Int) - i = d → (l.length : Int) ≤ 15 * i →
    ∃ r, Ev (fun k => spec_RepeatBits.l0 k s t l i) r ∧ Ev (fun k => impl_RepeatBits.l0 k s t (strOfNums l) s.size i) r := by
  induction d with
  | zero =>
    intro l i h0 h1 hd hl
    refine ⟨(strOfNums l, true), Ev_succ ?_, Ev_succ ?_⟩
    · simp only [spec_RepeatBits.l0, if_neg (show ¬ i < (s.size : Int) by omega)]; exact Ev.now _
    · simp only [impl_RepeatBits.l0, if_neg (show ¬ i < (s.size : Int) by omega)]; exact Ev.now _
  | succ d ih =>
    intro l i h0 h1 hd hl
    have hlt : i < (s.size : Int) := by omega
    obtain ⟨r, hA, hB⟩ := ih (l ++ List.replicate t.toNat (bt s i)) (i + 1) (by omega) (by omega) (by omega) (by simp; omega)
    refine ⟨r, Ev_succ ?_, Ev_succ ?_⟩
    · simp only [spec_RepeatBits.l0, if_pos hlt]
      refine rep_inner s t ht i h0 hlt r t.toNat l 0 (by omega) (by omega) (by omega) ?_
      simp (disch := omega) only [w64]
      exact hA
    · simp (disch := omega) only [impl_RepeatBits.l0, w64]
      have hx : (s.extract i.toNat (i + 1).toNat).size = 1 := by rw [← sn_one s i h0 hlt, sn_size]; rfl
      have hr : strings_Repeat.f (s.extract i.toNat (i + 1).toNat) t = some (strOfNums (List.replicate t.toNat (bt s i))) := by
        simp only [strings_Repeat.f]
        rw [if_pos ⟨ht0, by omega, by rw [hx]; omega⟩, sn_rep, sn_one s i h0 hlt]
      have hz : (strOfNums (List.replicate t.toNat (bt s i))).size = t.toNat := by rw [sn_size]; simp
      have hz2 := sn_size l
      simp only [if_pos hlt, if_pos h0, if_pos (show i ≤ i + 1 by omega), if_pos (show i + 1 ≤ (s.size : Int) by omega), hr, Option.bind_some,
        if_pos (show (strOfNums l).size + (strOfNums (List.replicate t.toNat (bt s i))).size ≤ 9223372036854775807 by omega), ← sn_append]
      exact hB
theorem repeat_both (s : ByteArray) (hs : (s.size : Int) ≤ 1048576) (t : Int) : ∃ r, Ev (fun k => spec_RepeatBits.f k s t) r ∧ Ev (fun k => impl_RepeatBits.f k s t) r := by
  obtain ⟨b, hb, hc, hi⟩ := bits_same s (by omega)
  obtain ⟨v, hv, hw, hvr⟩ := votes_eq t
  have hno : Ev (fun k => spec_RepeatBits.j0 k s t true) ((⟨#[]⟩ : ByteArray), false) := by
    refine Ev_succ ?_; simp only [spec_RepeatBits.j0, if_true]; exact Ev.now _
  have hno' : Ev (fun k => impl_RepeatBits.j0 k s t true) ((⟨#[]⟩ : ByteArray), false) := by
    refine Ev_succ ?_; simp only [impl_RepeatBits.j0, if_true]; exact Ev.now _
  simp only [spec_RepeatBits.f, impl_RepeatBits.f, hv, hw, hc, Option.bind_some]
  cases b with
  | false => exact ⟨_, Ev.bind hb (by simp only [Bool.false_eq_true, if_false]; exact hno), by simp only [Bool.false_eq_true, if_false]; exact hno'⟩
  | true =>
    cases v with
    | false => exact ⟨_, Ev.bind hb (by simp only [Bool.false_eq_true, if_false, if_true]; exact hno), by simp only [Bool.false_eq_true, if_false, if_true]; exact hno'⟩
    | true =>
      have h400 := (hi.1 rfl).2
      have ⟨t0, t1⟩ := hvr rfl
      by_cases g : wrap64 ((s.size : Int) * t) > 400
      · exact ⟨_, Ev.bind hb (by simp only [if_true, decide_eq_true g]; exact hno), by simp only [if_true, decide_eq_true g]; exact hno'⟩
      · obtain ⟨r, hA, hB⟩ := rep_loops s t (by omega) t1 h400 s.size [] 0 (by omega) (by omega) (by omega) (by simp)
        refine ⟨r, Ev.bind hb ?_, ?_⟩
        · simp only [if_true, decide_eq_false g]
          refine Ev_succ ?_
          simp only [spec_RepeatBits.j0, Bool.false_eq_true, if_false]
          exact hA
        · simp only [if_true, decide_eq_false g]
          refine Ev_succ ?_
          simp only [impl_RepeatBits.j0, Bool.false_eq_true, if_false]
          exact hB
theorem FnExactRepeatBits : laws_FnExactRepeatBits.Pure := by
  intro s t _ _
  apply Ev.rounds
  simp only [laws_FnExactRepeatBits.f]
  by_cases hbig : (s.size : Int) > 1048576
  · simp only [if_pos hbig]; exact Ev.now _
  simp only [if_neg hbig]
  obtain ⟨r, hA, hB⟩ := repeat_both s (by omega) t
  refine Ev.bind hA (Ev.bind hB ?_)
  simp only [if_true, bne_self_eq_false, Bool.false_eq_true, if_false]
  exact Ev.now _

end Go.Proofs.YtbienjnkjeaeiaaDoor.Pure
