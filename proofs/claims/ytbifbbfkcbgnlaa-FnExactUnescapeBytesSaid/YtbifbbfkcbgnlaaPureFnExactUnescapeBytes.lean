/- The law FnExactUnescapeBytes of the given program holds: for every input that the row lets in the call returns true and leaves its arguments as they were. No condition ahead of it. -/
import Derived.Test.YtbifbbfkcbgnlaaPFnExactUnescapeBytesx5
import Derived.Test.YtbifbbfkcbgnlaaMine
namespace Go.Proofs.Ytbifbbfkcbgnlaa.Pure
open Go.RowKit Go.Proofs.Ytbifbbfkcbgnlaa.PFnExactUnescapeBytes Go.Proofs.YtbifbbfkcbgnlaaW.PrintWords Go.Proofs.YtbifbbfkcbgnlaaW.PrintLast Go.Proofs.YtbifbbfkcbgnlaaW.PrintMore Go.Proofs.Ytbifbbfkcbgnlaa.Mine
set_option linter.unusedVariables false
set_option linter.unusedSimpArgs false
theorem l00In_eq (a b c : Int) : spec_l00In.f a b c = some (decide (b ≤ a ∧ a ≤ c)) := by
  unfold spec_l00In.f; by_cases h : a ≥ b
  · rw [if_pos h]; simp; intro _; exact h
  · rw [if_neg h]; simp; intro h'; omega
theorem within_eq (a b c : Int) : impl_within.f a b c = some (decide (b ≤ a ∧ a ≤ c)) := by
  unfold impl_within.f; by_cases h : a ≥ b
  · rw [if_pos h]; simp; intro _; exact h
  · rw [if_neg h]; simp; intro h'; omega

theorem areIn_loop (l : List Int) (lo hi : Int) (hl : (l.length : Int) ≤ 4611686018427387904) (d : Nat) : ∀ i : Int, 0 ≤ i → i ≤ l.length → (l.length : Int) - i = d →
    (∀ j, 0 ≤ j → j < i → lo ≤ rd l j ∧ rd l j ≤ hi) → ∃ b, Ev (fun k => impl_areIn.l0 k lo hi l l.length i) b ∧ (b = true ↔ ∀ j, 0 ≤ j → j < (l.length : Int) → lo ≤ rd l j ∧ rd l j ≤ hi) := by
  induction d with
  | zero =>
    intro i h0 h1 hd hp
    refine ⟨true, Ev_succ ?_, ?_⟩
    · simp only [impl_areIn.l0, if_neg (show ¬ i < (l.length : Int) by omega)]; exact Ev.now _
    · simp only [true_iff]; exact fun j j0 j1 => hp j j0 (by omega)
  | succ d ih =>
    intro i h0 h1 hd hp
    have hlt : i < (l.length : Int) := by omega
    by_cases hb : lo ≤ rd l i ∧ rd l i ≤ hi
    · obtain ⟨b, h, hbi⟩ := ih (i + 1) (by omega) (by omega) (by omega) (fun j j0 j1 => by
        by_cases e : j = i
        · rw [e]; exact hb
        · exact hp j j0 (by omega))
      refine ⟨b, Ev_succ ?_, hbi⟩
      simp (disch := omega) only [impl_areIn.l0, w64, within_eq, Option.bind_some]
      simp only [if_pos hlt, if_pos h0, hb, and_self, decide_true, if_true]
      exact h
    · refine ⟨false, Ev_succ ?_, ?_⟩
      · simp (disch := omega) only [impl_areIn.l0, w64, within_eq, Option.bind_some]
        simp only [if_pos hlt, if_pos h0, hb, decide_false, Bool.false_eq_true, if_false]
        exact Ev.now _
      · simp only [Bool.false_eq_true, false_iff]; exact fun g => hb (g i h0 hlt)
theorem areIn_ev (l : List Int) (lo hi : Int) (hl : (l.length : Int) ≤ 4611686018427387904) : ∃ b, Ev (fun k => impl_areIn.f k l lo hi) b ∧ (b = true ↔ ∀ j, 0 ≤ j → j < (l.length : Int) → lo ≤ rd l j ∧ rd l j ≤ hi) :=
  areIn_loop l lo hi hl l.length 0 (by omega) (by omega) (by omega) (fun j _ _ => by omega)

theorem l04Bytes_loop (l : List Int) (most : Int) (hl : (l.length : Int) ≤ 4611686018427387904) (d : Nat) : ∀ i : Int, 0 ≤ i → i ≤ l.length → (l.length : Int) - i = d →
    (∀ j, 0 ≤ j → j < i → 0 ≤ rd l j ∧ rd l j ≤ 255) → ∃ b, Ev (fun k => spec_l04Bytes.l0 k l most i) b ∧ (b = true ↔ ((l.length : Int) ≤ most ∧ ∀ j, 0 ≤ j → j < (l.length : Int) → 0 ≤ rd l j ∧ rd l j ≤ 255)) := by
  induction d with
  | zero =>
    intro i h0 h1 hd hp
    refine ⟨decide ((l.length : Int) ≤ most), Ev_succ ?_, ?_⟩
    · simp only [spec_l04Bytes.l0, if_neg (show ¬ i < (l.length : Int) by omega)]
      refine Ev_succ ?_
      simp only [spec_l04Bytes.j1, Bool.false_eq_true, if_false]; exact Ev.now _
    · rw [decide_eq_true_iff]; exact ⟨fun g => ⟨g, fun j j0 j1 => hp j j0 (by omega)⟩, fun g => g.1⟩
  | succ d ih =>
    intro i h0 h1 hd hp
    have hlt : i < (l.length : Int) := by omega
    by_cases hm : (l.length : Int) ≤ most
    · by_cases hb : 0 ≤ rd l i ∧ rd l i ≤ 255
      · obtain ⟨b, h, hbi⟩ := ih (i + 1) (by omega) (by omega) (by omega) (fun j j0 j1 => by
          by_cases e : j = i
          · rw [e]; exact hb
          · exact hp j j0 (by omega))
        refine ⟨b, Ev_succ ?_, hbi⟩
        simp only [spec_l04Bytes.l0, if_pos hlt, decide_eq_true hm]
        refine Ev_succ ?_
        simp (disch := omega) only [spec_l04Bytes.j1, w64, l00In_eq, Option.bind_some]
        simp only [if_pos hlt, if_pos h0, hb, and_self, decide_true, if_true]
        exact h
      · refine ⟨false, Ev_succ ?_, ?_⟩
        · simp only [spec_l04Bytes.l0, if_pos hlt, decide_eq_true hm]
          refine Ev_succ ?_
          simp (disch := omega) only [spec_l04Bytes.j1, w64, l00In_eq, Option.bind_some]
          simp only [if_pos hlt, if_pos h0, hb, decide_false, if_true, Bool.false_eq_true, if_false]
          exact Ev.now _
        · simp only [Bool.false_eq_true, false_iff]; exact fun g => hb (g.2 i h0 hlt)
    · refine ⟨false, Ev_succ ?_, ?_⟩
      · simp only [spec_l04Bytes.l0, if_pos hlt, decide_eq_false hm]
        refine Ev_succ ?_
        simp only [spec_l04Bytes.j1, Bool.false_eq_true, if_false, decide_eq_false hm]; exact Ev.now _
      · simp only [Bool.false_eq_true, false_iff]; exact fun g => hm g.1
theorem l04Bytes_ev (l : List Int) (most : Int) (hl : (l.length : Int) ≤ 4611686018427387904) : ∃ b, Ev (fun k => spec_l04Bytes.f k l most) b ∧ (b = true ↔ ((l.length : Int) ≤ most ∧ ∀ j, 0 ≤ j → j < (l.length : Int) → 0 ≤ rd l j ∧ rd l j ≤ 255)) :=
  l04Bytes_loop l most hl l.length 0 (by omega) (by omega) (by omega) (fun j _ _ => by omega)
theorem areBytes_ev (l : List Int) (hl : (l.length : Int) ≤ 4611686018427387904) : ∃ b, Ev (fun k => impl_areBytes.f k l) b ∧ (b = true ↔ ((l.length : Int) ≤ 300 ∧ ∀ j, 0 ≤ j → j < (l.length : Int) → 0 ≤ rd l j ∧ rd l j ≤ 255)) := by
  obtain ⟨b, hb, hi⟩ := areIn_ev l 0 255 hl
  simp only [impl_areBytes.f]
  by_cases h : (l.length : Int) ≤ 300
  · refine ⟨b, ?_, by rw [hi]; exact ⟨fun g => ⟨h, g⟩, fun g => g.2⟩⟩
    simp only [if_pos h]
    exact Ev.bind hb (Ev.now _)
  · refine ⟨false, by simp only [if_neg h]; exact Ev.now _, ?_⟩
    simp only [Bool.false_eq_true, false_iff]; exact fun g => h g.1
theorem areLong_ev (l : List Int) (hl : (l.length : Int) ≤ 4611686018427387904) : ∃ b, Ev (fun k => impl_areLongBytes.f k l) b ∧ (b = true ↔ ((l.length : Int) ≤ 600 ∧ ∀ j, 0 ≤ j → j < (l.length : Int) → 0 ≤ rd l j ∧ rd l j ≤ 255)) := by
  obtain ⟨b, hb, hi⟩ := areIn_ev l 0 255 hl
  simp only [impl_areLongBytes.f]
  by_cases h : (l.length : Int) ≤ 600
  · refine ⟨b, ?_, by rw [hi]; exact ⟨fun g => ⟨h, g⟩, fun g => g.2⟩⟩
    simp only [if_pos h]
    exact Ev.bind hb (Ev.now _)
  · refine ⟨false, by simp only [if_neg h]; exact Ev.now _, ?_⟩
    simp only [Bool.false_eq_true, false_iff]; exact fun g => h g.1
theorem bytes_both (l : List Int) (hl : (l.length : Int) ≤ 4611686018427387904) : ∃ b, Ev (fun k => spec_l04Bytes.f k l 300) b ∧ Ev (fun k => impl_areBytes.f k l) b ∧ (b = true ↔ ((l.length : Int) ≤ 300 ∧ ∀ j, 0 ≤ j → j < (l.length : Int) → 0 ≤ rd l j ∧ rd l j ≤ 255)) := by
  obtain ⟨b, hb, hi⟩ := l04Bytes_ev l 300 hl
  obtain ⟨c, hc, hj⟩ := areBytes_ev l hl
  have e : c = b := by rw [Bool.eq_iff_iff, hi, hj]
  subst e
  exact ⟨c, hb, hc, hi⟩
theorem long_both (l : List Int) (hl : (l.length : Int) ≤ 4611686018427387904) : ∃ b, Ev (fun k => spec_l04Bytes.f k l 600) b ∧ Ev (fun k => impl_areLongBytes.f k l) b ∧ (b = true ↔ ((l.length : Int) ≤ 600 ∧ ∀ j, 0 ≤ j → j < (l.length : Int) → 0 ≤ rd l j ∧ rd l j ≤ 255)) := by
  obtain ⟨b, hb, hi⟩ := l04Bytes_ev l 600 hl
  obtain ⟨c, hc, hj⟩ := areLong_ev l hl
  have e : c = b := by rw [Bool.eq_iff_iff, hi, hj]
  subst e
  exact ⟨c, hb, hc, hi⟩

def RisesIn (l : List Int) (lo hi : Int) : Prop := ∀ i : Int, 0 ≤ i → i < l.length → (lo ≤ rd l i ∧ rd l i ≤ hi) ∧ (0 < i → rd l (i - 1) < rd l i)
theorem l00Rises_loop (l : List Int) (lo hi : Int) (hl : (l.length : Int) ≤ 4611686018427387904) (d : Nat) : ∀ i : Int, 0 ≤ i → i ≤ l.length → (l.length : Int) - i = d →
    (∀ j, 0 ≤ j → j < i → (lo ≤ rd l j ∧ rd l j ≤ hi) ∧ (0 < j → rd l (j - 1) < rd l j)) → ∃ b, Ev (fun k => spec_l00Rises.l0 k l lo hi i) b ∧ (b = true ↔ RisesIn l lo hi) := by
  induction d with
  | zero =>
    intro i h0 h1 hd hp
    refine ⟨true, Ev_succ ?_, ?_⟩
    · simp only [spec_l00Rises.l0, if_neg (show ¬ i < (l.length : Int) by omega)]; exact Ev.now _
    · simp only [true_iff]; exact fun j j0 j1 => hp j j0 (by omega)
  | succ d ih =>
    intro i h0 h1 hd hp
    have hlt : i < (l.length : Int) := by omega
    by_cases hb : lo ≤ rd l i ∧ rd l i ≤ hi
    · by_cases hi0 : i > 0
      · by_cases hr : rd l (i - 1) ≥ rd l i
        · refine ⟨false, Ev_succ ?_, ?_⟩
          · simp (disch := omega) only [spec_l00Rises.l0, w64, l00In_eq, Option.bind_some]
            simp only [if_pos hlt, if_pos h0, hb, and_self, decide_true, if_true, if_pos hi0, if_pos (show 0 ≤ i - 1 by omega), if_pos (show i - 1 < (l.length : Int) by omega), if_pos hr]
            exact Ev.now _
          · simp only [Bool.false_eq_true, false_iff]; exact fun g => by have := (g i h0 hlt).2 hi0; omega
        · obtain ⟨b, h, hbi⟩ := ih (i + 1) (by omega) (by omega) (by omega) (fun j j0 j1 => by
            by_cases e : j = i
            · rw [e]; exact ⟨hb, fun _ => by omega⟩
            · exact hp j j0 (by omega))
          refine ⟨b, Ev_succ ?_, hbi⟩
          simp (disch := omega) only [spec_l00Rises.l0, w64, l00In_eq, Option.bind_some]
          simp only [if_pos hlt, if_pos h0, hb, and_self, decide_true, if_true, if_pos hi0, if_pos (show 0 ≤ i - 1 by omega), if_pos (show i - 1 < (l.length : Int) by omega), if_neg hr]
          exact h
      · obtain ⟨b, h, hbi⟩ := ih (i + 1) (by omega) (by omega) (by omega) (fun j j0 j1 => by
          by_cases e : j = i
          · rw [e]; exact ⟨hb, fun _ => by omega⟩
          · exact hp j j0 (by omega))
        refine ⟨b, Ev_succ ?_, hbi⟩
        simp (disch := omega) only [spec_l00Rises.l0, w64, l00In_eq, Option.bind_some]
        simp only [if_pos hlt, if_pos h0, hb, and_self, decide_true, if_true, if_neg hi0]
        exact h
    · refine ⟨false, Ev_succ ?_, ?_⟩
      · simp (disch := omega) only [spec_l00Rises.l0, w64, l00In_eq, Option.bind_some]
        simp only [if_pos hlt, if_pos h0, hb, decide_false, Bool.false_eq_true, if_false]
        exact Ev.now _
      · simp only [Bool.false_eq_true, false_iff]; exact fun g => hb (g i h0 hlt).1

theorem rd_set (l : List Int) (i j v : Int) (hi : 0 ≤ i) (hil : i < l.length) (hj : 0 ≤ j) : rd (l.set i.toNat v) j = if j = i then v else rd l j := by
  unfold rd
  by_cases e : j = i
  · subst e; rw [if_pos rfl, List.getD_eq_getElem?_getD, List.getElem?_set_self (by omega)]; rfl
  · rw [if_neg e, List.getD_eq_getElem?_getD, List.getElem?_set_ne (by omega), List.getD_eq_getElem?_getD]

theorem ext_rd (a b : List Int) (h : a.length = b.length) (hp : ∀ j : Int, 0 ≤ j → j < a.length → rd a j = rd b j) : a = b := by
  apply List.ext_getElem h
  intro n h1 h2
  have := hp n (by omega) (by omega)
  unfold rd at this
  rw [List.getD_eq_getElem?_getD, List.getD_eq_getElem?_getD, Int.toNat_natCast, List.getElem?_eq_getElem h1, List.getElem?_eq_getElem h2] at this
  simpa using this
theorem toInt64S_loop (l : List Int) (hl : (l.length : Int) ≤ 4611686018427387904) (d : Nat) : ∀ (m : List Int) (i : Int), m.length = l.length → 0 ≤ i → i ≤ l.length → (l.length : Int) - i = d → (∀ j, 0 ≤ j → j < i → rd m j = rd l j) →
    Ev (fun k => laws_toInt64S.l0 k l m i) l := by
  induction d with
  | zero =>
    intro m i hm h0 h1 hd hp
    refine Ev_succ ?_
    simp only [laws_toInt64S.l0, if_neg (show ¬ i < (l.length : Int) by omega)]
    rw [ext_rd m l hm (fun j j0 j1 => hp j j0 (by omega))]
    exact Ev.now _
  | succ d ih =>
    intro m i hm h0 h1 hd hp
    refine Ev_succ ?_
    simp (disch := omega) only [laws_toInt64S.l0, w64]
    simp only [if_pos (show i < (l.length : Int) by omega), if_pos h0, if_pos (show i < (m.length : Int) by omega)]
    refine ih (m.set i.toNat (rd l i)) (i + 1) (by rw [List.length_set]; exact hm) (by omega) (by omega) (by omega) (fun j j0 j1 => ?_)
    rw [rd_set m i j _ h0 (by omega) j0]
    by_cases e : j = i
    · rw [if_pos e, e]
    · rw [if_neg e]; exact hp j j0 (by omega)
theorem toInt64S_ev (l : List Int) (hl : (l.length : Int) ≤ 1048576) : Ev (fun k => laws_toInt64S.f k l) l := by
  simp only [laws_toInt64S.f, if_pos (show 0 ≤ (l.length : Int) by omega), if_pos (show ((l.length : Int)).toNat ≤ 35184372088832 by omega)]
  exact toInt64S_loop l (by omega) l.length _ 0 (by simp) (by omega) (by omega) (by omega) (fun j _ _ => by omega)

theorem same_loops (a b : List Int) (h : a.length = b.length) (hl : (a.length : Int) ≤ 4611686018427387904) (d : Nat) : ∀ i : Int, 0 ≤ i → i ≤ a.length → (a.length : Int) - i = d →
    ∃ r, Ev (fun k => spec_l00Same.l0 k a b i) r ∧ Ev (fun k => slices_Equal_int64_int64.l0 k a b a.length i) r ∧ (r = true ↔ ∀ j : Int, i ≤ j → j < a.length → rd a j = rd b j) := by
  induction d with
  | zero =>
    intro i h0 h1 hd
    have e := show ¬ i < (a.length : Int) by omega
    refine ⟨true, Ev_succ ?_, Ev_succ ?_, ?_⟩
    · simp only [spec_l00Same.l0, if_neg e]; exact Ev.now _
    · simp only [slices_Equal_int64_int64.l0, if_neg e]; exact Ev.now _
    · simp only [true_iff]; intro j j0 j1; omega
  | succ d ih =>
    intro i h0 h1 hd
    have e := show i < (a.length : Int) by omega
    have e2 := show i < (b.length : Int) by omega
    by_cases q : rd a i = rd b i
    · obtain ⟨r, hA, hB, hr⟩ := ih (i + 1) (by omega) (by omega) (by omega)
      refine ⟨r, Ev_succ ?_, Ev_succ ?_, ?_⟩
      · simp (disch := omega) only [spec_l00Same.l0, w64]
        simp only [if_pos e, if_pos h0, if_pos e2, if_pos q]; exact hA
      · simp (disch := omega) only [slices_Equal_int64_int64.l0, w64]
        simp only [if_pos e, if_pos h0, if_pos e2, if_pos q]; exact hB
      · rw [hr]
        exact ⟨fun g j j0 j1 => by
          by_cases z : j = i
          · rw [z]; exact q
          · exact g j (by omega) j1, fun g j j0 j1 => g j (by omega) j1⟩
    · refine ⟨false, Ev_succ ?_, Ev_succ ?_, ?_⟩
      · simp only [spec_l00Same.l0, if_pos e, if_pos h0, if_pos e2, if_neg q]; exact Ev.now _
      · simp only [slices_Equal_int64_int64.l0, if_pos e, if_pos h0, if_pos e2, if_neg q]; exact Ev.now _
      · simp only [Bool.false_eq_true, false_iff]; exact fun g => q (g i (by omega) e)
theorem same_both (a b : List Int) (hl : (a.length : Int) ≤ 4611686018427387904) :
    ∃ r, Ev (fun k => spec_l00Same.f k a b) r ∧ Ev (fun k => slices_Equal_int64_int64.f k a b) r ∧ (r = true ↔ a = b) := by
  by_cases h : a.length = b.length
  · obtain ⟨r, hA, hB, hr⟩ := same_loops a b h hl a.length 0 (by omega) (by omega) (by omega)
    have e := show (a.length : Int) = b.length by omega
    refine ⟨r, ?_, ?_, ?_⟩
    · simp only [spec_l00Same.f, if_pos e]; exact hA
    · simp only [slices_Equal_int64_int64.f, if_pos e]; exact hB
    · rw [hr]; exact ⟨fun g => ext_rd a b h (fun j j0 j1 => g j j0 j1), fun g => by subst g; intros; rfl⟩
  · have e := show ¬ (a.length : Int) = b.length by omega
    refine ⟨false, ?_, ?_, ?_⟩
    · simp only [spec_l00Same.f, if_neg e]; exact Ev.now _
    · simp only [slices_Equal_int64_int64.f, if_neg e]; exact Ev.now _
    · simp only [Bool.false_eq_true, false_iff]; exact fun g => h (by rw [g])
theorem rd_mem (l : List Int) (i : Int) (h0 : 0 ≤ i) (h1 : i < l.length) : rd l i ∈ l := by
  unfold rd
  rw [List.getD_eq_getElem?_getD, List.getElem?_eq_getElem (show i.toNat < l.length by omega)]
  exact List.getElem_mem _
theorem mem_rd (l : List Int) (v : Int) (h : v ∈ l) : ∃ i : Int, 0 ≤ i ∧ i < l.length ∧ rd l i = v := by
  obtain ⟨n, hn, e⟩ := List.getElem_of_mem h
  refine ⟨n, by omega, by omega, ?_⟩
  unfold rd
  rw [Int.toNat_natCast, List.getD_eq_getElem?_getD, List.getElem?_eq_getElem hn, ← e]; rfl
def ByteL (l : List Int) : Prop := ∀ v ∈ l, 0 ≤ v ∧ v ≤ 255
theorem ByteL.rd {l : List Int} (h : ByteL l) (j : Int) (h0 : 0 ≤ j) (h1 : j < l.length) : 0 ≤ rd l j ∧ rd l j ≤ 255 := h _ (rd_mem l j h0 h1)

theorem ofFuel {α : Type} {g : Nat → Option α} {r : α} (K : Nat) (h : ∀ k, K < k → g k = some r) : Ev g r := ⟨K + 1, fun k hk => h k (by omega)⟩
theorem rd_natS (l : List Int) (n : Nat) (h : n < l.length) : rd l n = l[n] := by
  unfold rd; rw [Int.toNat_natCast, List.getD_eq_getElem?_getD, List.getElem?_eq_getElem h]; rfl
theorem drop_rdS (l : List Int) (n : Nat) (h : n < l.length) : l.drop n = rd l n :: l.drop (n + 1) := by
  rw [List.drop_eq_getElem_cons h, rd_natS l n h]
theorem has_loop (l : List Int) (a : Int) (hl : l.length ≤ 4000000) (d : Nat) : ∀ (i k : Nat), i + d = l.length → d < k → spec_l00Has.l0 k l a i = some (decide (a ∈ l.drop i)) := by
  induction d with
  | zero =>
    intro i k hd hk
    obtain ⟨k, rfl⟩ : ∃ m, k = m + 1 := ⟨k - 1, by omega⟩
    rw [List.drop_of_length_le (by omega)]
    simp only [spec_l00Has.l0, if_neg (show ¬ (i : Int) < (l.length : Int) by omega)]; rfl
  | succ d ih =>
    intro i k hd hk
    obtain ⟨k, rfl⟩ : ∃ m, k = m + 1 := ⟨k - 1, by omega⟩
    have e := ih (i + 1) k (by omega) (by omega)
    have q : (i : Int) < (l.length : Int) := by omega
    have q0 : (0 : Int) ≤ i := by omega
    have b2 : -9223372036854775808 ≤ ((i + 1 : Nat) : Int) ∧ ((i + 1 : Nat) : Int) ≤ 9223372036854775807 := by omega
    have b3 : (i : Int) + 1 = ((i + 1 : Nat) : Int) := by omega
    simp only [spec_l00Has.l0, if_pos q, if_pos q0, b3, w64 b2.1 b2.2, e]
    rw [drop_rdS l i (by omega)]
    by_cases c : rd l i = a
    · rw [if_pos c]; simp [c]
    · rw [if_neg c]; simp [show ¬ a = rd l i from fun g => c g.symm]
theorem has_eq (l : List Int) (a : Int) (hl : l.length ≤ 4000000) (k : Nat) (hk : l.length < k) : spec_l00Has.f k l a = some (decide (a ∈ l)) := by
  have := has_loop l a hl l.length 0 k (by omega) hk
  rwa [List.drop_zero] at this
theorem index_loopS (l : List Int) (a : Int) (hl : l.length ≤ 4000000) (d : Nat) : ∀ (i k : Nat), i + d = l.length → d < k → ∃ r, slices_Index_int64_int64.l0 k l a l.length i = some r ∧ (r ≥ 0 ↔ a ∈ l.drop i) := by
  induction d with
  | zero =>
    intro i k hd hk
    obtain ⟨k, rfl⟩ : ∃ m, k = m + 1 := ⟨k - 1, by omega⟩
    rw [List.drop_of_length_le (by omega)]
    exact ⟨-1, by simp only [slices_Index_int64_int64.l0, if_neg (show ¬ (i : Int) < (l.length : Int) by omega)], by simp⟩
  | succ d ih =>
    intro i k hd hk
    obtain ⟨k, rfl⟩ : ∃ m, k = m + 1 := ⟨k - 1, by omega⟩
    obtain ⟨r, e, hr⟩ := ih (i + 1) k (by omega) (by omega)
    have q : (i : Int) < (l.length : Int) := by omega
    have q0 : (0 : Int) ≤ i := by omega
    have b2 : -9223372036854775808 ≤ ((i + 1 : Nat) : Int) ∧ ((i + 1 : Nat) : Int) ≤ 9223372036854775807 := by omega
    have b3 : (i : Int) + 1 = ((i + 1 : Nat) : Int) := by omega
    rw [drop_rdS l i (by omega)]
    by_cases c : a = rd l i
    · exact ⟨i, by simp only [slices_Index_int64_int64.l0, if_pos q, if_pos q0, if_pos c], by simp [c]⟩
    · exact ⟨r, by simp only [slices_Index_int64_int64.l0, if_pos q, if_pos q0, if_neg c, b3, w64 b2.1 b2.2, e], by rw [hr]; simp [c]⟩
theorem contains_eq (l : List Int) (a : Int) (hl : l.length ≤ 4000000) (k : Nat) (hk : l.length < k) : slices_Contains_int64_int64.f k l a = some (decide (a ∈ l)) := by
  obtain ⟨r, e, hr⟩ := index_loopS l a hl l.length 0 k (by omega) hk
  have e2 : slices_Index_int64_int64.f k l a = some r := e
  rw [List.drop_zero] at hr
  rw [slices_Contains_int64_int64.f, e2]
  simp only [Option.bind_some, Option.some.injEq]
  exact decide_eq_decide.2 hr
theorem areIn_fuel (l : List Int) (lo hi : Int) (hl : l.length ≤ 4000000) (d : Nat) : ∀ (i k : Nat), i + d = l.length → d < k → ∃ b, impl_areIn.l0 k lo hi l l.length i = some b ∧ (b = true ↔ ∀ j : Int, (i : Int) ≤ j → j < l.length → lo ≤ rd l j ∧ rd l j ≤ hi) := by
  induction d with
  | zero =>
    intro i k hd hk
    obtain ⟨k, rfl⟩ : ∃ m, k = m + 1 := ⟨k - 1, by omega⟩
    exact ⟨true, by simp only [impl_areIn.l0, if_neg (show ¬ (i : Int) < (l.length : Int) by omega)], by simp only [true_iff]; intro j j0 j1; omega⟩
  | succ d ih =>
    intro i k hd hk
    obtain ⟨k, rfl⟩ : ∃ m, k = m + 1 := ⟨k - 1, by omega⟩
    obtain ⟨r, e, hr⟩ := ih (i + 1) k (by omega) (by omega)
    have q : (i : Int) < (l.length : Int) := by omega
    have q0 : (0 : Int) ≤ i := by omega
    have b2 : -9223372036854775808 ≤ ((i + 1 : Nat) : Int) ∧ ((i + 1 : Nat) : Int) ≤ 9223372036854775807 := by omega
    have b3 : (i : Int) + 1 = ((i + 1 : Nat) : Int) := by omega
    by_cases c : lo ≤ rd l i ∧ rd l i ≤ hi
    · refine ⟨r, by simp only [impl_areIn.l0, if_pos q, if_pos q0, within_eq, Option.bind_some, decide_eq_true c, if_true, b3, w64 b2.1 b2.2, e], ?_⟩
      rw [hr]
      exact ⟨fun g j j0 j1 => by
        by_cases z : j = i
        · rw [z]; exact c
        · exact g j (by omega) j1, fun g j j0 j1 => g j (by omega) j1⟩
    · refine ⟨false, by simp only [impl_areIn.l0, if_pos q, if_pos q0, within_eq, Option.bind_some, decide_eq_false c, Bool.false_eq_true, if_false], ?_⟩
      simp only [Bool.false_eq_true, false_iff]; exact fun g => c (g i (by omega) q)
theorem isInc_fuel (l : List Int) (hl : l.length ≤ 4000000) (d : Nat) : ∀ (i k : Nat), i + d = l.length → d < k → ∃ b, impl_isIncreasing.l0 k l l.length i = some b ∧ (b = true ↔ ∀ j : Int, (i : Int) ≤ j → j < l.length → 0 < j → rd l (j - 1) < rd l j) := by
  induction d with
  | zero =>
    intro i k hd hk
    obtain ⟨k, rfl⟩ : ∃ m, k = m + 1 := ⟨k - 1, by omega⟩
    exact ⟨true, by simp only [impl_isIncreasing.l0, if_neg (show ¬ (i : Int) < (l.length : Int) by omega)], by simp only [true_iff]; intro j j0 j1; omega⟩
  | succ d ih =>
    intro i k hd hk
    obtain ⟨k, rfl⟩ : ∃ m, k = m + 1 := ⟨k - 1, by omega⟩
    obtain ⟨r, e, hr⟩ := ih (i + 1) k (by omega) (by omega)
    have q : (i : Int) < (l.length : Int) := by omega
    have q0 : (0 : Int) ≤ i := by omega
    have b2 : -9223372036854775808 ≤ ((i + 1 : Nat) : Int) ∧ ((i + 1 : Nat) : Int) ≤ 9223372036854775807 := by omega
    have b3 : (i : Int) + 1 = ((i + 1 : Nat) : Int) := by omega
    have b4 : -9223372036854775808 ≤ (i : Int) - 1 ∧ (i : Int) - 1 ≤ 9223372036854775807 := by omega
    by_cases p : (i : Int) > 0
    · have q1 : 0 ≤ (i : Int) - 1 := by omega
      have q2 : (i : Int) - 1 < (l.length : Int) := by omega
      by_cases c : rd l i ≤ rd l ((i : Int) - 1)
      · refine ⟨false, by simp only [impl_isIncreasing.l0, if_pos q, if_pos q0, if_pos p, w64 b4.1 b4.2, if_pos q1, if_pos q2, if_pos c], ?_⟩
        simp only [Bool.false_eq_true, false_iff]; exact fun g => by have := g i (by omega) q p; omega
      · refine ⟨r, by simp only [impl_isIncreasing.l0, if_pos q, if_pos q0, if_pos p, w64 b4.1 b4.2, if_pos q1, if_pos q2, if_neg c, b3, w64 b2.1 b2.2, e], ?_⟩
        rw [hr]
        exact ⟨fun g j j0 j1 j2 => by
          by_cases z : j = i
          · rw [z]; omega
          · exact g j (by omega) j1 j2, fun g j j0 j1 => g j (by omega) j1⟩
    · refine ⟨r, by simp only [impl_isIncreasing.l0, if_pos q, if_neg p, b3, w64 b2.1 b2.2, e], ?_⟩
      rw [hr]
      exact ⟨fun g j j0 j1 j2 => g j (by omega) j1 j2, fun g j j0 j1 => g j (by omega) j1⟩
def SpOk (l : List Int) : Prop := (1 ≤ (l.length : Int) ∧ (l.length : Int) ≤ 8) ∧ RisesIn l 0 255 ∧ 125 ∈ l ∧ ∀ n ∈ l, ¬ Go.bits .xor .i64 n 32 ∈ l
theorem areSpecial_eq (l : List Int) : ∃ b, impl_areSpecial.f l = some b ∧ (b = true ↔ SpOk l) := by
  unfold impl_areSpecial.f
  by_cases c1 : (l.length : Int) < 1
  · rw [if_pos c1]; exact ⟨false, rfl, by simp only [Bool.false_eq_true, false_iff]; exact fun g => by have := g.1.1; omega⟩
  by_cases c2 : (l.length : Int) > 8
  · rw [if_neg c1, if_pos c2]; exact ⟨false, rfl, by simp only [Bool.false_eq_true, false_iff]; exact fun g => by have := g.1.2; omega⟩
  rw [if_neg c1, if_neg c2]
  obtain ⟨a, ha, ia⟩ := areIn_fuel l 0 255 (by omega) l.length 0 10 (by omega) (by omega)
  obtain ⟨b, hb, ib⟩ := isInc_fuel l (by omega) l.length 0 10 (by omega) (by omega)
  have ha2 : impl_areIn.f 10 l 0 255 = some a := ha
  have hb2 : impl_isIncreasing.f 10 l = some b := hb
  have hc := contains_eq l 125 (by omega) 10 (by omega)
  have hr : RisesIn l 0 255 ↔ a = true ∧ b = true := by
    rw [ia, ib]
    exact ⟨fun g => ⟨fun j j0 j1 => (g j (by omega) j1).1, fun j j0 j1 j2 => (g j (by omega) j1).2 j2⟩, fun g i i0 i1 => ⟨g.1 i (by omega) i1, fun z => g.2 i (by omega) i1 z⟩⟩
  have hhit : ∀ x, impl_areSpecial.hit l x = decide (Go.bits .xor .i64 x 32 ∈ l) := by
    intro x
    unfold impl_areSpecial.hit
    rw [contains_eq l _ (by omega) 10 (by omega)]
    by_cases z : Go.bits .xor .i64 x 32 ∈ l
    · rw [decide_eq_true z]; rfl
    · rw [decide_eq_false z]; rfl
  rw [ha2, Option.bind_some]
  cases a with
  | false => exact ⟨false, rfl, by simp only [Bool.false_eq_true, false_iff]; exact fun g => by have := hr.1 g.2.1; cases this.1⟩
  | true =>
    rw [if_pos rfl, hb2, Option.bind_some]
    cases b with
    | false => exact ⟨false, rfl, by simp only [Bool.false_eq_true, false_iff]; exact fun g => by have := hr.1 g.2.1; cases this.2⟩
    | true =>
      have hr := hr.2 ⟨rfl, rfl⟩
      rw [if_pos rfl, hc, Option.bind_some]
      by_cases c3 : 125 ∈ l
      · rw [decide_eq_true c3, if_pos rfl]
        refine ⟨_, rfl, ?_⟩
        rw [Bool.not_eq_true', List.any_eq_false]
        constructor
        · intro g
          refine ⟨by omega, hr, c3, fun n hn z => ?_⟩
          have := g n hn
          rw [hhit, decide_eq_true z] at this
          exact this rfl
        · intro g n hn
          rw [hhit, decide_eq_false (g.2.2.2 n hn)]
          exact Bool.false_ne_true
      · rw [decide_eq_false c3]
        exact ⟨false, rfl, by simp only [Bool.false_eq_true, false_iff]; exact fun g => c3 g.2.2.1⟩
theorem special_loop (l : List Int) (hl : l.length ≤ 8) (d : Nat) : ∀ i : Nat, i + d = l.length → ∃ b, Ev (fun k => spec_l04Special.l0 k l i) b ∧ (b = true ↔ ∀ n ∈ l.drop i, ¬ Go.bits .xor .i64 n 32 ∈ l) := by
  induction d with
  | zero =>
    intro i hd
    refine ⟨true, Ev_succ ?_, ?_⟩
    · simp only [spec_l04Special.l0, if_neg (show ¬ (i : Int) < (l.length : Int) by omega)]; exact Ev.now _
    · rw [List.drop_of_length_le (by omega)]; simp
  | succ d ih =>
    intro i hd
    obtain ⟨r, e, hr⟩ := ih (i + 1) (by omega)
    have q : (i : Int) < (l.length : Int) := by omega
    have q0 : (0 : Int) ≤ i := by omega
    have b2 : -9223372036854775808 ≤ ((i + 1 : Nat) : Int) ∧ ((i + 1 : Nat) : Int) ≤ 9223372036854775807 := by omega
    have b3 : (i : Int) + 1 = ((i + 1 : Nat) : Int) := by omega
    have hh := ofFuel (g := fun k => spec_l00Has.f k l (Go.bits .xor .i64 (rd l i) 32)) l.length (fun k hk => has_eq l _ (by omega) k hk)
    rw [drop_rdS l i (by omega)]
    by_cases c : Go.bits .xor .i64 (rd l i) 32 ∈ l
    · refine ⟨false, Ev_succ ?_, ?_⟩
      · simp only [spec_l04Special.l0, if_pos q, if_pos q0]
        refine Ev.bind hh ?_
        simp only [decide_eq_true c, if_true]; exact Ev.now _
      · simp only [Bool.false_eq_true, false_iff]; exact fun g => g _ List.mem_cons_self c
    · refine ⟨r, Ev_succ ?_, ?_⟩
      · simp only [spec_l04Special.l0, if_pos q, if_pos q0]
        refine Ev.bind hh ?_
        simp only [decide_eq_false c, Bool.false_eq_true, if_false, b3, w64 b2.1 b2.2]; exact e
      · rw [hr]
        constructor
        · intro g n hn
          rcases List.mem_cons.1 hn with z | z
          · rw [z]; exact c
          · exact g n z
        · intro g n hn; exact g n (List.mem_cons_of_mem _ hn)
theorem l04Special_ev (l : List Int) (hl : (l.length : Int) ≤ 1048576) : ∃ b, Ev (fun k => spec_l04Special.f k l) b ∧ (b = true ↔ SpOk l) := by
  simp only [spec_l04Special.f, l00In_eq, Option.bind_some]
  have no : Ev (fun k => spec_l04Special.j0 k l true) false := by
    refine Ev_succ ?_; simp only [spec_l04Special.j0, if_true]; exact Ev.now _
  by_cases c : 1 ≤ (l.length : Int) ∧ (l.length : Int) ≤ 8
  · obtain ⟨b, hb, hi⟩ := l00Rises_loop l 0 255 (by omega) l.length 0 (by omega) (by omega) (by omega) (fun j _ _ => by omega)
    simp only [decide_eq_true c, if_true]
    cases b with
    | false =>
      refine ⟨false, Ev.bind hb (by simp only [Bool.false_eq_true, if_false]; exact no), ?_⟩
      simp only [Bool.false_eq_true, false_iff]; exact fun g => by have := hi.2 g.2.1; cases this
    | true =>
      have hr := hi.1 rfl
      have hh := ofFuel (g := fun k => spec_l00Has.f k l 125) l.length (fun k hk => has_eq l _ (by omega) k hk)
      by_cases c3 : 125 ∈ l
      · rw [decide_eq_true c3] at hh
        obtain ⟨r, e, hr2⟩ := special_loop l (by omega) l.length 0 (by omega)
        refine ⟨r, Ev.bind hb ?_, ?_⟩
        · simp only [if_true]
          refine Ev.bind hh ?_
          simp only [Bool.not_true]
          refine Ev_succ ?_
          simp only [spec_l04Special.j0, Bool.false_eq_true, if_false]; exact e
        · rw [hr2, List.drop_zero]; exact ⟨fun g => ⟨c, hr, c3, g⟩, fun g => g.2.2.2⟩
      · rw [decide_eq_false c3] at hh
        refine ⟨false, Ev.bind hb ?_, ?_⟩
        · simp only [if_true]
          refine Ev.bind hh ?_
          simp only [Bool.not_false]; exact no
        · simp only [Bool.false_eq_true, false_iff]; exact fun g => c3 g.2.2.1
  · refine ⟨false, ?_, ?_⟩
    · simp only [decide_eq_false c, Bool.false_eq_true, if_false]; exact no
    · simp only [Bool.false_eq_true, false_iff]; exact fun g => c g.1
theorem special_both (l : List Int) (hl : (l.length : Int) ≤ 1048576) : ∃ b, Ev (fun k => spec_l04Special.f k l) b ∧ impl_areSpecial.f l = some b ∧ (b = true ↔ SpOk l) := by
  obtain ⟨b, hb, hi⟩ := l04Special_ev l hl
  obtain ⟨c, hc, hj⟩ := areSpecial_eq l
  have e : c = b := by rw [Bool.eq_iff_iff, hi, hj]
  subst e
  exact ⟨c, hb, hc, hi⟩
def escL (S : List Int) : List Int → List Int
  | [] => []
  | n :: r => if n ∈ S then 125 :: Go.bits .xor .i64 n 32 :: escL S r else n :: escL S r
theorem escL_length (S : List Int) : ∀ l : List Int, l.length ≤ (escL S l).length ∧ (escL S l).length ≤ 2 * l.length
  | [] => by simp [escL]
  | n :: r => by
    have := escL_length S r
    simp only [escL]; split <;> simp <;> omega
theorem esc_spec (S l : List Int) (hS : S.length ≤ 1000) (hl : l.length ≤ 1048576) (d : Nat) : ∀ (o : List Int) (i : Nat), i + d = l.length → o.length ≤ 2 * i →
    Ev (fun k => spec_l04Escape.l0 k S l o i) (o ++ escL S (l.drop i)) := by
  induction d with
  | zero =>
    intro o i hd ho
    refine Ev_succ ?_
    rw [List.drop_of_length_le (by omega), escL, List.append_nil]
    simp only [spec_l04Escape.l0, if_neg (show ¬ (i : Int) < (l.length : Int) by omega)]; exact Ev.now _
  | succ d ih =>
    intro o i hd ho
    have q : (i : Int) < (l.length : Int) := by omega
    have q0 : (0 : Int) ≤ i := by omega
    have b2 : -9223372036854775808 ≤ ((i + 1 : Nat) : Int) ∧ ((i + 1 : Nat) : Int) ≤ 9223372036854775807 := by omega
    have b3 : (i : Int) + 1 = ((i + 1 : Nat) : Int) := by omega
    have hh := ofFuel (g := fun k => spec_l00Has.f k S (rd l i)) S.length (fun k hk => has_eq S _ (by omega) k hk)
    have lt : o.length < 17592186044416 := by omega
    rw [drop_rdS l i (by omega)]
    refine Ev_succ ?_
    simp only [spec_l04Escape.l0, if_pos q, if_pos q0]
    refine Ev.bind hh ?_
    by_cases c : rd l i ∈ S
    · have lt2 : (o ++ [125]).length < 17592186044416 := by simp; omega
      have hE := ih (o ++ [125] ++ [Go.bits .xor .i64 (rd l i) 32]) (i + 1) (by omega) (by simp; omega)
      rw [List.append_assoc, List.append_assoc] at hE
      simp only [decide_eq_true c, if_true, if_pos lt, Option.bind_some, if_pos lt2, b3, w64 b2.1 b2.2, escL, if_pos c]
      rw [List.append_assoc]
      exact hE
    · have hE := ih (o ++ [rd l i]) (i + 1) (by omega) (by simp; omega)
      rw [List.append_assoc] at hE
      simp only [decide_eq_false c, Bool.false_eq_true, if_false, if_pos lt, b3, w64 b2.1 b2.2, escL, if_neg c]
      exact hE
theorem esc_impl (S l : List Int) (hS : S.length ≤ 1000) (hl : l.length ≤ 1048576) (d : Nat) : ∀ (o : List Int) (i : Nat), i + d = l.length → o.length ≤ 2 * i →
    Ev (fun k => impl_escape.l0 k S o l l.length i) (o ++ escL S (l.drop i)) := by
  induction d with
  | zero =>
    intro o i hd ho
    refine Ev_succ ?_
    rw [List.drop_of_length_le (by omega), escL, List.append_nil]
    simp only [impl_escape.l0, if_neg (show ¬ (i : Int) < (l.length : Int) by omega)]; exact Ev.now _
  | succ d ih =>
    intro o i hd ho
    have q : (i : Int) < (l.length : Int) := by omega
    have q0 : (0 : Int) ≤ i := by omega
    have b2 : -9223372036854775808 ≤ ((i + 1 : Nat) : Int) ∧ ((i + 1 : Nat) : Int) ≤ 9223372036854775807 := by omega
    have b3 : (i : Int) + 1 = ((i + 1 : Nat) : Int) := by omega
    have hh := ofFuel (g := fun k => slices_Contains_int64_int64.f k S (rd l i)) S.length (fun k hk => contains_eq S _ (by omega) k hk)
    have lt : o.length < 17592186044416 := by omega
    rw [drop_rdS l i (by omega)]
    refine Ev_succ ?_
    simp only [impl_escape.l0, if_pos q, if_pos q0]
    refine Ev.bind hh ?_
    by_cases c : rd l i ∈ S
    · have lt2 : o.length + [125, Go.bits .xor .i64 (rd l i) 32].length < 17592186044416 := by show o.length + 2 < _; omega
      have hE := ih (o ++ [125, Go.bits .xor .i64 (rd l i) 32]) (i + 1) (by omega) (by simp; omega)
      rw [List.append_assoc] at hE
      simp only [decide_eq_true c, if_true, Option.bind_some, if_pos lt2, b3, w64 b2.1 b2.2, escL, if_pos c]
      exact hE
    · have hE := ih (o ++ [rd l i]) (i + 1) (by omega) (by simp; omega)
      rw [List.append_assoc] at hE
      simp only [decide_eq_false c, Bool.false_eq_true, if_false, if_pos lt, b3, w64 b2.1 b2.2, escL, if_neg c]
      exact hE
theorem esc_specE (S l : List Int) (hS : S.length ≤ 1000) (hl : l.length ≤ 1048576) : Ev (fun k => spec_l04Escape.f k S l) (escL S l) := by
  have := esc_spec S l hS hl l.length [] 0 (by omega) (by simp)
  rwa [List.drop_zero, List.nil_append] at this
theorem esc_implE (S l : List Int) (hS : S.length ≤ 1000) (hl : l.length ≤ 1048576) : Ev (fun k => impl_escape.f k S l) (escL S l) := by
  have := esc_impl S l hS hl l.length [] 0 (by omega) (by simp)
  rwa [List.drop_zero, List.nil_append] at this

theorem xor32 : ∀ b : Fin 256, 0 ≤ Go.bits .xor .i64 (b.val : Int) 32 ∧ Go.bits .xor .i64 (b.val : Int) 32 ≤ 255 ∧ Go.bits .xor .i64 (Go.bits .xor .i64 (b.val : Int) 32) 32 = (b.val : Int) := by decide +kernel
theorem xor32_ok (v : Int) (h : 0 ≤ v ∧ v ≤ 255) : 0 ≤ Go.bits .xor .i64 v 32 ∧ Go.bits .xor .i64 v 32 ≤ 255 ∧ Go.bits .xor .i64 (Go.bits .xor .i64 v 32) 32 = v := by
  have := xor32 ⟨v.toNat, by omega⟩
  have e : ((v.toNat : Nat) : Int) = v := by omega
  simp only [e] at this
  exact this
theorem escL_append (S : List Int) : ∀ a b : List Int, escL S (a ++ b) = escL S a ++ escL S b
  | [], b => rfl
  | n :: r, b => by
    rw [List.cons_append]
    simp only [escL]
    rw [escL_append S r b]
    split <;> rfl
theorem unesc_end (S : List Int) (hS : S.length ≤ 1000) (x out : List Int) (ho : ByteL out) (hol : out.length ≤ 600) :
    ∃ r, (r.1.length : Int) ≤ 1048576 ∧ Ev (fun k => spec_UnescapeBytes.l0 k S x out x.length) r ∧ Ev (fun k => impl_UnescapeBytes.l0 k S x out x.length) r ∧ (¬ escL S out = x → r = ([], false)) ∧ (escL S out = x → out.length ≤ 300 → r = (out, true)) := by
  obtain ⟨b, hb, hi⟩ := areBytes_ev out (by omega)
  have en : ¬ (x.length : Int) < (x.length : Int) := by omega
  have hel := escL_length S out
  by_cases h3 : (out.length : Int) ≤ 300
  · have hbt : b = true := hi.2 ⟨h3, fun j j0 j1 => ho.rd j j0 j1⟩
    subst hbt
    have hA := esc_specE S out hS (by omega)
    have hB := esc_implE S out hS (by omega)
    obtain ⟨r, hC, hD, hr⟩ := same_both (escL S out) x (by omega)
    refine ⟨if r = true then (out, true) else ([], false), by cases r <;> simp <;> omega, Ev_succ ?_, Ev_succ ?_, ?_, ?_⟩
    · simp only [spec_UnescapeBytes.l0, if_neg en, if_neg (show ¬ (out.length : Int) > 300 by omega)]
      refine Ev.bind hA (Ev.bind hC ?_)
      cases r <;> exact Ev.now _
    · simp only [impl_UnescapeBytes.l0, if_neg en]
      refine Ev.bind hb ?_
      simp only [if_true]
      refine Ev.bind hB (Ev.bind hD ?_)
      cases r <;> exact Ev.now _
    · intro g
      cases r with
      | true => exact absurd (hr.1 rfl) g
      | false => rfl
    · intro g _
      rw [hr.2 g]; rfl
  · have hbf : b = false := by
      cases b with
      | false => rfl
      | true => exact absurd (hi.1 rfl).1 h3
    subst hbf
    refine ⟨([], false), by simp, Ev_succ ?_, Ev_succ ?_, fun _ => rfl, fun _ g => absurd (by omega) h3⟩
    · simp only [spec_UnescapeBytes.l0, if_neg en, if_pos (show (out.length : Int) > 300 by omega)]
      exact Ev.now _
    · simp only [impl_UnescapeBytes.l0, if_neg en]
      refine Ev.bind hb ?_
      simp only [Bool.false_eq_true, if_false]
      exact Ev.now _
theorem unesc_loops (S : List Int) (hS : S.length ≤ 1000) (h125 : 125 ∈ S) (x : List Int) (hx : ByteL x) (hl : x.length ≤ 600) (d : Nat) : ∀ (out : List Int) (i : Nat), i ≤ x.length → x.length - i ≤ d → out.length ≤ i → ByteL out →
    ∃ r, (r.1.length : Int) ≤ 1048576 ∧ Ev (fun k => spec_UnescapeBytes.l0 k S x out i) r ∧ Ev (fun k => impl_UnescapeBytes.l0 k S x out i) r := by
  induction d using Nat.strongRecOn with
  | ind d ih =>
  intro out i hi hd ho hob
  by_cases hend : i = x.length
  · subst hend
    obtain ⟨r, h1, h2, h3, -⟩ := unesc_end S hS x out hob (by omega)
    exact ⟨r, h1, h2, h3⟩
  have q : (i : Int) < (x.length : Int) := by omega
  have q0 : (0 : Int) ≤ i := by omega
  have lt : out.length < 17592186044416 := by omega
  have b2 : -9223372036854775808 ≤ ((i + 1 : Nat) : Int) ∧ ((i + 1 : Nat) : Int) ≤ 9223372036854775807 := by omega
  have b3 : (i : Int) + 1 = ((i + 1 : Nat) : Int) := by omega
  have b4 : -9223372036854775808 ≤ ((i + 2 : Nat) : Int) ∧ ((i + 2 : Nat) : Int) ≤ 9223372036854775807 := by omega
  have b5 : ((i + 1 : Nat) : Int) + 1 = ((i + 2 : Nat) : Int) := by omega
  have p1 : (0 : Int) ≤ ((i + 1 : Nat) : Int) := by omega
  have nl : ∀ v : Int, (out ++ [v]).length = out.length + 1 := fun v => by rw [List.length_append]; rfl
  have nb : ∀ v : Int, 0 ≤ v ∧ v ≤ 255 → ByteL (out ++ [v]) := fun v hv w hw => by
    rcases List.mem_append.1 hw with g | g
    · exact hob w g
    · rw [List.mem_singleton.1 g]; exact hv
  by_cases c : rd x i = 125
  · by_cases e : i + 1 = x.length
    · have e1 : ((i + 1 : Nat) : Int) = (x.length : Int) := by omega
      have e2 : ¬ ((i + 1 : Nat) : Int) < (x.length : Int) := by omega
      obtain ⟨r, h1, h2, h3, h4, -⟩ := unesc_end S hS x (out ++ [rd x i]) (nb _ (by rw [c]; decide)) (by rw [nl]; omega)
      have hne : ¬ escL S (out ++ [rd x i]) = x := by
        intro g
        rw [c, escL_append] at g
        simp only [escL, if_pos h125] at g
        have g2 := congrArg List.getLast? g
        have hlast : x.getLast? = some 125 := by
          rw [List.getLast?_eq_getElem?, List.getElem?_eq_getElem (show x.length - 1 < x.length by omega)]
          have := rd_natS x (x.length - 1) (by omega)
          rw [show ((x.length - 1 : Nat) : Int) = (i : Int) by omega, c] at this
          rw [← this]
        rw [hlast] at g2
        have e93 : Go.bits .xor .i64 125 32 = 93 := by decide
        rw [e93] at g2
        simp at g2
      have hr := h4 hne
      subst hr
      refine ⟨([], false), by simp, Ev_succ ?_, Ev_succ ?_⟩
      · rw [← e1] at h2
        simp only [spec_UnescapeBytes.l0, if_pos q, if_pos q0, if_pos c, b3, w64 b2.1 b2.2, if_neg e2, if_pos lt]
        exact h2
      · simp only [impl_UnescapeBytes.l0, if_pos q, if_pos q0, if_pos c, b3, w64 b2.1 b2.2, if_pos e1]
        exact Ev.now _
    · have e1 : ¬ ((i + 1 : Nat) : Int) = (x.length : Int) := by omega
      have e2 : ((i + 1 : Nat) : Int) < (x.length : Int) := by omega
      have hv := xor32_ok _ (hx.rd ((i + 1 : Nat) : Int) p1 e2)
      obtain ⟨r, hr, hA, hB⟩ := ih (x.length - (i + 2)) (by omega) (out ++ [Go.bits .xor .i64 (rd x ((i + 1 : Nat) : Int)) 32]) (i + 2) (by omega) (by omega) (by rw [nl]; omega) (nb _ ⟨hv.1, hv.2.1⟩)
      refine ⟨r, hr, Ev_succ ?_, Ev_succ ?_⟩
      · simp only [spec_UnescapeBytes.l0, if_pos q, if_pos q0, if_pos c, b3, w64 b2.1 b2.2, if_pos e2, if_pos p1, if_pos lt, b5, w64 b4.1 b4.2]
        exact hA
      · simp only [impl_UnescapeBytes.l0, if_pos q, if_pos q0, if_pos c, b3, w64 b2.1 b2.2, if_neg e1, if_pos e2, if_pos p1, if_pos lt, b5, w64 b4.1 b4.2]
        exact hB
  · obtain ⟨r, hr, hA, hB⟩ := ih (x.length - (i + 1)) (by omega) (out ++ [rd x i]) (i + 1) (by omega) (by omega) (by rw [nl]; omega) (nb _ (hx.rd i q0 q))
    refine ⟨r, hr, Ev_succ ?_, Ev_succ ?_⟩
    · simp only [spec_UnescapeBytes.l0, if_pos q, if_pos q0, if_neg c, b3, w64 b2.1 b2.2, if_pos lt]
      exact hA
    · simp only [impl_UnescapeBytes.l0, if_pos q, if_pos q0, if_neg c, b3, w64 b2.1 b2.2, if_pos lt]
      exact hB
theorem unescape_both (S l : List Int) (hS : (S.length : Int) ≤ 1048576) (hl : (l.length : Int) ≤ 1048576) : ∃ r, (r.1.length : Int) ≤ 1048576 ∧ Ev (fun k => spec_UnescapeBytes.f k S l) r ∧ Ev (fun k => impl_UnescapeBytes.f k S l) r := by
  obtain ⟨a, ha, hb, hok⟩ := special_both S hS
  have no : Ev (fun k => spec_UnescapeBytes.j0 k S l true) ([], false) := by
    refine Ev_succ ?_; simp only [spec_UnescapeBytes.j0, if_true]; exact Ev.now _
  have no' : Ev (fun k => impl_UnescapeBytes.j0 k S l true) ([], false) := by
    refine Ev_succ ?_; simp only [impl_UnescapeBytes.j0, if_true]; exact Ev.now _
  cases a with
  | false =>
    refine ⟨([], false), by simp, ?_, ?_⟩
    · simp only [spec_UnescapeBytes.f]
      refine Ev.bind ha ?_
      simp only [Bool.false_eq_true, if_false]; exact no
    · simp only [impl_UnescapeBytes.f, hb, Option.bind_some, Bool.false_eq_true, if_false]; exact no'
  | true =>
    have hS8 := (hok.1 rfl).1
    have h125 := (hok.1 rfl).2.2.1
    obtain ⟨b, hc, hd, hi⟩ := long_both l (by omega)
    cases b with
    | true =>
      have hh := hi.1 rfl
      obtain ⟨r, hr, hA, hB⟩ := unesc_loops S (by omega) h125 l (fun v hv => by obtain ⟨j, j0, j1, e⟩ := mem_rd l v hv; rw [← e]; exact hh.2 j j0 j1) (by omega) l.length [] 0 (by omega) (by omega) (by simp) (by intro w hw; cases hw)
      refine ⟨r, hr, ?_, ?_⟩
      · simp only [spec_UnescapeBytes.f]
        refine Ev.bind ha ?_
        simp only [if_true]
        refine Ev.bind hc ?_
        simp only [Bool.not_true]
        refine Ev_succ ?_
        simp only [spec_UnescapeBytes.j0, Bool.false_eq_true, if_false]
        exact hA
      · simp only [impl_UnescapeBytes.f, hb, Option.bind_some, if_true]
        refine Ev.bind hd ?_
        simp only [Bool.not_true]
        refine Ev_succ ?_
        simp only [impl_UnescapeBytes.j0, Bool.false_eq_true, if_false]
        exact hB
    | false =>
      refine ⟨([], false), by simp, ?_, ?_⟩
      · simp only [spec_UnescapeBytes.f]
        refine Ev.bind ha ?_
        simp only [if_true]
        refine Ev.bind hc ?_
        simp only [Bool.not_false]; exact no
      · simp only [impl_UnescapeBytes.f, hb, Option.bind_some, if_true]
        refine Ev.bind hd ?_
        simp only [Bool.not_false]; exact no'

theorem eqInt64S_loop (l : List Int) (hl : (l.length : Int) ≤ 4611686018427387904) (d : Nat) : ∀ i : Int, 0 ≤ i → i ≤ l.length → (l.length : Int) - i = d → Ev (fun k => laws_eqInt64S.l0 k l l i) true := by
  induction d with
  | zero =>
    intro i h0 h1 hd
    refine Ev_succ ?_
    simp only [laws_eqInt64S.l0, if_neg (show ¬ i < (l.length : Int) by omega)]
    exact Ev.now _
  | succ d ih =>
    intro i h0 h1 hd
    refine Ev_succ ?_
    simp (disch := omega) only [laws_eqInt64S.l0, w64]
    simp only [if_pos (show i < (l.length : Int) by omega), if_pos h0, if_true]
    exact ih (i + 1) (by omega) (by omega) (by omega)
theorem eqInt64S_self (l : List Int) (hl : (l.length : Int) ≤ 4611686018427387904) : Ev (fun k => laws_eqInt64S.f k l l) true := by
  simp only [laws_eqInt64S.f, if_true]
  exact eqInt64S_loop l hl l.length 0 (by omega) (by omega) (by omega)

theorem markInt64S_loop (n : Int) (hn : n ≤ 4611686018427387904) (d : Nat) : ∀ (l : List Int) (i : Int), (l.length : Int) = n → 0 ≤ i → i ≤ n → n - i = d → (∀ j, 0 ≤ j → j < i → rd l j = 1 + j) →
    ∃ m, Ev (fun k => laws_markInt64S.l0 k l (1 + i) i) (1 + n, m) ∧ (m.length : Int) = n ∧ ∀ j, 0 ≤ j → j < n → rd m j = 1 + j := by
  induction d with
  | zero =>
    intro l i hl h0 h1 hd hp
    obtain rfl : i = n := by omega
    refine ⟨l, Ev_succ ?_, hl, hp⟩
    simp only [laws_markInt64S.l0, if_neg (show ¬ i < (l.length : Int) by omega)]
    exact Ev.now _
  | succ d ih =>
    intro l i hl h0 h1 hd hp
    obtain ⟨m, hm, g⟩ := ih (l.set i.toNat (1 + i)) (i + 1) (by rw [List.length_set]; exact hl) (by omega) (by omega) (by omega) (fun j g0 g1 => by
      rw [rd_set l i j _ h0 (by omega) g0]
      by_cases e : j = i
      · rw [if_pos e, e]
      · rw [if_neg e]; exact hp j g0 (by omega))
    refine ⟨m, Ev_succ ?_, g⟩
    simp (disch := omega) only [laws_markInt64S.l0, w64]
    simp only [if_pos (show i < (l.length : Int) by omega), if_pos h0]
    rw [show 1 + i + 1 = 1 + (i + 1) by omega]
    exact hm
theorem markInt64S_ev (l : List Int) (hn : (l.length : Int) ≤ 4611686018427387904) :
    ∃ m, Ev (fun k => laws_markInt64S.f k l 1) (1 + (l.length : Int), m) ∧ m.length = l.length ∧ ∀ j, 0 ≤ j → j < (l.length : Int) → rd m j = 1 + j := by
  obtain ⟨m, h, h1, h2⟩ := markInt64S_loop l.length hn l.length l 0 rfl (by omega) (by omega) (by omega) (fun j _ _ => by omega)
  exact ⟨m, h, by omega, h2⟩
theorem heldInt64S_loop (m : List Int) (hn : (m.length : Int) ≤ 4611686018427387904) (hp : ∀ j, 0 ≤ j → j < (m.length : Int) → rd m j = 1 + j) (d : Nat) : ∀ i : Int, 0 ≤ i → i ≤ m.length → (m.length : Int) - i = d →
    Ev (fun k => laws_heldInt64S.l0 k m (1 + i) i) (1 + (m.length : Int)) := by
  induction d with
  | zero =>
    intro i h0 h1 hd
    have e : i = (m.length : Int) := by omega
    refine Ev_succ ?_
    simp only [laws_heldInt64S.l0, if_neg (show ¬ i < (m.length : Int) by omega)]
    rw [e]
    exact Ev.now _
  | succ d ih =>
    intro i h0 h1 hd
    refine Ev_succ ?_
    simp (disch := omega) only [laws_heldInt64S.l0, w64]
    simp only [if_pos (show i < (m.length : Int) by omega), if_pos h0, if_pos (hp i h0 (by omega))]
    rw [show 1 + i + 1 = 1 + (i + 1) by omega]
    exact ih (i + 1) (by omega) (by omega) (by omega)
theorem heldInt64S_ev (m : List Int) (hn : (m.length : Int) ≤ 4611686018427387904) (hp : ∀ j, 0 ≤ j → j < (m.length : Int) → rd m j = 1 + j) :
    Ev (fun k => laws_heldInt64S.f k m 1) (1 + (m.length : Int)) :=
  heldInt64S_loop m hn hp m.length 0 (by omega) (by omega) (by omega)

theorem markAny_loop (n : Int) (hn : n ≤ 4611686018427387904) (s : Int) (h0 : -1000000000000000 ≤ s) (h1 : s ≤ 1000000000000000) (d : Nat) : ∀ (l : List Int) (i : Int), (l.length : Int) = n → 0 ≤ i → i ≤ n → n - i = d →
    ∃ m, Ev (fun k => laws_markInt64S.l0 k l (s + i) i) (s + n, m) ∧ (m.length : Int) = n := by
  induction d with
  | zero =>
    intro l i hl h0 h1 hd
    obtain rfl : i = n := by omega
    refine ⟨l, Ev_succ ?_, hl⟩
    simp only [laws_markInt64S.l0, if_neg (show ¬ i < (l.length : Int) by omega)]
    exact Ev.now _
  | succ d ih =>
    intro l i hl h0 h1 hd
    obtain ⟨m, hm, g⟩ := ih (l.set i.toNat (s + i)) (i + 1) (by rw [List.length_set]; exact hl) (by omega) (by omega) (by omega)
    refine ⟨m, Ev_succ ?_, g⟩
    simp (disch := omega) only [laws_markInt64S.l0, w64]
    simp only [if_pos (show i < (l.length : Int) by omega), if_pos h0]
    rw [show s + i + 1 = s + (i + 1) by omega]
    exact hm
theorem markAny_ev (l : List Int) (hl : (l.length : Int) ≤ 4611686018427387904) (s : Int) (h0 : -1000000000000000 ≤ s) (h1 : s ≤ 1000000000000000) : ∃ m, Ev (fun k => laws_markInt64S.f k l s) (s + (l.length : Int), m) := by
  obtain ⟨m, h, -⟩ := markAny_loop l.length hl s h0 h1 l.length l 0 rfl (by omega) (by omega) (by omega)
  rw [show s + (0 : Int) = s by omega] at h
  exact ⟨m, h⟩

theorem FnExactUnescapeBytes : laws_FnExactUnescapeBytes.Pure := by
  intro l0 l1 h1 h2 h3 h4 h5 h6
  apply Ev.rounds
  simp only [laws_FnExactUnescapeBytes.f]
  by_cases hbig : (l0.length : Int) > 1048576
  · simp only [if_pos hbig]; exact Ev.now _
  simp only [if_neg hbig]
  by_cases hbig2 : (l1.length : Int) > 1048576
  · simp only [if_pos hbig2]; exact Ev.now _
  simp only [if_neg hbig2]
  obtain ⟨⟨r, ok⟩, hl, hs, hi⟩ := unescape_both l0 l1 (by omega) (by omega)
  simp only at hl
  have ht0 := toInt64S_ev l0 (by omega)
  have ht1 := toInt64S_ev l1 (by omega)
  obtain ⟨m, hm, hml, hmp⟩ := markInt64S_ev r (by omega)
  obtain ⟨m0, hm0, -, -⟩ := markInt64S_ev l0 (by omega)
  obtain ⟨m1, hm1⟩ := markAny_ev l1 (by omega) (1 + (l0.length : Int)) (by omega) (by omega)
  have hh := heldInt64S_ev m (by omega) (fun j h0 h1 => hmp j h0 (by omega))
  rw [hml] at hh
  have he := eqInt64S_self r (by omega)
  have he0 := eqInt64S_self l0 (by omega)
  have he1 := eqInt64S_self l1 (by omega)
  have g1 : ¬ (1 + (r.length : Int) < 0) := by omega
  have g2 : ¬ (1 + (l0.length : Int) + (l1.length : Int) < 0) := by omega
  refine Ev.bind ht0 (Ev.bind ht1 (Ev.bind hs (Ev.bind ht0 (Ev.bind ht1 (Ev.bind hi (Ev.bind he ?_))))))
  simp only [if_true, bne_self_eq_false]
  refine Ev_succ ?_
  simp only [laws_FnExactUnescapeBytes.j0, Bool.false_eq_true, if_false]
  refine Ev.bind ht0 (Ev.bind he0 ?_)
  simp only [if_true]
  refine Ev.bind ht1 (Ev.bind he1 ?_)
  simp only [if_true]
  refine Ev.bind hm0 (Ev.bind hm1 ?_)
  simp only [if_neg g2]
  refine Ev.bind he ?_
  simp only [if_true, bne_self_eq_false]
  refine Ev_succ ?_
  simp only [laws_FnExactUnescapeBytes.j1, Bool.false_eq_true, if_false]
  refine Ev.bind hm (Ev.bind hh ?_)
  simp only [if_neg g1, if_true]
  refine Ev.bind ht0 (Ev.bind ht1 (Ev.bind hi (Ev.bind he ?_)))
  simp only [if_true, bne_self_eq_false]
  refine Ev_succ ?_
  simp only [laws_FnExactUnescapeBytes.j2, Bool.false_eq_true, if_false]
  refine Ev.bind hh ?_
  simp only [if_neg g1, if_true]
  exact Ev.now _

end Go.Proofs.Ytbifbbfkcbgnlaa.Pure
