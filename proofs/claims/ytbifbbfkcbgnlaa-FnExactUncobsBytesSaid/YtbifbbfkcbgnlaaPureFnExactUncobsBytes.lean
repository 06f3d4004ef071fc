/- The law FnExactUncobsBytes of the given program holds: for every input that the row lets in the call returns true and leaves its arguments as they were. No condition ahead of it. -/
import Derived.Test.YtbifbbfkcbgnlaaPFnExactUncobsBytesx5
import Derived.Test.YtbifbbfkcbgnlaaMine
namespace Go.Proofs.Ytbifbbfkcbgnlaa.Pure
open Go.RowKit Go.Proofs.Ytbifbbfkcbgnlaa.PFnExactUncobsBytes Go.Proofs.YtbifbbfkcbgnlaaW.PrintWords Go.Proofs.YtbifbbfkcbgnlaaW.PrintLast Go.Proofs.YtbifbbfkcbgnlaaW.PrintMore Go.Proofs.Ytbifbbfkcbgnlaa.Mine
set_option linter.unusedVariables false
set_option linter.unusedSimpArgs false
theorem l00In_eq (a b c : Int) : spec_l00In.f a b c = some (decide (b ≤ a ∧ a ≤ c)) := by
  unfold spec_l00In.f; by_cases h : a ≥ b
  · rw [if_pos h]; simp; intro _; exact h
  · rw [if_neg h]; simp; intro h'; omega
theorem within_eq (a b c : Int) : impl_within.f a b c = some (decide (b ≤ a ∧ a ≤ c)) := by
  unfold impl_within.f; by_cases h : a ≥ b
  · rw [if_pos h]; simp; intro _; exact h
  · rw [if_neg h]; simp; intro h'; omega

theorem areIn_loop (l : List Int) (lo hi : Int) (hl : (l.length : Int) ≤ 4611686018427387904) (d : Nat) : ∀ i : Int, 0 ≤ i → i ≤ l.length → (l.length : Int) - i = d →
    (∀ j, 0 ≤ j → j < i → lo ≤ rd l j ∧ rd l j ≤ hi) → ∃ b, Ev (fun k => impl_areIn.l0 k lo hi l l.length i) b ∧ (b = true ↔ ∀ j, 0 ≤ j → j < (l.length : Int) → lo ≤ rd l j ∧ rd l j ≤ hi) := by
  induction d with
  | zero =>
    intro i h0 h1 hd hp
    refine ⟨true, Ev_succ ?_, ?_⟩
    · simp only [impl_areIn.l0, if_neg (show ¬ i < (l.length : Int) by omega)]; exact Ev.now _
    · simp only [true_iff]; exact fun j j0 j1 => hp j j0 (by omega)
  | succ d ih =>
    intro i h0 h1 hd hp
    have hlt : i < (l.length : Int) := by omega
    by_cases hb : lo ≤ rd l i ∧ rd l i ≤ hi
    · obtain ⟨b, h, hbi⟩ := ih (i + 1) (by omega) (by omega) (by omega) (fun j j0 j1 => by
        by_cases e : j = i
        · rw [e]; exact hb
        · exact hp j j0 (by omega))
      refine ⟨b, Ev_succ ?_, hbi⟩
      simp (disch := omega) only [impl_areIn.l0, w64, within_eq, Option.bind_some]
      simp only [if_pos hlt, if_pos h0, hb, and_self, decide_true, if_true]
      exact h
    · refine ⟨false, Ev_succ ?_, ?_⟩
      · simp (disch := omega) only [impl_areIn.l0, w64, within_eq, Option.bind_some]
        simp only [if_pos hlt, if_pos h0, hb, decide_false, Bool.false_eq_true, if_false]
        exact Ev.now _
      · simp only [Bool.false_eq_true, false_iff]; exact fun g => hb (g i h0 hlt)
theorem areIn_ev (l : List Int) (lo hi : Int) (hl : (l.length : Int) ≤ 4611686018427387904) : ∃ b, Ev (fun k => impl_areIn.f k l lo hi) b ∧ (b = true ↔ ∀ j, 0 ≤ j → j < (l.length : Int) → lo ≤ rd l j ∧ rd l j ≤ hi) :=
  areIn_loop l lo hi hl l.length 0 (by omega) (by omega) (by omega) (fun j _ _ => by omega)

theorem l04Bytes_loop (l : List Int) (most : Int) (hl : (l.length : Int) ≤ 4611686018427387904) (d : Nat) : ∀ i : Int, 0 ≤ i → i ≤ l.length → (l.length : Int) - i = d →
    (∀ j, 0 ≤ j → j < i → 0 ≤ rd l j ∧ rd l j ≤ 255) → ∃ b, Ev (fun k => spec_l04Bytes.l0 k l most i) b ∧ (b = true ↔ ((l.length : Int) ≤ most ∧ ∀ j, 0 ≤ j → j < (l.length : Int) → 0 ≤ rd l j ∧ rd l j ≤ 255)) := by
  induction d with
  | zero =>
    intro i h0 h1 hd hp
    refine ⟨decide ((l.length : Int) ≤ most), Ev_succ ?_, ?_⟩
    · simp only [spec_l04Bytes.l0, if_neg (show ¬ i < (l.length : Int) by omega)]
      refine Ev_succ ?_
      simp only [spec_l04Bytes.j1, Bool.false_eq_true, if_false]; exact Ev.now _
    · rw [decide_eq_true_iff]; exact ⟨fun g => ⟨g, fun j j0 j1 => hp j j0 (by omega)⟩, fun g => g.1⟩
  | succ d ih =>
    intro i h0 h1 hd hp
    have hlt : i < (l.length : Int) := by omega
    by_cases hm : (l.length : Int) ≤ most
    · by_cases hb : 0 ≤ rd l i ∧ rd l i ≤ 255
      · obtain ⟨b, h, hbi⟩ := ih (i + 1) (by omega) (by omega) (by omega) (fun j j0 j1 => by
          by_cases e : j = i
          · rw [e]; exact hb
          · exact hp j j0 (by omega))
        refine ⟨b, Ev_succ ?_, hbi⟩
        simp only [spec_l04Bytes.l0, if_pos hlt, decide_eq_true hm]
        refine Ev_succ ?_
        simp (disch := omega) only [spec_l04Bytes.j1, w64, l00In_eq, Option.bind_some]
        simp only [if_pos hlt, if_pos h0, hb, and_self, decide_true, if_true]
        exact h
      · refine ⟨false, Ev_succ ?_, ?_⟩
        · simp only [spec_l04Bytes.l0, if_pos hlt, decide_eq_true hm]
          refine Ev_succ ?_
          simp (disch := omega) only [spec_l04Bytes.j1, w64, l00In_eq, Option.bind_some]
          simp only [if_pos hlt, if_pos h0, hb, decide_false, if_true, Bool.false_eq_true, if_false]
          exact Ev.now _
        · simp only [Bool.false_eq_true, false_iff]; exact fun g => hb (g.2 i h0 hlt)
    · refine ⟨false, Ev_succ ?_, ?_⟩
      · simp only [spec_l04Bytes.l0, if_pos hlt, decide_eq_false hm]
        refine Ev_succ ?_
        simp only [spec_l04Bytes.j1, Bool.false_eq_true, if_false, decide_eq_false hm]; exact Ev.now _
      · simp only [Bool.false_eq_true, false_iff]; exact fun g => hm g.1
theorem l04Bytes_ev (l : List Int) (most : Int) (hl : (l.length : Int) ≤ 4611686018427387904) : ∃ b, Ev (fun k => spec_l04Bytes.f k l most) b ∧ (b = true ↔ ((l.length : Int) ≤ most ∧ ∀ j, 0 ≤ j → j < (l.length : Int) → 0 ≤ rd l j ∧ rd l j ≤ 255)) :=
  l04Bytes_loop l most hl l.length 0 (by omega) (by omega) (by omega) (fun j _ _ => by omega)
theorem areBytes_ev (l : List Int) (hl : (l.length : Int) ≤ 4611686018427387904) : ∃ b, Ev (fun k => impl_areBytes.f k l) b ∧ (b = true ↔ ((l.length : Int) ≤ 300 ∧ ∀ j, 0 ≤ j → j < (l.length : Int) → 0 ≤ rd l j ∧ rd l j ≤ 255)) := by
  obtain ⟨b, hb, hi⟩ := areIn_ev l 0 255 hl
  simp only [impl_areBytes.f]
  by_cases h : (l.length : Int) ≤ 300
  · refine ⟨b, ?_, by rw [hi]; exact ⟨fun g => ⟨h, g⟩, fun g => g.2⟩⟩
    simp only [if_pos h]
    exact Ev.bind hb (Ev.now _)
  · refine ⟨false, by simp only [if_neg h]; exact Ev.now _, ?_⟩
    simp only [Bool.false_eq_true, false_iff]; exact fun g => h g.1
theorem areLong_ev (l : List Int) (hl : (l.length : Int) ≤ 4611686018427387904) : ∃ b, Ev (fun k => impl_areLongBytes.f k l) b ∧ (b = true ↔ ((l.length : Int) ≤ 600 ∧ ∀ j, 0 ≤ j → j < (l.length : Int) → 0 ≤ rd l j ∧ rd l j ≤ 255)) := by
  obtain ⟨b, hb, hi⟩ := areIn_ev l 0 255 hl
  simp only [impl_areLongBytes.f]
  by_cases h : (l.length : Int) ≤ 600
  · refine ⟨b, ?_, by rw [hi]; exact ⟨fun g => ⟨h, g⟩, fun g => g.2⟩⟩
    simp only [if_pos h]
    exact Ev.bind hb (Ev.now _)
  · refine ⟨false, by simp only [if_neg h]; exact Ev.now _, ?_⟩
    simp only [Bool.false_eq_true, false_iff]; exact fun g => h g.1
theorem bytes_both (l : List Int) (hl : (l.length : Int) ≤ 4611686018427387904) : ∃ b, Ev (fun k => spec_l04Bytes.f k l 300) b ∧ Ev (fun k => impl_areBytes.f k l) b ∧ (b = true ↔ ((l.length : Int) ≤ 300 ∧ ∀ j, 0 ≤ j → j < (l.length : Int) → 0 ≤ rd l j ∧ rd l j ≤ 255)) := by
  obtain ⟨b, hb, hi⟩ := l04Bytes_ev l 300 hl
  obtain ⟨c, hc, hj⟩ := areBytes_ev l hl
  have e : c = b := by rw [Bool.eq_iff_iff, hi, hj]
  subst e
  exact ⟨c, hb, hc, hi⟩
theorem long_both (l : List Int) (hl : (l.length : Int) ≤ 4611686018427387904) : ∃ b, Ev (fun k => spec_l04Bytes.f k l 600) b ∧ Ev (fun k => impl_areLongBytes.f k l) b ∧ (b = true ↔ ((l.length : Int) ≤ 600 ∧ ∀ j, 0 ≤ j → j < (l.length : Int) → 0 ≤ rd l j ∧ rd l j ≤ 255)) := by
  obtain ⟨b, hb, hi⟩ := l04Bytes_ev l 600 hl
  obtain ⟨c, hc, hj⟩ := areLong_ev l hl
  have e : c = b := by rw [Bool.eq_iff_iff, hi, hj]
  subst e
  exact ⟨c, hb, hc, hi⟩

theorem rd_set (l : List Int) (i j v : Int) (hi : 0 ≤ i) (hil : i < l.length) (hj : 0 ≤ j) : rd (l.set i.toNat v) j = if j = i then v else rd l j := by
  unfold rd
  by_cases e : j = i
  · subst e; rw [if_pos rfl, List.getD_eq_getElem?_getD, List.getElem?_set_self (by omega)]; rfl
  · rw [if_neg e, List.getD_eq_getElem?_getD, List.getElem?_set_ne (by omega), List.getD_eq_getElem?_getD]

def fz : List Int → Nat
  | [] => 0
  | v :: t => if v = 0 then 0 else fz t + 1
theorem fz_le : ∀ l : List Int, fz l ≤ l.length
  | [] => by simp [fz]
  | v :: t => by have := fz_le t; simp only [fz, List.length_cons]; split <;> omega
theorem fz_append : ∀ l : List Int, fz (l ++ [0]) = fz l
  | [] => by simp [fz]
  | v :: t => by simp only [List.cons_append, fz, fz_append t]
theorem rd_drop (l : List Int) (n : Nat) (h : n < l.length) : l.drop n = rd l n :: l.drop (n + 1) := by
  rw [List.drop_eq_getElem_cons h]
  congr 1
  unfold rd
  rw [Int.toNat_natCast, List.getD_eq_getElem?_getD, List.getElem?_eq_getElem h]
  rfl
theorem index_loop (l : List Int) (hl : (l.length : Int) ≤ 4611686018427387904) (d : Nat) : ∀ i : Nat, i + d = l.length → fz (l.drop i) < (l.drop i).length →
    Ev (fun k => slices_Index_int64_int64.l0 k l 0 l.length i) ((i : Int) + fz (l.drop i)) := by
  induction d with
  | zero => intro i hd hf; rw [List.drop_of_length_le (by omega)] at hf; simp at hf
  | succ d ih =>
    intro i hd hf
    have hi : i < l.length := by omega
    refine Ev_succ ?_
    simp (disch := omega) only [slices_Index_int64_int64.l0, w64]
    simp only [if_pos (show (i : Int) < (l.length : Int) by omega), if_pos (show (0 : Int) ≤ i by omega)]
    rw [rd_drop l i hi] at hf ⊢
    by_cases e : rd l i = 0
    · simp only [fz, if_pos e, if_pos e.symm]; exact Ev.now _
    · simp only [fz, if_neg e, List.length_cons] at hf ⊢
      simp only [if_neg (fun g : (0 : Int) = rd l i => e g.symm)]
      have := ih (i + 1) (by omega) (by omega)
      rw [show (i : Int) + ((fz (l.drop (i + 1)) + 1 : Nat) : Int) = ((i + 1 : Nat) : Int) + fz (l.drop (i + 1)) by omega]
      exact this
theorem index_ev (l : List Int) (hl : (l.length : Int) ≤ 1048576) : Ev (fun k => slices_Index_int64_int64.f k (l ++ [0]) 0) (fz l : Int) := by
  have h := index_loop (l ++ [0]) (by simp; omega) (l ++ [0]).length 0 (by omega) (by rw [List.drop_zero, fz_append]; have := fz_le l; simp; omega)
  rw [List.drop_zero, fz_append] at h
  simp only [slices_Index_int64_int64.f]
  simpa using h
theorem rd_cons (v : Int) (t : List Int) (m : Nat) : rd (v :: t) ((m + 1 : Nat) : Int) = rd t m := by
  unfold rd; rw [Int.toNat_natCast, Int.toNat_natCast]; rfl
theorem rd_zero (v : Int) (t : List Int) : rd (v :: t) ((0 : Nat) : Int) = v := rfl
theorem fz_nz : ∀ (l : List Int) (m : Nat), m < fz l → rd l m ≠ 0
  | [], m, h => by simp [fz] at h
  | v :: t, m, h => by
    simp only [fz] at h
    by_cases e : v = 0
    · rw [if_pos e] at h; omega
    · rw [if_neg e] at h
      cases m with
      | zero => rw [rd_zero]; exact e
      | succ m => rw [rd_cons]; exact fz_nz t m (by omega)
theorem fz_z : ∀ l : List Int, fz l < l.length → rd l (fz l : Nat) = 0
  | [], h => by simp at h
  | v :: t, h => by
    simp only [fz, List.length_cons] at h ⊢
    by_cases e : v = 0
    · rw [if_pos e]; exact e
    · rw [if_neg e] at h ⊢; rw [rd_cons]; exact fz_z t (by omega)
theorem rd_dropn (l : List Int) (i m : Nat) : rd (l.drop i) m = rd l ((i + m : Nat) : Int) := by
  unfold rd
  rw [Int.toNat_natCast, Int.toNat_natCast, List.getD_eq_getElem?_getD, List.getD_eq_getElem?_getD, List.getElem?_drop]
def cut254 (l : List Int) (i : Nat) : Nat := min (fz (l.drop i)) 254
theorem cut_le (l : List Int) (i : Nat) (h : i ≤ l.length) : i + cut254 l i ≤ l.length := by
  have := fz_le (l.drop i)
  rw [List.length_drop] at this
  unfold cut254; omega
theorem spec_scan (l out : List Int) (i : Nat) (hi : i ≤ l.length) (hl : (l.length : Int) ≤ 1048576) (r : List Int) (hj : Ev (fun k => spec_l04Cobs.j2 k l out i ((i + cut254 l i : Nat) : Int)) r) (d : Nat) : ∀ m : Nat, m + d = cut254 l i →
    Ev (fun k => spec_l04Cobs.l1 k l out i ((i + m : Nat) : Int)) r := by
  have hc := cut_le l i hi
  have hfl := fz_le (l.drop i)
  rw [List.length_drop] at hfl
  induction d with
  | zero =>
    intro m hm
    have hm' : m = cut254 l i := by omega
    refine Ev_succ ?_
    simp (disch := omega) only [spec_l04Cobs.l1, w64]
    by_cases g : ((i + m : Nat) : Int) < l.length
    · simp only [if_pos g, if_pos (show (0 : Int) ≤ ((i + m : Nat) : Int) by omega)]
      by_cases z : rd l ((i + m : Nat) : Int) = 0
      · simp only [if_pos z]; rw [hm']; exact hj
      · have h254 : m = 254 := by
          by_cases q : fz (l.drop i) ≤ 254
          · have hm2 : m = fz (l.drop i) := by rw [hm', cut254]; omega
            have := fz_z (l.drop i) (by rw [List.length_drop]; omega)
            rw [rd_dropn, ← hm2] at this
            exact absurd this z
          · rw [hm', cut254]; omega
        simp only [if_neg z, if_neg (show ¬ ((i + m : Nat) : Int) - (i : Int) < 254 by omega)]
        rw [hm']; exact hj
    · simp only [if_neg g]; rw [hm']; exact hj
  | succ d ih =>
    intro m hm
    have hlt : m < fz (l.drop i) ∧ m < 254 := by unfold cut254 at hm; omega
    have hnz := fz_nz (l.drop i) m hlt.1
    rw [rd_dropn] at hnz
    refine Ev_succ ?_
    simp (disch := omega) only [spec_l04Cobs.l1, w64]
    simp only [if_pos (show ((i + m : Nat) : Int) < l.length by omega), if_pos (show (0 : Int) ≤ ((i + m : Nat) : Int) by omega), if_neg hnz, if_pos (show ((i + m : Nat) : Int) - (i : Int) < 254 by omega)]
    have := ih (m + 1) (by omega)
    rw [show ((i + m : Nat) : Int) + 1 = ((i + (m + 1) : Nat) : Int) by omega]
    exact this
set_option maxRecDepth 100000 in
theorem cobs_loops (l : List Int) (hl : (l.length : Int) ≤ 1048576) (d : Nat) : ∀ (out : List Int) (i : Nat), i ≤ l.length → l.length - i ≤ d → (out.length : Int) ≤ 3 * i + 2 →
    ∃ r, r.length ≤ 4000000 ∧ Ev (fun k => spec_l04Cobs.l0 k l out i) r ∧ Ev (fun k => impl_cobs.l0 k out (l.drop i ++ [0])) r := by
  induction d using Nat.strongRecOn with
  | ind d ih =>
  intro out i hi hd ho
  have hout : out.length < 17592186044416 := by omega
  have hc := cut_le l i hi
  obtain ⟨c, hcd⟩ : ∃ c, c = cut254 l i := ⟨_, rfl⟩
  have hc254 : c ≤ 254 := by rw [hcd]; unfold cut254; omega
  rw [← hcd] at hc
  have hmn : mn (fz (l.drop i) : Int) 254 = c := by rw [hcd, cut254]; unfold mn; split <;> omega
  have htake : (l.drop i ++ [0]).take c = (l.take (i + c)).drop i := by
    rw [List.take_append_of_le_length (by rw [List.length_drop]; omega), List.drop_take, Nat.add_sub_cancel_left]
  have hlen : ((l.take (i + c)).drop i).length = c := by rw [List.length_drop, List.length_take]; omega
  have hrest : (l.drop i ++ [0]).drop c = l.drop (i + c) ++ [0] := by
    rw [List.drop_append_of_le_length (by rw [List.length_drop]; omega), List.drop_drop]
  have hidx := index_ev (l.drop i) (by rw [List.length_drop]; omega)
  obtain ⟨y, hy⟩ : ∃ y, y = out ++ [(c : Int) + 1] ++ (l.take (i + c)).drop i := ⟨_, rfl⟩
  have hyl : y.length = out.length + 1 + c := by rw [hy, List.length_append, List.length_append, hlen]; rfl
  have hrl : (l.drop i ++ [0]).length = l.length - i + 1 := by rw [List.length_append, List.length_drop]; rfl
  have hc0 : (0 : Int) ≤ c := Int.natCast_nonneg c
  have hc1 : (0 : Int) ≤ (c : Int) + 1 := by omega
  have hcl : (c : Int) ≤ ((l.drop i ++ [0]).length : Int) := by rw [hrl]; omega
  have hcl1 : (c : Int) + 1 ≤ ((l.drop i ++ [0]).length : Int) := by rw [hrl]; omega
  have hc2 : ((c : Int) + 1).toNat = c + 1 := by omega
  have hy1 : (out ++ [(c : Int) + 1]).length = out.length + 1 := by rw [List.length_append]; rfl
  have hcat : (out ++ [(c : Int) + 1]).length + ((l.take (i + c)).drop i).length < 17592186044416 := by rw [hlen, hy1]; omega
  have stepS : ∀ r, Ev (fun k => if (c : Int) = 254 then (if ((i + c : Nat) : Int) = (l.length : Int) then (some y) else (spec_l04Cobs.l0 k l y ((i + c : Nat) : Int))) else (spec_l04Cobs.l0 k l y (((i + c : Nat) : Int) + 1))) r → Ev (fun k => spec_l04Cobs.l0 k l out i) r := by
    intro r h
    refine Ev_succ ?_
    simp only [spec_l04Cobs.l0, if_pos (show (i : Int) ≤ l.length by omega)]
    have hsc := spec_scan l out i hi hl r (by
      rw [← hcd]
      refine Ev_succ ?_
      have e1 : (((i + c : Nat) : Int) - (i : Int)) = c := by omega
      simp (disch := omega) only [spec_l04Cobs.j2, w64, e1, Option.bind_some]
      simp only [if_pos hout, if_pos (show (0 : Int) ≤ i by omega), if_pos (show (i : Int) ≤ ((i + c : Nat) : Int) by omega), if_pos (show ((i + c : Nat) : Int) ≤ l.length by omega), Int.toNat_natCast,
        if_pos hcat, ← hy]
      exact h) c 0 (by omega)
    exact hsc
  have stepI : ∀ r, Ev (fun k => if (c : Int) < 254 then (impl_cobs.l0 k y ((l.drop i ++ [0]).drop (c + 1))) else (if ((l.drop (i + c) ++ [0]).length : Int) = 1 then (some y) else (impl_cobs.l0 k y (l.drop (i + c) ++ [0])))) r → Ev (fun k => impl_cobs.l0 k out (l.drop i ++ [0])) r := by
    intro r h
    refine Ev_succ ?_
    simp only [impl_cobs.l0, if_pos (show ((l.drop i ++ [0]).length : Int) > 0 by omega)]
    refine Ev.bind hidx ?_
    have ew : wrap64 ((c : Int) + 1) = (c : Int) + 1 := w64 (by omega) (by omega)
    simp only [hmn, ew, if_pos hout, Option.bind_some, if_pos hc0, if_pos hcl, Int.toNat_natCast, htake, if_pos hcat, ← hy, if_pos hc1, if_pos hcl1, hc2, hrest]
    exact h
  by_cases h254 : c = 254
  · by_cases hend : i + c = l.length
    · refine ⟨y, by omega, stepS y ?_, stepI y ?_⟩
      · simp only [if_pos (show (c : Int) = 254 by omega), if_pos (show ((i + c : Nat) : Int) = (l.length : Int) by omega)]; exact Ev.now _
      · have e1 : ((l.drop (i + c) ++ [0]).length : Int) = 1 := by rw [List.length_append, List.length_drop]; simp; omega
        simp only [if_neg (show ¬ (c : Int) < 254 by omega), if_pos e1]; exact Ev.now _
    · obtain ⟨r, hr, hA, hB⟩ := ih (l.length - (i + c)) (by omega) y (i + c) (by omega) (by omega) (by omega)
      refine ⟨r, hr, stepS r ?_, stepI r ?_⟩
      · simp only [if_pos (show (c : Int) = 254 by omega), if_neg (show ¬ ((i + c : Nat) : Int) = (l.length : Int) by omega)]; exact hA
      · have e1 : ¬ ((l.drop (i + c) ++ [0]).length : Int) = 1 := by rw [List.length_append, List.length_drop]; simp; omega
        simp only [if_neg (show ¬ (c : Int) < 254 by omega), if_neg e1]; exact hB
  · by_cases hend : i + c = l.length
    · refine ⟨y, by omega, stepS y ?_, stepI y ?_⟩
      · simp only [if_neg (show ¬ (c : Int) = 254 by omega)]
        refine Ev_succ ?_
        simp only [spec_l04Cobs.l0, if_neg (show ¬ ((i + c : Nat) : Int) + 1 ≤ (l.length : Int) by omega)]; exact Ev.now _
      · have e1 : (l.drop i ++ [0]).drop (c + 1) = [] := List.drop_of_length_le (by omega)
        simp only [if_pos (show (c : Int) < 254 by omega), e1]
        refine Ev_succ ?_
        simp only [impl_cobs.l0, List.length_nil, if_neg (show ¬ ((0 : Nat) : Int) > 0 by omega)]; exact Ev.now _
    · obtain ⟨r, hr, hA, hB⟩ := ih (l.length - (i + c + 1)) (by omega) y (i + c + 1) (by omega) (by omega) (by omega)
      have e1 : (l.drop i ++ [0]).drop (c + 1) = l.drop (i + c + 1) ++ [0] := by
        rw [List.drop_append_of_le_length (by rw [List.length_drop]; omega), List.drop_drop, Nat.add_assoc]
      refine ⟨r, hr, stepS r ?_, stepI r ?_⟩
      · simp only [if_neg (show ¬ (c : Int) = 254 by omega)]
        rw [show ((i + c : Nat) : Int) + 1 = ((i + c + 1 : Nat) : Int) by omega]; exact hA
      · simp only [if_pos (show (c : Int) < 254 by omega), e1]; exact hB
theorem cobs_both (l : List Int) (hl : (l.length : Int) ≤ 1048576) : ∃ r, r.length ≤ 4000000 ∧ Ev (fun k => spec_l04Cobs.f k l) r ∧ Ev (fun k => impl_cobs.f k l) r := by
  obtain ⟨r, hr, hA, hB⟩ := cobs_loops l hl l.length [] 0 (by omega) (by omega) (by simp)
  refine ⟨r, hr, hA, ?_⟩
  simp only [impl_cobs.f, slices_Clone_int64_int64.f, if_pos (show l.length ≤ 17592186044416 by omega), Option.bind_some, if_pos (show l.length < 17592186044416 by omega)]
  rw [List.drop_zero] at hB
  exact hB

theorem ext_rd (a b : List Int) (h : a.length = b.length) (hp : ∀ j : Int, 0 ≤ j → j < a.length → rd a j = rd b j) : a = b := by
  apply List.ext_getElem h
  intro n h1 h2
  have := hp n (by omega) (by omega)
  unfold rd at this
  rw [List.getD_eq_getElem?_getD, List.getD_eq_getElem?_getD, Int.toNat_natCast, List.getElem?_eq_getElem h1, List.getElem?_eq_getElem h2] at this
  simpa using this
theorem toInt64S_loop (l : List Int) (hl : (l.length : Int) ≤ 4611686018427387904) (d : Nat) : ∀ (m : List Int) (i : Int), m.length = l.length → 0 ≤ i → i ≤ l.length → (l.length : Int) - i = d → (∀ j, 0 ≤ j → j < i → rd m j = rd l j) →
    Ev (fun k => laws_toInt64S.l0 k l m i) l := by
  induction d with
  | zero =>
    intro m i hm h0 h1 hd hp
    refine Ev_succ ?_
    simp only [laws_toInt64S.l0, if_neg (show ¬ i < (l.length : Int) by omega)]
    rw [ext_rd m l hm (fun j j0 j1 => hp j j0 (by omega))]
    exact Ev.now _
  | succ d ih =>
    intro m i hm h0 h1 hd hp
    refine Ev_succ ?_
    simp (disch := omega) only [laws_toInt64S.l0, w64]
    simp only [if_pos (show i < (l.length : Int) by omega), if_pos h0, if_pos (show i < (m.length : Int) by omega)]
    refine ih (m.set i.toNat (rd l i)) (i + 1) (by rw [List.length_set]; exact hm) (by omega) (by omega) (by omega) (fun j j0 j1 => ?_)
    rw [rd_set m i j _ h0 (by omega) j0]
    by_cases e : j = i
    · rw [if_pos e, e]
    · rw [if_neg e]; exact hp j j0 (by omega)
theorem toInt64S_ev (l : List Int) (hl : (l.length : Int) ≤ 1048576) : Ev (fun k => laws_toInt64S.f k l) l := by
  simp only [laws_toInt64S.f, if_pos (show 0 ≤ (l.length : Int) by omega), if_pos (show ((l.length : Int)).toNat ≤ 35184372088832 by omega)]
  exact toInt64S_loop l (by omega) l.length _ 0 (by simp) (by omega) (by omega) (by omega) (fun j _ _ => by omega)

theorem same_loops (a b : List Int) (h : a.length = b.length) (hl : (a.length : Int) ≤ 4611686018427387904) (d : Nat) : ∀ i : Int, 0 ≤ i → i ≤ a.length → (a.length : Int) - i = d →
    ∃ r, Ev (fun k => spec_l00Same.l0 k a b i) r ∧ Ev (fun k => slices_Equal_int64_int64.l0 k a b a.length i) r ∧ (r = true ↔ ∀ j : Int, i ≤ j → j < a.length → rd a j = rd b j) := by
  induction d with
  | zero =>
    intro i h0 h1 hd
    have e := show ¬ i < (a.length : Int) by omega
    refine ⟨true, Ev_succ ?_, Ev_succ ?_, ?_⟩
    · simp only [spec_l00Same.l0, if_neg e]; exact Ev.now _
    · simp only [slices_Equal_int64_int64.l0, if_neg e]; exact Ev.now _
    · simp only [true_iff]; intro j j0 j1; omega
  | succ d ih =>
    intro i h0 h1 hd
    have e := show i < (a.length : Int) by omega
    have e2 := show i < (b.length : Int) by omega
    by_cases q : rd a i = rd b i
    · obtain ⟨r, hA, hB, hr⟩ := ih (i + 1) (by omega) (by omega) (by omega)
      refine ⟨r, Ev_succ ?_, Ev_succ ?_, ?_⟩
      · simp (disch := omega) only [spec_l00Same.l0, w64]
        simp only [if_pos e, if_pos h0, if_pos e2, if_pos q]; exact hA
      · simp (disch := omega) only [slices_Equal_int64_int64.l0, w64]
        simp only [if_pos e, if_pos h0, if_pos e2, if_pos q]; exact hB
      · rw [hr]
        exact ⟨fun g j j0 j1 => by
          by_cases z : j = i
          · rw [z]; exact q
          · exact g j (by omega) j1, fun g j j0 j1 => g j (by omega) j1⟩
    · refine ⟨false, Ev_succ ?_, Ev_succ ?_, ?_⟩
      · simp only [spec_l00Same.l0, if_pos e, if_pos h0, if_pos e2, if_neg q]; exact Ev.now _
      · simp only [slices_Equal_int64_int64.l0, if_pos e, if_pos h0, if_pos e2, if_neg q]; exact Ev.now _
      · simp only [Bool.false_eq_true, false_iff]; exact fun g => q (g i (by omega) e)
theorem same_both (a b : List Int) (hl : (a.length : Int) ≤ 4611686018427387904) :
    ∃ r, Ev (fun k => spec_l00Same.f k a b) r ∧ Ev (fun k => slices_Equal_int64_int64.f k a b) r ∧ (r = true ↔ a = b) := by
  by_cases h : a.length = b.length
  · obtain ⟨r, hA, hB, hr⟩ := same_loops a b h hl a.length 0 (by omega) (by omega) (by omega)
    have e := show (a.length : Int) = b.length by omega
    refine ⟨r, ?_, ?_, ?_⟩
    · simp only [spec_l00Same.f, if_pos e]; exact hA
    · simp only [slices_Equal_int64_int64.f, if_pos e]; exact hB
    · rw [hr]; exact ⟨fun g => ext_rd a b h (fun j j0 j1 => g j j0 j1), fun g => by subst g; intros; rfl⟩
  · have e := show ¬ (a.length : Int) = b.length by omega
    refine ⟨false, ?_, ?_, ?_⟩
    · simp only [spec_l00Same.f, if_neg e]; exact Ev.now _
    · simp only [slices_Equal_int64_int64.f, if_neg e]; exact Ev.now _
    · simp only [Bool.false_eq_true, false_iff]; exact fun g => h (by rw [g])
theorem rd_mem (l : List Int) (i : Int) (h0 : 0 ≤ i) (h1 : i < l.length) : rd l i ∈ l := by
  unfold rd
  rw [List.getD_eq_getElem?_getD, List.getElem?_eq_getElem (show i.toNat < l.length by omega)]
  exact List.getElem_mem _
theorem mem_rd (l : List Int) (v : Int) (h : v ∈ l) : ∃ i : Int, 0 ≤ i ∧ i < l.length ∧ rd l i = v := by
  obtain ⟨n, hn, e⟩ := List.getElem_of_mem h
  refine ⟨n, by omega, by omega, ?_⟩
  unfold rd
  rw [Int.toNat_natCast, List.getD_eq_getElem?_getD, List.getElem?_eq_getElem hn, ← e]; rfl

theorem eqInt64S_loop (l : List Int) (hl : (l.length : Int) ≤ 4611686018427387904) (d : Nat) : ∀ i : Int, 0 ≤ i → i ≤ l.length → (l.length : Int) - i = d → Ev (fun k => laws_eqInt64S.l0 k l l i) true := by
  induction d with
  | zero =>
    intro i h0 h1 hd
    refine Ev_succ ?_
    simp only [laws_eqInt64S.l0, if_neg (show ¬ i < (l.length : Int) by omega)]
    exact Ev.now _
  | succ d ih =>
    intro i h0 h1 hd
    refine Ev_succ ?_
    simp (disch := omega) only [laws_eqInt64S.l0, w64]
    simp only [if_pos (show i < (l.length : Int) by omega), if_pos h0, if_true]
    exact ih (i + 1) (by omega) (by omega) (by omega)
theorem eqInt64S_self (l : List Int) (hl : (l.length : Int) ≤ 4611686018427387904) : Ev (fun k => laws_eqInt64S.f k l l) true := by
  simp only [laws_eqInt64S.f, if_true]
  exact eqInt64S_loop l hl l.length 0 (by omega) (by omega) (by omega)

theorem markInt64S_loop (n : Int) (hn : n ≤ 4611686018427387904) (d : Nat) : ∀ (l : List Int) (i : Int), (l.length : Int) = n → 0 ≤ i → i ≤ n → n - i = d → (∀ j, 0 ≤ j → j < i → rd l j = 1 + j) →
    ∃ m, Ev (fun k => laws_markInt64S.l0 k l (1 + i) i) (1 + n, m) ∧ (m.length : Int) = n ∧ ∀ j, 0 ≤ j → j < n → rd m j = 1 + j := by
  induction d with
  | zero =>
    intro l i hl h0 h1 hd hp
    obtain rfl : i = n := by omega
    refine ⟨l, Ev_succ ?_, hl, hp⟩
    simp only [laws_markInt64S.l0, if_neg (show ¬ i < (l.length : Int) by omega)]
    exact Ev.now _
  | succ d ih =>
    intro l i hl h0 h1 hd hp
    obtain ⟨m, hm, g⟩ := ih (l.set i.toNat (1 + i)) (i + 1) (by rw [List.length_set]; exact hl) (by omega) (by omega) (by omega) (fun j g0 g1 => by
      rw [rd_set l i j _ h0 (by omega) g0]
      by_cases e : j = i
      · rw [if_pos e, e]
      · rw [if_neg e]; exact hp j g0 (by omega))
    refine ⟨m, Ev_succ ?_, g⟩
    simp (disch := omega) only [laws_markInt64S.l0, w64]
    simp only [if_pos (show i < (l.length : Int) by omega), if_pos h0]
    rw [show 1 + i + 1 = 1 + (i + 1) by omega]
    exact hm
theorem markInt64S_ev (l : List Int) (hn : (l.length : Int) ≤ 4611686018427387904) :
    ∃ m, Ev (fun k => laws_markInt64S.f k l 1) (1 + (l.length : Int), m) ∧ m.length = l.length ∧ ∀ j, 0 ≤ j → j < (l.length : Int) → rd m j = 1 + j := by
  obtain ⟨m, h, h1, h2⟩ := markInt64S_loop l.length hn l.length l 0 rfl (by omega) (by omega) (by omega) (fun j _ _ => by omega)
  exact ⟨m, h, by omega, h2⟩
theorem heldInt64S_loop (m : List Int) (hn : (m.length : Int) ≤ 4611686018427387904) (hp : ∀ j, 0 ≤ j → j < (m.length : Int) → rd m j = 1 + j) (d : Nat) : ∀ i : Int, 0 ≤ i → i ≤ m.length → (m.length : Int) - i = d →
    Ev (fun k => laws_heldInt64S.l0 k m (1 + i) i) (1 + (m.length : Int)) := by
  induction d with
  | zero =>
    intro i h0 h1 hd
    have e : i = (m.length : Int) := by omega
    refine Ev_succ ?_
    simp only [laws_heldInt64S.l0, if_neg (show ¬ i < (m.length : Int) by omega)]
    rw [e]
    exact Ev.now _
  | succ d ih =>
    intro i h0 h1 hd
    refine Ev_succ ?_
    simp (disch := omega) only [laws_heldInt64S.l0, w64]
    simp only [if_pos (show i < (m.length : Int) by omega), if_pos h0, if_pos (hp i h0 (by omega))]
    rw [show 1 + i + 1 = 1 + (i + 1) by omega]
    exact ih (i + 1) (by omega) (by omega) (by omega)
theorem heldInt64S_ev (m : List Int) (hn : (m.length : Int) ≤ 4611686018427387904) (hp : ∀ j, 0 ≤ j → j < (m.length : Int) → rd m j = 1 + j) :
    Ev (fun k => laws_heldInt64S.f k m 1) (1 + (m.length : Int)) :=
  heldInt64S_loop m hn hp m.length 0 (by omega) (by omega) (by omega)

def ByteL (l : List Int) : Prop := ∀ v ∈ l, 0 ≤ v ∧ v ≤ 255
theorem ByteL.rd {l : List Int} (h : ByteL l) (j : Int) (h0 : 0 ≤ j) (h1 : j < l.length) : 0 ≤ rd l j ∧ rd l j ≤ 255 := h _ (rd_mem l j h0 h1)
theorem uncobs_end (x out : List Int) (ho : ByteL out) (hol : out.length ≤ 600) :
    ∃ r, (r.1.length : Int) ≤ 1048576 ∧ Ev (fun k => spec_UncobsBytes.l0 k x out x.length) r ∧ Ev (fun k => impl_UncobsBytes.l0 k x out []) r := by
  obtain ⟨b, hb, hi⟩ := areBytes_ev out (by omega)
  have ez : ¬ (([] : List Int).length : Int) > 0 := by decide
  have en : ¬ (x.length : Int) < (x.length : Int) := by omega
  by_cases h3 : (out.length : Int) ≤ 300
  · have hbt : b = true := hi.2 ⟨h3, fun j j0 j1 => ho.rd j j0 j1⟩
    subst hbt
    obtain ⟨c, hc, hA, hB⟩ := cobs_both out (by omega)
    obtain ⟨r, hC, hD, -⟩ := same_both c x (by omega)
    refine ⟨if r = true then (out, true) else ([], false), by cases r <;> simp <;> omega, Ev_succ ?_, Ev_succ ?_⟩
    · simp only [spec_UncobsBytes.l0, if_neg en, if_neg (show ¬ (out.length : Int) > 300 by omega)]
      refine Ev.bind hA (Ev.bind hC ?_)
      cases r <;> exact Ev.now _
    · simp only [impl_UncobsBytes.l0, if_neg ez]
      refine Ev.bind hb ?_
      simp only [if_true]
      refine Ev.bind hB (Ev.bind hD ?_)
      cases r <;> exact Ev.now _
  · have hbf : b = false := by
      cases b with
      | false => rfl
      | true => exact absurd (hi.1 rfl).1 h3
    subst hbf
    refine ⟨([], false), by simp, Ev_succ ?_, Ev_succ ?_⟩
    · simp only [spec_UncobsBytes.l0, if_neg en, if_pos (show (out.length : Int) > 300 by omega)]
      exact Ev.now _
    · simp only [impl_UncobsBytes.l0, if_neg ez]
      refine Ev.bind hb ?_
      simp only [Bool.false_eq_true, if_false]
      exact Ev.now _
theorem uncobs_loops (x : List Int) (hx : ByteL x) (hl : x.length ≤ 600) (d : Nat) : ∀ (out : List Int) (i : Nat), i ≤ x.length → x.length - i ≤ d → out.length ≤ i → ByteL out →
    ∃ r, (r.1.length : Int) ≤ 1048576 ∧ Ev (fun k => spec_UncobsBytes.l0 k x out i) r ∧ Ev (fun k => impl_UncobsBytes.l0 k x out (x.drop i)) r := by
  induction d using Nat.strongRecOn with
  | ind d ih =>
  intro out i hi hd ho hob
  by_cases hend : i = x.length
  · subst hend
    rw [List.drop_length]
    exact uncobs_end x out hob (by omega)
  have hlt : i < x.length := by omega
  have hlti : (i : Int) < x.length := by omega
  have hdl : (x.drop i).length = x.length - i := List.length_drop
  have hdl0 : ((x.drop i).length : Int) > 0 := by omega
  have hv := hx.rd i (by omega) hlti
  have hrd : rd (x.drop i) 0 = rd x i := by have := rd_dropn x i 0; simpa using this
  obtain ⟨v, hve⟩ : ∃ v, v = rd x i := ⟨_, rfl⟩
  rw [← hve] at hv hrd
  have hi0 : (0 : Int) ≤ i := by omega
  have lo : -9223372036854775808 ≤ v - 1 ∧ v - 1 ≤ 9223372036854775807 := by omega
  have bad : ∃ r : List Int × Bool, (r.1.length : Int) ≤ 1048576 ∧ Ev (fun k => spec_UncobsBytes.j1 k x out i v true) r ∧ Ev (fun k => impl_UncobsBytes.j1 k x out (x.drop i) (v - 1) true) r := by
    refine ⟨([], false), by simp, Ev_succ ?_, Ev_succ ?_⟩
    · simp only [spec_UncobsBytes.j1, if_true]; exact Ev.now _
    · simp only [impl_UncobsBytes.j1, if_true]; exact Ev.now _
  by_cases hz : v = 0
  · obtain ⟨r, hr, hA, hB⟩ := bad
    refine ⟨r, hr, Ev_succ ?_, Ev_succ ?_⟩
    · simp only [spec_UncobsBytes.l0, if_pos hlti, if_pos hi0, ← hve, if_pos hz]; exact hA
    · simp (disch := omega) only [impl_UncobsBytes.l0, if_pos hdl0, show (0 : Int) < ((x.drop i).length : Int) from hdl0, hrd, w64, if_pos (show v - 1 < 0 by omega), if_true]; exact hB
  by_cases hbig : (i : Int) + v > x.length
  · obtain ⟨r, hr, hA, hB⟩ := bad
    refine ⟨r, hr, Ev_succ ?_, Ev_succ ?_⟩
    · simp only [spec_UncobsBytes.l0, if_pos hlti, if_pos hi0, ← hve, if_neg hz, w64 (show -9223372036854775808 ≤ (i : Int) + v by omega) (by omega), decide_eq_true hbig]; exact hA
    · simp only [impl_UncobsBytes.l0, if_pos hdl0, show (0 : Int) < ((x.drop i).length : Int) from hdl0, hrd, w64 lo.1 lo.2, if_neg (show ¬ v - 1 < 0 by omega), if_true, Int.sub_add_cancel, w64 (show -9223372036854775808 ≤ v by omega) (by omega), decide_eq_true (show v > ((x.drop i).length : Int) by omega)]; exact hB
  obtain ⟨n, hn⟩ : ∃ n : Nat, v = n := ⟨v.toNat, by omega⟩
  subst hn
  have hn1 : 1 ≤ n := by omega
  have hin : i + n ≤ x.length := by omega
  have ti : ((i : Int) + (n : Int)).toNat = i + n := by omega
  have ti1 : ((i : Int) + 1).toNat = i + 1 := by omega
  have htake : ((x.drop i).take n).drop 1 = (x.take (i + n)).drop (i + 1) := by
    have e1 : (x.take (i + n)).drop i = (x.drop i).take n := by rw [List.drop_take, Nat.add_sub_cancel_left]
    rw [← e1, List.drop_drop]
  have hdd : (x.drop i).drop n = x.drop (i + n) := by rw [List.drop_drop]
  obtain ⟨y, hy⟩ : ∃ y, y = out ++ (x.take (i + n)).drop (i + 1) := ⟨_, rfl⟩
  have hpl : ((x.take (i + n)).drop (i + 1)).length = n - 1 := by rw [List.length_drop, List.length_take]; omega
  have hyl : y.length = out.length + (n - 1) := by rw [hy, List.length_append, hpl]
  have hyb : ByteL y := by
    intro w hw
    rw [hy] at hw
    rcases List.mem_append.1 hw with g | g
    · exact hob w g
    · exact hx w (List.mem_of_mem_take (List.mem_of_mem_drop g))
  have hyc : out.length + ((x.take (i + n)).drop (i + 1)).length < 17592186044416 := by rw [hpl]; omega
  have hyz : y.length < 17592186044416 := by omega
  have hdl2 : ((x.drop (i + n)).length : Int) = x.length - (i + n) := by rw [List.length_drop]; omega
  have q1 : (0 : Int) ≤ (i : Int) + 1 := by omega
  have q2 : (i : Int) + 1 ≤ (i : Int) + n := by omega
  have q3 : (i : Int) + n ≤ x.length := by omega
  have q4 : (1 : Int) ≤ (n : Int) := by omega
  have q5 : (n : Int) ≤ ((x.drop i).length : Int) := by omega
  have q6 : (0 : Int) ≤ (n : Int) := by omega
  have q7 : -9223372036854775808 ≤ (i : Int) + (n : Int) ∧ (i : Int) + (n : Int) ≤ 9223372036854775807 := by omega
  have q8 : -9223372036854775808 ≤ (i : Int) + 1 ∧ (i : Int) + 1 ≤ 9223372036854775807 := by omega
  have q9 : -9223372036854775808 ≤ (n : Int) ∧ (n : Int) ≤ 9223372036854775807 := by omega
  have q10 : ¬ (n : Int) - 1 < 0 := by omega
  have q11 : ¬ (n : Int) > ((x.drop i).length : Int) := by omega
  have stepS : ∀ r, Ev (fun k => if (n : Int) ≤ 254 then (if (i : Int) + n < x.length then spec_UncobsBytes.l0 k x (y ++ [0]) ((i : Int) + n) else spec_UncobsBytes.l0 k x y ((i : Int) + n)) else spec_UncobsBytes.l0 k x y ((i : Int) + n)) r → Ev (fun k => spec_UncobsBytes.l0 k x out i) r := by
    intro r h
    refine Ev_succ ?_
    simp only [spec_UncobsBytes.l0, if_pos hlti, if_pos hi0, ← hve, if_neg hz, w64 q7.1 q7.2, decide_eq_false hbig]
    refine Ev_succ ?_
    simp only [spec_UncobsBytes.j1, Bool.false_eq_true, if_false, w64 q7.1 q7.2, w64 q8.1 q8.2, if_pos q1, if_pos q2, if_pos q3, ti, ti1, if_pos hyc, ← hy, Option.bind_some, if_pos hyz]
    exact h
  have stepI : ∀ r, Ev (fun k => if (n : Int) - 1 < 254 then (if ((x.drop (i + n)).length : Int) > 0 then impl_UncobsBytes.l0 k x (y ++ [0]) (x.drop (i + n)) else impl_UncobsBytes.l0 k x y (x.drop (i + n))) else impl_UncobsBytes.l0 k x y (x.drop (i + n))) r → Ev (fun k => impl_UncobsBytes.l0 k x out (x.drop i)) r := by
    intro r h
    refine Ev_succ ?_
    simp only [impl_UncobsBytes.l0, if_pos hdl0, show (0 : Int) < ((x.drop i).length : Int) from hdl0, hrd, w64 lo.1 lo.2, if_neg q10, if_true, Int.sub_add_cancel, w64 q9.1 q9.2, decide_eq_false q11]
    refine Ev_succ ?_
    simp only [impl_UncobsBytes.j1, Bool.false_eq_true, if_false, Int.sub_add_cancel, w64 lo.1 lo.2, w64 q9.1 q9.2, if_pos q4, if_pos q5, if_pos q6, Int.toNat_natCast, Option.bind_some, htake, if_pos hyc, ← hy, if_pos hyz, hdd]
    exact h
  have more : (n : Int) ≤ 254 ∧ (i : Int) + n < x.length ∨ ¬ ((n : Int) ≤ 254 ∧ (i : Int) + n < x.length) := Decidable.em _
  rcases more with hm | hm
  · obtain ⟨r, hr, hA, hB⟩ := ih (x.length - (i + n)) (by omega) (y ++ [0]) (i + n) (by omega) (by omega) (by rw [List.length_append, hyl]; show _ + 1 ≤ _; omega) (by
      intro w hw
      rcases List.mem_append.1 hw with g | g
      · exact hyb w g
      · rw [List.mem_singleton.1 g]; decide)
    refine ⟨r, hr, stepS r ?_, stepI r ?_⟩
    · simp only [if_pos hm.1, if_pos hm.2]; exact hA
    · simp only [if_pos (show (n : Int) - 1 < 254 by omega), if_pos (show ((x.drop (i + n)).length : Int) > 0 by omega)]; exact hB
  · obtain ⟨r, hr, hA, hB⟩ := ih (x.length - (i + n)) (by omega) y (i + n) (by omega) (by omega) (by omega) hyb
    refine ⟨r, hr, stepS r ?_, stepI r ?_⟩
    · by_cases g : (n : Int) ≤ 254
      · simp only [if_pos g, if_neg (fun z => hm ⟨g, z⟩)]; exact hA
      · simp only [if_neg g]; exact hA
    · by_cases g : (n : Int) - 1 < 254
      · simp only [if_pos g, if_neg (show ¬ ((x.drop (i + n)).length : Int) > 0 by omega)]; exact hB
      · simp only [if_neg g]; exact hB
theorem uncobsBytes_both (l : List Int) (hl : (l.length : Int) ≤ 1048576) : ∃ r, (r.1.length : Int) ≤ 1048576 ∧ Ev (fun k => spec_UncobsBytes.f k l) r ∧ Ev (fun k => impl_UncobsBytes.f k l) r := by
  obtain ⟨b, hb, hc, hi⟩ := long_both l (by omega)
  cases b with
  | true =>
    have hh := hi.1 rfl
    obtain ⟨r, hr, hA, hB⟩ := uncobs_loops l (fun v hv => by obtain ⟨j, j0, j1, e⟩ := mem_rd l v hv; rw [← e]; exact hh.2 j j0 j1) (by omega) l.length [] 0 (by omega) (by omega) (by simp) (by intro w hw; cases hw)
    refine ⟨r, hr, ?_, ?_⟩
    · simp only [spec_UncobsBytes.f]
      refine Ev.bind hb ?_
      simp only [if_true]
      exact hA
    · simp only [impl_UncobsBytes.f]
      refine Ev.bind hc ?_
      simp only [if_true]
      exact hB
  | false =>
    refine ⟨([], false), by simp, ?_, ?_⟩
    · simp only [spec_UncobsBytes.f]
      refine Ev.bind hb ?_
      simp only [Bool.false_eq_true, if_false]
      exact Ev.now _
    · simp only [impl_UncobsBytes.f]
      refine Ev.bind hc ?_
      simp only [Bool.false_eq_true, if_false]
      exact Ev.now _
theorem FnExactUncobsBytes : laws_FnExactUncobsBytes.Pure := by
  intro l h1 h2 h3
  apply Ev.rounds
  simp only [laws_FnExactUncobsBytes.f]
  by_cases hbig : (l.length : Int) > 1048576
  · simp only [if_pos hbig]; exact Ev.now _
  simp only [if_neg hbig]
  obtain ⟨⟨r, ok⟩, hl, hs, hi⟩ := uncobsBytes_both l (by omega)
  simp only at hl
  have ht := toInt64S_ev l (by omega)
  obtain ⟨m, hm, hml, hmp⟩ := markInt64S_ev r (by omega)
  obtain ⟨m0, hm0, hml0, hmp0⟩ := markInt64S_ev l (by omega)
  have hh := heldInt64S_ev m (by omega) (fun j h0 h1 => hmp j h0 (by omega))
  rw [hml] at hh
  have he := eqInt64S_self r (by omega)
  have he0 := eqInt64S_self l (by omega)
  have g1 : ¬ (1 + (r.length : Int) < 0) := by omega
  have g2 : ¬ (1 + (l.length : Int) < 0) := by omega
  refine Ev.bind ht (Ev.bind hs (Ev.bind ht (Ev.bind hi (Ev.bind he ?_))))
  simp only [if_true, bne_self_eq_false]
  refine Ev_succ ?_
  simp only [laws_FnExactUncobsBytes.j0, Bool.false_eq_true, if_false]
  refine Ev.bind ht (Ev.bind he0 ?_)
  simp only [if_true]
  refine Ev.bind hm0 ?_
  simp only [if_neg g2]
  refine Ev.bind he ?_
  simp only [if_true, bne_self_eq_false]
  refine Ev_succ ?_
  simp only [laws_FnExactUncobsBytes.j1, Bool.false_eq_true, if_false]
  refine Ev.bind hm (Ev.bind hh ?_)
  simp only [if_neg g1, if_true]
  refine Ev.bind ht (Ev.bind hi (Ev.bind he ?_))
  simp only [if_true, bne_self_eq_false]
  refine Ev_succ ?_
  simp only [laws_FnExactUncobsBytes.j2, Bool.false_eq_true, if_false]
  refine Ev.bind hh ?_
  simp only [if_neg g1, if_true]
  exact Ev.now _

end Go.Proofs.Ytbifbbfkcbgnlaa.Pure
