/- The law FnEscaped of the given program holds: for every input that the row lets in the call returns true and leaves its arguments as they were. No condition ahead of it. -/
import Derived.Test.YtbifbbfkcbgnlaaPFnEscapedx6
import Derived.Test.YtbifbbfkcbgnlaaMine
namespace Go.Proofs.Ytbifbbfkcbgnlaa.Pure
open Go.RowKit Go.Proofs.Ytbifbbfkcbgnlaa.PFnEscaped Go.Proofs.YtbifbbfkcbgnlaaW.PrintWords Go.Proofs.YtbifbbfkcbgnlaaW.PrintLast Go.Proofs.YtbifbbfkcbgnlaaW.PrintMore Go.Proofs.Ytbifbbfkcbgnlaa.Mine
set_option linter.unusedVariables false
set_option linter.unusedSimpArgs false
theorem within_eq (a b c : Int) : impl_within.f a b c = some (decide (b ≤ a ∧ a ≤ c)) := by
  unfold impl_within.f; by_cases h : a ≥ b
  · rw [if_pos h]; simp; intro _; exact h
  · rw [if_neg h]; simp; intro h'; omega

theorem areIn_loop (l : List Int) (lo hi : Int) (hl : (l.length : Int) ≤ 4611686018427387904) (d : Nat) : ∀ i : Int, 0 ≤ i → i ≤ l.length → (l.length : Int) - i = d →
    (∀ j, 0 ≤ j → j < i → lo ≤ rd l j ∧ rd l j ≤ hi) → ∃ b, Ev (fun k => impl_areIn.l0 k lo hi l l.length i) b ∧ (b = true ↔ ∀ j, 0 ≤ j → j < (l.length : Int) → lo ≤ rd l j ∧ rd l j ≤ hi) := by
  induction d with
  | zero =>
    intro i h0 h1 hd hp
    refine ⟨true, Ev_succ ?_, ?_⟩
    · simp only [impl_areIn.l0, if_neg (show ¬ i < (l.length : Int) by omega)]; exact Ev.now _
    · simp only [true_iff]; exact fun j j0 j1 => hp j j0 (by omega)
  | succ d ih =>
    intro i h0 h1 hd hp
    have hlt : i < (l.length : Int) := by omega
    by_cases hb : lo ≤ rd l i ∧ rd l i ≤ hi
    · obtain ⟨b, h, hbi⟩ := ih (i + 1) (by omega) (by omega) (by omega) (fun j j0 j1 => by
        by_cases e : j = i
        · rw [e]; exact hb
        · exact hp j j0 (by omega))
      refine ⟨b, Ev_succ ?_, hbi⟩
      simp (disch := omega) only [impl_areIn.l0, w64, within_eq, Option.bind_some]
      simp only [if_pos hlt, if_pos h0, hb, and_self, decide_true, if_true]
      exact h
    · refine ⟨false, Ev_succ ?_, ?_⟩
      · simp (disch := omega) only [impl_areIn.l0, w64, within_eq, Option.bind_some]
        simp only [if_pos hlt, if_pos h0, hb, decide_false, Bool.false_eq_true, if_false]
        exact Ev.now _
      · simp only [Bool.false_eq_true, false_iff]; exact fun g => hb (g i h0 hlt)
theorem areIn_ev (l : List Int) (lo hi : Int) (hl : (l.length : Int) ≤ 4611686018427387904) : ∃ b, Ev (fun k => impl_areIn.f k l lo hi) b ∧ (b = true ↔ ∀ j, 0 ≤ j → j < (l.length : Int) → lo ≤ rd l j ∧ rd l j ≤ hi) :=
  areIn_loop l lo hi hl l.length 0 (by omega) (by omega) (by omega) (fun j _ _ => by omega)

theorem areBytes_ev (l : List Int) (hl : (l.length : Int) ≤ 4611686018427387904) : ∃ b, Ev (fun k => impl_areBytes.f k l) b ∧ (b = true ↔ ((l.length : Int) ≤ 300 ∧ ∀ j, 0 ≤ j → j < (l.length : Int) → 0 ≤ rd l j ∧ rd l j ≤ 255)) := by
  obtain ⟨b, hb, hi⟩ := areIn_ev l 0 255 hl
  simp only [impl_areBytes.f]
  by_cases h : (l.length : Int) ≤ 300
  · refine ⟨b, ?_, by rw [hi]; exact ⟨fun g => ⟨h, g⟩, fun g => g.2⟩⟩
    simp only [if_pos h]
    exact Ev.bind hb (Ev.now _)
  · refine ⟨false, by simp only [if_neg h]; exact Ev.now _, ?_⟩
    simp only [Bool.false_eq_true, false_iff]; exact fun g => h g.1
theorem areLong_ev (l : List Int) (hl : (l.length : Int) ≤ 4611686018427387904) : ∃ b, Ev (fun k => impl_areLongBytes.f k l) b ∧ (b = true ↔ ((l.length : Int) ≤ 600 ∧ ∀ j, 0 ≤ j → j < (l.length : Int) → 0 ≤ rd l j ∧ rd l j ≤ 255)) := by
  obtain ⟨b, hb, hi⟩ := areIn_ev l 0 255 hl
  simp only [impl_areLongBytes.f]
  by_cases h : (l.length : Int) ≤ 600
  · refine ⟨b, ?_, by rw [hi]; exact ⟨fun g => ⟨h, g⟩, fun g => g.2⟩⟩
    simp only [if_pos h]
    exact Ev.bind hb (Ev.now _)
  · refine ⟨false, by simp only [if_neg h]; exact Ev.now _, ?_⟩
    simp only [Bool.false_eq_true, false_iff]; exact fun g => h g.1

def RisesIn (l : List Int) (lo hi : Int) : Prop := ∀ i : Int, 0 ≤ i → i < l.length → (lo ≤ rd l i ∧ rd l i ≤ hi) ∧ (0 < i → rd l (i - 1) < rd l i)

theorem rd_set (l : List Int) (i j v : Int) (hi : 0 ≤ i) (hil : i < l.length) (hj : 0 ≤ j) : rd (l.set i.toNat v) j = if j = i then v else rd l j := by
  unfold rd
  by_cases e : j = i
  · subst e; rw [if_pos rfl, List.getD_eq_getElem?_getD, List.getElem?_set_self (by omega)]; rfl
  · rw [if_neg e, List.getD_eq_getElem?_getD, List.getElem?_set_ne (by omega), List.getD_eq_getElem?_getD]

theorem ext_rd (a b : List Int) (h : a.length = b.length) (hp : ∀ j : Int, 0 ≤ j → j < a.length → rd a j = rd b j) : a = b := by
  apply List.ext_getElem h
  intro n h1 h2
  have := hp n (by omega) (by omega)
  unfold rd at this
  rw [List.getD_eq_getElem?_getD, List.getD_eq_getElem?_getD, Int.toNat_natCast, List.getElem?_eq_getElem h1, List.getElem?_eq_getElem h2] at this
  simpa using this

theorem rd_mem (l : List Int) (i : Int) (h0 : 0 ≤ i) (h1 : i < l.length) : rd l i ∈ l := by
  unfold rd
  rw [List.getD_eq_getElem?_getD, List.getElem?_eq_getElem (show i.toNat < l.length by omega)]
  exact List.getElem_mem _
theorem mem_rd (l : List Int) (v : Int) (h : v ∈ l) : ∃ i : Int, 0 ≤ i ∧ i < l.length ∧ rd l i = v := by
  obtain ⟨n, hn, e⟩ := List.getElem_of_mem h
  refine ⟨n, by omega, by omega, ?_⟩
  unfold rd
  rw [Int.toNat_natCast, List.getD_eq_getElem?_getD, List.getElem?_eq_getElem hn, ← e]; rfl
def ByteL (l : List Int) : Prop := ∀ v ∈ l, 0 ≤ v ∧ v ≤ 255
theorem ByteL.rd {l : List Int} (h : ByteL l) (j : Int) (h0 : 0 ≤ j) (h1 : j < l.length) : 0 ≤ rd l j ∧ rd l j ≤ 255 := h _ (rd_mem l j h0 h1)

theorem ofFuel {α : Type} {g : Nat → Option α} {r : α} (K : Nat) (h : ∀ k, K < k → g k = some r) : Ev g r := ⟨K + 1, fun k hk => h k (by omega)⟩
theorem rd_natS (l : List Int) (n : Nat) (h : n < l.length) : rd l n = l[n] := by
  unfold rd; rw [Int.toNat_natCast, List.getD_eq_getElem?_getD, List.getElem?_eq_getElem h]; rfl
theorem drop_rdS (l : List Int) (n : Nat) (h : n < l.length) : l.drop n = rd l n :: l.drop (n + 1) := by
  rw [List.drop_eq_getElem_cons h, rd_natS l n h]
theorem index_loopS (l : List Int) (a : Int) (hl : l.length ≤ 4000000) (d : Nat) : ∀ (i k : Nat), i + d = l.length → d < k → ∃ r, slices_Index_int64_int64.l0 k l a l.length i = some r ∧ (r ≥ 0 ↔ a ∈ l.drop i) := by
  induction d with
  | zero =>
    intro i k hd hk
    obtain ⟨k, rfl⟩ : ∃ m, k = m + 1 := ⟨k - 1, by omega⟩
    rw [List.drop_of_length_le (by omega)]
    exact ⟨-1, by simp only [slices_Index_int64_int64.l0, if_neg (show ¬ (i : Int) < (l.length : Int) by omega)], by simp⟩
  | succ d ih =>
    intro i k hd hk
    obtain ⟨k, rfl⟩ : ∃ m, k = m + 1 := ⟨k - 1, by omega⟩
    obtain ⟨r, e, hr⟩ := ih (i + 1) k (by omega) (by omega)
    have q : (i : Int) < (l.length : Int) := by omega
    have q0 : (0 : Int) ≤ i := by omega
    have b2 : -9223372036854775808 ≤ ((i + 1 : Nat) : Int) ∧ ((i + 1 : Nat) : Int) ≤ 9223372036854775807 := by omega
    have b3 : (i : Int) + 1 = ((i + 1 : Nat) : Int) := by omega
    rw [drop_rdS l i (by omega)]
    by_cases c : a = rd l i
    · exact ⟨i, by simp only [slices_Index_int64_int64.l0, if_pos q, if_pos q0, if_pos c], by simp [c]⟩
    · exact ⟨r, by simp only [slices_Index_int64_int64.l0, if_pos q, if_pos q0, if_neg c, b3, w64 b2.1 b2.2, e], by rw [hr]; simp [c]⟩
theorem contains_eq (l : List Int) (a : Int) (hl : l.length ≤ 4000000) (k : Nat) (hk : l.length < k) : slices_Contains_int64_int64.f k l a = some (decide (a ∈ l)) := by
  obtain ⟨r, e, hr⟩ := index_loopS l a hl l.length 0 k (by omega) hk
  have e2 : slices_Index_int64_int64.f k l a = some r := e
  rw [List.drop_zero] at hr
  rw [slices_Contains_int64_int64.f, e2]
  simp only [Option.bind_some, Option.some.injEq]
  exact decide_eq_decide.2 hr
theorem areIn_fuel (l : List Int) (lo hi : Int) (hl : l.length ≤ 4000000) (d : Nat) : ∀ (i k : Nat), i + d = l.length → d < k → ∃ b, impl_areIn.l0 k lo hi l l.length i = some b ∧ (b = true ↔ ∀ j : Int, (i : Int) ≤ j → j < l.length → lo ≤ rd l j ∧ rd l j ≤ hi) := by
  induction d with
  | zero =>
    intro i k hd hk
    obtain ⟨k, rfl⟩ : ∃ m, k = m + 1 := ⟨k - 1, by omega⟩
    exact ⟨true, by simp only [impl_areIn.l0, if_neg (show ¬ (i : Int) < (l.length : Int) by omega)], by simp only [true_iff]; intro j j0 j1; omega⟩
  | succ d ih =>
    intro i k hd hk
    obtain ⟨k, rfl⟩ : ∃ m, k = m + 1 := ⟨k - 1, by omega⟩
    obtain ⟨r, e, hr⟩ := ih (i + 1) k (by omega) (by omega)
    have q : (i : Int) < (l.length : Int) := by omega
    have q0 : (0 : Int) ≤ i := by omega
    have b2 : -9223372036854775808 ≤ ((i + 1 : Nat) : Int) ∧ ((i + 1 : Nat) : Int) ≤ 9223372036854775807 := by omega
    have b3 : (i : Int) + 1 = ((i + 1 : Nat) : Int) := by omega
    by_cases c : lo ≤ rd l i ∧ rd l i ≤ hi
    · refine ⟨r, by simp only [impl_areIn.l0, if_pos q, if_pos q0, within_eq, Option.bind_some, decide_eq_true c, if_true, b3, w64 b2.1 b2.2, e], ?_⟩
      rw [hr]
      exact ⟨fun g j j0 j1 => by
        by_cases z : j = i
        · rw [z]; exact c
        · exact g j (by omega) j1, fun g j j0 j1 => g j (by omega) j1⟩
    · refine ⟨false, by simp only [impl_areIn.l0, if_pos q, if_pos q0, within_eq, Option.bind_some, decide_eq_false c, Bool.false_eq_true, if_false], ?_⟩
      simp only [Bool.false_eq_true, false_iff]; exact fun g => c (g i (by omega) q)
theorem isInc_fuel (l : List Int) (hl : l.length ≤ 4000000) (d : Nat) : ∀ (i k : Nat), i + d = l.length → d < k → ∃ b, impl_isIncreasing.l0 k l l.length i = some b ∧ (b = true ↔ ∀ j : Int, (i : Int) ≤ j → j < l.length → 0 < j → rd l (j - 1) < rd l j) := by
  induction d with
  | zero =>
    intro i k hd hk
    obtain ⟨k, rfl⟩ : ∃ m, k = m + 1 := ⟨k - 1, by omega⟩
    exact ⟨true, by simp only [impl_isIncreasing.l0, if_neg (show ¬ (i : Int) < (l.length : Int) by omega)], by simp only [true_iff]; intro j j0 j1; omega⟩
  | succ d ih =>
    intro i k hd hk
    obtain ⟨k, rfl⟩ : ∃ m, k = m + 1 := ⟨k - 1, by omega⟩
    obtain ⟨r, e, hr⟩ := ih (i + 1) k (by omega) (by omega)
    have q : (i : Int) < (l.length : Int) := by omega
    have q0 : (0 : Int) ≤ i := by omega
    have b2 : -9223372036854775808 ≤ ((i + 1 : Nat) : Int) ∧ ((i + 1 : Nat) : Int) ≤ 9223372036854775807 := by omega
    have b3 : (i : Int) + 1 = ((i + 1 : Nat) : Int) := by omega
    have b4 : -9223372036854775808 ≤ (i : Int) - 1 ∧ (i : Int) - 1 ≤ 9223372036854775807 := by omega
    by_cases p : (i : Int) > 0
    · have q1 : 0 ≤ (i : Int) - 1 := by omega
      have q2 : (i : Int) - 1 < (l.length : Int) := by omega
      by_cases c : rd l i ≤ rd l ((i : Int) - 1)
      · refine ⟨false, by simp only [impl_isIncreasing.l0, if_pos q, if_pos q0, if_pos p, w64 b4.1 b4.2, if_pos q1, if_pos q2, if_pos c], ?_⟩
        simp only [Bool.false_eq_true, false_iff]; exact fun g => by have := g i (by omega) q p; omega
      · refine ⟨r, by simp only [impl_isIncreasing.l0, if_pos q, if_pos q0, if_pos p, w64 b4.1 b4.2, if_pos q1, if_pos q2, if_neg c, b3, w64 b2.1 b2.2, e], ?_⟩
        rw [hr]
        exact ⟨fun g j j0 j1 j2 => by
          by_cases z : j = i
          · rw [z]; omega
          · exact g j (by omega) j1 j2, fun g j j0 j1 => g j (by omega) j1⟩
    · refine ⟨r, by simp only [impl_isIncreasing.l0, if_pos q, if_neg p, b3, w64 b2.1 b2.2, e], ?_⟩
      rw [hr]
      exact ⟨fun g j j0 j1 j2 => g j (by omega) j1 j2, fun g j j0 j1 => g j (by omega) j1⟩
def SpOk (l : List Int) : Prop := (1 ≤ (l.length : Int) ∧ (l.length : Int) ≤ 8) ∧ RisesIn l 0 255 ∧ 125 ∈ l ∧ ∀ n ∈ l, ¬ Go.bits .xor .i64 n 32 ∈ l
theorem areSpecial_eq (l : List Int) : ∃ b, impl_areSpecial.f l = some b ∧ (b = true ↔ SpOk l) := by
  unfold impl_areSpecial.f
  by_cases c1 : (l.length : Int) < 1
  · rw [if_pos c1]; exact ⟨false, rfl, by simp only [Bool.false_eq_true, false_iff]; exact fun g => by have := g.1.1; omega⟩
  by_cases c2 : (l.length : Int) > 8
  · rw [if_neg c1, if_pos c2]; exact ⟨false, rfl, by simp only [Bool.false_eq_true, false_iff]; exact fun g => by have := g.1.2; omega⟩
  rw [if_neg c1, if_neg c2]
  obtain ⟨a, ha, ia⟩ := areIn_fuel l 0 255 (by omega) l.length 0 10 (by omega) (by omega)
  obtain ⟨b, hb, ib⟩ := isInc_fuel l (by omega) l.length 0 10 (by omega) (by omega)
  have ha2 : impl_areIn.f 10 l 0 255 = some a := ha
  have hb2 : impl_isIncreasing.f 10 l = some b := hb
  have hc := contains_eq l 125 (by omega) 10 (by omega)
  have hr : RisesIn l 0 255 ↔ a = true ∧ b = true := by
    rw [ia, ib]
    exact ⟨fun g => ⟨fun j j0 j1 => (g j (by omega) j1).1, fun j j0 j1 j2 => (g j (by omega) j1).2 j2⟩, fun g i i0 i1 => ⟨g.1 i (by omega) i1, fun z => g.2 i (by omega) i1 z⟩⟩
  have hhit : ∀ x, impl_areSpecial.hit l x = decide (Go.bits .xor .i64 x 32 ∈ l) := by
    intro x
    unfold impl_areSpecial.hit
    rw [contains_eq l _ (by omega) 10 (by omega)]
    by_cases z : Go.bits .xor .i64 x 32 ∈ l
    · rw [decide_eq_true z]; rfl
    · rw [decide_eq_false z]; rfl
  rw [ha2, Option.bind_some]
  cases a with
  | false => exact ⟨false, rfl, by simp only [Bool.false_eq_true, false_iff]; exact fun g => by have := hr.1 g.2.1; cases this.1⟩
  | true =>
    rw [if_pos rfl, hb2, Option.bind_some]
    cases b with
    | false => exact ⟨false, rfl, by simp only [Bool.false_eq_true, false_iff]; exact fun g => by have := hr.1 g.2.1; cases this.2⟩
    | true =>
      have hr := hr.2 ⟨rfl, rfl⟩
      rw [if_pos rfl, hc, Option.bind_some]
      by_cases c3 : 125 ∈ l
      · rw [decide_eq_true c3, if_pos rfl]
        refine ⟨_, rfl, ?_⟩
        rw [Bool.not_eq_true', List.any_eq_false]
        constructor
        · intro g
          refine ⟨by omega, hr, c3, fun n hn z => ?_⟩
          have := g n hn
          rw [hhit, decide_eq_true z] at this
          exact this rfl
        · intro g n hn
          rw [hhit, decide_eq_false (g.2.2.2 n hn)]
          exact Bool.false_ne_true
      · rw [decide_eq_false c3]
        exact ⟨false, rfl, by simp only [Bool.false_eq_true, false_iff]; exact fun g => c3 g.2.2.1⟩
def escL (S : List Int) : List Int → List Int
  | [] => []
  | n :: r => if n ∈ S then 125 :: Go.bits .xor .i64 n 32 :: escL S r else n :: escL S r
theorem escL_length (S : List Int) : ∀ l : List Int, l.length ≤ (escL S l).length ∧ (escL S l).length ≤ 2 * l.length
  | [] => by simp [escL]
  | n :: r => by
    have := escL_length S r
    simp only [escL]; split <;> simp <;> omega
theorem esc_impl (S l : List Int) (hS : S.length ≤ 1000) (hl : l.length ≤ 1048576) (d : Nat) : ∀ (o : List Int) (i : Nat), i + d = l.length → o.length ≤ 2 * i →
    Ev (fun k => impl_escape.l0 k S o l l.length i) (o ++ escL S (l.drop i)) := by
  induction d with
  | zero =>
    intro o i hd ho
    refine Ev_succ ?_
    rw [List.drop_of_length_le (by omega), escL, List.append_nil]
    simp only [impl_escape.l0, if_neg (show ¬ (i : Int) < (l.length : Int) by omega)]; exact Ev.now _
  | succ d ih =>
    intro o i hd ho
    have q : (i : Int) < (l.length : Int) := by omega
    have q0 : (0 : Int) ≤ i := by omega
    have b2 : -9223372036854775808 ≤ ((i + 1 : Nat) : Int) ∧ ((i + 1 : Nat) : Int) ≤ 9223372036854775807 := by omega
    have b3 : (i : Int) + 1 = ((i + 1 : Nat) : Int) := by omega
    have hh := ofFuel (g := fun k => slices_Contains_int64_int64.f k S (rd l i)) S.length (fun k hk => contains_eq S _ (by omega) k hk)
    have lt : o.length < 17592186044416 := by omega
    rw [drop_rdS l i (by omega)]
    refine Ev_succ ?_
    simp only [impl_escape.l0, if_pos q, if_pos q0]
    refine Ev.bind hh ?_
    by_cases c : rd l i ∈ S
    · have lt2 : o.length + [125, Go.bits .xor .i64 (rd l i) 32].length < 17592186044416 := by show o.length + 2 < _; omega
      have hE := ih (o ++ [125, Go.bits .xor .i64 (rd l i) 32]) (i + 1) (by omega) (by simp; omega)
      rw [List.append_assoc] at hE
      simp only [decide_eq_true c, if_true, Option.bind_some, if_pos lt2, b3, w64 b2.1 b2.2, escL, if_pos c]
      exact hE
    · have hE := ih (o ++ [rd l i]) (i + 1) (by omega) (by simp; omega)
      rw [List.append_assoc] at hE
      simp only [decide_eq_false c, Bool.false_eq_true, if_false, if_pos lt, b3, w64 b2.1 b2.2, escL, if_neg c]
      exact hE
theorem esc_implE (S l : List Int) (hS : S.length ≤ 1000) (hl : l.length ≤ 1048576) : Ev (fun k => impl_escape.f k S l) (escL S l) := by
  have := esc_impl S l hS hl l.length [] 0 (by omega) (by simp)
  rwa [List.drop_zero, List.nil_append] at this

def AllBit (s : ByteArray) : Prop := ∀ i : Int, 0 ≤ i → i < s.size → bt s i = 48 ∨ bt s i = 49
def IsBitS (s : ByteArray) : Prop := AllBit s ∧ (s.size : Int) ≤ 400
theorem bt_list (s : ByteArray) (i : Nat) (h : i < s.size) : bt s i = ((s.data.toList[i]'(by simpa using h)).toNat : Int) := by
  unfold bt
  simp only [Int.toNat_natCast, h, dif_pos]
  rfl
theorem dropWhile_nil (p : UInt8 → Bool) : ∀ l : List UInt8, l.dropWhile p = [] ↔ ∀ b ∈ l, p b = true
  | [] => by simp
  | x :: l => by
    rw [List.dropWhile_cons]
    cases h : p x with
    | true => simp [h, dropWhile_nil p l]
    | false => simp [h]
theorem trim_empty (l : List UInt8) : (Lib.trimS l [48, 49]).isEmpty = true ↔ ∀ b ∈ l, b = 48 ∨ b = 49 := by
  have key : ∀ p : UInt8 → Bool, List.dropWhile p (List.dropWhile p l.reverse).reverse = [] ↔ ∀ b ∈ l, p b = true := by
    intro p
    rw [dropWhile_nil]
    constructor
    · intro h
      by_cases e : List.dropWhile p l.reverse = []
      · have := (dropWhile_nil p _).1 e
        exact fun b hb => this b (by simpa using hb)
      · have hh := List.head_dropWhile_not p e
        have h3 := h ((List.dropWhile p l.reverse).head e) (by simp)
        rw [hh] at h3
        cases h3
    · intro h b hb
      have : List.dropWhile p l.reverse = [] := (dropWhile_nil p _).2 (fun b hb => h b (by simpa using hb))
      rw [this] at hb
      simp at hb
  unfold Lib.trimS Lib.trimRightS Lib.trimLeftS
  rw [List.isEmpty_iff, key]
  simp

theorem ba_ext {a b : ByteArray} (h : a.data.toList = b.data.toList) : a = b := by apply ByteArray.ext; exact Array.toList_inj.1 h
theorem sn_append (a b : List Int) : strOfNums (a ++ b) = strOfNums a ++ strOfNums b := by apply ba_ext; simp [strOfNums]
theorem sn_size (a : List Int) : (strOfNums a).size = a.length := by simp [strOfNums, ByteArray.size]
theorem sn_nil : strOfNums [] = (⟨#[]⟩ : ByteArray) := rfl
theorem bt_range (s : ByteArray) (i : Int) (h0 : 0 ≤ i) (h1 : i < s.size) : 0 ≤ bt s i ∧ bt s i < 256 := by
  obtain ⟨n, rfl⟩ : ∃ n : Nat, i = n := ⟨i.toNat, by omega⟩
  rw [bt_list s n (by omega)]
  have := (s.data.toList[n]'(by simp; omega)).toNat_lt
  omega
theorem extract_one (s : ByteArray) (n : Nat) (h : n < s.size) : (s.extract n (n + 1)).data.toList = [s.data.toList[n]'(by simpa using h)] := by
  have h' : n < s.data.size := h
  simp only [ByteArray.data_extract, Array.toList_extract, List.extract_eq_take_drop]
  rw [show n + 1 - n = 1 by omega, List.drop_eq_getElem_cons (show n < s.data.toList.length by simpa using h')]
  simp
theorem sn_one (s : ByteArray) (i : Int) (h0 : 0 ≤ i) (h1 : i < s.size) : strOfNums [bt s i] = s.extract i.toNat (i + 1).toNat := by
  obtain ⟨n, rfl⟩ : ∃ n : Nat, i = n := ⟨i.toNat, by omega⟩
  apply ba_ext
  rw [show ((n : Int) + 1).toNat = n + 1 by omega, Int.toNat_natCast, extract_one s n (by omega), bt_list s n (by omega)]
  simp [strOfNums]

theorem and255 (x : Int) : 0 ≤ Go.bits .and .u64 x 255 ∧ Go.bits .and .u64 x 255 ≤ 255 := by
  have h : (BitVec.ofInt 64 x &&& BitVec.ofInt 64 255).toNat ≤ 255 := by
    rw [BitVec.toNat_and]; exact Nat.le_trans Nat.and_le_right (by decide)
  have e : Go.bits .and .u64 x 255 = IntKind.u64.wrap ((BitVec.ofInt 64 x &&& BitVec.ofInt 64 255).toNat : Int) := rfl
  rw [e]
  generalize (BitVec.ofInt 64 x &&& BitVec.ofInt 64 255).toNat = n at h
  have e2 : IntKind.u64.wrap (n : Int) = (n : Int) % 18446744073709551616 := rfl
  rw [e2]; omega
def U8L (l : List Int) : Prop := ∀ x ∈ l, (Lit.int .u8 x).wf = true
theorem u8_rd {l : List Int} (h : U8L l) (i : Int) : 0 ≤ rd l i ∧ rd l i ≤ 255 := by
  unfold rd
  rw [List.getD_eq_getElem?_getD]
  cases e : l[i.toNat]? with
  | none => exact ⟨by decide, by decide⟩
  | some v =>
    have := h v (List.mem_of_getElem? e)
    simp only [Lit.wf, IntKind.min, IntKind.max, IntKind.signed, IntKind.bits, Bool.and_eq_true, decide_eq_true_eq, Bool.false_eq_true, if_false] at this
    simp only [Option.getD_some]
    omega
theorem next_ev (l : List Int) (hu : U8L l) (hl : l.length ≤ 1000000) (a s : Int) (h0 : 0 ≤ a) (h1 : a ≤ 1000000000000) : ∃ v s', spec_l00Src_next.f l a s = some (v, a + 1, s') ∧ 0 ≤ v ∧ v ≤ 255 := by
  have ha := and255 ((IntKind.u64.wrap ((IntKind.u64.wrap ((IntKind.u64.wrap (s * 6364136223846793005)) + (IntKind.u64.wrap (wrap64 (rd l a))))) + 1442695040888963407)) / 1099511627776)
  have hb := and255 ((IntKind.u64.wrap ((IntKind.u64.wrap ((IntKind.u64.wrap (s * 6364136223846793005)) + 0)) + 1442695040888963407)) / 1099511627776)
  have hr := u8_rd hu a
  have e1 : wrap64 (a + 1) = a + 1 := w64 (by omega) (by omega)
  simp only [spec_l00Src_next.f]
  rw [e1]
  by_cases c : a < (l.length : Int)
  · rw [if_pos c, if_pos h0]
    by_cases c2 : a + 1 ≤ (l.length : Int)
    · rw [if_pos c2]; refine ⟨_, _, rfl, ?_⟩; rw [w64 (Int.le_trans (by decide) hr.1) (Int.le_trans hr.2 (by decide))]; exact hr
    · rw [if_neg c2]; refine ⟨_, _, rfl, ?_⟩; rw [w64 (Int.le_trans (by decide) ha.1) (Int.le_trans ha.2 (by decide))]; exact ha
  · rw [if_neg c]
    by_cases c2 : a + 1 ≤ (l.length : Int)
    · rw [if_pos c2]; exact ⟨_, _, rfl, by decide⟩
    · rw [if_neg c2]; refine ⟨_, _, rfl, ?_⟩; rw [w64 (Int.le_trans (by decide) hb.1) (Int.le_trans hb.2 (by decide))]; exact hb
theorem tmod_range (x n : Int) (h0 : 0 ≤ x) (hn : 1 ≤ n) : 0 ≤ Int.tmod x n ∧ Int.tmod x n < n := by
  rw [Int.tmod_eq_emod_of_nonneg h0]
  exact ⟨Int.emod_nonneg _ (by omega), Int.emod_lt_of_pos _ (by omega)⟩
theorem pick_ev (l : List Int) (hu : U8L l) (hl : l.length ≤ 1000000) (n a s : Int) (h0 : 0 ≤ a) (h1 : a ≤ 100000000000) :
    ∃ v a' s', spec_l00Src_pick.f l a s n = some (v, a', s') ∧ 0 ≤ v ∧ (1 ≤ n → v < n) ∧ a ≤ a' ∧ a' ≤ a + 2 := by
  simp only [spec_l00Src_pick.f]
  by_cases c : n ≤ 1
  · rw [if_pos c]; exact ⟨0, a, s, rfl, by omega, by omega, by omega, by omega⟩
  obtain ⟨v, s', e, hv⟩ := next_ev l hu hl a s h0 (by omega)
  obtain ⟨v2, s2, e2, hv2⟩ := next_ev l hu hl (a + 1) s' (by omega) (by omega)
  have hn0 : ¬ n = 0 := by omega
  have t1 := tmod_range v n hv.1 (by omega)
  have t2 := tmod_range (v * 256 + v2) n (by omega) (by omega)
  have b1 : -9223372036854775808 ≤ v * 256 ∧ v * 256 ≤ 9223372036854775807 := by omega
  have b2 : -9223372036854775808 ≤ v * 256 + v2 ∧ v * 256 + v2 ≤ 9223372036854775807 := by omega
  rw [if_neg c, e, Option.bind_some]
  by_cases c2 : n > 200
  · refine ⟨_, a + 1 + 1, s2, ?_, t2.1, fun _ => t2.2, by omega, by omega⟩
    simp only [if_pos c2]
    rw [e2, Option.bind_some, if_neg hn0, w64 b1.1 b1.2, w64 b2.1 b2.2]
  · refine ⟨_, a + 1, s', ?_, t1.1, fun _ => t1.2, by omega, by omega⟩
    rw [if_neg c2, if_neg hn0]
theorem one_ev (l : List Int) (hu : U8L l) (hl : l.length ≤ 1000000) (n a s : Int) (h0 : 0 ≤ a) (h1 : a ≤ 100000000000) :
    ∃ c a' s', spec_l00Src_one.f l a s n = some (c, a', s') ∧ a ≤ a' ∧ a' ≤ a + 2 := by
  obtain ⟨v, a', s', e, -, -, h2, h3⟩ := pick_ev l hu hl n a s h0 h1
  exact ⟨_, a', s', by rw [spec_l00Src_one.f, e, Option.bind_some], h2, h3⟩
def Bit48 (x : List Int) : Prop := ∀ v ∈ x, v = 48 ∨ v = 49
theorem bit48_sn {y : List Int} (h : Bit48 y) : AllBit (strOfNums y) ∧ (strOfNums y).size = y.length := by
  refine ⟨?_, sn_size y⟩
  intro i h0 h1
  rw [sn_size] at h1
  obtain ⟨n, rfl⟩ : ∃ n : Nat, i = n := ⟨i.toNat, by omega⟩
  have hn : n < y.length := by omega
  rw [bt_list _ n (by rw [sn_size]; exact hn)]
  have e : ((strOfNums y).data.toList[n]'(by have := sn_size y; simp only [ByteArray.size] at this; rw [Array.length_toList]; omega)) = UInt8.ofNat (y[n]).toNat := by simp [strOfNums]
  rw [e]
  rcases h _ (List.getElem_mem hn) with g | g <;> rw [g]
  · exact .inl rfl
  · exact .inr rfl

def putL : List Int → Int → List Int
  | [], n => [n]
  | v :: r, n => if v ≥ n then (if v > n then n :: v :: r else v :: r) else v :: putL r n
theorem put_loop (x : List Int) (n : Int) (hx : x.length ≤ 1000) (d : Nat) : ∀ (o : List Int) (i : Nat), i + d = x.length → o.length ≤ i + 1 →
    Ev (fun k => spec_l00Put.l0 k x n o true i) (o ++ x.drop i) ∧ (o.length ≤ i → Ev (fun k => spec_l00Put.l0 k x n o false i) (o ++ putL (x.drop i) n)) := by
  induction d with
  | zero =>
    intro o i hd ho
    have q : ¬ (i : Int) < (x.length : Int) := by omega
    have lt : o.length < 17592186044416 := by omega
    rw [List.drop_of_length_le (by omega)]
    refine ⟨Ev_succ ?_, fun _ => Ev_succ ?_⟩
    · simp only [spec_l00Put.l0, if_neg q, if_true, List.append_nil]; exact Ev.now _
    · simp only [spec_l00Put.l0, if_neg q, Bool.false_eq_true, if_false, if_pos lt, putL]; exact Ev.now _
  | succ d ih =>
    intro o i hd ho
    have q : (i : Int) < (x.length : Int) := by omega
    have q0 : (0 : Int) ≤ i := by omega
    have lt : o.length < 17592186044416 := by omega
    have lt2 : (o ++ [n]).length < 17592186044416 := by simp; omega
    have b2 : -9223372036854775808 ≤ ((i + 1 : Nat) : Int) ∧ ((i + 1 : Nat) : Int) ≤ 9223372036854775807 := by omega
    have b3 : (i : Int) + 1 = ((i + 1 : Nat) : Int) := by omega
    rw [drop_rdS x i (by omega)]
    have hT := ih (o ++ [rd x i]) (i + 1) (by omega) (by simp; omega)
    have hTT := hT.1
    rw [List.append_assoc] at hTT
    refine ⟨Ev_succ ?_, fun ho' => Ev_succ ?_⟩
    · simp only [spec_l00Put.l0, if_pos q, if_true]
      refine Ev_succ ?_
      simp only [spec_l00Put.j1, Bool.false_eq_true, if_false, if_pos q, if_pos q0, if_pos lt, b3, w64 b2.1 b2.2]
      exact hTT
    · simp only [spec_l00Put.l0, if_pos q, if_pos q0, Bool.false_eq_true, if_false]
      by_cases g : rd x i ≥ n
      · simp only [putL, if_pos g, decide_eq_true g]
        by_cases g2 : rd x i > n
        · have hN := (ih (o ++ [n] ++ [rd x i]) (i + 1) (by omega) (by simp; omega)).1
          simp only [if_pos g2]
          rw [List.append_assoc, List.append_assoc] at hN
          refine Ev_succ ?_
          simp only [spec_l00Put.j1, if_true, if_pos q, if_pos q0, if_pos g2, if_pos lt, Option.bind_some, if_pos lt2, b3, w64 b2.1 b2.2]
          simpa using hN
        · simp only [if_neg g2]
          refine Ev_succ ?_
          simp only [spec_l00Put.j1, if_true, if_pos q, if_pos q0, if_neg g2, if_pos lt, b3, w64 b2.1 b2.2]
          exact hTT
      · simp only [putL, if_neg g, decide_eq_false g]
        have hF := hT.2 (by simp; omega)
        rw [List.append_assoc] at hF
        refine Ev_succ ?_
        simp only [spec_l00Put.j1, Bool.false_eq_true, if_false, if_pos q, if_pos q0, if_pos lt, b3, w64 b2.1 b2.2]
        exact hF
theorem put_ev (x : List Int) (n : Int) (hx : x.length ≤ 1000) : Ev (fun k => spec_l00Put.f k x n) (putL x n) := by
  have h := (put_loop x n hx x.length [] 0 (by omega) (by simp)).2 (by simp)
  rw [List.drop_zero, List.nil_append] at h
  exact h
theorem putL_length : ∀ (x : List Int) (n : Int), 1 ≤ (putL x n).length ∧ (putL x n).length ≤ x.length + 1
  | [], n => by simp [putL]
  | v :: r, n => by
    have := putL_length r n
    simp only [putL]; split
    · split <;> simp
    · simp; omega
theorem putL_mem : ∀ (x : List Int) (n v : Int), v ∈ putL x n → v ∈ x ∨ v = n
  | [], n, v, h => by right; simpa [putL] using h
  | w :: r, n, v, h => by
    simp only [putL] at h
    split at h
    · split at h
      · rcases List.mem_cons.1 h with e | e
        · exact .inr e
        · exact .inl e
      · exact .inl h
    · rcases List.mem_cons.1 h with e | e
      · exact .inl (by rw [e]; exact List.mem_cons_self)
      · rcases putL_mem r n v e with g | g
        · exact .inl (List.mem_cons_of_mem _ g)
        · exact .inr g
theorem putL_sorted : ∀ (x : List Int) (n : Int), x.Pairwise (· < ·) → (putL x n).Pairwise (· < ·)
  | [], n, h => by simp [putL]
  | w :: r, n, h => by
    obtain ⟨h1, h2⟩ := List.pairwise_cons.1 h
    simp only [putL]
    split
    · split
      · refine List.pairwise_cons.2 ⟨fun v hv => ?_, h⟩
        rcases List.mem_cons.1 hv with e | e
        · omega
        · have := h1 v e; omega
      · exact h
    · refine List.pairwise_cons.2 ⟨fun v hv => ?_, putL_sorted r n h2⟩
      rcases putL_mem r n v hv with e | e
      · exact h1 v e
      · omega
theorem rises_of (l : List Int) (h : l.Pairwise (· < ·)) (lo hi : Int) (hb : ∀ v ∈ l, lo ≤ v ∧ v ≤ hi) : RisesIn l lo hi := by
  intro i h0 h1
  obtain ⟨n, rfl⟩ : ∃ n : Nat, i = n := ⟨i.toNat, by omega⟩
  have hn : n < l.length := by omega
  rw [rd_natS l n hn]
  refine ⟨hb _ (List.getElem_mem _), fun z => ?_⟩
  rw [show (n : Int) - 1 = ((n - 1 : Nat) : Int) by omega, rd_natS l (n - 1) (by omega)]
  exact List.pairwise_iff_getElem.1 h (n - 1) n (by omega) hn (by omega)
theorem r8Long_big (l0 l1 : List Int) (g : (l0.length : Int) > 48 ∨ (l1.length : Int) > 48) : laws_r8Long.f l0 l1 = some true := by
  simp only [laws_r8Long.f]
  by_cases g0 : (l0.length : Int) > 48
  · rw [if_pos g0]
  · rw [if_neg g0]; rcases g with g | g
    · exact absurd g g0
    · rw [decide_eq_true g]
theorem r8Long_small (l0 l1 : List Int) (g : ¬ ((l0.length : Int) > 48 ∨ (l1.length : Int) > 48)) : laws_r8Long.f l0 l1 = some false := by
  simp only [laws_r8Long.f]
  rw [if_neg (fun z => g (.inl z)), decide_eq_false (fun z => g (.inr z))]

def fz : List Int → Nat
  | [] => 0
  | v :: t => if v = 0 then 0 else fz t + 1
theorem fz_le : ∀ l : List Int, fz l ≤ l.length
  | [] => by simp [fz]
  | v :: t => by have := fz_le t; simp only [fz, List.length_cons]; split <;> omega
theorem fz_append : ∀ l : List Int, fz (l ++ [0]) = fz l
  | [] => by simp [fz]
  | v :: t => by simp only [List.cons_append, fz, fz_append t]
theorem rd_drop (l : List Int) (n : Nat) (h : n < l.length) : l.drop n = rd l n :: l.drop (n + 1) := by
  rw [List.drop_eq_getElem_cons h]
  congr 1
  unfold rd
  rw [Int.toNat_natCast, List.getD_eq_getElem?_getD, List.getElem?_eq_getElem h]
  rfl
theorem index_loop (l : List Int) (hl : (l.length : Int) ≤ 4611686018427387904) (d : Nat) : ∀ i : Nat, i + d = l.length → fz (l.drop i) < (l.drop i).length →
    Ev (fun k => slices_Index_int64_int64.l0 k l 0 l.length i) ((i : Int) + fz (l.drop i)) := by
  induction d with
  | zero => intro i hd hf; rw [List.drop_of_length_le (by omega)] at hf; simp at hf
  | succ d ih =>
    intro i hd hf
    have hi : i < l.length := by omega
    refine Ev_succ ?_
    simp (disch := omega) only [slices_Index_int64_int64.l0, w64]
    simp only [if_pos (show (i : Int) < (l.length : Int) by omega), if_pos (show (0 : Int) ≤ i by omega)]
    rw [rd_drop l i hi] at hf ⊢
    by_cases e : rd l i = 0
    · simp only [fz, if_pos e, if_pos e.symm]; exact Ev.now _
    · simp only [fz, if_neg e, List.length_cons] at hf ⊢
      simp only [if_neg (fun g : (0 : Int) = rd l i => e g.symm)]
      have := ih (i + 1) (by omega) (by omega)
      rw [show (i : Int) + ((fz (l.drop (i + 1)) + 1 : Nat) : Int) = ((i + 1 : Nat) : Int) + fz (l.drop (i + 1)) by omega]
      exact this
theorem index_ev (l : List Int) (hl : (l.length : Int) ≤ 1048576) : Ev (fun k => slices_Index_int64_int64.f k (l ++ [0]) 0) (fz l : Int) := by
  have h := index_loop (l ++ [0]) (by simp; omega) (l ++ [0]).length 0 (by omega) (by rw [List.drop_zero, fz_append]; have := fz_le l; simp; omega)
  rw [List.drop_zero, fz_append] at h
  simp only [slices_Index_int64_int64.f]
  simpa using h
theorem rd_cons (v : Int) (t : List Int) (m : Nat) : rd (v :: t) ((m + 1 : Nat) : Int) = rd t m := by
  unfold rd; rw [Int.toNat_natCast, Int.toNat_natCast]; rfl
theorem rd_zero (v : Int) (t : List Int) : rd (v :: t) ((0 : Nat) : Int) = v := rfl
theorem fz_nz : ∀ (l : List Int) (m : Nat), m < fz l → rd l m ≠ 0
  | [], m, h => by simp [fz] at h
  | v :: t, m, h => by
    simp only [fz] at h
    by_cases e : v = 0
    · rw [if_pos e] at h; omega
    · rw [if_neg e] at h
      cases m with
      | zero => rw [rd_zero]; exact e
      | succ m => rw [rd_cons]; exact fz_nz t m (by omega)
theorem fz_z : ∀ l : List Int, fz l < l.length → rd l (fz l : Nat) = 0
  | [], h => by simp at h
  | v :: t, h => by
    simp only [fz, List.length_cons] at h ⊢
    by_cases e : v = 0
    · rw [if_pos e]; exact e
    · rw [if_neg e] at h ⊢; rw [rd_cons]; exact fz_z t (by omega)
theorem rd_dropn (l : List Int) (i m : Nat) : rd (l.drop i) m = rd l ((i + m : Nat) : Int) := by
  unfold rd
  rw [Int.toNat_natCast, Int.toNat_natCast, List.getD_eq_getElem?_getD, List.getD_eq_getElem?_getD, List.getElem?_drop]
def cut254 (l : List Int) (i : Nat) : Nat := min (fz (l.drop i)) 254
theorem cut_le (l : List Int) (i : Nat) (h : i ≤ l.length) : i + cut254 l i ≤ l.length := by
  have := fz_le (l.drop i)
  rw [List.length_drop] at this
  unfold cut254; omega
set_option maxRecDepth 100000 in

theorem xor32 : ∀ b : Fin 256, 0 ≤ Go.bits .xor .i64 (b.val : Int) 32 ∧ Go.bits .xor .i64 (b.val : Int) 32 ≤ 255 ∧ Go.bits .xor .i64 (Go.bits .xor .i64 (b.val : Int) 32) 32 = (b.val : Int) := by decide +kernel
theorem xor32_ok (v : Int) (h : 0 ≤ v ∧ v ≤ 255) : 0 ≤ Go.bits .xor .i64 v 32 ∧ Go.bits .xor .i64 v 32 ≤ 255 ∧ Go.bits .xor .i64 (Go.bits .xor .i64 v 32) 32 = v := by
  have := xor32 ⟨v.toNat, by omega⟩
  have e : ((v.toNat : Nat) : Int) = v := by omega
  simp only [e] at this
  exact this
theorem escL_append (S : List Int) : ∀ a b : List Int, escL S (a ++ b) = escL S a ++ escL S b
  | [], b => rfl
  | n :: r, b => by
    rw [List.cons_append]
    simp only [escL]
    rw [escL_append S r b]
    split <;> rfl

theorem among_ev (l : List Int) (hu : U8L l) (hl : l.length ≤ 1000000) (L : List Int) (h1 : 1 ≤ L.length) (a s : Int) (h0 : 0 ≤ a) (h2 : a ≤ 100000000000) :
    ∃ v a' s', spec_l00Src_among.f l a s L = some (v, a', s') ∧ v ∈ L ∧ a ≤ a' ∧ a' ≤ a + 2 := by
  obtain ⟨v, a1, s1, e1, hv0, hv1, ha1, ha2⟩ := pick_ev l hu hl (L.length : Int) a s h0 h2
  have hv1 := hv1 (by omega)
  exact ⟨rd L v, a1, s1, by simp only [spec_l00Src_among.f, e1, Option.bind_some, if_pos hv0, if_pos hv1], rd_mem L v hv0 hv1, ha1, ha2⟩
def SPool : List Int := [125, 0, 17, 19, 126, 255, 10]
theorem pool_xor : ∀ n ∈ SPool, ¬ Go.bits .xor .i64 n 32 ∈ SPool := by decide +kernel
theorem pool_range : ∀ n ∈ SPool, 0 ≤ n ∧ n ≤ 255 := by decide
def SpR (S : List Int) : Prop := S.Pairwise (· < ·) ∧ (∀ v ∈ S, v ∈ SPool) ∧ 125 ∈ S
theorem mem_put : ∀ (x : List Int) (n v : Int), v ∈ x → v ∈ putL x n
  | [], n, v, h => by cases h
  | w :: r, n, v, h => by
    simp only [putL]
    split
    · split
      · exact List.mem_cons_of_mem _ h
      · exact h
    · rcases List.mem_cons.1 h with e | e
      · rw [e]; exact List.mem_cons_self
      · exact List.mem_cons_of_mem _ (mem_put r n v e)
theorem r8Special_loop (l : List Int) (hu : U8L l) (hl : l.length ≤ 1000000) (d : Nat) : ∀ (S : List Int) (a s : Int), SpR S → S.length + d ≤ 8 → 0 ≤ a → a + 4 * d ≤ 10000 →
    ∃ S', SpR S' ∧ S'.length ≤ 8 ∧ Ev (fun k => spec_R8Special.l0 k S d l a s) S' := by
  induction d with
  | zero =>
    intro S a s hS h1 h0 h2
    refine ⟨S, hS, by omega, Ev_succ ?_⟩
    simp only [spec_R8Special.l0, if_neg (show ¬ ((0 : Nat) : Int) > 0 by omega)]; exact Ev.now _
  | succ d ih =>
    intro S a s hS h1 h0 h2
    obtain ⟨v, a1, s1, e1, hv, ha1, ha2⟩ := among_ev l hu hl [0, 17, 19, 126, 255, 10] (by decide) a s h0 (by omega)
    have hp := put_ev S v (by omega)
    have hpl := putL_length S v
    obtain ⟨S', hA, hB, hE⟩ := ih (putL S v) a1 s1 ⟨putL_sorted S _ hS.1, fun w hw => by
      rcases putL_mem S _ w hw with e | e
      · exact hS.2.1 w e
      · rw [e]; exact List.mem_cons_of_mem _ hv, mem_put S v 125 hS.2.2⟩ (by omega) (by omega) (by omega)
    have d1 : ((d + 1 : Nat) : Int) > 0 := by omega
    have b2 : -9223372036854775808 ≤ (d : Int) ∧ (d : Int) ≤ 9223372036854775807 := by omega
    have b3 : ((d + 1 : Nat) : Int) - 1 = d := by omega
    refine ⟨S', hA, hB, Ev_succ ?_⟩
    simp only [spec_R8Special.l0, if_pos d1, e1, Option.bind_some]
    refine Ev.bind hp ?_
    simp only [b3, w64 b2.1 b2.2]
    exact hE
theorem r8Special_ev (l : List Int) (hu : U8L l) (hl : l.length ≤ 1000000) : ∃ S, SpOk S ∧ Ev (fun k => spec_R8Special.f k l) S := by
  obtain ⟨v, a1, s1, e1, hv0, hv1, ha1, ha2⟩ := pick_ev l hu hl 4 0 0 (by omega) (by omega)
  have hv1 := hv1 (by omega)
  obtain ⟨d, rfl⟩ : ∃ d : Nat, v = d := ⟨v.toNat, by omega⟩
  obtain ⟨S, hS, h8, hE⟩ := r8Special_loop l hu hl d [125] a1 s1 ⟨List.pairwise_singleton _ _, by intro w hw; rw [List.mem_singleton.1 hw]; decide, List.mem_cons_self⟩ (by simp; omega) (by omega) (by omega)
  have h1 : 1 ≤ S.length := List.length_pos_of_mem hS.2.2
  refine ⟨S, ⟨by omega, rises_of S hS.1 0 255 (fun w hw => pool_range w (hS.2.1 w hw)), hS.2.2, fun n hn g => pool_xor n (hS.2.1 n hn) (hS.2.1 _ g)⟩, ?_⟩
  simp only [spec_R8Special.f, spec_l00From.f, Option.bind_some, e1]
  exact hE
theorem ByteL_snoc {x : List Int} (h : ByteL x) (v : Int) (hv : 0 ≤ v ∧ v ≤ 255) : ByteL (x ++ [v]) := fun w hw => by
  rcases List.mem_append.1 hw with g | g
  · exact h w g
  · rw [List.mem_singleton.1 g]; exact hv
theorem r8Bytes_loop (l : List Int) (hu : U8L l) (hl : l.length ≤ 1000000) (z : Bool) (d : Nat) : ∀ (x : List Int) (a s : Int), ByteL x → x.length + d ≤ 300 → 0 ≤ a → a + 10 * d ≤ 1000000 →
    ∃ y, ByteL y ∧ y.length ≤ 300 ∧ Ev (fun k => spec_R8Bytes.l0 k x d z l a s) y := by
  induction d with
  | zero =>
    intro x a s hx h1 h0 h2
    refine ⟨x, hx, by omega, Ev_succ ?_⟩
    simp only [spec_R8Bytes.l0, if_neg (show ¬ ((0 : Nat) : Int) > 0 by omega)]; exact Ev.now _
  | succ d ih =>
    intro x a s hx h1 h0 h2
    obtain ⟨v, a1, s1, e1, hv0, hv1, ha1, ha2⟩ := pick_ev l hu hl 255 a s h0 (by omega)
    have hv1 := hv1 (by omega)
    obtain ⟨c, a2, s2, e2, hb1, hb2⟩ := one_ev l hu hl 4 a1 s1 (by omega) (by omega)
    obtain ⟨u, a3, s3, e3, hu3, hc1, hc2⟩ := among_ev l hu hl [0, 125, 126, 93, 94] (by decide) a2 s2 (by omega) (by omega)
    have hur : 0 ≤ u ∧ u ≤ 255 := (show ∀ n ∈ ([0, 125, 126, 93, 94] : List Int), 0 ≤ n ∧ n ≤ 255 by decide) u hu3
    have d1 : ((d + 1 : Nat) : Int) > 0 := by omega
    have lt : x.length < 17592186044416 := by omega
    have b1 : -9223372036854775808 ≤ 1 + v ∧ 1 + v ≤ 9223372036854775807 := by omega
    have b2 : -9223372036854775808 ≤ (d : Int) ∧ (d : Int) ≤ 9223372036854775807 := by omega
    have b3 : ((d + 1 : Nat) : Int) - 1 = d := by omega
    have nl : ∀ v : Int, (x ++ [v]).length = x.length + 1 := fun v => by rw [List.length_append]; rfl
    cases z with
    | true =>
      cases c with
      | true =>
        obtain ⟨y, hy, hyl, hE⟩ := ih (x ++ [u]) a3 s3 (ByteL_snoc hx u hur) (by rw [nl]; omega) (by omega) (by omega)
        refine ⟨y, hy, hyl, Ev_succ ?_⟩
        simp only [spec_R8Bytes.l0, if_pos d1, e1, Option.bind_some, if_true, e2, e3, if_pos lt, b3, w64 b2.1 b2.2]
        exact hE
      | false =>
        obtain ⟨y, hy, hyl, hE⟩ := ih (x ++ [1 + v]) a2 s2 (ByteL_snoc hx _ (by omega)) (by rw [nl]; omega) (by omega) (by omega)
        refine ⟨y, hy, hyl, Ev_succ ?_⟩
        simp only [spec_R8Bytes.l0, if_pos d1, e1, Option.bind_some, if_true, e2, Bool.false_eq_true, if_false, w64 b1.1 b1.2, if_pos lt, b3, w64 b2.1 b2.2]
        exact hE
    | false =>
      obtain ⟨y, hy, hyl, hE⟩ := ih (x ++ [1 + v]) a1 s1 (ByteL_snoc hx _ (by omega)) (by rw [nl]; omega) (by omega) (by omega)
      refine ⟨y, hy, hyl, Ev_succ ?_⟩
      simp only [spec_R8Bytes.l0, if_pos d1, e1, Option.bind_some, Bool.false_eq_true, if_false, w64 b1.1 b1.2, if_pos lt, b3, w64 b2.1 b2.2]
      exact hE
theorem r8Bytes_ev (l : List Int) (hu : U8L l) (hl : l.length ≤ 1000000) : ∃ y, ByteL y ∧ y.length ≤ 300 ∧ Ev (fun k => spec_R8Bytes.f k l) y := by
  obtain ⟨v, a1, s1, e1, hv0, hv1, ha1, ha2⟩ := pick_ev l hu hl 14 0 0 (by omega) (by omega)
  have hv1 := hv1 (by omega)
  obtain ⟨c, a2, s2, e2, hb1, hb2⟩ := one_ev l hu hl 6 a1 s1 (by omega) (by omega)
  obtain ⟨u, a3, s3, e3, hu3, hc1, hc2⟩ := among_ev l hu hl [253, 254, 255, 300] (by decide) a2 s2 (by omega) (by omega)
  have hur : 0 ≤ u ∧ u ≤ 300 := (show ∀ n ∈ ([253, 254, 255, 300] : List Int), 0 ≤ n ∧ n ≤ 300 by decide) u hu3
  have step : ∀ (n a s : Int), 0 ≤ n → n ≤ 300 → 0 ≤ a → a ≤ 100 → ∃ y, ByteL y ∧ y.length ≤ 300 ∧ Ev (fun k => spec_R8Bytes.j0 k [] n l a s) y := by
    intro n a s n0 n1 a0 a1
    obtain ⟨c4, a4, s4, e4, hd1, hd2⟩ := one_ev l hu hl 2 a s (by omega) (by omega)
    obtain ⟨m, rfl⟩ : ∃ m : Nat, n = m := ⟨n.toNat, by omega⟩
    obtain ⟨y, hy, hyl, hE⟩ := r8Bytes_loop l hu hl c4 m [] a4 s4 (by intro w hw; cases hw) (by simp; omega) (by omega) (by omega)
    refine ⟨y, hy, hyl, Ev_succ ?_⟩
    simp only [spec_R8Bytes.j0, e4, Option.bind_some]
    exact hE
  cases c with
  | true =>
    obtain ⟨y, hy, hyl, hE⟩ := step u a3 s3 hur.1 hur.2 (by omega) (by omega)
    refine ⟨y, hy, hyl, ?_⟩
    simp only [spec_R8Bytes.f, spec_l00From.f, Option.bind_some, e1, e2, if_true, e3]
    exact hE
  | false =>
    obtain ⟨y, hy, hyl, hE⟩ := step v a2 s2 hv0 (by omega) (by omega) (by omega)
    refine ⟨y, hy, hyl, ?_⟩
    simp only [spec_R8Bytes.f, spec_l00From.f, Option.bind_some, e1, e2, Bool.false_eq_true, if_false]
    exact hE
theorem equal_self (a : List Int) (hl : (a.length : Int) ≤ 4611686018427387904) : Ev (fun k => slices_Equal_int64_int64.f k a a) true := by
  have loop : ∀ (d : Nat) (i : Int), 0 ≤ i → i ≤ a.length → (a.length : Int) - i = d → Ev (fun k => slices_Equal_int64_int64.l0 k a a a.length i) true := by
    intro d
    induction d with
    | zero =>
      intro i h0 h1 hd
      refine Ev_succ ?_
      simp only [slices_Equal_int64_int64.l0, if_neg (show ¬ i < (a.length : Int) by omega)]; exact Ev.now _
    | succ d ih =>
      intro i h0 h1 hd
      have e := show i < (a.length : Int) by omega
      refine Ev_succ ?_
      simp (disch := omega) only [slices_Equal_int64_int64.l0, w64]
      simp only [if_pos e, if_pos h0, if_true]
      exact ih (i + 1) (by omega) (by omega) (by omega)
  simp only [slices_Equal_int64_int64.f, if_true]
  exact loop a.length 0 (by omega) (by omega) (by omega)
theorem nums_self (a : List Int) (hl : (a.length : Int) ≤ 4611686018427387904) : Ev (fun k => laws_r8Nums.f k a a) true := by
  have loop : ∀ (d : Nat) (i : Int), 0 ≤ i → i ≤ a.length → (a.length : Int) - i = d → Ev (fun k => laws_r8Nums.l0 k a a i) true := by
    intro d
    induction d with
    | zero =>
      intro i h0 h1 hd
      refine Ev_succ ?_
      simp only [laws_r8Nums.l0, if_neg (show ¬ i < (a.length : Int) by omega)]; exact Ev.now _
    | succ d ih =>
      intro i h0 h1 hd
      have e := show i < (a.length : Int) by omega
      refine Ev_succ ?_
      simp (disch := omega) only [laws_r8Nums.l0, w64]
      simp only [if_pos e, if_pos h0, if_true]
      exact ih (i + 1) (by omega) (by omega) (by omega)
  simp only [laws_r8Nums.f, if_true]
  exact loop a.length 0 (by omega) (by omega) (by omega)
theorem r8Has_loop (l : List Int) (a : Int) (hl : l.length ≤ 4000000) (d : Nat) : ∀ (i k : Nat), i + d = l.length → d < k → laws_r8Has.l0 k l a i = some (decide (a ∈ l.drop i)) := by
  induction d with
  | zero =>
    intro i k hd hk
    obtain ⟨k, rfl⟩ : ∃ m, k = m + 1 := ⟨k - 1, by omega⟩
    rw [List.drop_of_length_le (by omega)]
    simp only [laws_r8Has.l0, if_neg (show ¬ (i : Int) < (l.length : Int) by omega)]; rfl
  | succ d ih =>
    intro i k hd hk
    obtain ⟨k, rfl⟩ : ∃ m, k = m + 1 := ⟨k - 1, by omega⟩
    have e := ih (i + 1) k (by omega) (by omega)
    have q : (i : Int) < (l.length : Int) := by omega
    have q0 : (0 : Int) ≤ i := by omega
    have b2 : -9223372036854775808 ≤ ((i + 1 : Nat) : Int) ∧ ((i + 1 : Nat) : Int) ≤ 9223372036854775807 := by omega
    have b3 : (i : Int) + 1 = ((i + 1 : Nat) : Int) := by omega
    simp only [laws_r8Has.l0, if_pos q, if_pos q0, b3, w64 b2.1 b2.2, e]
    rw [drop_rdS l i (by omega)]
    by_cases c : rd l i = a
    · rw [if_pos c]; simp [c]
    · rw [if_neg c]; simp [show ¬ a = rd l i from fun g => c g.symm]
theorem r8Has_ev (l : List Int) (a : Int) (hl : l.length ≤ 4000000) : Ev (fun k => laws_r8Has.f k l a) (decide (a ∈ l)) :=
  ofFuel l.length (fun k hk => by
    have := r8Has_loop l a hl l.length 0 k (by omega) hk
    rw [List.drop_zero] at this
    exact this)
theorem areBytes_ok (l : List Int) (h : ByteL l) (hl : l.length ≤ 300) : Ev (fun k => impl_areBytes.f k l) true := by
  obtain ⟨b, hb, hi⟩ := areBytes_ev l (by omega)
  rw [hi.2 ⟨by omega, fun j j0 j1 => h.rd j j0 j1⟩] at hb
  exact hb
theorem areLong_ok (l : List Int) (h : ByteL l) (hl : l.length ≤ 600) : Ev (fun k => impl_areLongBytes.f k l) true := by
  obtain ⟨b, hb, hi⟩ := areLong_ev l (by omega)
  rw [hi.2 ⟨by omega, fun j j0 j1 => h.rd j j0 j1⟩] at hb
  exact hb
theorem escL_bytes (S : List Int) : ∀ l : List Int, ByteL l → ByteL (escL S l)
  | [], h => by intro v hv; cases hv
  | n :: r, h => by
    have ih := escL_bytes S r (fun v hv => h v (List.mem_cons_of_mem _ hv))
    have hn := h n List.mem_cons_self
    have hx := xor32_ok n hn
    simp only [escL]
    split
    · intro v hv
      rcases List.mem_cons.1 hv with e | e
      · rw [e]; decide
      · rcases List.mem_cons.1 e with e | e
        · rw [e]; exact ⟨hx.1, hx.2.1⟩
        · exact ih v e
    · intro v hv
      rcases List.mem_cons.1 hv with e | e
      · rw [e]; exact hn
      · exact ih v e
theorem escL_free (S : List Int) (h : SpOk S) : ∀ l : List Int, ∀ v ∈ escL S l, v = 125 ∨ ¬ v ∈ S
  | [], v, hv => by cases hv
  | n :: r, v, hv => by
    simp only [escL] at hv
    split at hv
    · rename_i hn
      rcases List.mem_cons.1 hv with e | e
      · exact .inl e
      · rcases List.mem_cons.1 e with e | e
        · rw [e]; exact .inr (h.2.2.2 n hn)
        · exact escL_free S h r v e
    · rename_i hn
      rcases List.mem_cons.1 hv with e | e
      · rw [e]; exact .inr hn
      · exact escL_free S h r v e
theorem rd_append_r (a b : List Int) (i : Nat) : rd (a ++ b) ((a.length + i : Nat) : Int) = rd b i := by
  unfold rd
  rw [Int.toNat_natCast, Int.toNat_natCast, List.getD_eq_getElem?_getD, List.getD_eq_getElem?_getD, List.getElem?_append_right (by omega), Nat.add_sub_cancel_left]
theorem unesc_back (S : List Int) (h : SpOk S) (l : List Int) (hl : ByteL l) (hll : l.length ≤ 300) : ∀ (q p : List Int), p ++ q = l → Ev (fun k => impl_UnescapeBytes.l0 k S (escL S l) p ((escL S p).length : Int)) (l, true)
  | [], p, e => by
    rw [List.append_nil] at e
    subst e
    have hel := escL_length S p
    refine Ev_succ ?_
    simp only [impl_UnescapeBytes.l0, if_neg (show ¬ ((escL S p).length : Int) < ((escL S p).length : Int) by omega)]
    refine Ev.bind (areBytes_ok p hl hll) ?_
    simp only [if_true]
    refine Ev.bind (esc_implE S p (by have := h.1; omega) (by omega)) (Ev.bind (equal_self (escL S p) (by omega)) ?_)
    simp only [if_true]; exact Ev.now _
  | n :: q, p, e => by
    have ih := unesc_back S h l hl hll q (p ++ [n]) (by rw [List.append_assoc]; exact e)
    have hE : escL S l = escL S p ++ escL S (n :: q) := by rw [← e, escL_append]
    have hn : 0 ≤ n ∧ n ≤ 255 := hl n (by rw [← e]; exact List.mem_append_right _ List.mem_cons_self)
    have hx := xor32_ok n hn
    have hpl : p.length + 1 ≤ l.length := by rw [← e, List.length_append, List.length_cons]; omega
    have hep := escL_length S p
    have hsn : escL S (p ++ [n]) = escL S p ++ escL S [n] := escL_append S p [n]
    obtain ⟨i, hi⟩ : ∃ i, i = (escL S p).length := ⟨_, rfl⟩
    have r0 : rd (escL S l) (i : Int) = rd (escL S (n :: q)) ((0 : Nat) : Int) := by rw [hE, hi]; exact rd_append_r _ _ 0
    have r1 : rd (escL S l) ((i + 1 : Nat) : Int) = rd (escL S (n :: q)) ((1 : Nat) : Int) := by rw [hE, hi]; exact rd_append_r _ _ 1
    have hlen : (escL S l).length = i + (escL S (n :: q)).length := by rw [hE, List.length_append, hi]
    rw [← hi]
    have lt : p.length < 17592186044416 := by omega
    have q0 : (0 : Int) ≤ i := by omega
    have b2 : -9223372036854775808 ≤ ((i + 1 : Nat) : Int) ∧ ((i + 1 : Nat) : Int) ≤ 9223372036854775807 := by omega
    have b3 : (i : Int) + 1 = ((i + 1 : Nat) : Int) := by omega
    have b4 : -9223372036854775808 ≤ ((i + 2 : Nat) : Int) ∧ ((i + 2 : Nat) : Int) ≤ 9223372036854775807 := by omega
    have b5 : ((i + 1 : Nat) : Int) + 1 = ((i + 2 : Nat) : Int) := by omega
    have p1 : (0 : Int) ≤ ((i + 1 : Nat) : Int) := by omega
    by_cases c : n ∈ S
    · have ec : escL S (n :: q) = 125 :: Go.bits .xor .i64 n 32 :: escL S q := by rw [escL, if_pos c]
      have e0 : rd (escL S l) (i : Int) = 125 := by rw [r0, ec]; rfl
      have e1 : rd (escL S l) ((i + 1 : Nat) : Int) = Go.bits .xor .i64 n 32 := by rw [r1, ec]; rfl
      have hlen2 : (escL S (n :: q)).length = (escL S q).length + 2 := by rw [ec]; rfl
      have k1 : (i : Int) < ((escL S l).length : Int) := by omega
      have k2 : ¬ ((i + 1 : Nat) : Int) = ((escL S l).length : Int) := by omega
      have k3 : ((i + 1 : Nat) : Int) < ((escL S l).length : Int) := by omega
      have hsl : (escL S (p ++ [n])).length = i + 2 := by rw [hsn, List.length_append, hi, escL, if_pos c]; rfl
      rw [hsl] at ih
      refine Ev_succ ?_
      simp only [impl_UnescapeBytes.l0, if_pos k1, if_pos q0, e0, if_true, b3, w64 b2.1 b2.2, if_neg k2, if_pos p1, if_pos k3, if_pos lt, e1, hx.2.2, b5, w64 b4.1 b4.2]
      exact ih
    · have ec : escL S (n :: q) = n :: escL S q := by rw [escL, if_neg c]
      have e0 : rd (escL S l) (i : Int) = n := by rw [r0, ec]; rfl
      have hlen2 : (escL S (n :: q)).length = (escL S q).length + 1 := by rw [ec]; rfl
      have k1 : (i : Int) < ((escL S l).length : Int) := by omega
      have k2 : ¬ n = 125 := fun z => c (by rw [z]; exact h.2.2.1)
      have hsl : (escL S (p ++ [n])).length = i + 1 := by rw [hsn, List.length_append, hi, escL, if_neg c]; rfl
      rw [hsl] at ih
      refine Ev_succ ?_
      simp only [impl_UnescapeBytes.l0, if_pos k1, if_pos q0, e0, if_neg k2, if_pos lt, b3, w64 b2.1 b2.2]
      exact ih
/-! the blocks -/
def cobsR : Nat → List Int → List Int
  | 0, _ => []
  | f + 1, l => (((cut254 l 0 : Nat) : Int) + 1) :: (l.take (cut254 l 0) ++ (if cut254 l 0 = l.length then [] else if cut254 l 0 = 254 then cobsR f (l.drop 254) else cobsR f (l.drop (cut254 l 0 + 1))))
theorem cut_range (l : List Int) : cut254 l 0 ≤ 254 ∧ cut254 l 0 ≤ l.length := by
  have := cut_le l 0 (Nat.zero_le _)
  refine ⟨?_, by omega⟩
  unfold cut254; omega
theorem cut_zero (l : List Int) (h1 : cut254 l 0 ≠ l.length) (h2 : cut254 l 0 ≠ 254) : rd l (cut254 l 0 : Nat) = 0 := by
  have hr := cut_range l
  have hf := fz_le l
  have e : cut254 l 0 = fz l := by unfold cut254 at h2 ⊢; rw [List.drop_zero] at h2 ⊢; omega
  rw [e]; exact fz_z l (by omega)
theorem cut_nz (l : List Int) : ∀ v ∈ l.take (cut254 l 0), v ≠ 0 := by
  intro v hv
  obtain ⟨n, hn, rfl⟩ := List.getElem_of_mem hv
  rw [List.length_take] at hn
  rw [List.getElem_take]
  have hf : n < fz l := by
    have : cut254 l 0 ≤ fz l := by unfold cut254; rw [List.drop_zero]; omega
    omega
  have := fz_nz l n hf
  rwa [rd_natS l n (by omega)] at this
theorem cobsR_len : ∀ (f : Nat) (l : List Int), l.length < f → l.length + 1 ≤ (cobsR f l).length ∧ (cobsR f l).length ≤ l.length + 1 + l.length / 254
  | 0, l, h => by omega
  | f + 1, l, h => by
    have hr := cut_range l
    rw [cobsR, List.length_cons, List.length_append, List.length_take, Nat.min_eq_left hr.2]
    by_cases c1 : cut254 l 0 = l.length
    · rw [if_pos c1]; simp; omega
    · rw [if_neg c1]
      by_cases c2 : cut254 l 0 = 254
      · rw [if_pos c2]
        have := cobsR_len f (l.drop 254) (by rw [List.length_drop]; omega)
        rw [List.length_drop] at this
        omega
      · rw [if_neg c2]
        have := cobsR_len f (l.drop (cut254 l 0 + 1)) (by rw [List.length_drop]; omega)
        rw [List.length_drop] at this
        omega
theorem cobsR_mem : ∀ (f : Nat) (l : List Int), ByteL l → ∀ v ∈ cobsR f l, 1 ≤ v ∧ v ≤ 255
  | 0, l, h, v, hv => by cases hv
  | f + 1, l, h, v, hv => by
    have hr := cut_range l
    rw [cobsR] at hv
    rcases List.mem_cons.1 hv with e | e
    · rw [e]; omega
    · rcases List.mem_append.1 e with e | e
      · have h1 := cut_nz l v e
        have h2 := h v (List.mem_of_mem_take e)
        omega
      · split at e
        · cases e
        · split at e
          · exact cobsR_mem f _ (fun w hw => h w (List.mem_of_mem_drop hw)) v e
          · exact cobsR_mem f _ (fun w hw => h w (List.mem_of_mem_drop hw)) v e
set_option maxRecDepth 100000 in
theorem impl_cobs_step (l o : List Int) (hl : l.length ≤ 1000000) (ho : o.length ≤ 4000000) (r : List Int)
    (h : Ev (fun k => if (cut254 l 0 : Int) < 254 then impl_cobs.l0 k (o ++ [(cut254 l 0 : Int) + 1] ++ l.take (cut254 l 0)) ((l ++ [0]).drop (cut254 l 0 + 1)) else (if ((l.drop (cut254 l 0) ++ [0]).length : Int) = 1 then some (o ++ [(cut254 l 0 : Int) + 1] ++ l.take (cut254 l 0)) else impl_cobs.l0 k (o ++ [(cut254 l 0 : Int) + 1] ++ l.take (cut254 l 0)) (l.drop (cut254 l 0) ++ [0]))) r) :
    Ev (fun k => impl_cobs.l0 k o (l ++ [0])) r := by
  have hr := cut_range l
  have hidx := index_ev l (by omega)
  obtain ⟨c, hc⟩ : ∃ c, c = cut254 l 0 := ⟨_, rfl⟩
  rw [← hc] at h hr
  have hmn : mn (fz l : Int) 254 = c := by rw [hc, cut254, List.drop_zero]; unfold mn; split <;> omega
  have hc0 : (0 : Int) ≤ c := by omega
  have hc1 : (0 : Int) ≤ (c : Int) + 1 := by omega
  have hll : ((l ++ [0]).length : Int) = l.length + 1 := by rw [List.length_append]; rfl
  have hpos : ((l ++ [0]).length : Int) > 0 := by omega
  have hcl : (c : Int) ≤ ((l ++ [0]).length : Int) := by omega
  have hcl1 : (c : Int) + 1 ≤ ((l ++ [0]).length : Int) := by omega
  have hc2 : ((c : Int) + 1).toNat = c + 1 := by omega
  have hout : o.length < 17592186044416 := by omega
  have htake : (l ++ [0]).take c = l.take c := List.take_append_of_le_length hr.2
  have hcat : (o ++ [(c : Int) + 1]).length + (l.take c).length < 17592186044416 := by
    rw [List.length_append, List.length_take]; show o.length + 1 + _ < _; omega
  have hrest : (l ++ [0]).drop c = l.drop c ++ [0] := List.drop_append_of_le_length hr.2
  have b1 : -9223372036854775808 ≤ (c : Int) + 1 ∧ (c : Int) + 1 ≤ 9223372036854775807 := by omega
  refine Ev_succ ?_
  simp only [impl_cobs.l0, if_pos hpos]
  refine Ev.bind hidx ?_
  simp only [hmn, w64 b1.1 b1.2, if_pos hout, Option.bind_some, if_pos hc0, if_pos hcl, Int.toNat_natCast, htake, if_pos hcat, if_pos hc1, if_pos hcl1, hc2, hrest]
  exact h
theorem impl_cobsR : ∀ (f : Nat) (l o : List Int), l.length < f → l.length ≤ 1000 → o.length + 3 * l.length ≤ 100000 → Ev (fun k => impl_cobs.l0 k o (l ++ [0])) (o ++ cobsR f l)
  | 0, l, o, h, h1, h2 => by omega
  | f + 1, l, o, h, h1, h2 => by
    have hr := cut_range l
    have hy : (o ++ [(cut254 l 0 : Int) + 1] ++ l.take (cut254 l 0)).length = o.length + 1 + cut254 l 0 := by
      rw [List.length_append, List.length_append, List.length_take, Nat.min_eq_left hr.2]; rfl
    refine impl_cobs_step l o (by omega) (by omega) _ ?_
    by_cases c1 : cut254 l 0 = l.length
    · have eR : o ++ cobsR (f + 1) l = o ++ [(cut254 l 0 : Int) + 1] ++ l.take (cut254 l 0) := by
        rw [cobsR, if_pos c1, List.append_nil, List.append_assoc]; rfl
      rw [eR]
      by_cases c2 : (cut254 l 0 : Int) < 254
      · have e2 : (l ++ [0]).drop (cut254 l 0 + 1) = [] := List.drop_of_length_le (by rw [List.length_append]; show l.length + 1 ≤ _; omega)
        simp only [if_pos c2, e2]
        refine Ev_succ ?_
        simp only [impl_cobs.l0, List.length_nil, if_neg (show ¬ ((0 : Nat) : Int) > 0 by omega)]; exact Ev.now _
      · have e2 : ((l.drop (cut254 l 0) ++ [0]).length : Int) = 1 := by rw [List.length_append, List.length_drop]; show ((l.length - cut254 l 0 + 1 : Nat) : Int) = 1; omega
        simp only [if_neg c2, if_pos e2]; exact Ev.now _
    · by_cases c2 : cut254 l 0 = 254
      · have hn : ¬ (cut254 l 0 : Int) < 254 := by omega
        have e2 : ¬ ((l.drop (cut254 l 0) ++ [0]).length : Int) = 1 := by rw [List.length_append, List.length_drop]; show ¬ ((l.length - cut254 l 0 + 1 : Nat) : Int) = 1; omega
        have ih := impl_cobsR f (l.drop 254) (o ++ [(cut254 l 0 : Int) + 1] ++ l.take (cut254 l 0)) (by rw [List.length_drop]; omega) (by rw [List.length_drop]; omega) (by rw [hy, List.length_drop]; omega)
        have eR : o ++ cobsR (f + 1) l = o ++ [(cut254 l 0 : Int) + 1] ++ l.take (cut254 l 0) ++ cobsR f (l.drop 254) := by
          rw [cobsR, if_neg c1, if_pos c2, List.append_assoc, List.append_assoc]; rfl
        rw [eR]
        simp only [if_neg hn, if_neg e2]
        have e3 : l.drop (cut254 l 0) = l.drop 254 := by rw [c2]
        rw [e3]
        exact ih
      · have hn : (cut254 l 0 : Int) < 254 := by omega
        have ih := impl_cobsR f (l.drop (cut254 l 0 + 1)) (o ++ [(cut254 l 0 : Int) + 1] ++ l.take (cut254 l 0)) (by rw [List.length_drop]; omega) (by rw [List.length_drop]; omega) (by rw [hy, List.length_drop]; omega)
        have eR : o ++ cobsR (f + 1) l = o ++ [(cut254 l 0 : Int) + 1] ++ l.take (cut254 l 0) ++ cobsR f (l.drop (cut254 l 0 + 1)) := by
          rw [cobsR, if_neg c1, if_neg c2, List.append_assoc, List.append_assoc]; rfl
        have e3 : (l ++ [0]).drop (cut254 l 0 + 1) = l.drop (cut254 l 0 + 1) ++ [0] := List.drop_append_of_le_length (by omega)
        rw [eR]
        simp only [if_pos hn, e3]
        exact ih
theorem cobs_evR (l : List Int) (hl : l.length ≤ 300) (f : Nat) (hf : l.length < f) : Ev (fun k => impl_cobs.f k l) (cobsR f l) := by
  have h := impl_cobsR f l [] hf (by omega) (by simp; omega)
  rw [List.nil_append] at h
  simp only [impl_cobs.f, slices_Clone_int64_int64.f, if_pos (show l.length ≤ 17592186044416 by omega), Option.bind_some, if_pos (show l.length < 17592186044416 by omega)]
  exact h
set_option maxRecDepth 100000 in
theorem uncobs_back (l : List Int) (hlb : ByteL l) (hl : l.length ≤ 300) (x : List Int) (hx : x = cobsR 301 l) : ∀ (f : Nat) (q p : List Int), p ++ q = l → q.length < f → f ≤ 301 → (f = 301 - (301 - f)) →
    Ev (fun k => impl_UncobsBytes.l0 k x p (cobsR f q)) (l, true)
  | 0, q, p, e, h, h3, _ => by omega
  | f + 1, q, p, e, h, h3, _ => by
    have hr := cut_range q
    have hpl : p.length + q.length = l.length := by rw [← e, List.length_append]
    have fin : Ev (fun k => impl_UncobsBytes.l0 k x l []) (l, true) := by
      have hxl := cobsR_len 301 l (by omega)
      refine Ev_succ ?_
      simp only [impl_UncobsBytes.l0, List.length_nil, if_neg (show ¬ ((0 : Nat) : Int) > 0 by omega)]
      refine Ev.bind (areBytes_ok l hlb hl) ?_
      simp only [if_true]
      have hc := cobs_evR l hl 301 (by omega)
      rw [← hx] at hc
      refine Ev.bind hc (Ev.bind (equal_self x (by rw [hx]; omega)) ?_)
      simp only [if_true]; exact Ev.now _
    obtain ⟨c, hc⟩ : ∃ c, c = cut254 q 0 := ⟨_, rfl⟩
    obtain ⟨R, hR⟩ : ∃ R, R = (if cut254 q 0 = q.length then [] else if cut254 q 0 = 254 then cobsR f (q.drop 254) else cobsR f (q.drop (cut254 q 0 + 1))) := ⟨_, rfl⟩
    have ec : cobsR (f + 1) q = ((c : Int) + 1) :: (q.take c ++ R) := by rw [cobsR, ← hR, ← hc]
    have htl : (q.take c).length = c := by rw [List.length_take]; omega
    have hlen : ((((c : Int) + 1) :: (q.take c ++ R)).length : Int) = c + 1 + R.length := by rw [List.length_cons, List.length_append, htl]; omega
    have hd : (((c : Int) + 1) :: (q.take c ++ R)).drop (c + 1) = R := by
      rw [List.drop_succ_cons, List.drop_append_of_le_length (by omega), List.drop_of_length_le (by omega), List.nil_append]
    have ht : ((((c : Int) + 1) :: (q.take c ++ R)).take (c + 1)).drop 1 = q.take c := by
      rw [List.take_succ_cons, List.drop_succ_cons, List.drop_zero, List.take_append_of_le_length (by omega), List.take_of_length_le (by omega)]
    have r0 : rd (((c : Int) + 1) :: (q.take c ++ R)) 0 = (c : Int) + 1 := rfl
    rw [← hc] at hr
    have b1 : -9223372036854775808 ≤ (c : Int) ∧ (c : Int) ≤ 9223372036854775807 := by omega
    have b2 : -9223372036854775808 ≤ (c : Int) + 1 ∧ (c : Int) + 1 ≤ 9223372036854775807 := by omega
    have b3 : (c : Int) + 1 - 1 = c := by omega
    have k0 : ((((c : Int) + 1) :: (q.take c ++ R)).length : Int) > 0 := by omega
    have k1 : ¬ (c : Int) < 0 := by omega
    have k2 : ¬ (c : Int) + 1 > ((((c : Int) + 1) :: (q.take c ++ R)).length : Int) := by omega
    have k3 : (1 : Int) ≤ (c : Int) + 1 := by omega
    have k4 : (c : Int) + 1 ≤ ((((c : Int) + 1) :: (q.take c ++ R)).length : Int) := by omega
    have k5 : (0 : Int) ≤ (c : Int) + 1 := by omega
    have k6 : ((c : Int) + 1).toNat = c + 1 := by omega
    have k7 : p.length + (q.take c).length < 17592186044416 := by rw [htl]; omega
    have k8 : (p ++ q.take c).length < 17592186044416 := by rw [List.length_append]; exact k7
    have step : ∀ r, Ev (fun k => if (c : Int) < 254 then (if (R.length : Int) > 0 then impl_UncobsBytes.l0 k x (p ++ q.take c ++ [0]) R else impl_UncobsBytes.l0 k x (p ++ q.take c) R) else impl_UncobsBytes.l0 k x (p ++ q.take c) R) r → Ev (fun k => impl_UncobsBytes.l0 k x p (cobsR (f + 1) q)) r := by
      intro r hE
      rw [ec]
      refine Ev_succ ?_
      simp only [impl_UncobsBytes.l0, if_pos k0, show (0 : Int) < ((((c : Int) + 1) :: (q.take c ++ R)).length : Int) from k0, if_true, r0, b3, w64 b1.1 b1.2, if_neg k1, w64 b2.1 b2.2, decide_eq_false k2]
      refine Ev_succ ?_
      simp only [impl_UncobsBytes.j1, Bool.false_eq_true, if_false, w64 b2.1 b2.2, if_pos k3, if_pos k4, Option.bind_some, k6, ht, if_pos k7, if_pos k5, hd, if_pos k8]
      exact hE
    refine step _ ?_
    by_cases c1 : c = q.length
    · have eR : R = [] := by rw [hR, ← hc, if_pos c1]
      have ep : p ++ q.take c = l := by rw [c1, List.take_length]; exact e
      rw [eR, ep]
      by_cases c2 : (c : Int) < 254
      · simp only [if_pos c2, List.length_nil, if_neg (show ¬ ((0 : Nat) : Int) > 0 by omega)]; exact fin
      · simp only [if_neg c2]; exact fin
    · by_cases c2 : c = 254
      · have eR : R = cobsR f (q.drop 254) := by rw [hR, ← hc, if_neg c1, if_pos c2]
        have ih := uncobs_back l hlb hl x hx f (q.drop 254) (p ++ q.take c) (by rw [c2, List.append_assoc, List.take_append_drop]; exact e) (by rw [List.length_drop]; omega) (by omega) (by omega)
        have n2 : ¬ (c : Int) < 254 := by omega
        simp only [if_neg n2]
        rw [eR]
        exact ih
      · have eR : R = cobsR f (q.drop (c + 1)) := by rw [hR, ← hc, if_neg c1, if_neg c2]
        have hz := cut_zero q (by rw [← hc]; exact c1) (by rw [← hc]; exact c2)
        rw [← hc] at hz
        have hq : q.take c ++ [0] ++ q.drop (c + 1) = q := by
          rw [List.append_assoc, ← hz]
          show q.take c ++ (rd q c :: q.drop (c + 1)) = q
          rw [← drop_rdS q c (by omega), List.take_append_drop]
        have ih := uncobs_back l hlb hl x hx f (q.drop (c + 1)) (p ++ q.take c ++ [0]) (by rw [← e]; conv => rhs; rw [← hq]
                                                                                           simp) (by rw [List.length_drop]; omega) (by omega) (by omega)
        have n2 : (c : Int) < 254 := by omega
        have hRl := cobsR_len f (q.drop (c + 1)) (by rw [List.length_drop]; omega)
        have n3 : (R.length : Int) > 0 := by rw [eR]; omega
        simp only [if_pos n2, if_pos n3]
        rw [eR]
        exact ih
theorem esc_loop (S x plain : List Int) (hS : S.length ≤ 1000) (hx : x.length ≤ 4000000) (hf : ∀ v ∈ x, v = 125 ∨ ¬ v ∈ S) (hp : ¬ (0 : Int) ∈ plain) (hpl : plain.length ≤ 4000000) (d : Nat) : ∀ i : Nat, i + d = x.length →
    Ev (fun k => laws_FnEscaped.l0 k S x plain i) true := by
  induction d with
  | zero =>
    intro i hd
    have hh := r8Has_ev plain 0 hpl
    rw [decide_eq_false hp] at hh
    refine Ev_succ ?_
    simp only [laws_FnEscaped.l0, if_neg (show ¬ (i : Int) < (x.length : Int) by omega)]
    exact Ev.bind hh (Ev.now _)
  | succ d ih =>
    intro i hd
    have q : (i : Int) < (x.length : Int) := by omega
    have q0 : (0 : Int) ≤ i := by omega
    have b2 : -9223372036854775808 ≤ ((i + 1 : Nat) : Int) ∧ ((i + 1 : Nat) : Int) ≤ 9223372036854775807 := by omega
    have b3 : (i : Int) + 1 = ((i + 1 : Nat) : Int) := by omega
    have ih := ih (i + 1) (by omega)
    refine Ev_succ ?_
    by_cases c : rd x i = 125
    · simp only [laws_FnEscaped.l0, if_pos q, if_pos q0, if_pos c, b3, w64 b2.1 b2.2]; exact ih
    · have hn : ¬ rd x i ∈ S := by
        rcases hf _ (rd_mem x i q0 q) with e | e
        · exact absurd e c
        · exact e
      have hh := r8Has_ev S (rd x i) (by omega)
      rw [decide_eq_false hn] at hh
      simp only [laws_FnEscaped.l0, if_pos q, if_pos q0, if_neg c]
      refine Ev.bind hh ?_
      simp only [Bool.false_eq_true, if_false, b3, w64 b2.1 b2.2]; exact ih
theorem FnEscaped : laws_FnEscaped.Pure := by
  intro l0 l1 h1 h2 h3 h4 h5 h6
  apply Ev.rounds
  simp only [laws_FnEscaped.f]
  by_cases g : (l0.length : Int) > 48 ∨ (l1.length : Int) > 48
  · simp only [r8Long_big l0 l1 g, Option.bind_some, if_true]; exact Ev.now _
  obtain ⟨S, hS, hSE⟩ := r8Special_ev l0 h3 (by omega)
  obtain ⟨y, hy, hyl, hYE⟩ := r8Bytes_ev l1 h6 (by omega)
  have hS8 := hS.1
  have hel := escL_length S y
  have hcl := cobsR_len 301 y (by omega)
  have hcm := cobsR_mem 301 y hy
  have hcb : ByteL (cobsR 301 y) := fun v hv => by have := hcm v hv; omega
  obtain ⟨b, hsp, hsb⟩ := areSpecial_eq S
  have hbt : b = true := hsb.2 hS
  subst hbt
  have E1 : Ev (fun k => impl_EscapeBytes.f k S y) (escL S y, true) := by
    simp only [impl_EscapeBytes.f, hsp, Option.bind_some, if_true]
    refine Ev.bind (areBytes_ok y hy hyl) ?_
    simp only [if_true]
    exact Ev.bind (esc_implE S y (by omega) (by omega)) (Ev.now _)
  have E2 : Ev (fun k => impl_UnescapeBytes.f k S (escL S y)) (y, true) := by
    simp only [impl_UnescapeBytes.f, hsp, Option.bind_some, if_true]
    refine Ev.bind (areLong_ok _ (escL_bytes S y hy) (by omega)) ?_
    simp only [Bool.not_true]
    refine Ev_succ ?_
    simp only [impl_UnescapeBytes.j0, Bool.false_eq_true, if_false]
    exact unesc_back S hS y hy hyl y [] rfl
  have E3 : Ev (fun k => impl_CobsBytes.f k y) (cobsR 301 y, true) := by
    simp only [impl_CobsBytes.f]
    refine Ev.bind (areBytes_ok y hy hyl) ?_
    simp only [if_true]
    exact Ev.bind (cobs_evR y hyl 301 (by omega)) (Ev.now _)
  have E4 : Ev (fun k => impl_UncobsBytes.f k (cobsR 301 y)) (y, true) := by
    simp only [impl_UncobsBytes.f]
    refine Ev.bind (areLong_ok _ hcb (by omega)) ?_
    simp only [if_true]
    exact uncobs_back y hy hyl _ rfl 301 y [] rfl (by omega) (by omega) (by omega)
  have b1 : -9223372036854775808 ≤ (y.length : Int) + 1 ∧ (y.length : Int) + 1 ≤ 9223372036854775807 := by omega
  have b2 : -9223372036854775808 ≤ (y.length : Int) / 254 ∧ (y.length : Int) / 254 ≤ 9223372036854775807 := by omega
  have b3 : -9223372036854775808 ≤ (y.length : Int) + 1 + (y.length : Int) / 254 ∧ (y.length : Int) + 1 + (y.length : Int) / 254 ≤ 9223372036854775807 := by omega
  have c1 : ¬ ((cobsR 301 y).length : Int) < (y.length : Int) + 1 := by omega
  have c2 : ¬ ((cobsR 301 y).length : Int) > (y.length : Int) + 1 + (y.length : Int) / 254 := by omega
  simp only [r8Long_small l0 l1 g, Option.bind_some, Bool.false_eq_true, if_false]
  refine Ev.bind hSE (Ev.bind hYE (Ev.bind E1 (Ev.bind E2 (Ev.bind E3 (Ev.bind E4 ?_)))))
  simp only [if_true]
  refine Ev.bind (nums_self y (by omega)) ?_
  simp only [if_true]
  refine Ev.bind (nums_self y (by omega)) ?_
  simp only [if_true, w64 b1.1 b1.2, if_neg c1, w64 b2.1 b2.2, w64 b3.1 b3.2, decide_eq_false c2]
  refine Ev_succ ?_
  simp only [laws_FnEscaped.j0, Bool.false_eq_true, if_false]
  exact esc_loop S _ _ (by omega) (by omega) (escL_free S hS y) (fun z => by have := hcm 0 z; omega) (by omega) (escL S y).length 0 (by omega)

end Go.Proofs.Ytbifbbfkcbgnlaa.Pure
