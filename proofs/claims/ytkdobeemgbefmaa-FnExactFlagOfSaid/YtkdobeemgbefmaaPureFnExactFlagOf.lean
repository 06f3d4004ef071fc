/- The law FnExactFlagOf of the given program holds: for every input that the row lets in the call returns true and leaves its arguments as they were. No condition ahead of it. -/
import Derived.Test.YtkdobeemgbefmaaPFnExactFlagOfx1
import Derived.Test.YtkdobeemgbefmaaMine
namespace Go.Proofs.Ytkdobeemgbefmaa.Pure
open Go.RowKit Go.Proofs.Ytkdobeemgbefmaa.PFnExactFlagOf Go.Proofs.YtkdobeemgbefmaaW.PrintWords Go.Proofs.YtkdobeemgbefmaaW.PrintLast Go.Proofs.YtkdobeemgbefmaaW.PrintMore Go.Proofs.Ytkdobeemgbefmaa.Mine
set_option linter.unusedVariables false
set_option linter.unusedSimpArgs false
theorem l00In_eq (a b c : Int) : spec_l00In.f a b c = some (decide (b ≤ a ∧ a ≤ c)) := by
  unfold spec_l00In.f; by_cases h : a ≥ b
  · rw [if_pos h]; simp; intro _; exact h
  · rw [if_neg h]; simp; intro h'; omega
theorem within_eq (a b c : Int) : impl_within.f a b c = some (decide (b ≤ a ∧ a ≤ c)) := by
  unfold impl_within.f; by_cases h : a ≥ b
  · rw [if_pos h]; simp; intro _; exact h
  · rw [if_neg h]; simp; intro h'; omega

def StOk (a b : Int) : Prop := (1 ≤ a ∧ a ≤ 10) ∧ (0 ≤ b ∧ b ≤ 1)
theorem l04Is_eq (a b : Int) : ∃ c, spec_l04Is.f a b = some c ∧ impl_ValidStuffer.f a b = some c ∧ (c = true ↔ StOk a b) := by
  simp only [spec_l04Is.f, impl_ValidStuffer.f, l00In_eq, within_eq, Option.bind_some, StOk]
  by_cases h0 : 1 ≤ a ∧ a ≤ 10
  · by_cases h1 : 0 ≤ b ∧ b ≤ 1
    · exact ⟨true, by simp [h0, h1], by simp [h0, h1], by simp [h0, h1]⟩
    · exact ⟨false, by simp [h0, h1], by simp [h0, h1], by simp [h0, h1]⟩
  · exact ⟨false, by simp [h0], by simp [h0], by simp [h0]⟩
theorem toStuffer_eq (a b : Int) : laws_toStuffer.f a b = some (a, b) := by simp [laws_toStuffer.f]

def AllBit (s : ByteArray) : Prop := ∀ i : Int, 0 ≤ i → i < s.size → bt s i = 48 ∨ bt s i = 49
def IsBitS (s : ByteArray) : Prop := AllBit s ∧ (s.size : Int) ≤ 400
theorem bt_list (s : ByteArray) (i : Nat) (h : i < s.size) : bt s i = ((s.data.toList[i]'(by simpa using h)).toNat : Int) := by
  unfold bt
  simp only [Int.toNat_natCast, h, dif_pos]
  rfl
theorem dropWhile_nil (p : UInt8 → Bool) : ∀ l : List UInt8, l.dropWhile p = [] ↔ ∀ b ∈ l, p b = true
  | [] => by simp
  | x :: l => by
    rw [List.dropWhile_cons]
    cases h : p x with
    | true => simp [h, dropWhile_nil p l]
    | false => simp [h]
theorem trim_empty (l : List UInt8) : (Lib.trimS l [48, 49]).isEmpty = true ↔ ∀ b ∈ l, b = 48 ∨ b = 49 := by
  have key : ∀ p : UInt8 → Bool, List.dropWhile p (List.dropWhile p l.reverse).reverse = [] ↔ ∀ b ∈ l, p b = true := by
    intro p
    rw [dropWhile_nil]
    constructor
    · intro h
      by_cases e : List.dropWhile p l.reverse = []
      · have := (dropWhile_nil p _).1 e
        exact fun b hb => this b (by simpa using hb)
      · have hh := List.head_dropWhile_not p e
        have h3 := h ((List.dropWhile p l.reverse).head e) (by simp)
        rw [hh] at h3
        cases h3
    · intro h b hb
      have : List.dropWhile p l.reverse = [] := (dropWhile_nil p _).2 (fun b hb => h b (by simpa using hb))
      rw [this] at hb
      simp at hb
  unfold Lib.trimS Lib.trimRightS Lib.trimLeftS
  rw [List.isEmpty_iff, key]
  simp

theorem ba_ext {a b : ByteArray} (h : a.data.toList = b.data.toList) : a = b := by apply ByteArray.ext; exact Array.toList_inj.1 h
theorem sn_append (a b : List Int) : strOfNums (a ++ b) = strOfNums a ++ strOfNums b := by apply ba_ext; simp [strOfNums]
theorem sn_size (a : List Int) : (strOfNums a).size = a.length := by simp [strOfNums, ByteArray.size]
theorem sn_nil : strOfNums [] = (⟨#[]⟩ : ByteArray) := rfl
theorem bt_range (s : ByteArray) (i : Int) (h0 : 0 ≤ i) (h1 : i < s.size) : 0 ≤ bt s i ∧ bt s i < 256 := by
  obtain ⟨n, rfl⟩ : ∃ n : Nat, i = n := ⟨i.toNat, by omega⟩
  rw [bt_list s n (by omega)]
  have := (s.data.toList[n]'(by simp; omega)).toNat_lt
  omega
theorem extract_one (s : ByteArray) (n : Nat) (h : n < s.size) : (s.extract n (n + 1)).data.toList = [s.data.toList[n]'(by simpa using h)] := by
  have h' : n < s.data.size := h
  simp only [ByteArray.data_extract, Array.toList_extract, List.extract_eq_take_drop]
  rw [show n + 1 - n = 1 by omega, List.drop_eq_getElem_cons (show n < s.data.toList.length by simpa using h')]
  simp
theorem sn_one (s : ByteArray) (i : Int) (h0 : 0 ≤ i) (h1 : i < s.size) : strOfNums [bt s i] = s.extract i.toNat (i + 1).toNat := by
  obtain ⟨n, rfl⟩ : ∃ n : Nat, i = n := ⟨i.toNat, by omega⟩
  apply ba_ext
  rw [show ((n : Int) + 1).toNat = n + 1 by omega, Int.toNat_natCast, extract_one s n (by omega), bt_list s n (by omega)]
  simp [strOfNums]
theorem sn_rep (x : Int) : ∀ n, strOfNums (List.replicate n x) = ⟨(Lib.repeatL (strOfNums [x]).data.toList n).toArray⟩
  | 0 => by apply ba_ext; simp [strOfNums, Lib.repeatL]
  | n + 1 => by
    rw [List.replicate_succ, show x :: List.replicate n x = [x] ++ List.replicate n x from rfl, sn_append, sn_rep x n]
    apply ba_ext
    simp [Lib.repeatL]

def flagL (a : Nat) (b : Int) : List Int := ([49 - b] ++ List.replicate (a + 1) (48 + b)) ++ [49 - b]
theorem flagL_length (a : Nat) (b : Int) : (flagL a b).length = a + 3 := by simp [flagL]
theorem l04Flag_loop (a : Nat) (b : Int) (ha : a ≤ 10) (hb : 0 ≤ b ∧ b ≤ 1) (d : Nat) : ∀ (i : Nat), i + d = a + 1 →
    Ev (fun k => spec_l04Flag.l0 k (strOfNums [49 - b]) (strOfNums ([49 - b] ++ List.replicate i (48 + b))) i a b) (strOfNums (flagL a b)) := by
  induction d with
  | zero =>
    intro i hd
    refine Ev_succ ?_
    simp only [spec_l04Flag.l0, if_neg (show ¬ (i : Int) ≤ a by omega), sn_size]
    rw [if_pos (by simp; omega), ← sn_append, show i = a + 1 by omega]
    exact Ev.now _
  | succ d ih =>
    intro i hd
    refine Ev_succ ?_
    simp (disch := omega) only [spec_l04Flag.l0, w64]
    simp only [if_pos (show (i : Int) ≤ a by omega), Option.bind_some, sn_size, show (48 + b) % 256 = 48 + b by omega]
    simp only [if_pos (show ([49 - b] ++ List.replicate i (48 + b)).length + [48 + b].length ≤ 9223372036854775807 by simp; omega)]
    have h := ih (i + 1) (by omega)
    rw [List.replicate_succ', ← List.append_assoc, sn_append] at h
    exact h
theorem l04Flag_ev (a : Nat) (b : Int) (ha : a ≤ 10) (hb : 0 ≤ b ∧ b ≤ 1) : Ev (fun k => spec_l04Flag.f k a b) (strOfNums (flagL a b)) := by
  have e : (49 - b) % 256 = 49 - b := by omega
  simp (disch := omega) only [spec_l04Flag.f, w64, Option.bind_some, e]
  exact l04Flag_loop a b ha hb (a + 1) 0 (by omega)
theorem bitOf_eq' (c : Bool) : impl_bitOf.f c = some (strOfNums [if c = true then 49 else 48]) := by cases c <;> rfl
theorem flag_rep (a : Nat) (b : Int) (ha : a ≤ 10) : strings_Repeat.f (strOfNums [48 + b]) ((a : Int) + 1) = some (strOfNums (List.replicate (a + 1) (48 + b))) := by
  have hz : ((strOfNums [48 + b]).size : Int) = 1 := by rw [sn_size]; rfl
  unfold strings_Repeat.f
  rw [if_pos ⟨by omega, by omega, by rw [hz]; omega⟩, sn_rep, show ((a : Int) + 1).toNat = a + 1 by omega]
theorem flag_bit0 (b : Int) (hb : 0 ≤ b ∧ b ≤ 1) : impl_bitOf.f (b == 0) = some (strOfNums [49 - b]) := by
  rw [bitOf_eq']
  by_cases h : b = 0
  · rw [h]; rfl
  · rw [show b = 1 by omega]; rfl
theorem flag_bit1 (b : Int) (hb : 0 ≤ b ∧ b ≤ 1) : impl_bitOf.f (b == 1) = some (strOfNums [48 + b]) := by
  rw [bitOf_eq']
  by_cases h : b = 0
  · rw [h]; rfl
  · rw [show b = 1 by omega]; rfl
theorem flag_eq (a : Nat) (b : Int) (ha : a ≤ 10) (hb : 0 ≤ b ∧ b ≤ 1) : impl_Stuffer_flag.f a b = some (strOfNums (flagL a b)) := by
  have l1 : (strOfNums [49 - b]).size = 1 := by rw [sn_size]; rfl
  have l2 : (strOfNums (List.replicate (a + 1) (48 + b))).size = a + 1 := by rw [sn_size, List.length_replicate]
  have l3 : (strOfNums [49 - b] ++ strOfNums (List.replicate (a + 1) (48 + b))).size = a + 2 := by rw [ByteArray.size_append, l1, l2]; omega
  unfold impl_Stuffer_flag.f
  rw [flag_bit0 b hb, Option.bind_some, flag_bit1 b hb, Option.bind_some, w64 (by omega) (by omega), flag_rep a b ha, Option.bind_some, if_pos (by rw [l1, l2]; omega), if_pos (by rw [l3, l1]; omega), flagL, sn_append, sn_append]

def FnExactFlagOf_Pure : Prop := ∀ (a0_0 : Int) (a0_1 : Int), (Lit.int .i64 a0_0).wf = true → (Lit.int .i64 a0_1).wf = true → ∃ k, laws_FnExactFlagOf.f k a0_0 a0_1 = some true
theorem FnExactFlagOf : FnExactFlagOf_Pure := by
  intro a b _ _
  apply Ev.rounds
  obtain ⟨c, h1, h2, h3⟩ := l04Is_eq a b
  simp only [laws_FnExactFlagOf.f, toStuffer_eq, Option.bind_some, spec_FlagOf.f, impl_FlagOf.f, h1, h2]
  cases c with
  | false =>
    simp only [Bool.false_eq_true, if_false, Option.bind_some, if_true, bne_self_eq_false]
    exact Ev.now _
  | true =>
    obtain ⟨ha, hb⟩ := h3.1 rfl
    obtain ⟨n, rfl⟩ : ∃ n : Nat, a = n := ⟨a.toNat, by omega⟩
    simp only [if_true, flag_eq n b (by omega) hb, Option.bind_some]
    refine Ev.bind (Ev.bind (l04Flag_ev n b (by omega) hb) (Ev.now _)) ?_
    simp only [if_true, bne_self_eq_false, Bool.false_eq_true, if_false]
    exact Ev.now _

end Go.Proofs.Ytkdobeemgbefmaa.Pure
