/- The law FnExactCanonicalWords of the given program holds: for every input that the row lets in the call returns true and leaves its arguments as they were. No condition ahead of it. -/
import Derived.Test.YtkpobdcnggdjaaaPFnExactCanonicalWordsx5
import Derived.Test.YtkpobdcnggdjaaaMine
namespace Go.Proofs.Ytkpobdcnggdjaaa.Pure
open Go.RowKit Go.Proofs.Ytkpobdcnggdjaaa.PFnExactCanonicalWords Go.Proofs.YtkpobdcnggdjaaaW.PrintWords Go.Proofs.YtkpobdcnggdjaaaW.PrintLast Go.Proofs.YtkpobdcnggdjaaaW.PrintMore Go.Proofs.Ytkpobdcnggdjaaa.Mine
set_option linter.unusedVariables false
set_option linter.unusedSimpArgs false
def cwLex (l : List Int) (x y : Fin l.length) : Bool := decide (rd l (x.val : Int) < rd l (y.val : Int)) || (!decide (rd l (y.val : Int) < rd l (x.val : Int)) && decide (x.val < y.val))
theorem cwLex_iff (l : List Int) (x y : Fin l.length) : cwLex l x y = true ↔ rd l (x.val : Int) < rd l (y.val : Int) ∨ (rd l (x.val : Int) = rd l (y.val : Int) ∧ x.val < y.val) := by
  simp only [cwLex, Bool.or_eq_true, Bool.and_eq_true, Bool.not_eq_true', decide_eq_true_eq, decide_eq_false_iff_not]
  omega
theorem cwLex_swo (l : List Int) : Sort.SWO (cwLex l) where
  irrefl x := by rw [Bool.eq_false_iff, Ne, cwLex_iff]; omega
  trans x y z h1 h2 := by rw [cwLex_iff] at *; omega
  ntrans x y z h1 h2 := by rw [Bool.eq_false_iff, Ne, cwLex_iff] at *; omega
section
variable {l : List Int} [Inhabited (Fin l.length)]
theorem cw_swp_size (d : Array (Fin l.length)) (i j : Nat) : (Sort.swp d i j).size = d.size := Sort.swp_size d i j
theorem cw_inner (lt : Fin l.length → Fin l.length → Bool) (hlt : ∀ x y, lt x y = decide (rd l (x.val : Int) < rd l (y.val : Int))) (i : Nat) : ∀ (j : Nat) (d : Array (Fin l.length)), j ≤ i → i < d.size → (∀ p, p < j → (d[p]!).val < (d[j]!).val) →
    (∀ p, p ≤ i → (d[p]!).val ≤ i) → (∀ p, i < p → p < d.size → (d[p]!).val = p) →
    Sort.insInner lt 0 j d = Sort.insInner (cwLex l) 0 j d ∧ (Sort.insInner lt 0 j d).size = d.size ∧ (∀ p, p ≤ i → ((Sort.insInner lt 0 j d)[p]!).val ≤ i) ∧ (∀ p, i < p → p < d.size → ((Sort.insInner lt 0 j d)[p]!).val = p)
  | 0, d, _, _, _, h1, h2 => ⟨rfl, rfl, h1, h2⟩
  | j + 1, d, hj, hd, hlo, h1, h2 => by
    have e : lt d[j + 1]! d[j]! = cwLex l d[j + 1]! d[j]! := by
      have := hlo j (by omega)
      rw [hlt, cwLex, decide_eq_false (show ¬ (d[j + 1]!).val < (d[j]!).val by omega), Bool.and_false, Bool.or_false]
    rw [Sort.insInner, Sort.insInner, ← e]
    by_cases c : (decide (j + 1 > 0) && lt d[j + 1]! d[j]!) = true
    · rw [if_pos c, if_pos c]
      have g := Sort.swp_get d (show j + 1 < d.size by omega) (show j < d.size by omega)
      have hs := Sort.swp_size d (j + 1) j
      have ih := cw_inner lt hlt i j (Sort.swp d (j + 1) j) (by omega) (by omega) (fun p hp => by
        rw [g, g, if_neg (by omega), if_neg (by omega), if_pos rfl]
        exact hlo p (by omega)) (fun p hp => by
        rw [g]
        split
        · exact h1 _ (by omega)
        · split
          · exact h1 _ (by omega)
          · exact h1 _ hp) (fun p hp hp2 => by
        rw [hs] at hp2
        rw [g, if_neg (by omega), if_neg (by omega)]
        exact h2 p hp hp2)
      rw [hs] at ih
      exact ih
    · rw [if_neg c, if_neg c]
      exact ⟨rfl, rfl, h1, h2⟩
theorem cw_outer (lt : Fin l.length → Fin l.length → Bool) (hlt : ∀ x y, lt x y = decide (rd l (x.val : Int) < rd l (y.val : Int))) (n : Nat) (k : Nat) : ∀ (i : Nat) (d : Array (Fin l.length)), i + k = n → n ≤ d.size → (∀ p, p < i → (d[p]!).val < i) → (∀ p, i ≤ p → p < d.size → (d[p]!).val = p) →
    Sort.insOuter lt 0 n i d = Sort.insOuter (cwLex l) 0 n i d := by
  induction k with
  | zero =>
    intro i d hi hn h1 h2
    rw [Sort.insOuter.eq_def lt, Sort.insOuter.eq_def (cwLex l), if_neg (by omega), if_neg (by omega)]
  | succ k ih =>
    intro i d hi hn h1 h2
    rw [Sort.insOuter.eq_def lt, Sort.insOuter.eq_def (cwLex l), if_pos (by omega), if_pos (by omega)]
    obtain ⟨a1, a2, a3, a4⟩ := cw_inner lt hlt i i d (Nat.le_refl _) (by omega) (fun p hp => by rw [h2 i (Nat.le_refl _) (by omega)]; exact h1 p hp)
      (fun p hp => by
        by_cases e : p = i
        · rw [e, h2 i (Nat.le_refl _) (by omega)]; exact Nat.le_refl _
        · have := h1 p (by omega); omega) (fun p hp hp2 => h2 p (by omega) hp2)
    rw [← a1]
    exact ih (i + 1) _ (by omega) (by omega) (fun p hp => by have := a3 p (by omega); omega) (fun p hp hp2 => a4 p (by omega) (by omega))
end
theorem cw_ext {α : Type} (d : Array α) (n : Nat) (h : d.size = n) : d.extract 0 n = d := by subst h; exact Array.extract_size
theorem cw_arr (l : List Int) (h : 0 < l.length) : (canonArr l h).toList.Perm (List.ofFn fun i : Fin l.length => i) ∧ (canonArr l h).toList.Pairwise (fun x y => cwLex l x y = true) := by
  letI : Inhabited (Fin l.length) := ⟨⟨0, h⟩⟩
  obtain ⟨d0, hd0⟩ : ∃ d0 : Array (Fin l.length), d0 = Array.ofFn (fun i : Fin l.length => i) := ⟨_, rfl⟩
  have hsz : d0.size = l.length := by rw [hd0]; simp
  have hget : ∀ p, p < d0.size → (d0[p]!).val = p := fun p hp => by
    rw [getElem!_pos d0 p hp]
    subst hd0
    simp
  have hcan : canonArr l h = Sort.insertionSort (cwLex l) d0 0 l.length := by
    have e1 : canonArr l h = Sort.insertionSort (ltOf (canonCf l)) d0 0 l.length := by subst hd0; rfl
    rw [e1]
    by_cases h1 : l.length = 1
    · rw [Sort.insertionSort, Sort.insertionSort, Sort.insOuter.eq_def (ltOf (canonCf l)), Sort.insOuter.eq_def (cwLex l), if_neg (by omega), if_neg (by omega)]
    · exact cw_outer _ (canon_lt l) l.length (l.length - 1) 1 d0 (by omega) (by omega) (fun p hp => by rw [hget p (by omega)]; exact hp) (fun p hp hp2 => hget p hp2)
  obtain ⟨⟨hs, _, hperm⟩, hsort⟩ := Sort.insertionSort_holds (cwLex_swo l) d0 0 l.length (Nat.zero_le _) (by omega)
  rw [← hcan] at hs hperm hsort
  have p1 : (canonArr l h).toList.Perm d0.toList := by
    have e1 : (canonArr l h).extract 0 l.length = canonArr l h := cw_ext _ _ (by omega)
    have e2 : d0.extract 0 l.length = d0 := cw_ext _ _ hsz
    rw [e1, e2] at hperm
    exact hperm
  have p2 : d0.toList = List.ofFn (fun i : Fin l.length => i) := by rw [hd0]; simp
  rw [p2] at p1
  refine ⟨p1, ?_⟩
  have hnd : (canonArr l h).toList.Nodup := by
    rw [p1.nodup_iff]
    rw [List.nodup_iff_pairwise_ne, List.pairwise_iff_getElem]
    intro i j hi hj hij e
    simp only [List.getElem_ofFn] at e
    have := congrArg Fin.val e
    simp at this
    omega
  rw [List.pairwise_iff_getElem]
  intro i j hi hj hij
  have hi' : i < (canonArr l h).size := by simpa using hi
  have hj' : j < (canonArr l h).size := by simpa using hj
  have h3 := hsort i j (Nat.zero_le _) hij (by omega)
  rw [getElem!_pos _ i hi', getElem!_pos _ j hj'] at h3
  have hne : (canonArr l h)[i] ≠ (canonArr l h)[j] := by
    intro e
    have := (List.pairwise_iff_getElem.1 hnd) i j hi hj hij
    apply this
    rw [Array.getElem_toList, Array.getElem_toList]
    exact e
  rw [Array.getElem_toList, Array.getElem_toList, cwLex_iff]
  rw [Bool.eq_false_iff, Ne, cwLex_iff] at h3
  have hv : (canonArr l h)[i].val ≠ (canonArr l h)[j].val := fun e => hne (Fin.ext e)
  omega
def CwSorted (l : List Int) (o : List Nat) : Prop := o.Pairwise (fun x y : Nat => rd l (x : Int) < rd l (y : Int) ∨ (rd l (x : Int) = rd l (y : Int) ∧ x < y))
theorem cw_ord (l : List Int) (h : 0 < l.length) : ∃ o : List Nat, canonOrd l = o.map (fun i : Nat => (i : Int)) ∧ CwSorted l o ∧ ∀ j, j ∈ o ↔ j < l.length := by
  obtain ⟨h1, h2⟩ := cw_arr l h
  refine ⟨(canonArr l h).toList.map (·.val), by rw [canonOrd, dif_pos h, List.map_map]; rfl, ?_, fun j => ?_⟩
  · rw [CwSorted, List.pairwise_map]
    exact h2.imp (fun {x y} g => (cwLex_iff l x y).1 g)
  · rw [List.mem_map]
    constructor
    · rintro ⟨x, _, rfl⟩; exact x.isLt
    · intro hj
      exact ⟨⟨j, hj⟩, h1.mem_iff.2 (by rw [List.mem_ofFn]; exact ⟨_, rfl⟩), rfl⟩

def AllBit (s : ByteArray) : Prop := ∀ i : Int, 0 ≤ i → i < s.size → bt s i = 48 ∨ bt s i = 49
def IsBitS (s : ByteArray) : Prop := AllBit s ∧ (s.size : Int) ≤ 400
theorem bt_list (s : ByteArray) (i : Nat) (h : i < s.size) : bt s i = ((s.data.toList[i]'(by simpa using h)).toNat : Int) := by
  unfold bt
  simp only [Int.toNat_natCast, h, dif_pos]
  rfl
theorem dropWhile_nil (p : UInt8 → Bool) : ∀ l : List UInt8, l.dropWhile p = [] ↔ ∀ b ∈ l, p b = true
  | [] => by simp
  | x :: l => by
    rw [List.dropWhile_cons]
    cases h : p x with
    | true => simp [h, dropWhile_nil p l]
    | false => simp [h]
theorem trim_empty (l : List UInt8) : (Lib.trimS l [48, 49]).isEmpty = true ↔ ∀ b ∈ l, b = 48 ∨ b = 49 := by
  have key : ∀ p : UInt8 → Bool, List.dropWhile p (List.dropWhile p l.reverse).reverse = [] ↔ ∀ b ∈ l, p b = true := by
    intro p
    rw [dropWhile_nil]
    constructor
    · intro h
      by_cases e : List.dropWhile p l.reverse = []
      · have := (dropWhile_nil p _).1 e
        exact fun b hb => this b (by simpa using hb)
      · have hh := List.head_dropWhile_not p e
        have h3 := h ((List.dropWhile p l.reverse).head e) (by simp)
        rw [hh] at h3
        cases h3
    · intro h b hb
      have : List.dropWhile p l.reverse = [] := (dropWhile_nil p _).2 (fun b hb => h b (by simpa using hb))
      rw [this] at hb
      simp at hb
  unfold Lib.trimS Lib.trimRightS Lib.trimLeftS
  rw [List.isEmpty_iff, key]
  simp

theorem ba_ext {a b : ByteArray} (h : a.data.toList = b.data.toList) : a = b := by apply ByteArray.ext; exact Array.toList_inj.1 h
theorem sn_append (a b : List Int) : strOfNums (a ++ b) = strOfNums a ++ strOfNums b := by apply ba_ext; simp [strOfNums]
theorem sn_size (a : List Int) : (strOfNums a).size = a.length := by simp [strOfNums, ByteArray.size]
theorem sn_nil : strOfNums [] = (⟨#[]⟩ : ByteArray) := rfl
theorem bt_range (s : ByteArray) (i : Int) (h0 : 0 ≤ i) (h1 : i < s.size) : 0 ≤ bt s i ∧ bt s i < 256 := by
  obtain ⟨n, rfl⟩ : ∃ n : Nat, i = n := ⟨i.toNat, by omega⟩
  rw [bt_list s n (by omega)]
  have := (s.data.toList[n]'(by simp; omega)).toNat_lt
  omega
theorem extract_one (s : ByteArray) (n : Nat) (h : n < s.size) : (s.extract n (n + 1)).data.toList = [s.data.toList[n]'(by simpa using h)] := by
  have h' : n < s.data.size := h
  simp only [ByteArray.data_extract, Array.toList_extract, List.extract_eq_take_drop]
  rw [show n + 1 - n = 1 by omega, List.drop_eq_getElem_cons (show n < s.data.toList.length by simpa using h')]
  simp
theorem sn_one (s : ByteArray) (i : Int) (h0 : 0 ≤ i) (h1 : i < s.size) : strOfNums [bt s i] = s.extract i.toNat (i + 1).toNat := by
  obtain ⟨n, rfl⟩ : ∃ n : Nat, i = n := ⟨i.toNat, by omega⟩
  apply ba_ext
  rw [show ((n : Int) + 1).toNat = n + 1 by omega, Int.toNat_natCast, extract_one s n (by omega), bt_list s n (by omega)]
  simp [strOfNums]

theorem cw_wrap (n : Nat) (h : n < 9223372036854775808) : IntKind.i64.wrap (n : Int) = n := by
  have e : IntKind.i64.wrap (n : Int) = if (true && decide ((n : Int) % 18446744073709551616 ≥ 9223372036854775808)) = true then (n : Int) % 18446744073709551616 - 18446744073709551616 else (n : Int) % 18446744073709551616 := rfl
  rw [e]
  have h2 : ¬ (n : Int) % 18446744073709551616 ≥ 9223372036854775808 := by omega
  rw [decide_eq_false h2]
  simp only [Bool.and_false, Bool.false_eq_true, if_false]
  omega
theorem cw_ofInt (n : Nat) (h : n < 9223372036854775808) : (BitVec.ofInt 64 (n : Int)).toNat = n := by
  rw [BitVec.ofInt_natCast, BitVec.toNat_ofNat]; omega
theorem cw_and (n : Nat) (h : n < 9223372036854775808) : Go.bits .and .i64 (n : Int) 1 = ((n % 2 : Nat) : Int) := by
  have e : Go.bits .and .i64 (n : Int) 1 = IntKind.i64.wrap ((BitVec.ofInt 64 (n : Int) &&& BitVec.ofInt 64 ((1 : Nat) : Int)).toNat : Int) := rfl
  rw [e, BitVec.toNat_and, cw_ofInt n h, cw_ofInt 1 (by omega), Nat.and_one_is_mod, cw_wrap _ (by omega)]
theorem cw_shr (n : Nat) (j : Nat) (hj : j ≤ 16) : shr .i64 (n : Int) (j : Int) = ((n / 2 ^ j : Nat) : Int) := by
  have e : shr .i64 (n : Int) (j : Int) = (n : Int) / 2 ^ min j 64 := rfl
  rw [e, Nat.min_eq_left (by omega), Int.natCast_ediv, Int.natCast_pow]; rfl
theorem cw_shl (j : Nat) (hj : j ≤ 16) : shl .i64 1 (j : Int) = ((2 ^ j : Nat) : Int) := by
  have e : shl .i64 1 (j : Int) = IntKind.i64.wrap ((1 : Int) * 2 ^ min j 64) := rfl
  have e2 : (1 : Int) * 2 ^ j = ((2 ^ j : Nat) : Int) := by rw [Int.one_mul, Int.natCast_pow]; rfl
  have e3 : 2 ^ j ≤ 2 ^ 16 := Nat.pow_le_pow_right (by omega) hj
  rw [e, Nat.min_eq_left (by omega), e2, cw_wrap _ (by omega)]
/-- the binary digits of x, d of them, as bytes -/
def digs : Nat → Nat → List Int
  | 0, _ => []
  | d + 1, x => digs d (x / 2) ++ [((48 + x % 2 : Nat) : Int)]
theorem digs_len : ∀ (d x : Nat), (digs d x).length = d
  | 0, _ => rfl
  | d + 1, x => by rw [digs, List.length_append, digs_len d]; rfl
theorem digs_head : ∀ (d x : Nat), digs (d + 1) x = ((48 + (x / 2 ^ d) % 2 : Nat) : Int) :: digs d x
  | 0, x => by simp [digs]
  | d + 1, x => by
    rw [digs, digs_head d (x / 2), digs, Nat.div_div_eq_div_mul, show 2 * 2 ^ d = 2 ^ (d + 1) from (Nat.pow_succ' ..).symm]
    rfl
theorem digs_take : ∀ (m e x : Nat), (digs (e + m) x).take e = digs e (x / 2 ^ m)
  | 0, e, x => by
    have := digs_len e x
    rw [Nat.add_zero, Nat.pow_zero, Nat.div_one, List.take_of_length_le (by omega)]
  | m + 1, e, x => by
    rw [← Nat.add_assoc, digs, List.take_append_of_le_length (by rw [digs_len]; omega), digs_take m e, Nat.div_div_eq_div_mul, ← Nat.pow_succ']
theorem digs_inj : ∀ (d x y : Nat), x < 2 ^ d → y < 2 ^ d → digs d x = digs d y → x = y
  | 0, x, y, hx, hy, _ => by simp at hx hy; omega
  | d + 1, x, y, hx, hy, h => by
    rw [digs, digs] at h
    obtain ⟨h1, h2⟩ := List.append_inj h (by rw [digs_len, digs_len])
    rw [Nat.pow_succ] at hx hy
    have := digs_inj d (x / 2) (y / 2) (by omega) (by omega) h1
    simp at h2
    omega
theorem digs_val : ∀ (d x : Nat), ∀ v ∈ digs d x, v = 48 ∨ v = 49
  | 0, _, v, h => by cases h
  | d + 1, x, v, h => by
    rw [digs, List.mem_append] at h
    rcases h with h | h
    · exact digs_val d _ v h
    · simp at h; omega
theorem sn_inj : ∀ (a b : List Int), (∀ v ∈ a, v = 48 ∨ v = 49) → (∀ v ∈ b, v = 48 ∨ v = 49) → strOfNums a = strOfNums b → a = b := by
  intro a b ha hb h
  have h1 := congrArg (fun z : ByteArray => z.data.toList) h
  simp only [strOfNums] at h1
  induction a generalizing b with
  | nil => cases b with
    | nil => rfl
    | cons y b => simp at h1
  | cons x a ih =>
    cases b with
    | nil => simp at h1
    | cons y b =>
      simp only [List.map_cons, List.cons.injEq] at h1
      have e1 : x = y := by
        rcases ha x (by simp) with rfl | rfl <;> rcases hb y (by simp) with rfl | rfl <;> first | rfl | exact absurd h1.1 (by decide)
      rw [e1, ih b (fun v hv => ha v (by simp [hv])) (fun v hv => hb v (by simp [hv])) (by apply ba_ext; exact h1.2) h1.2]
def W (d x : Nat) : ByteArray := strOfNums (digs d x)
theorem W_size (d x : Nat) : (W d x).size = d := by rw [W, sn_size, digs_len]
theorem W_take (e m x : Nat) : (W (e + m) x).extract 0 e = W e (x / 2 ^ m) := by
  apply ba_ext
  have h := digs_take m e x
  rw [W, W, ← h]
  simp [strOfNums, List.map_take]
theorem W_inj (d x y : Nat) (hx : x < 2 ^ d) (hy : y < 2 ^ d) (h : W d x = W d y) : x = y := digs_inj d x y hx hy (sn_inj _ _ (digs_val d x) (digs_val d y) h)

theorem cw_impl_loop (x : Nat) (hx : x < 1048576) : ∀ (d : Nat) (acc : List Int) (k : Nat), d ≤ 16 → acc.length + d ≤ 100 → d < k → impl_digits.l0 k (x : Int) acc ((d : Int) - 1) = some (strOfNums (acc ++ digs d x))
  | 0, acc, k, _, _, hk => by
    obtain ⟨k, rfl⟩ : ∃ m, k = m + 1 := ⟨k - 1, by omega⟩
    rw [impl_digits.l0, if_neg (by omega), digs, List.append_nil]
  | d + 1, acc, k, hd, ha, hk => by
    obtain ⟨k, rfl⟩ : ∃ m, k = m + 1 := ⟨k - 1, by omega⟩
    have e1 : ((d + 1 : Nat) : Int) - 1 = (d : Int) := by omega
    have e2 : wrap64 ((d : Int) - 1) = (d : Int) - 1 := by unfold wrap64; omega
    have h1 : x / 2 ^ d ≤ x := Nat.div_le_self _ _
    have ih := cw_impl_loop x hx d (acc ++ [((48 + (x / 2 ^ d) % 2 : Nat) : Int)]) k (by omega) (by rw [List.length_append]; show acc.length + 1 + d ≤ 100; omega) (by omega)
    have e3 : (48 + (((x / 2 ^ d % 2 : Nat) : Int) % 256)) % 256 = ((48 + (x / 2 ^ d) % 2 : Nat) : Int) := by omega
    rw [impl_digits.l0, e1, if_pos (by omega), if_pos (by omega), if_pos (by omega), cw_shr x d (by omega), cw_and _ (by omega), e2, e3, ih, List.append_assoc, digs_head]
    rfl
theorem cw_impl (x : Nat) (hx : x < 1048576) : impl_digits.f 20 (x : Int) 12 = some (W 12 x) := by
  have := cw_impl_loop x hx 12 [] 20 (by omega) (by simp) (by omega)
  rw [List.nil_append] at this
  have e : wrap64 (12 - 1) = ((12 : Nat) : Int) - 1 := by unfold wrap64; omega
  simp only [impl_digits.f, e]
  exact this
theorem cw_spec_loop (x : Nat) (hx : x < 1048576) : ∀ (d : Nat) (acc : List Int) (k : Nat), d ≤ 16 → acc.length + d ≤ 100 → d < k → spec_l01Digits.l0 k (x : Int) acc ((d : Int) - 1) = some (strOfNums (acc ++ digs d x))
  | 0, acc, k, _, _, hk => by
    obtain ⟨k, rfl⟩ : ∃ m, k = m + 1 := ⟨k - 1, by omega⟩
    rw [spec_l01Digits.l0, if_neg (by omega), digs, List.append_nil]
  | d + 1, acc, k, hd, ha, hk => by
    obtain ⟨k, rfl⟩ : ∃ m, k = m + 1 := ⟨k - 1, by omega⟩
    have e1 : ((d + 1 : Nat) : Int) - 1 = (d : Int) := by omega
    have e2 : wrap64 ((d : Int) - 1) = (d : Int) - 1 := by unfold wrap64; omega
    have e4 : IntKind.u64.wrap (d : Int) = (d : Int) := by
      have e : IntKind.u64.wrap (d : Int) = (d : Int) % 18446744073709551616 := rfl
      rw [e]; omega
    have h1 : x / 2 ^ d ≤ x := Nat.div_le_self _ _
    have ih := cw_spec_loop x hx d (acc ++ [((48 + (x / 2 ^ d) % 2 : Nat) : Int)]) k (by omega) (by rw [List.length_append]; show acc.length + 1 + d ≤ 100; omega) (by omega)
    have e3 : (wrap64 (48 + ((x / 2 ^ d % 2 : Nat) : Int))) % 256 = ((48 + (x / 2 ^ d) % 2 : Nat) : Int) := by unfold wrap64; omega
    rw [spec_l01Digits.l0, e1, if_pos (by omega), e4, if_pos (by omega), if_pos (by omega), cw_shr x d (by omega), cw_and _ (by omega), e2, e3, ih, List.append_assoc, digs_head]
    rfl
theorem cw_specW (x d : Nat) (hx : x < 1048576) (hd : d ≤ 16) : Ev (fun k => spec_l01Digits.f k (x : Int) (d : Int)) (W d x) := by
  refine ⟨d + 1, fun k hk => ?_⟩
  have := cw_spec_loop x hx d [] k hd (by simp; omega) (by omega)
  rw [List.nil_append] at this
  have e : wrap64 ((d : Int) - 1) = (d : Int) - 1 := by unfold wrap64; omega
  simp only [spec_l01Digits.f, e]
  exact this
def preB (u w : ByteArray) : Bool := decide (u.size ≤ w.size) && ((w.extract 0 u.size).toList == u.toList)
theorem cw_at (w u : ByteArray) (hw : w.size ≤ 100) (hu : u.size ≤ 100) : spec_l01At.f w u 0 = some (preB u w) := by
  have e : wrap64 (0 + (u.size : Int)) = (u.size : Int) := by unfold wrap64; omega
  simp only [spec_l01At.f, e, preB]
  by_cases h : u.size ≤ w.size
  · rw [if_pos (by omega), if_pos (by omega), if_pos (by omega), decide_eq_true h, Bool.true_and, Int.toNat_natCast]
    rfl
  · rw [if_neg (by omega), decide_eq_false h, Bool.false_and]
def cwRun (l : List Int) : List Nat → List ByteArray → Nat → List ByteArray × Bool
  | [], out, _ => (out, true)
  | j :: r, out, N => if N + 2 ^ (12 - (rd l (j : Int)).toNat) > 4096 then ([], false) else cwRun l r (out.set j (W (rd l (j : Int)).toNat (N / 2 ^ (12 - (rd l (j : Int)).toNat)))) (N + 2 ^ (12 - (rd l (j : Int)).toNat))
theorem cw_tail (l : List Int) (hin : ∀ j : Nat, j < l.length → 1 ≤ rd l (j : Int) ∧ rd l (j : Int) ≤ 12) : ∀ (o : List Nat) (out : List ByteArray) (N : Nat), (∀ j ∈ o, j < l.length) → out.length = l.length → N ≤ 4096 → canonTail l (o.map fun i : Nat => (i : Int)) out (N : Int) = some (cwRun l o out N)
  | [], out, N, _, _, _ => rfl
  | j :: r, out, N, ho, hl, hN => by
    have hj := ho j (by simp)
    obtain ⟨h1, h2⟩ := hin j hj
    obtain ⟨e, he⟩ : ∃ e : Nat, rd l (j : Int) = (e : Int) := ⟨(rd l (j : Int)).toNat, by omega⟩
    rw [he] at h1 h2
    have e1 : wrap64 (12 - (e : Int)) = ((12 - e : Nat) : Int) := by unfold wrap64; omega
    have p1 : 2 ^ (12 - e) ≤ 2 ^ 12 := Nat.pow_le_pow_right (by omega) (by omega)
    have p2 : 1 ≤ 2 ^ (12 - e) := Nat.one_le_two_pow
    have hg : 0 ≤ (j : Int) ∧ (j : Int) < (l.length : Int) ∧ (j : Int) < (out.length : Int) ∧ 0 ≤ ((12 - e : Nat) : Int) ∧ 0 ≤ (e : Int) := by clear e1; omega
    have h12 : 12 - e ≤ 16 := by omega
    rw [List.map_cons, canonTail, cwRun, he, e1, cw_shl _ h12, if_pos hg]
    clear e1
    simp only [Int.toNat_natCast]
    obtain ⟨T, hT⟩ : ∃ T, 2 ^ (12 - e) = T := ⟨_, rfl⟩
    rw [hT] at p1 p2 ⊢
    have e2 : wrap64 ((N : Int) + (T : Int)) = ((N + T : Nat) : Int) := by unfold wrap64; omega
    rw [e2]
    clear e2
    by_cases c : N + T > 4096
    · rw [if_pos (by omega), if_pos c]
    · rw [if_neg (by omega), if_neg c, cw_impl N (by omega), Option.bind_some, if_pos (by rw [W_size]; omega)]
      have e3 : (W 12 N).extract 0 e = W e (N / 2 ^ (12 - e)) := by
        have := W_take e (12 - e) N
        rw [show e + (12 - e) = 12 by omega] at this
        exact this
      rw [e3, hT]
      exact cw_tail l hin r _ _ (fun i hi => ho i (by simp [hi])) (by rw [List.length_set]; exact hl) (by omega)

theorem rs_set (l : List ByteArray) (i j : Int) (v : ByteArray) (hi : 0 ≤ i) (hil : i < l.length) (hj : 0 ≤ j) : rdOf ByteArray.empty (l.set i.toNat v) j = if j = i then v else rdOf ByteArray.empty l j := by
  unfold rdOf
  by_cases e : j = i
  · subst e; rw [if_pos rfl, List.getD_eq_getElem?_getD, List.getElem?_set_self (by omega)]; rfl
  · rw [if_neg e, List.getD_eq_getElem?_getD, List.getElem?_set_ne (by omega), List.getD_eq_getElem?_getD]
theorem ext_rs (a b : List ByteArray) (h : a.length = b.length) (hp : ∀ j : Int, 0 ≤ j → j < a.length → rdOf ByteArray.empty a j = rdOf ByteArray.empty b j) : a = b := by
  apply List.ext_getElem h
  intro n h1 h2
  have := hp n (by omega) (by omega)
  unfold rdOf at this
  rw [List.getD_eq_getElem?_getD, List.getD_eq_getElem?_getD, Int.toNat_natCast, List.getElem?_eq_getElem h1, List.getElem?_eq_getElem h2] at this
  simpa using this
theorem rs_mem (l : List ByteArray) (i : Int) (h0 : 0 ≤ i) (h1 : i < l.length) : rdOf ByteArray.empty l i ∈ l := by
  unfold rdOf
  rw [List.getD_eq_getElem?_getD, List.getElem?_eq_getElem (show i.toNat < l.length by omega)]
  exact List.getElem_mem _
theorem eqStr_loop (l : List ByteArray) (hl : (l.length : Int) ≤ 4611686018427387904) (d : Nat) : ∀ i : Int, 0 ≤ i → i ≤ l.length → (l.length : Int) - i = d → Ev (fun k => laws_eqStringS.l0 k l l i) true := by
  induction d with
  | zero =>
    intro i h0 h1 hd
    refine Ev_succ ?_
    simp only [laws_eqStringS.l0, if_neg (show ¬ i < (l.length : Int) by omega)]; exact Ev.now _
  | succ d ih =>
    intro i h0 h1 hd
    refine Ev_succ ?_
    simp (disch := omega) only [laws_eqStringS.l0, w64]
    simp only [if_pos (show i < (l.length : Int) by omega), if_pos h0, if_true]
    exact ih (i + 1) (by omega) (by omega) (by omega)
theorem eqStr_ev (l : List ByteArray) (hl : (l.length : Int) ≤ 1048576) : Ev (fun k => laws_eqStringS.f k l l) true := by
  simp only [laws_eqStringS.f, if_true]
  exact eqStr_loop l (by omega) l.length 0 (by omega) (by omega) (by omega)
theorem toList_inj {a b : ByteArray} : a.toList = b.toList ↔ a = b := by
  constructor
  · intro h
    rw [Lib.toList_data, Lib.toList_data] at h
    apply ByteArray.ext
    exact Array.toList_inj.1 h
  · rintro rfl; rfl

theorem preB_iff (d m q x : Nat) (hq : q < 2 ^ d) (hx : x < 2 ^ (d + m)) : preB (W d q) (W (d + m) x) = decide (x / 2 ^ m = q) := by
  have h1 : x / 2 ^ m < 2 ^ d := by rw [Nat.div_lt_iff_lt_mul (Nat.two_pow_pos m), ← Nat.pow_add]; exact hx
  have h2 : (W (d + m) x).extract 0 d = W d (x / 2 ^ m) := W_take d m x
  rw [preB, W_size, W_size, decide_eq_true (show d ≤ d + m by omega), Bool.true_and, h2, Bool.eq_iff_iff, beq_iff_eq, toList_inj, decide_eq_true_eq]
  exact ⟨fun g => W_inj d _ _ h1 hq g, fun g => by rw [g]⟩
/-- the words in use cover the first N of the 4096 places -/
def CwInv (U : List ByteArray) (N d : Nat) : Prop := (∀ u ∈ U, u.size ≤ 100) ∧ U.length ≤ 16 ∧ 2 ^ (12 - d) ∣ N ∧ N ≤ 4096 ∧ ∀ d' x, d ≤ d' → d' ≤ 12 → x < 2 ^ d' → ((∀ u ∈ U, preB u (W d' x) = false) ↔ N ≤ x * 2 ^ (12 - d'))
theorem CwInv.up {U : List ByteArray} {N d d' : Nat} (h : CwInv U N d) (hd : d ≤ d') : CwInv U N d' :=
  ⟨h.1, h.2.1, Nat.dvd_trans (Nat.pow_dvd_pow 2 (by omega)) h.2.2.1, h.2.2.2.1, fun e x h1 h2 h3 => h.2.2.2.2 e x (by omega) h2 h3⟩
theorem CwInv.nil (d : Nat) : CwInv [] 0 d := ⟨fun u hu => (by cases hu), by simp, Nat.dvd_zero _, by omega, fun d' x _ _ _ => ⟨fun _ => Nat.zero_le _, fun _ u hu => (by cases hu)⟩⟩
theorem pow12 {d : Nat} (hd : d ≤ 12) : 2 ^ d * 2 ^ (12 - d) = 4096 := by
  rw [← Nat.pow_add, show d + (12 - d) = 12 by omega]
theorem CwInv.fit {U : List ByteArray} {N d : Nat} (h : CwInv U N d) (hd : d ≤ 12) : (N / 2 ^ (12 - d) < 2 ^ d ↔ ¬ N + 2 ^ (12 - d) > 4096) ∧ N / 2 ^ (12 - d) * 2 ^ (12 - d) = N := by
  obtain ⟨q, hq⟩ := h.2.2.1
  have hp := pow12 hd
  have hT := Nat.two_pow_pos (12 - d)
  obtain ⟨T, hT2⟩ : ∃ T, 2 ^ (12 - d) = T := ⟨_, rfl⟩
  obtain ⟨D, hD⟩ : ∃ D, 2 ^ d = D := ⟨_, rfl⟩
  rw [hT2] at hq hp hT ⊢
  rw [hD] at hp ⊢
  have e : N / T = q := by rw [hq, Nat.mul_div_cancel_left _ hT]
  rw [e]
  refine ⟨?_, by rw [hq, Nat.mul_comm]⟩
  rw [hq, ← hp]
  have e2 : T * q + T = (q + 1) * T := by rw [Nat.add_mul, Nat.one_mul, Nat.mul_comm]
  rw [e2, Nat.not_lt]
  constructor
  · intro g; exact Nat.mul_le_mul_right _ g
  · intro g; exact Nat.le_of_mul_le_mul_right g hT
theorem CwInv.add {U : List ByteArray} {N d : Nat} (h : CwInv U N d) (hd : d ≤ 12) (hU : U.length < 16) (hf : ¬ N + 2 ^ (12 - d) > 4096) : CwInv (U ++ [W d (N / 2 ^ (12 - d))]) (N + 2 ^ (12 - d)) d := by
  obtain ⟨hf1, hN⟩ := h.fit hd
  have hq := hf1.2 hf
  obtain ⟨q, hqq⟩ : ∃ q, N / 2 ^ (12 - d) = q := ⟨_, rfl⟩
  rw [hqq] at hq hN ⊢
  refine ⟨fun u hu => ?_, by rw [List.length_append]; show U.length + 1 ≤ 16; omega, Nat.dvd_add h.2.2.1 (Nat.dvd_refl _), by omega, fun d' x h1 h2 h3 => ?_⟩
  · rw [List.mem_append] at hu
    rcases hu with hu | hu
    · exact h.1 u hu
    · rw [List.mem_singleton.1 hu, W_size]; omega
  · obtain ⟨m, rfl⟩ : ∃ m, d' = d + m := ⟨d' - d, by omega⟩
    have hfree := h.2.2.2.2 (d + m) x h1 h2 h3
    have hpre := preB_iff d m q x hq h3
    have hs : (∀ u ∈ U ++ [W d q], preB u (W (d + m) x) = false) ↔ (∀ u ∈ U, preB u (W (d + m) x) = false) ∧ x / 2 ^ m ≠ q := by
      constructor
      · intro g
        refine ⟨fun u hu => g u (by simp [hu]), fun e => ?_⟩
        have := g (W d q) (by simp)
        rw [hpre, decide_eq_true e] at this
        cases this
      · rintro ⟨g1, g2⟩ u hu
        rw [List.mem_append] at hu
        rcases hu with hu | hu
        · exact g1 u hu
        · rw [List.mem_singleton.1 hu, hpre, decide_eq_false g2]
    rw [hs, hfree]
    have hpp : 2 ^ (12 - d) = 2 ^ m * 2 ^ (12 - (d + m)) := by rw [← Nat.pow_add, show m + (12 - (d + m)) = 12 - d by omega]
    have hT := Nat.two_pow_pos (12 - (d + m))
    have hM := Nat.two_pow_pos m
    rw [← hN, hpp]
    obtain ⟨T, hT2⟩ : ∃ T, 2 ^ (12 - (d + m)) = T := ⟨_, rfl⟩
    obtain ⟨M, hM2⟩ : ∃ M, 2 ^ m = M := ⟨_, rfl⟩
    rw [hT2] at hT ⊢
    rw [hM2] at hM ⊢
    have a1 : q * (M * T) ≤ x * T ↔ q ≤ x / M := by
      rw [← Nat.mul_assoc, Nat.le_div_iff_mul_le hM]
      exact ⟨fun g => Nat.le_of_mul_le_mul_right g hT, fun g => Nat.mul_le_mul_right _ g⟩
    have a2 : q * (M * T) + M * T ≤ x * T ↔ q + 1 ≤ x / M := by
      rw [show q * (M * T) + M * T = (q + 1) * M * T by rw [Nat.add_mul q 1 M, Nat.one_mul, Nat.add_mul, Nat.mul_assoc], Nat.le_div_iff_mul_le hM]
      exact ⟨fun g => Nat.le_of_mul_le_mul_right g hT, fun g => Nat.mul_le_mul_right _ g⟩
    rw [a1, a2]
    clear a1 a2 hpp hs hpre hfree
    omega
/-- one word against those in use -/
theorem cw_l3 (l : List Int) (out U : List ByteArray) (d i : Nat) (hU : U.length ≤ 16) (hUs : ∀ u ∈ U, u.size ≤ 100) (x : Nat) (w : ByteArray) (hw : w.size ≤ 100) (m : Nat) : ∀ (j : Nat) (b : Bool), j + m = U.length → ∀ r,
    (∀ c, c = (b && decide (∀ u ∈ U.drop j, preB u w = false)) → Ev (fun k => spec_l05Canonical.l3 k l out U (d : Int) (i : Int) c (x : Int) w (U.length : Int)) r) →
    Ev (fun k => spec_l05Canonical.l3 k l out U (d : Int) (i : Int) b (x : Int) w (j : Int)) r := by
  induction m with
  | zero =>
    intro j b hj r h
    obtain rfl : j = U.length := by omega
    exact h b (by simp)
  | succ m ih =>
    intro j b hj r h
    have hjl : j < U.length := by omega
    have e1 : wrap64 ((j : Int) + 1) = ((j + 1 : Nat) : Int) := by unfold wrap64; omega
    have hd : U.drop j = rdOf ByteArray.empty U (j : Int) :: U.drop (j + 1) := by
      rw [List.drop_eq_getElem_cons hjl]
      congr 1
      unfold rdOf
      rw [Int.toNat_natCast, List.getD_eq_getElem?_getD, List.getElem?_eq_getElem hjl]
      rfl
    have hmem : rdOf ByteArray.empty U (j : Int) ∈ U := by
      have : rdOf ByteArray.empty U (j : Int) ∈ U.drop j := by rw [hd]; simp
      exact List.mem_of_mem_drop this
    have hat := cw_at w (rdOf ByteArray.empty U (j : Int)) hw (hUs _ hmem)
    apply Ev_succ
    have c1 : (j : Int) < (U.length : Int) := by clear e1; omega
    have c2 : (0 : Int) ≤ (j : Int) := by clear e1; omega
    have hj2 : j + 1 + m = U.length := by clear e1; omega
    cases b with
    | false =>
      simp only [spec_l05Canonical.l3, if_pos c1, Bool.false_eq_true, if_false, e1]
      exact ih (j + 1) false hj2 r (fun c hc => h c (by rw [hc]; simp))
    | true =>
      simp only [spec_l05Canonical.l3, if_pos c1, if_pos c2, if_true, hat, Option.bind_some, e1]
      refine ih (j + 1) _ hj2 r (fun c hc => h c ?_)
      rw [hc, hd]
      cases hp : preB (rdOf ByteArray.empty U (j : Int)) w <;> simp [hp]
/-- the words of one length, one by one -/
theorem cw_found (l : List Int) (out U : List ByteArray) (d i x : Nat) (hd : d ≤ 12) (hi : i < 16) (r : List ByteArray × Bool) (h : Ev (fun k => spec_l05Canonical.l1 k l out U (d : Int) ((i + 1 : Nat) : Int)) r) :
    Ev (fun k => spec_l05Canonical.l2 k l out U (d : Int) (i : Int) true (x : Int)) r := by
  have e0 : IntKind.u64.wrap (d : Int) = (d : Int) := by
    have e : IntKind.u64.wrap (d : Int) = (d : Int) % 18446744073709551616 := rfl
    rw [e]; omega
  have e1 : wrap64 ((i : Int) + 1) = ((i + 1 : Nat) : Int) := by unfold wrap64; omega
  have c0 : (0 : Int) ≤ (d : Int) := by clear e0 e1; omega
  have hj : Ev (fun k => spec_l05Canonical.j3 k l out U (d : Int) (i : Int) true (x : Int) false) r := by
    apply Ev_succ
    simp only [spec_l05Canonical.j3, Bool.false_eq_true, if_false, if_true, e1]
    exact h
  apply Ev_succ
  simp only [spec_l05Canonical.l2, e0, if_pos c0, Bool.not_true]
  split
  · exact hj
  · exact hj
theorem cw_none (l : List Int) (out U : List ByteArray) (d i x : Nat) (hd : d ≤ 12) (hx : 2 ^ d ≤ x) :
    Ev (fun k => spec_l05Canonical.l2 k l out U (d : Int) (i : Int) false (x : Int)) ([], false) := by
  have e0 : IntKind.u64.wrap (d : Int) = (d : Int) := by
    have e : IntKind.u64.wrap (d : Int) = (d : Int) % 18446744073709551616 := rfl
    rw [e]; omega
  have c0 : (0 : Int) ≤ (d : Int) := by clear e0; omega
  have c1 : ¬ (x : Int) < ((2 ^ d : Nat) : Int) := by clear e0; omega
  apply Ev_succ
  simp only [spec_l05Canonical.l2, e0, if_pos c0, cw_shl d (show d ≤ 16 by omega), if_neg c1]
  apply Ev_succ
  simp only [spec_l05Canonical.j3, Bool.false_eq_true, if_false]
  exact Ev.now _
theorem cw_l2 (l : List Int) (out U : List ByteArray) (d i N : Nat) (hd : d ≤ 12) (hi : i < 16) (hil : i < out.length) (hI : CwInv U N d) (r : List ByteArray × Bool)
    (hr : if N + 2 ^ (12 - d) > 4096 then r = ([], false) else Ev (fun k => spec_l05Canonical.l1 k l (out.set i (W d (N / 2 ^ (12 - d)))) (U ++ [W d (N / 2 ^ (12 - d))]) (d : Int) ((i + 1 : Nat) : Int)) r) (m : Nat) :
    ∀ x : Nat, x + m = 2 ^ d → x ≤ N / 2 ^ (12 - d) → Ev (fun k => spec_l05Canonical.l2 k l out U (d : Int) (i : Int) false (x : Int)) r := by
  have hfit := hI.fit hd
  have hp : 2 ^ d ≤ 2 ^ 12 := Nat.pow_le_pow_right (by omega) hd
  induction m with
  | zero =>
    intro x hx hxq
    rw [if_pos (by have := hfit.1; by_cases c : N + 2 ^ (12 - d) > 4096; exact c; have := this.2 c; omega)] at hr
    rw [hr]
    exact cw_none l out U d i x hd (by omega)
  | succ m ih =>
    intro x hx hxq
    have e0 : IntKind.u64.wrap (d : Int) = (d : Int) := by
      have e : IntKind.u64.wrap (d : Int) = (d : Int) % 18446744073709551616 := rfl
      rw [e]; omega
    have e1 : wrap64 ((x : Int) + 1) = ((x + 1 : Nat) : Int) := by unfold wrap64; omega
    have c0 : (0 : Int) ≤ (d : Int) := by clear e0 e1; omega
    have c1 : (x : Int) < ((2 ^ d : Nat) : Int) := by clear e0 e1; omega
    have hx2 : x + 1 + m = 2 ^ d := by clear e0 e1; omega
    have hx3 : x < 2 ^ d := by clear e0 e1; omega
    have hx4 : x < 1048576 := by clear e0 e1; omega
    have hfree := hI.2.2.2.2 d x (Nat.le_refl _) hd hx3
    have hq : N ≤ x * 2 ^ (12 - d) ↔ x = N / 2 ^ (12 - d) := by
      have hN := hfit.2
      have hT := Nat.two_pow_pos (12 - d)
      obtain ⟨q, hqq⟩ : ∃ q, N / 2 ^ (12 - d) = q := ⟨_, rfl⟩
      rw [hqq] at hN hxq ⊢
      rw [← hN]
      exact ⟨fun g => by have := Nat.le_of_mul_le_mul_right g hT; omega, fun g => by rw [g]; exact Nat.le_refl _⟩
    rw [hq] at hfree
    have h3 : (x : Int) = (x : Int) := rfl
    apply Ev_succ
    simp only [spec_l05Canonical.l2, e0, if_pos c0, cw_shl d (show d ≤ 16 by omega), if_pos c1, Bool.not_false]
    apply Ev_succ
    simp only [spec_l05Canonical.j3, if_true]
    refine Ev.bind (cw_specW x d hx4 (by omega)) ?_
    have c2 : (0 : Int) ≤ (i : Int) := by clear e0 e1; omega
    have c3 : (i : Int) < (out.length : Int) := by clear e0 e1; omega
    have c4 : U.length < 8796093022208 := by have := hI.2.1; clear e0 e1; omega
    have c5 : ¬ (U.length : Int) < (U.length : Int) := by clear e0 e1; omega
    have := cw_l3 l out U d i hI.2.1 hI.1 x (W d x) (by rw [W_size]; omega) U.length 0 true (by omega) r (fun c hc => ?_)
    · exact this
    · rw [Bool.true_and, List.drop_zero] at hc
      apply Ev_succ
      by_cases hxe : x = N / 2 ^ (12 - d)
      · have hc2 : c = true := by rw [hc]; exact decide_eq_true (hfree.2 hxe)
        subst hc2
        simp only [spec_l05Canonical.l3, if_neg c5, if_true, if_pos c2, if_pos c3, if_pos c4, Int.toNat_natCast]
        rw [if_neg (hfit.1.1 (by rw [← hxe]; exact hx3)), ← hxe] at hr
        rw [e1]
        exact cw_found l _ _ d i (x + 1) hd hi r hr
      · have hc2 : c = false := by rw [hc]; exact decide_eq_false (fun g => hxe (hfree.1 g))
        subst hc2
        simp only [spec_l05Canonical.l3, if_neg c5, Bool.false_eq_true, if_false, e1]
        exact ih (x + 1) hx2 (by clear e0 e1; omega)
def CwRest (l : List Int) (d i : Nat) (rest : List Nat) : Prop := CwSorted l rest ∧ ∀ j : Nat, j ∈ rest ↔ j < l.length ∧ ((d : Int) < rd l (j : Int) ∨ (rd l (j : Int) = (d : Int) ∧ i ≤ j))
theorem cw_row (l : List Int) (hl : l.length ≤ 16) (hin : ∀ j : Nat, j < l.length → 1 ≤ rd l (j : Int) ∧ rd l (j : Int) ≤ 12) (d : Nat) (hd : d ≤ 12)
    (hend : ∀ (rest : List Nat) (out U : List ByteArray) (N : Nat), CwRest l d l.length rest → CwInv U N d → U.length + rest.length = l.length → out.length = l.length → Ev (fun k => spec_l05Canonical.l1 k l out U (d : Int) (l.length : Int)) (cwRun l rest out N)) (m : Nat) :
    ∀ (i : Nat), i + m = l.length → ∀ (rest : List Nat) (out U : List ByteArray) (N : Nat), CwRest l d i rest → CwInv U N d → U.length + rest.length = l.length → out.length = l.length → Ev (fun k => spec_l05Canonical.l1 k l out U (d : Int) (i : Int)) (cwRun l rest out N) := by
  induction m with
  | zero =>
    intro i hi rest out U N h1 h2 h3 h4
    obtain rfl : i = l.length := by omega
    exact hend rest out U N h1 h2 h3 h4
  | succ m ih =>
    intro i hi rest out U N h1 h2 h3 h4
    have e1 : wrap64 ((i : Int) + 1) = ((i + 1 : Nat) : Int) := by unfold wrap64; omega
    have c1 : (i : Int) < (l.length : Int) := by clear e1; omega
    have c2 : (0 : Int) ≤ (i : Int) := by clear e1; omega
    have hi2 : i + 1 + m = l.length := by clear e1; omega
    have hil : i < l.length := by clear e1; omega
    apply Ev_succ
    by_cases c : rd l (i : Int) = (d : Int)
    · simp only [spec_l05Canonical.l1, if_pos c1, if_pos c2, if_pos c]
      have hmem : i ∈ rest := (h1.2 i).2 ⟨hil, .inr ⟨c, Nat.le_refl _⟩⟩
      cases rest with
      | nil => cases hmem
      | cons h r =>
        have hs := List.pairwise_cons.1 h1.1
        have hh : h = i := by
          rw [List.mem_cons] at hmem
          rcases hmem with rfl | hmem
          · rfl
          · have a1 := hs.1 i hmem
            have a2 := (h1.2 h).1 (by simp)
            exfalso
            clear e1
            omega
        subst hh
        have h5 : CwRest l d (h + 1) r := by
          refine ⟨hs.2, fun j => ?_⟩
          constructor
          · intro hj
            have a1 := hs.1 j hj
            have a2 := (h1.2 j).1 (by simp [hj])
            clear e1
            omega
          · intro hj
            have a2 : j ∈ h :: r := (h1.2 j).2 (by clear e1; omega)
            rw [List.mem_cons] at a2
            rcases a2 with rfl | a2
            · exfalso; clear e1; omega
            · exact a2
        have hU : U.length < 16 := by rw [List.length_cons] at h3; clear e1; omega
        have hto : (rd l (h : Int)).toNat = d := by rw [c]; exact Int.toNat_natCast d
        have := cw_l2 l out U d h N hd (by clear e1; omega) (by clear e1; omega) h2 (cwRun l (h :: r) out N) ?_ (2 ^ d) 0 (by omega) (Nat.zero_le _)
        · exact this
        · rw [cwRun, hto]
          by_cases g : N + 2 ^ (12 - d) > 4096
          · rw [if_pos g, if_pos g]
          · rw [if_neg g, if_neg g]
            exact ih (h + 1) hi2 r _ _ _ h5 (h2.add hd hU g) (by rw [List.length_append]; rw [List.length_cons] at h3; show U.length + 1 + r.length = l.length; clear e1; omega) (by rw [List.length_set]; exact h4)
    · simp only [spec_l05Canonical.l1, if_pos c1, if_pos c2, if_neg c, e1]
      refine ih (i + 1) hi2 rest out U N ⟨h1.1, fun j => ?_⟩ h2 h3 h4
      rw [h1.2 j]
      constructor
      · rintro ⟨g1, g2⟩
        refine ⟨g1, ?_⟩
        rcases g2 with g2 | ⟨g2, g3⟩
        · exact .inl g2
        · by_cases e : j = i
          · rw [e] at g2; exact absurd g2 c
          · exact .inr ⟨g2, by omega⟩
      · rintro ⟨g1, g2⟩
        refine ⟨g1, ?_⟩
        rcases g2 with g2 | ⟨g2, g3⟩
        · exact .inl g2
        · exact .inr ⟨g2, by omega⟩
theorem cw_rows (l : List Int) (hl : l.length ≤ 16) (hin : ∀ j : Nat, j < l.length → 1 ≤ rd l (j : Int) ∧ rd l (j : Int) ≤ 12) (e : Nat) : ∀ (d : Nat), d + e = 12 →
    ∀ (rest : List Nat) (out U : List ByteArray) (N : Nat), CwRest l d 0 rest → CwInv U N d → U.length + rest.length = l.length → out.length = l.length → Ev (fun k => spec_l05Canonical.l1 k l out U (d : Int) 0) (cwRun l rest out N) := by
  induction e with
  | zero =>
    intro d hd
    refine cw_row l hl hin d (by omega) (fun rest out U N h1 h2 h3 h4 => ?_) l.length 0 (by omega)
    have e1 : wrap64 ((d : Int) + 1) = 13 := by unfold wrap64; omega
    have c1 : ¬ (l.length : Int) < (l.length : Int) := by clear e1; omega
    cases rest with
    | cons h r =>
      have a1 := (h1.2 h).1 (by simp)
      have a2 := hin h a1.1
      exfalso
      clear e1
      omega
    | nil =>
      apply Ev_succ
      simp only [spec_l05Canonical.l1, if_neg c1, e1]
      apply Ev_succ
      simp only [spec_l05Canonical.l0, if_neg (show ¬ (13 : Int) ≤ 12 by decide)]
      exact Ev.now _
  | succ e ih =>
    intro d hd
    refine cw_row l hl hin d (by omega) (fun rest out U N h1 h2 h3 h4 => ?_) l.length 0 (by omega)
    have e1 : wrap64 ((d : Int) + 1) = ((d + 1 : Nat) : Int) := by unfold wrap64; omega
    have c1 : ¬ (l.length : Int) < (l.length : Int) := by clear e1; omega
    have c2 : ((d + 1 : Nat) : Int) ≤ 12 := by clear e1; omega
    apply Ev_succ
    simp only [spec_l05Canonical.l1, if_neg c1, e1]
    apply Ev_succ
    simp only [spec_l05Canonical.l0, if_pos c2]
    refine ih (d + 1) (by omega) rest out U N ⟨h1.1, fun j => ?_⟩ (h2.up (by omega)) h3 h4
    rw [h1.2 j]
    clear e1
    omega
theorem cw_len (l : List Int) : ∀ (o : List Nat) (out : List ByteArray) (N : Nat), (cwRun l o out N).1.length ≤ out.length
  | [], out, N => Nat.le_refl _
  | j :: r, out, N => by
    rw [cwRun]
    split
    · exact Nat.zero_le _
    · have := cw_len l r (out.set j (W (rd l (j : Int)).toNat (N / 2 ^ (12 - (rd l (j : Int)).toNat)))) (N + 2 ^ (12 - (rd l (j : Int)).toNat))
      rw [List.length_set] at this
      exact this
theorem cw_both (l : List Int) (h2 : 2 ≤ l.length) (hl : l.length ≤ 16) (hin : ∀ j : Nat, j < l.length → 1 ≤ rd l (j : Int) ∧ rd l (j : Int) ≤ 12) :
    ∃ r, Ev (fun k => spec_l05Canonical.f k l) r ∧ canonTail l (canonOrd l) (List.replicate l.length (⟨#[]⟩ : ByteArray)) 0 = some r ∧ r.1.length ≤ 16 := by
  obtain ⟨o, ho, hs, hm⟩ := cw_ord l (by omega)
  have hlen : o.length = l.length := by
    have := canon_ord_len l
    rw [ho, List.length_map] at this
    exact this
  refine ⟨cwRun l o (List.replicate l.length (⟨#[]⟩ : ByteArray)) 0, ?_, ?_, by have := cw_len l o (List.replicate l.length (⟨#[]⟩ : ByteArray)) 0; rw [List.length_replicate] at this; omega⟩
  · have h0 : (0 : Int) ≤ (l.length : Int) := by omega
    simp only [spec_l05Canonical.f, if_pos h0, Int.toNat_natCast, if_pos (show l.length ≤ 17592186044416 by omega)]
    apply Ev_succ
    simp only [spec_l05Canonical.l0, if_pos (show (1 : Int) ≤ 12 by decide)]
    refine cw_rows l hl hin 11 1 (by omega) o _ [] 0 ⟨hs, fun j => ?_⟩ (CwInv.nil 1) (by simp [hlen]) (by simp)
    rw [hm j]
    constructor
    · intro g
      have := hin j g
      refine ⟨g, ?_⟩
      have h1 : ((1 : Nat) : Int) = 1 := rfl
      rw [h1]
      omega
    · exact fun g => g.1
  · rw [ho]
    exact cw_tail l hin o _ 0 (fun j hj => (hm j).1 hj) (by simp) (by omega)

theorem l00In_eq (a b c : Int) : spec_l00In.f a b c = some (decide (b ≤ a ∧ a ≤ c)) := by
  unfold spec_l00In.f; by_cases h : a ≥ b
  · rw [if_pos h]; simp; intro _; exact h
  · rw [if_neg h]; simp; intro h'; omega
theorem within_eq (a b c : Int) : impl_within.f a b c = some (decide (b ≤ a ∧ a ≤ c)) := by
  unfold impl_within.f; by_cases h : a ≥ b
  · rw [if_pos h]; simp; intro _; exact h
  · rw [if_neg h]; simp; intro h'; omega

theorem rd_set (l : List Int) (i j v : Int) (hi : 0 ≤ i) (hil : i < l.length) (hj : 0 ≤ j) : rd (l.set i.toNat v) j = if j = i then v else rd l j := by
  unfold rd
  by_cases e : j = i
  · subst e; rw [if_pos rfl, List.getD_eq_getElem?_getD, List.getElem?_set_self (by omega)]; rfl
  · rw [if_neg e, List.getD_eq_getElem?_getD, List.getElem?_set_ne (by omega), List.getD_eq_getElem?_getD]

theorem ext_rd (a b : List Int) (h : a.length = b.length) (hp : ∀ j : Int, 0 ≤ j → j < a.length → rd a j = rd b j) : a = b := by
  apply List.ext_getElem h
  intro n h1 h2
  have := hp n (by omega) (by omega)
  unfold rd at this
  rw [List.getD_eq_getElem?_getD, List.getD_eq_getElem?_getD, Int.toNat_natCast, List.getElem?_eq_getElem h1, List.getElem?_eq_getElem h2] at this
  simpa using this
theorem toInt64S_loop (l : List Int) (hl : (l.length : Int) ≤ 4611686018427387904) (d : Nat) : ∀ (m : List Int) (i : Int), m.length = l.length → 0 ≤ i → i ≤ l.length → (l.length : Int) - i = d → (∀ j, 0 ≤ j → j < i → rd m j = rd l j) →
    Ev (fun k => laws_toInt64S.l0 k l m i) l := by
  induction d with
  | zero =>
    intro m i hm h0 h1 hd hp
    refine Ev_succ ?_
    simp only [laws_toInt64S.l0, if_neg (show ¬ i < (l.length : Int) by omega)]
    rw [ext_rd m l hm (fun j j0 j1 => hp j j0 (by omega))]
    exact Ev.now _
  | succ d ih =>
    intro m i hm h0 h1 hd hp
    refine Ev_succ ?_
    simp (disch := omega) only [laws_toInt64S.l0, w64]
    simp only [if_pos (show i < (l.length : Int) by omega), if_pos h0, if_pos (show i < (m.length : Int) by omega)]
    refine ih (m.set i.toNat (rd l i)) (i + 1) (by rw [List.length_set]; exact hm) (by omega) (by omega) (by omega) (fun j j0 j1 => ?_)
    rw [rd_set m i j _ h0 (by omega) j0]
    by_cases e : j = i
    · rw [if_pos e, e]
    · rw [if_neg e]; exact hp j j0 (by omega)
theorem toInt64S_ev (l : List Int) (hl : (l.length : Int) ≤ 1048576) : Ev (fun k => laws_toInt64S.f k l) l := by
  simp only [laws_toInt64S.f, if_pos (show 0 ≤ (l.length : Int) by omega), if_pos (show ((l.length : Int)).toNat ≤ 35184372088832 by omega)]
  exact toInt64S_loop l (by omega) l.length _ 0 (by simp) (by omega) (by omega) (by omega) (fun j _ _ => by omega)

theorem eqInt64S_loop (l : List Int) (hl : (l.length : Int) ≤ 4611686018427387904) (d : Nat) : ∀ i : Int, 0 ≤ i → i ≤ l.length → (l.length : Int) - i = d → Ev (fun k => laws_eqInt64S.l0 k l l i) true := by
  induction d with
  | zero =>
    intro i h0 h1 hd
    refine Ev_succ ?_
    simp only [laws_eqInt64S.l0, if_neg (show ¬ i < (l.length : Int) by omega)]
    exact Ev.now _
  | succ d ih =>
    intro i h0 h1 hd
    refine Ev_succ ?_
    simp (disch := omega) only [laws_eqInt64S.l0, w64]
    simp only [if_pos (show i < (l.length : Int) by omega), if_pos h0, if_true]
    exact ih (i + 1) (by omega) (by omega) (by omega)
theorem eqInt64S_self (l : List Int) (hl : (l.length : Int) ≤ 4611686018427387904) : Ev (fun k => laws_eqInt64S.f k l l) true := by
  simp only [laws_eqInt64S.f, if_true]
  exact eqInt64S_loop l hl l.length 0 (by omega) (by omega) (by omega)

theorem markAny_loop (n : Int) (hn : n ≤ 4611686018427387904) (s : Int) (h0 : -1000000000000000 ≤ s) (h1 : s ≤ 1000000000000000) (d : Nat) : ∀ (l : List Int) (i : Int), (l.length : Int) = n → 0 ≤ i → i ≤ n → n - i = d →
    ∃ m, Ev (fun k => laws_markInt64S.l0 k l (s + i) i) (s + n, m) ∧ (m.length : Int) = n := by
  induction d with
  | zero =>
    intro l i hl h0 h1 hd
    obtain rfl : i = n := by omega
    refine ⟨l, Ev_succ ?_, hl⟩
    simp only [laws_markInt64S.l0, if_neg (show ¬ i < (l.length : Int) by omega)]
    exact Ev.now _
  | succ d ih =>
    intro l i hl h0 h1 hd
    obtain ⟨m, hm, g⟩ := ih (l.set i.toNat (s + i)) (i + 1) (by rw [List.length_set]; exact hl) (by omega) (by omega) (by omega)
    refine ⟨m, Ev_succ ?_, g⟩
    simp (disch := omega) only [laws_markInt64S.l0, w64]
    simp only [if_pos (show i < (l.length : Int) by omega), if_pos h0]
    rw [show s + i + 1 = s + (i + 1) by omega]
    exact hm
theorem markAny_ev (l : List Int) (hl : (l.length : Int) ≤ 4611686018427387904) (s : Int) (h0 : -1000000000000000 ≤ s) (h1 : s ≤ 1000000000000000) : ∃ m, Ev (fun k => laws_markInt64S.f k l s) (s + (l.length : Int), m) := by
  obtain ⟨m, h, -⟩ := markAny_loop l.length hl s h0 h1 l.length l 0 rfl (by omega) (by omega) (by omega)
  rw [show s + (0 : Int) = s by omega] at h
  exact ⟨m, h⟩

theorem markText_loop (d : Nat) : ∀ (x : Nat) (t : ByteArray), x ≤ d → t.size + x ≤ 1000000000000000 → ∃ r, Ev (fun k => laws_markText.l0 k (x : Int) t) r := by
  induction d with
  | zero =>
    intro x t hx ht
    obtain rfl : x = 0 := by omega
    refine ⟨(⟨#[109]⟩ : ByteArray) ++ t, Ev_succ ?_⟩
    simp only [laws_markText.l0, if_neg (show ¬ ((0 : Nat) : Int) > 0 by omega), if_pos (show 1 + t.size ≤ 9223372036854775807 by omega)]
    exact Ev.now _
  | succ d ih =>
    intro x t hx ht
    by_cases c : x = 0
    · subst c
      refine ⟨(⟨#[109]⟩ : ByteArray) ++ t, Ev_succ ?_⟩
      simp only [laws_markText.l0, if_neg (show ¬ ((0 : Nat) : Int) > 0 by omega), if_pos (show 1 + t.size ≤ 9223372036854775807 by omega)]
      exact Ev.now _
    · have c0 : (x : Int) > 0 := by omega
      have e1 : Int.tdiv (x : Int) 10 = ((x / 10 : Nat) : Int) := by rw [Int.tdiv_eq_ediv_of_nonneg (by omega)]; omega
      have b1 : -9223372036854775808 ≤ ((x / 10 : Nat) : Int) ∧ ((x / 10 : Nat) : Int) ≤ 9223372036854775807 := by omega
      have hz : ∀ v : Int, (strOfNums [v]).size + t.size ≤ 9223372036854775807 := fun v => by rw [sn_size]; show 1 + _ ≤ _; omega
      obtain ⟨r, hr⟩ := ih (x / 10) (strOfNums [(wrap64 (48 + (Int.tmod (x : Int) 10))) % 256] ++ t) (by omega) (by rw [ByteArray.size_append, sn_size]; show 1 + _ + _ ≤ _; omega)
      refine ⟨r, Ev_succ ?_⟩
      simp only [laws_markText.l0, if_pos c0, Option.bind_some, if_pos (hz _), e1, w64 b1.1 b1.2]
      exact hr
theorem markText_ev (x : Int) (h0 : 1 ≤ x) (h1 : x ≤ 100000000000) : ∃ r, Ev (fun k => laws_markText.f k x) r := by
  obtain ⟨n, rfl⟩ : ∃ n : Nat, x = n := ⟨x.toNat, by omega⟩
  obtain ⟨r, hr⟩ := markText_loop n n (⟨#[]⟩ : ByteArray) (Nat.le_refl _) (by show 0 + n ≤ _; omega)
  refine ⟨r, ?_⟩
  simp only [laws_markText.f, if_neg (show ¬ (n : Int) ≤ 0 by omega)]
  exact hr
theorem markStr_loop (n : Int) (hn : n ≤ 1000000000) (d : Nat) : ∀ (l : List ByteArray) (i : Int), (l.length : Int) = n → 0 ≤ i → i ≤ n → n - i = d → (∀ j, 0 ≤ j → j < i → Ev (fun k => laws_markText.f k (1 + j)) (rdOf ByteArray.empty l j)) →
    ∃ m, Ev (fun k => laws_markStringS.l0 k l (1 + i) i) (1 + n, m) ∧ (m.length : Int) = n ∧ ∀ j, 0 ≤ j → j < n → Ev (fun k => laws_markText.f k (1 + j)) (rdOf ByteArray.empty m j) := by
  induction d with
  | zero =>
    intro l i hl h0 h1 hd hp
    obtain rfl : i = n := by omega
    refine ⟨l, Ev_succ ?_, hl, hp⟩
    simp only [laws_markStringS.l0, if_neg (show ¬ i < (l.length : Int) by omega)]
    exact Ev.now _
  | succ d ih =>
    intro l i hl h0 h1 hd hp
    obtain ⟨t, ht⟩ := markText_ev (1 + i) (by omega) (by omega)
    obtain ⟨m, hm, g⟩ := ih (l.set i.toNat t) (i + 1) (by rw [List.length_set]; exact hl) (by omega) (by omega) (by omega) (fun j g0 g1 => by
      rw [rs_set l i j _ h0 (by omega) g0]
      by_cases e : j = i
      · rw [if_pos e, e]; exact ht
      · rw [if_neg e]; exact hp j g0 (by omega))
    have b1 : -9223372036854775808 ≤ 1 + i + 1 ∧ 1 + i + 1 ≤ 9223372036854775807 := by omega
    have b2 : -9223372036854775808 ≤ i + 1 ∧ i + 1 ≤ 9223372036854775807 := by omega
    refine ⟨m, Ev_succ ?_, g⟩
    simp only [laws_markStringS.l0, if_pos (show i < (l.length : Int) by omega)]
    refine Ev.bind ht ?_
    simp only [if_pos h0, w64 b1.1 b1.2, w64 b2.1 b2.2]
    rw [show 1 + i + 1 = 1 + (i + 1) by omega]
    exact hm
theorem markStr_ev (l : List ByteArray) (hn : (l.length : Int) ≤ 1000000000) :
    ∃ m, Ev (fun k => laws_markStringS.f k l 1) (1 + (l.length : Int), m) ∧ m.length = l.length ∧ ∀ j, 0 ≤ j → j < (l.length : Int) → Ev (fun k => laws_markText.f k (1 + j)) (rdOf ByteArray.empty m j) := by
  obtain ⟨m, h, h1, h2⟩ := markStr_loop l.length hn l.length l 0 rfl (by omega) (by omega) (by omega) (fun j _ _ => by omega)
  exact ⟨m, h, by omega, h2⟩
theorem heldStr_loop (m : List ByteArray) (hn : (m.length : Int) ≤ 1000000000) (hp : ∀ j, 0 ≤ j → j < (m.length : Int) → Ev (fun k => laws_markText.f k (1 + j)) (rdOf ByteArray.empty m j)) (d : Nat) : ∀ i : Int, 0 ≤ i → i ≤ m.length → (m.length : Int) - i = d →
    Ev (fun k => laws_heldStringS.l0 k m (1 + i) i) (1 + (m.length : Int)) := by
  induction d with
  | zero =>
    intro i h0 h1 hd
    have e : i = (m.length : Int) := by omega
    refine Ev_succ ?_
    simp only [laws_heldStringS.l0, if_neg (show ¬ i < (m.length : Int) by omega)]
    rw [e]
    exact Ev.now _
  | succ d ih =>
    intro i h0 h1 hd
    have q : i < (m.length : Int) := by omega
    have b1 : -9223372036854775808 ≤ 1 + i + 1 ∧ 1 + i + 1 ≤ 9223372036854775807 := by omega
    have b2 : -9223372036854775808 ≤ i + 1 ∧ i + 1 ≤ 9223372036854775807 := by omega
    refine Ev_succ ?_
    simp only [laws_heldStringS.l0, if_pos q, if_pos h0]
    refine Ev.bind (hp i h0 q) ?_
    simp only [if_true, w64 b1.1 b1.2, w64 b2.1 b2.2]
    rw [show 1 + i + 1 = 1 + (i + 1) by omega]
    exact ih (i + 1) (by omega) (by omega) (by omega)
theorem heldStr_ev (m : List ByteArray) (hn : (m.length : Int) ≤ 1000000000) (hp : ∀ j, 0 ≤ j → j < (m.length : Int) → Ev (fun k => laws_markText.f k (1 + j)) (rdOf ByteArray.empty m j)) :
    Ev (fun k => laws_heldStringS.f k m 1) (1 + (m.length : Int)) :=
  heldStr_loop m hn hp m.length 0 (by omega) (by omega) (by omega)

theorem cw_areIn (l : List Int) (lo hi : Int) (hl : l.length ≤ 4000000) (d : Nat) : ∀ (i k : Nat), i + d = l.length → d < k → ∃ b, impl_areIn.l0 k lo hi l l.length i = some b ∧ (b = true ↔ ∀ j : Int, (i : Int) ≤ j → j < l.length → lo ≤ rd l j ∧ rd l j ≤ hi) := by
  induction d with
  | zero =>
    intro i k hd hk
    obtain ⟨k, rfl⟩ : ∃ m, k = m + 1 := ⟨k - 1, by omega⟩
    exact ⟨true, by simp only [impl_areIn.l0, if_neg (show ¬ (i : Int) < (l.length : Int) by omega)], by simp only [true_iff]; intro j j0 j1; omega⟩
  | succ d ih =>
    intro i k hd hk
    obtain ⟨k, rfl⟩ : ∃ m, k = m + 1 := ⟨k - 1, by omega⟩
    obtain ⟨r, e, hr⟩ := ih (i + 1) k (by omega) (by omega)
    have q : (i : Int) < (l.length : Int) := by omega
    have q0 : (0 : Int) ≤ i := by omega
    have b2 : -9223372036854775808 ≤ ((i + 1 : Nat) : Int) ∧ ((i + 1 : Nat) : Int) ≤ 9223372036854775807 := by omega
    have b3 : (i : Int) + 1 = ((i + 1 : Nat) : Int) := by omega
    by_cases c : lo ≤ rd l i ∧ rd l i ≤ hi
    · refine ⟨r, by simp only [impl_areIn.l0, if_pos q, if_pos q0, within_eq, Option.bind_some, decide_eq_true c, if_true, b3, w64 b2.1 b2.2, e], ?_⟩
      rw [hr]
      exact ⟨fun g j j0 j1 => by
        by_cases z : j = i
        · rw [z]; exact c
        · exact g j (by omega) j1, fun g j j0 j1 => g j (by omega) j1⟩
    · refine ⟨false, by simp only [impl_areIn.l0, if_pos q, if_pos q0, within_eq, Option.bind_some, decide_eq_false c, Bool.false_eq_true, if_false], ?_⟩
      simp only [Bool.false_eq_true, false_iff]; exact fun g => c (g i (by omega) q)
theorem cw_in_loop (l : List Int) (hl : l.length ≤ 16) (r : List ByteArray × Bool) (hr : (∀ j : Nat, j < l.length → 1 ≤ rd l (j : Int) ∧ rd l (j : Int) ≤ 12) → Ev (fun k => spec_l05Canonical.f k l) r) (hn : ¬ (∀ j : Nat, j < l.length → 1 ≤ rd l (j : Int) ∧ rd l (j : Int) ≤ 12) → r = ([], false)) (m : Nat) :
    ∀ i : Nat, i + m = l.length → (∀ j : Nat, j < i → 1 ≤ rd l (j : Int) ∧ rd l (j : Int) ≤ 12) → Ev (fun k => spec_CanonicalWords.l0 k l (i : Int)) r := by
  induction m with
  | zero =>
    intro i hi hlo
    have c1 : ¬ (i : Int) < (l.length : Int) := by omega
    apply Ev_succ
    simp only [spec_CanonicalWords.l0, if_neg c1]
    exact Ev.bind (hr (fun j hj => hlo j (by omega))) (Ev.now _)
  | succ m ih =>
    intro i hi hlo
    have c1 : (i : Int) < (l.length : Int) := by omega
    have c2 : (0 : Int) ≤ (i : Int) := by omega
    have e1 : wrap64 ((i : Int) + 1) = ((i + 1 : Nat) : Int) := by unfold wrap64; omega
    apply Ev_succ
    by_cases c : 1 ≤ rd l (i : Int) ∧ rd l (i : Int) ≤ 12
    · simp only [spec_CanonicalWords.l0, if_pos c1, if_pos c2, l00In_eq, Option.bind_some, decide_eq_true c, if_true, e1]
      refine ih (i + 1) (by clear e1; omega) (fun j hj => ?_)
      by_cases e : j = i
      · rw [e]; exact c
      · exact hlo j (by clear e1; omega)
    · simp only [spec_CanonicalWords.l0, if_pos c1, if_pos c2, l00In_eq, Option.bind_some, decide_eq_false c, Bool.false_eq_true, if_false]
      rw [hn (fun g => c (g i (by clear e1; omega)))]
      exact Ev.now _
theorem cw_all (l : List Int) : ∃ r : List ByteArray × Bool, Ev (fun k => spec_CanonicalWords.f k l) r ∧ impl_CanonicalWords.f l = some r ∧ r.1.length ≤ 16 := by
  by_cases c1 : (l.length : Int) < 2
  · refine ⟨([], false), ?_, by rw [impl_CanonicalWords.f, if_pos c1], by simp⟩
    simp only [spec_CanonicalWords.f, if_pos c1]
    apply Ev_succ
    simp only [spec_CanonicalWords.j0, if_true]
    exact Ev.now _
  by_cases c2 : (l.length : Int) > 16
  · refine ⟨([], false), ?_, by rw [impl_CanonicalWords.f, if_neg c1, if_pos c2], by simp⟩
    simp only [spec_CanonicalWords.f, if_neg c1, decide_eq_true c2]
    apply Ev_succ
    simp only [spec_CanonicalWords.j0, if_true]
    exact Ev.now _
  have hl : l.length ≤ 16 := by omega
  obtain ⟨b, hb, hbi⟩ := cw_areIn l 1 12 (by omega) l.length 0 20 (by omega) (by omega)
  have hb2 : impl_areIn.f 20 l 1 12 = some b := hb
  have hin : b = true ↔ ∀ j : Nat, j < l.length → 1 ≤ rd l (j : Int) ∧ rd l (j : Int) ≤ 12 := by
    rw [hbi]
    constructor
    · intro g j hj
      exact g (j : Int) (by omega) (by omega)
    · intro g j h0 h1
      have := g j.toNat (by omega)
      rw [show ((j.toNat : Nat) : Int) = j by omega] at this
      exact this
  have hs : ∀ r, Ev (fun k => spec_CanonicalWords.l0 k l 0) r → Ev (fun k => spec_CanonicalWords.f k l) r := fun r h => by
    simp only [spec_CanonicalWords.f, if_neg c1, decide_eq_false c2]
    apply Ev_succ
    simp only [spec_CanonicalWords.j0, Bool.false_eq_true, if_false]
    exact h
  cases b with
  | false =>
    refine ⟨([], false), hs _ (cw_in_loop l hl _ (fun g => by have := hin.2 g; cases this) (fun _ => rfl) l.length 0 (by omega) (fun j hj => by omega)), ?_, by simp⟩
    rw [impl_CanonicalWords.f, if_neg c1, if_neg c2, hb2]
    rfl
  | true =>
    obtain ⟨r, hr, hi, hrl⟩ := cw_both l (by omega) hl (hin.1 rfl)
    refine ⟨r, hs _ (cw_in_loop l hl _ (fun _ => hr) (fun g => absurd (hin.1 rfl) g) l.length 0 (by omega) (fun j hj => by omega)), ?_, hrl⟩
    rw [impl_CanonicalWords.f, if_neg c1, if_neg c2, hb2]
    exact hi
theorem FnExactCanonicalWords : laws_FnExactCanonicalWords.Pure := by
  intro l h1 h2 h3
  apply Ev.rounds
  simp only [laws_FnExactCanonicalWords.f]
  by_cases hn : (l.length : Int) > 1048576
  · simp only [if_pos hn]; exact Ev.now _
  simp only [if_neg hn]
  have ht := toInt64S_ev l (by omega)
  obtain ⟨r, hA, hB, hrl⟩ := cw_all l
  have he := eqStr_ev r.1 (by omega)
  have hei := eqInt64S_self l (by omega)
  obtain ⟨mi, hmi⟩ := markAny_ev l (by omega) 1 (by omega) (by omega)
  obtain ⟨m, hm, hml, hmp⟩ := markStr_ev r.1 (by omega)
  have hh := heldStr_ev m (by omega) (fun j h0 h1 => hmp j h0 (by omega))
  have n1 : ¬ 1 + (l.length : Int) < 0 := by omega
  have n2 : ¬ 1 + (m.length : Int) < 0 := by omega
  have n3 : 1 + (m.length : Int) = 1 + (r.1.length : Int) := by omega
  refine Ev.bind ht (Ev.bind hA (Ev.bind ht (Ev.bind (Ev_eq (fun _ => hB)) (Ev.bind he ?_))))
  simp only [if_true, bne_self_eq_false]
  apply Ev_succ
  simp only [laws_FnExactCanonicalWords.j0, Bool.false_eq_true, if_false]
  refine Ev.bind ht (Ev.bind hei ?_)
  simp only [if_true]
  refine Ev.bind hmi ?_
  simp only [if_neg n1]
  refine Ev.bind he ?_
  simp only [if_true, bne_self_eq_false]
  apply Ev_succ
  simp only [laws_FnExactCanonicalWords.j1, Bool.false_eq_true, if_false]
  refine Ev.bind hm (Ev.bind hh ?_)
  simp only [if_neg n2, if_pos n3]
  refine Ev.bind ht (Ev.bind (Ev_eq (fun _ => hB)) (Ev.bind he ?_))
  simp only [if_true, bne_self_eq_false]
  apply Ev_succ
  simp only [laws_FnExactCanonicalWords.j2, Bool.false_eq_true, if_false]
  refine Ev.bind hh ?_
  simp only [if_neg n2, if_pos n3]
  exact Ev.now _

end Go.Proofs.Ytkpobdcnggdjaaa.Pure
