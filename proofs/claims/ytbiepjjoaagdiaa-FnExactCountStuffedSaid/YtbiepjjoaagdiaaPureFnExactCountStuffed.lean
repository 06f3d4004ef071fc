/- The law FnExactCountStuffed of the given program holds: for every input that the row lets in the call returns true and leaves its arguments as they were. No condition ahead of it. -/
import Derived.Test.YtbiepjjoaagdiaaPFnExactCountStuffedx4
import Derived.Test.YtbiepjjoaagdiaaMine
namespace Go.Proofs.Ytbiepjjoaagdiaa.Pure
open Go.RowKit Go.Proofs.Ytbiepjjoaagdiaa.PFnExactCountStuffed Go.Proofs.YtbiepjjoaagdiaaW.PrintWords Go.Proofs.YtbiepjjoaagdiaaW.PrintLast Go.Proofs.YtbiepjjoaagdiaaW.PrintMore Go.Proofs.Ytbiepjjoaagdiaa.Mine
set_option linter.unusedVariables false
set_option linter.unusedSimpArgs false
theorem l00In_eq (a b c : Int) : spec_l00In.f a b c = some (decide (b ≤ a ∧ a ≤ c)) := by
  unfold spec_l00In.f; by_cases h : a ≥ b
  · rw [if_pos h]; simp; intro _; exact h
  · rw [if_neg h]; simp; intro h'; omega
theorem within_eq (a b c : Int) : impl_within.f a b c = some (decide (b ≤ a ∧ a ≤ c)) := by
  unfold impl_within.f; by_cases h : a ≥ b
  · rw [if_pos h]; simp; intro _; exact h
  · rw [if_neg h]; simp; intro h'; omega

theorem eqInt64S_loop (l : List Int) (hl : (l.length : Int) ≤ 4611686018427387904) (d : Nat) : ∀ i : Int, 0 ≤ i → i ≤ l.length → (l.length : Int) - i = d → Ev (fun k => laws_eqInt64S.l0 k l l i) true := by
  induction d with
  | zero =>
    intro i h0 h1 hd
    refine Ev_succ ?_
    simp only [laws_eqInt64S.l0, if_neg (show ¬ i < (l.length : Int) by omega)]
    exact Ev.now _
  | succ d ih =>
    intro i h0 h1 hd
    refine Ev_succ ?_
    simp (disch := omega) only [laws_eqInt64S.l0, w64]
    simp only [if_pos (show i < (l.length : Int) by omega), if_pos h0, if_true]
    exact ih (i + 1) (by omega) (by omega) (by omega)
theorem eqInt64S_self (l : List Int) (hl : (l.length : Int) ≤ 4611686018427387904) : Ev (fun k => laws_eqInt64S.f k l l) true := by
  simp only [laws_eqInt64S.f, if_true]
  exact eqInt64S_loop l hl l.length 0 (by omega) (by omega) (by omega)

theorem rd_set (l : List Int) (i j v : Int) (hi : 0 ≤ i) (hil : i < l.length) (hj : 0 ≤ j) : rd (l.set i.toNat v) j = if j = i then v else rd l j := by
  unfold rd
  by_cases e : j = i
  · subst e; rw [if_pos rfl, List.getD_eq_getElem?_getD, List.getElem?_set_self (by omega)]; rfl
  · rw [if_neg e, List.getD_eq_getElem?_getD, List.getElem?_set_ne (by omega), List.getD_eq_getElem?_getD]

theorem markHeld_loop (n : Int) (hn : n ≤ 1000000) (s : Int) (h0 : 1 ≤ s) (h1 : s ≤ 1000000) (d : Nat) : ∀ (l : List Int) (i : Int), (l.length : Int) = n → 0 ≤ i → i ≤ n → n - i = d → (∀ j, 0 ≤ j → j < i → rd l j = s + j) →
    ∃ m, Ev (fun k => laws_markInt64S.l0 k l (s + i) i) (s + n, m) ∧ (m.length : Int) = n ∧ ∀ j, 0 ≤ j → j < n → rd m j = s + j := by
  induction d with
  | zero =>
    intro l i hl h0 h1 hd hp
    obtain rfl : i = n := by omega
    refine ⟨l, Ev_succ ?_, hl, hp⟩
    simp only [laws_markInt64S.l0, if_neg (show ¬ i < (l.length : Int) by omega)]
    exact Ev.now _
  | succ d ih =>
    intro l i hl h0 h1 hd hp
    obtain ⟨m, hm, g⟩ := ih (l.set i.toNat (s + i)) (i + 1) (by rw [List.length_set]; exact hl) (by omega) (by omega) (by omega) (fun j g0 g1 => by
      rw [rd_set l i j _ h0 (by omega) g0]
      by_cases e : j = i
      · rw [if_pos e, e]
      · rw [if_neg e]; exact hp j g0 (by omega))
    refine ⟨m, Ev_succ ?_, g⟩
    simp (disch := omega) only [laws_markInt64S.l0, w64]
    simp only [if_pos (show i < (l.length : Int) by omega), if_pos h0]
    rw [show s + i + 1 = s + (i + 1) by omega]
    exact hm
theorem heldHeld_loop (m : List Int) (hn : (m.length : Int) ≤ 1000000) (s : Int) (h0 : 1 ≤ s) (h1 : s ≤ 1000000) (hp : ∀ j, 0 ≤ j → j < (m.length : Int) → rd m j = s + j) (d : Nat) : ∀ i : Int, 0 ≤ i → i ≤ m.length → (m.length : Int) - i = d →
    Ev (fun k => laws_heldInt64S.l0 k m (s + i) i) (s + (m.length : Int)) := by
  induction d with
  | zero =>
    intro i g0 g1 hd
    obtain rfl : i = (m.length : Int) := by omega
    refine Ev_succ ?_
    simp only [laws_heldInt64S.l0, if_neg (show ¬ (m.length : Int) < (m.length : Int) by omega)]
    exact Ev.now _
  | succ d ih =>
    intro i g0 g1 hd
    have q : i < (m.length : Int) := by omega
    refine Ev_succ ?_
    simp (disch := omega) only [laws_heldInt64S.l0, w64]
    simp only [if_pos q, if_pos g0, if_pos (hp i g0 q)]
    rw [show s + i + 1 = s + (i + 1) by omega]
    exact ih (i + 1) (by omega) (by omega) (by omega)
theorem markHeld_ev (l : List Int) (hl : (l.length : Int) ≤ 1000000) (s : Int) (h0 : 1 ≤ s) (h1 : s ≤ 1000000) : ∃ m, Ev (fun k => laws_markInt64S.f k l s) (s + (l.length : Int), m) ∧ Ev (fun k => laws_heldInt64S.f k m s) (s + (l.length : Int)) := by
  obtain ⟨m, h, hm, hp⟩ := markHeld_loop l.length hl s h0 h1 l.length l 0 rfl (by omega) (by omega) (by omega) (fun j _ _ => by omega)
  rw [show s + (0 : Int) = s by omega] at h
  have g := heldHeld_loop m (by omega) s h0 h1 (fun j j0 j1 => hp j j0 (by omega)) m.length 0 (by omega) (by omega) (by omega)
  rw [show s + (0 : Int) = s by omega, hm] at g
  exact ⟨m, h, g⟩

theorem rdN_set (l : List Int) (i j : Nat) (v : Int) (hi : i < l.length) : rd (l.set i v) (j : Int) = if j = i then v else rd l (j : Int) := by
  unfold rd
  rw [Int.toNat_natCast, List.getD_eq_getElem?_getD, List.getElem?_set, List.getD_eq_getElem?_getD]
  by_cases e : i = j
  · subst e; rw [if_pos rfl, if_pos hi, if_pos rfl]; rfl
  · rw [if_neg e, if_neg (fun g => e g.symm)]
theorem rdN_mem (l : List Int) (i : Nat) (hi : i < l.length) : rd l (i : Int) ∈ l := by
  unfold rd
  rw [Int.toNat_natCast, List.getD_eq_getElem?_getD, List.getElem?_eq_getElem hi]
  exact List.getElem_mem hi
theorem sum_set : ∀ (l : List Int) (i : Nat) (x : Int), i < l.length → (l.set i (rd l (i : Int) + x)).sum = l.sum + x
  | [], i, x, h => by simp at h
  | a :: l, 0, x, h => by
    have : rd (a :: l) ((0 : Nat) : Int) = a := rfl
    rw [this, List.set_cons_zero, List.sum_cons, List.sum_cons]; omega
  | a :: l, i + 1, x, h => by
    have e : rd (a :: l) ((i + 1 : Nat) : Int) = rd l (i : Int) := by unfold rd; rw [Int.toNat_natCast, Int.toNat_natCast]; rfl
    have := sum_set l i x (by simpa using h)
    rw [e, List.set_cons_succ, List.sum_cons, List.sum_cons, this]; omega
theorem sum_nonneg : ∀ (l : List Int), (∀ v ∈ l, 0 ≤ v) → 0 ≤ l.sum
  | [], _ => by simp
  | a :: l, h => by
    have h1 := h a (by simp)
    have h2 := sum_nonneg l (fun v hv => h v (by simp [hv]))
    rw [List.sum_cons]; omega
theorem le_sum : ∀ (l : List Int), (∀ v ∈ l, 0 ≤ v) → ∀ v ∈ l, v ≤ l.sum
  | [], _, v, hv => by cases hv
  | a :: l, h, v, hv => by
    have h1 := h a (by simp)
    have h2 := sum_nonneg l (fun v hv => h v (by simp [hv]))
    rw [List.sum_cons]
    rw [List.mem_cons] at hv
    rcases hv with rfl | hv
    · omega
    · have := le_sum l (fun v hv => h v (by simp [hv])) v hv
      omega
theorem sum_take : ∀ (l : List Int) (t : Nat), t < l.length → (l.take (t + 1)).sum = (l.take t).sum + rd l (t : Int)
  | [], t, h => by simp at h
  | a :: l, 0, h => by
    have : rd (a :: l) ((0 : Nat) : Int) = a := rfl
    rw [this]; simp
  | a :: l, t + 1, h => by
    have e : rd (a :: l) ((t + 1 : Nat) : Int) = rd l (t : Int) := by unfold rd; rw [Int.toNat_natCast, Int.toNat_natCast]; rfl
    rw [e, List.take_succ_cons, List.take_succ_cons, List.sum_cons, List.sum_cons, sum_take l t (by simpa using h)]; omega
theorem take_le_sum (l : List Int) (h : ∀ v ∈ l, 0 ≤ v) (t : Nat) : (l.take t).sum ≤ l.sum := by
  have h1 := congrArg List.sum (List.take_append_drop t l)
  rw [List.sum_append] at h1
  have h2 := sum_nonneg (l.drop t) (fun v hv => h v (List.mem_of_mem_drop hv))
  omega
theorem idx_lt {A s r n : Nat} (hr : r < A) (hn : n < s) : r * s + n < A * s := by
  have h1 : (r + 1) * s ≤ A * s := Nat.mul_le_mul_right s hr
  rw [Nat.add_mul, Nat.one_mul] at h1
  omega
theorem idx_inj {s r n r' n' : Nat} (hn : n < s) (hn' : n' < s) (h : r * s + n = r' * s + n') : r = r' ∧ n = n' := by
  rcases Nat.lt_trichotomy r r' with g | g | g
  · have h1 : (r + 1) * s ≤ r' * s := Nat.mul_le_mul_right s g
    rw [Nat.add_mul, Nat.one_mul] at h1
    omega
  · subst g; omega
  · have h1 : (r' + 1) * s ≤ r * s := Nat.mul_le_mul_right s g
    rw [Nat.add_mul, Nat.one_mul] at h1
    omega
/-- the rows of the one side and the flat list of the other -/
structure CRel (A s : Nat) (N : CsM) (y : List Int) : Prop where
  lN : N.length = A
  ly : y.length = A * s
  row : ∀ r, r < A → (csRd N r).length = s + 1
  same : ∀ r, r < A → ∀ n, n < s → rd (csRd N r) (n : Int) = rd y ((r * s + n : Nat) : Int)
  last : ∀ r, r < A → rd (csRd N r) (s : Int) = 0
theorem csRd_put' {A s : Nat} {N : CsM} {y : List Int} (h : CRel A s N y) (r n : Nat) (v : Int) (i : Nat) (hr : r < A) : csRd (csPut N r n v) i = if i = r then (csRd N r).set n v else csRd N i := by
  have hl : r < N.length := by rw [h.lN]; exact hr
  unfold csPut csRd
  rw [List.getD_eq_getElem?_getD, List.getElem?_set]
  by_cases e : r = i
  · subst e; rw [if_pos rfl, if_pos rfl, if_pos hl]; rfl
  · rw [if_neg e, if_neg (fun g => e g.symm), ← List.getD_eq_getElem?_getD]
theorem CRel.add {A s : Nat} {N : CsM} {y : List Int} (h : CRel A s N y) {r n : Nat} (x : Int) (hr : r < A) (hn : n < s) : CRel A s (csAdd N r n x) (y.set (r * s + n) (wrap64 (rd y ((r * s + n : Nat) : Int) + x))) := by
  have hi := idx_lt hr hn
  have hy := h.ly
  have e0 := h.same r hr n hn
  refine ⟨by rw [csAdd, csPut, List.length_set]; exact h.lN, by rw [List.length_set]; exact hy, fun i hi' => ?_, fun i hi' j hj => ?_, fun i hi' => ?_⟩
  · rw [csAdd, csRd_put' h r n _ i hr]
    split
    · rw [List.length_set]; exact h.row r hr
    · exact h.row i hi'
  · rw [csAdd, csRd_put' h r n _ i hr, rdN_set y _ _ _ (by omega), e0]
    by_cases e : i = r
    · subst e
      rw [if_pos rfl, rdN_set _ _ _ _ (by rw [h.row i hi']; omega)]
      by_cases e2 : j = n
      · rw [if_pos e2, if_pos (by rw [e2])]
      · rw [if_neg e2, if_neg (by omega)]
        exact h.same i hi' j hj
    · rw [if_neg e, if_neg (fun g => e (idx_inj hj hn g).1)]
      exact h.same i hi' j hj
  · rw [csAdd, csRd_put' h r n _ i hr]
    by_cases e : i = r
    · subst e
      rw [if_pos rfl]
      have := rdN_set (csRd N i) n s (wrap64 (rd (csRd N i) (n : Int) + x)) (by rw [h.row i hi']; omega)
      rw [this, if_neg (by omega)]
      exact h.last i hi'
    · rw [if_neg e]; exact h.last i hi'
theorem CRel.zero {A s : Nat} {N : CsM} {y : List Int} (h : CRel A s N y) (hb : ∀ v ∈ y, 0 ≤ v ∧ v ≤ 4611686018427387904) {r n : Nat} (hr : r < A) (hn : n < s + 1) : CRel A s (csAdd N r n 0) y := by
  have hv : wrap64 (rd (csRd N r) (n : Int) + 0) = rd (csRd N r) (n : Int) := by
    by_cases c : n < s
    · rw [h.same r hr n c]
      have := hb _ (rdN_mem y (r * s + n) (by rw [h.ly]; exact idx_lt hr c))
      unfold wrap64; omega
    · obtain rfl : n = s := by omega
      rw [h.last r hr]; unfold wrap64; omega
  have hg : ∀ i, i < A → ∀ j : Nat, rd (csRd (csAdd N r n 0) i) (j : Int) = rd (csRd N i) (j : Int) := fun i hi j => by
    rw [csAdd, hv, csRd_put' h r n _ i hr]
    by_cases e : i = r
    · subst e
      rw [if_pos rfl, rdN_set _ _ _ _ (by rw [h.row i hi]; omega)]
      by_cases e2 : j = n
      · rw [if_pos e2, e2]
      · rw [if_neg e2]
    · rw [if_neg e]
  refine ⟨by rw [csAdd, csPut, List.length_set]; exact h.lN, h.ly, fun i hi => ?_, fun i hi j hj => by rw [hg i hi j]; exact h.same i hi j hj, fun i hi => by rw [hg i hi s]; exact h.last i hi⟩
  rw [csAdd, csRd_put' h r n _ i hr]
  split
  · rw [List.length_set]; exact h.row r hr
  · exact h.row i hi
theorem cs_add1 (y : List Int) (i : Nat) (x : Int) (hi : i < y.length) (hn : ∀ v ∈ y, 0 ≤ v) (hx : 0 ≤ x) (hb : y.sum + x ≤ 4611686018427387904) :
    (∀ v ∈ y.set i (wrap64 (rd y (i : Int) + x)), 0 ≤ v) ∧ (y.set i (wrap64 (rd y (i : Int) + x))).sum = y.sum + x ∧ ∀ j : Nat, rd (y.set i (wrap64 (rd y (i : Int) + x))) (j : Int) ≠ 0 → rd y (j : Int) ≠ 0 ∨ j = i := by
  have h1 := rdN_mem y i hi
  have h2 := hn _ h1
  have h3 := le_sum y hn _ h1
  have e : wrap64 (rd y (i : Int) + x) = rd y (i : Int) + x := by unfold wrap64; omega
  rw [e]
  refine ⟨fun v hv => ?_, sum_set y i x hi, fun j hj => ?_⟩
  · rcases List.mem_or_eq_of_mem_set hv with g | g
    · exact hn v g
    · omega
  · rw [rdN_set y i j _ hi] at hj
    by_cases g : j = i
    · exact .inr g
    · rw [if_neg g] at hj; exact .inl hj
structure CNx (A s k : Nat) (y : List Int) (t : Int) : Prop where
  nn : ∀ v ∈ y, 0 ≤ v
  sm : y.sum = 2 * t
  sp : ∀ r n : Nat, r < A → n < s → rd y ((r * s + n : Nat) : Int) ≠ 0 → n * A + r ≤ k + 1
structure CGood (A s k : Nat) (y : List Int) : Prop where
  ly : y.length = A * s
  nn : ∀ v ∈ y, 0 ≤ v
  sm : y.sum = 2 ^ k
  sp : ∀ r n : Nat, r < A → n < s → rd y ((r * s + n : Nat) : Int) ≠ 0 → n * A + r ≤ k
theorem cs_row (A s k L : Nat) (a1 : Int) (b1 : Int) (hA : 1 ≤ A) (hA2 : A ≤ 10) (hs : 1 ≤ s) (hs2 : s ≤ 61) (hk : k < L) (hL : L ≤ 60) (hLs : ∀ n, n * A + A ≤ L → n + 1 < s) (M : CsM) (x7 : List Int) (hM : CRel A s M x7) (hg : CGood A s k x7) (r : Nat) (hr : r < A) (d : Nat) :
    ∀ n : Nat, n + d = s → ∀ (N : CsM) (y : List Int), CRel A s N y → CNx A s k y ((x7.take (r * s + n)).sum) → ∃ (N' : CsM) (y' : List Int), CRel A s N' y' ∧ CNx A s k y' ((x7.take (r * s + s)).sum) ∧ csRow A r (s + 1) ((csRd M r).drop n) n N = some N' ∧
      ∀ res, Ev (fun q => spec_CountStuffed.l1 q a1 (s : Int) x7 (k : Int) y' ((r + 1 : Nat) : Int) (A : Int) b1) res → Ev (fun q => spec_CountStuffed.l2 q a1 (s : Int) x7 (k : Int) y (r : Int) (n : Int) (A : Int) b1) res := by
  have hp : (2 : Int) ^ k ≤ 2 ^ 59 := by
    have : (2 : Nat) ^ k ≤ 2 ^ 59 := Nat.pow_le_pow_right (by omega) (by omega)
    exact_mod_cast this
  have hrow := hM.row r hr
  have hdrop : ∀ n : Nat, n < s + 1 → (csRd M r).drop n = rd (csRd M r) (n : Int) :: (csRd M r).drop (n + 1) := fun n hn => by
    rw [List.drop_eq_getElem_cons (by omega)]
    congr 1
    unfold rd
    rw [Int.toNat_natCast, List.getD_eq_getElem?_getD, List.getElem?_eq_getElem (by omega)]
    rfl
  have hbd : ∀ (y : List Int) (t : Nat), CNx A s k y ((x7.take t).sum) → ∀ v ∈ y, 0 ≤ v ∧ v ≤ 4611686018427387904 := fun y t h v hv => by
    have h1 := take_le_sum x7 hg.nn t
    have h2 := le_sum y h.nn v hv
    have h3 := h.sm
    have h4 := hg.sm
    exact ⟨h.nn v hv, by omega⟩
  have er : wrap64 ((r : Int) + 1) = ((r + 1 : Nat) : Int) := by unfold wrap64; omega
  induction d with
  | zero =>
    intro n hn N y hN hy
    obtain rfl : n = s := by omega
    have h0 := hN.zero (hbd y _ hy) (r := 0) (n := n) (by omega) (by omega)
    refine ⟨?_, y, ?_, hy, ?_, ?_⟩
    · exact if r + 1 < A then csAdd (csAdd N 0 n 0) (r + 1) n 0 else csAdd N 0 n 0
    · split
      · rename_i c; exact h0.zero (hbd y _ hy) c (by omega)
      · exact h0
    · rw [hdrop n (by omega), hM.last r hr, csRow, List.drop_of_length_le (by omega), csStep]
      by_cases c : r + 1 < A
      · rw [if_pos c, if_pos c, Option.bind_some, csRow]
      · rw [if_neg c, if_neg c, if_neg (by omega), Option.bind_some, csRow]
    · intro res h
      have c1 : ¬ (n : Int) < (n : Int) := by clear er; omega
      apply Ev_succ
      simp only [spec_CountStuffed.l2, if_neg c1, er]
      exact h
  | succ d ih =>
    intro n hn N y hN hy
    have hns : n < s := by omega
    have hi := idx_lt hr hns
    have e1 : wrap64 ((n : Int) + 1) = ((n + 1 : Nat) : Int) := by unfold wrap64; omega
    have em : wrap64 ((r : Int) * (s : Int)) = ((r * s : Nat) : Int) := by
      rw [← Int.natCast_mul]
      have : r * s ≤ 10 * 61 := Nat.mul_le_mul (by omega) hs2
      unfold wrap64; omega
    have e2 : wrap64 (((r * s : Nat) : Int) + (n : Int)) = ((r * s + n : Nat) : Int) := by
      have : r * s ≤ 10 * 61 := Nat.mul_le_mul (by omega) hs2
      clear em er e1
      unfold wrap64; omega
    have c1 : (n : Int) < (s : Int) := by clear er e1 em e2; omega
    have c2 : (0 : Int) ≤ ((r * s + n : Nat) : Int) := by clear er e1 em e2; omega
    have c3 : ((r * s + n : Nat) : Int) < (x7.length : Int) := by have := hg.ly; clear er e1 em e2; omega
    have c4 : (0 : Int) ≤ (n : Int) := by clear er e1 em e2; omega
    have hl : n < y.length := by
      have h1 := idx_lt (A := A) (s := s) (r := 0) (by omega) hns
      have := hN.ly
      clear er e1 em e2
      omega
    have c5 : (n : Int) < (y.length : Int) := by clear er e1 em e2; omega
    have hx := hM.same r hr n hns
    have htk := sum_take x7 (r * s + n) (by have := hg.ly; clear er e1 em e2; omega)
    have hsp := hg.sp r n hr hns
    obtain ⟨x, hxe⟩ : ∃ x, rd x7 ((r * s + n : Nat) : Int) = x := ⟨_, rfl⟩
    rw [hxe] at hx htk hsp
    have hx0 : 0 ≤ x := by rw [← hxe]; exact hg.nn _ (rdN_mem x7 _ (by have := hg.ly; clear er e1 em e2; omega))
    rw [hdrop n (by clear er e1 em e2; omega), hx, csRow]
    by_cases cz : x = 0
    · rw [cz, Int.add_zero] at htk
      have hy2 : CNx A s k y ((x7.take (r * s + (n + 1))).sum) := by rw [show r * s + (n + 1) = r * s + n + 1 by clear er e1 em e2; omega, htk]; exact hy
      have h0 := hN.zero (hbd y _ hy) (r := 0) (n := n) (by clear er e1 em e2; omega) (by clear er e1 em e2; omega)
      have key : ∃ N2, csStep A r n (s + 1) x N = some N2 ∧ CRel A s N2 y := by
        rw [csStep, cz]
        by_cases c : r + 1 < A
        · rw [if_pos c]; exact ⟨_, rfl, h0.zero (hbd y _ hy) c (by clear er e1 em e2; omega)⟩
        · rw [if_neg c, if_neg (by clear er e1 em e2; omega)]; exact ⟨_, rfl, h0⟩
      obtain ⟨N2, k1, k2⟩ := key
      obtain ⟨N', y', g1, g2, g3, g4⟩ := ih (n + 1) (by clear er e1 em e2; omega) N2 y k2 hy2
      refine ⟨N', y', g1, g2, by rw [k1, Option.bind_some, g3], fun res h => ?_⟩
      apply Ev_succ
      simp only [spec_CountStuffed.l2, em, e2, if_pos c1, if_pos c2, if_pos c3, hxe, if_pos cz, e1]
      exact g4 res h
    · have hsm := hy.sm
      have h1 := take_le_sum x7 hg.nn (r * s + n + 1)
      have h4 := hg.sm
      have hspx := hsp cz
      -- the first addition
      have i0 : 0 * s + n = n := by rw [Nat.zero_mul, Nat.zero_add]
      obtain ⟨p1, p2, p3⟩ := cs_add1 y n x hl hy.nn hx0 (by clear er e1 em e2; omega)
      have hN1 := hN.add (r := 0) (n := n) x (by clear er e1 em e2; omega) hns
      rw [i0] at hN1
      obtain ⟨y1, hy1⟩ : ∃ y1, y.set n (wrap64 (rd y (n : Int) + x)) = y1 := ⟨_, rfl⟩
      rw [hy1] at p1 p2 p3 hN1
      have hly1 := hN1.ly
      -- the second one, at (r2, n2)
      have key : ∃ r2 n2 : Nat, r2 < A ∧ n2 < s ∧ n2 * A + r2 ≤ k + 1 ∧ csStep A r n (s + 1) x N = some (csAdd (csAdd N 0 n x) r2 n2 x) ∧
          ∀ res, Ev (fun q => spec_CountStuffed.l2 q a1 (s : Int) x7 (k : Int) (y1.set (r2 * s + n2) (wrap64 (rd y1 ((r2 * s + n2 : Nat) : Int) + x))) (r : Int) ((n + 1 : Nat) : Int) (A : Int) b1) res → Ev (fun q => spec_CountStuffed.l2 q a1 (s : Int) x7 (k : Int) y (r : Int) (n : Int) (A : Int) b1) res := by
        by_cases c : r + 1 < A
        · have hi2 := idx_lt c hns
          have em2 : wrap64 (((r + 1 : Nat) : Int) * (s : Int)) = (((r + 1) * s : Nat) : Int) := by
            rw [← Int.natCast_mul]
            have : (r + 1) * s ≤ 10 * 61 := Nat.mul_le_mul (by clear er e1 em e2; omega) hs2
            clear er e1 em e2
            unfold wrap64; omega
          have e3 : wrap64 ((((r + 1) * s : Nat) : Int) + (n : Int)) = (((r + 1) * s + n : Nat) : Int) := by
            have : (r + 1) * s ≤ 10 * 61 := Nat.mul_le_mul (by clear er e1 em e2 em2; omega) hs2
            clear em er e1 e2 em2
            unfold wrap64; omega
          have c6 : ((r + 1 : Nat) : Int) < (A : Int) := by clear er e1 em e2 em2 e3; omega
          have c7 : (0 : Int) ≤ (((r + 1) * s + n : Nat) : Int) := by clear er e1 em e2 em2 e3; omega
          have c8 : (((r + 1) * s + n : Nat) : Int) < (y.length : Int) := by have := hN.ly; clear er e1 em e2 em2 e3; omega
          refine ⟨r + 1, n, c, hns, by clear er e1 em e2 em2 e3; omega, by rw [csStep, if_pos c], fun res h => ?_⟩
          apply Ev_succ
          simp only [spec_CountStuffed.l2, em, e2, if_pos c1, if_pos c2, if_pos c3, hxe, if_neg cz, if_pos c4, if_pos c5, Option.bind_some, er, if_pos c6, em2, e3, if_pos c7, if_pos c8, e1, Int.toNat_natCast, hy1]
          exact h
        · have hn1 : n + 1 < s := hLs n (by clear er e1 em e2; omega)
          have c6 : ¬ ((r + 1 : Nat) : Int) < (A : Int) := by clear er e1 em e2; omega
          have c7 : (0 : Int) ≤ ((n + 1 : Nat) : Int) := by clear er e1 em e2; omega
          have hi2 := idx_lt (A := A) (s := s) (r := 0) (by clear er e1 em e2; omega) hn1
          rw [Nat.zero_mul, Nat.zero_add] at hi2
          have c8 : ((n + 1 : Nat) : Int) < (y.length : Int) := by have := hN.ly; clear er e1 em e2; omega
          have hmul : (n + 1) * A = n * A + A := by rw [Nat.add_mul, Nat.one_mul]
          refine ⟨0, n + 1, by clear er e1 em e2; omega, hn1, by rw [hmul]; clear er e1 em e2; omega, by rw [csStep, if_neg c, if_pos (by clear er e1 em e2; omega), if_pos (by clear er e1 em e2; omega)], fun res h => ?_⟩
          rw [Nat.zero_mul, Nat.zero_add] at h
          apply Ev_succ
          simp only [spec_CountStuffed.l2, em, e2, if_pos c1, if_pos c2, if_pos c3, hxe, if_neg cz, if_pos c4, if_pos c5, Option.bind_some, er, if_neg c6, e1, if_pos c7, if_pos c8, Int.toNat_natCast, hy1]
          exact h
      obtain ⟨r2, n2, hr2, hn2, hb2, hst, hsp2⟩ := key
      have hi2 := idx_lt hr2 hn2
      obtain ⟨q1, q2, q3⟩ := cs_add1 y1 (r2 * s + n2) x (by clear er e1 em e2; omega) p1 hx0 (by clear er e1 em e2; omega)
      have hN2 := hN1.add (r := r2) (n := n2) x hr2 hn2
      have hy3 : CNx A s k (y1.set (r2 * s + n2) (wrap64 (rd y1 ((r2 * s + n2 : Nat) : Int) + x))) ((x7.take (r * s + (n + 1))).sum) := by
        refine ⟨q1, ?_, fun r' n' h1 h2 h3 => ?_⟩
        · rw [q2, p2, show r * s + (n + 1) = r * s + n + 1 by clear er e1 em e2; omega, htk]; clear er e1 em e2; omega
        · rcases q3 _ h3 with g | g
          · rcases p3 _ g with g | g
            · exact hy.sp r' n' h1 h2 g
            · obtain ⟨rfl, rfl⟩ := idx_inj h2 hns (show r' * s + n' = 0 * s + n by rw [i0]; exact g)
              clear er e1 em e2
              omega
          · obtain ⟨rfl, rfl⟩ := idx_inj h2 hn2 g
            exact hb2
      obtain ⟨N', y', g1, g2, g3, g4⟩ := ih (n + 1) (by clear er e1 em e2; omega) _ _ hN2 hy3
      exact ⟨N', y', g1, g2, by rw [hst, Option.bind_some, g3], fun res h => hsp2 res (g4 res h)⟩
theorem cs_rows (A s k L : Nat) (a1 : Int) (b1 : Int) (hA : 1 ≤ A) (hA2 : A ≤ 10) (hs : 1 ≤ s) (hs2 : s ≤ 61) (hk : k < L) (hL : L ≤ 60) (hLs : ∀ n, n * A + A ≤ L → n + 1 < s) (M : CsM) (x7 : List Int) (hM : CRel A s M x7) (hg : CGood A s k x7) (e : Nat) :
    ∀ r : Nat, r + e = A → ∀ (N : CsM) (y : List Int), CRel A s N y → CNx A s k y ((x7.take (r * s)).sum) → ∃ (N' : CsM) (y' : List Int), CRel A s N' y' ∧ CNx A s k y' x7.sum ∧ csAll A (s + 1) (M.drop r) r N = some N' ∧
      ∀ res, Ev (fun q => spec_CountStuffed.l0 q a1 (s : Int) y' ((k + 1 : Nat) : Int) (A : Int) b1) res → Ev (fun q => spec_CountStuffed.l1 q a1 (s : Int) x7 (k : Int) y (r : Int) (A : Int) b1) res := by
  induction e with
  | zero =>
    intro r hr N y hN hy
    obtain rfl : r = A := by omega
    have ek : wrap64 ((k : Int) + 1) = ((k + 1 : Nat) : Int) := by unfold wrap64; omega
    have c1 : ¬ (r : Int) < (r : Int) := by clear ek; omega
    rw [List.take_of_length_le (by rw [hg.ly]; exact Nat.le_refl _)] at hy
    refine ⟨N, y, hN, hy, by rw [List.drop_of_length_le (by rw [hM.lN]; exact Nat.le_refl _), csAll], fun res h => ?_⟩
    apply Ev_succ
    simp only [spec_CountStuffed.l1, if_neg c1, ek]
    exact h
  | succ e ih =>
    intro r hr N y hN hy
    have hra : r < A := by omega
    obtain ⟨N1, y1, g1, g2, g3, g4⟩ := cs_row A s k L a1 b1 hA hA2 hs hs2 hk hL hLs M x7 hM hg r hra s 0 (by omega) N y hN (by rw [Nat.add_zero]; exact hy)
    rw [show r * s + s = (r + 1) * s by rw [Nat.add_mul, Nat.one_mul]] at g2
    obtain ⟨N2, y2, h1, h2, h3, h4⟩ := ih (r + 1) (by omega) N1 y1 g1 g2
    have hd : M.drop r = csRd M r :: M.drop (r + 1) := by
      have hl : r < M.length := by rw [hM.lN]; exact hra
      rw [List.drop_eq_getElem_cons hl]
      congr 1
      unfold csRd
      rw [List.getD_eq_getElem?_getD, List.getElem?_eq_getElem hl]
      rfl
    refine ⟨N2, y2, h1, h2, ?_, fun res h => ?_⟩
    · rw [List.drop_zero] at g3
      rw [hd, csAll, g3, Option.bind_some, h3]
    · have c1 : (r : Int) < (A : Int) := by omega
      apply Ev_succ
      simp only [spec_CountStuffed.l1, if_pos c1]
      exact g4 res (h4 res h)
theorem rd_rep (n i : Nat) : rd (List.replicate n (0 : Int)) (i : Int) = 0 := by
  unfold rd
  rw [Int.toNat_natCast, List.getD_eq_getElem?_getD, List.getElem?_replicate]
  split <;> rfl
theorem cs_zrel (A s : Nat) : CRel A s (csZeros A (s + 1)) (List.replicate (A * s) 0) := by
  have e : ∀ r, r < A → csRd (csZeros A (s + 1)) r = List.replicate (s + 1) 0 := fun r hr => by
    unfold csRd csZeros
    rw [List.getD_eq_getElem?_getD, List.getElem?_replicate, if_pos hr]; rfl
  exact ⟨by simp [csZeros], by simp, fun r hr => by rw [e r hr]; simp, fun r hr n hn => by rw [e r hr, rd_rep, rd_rep], fun r hr => by rw [e r hr, rd_rep]⟩
theorem sum_rep (n : Nat) : (List.replicate n (0 : Int)).sum = 0 := by
  induction n with
  | zero => rfl
  | succ n ih => rw [List.replicate_succ, List.sum_cons, ih]; rfl
theorem cs_iter (A s L : Nat) (b1 : Int) (hA : 1 ≤ A) (hA2 : A ≤ 10) (hs : 1 ≤ s) (hs2 : s ≤ 61) (hL : L ≤ 60) (hLs : ∀ n, n * A + A ≤ L → n + 1 < s) (e : Nat) :
    ∀ k : Nat, k + e = L → ∀ (M : CsM) (x7 : List Int), CRel A s M x7 → CGood A s k x7 → ∃ (F : CsM) (x' : List Int), CRel A s F x' ∧ csIter A (s + 1) e M = some F ∧
      ∀ res, Ev (fun q => spec_CountStuffed.l3 q (s : Int) x' (List.replicate s 0) 0 (A : Int) b1) res → Ev (fun q => spec_CountStuffed.l0 q (L : Int) (s : Int) x7 (k : Int) (A : Int) b1) res := by
  induction e with
  | zero =>
    intro k hk M x7 hM hg
    obtain rfl : k = L := by omega
    refine ⟨M, x7, hM, rfl, fun res h => ?_⟩
    have c1 : ¬ (k : Int) < (k : Int) := by omega
    have c2 : (0 : Int) ≤ (s : Int) := by omega
    have c3 : s ≤ 35184372088832 := by omega
    apply Ev_succ
    simp only [spec_CountStuffed.l0, if_neg c1, if_pos c2, Int.toNat_natCast, if_pos c3]
    exact h
  | succ e ih =>
    intro k hk M x7 hM hg
    have hkL : k < L := by omega
    have has : A * s ≤ 10 * 61 := Nat.mul_le_mul hA2 hs2
    have em : wrap64 ((A : Int) * (s : Int)) = ((A * s : Nat) : Int) := by
      rw [← Int.natCast_mul]; unfold wrap64; omega
    have hnx : CNx A s k (List.replicate (A * s) 0) ((x7.take (0 * s)).sum) := by
      refine ⟨fun v hv => ?_, by rw [sum_rep, Nat.zero_mul]; simp, fun r n _ _ h => absurd (rd_rep _ _) h⟩
      rw [List.mem_replicate] at hv
      rw [hv.2]; decide
    obtain ⟨N, y, g1, g2, g3, g4⟩ := cs_rows A s k L L b1 hA hA2 hs hs2 hkL hL hLs M x7 hM hg A 0 (by omega) _ _ (cs_zrel A s) hnx
    have hgood : CGood A s (k + 1) y := ⟨g1.ly, g2.nn, by rw [g2.sm, hg.sm, Int.pow_succ]; omega, fun r n hr hn h => g2.sp r n hr hn h⟩
    obtain ⟨F, x', h1, h2, h3⟩ := ih (k + 1) (by omega) N y g1 hgood
    refine ⟨F, x', h1, ?_, fun res h => ?_⟩
    · rw [List.drop_zero] at g3
      rw [csIter, g3, Option.bind_some, h2]
    · have c1 : (k : Int) < (L : Int) := by clear em; omega
      have c2 : (0 : Int) ≤ ((A * s : Nat) : Int) := by clear em; omega
      have c3 : A * s ≤ 35184372088832 := by clear em; omega
      apply Ev_succ
      simp only [spec_CountStuffed.l0, if_pos c1, em, if_pos c2, Int.toNat_natCast, if_pos c3]
      exact g4 res (h3 res h)
theorem csOR_len (row : List Int) : ∀ (d n : Nat) (out : List Int), (csOR row d n out).length = out.length
  | 0, _, _ => rfl
  | d + 1, n, out => by rw [csOR, csOR_len row d, List.length_set]
theorem cs_l4 (A s : Nat) (b1 : Int) (hA2 : A ≤ 10) (hs2 : s ≤ 61) (M : CsM) (x7 : List Int) (hM : CRel A s M x7) (r : Nat) (hr : r < A) (d : Nat) :
    ∀ (n : Nat) (out : List Int), n + d = s → out.length = s → ∀ res, Ev (fun q => spec_CountStuffed.l3 q (s : Int) x7 (csOR (csRd M r) d n out) ((r + 1 : Nat) : Int) (A : Int) b1) res →
      Ev (fun q => spec_CountStuffed.l4 q (s : Int) x7 out (r : Int) (n : Int) (A : Int) b1) res := by
  induction d with
  | zero =>
    intro n out hn hl res h
    obtain rfl : n = s := by omega
    have er : wrap64 ((r : Int) + 1) = ((r + 1 : Nat) : Int) := by unfold wrap64; omega
    have c1 : ¬ (n : Int) < (n : Int) := by clear er; omega
    apply Ev_succ
    simp only [spec_CountStuffed.l4, if_neg c1, er]
    exact h
  | succ d ih =>
    intro n out hn hl res h
    have hns : n < s := by omega
    have hi := idx_lt hr hns
    have h610 : r * s ≤ 10 * 61 := Nat.mul_le_mul (by omega) hs2
    have e1 : wrap64 ((n : Int) + 1) = ((n + 1 : Nat) : Int) := by unfold wrap64; omega
    have em : wrap64 ((r : Int) * (s : Int)) = ((r * s : Nat) : Int) := by
      rw [← Int.natCast_mul]; unfold wrap64; omega
    have e2 : wrap64 (((r * s : Nat) : Int) + (n : Int)) = ((r * s + n : Nat) : Int) := by
      clear em e1
      unfold wrap64; omega
    have c1 : (n : Int) < (s : Int) := by clear e1 em e2; omega
    have c2 : (0 : Int) ≤ ((r * s + n : Nat) : Int) := by clear e1 em e2; omega
    have c3 : ((r * s + n : Nat) : Int) < (x7.length : Int) := by have := hM.ly; clear e1 em e2; omega
    have c4 : (0 : Int) ≤ (n : Int) := by clear e1 em e2; omega
    have c5 : (n : Int) < (out.length : Int) := by clear e1 em e2; omega
    have hx := hM.same r hr n hns
    apply Ev_succ
    simp only [spec_CountStuffed.l4, em, e2, if_pos c1, if_pos c2, if_pos c3, if_pos c4, if_pos c5, e1, Int.toNat_natCast, ← hx]
    exact ih (n + 1) _ (by clear e1 em e2; omega) (by rw [List.length_set]; exact hl) res h
theorem cs_l3 (A s : Nat) (b1 : Int) (hA2 : A ≤ 10) (hs2 : s ≤ 61) (M : CsM) (x7 : List Int) (hM : CRel A s M x7) (e : Nat) :
    ∀ (r : Nat) (out : List Int), r + e = A → out.length = s → Ev (fun q => spec_CountStuffed.l3 q (s : Int) x7 out (r : Int) (A : Int) b1) (csOut (M.drop r) out, true) := by
  induction e with
  | zero =>
    intro r out hr hl
    obtain rfl : r = A := by omega
    have c1 : ¬ (r : Int) < (r : Int) := by omega
    rw [List.drop_of_length_le (by rw [hM.lN]; exact Nat.le_refl _), csOut]
    apply Ev_succ
    simp only [spec_CountStuffed.l3, if_neg c1]
    exact Ev.now _
  | succ e ih =>
    intro r out hr hl
    have hra : r < A := by omega
    have hd : M.drop r = csRd M r :: M.drop (r + 1) := by
      have hl : r < M.length := by rw [hM.lN]; exact hra
      rw [List.drop_eq_getElem_cons hl]
      congr 1
      unfold csRd
      rw [List.getD_eq_getElem?_getD, List.getElem?_eq_getElem hl]
      rfl
    rw [hd, csOut, hl]
    have c1 : (r : Int) < (A : Int) := by omega
    apply Ev_succ
    simp only [spec_CountStuffed.l3, if_pos c1]
    exact cs_l4 A s b1 hA2 hs2 M x7 hM r hra s 0 out (by omega) hl _ (ih (r + 1) _ (by omega) (by rw [csOR_len]; exact hl))
theorem csOut_len : ∀ (M : CsM) (out : List Int), (csOut M out).length = out.length
  | [], _ => rfl
  | row :: t, out => by rw [csOut, csOut_len t, csOR_len]
theorem cs_first (A s : Nat) (hA : 1 ≤ A) (hs : 1 ≤ s) : CRel A s (csPut (csZeros A (s + 1)) 0 0 1) ((List.replicate (A * s) 0).set 0 1) ∧ CGood A s 0 ((List.replicate (A * s) 0).set 0 1) := by
  have h0 := (cs_zrel A s).add (r := 0) (n := 0) 1 hA hs
  have i0 : 0 * s + 0 = 0 := by omega
  have has : 0 < A * s := Nat.mul_pos hA hs
  have e1 : csAdd (csZeros A (s + 1)) 0 0 1 = csPut (csZeros A (s + 1)) 0 0 1 := by
    have : csRd (csZeros A (s + 1)) 0 = List.replicate (s + 1) 0 := by
      unfold csRd csZeros
      rw [List.getD_eq_getElem?_getD, List.getElem?_replicate, if_pos (show 0 < A from hA)]; rfl
    have w1 : wrap64 (0 + 1) = 1 := by unfold wrap64; omega
    rw [csAdd, this, rd_rep, w1]
  have e2 : wrap64 (rd (List.replicate (A * s) (0 : Int)) ((0 : Nat) : Int) + 1) = 1 := by rw [rd_rep]; unfold wrap64; omega
  rw [i0, e2, e1] at h0
  refine ⟨h0, h0.ly, fun v hv => ?_, ?_, fun r n hr hn h => ?_⟩
  · rcases List.mem_or_eq_of_mem_set hv with g | g
    · rw [List.mem_replicate] at g; rw [g.2]; decide
    · rw [g]; decide
  · have := sum_set (List.replicate (A * s) (0 : Int)) 0 1 (by simpa using has)
    rw [rd_rep, sum_rep] at this
    simpa using this
  · rw [rdN_set _ _ _ _ (by simpa using has)] at h
    by_cases c : r * s + n = 0
    · obtain ⟨rfl, rfl⟩ := idx_inj hn (show 0 < s by omega) (show r * s + n = 0 * s + 0 by omega)
      simp
    · rw [if_neg c, rd_rep] at h
      exact absurd rfl h
theorem cs_both (a0 b1 a1 : Int) : ∃ r : List Int × Bool, Ev (fun q => spec_CountStuffed.f q a0 b1 a1) r ∧ impl_CountStuffed.f a0 b1 a1 = some r ∧ r.1.length ≤ 61 := by
  have no : ∀ x, Ev (fun q => spec_CountStuffed.j0 q x true a0 b1) (([] : List Int), false) := fun x => by
    apply Ev_succ
    simp only [spec_CountStuffed.j0, if_true]
    exact Ev.now _
  simp only [spec_CountStuffed.f, spec_l04Is.f, impl_CountStuffed.f, impl_ValidStuffer.f, l00In_eq, within_eq, Option.bind_some]
  by_cases hv : 1 ≤ a0 ∧ a0 ≤ 10
  · by_cases hb : 0 ≤ b1 ∧ b1 ≤ 1
    · simp only [decide_eq_true hv, decide_eq_true hb, if_true, Option.bind_some]
      by_cases hc : 0 ≤ a1 ∧ a1 ≤ 60
      · simp only [decide_eq_true hc, if_true, Bool.not_true]
        rw [if_pos ⟨hv.1, hv.2, hc.1, hc.2⟩]
        obtain ⟨A, rfl⟩ : ∃ A : Nat, a0 = (A : Int) := ⟨a0.toNat, by omega⟩
        obtain ⟨L, rfl⟩ : ∃ L : Nat, a1 = (L : Int) := ⟨a1.toNat, by omega⟩
        simp only [Int.toNat_natCast]
        have hdL : L / A ≤ 60 := Nat.le_trans (Nat.div_le_self _ _) (by omega)
        have hmod := Nat.div_add_mod L A
        have hml := Nat.mod_lt L (show A > 0 by omega)
        have ht : Int.tdiv (L : Int) (A : Int) = ((L / A : Nat) : Int) := rfl
        obtain ⟨D, hD⟩ : ∃ D, L / A = D := ⟨_, rfl⟩
        rw [hD] at hdL hmod ht ⊢
        have e1 : wrap64 ((D : Nat) : Int) = (D : Int) := by unfold wrap64; omega
        have e2 : wrap64 ((D : Int) + 1) = ((D + 1 : Nat) : Int) := by unfold wrap64; omega
        have hLs : ∀ n, n * A + A ≤ L → n + 1 < D + 1 := fun n hn => by
          have : (n + 1) * A ≤ L := by rw [Nat.add_mul, Nat.one_mul]; exact hn
          have h2 := (Nat.le_div_iff_mul_le (show 0 < A by omega)).2 this
          omega
        obtain ⟨f1, f2⟩ := cs_first A (D + 1) (by omega) (by omega)
        obtain ⟨F, x', g1, g2, g3⟩ := cs_iter A (D + 1) L b1 (by omega) (by omega) (by omega) (by omega) (by omega) hLs L 0 (by omega) _ _ f1 f2
        have hout := cs_l3 A (D + 1) b1 (by omega) (by omega) F x' g1 A 0 (List.replicate (D + 1) 0) (by omega) (by simp)
        rw [List.drop_zero] at hout
        have has : A * (D + 1) ≤ 10 * 61 := Nat.mul_le_mul (by omega) (by omega)
        have em : wrap64 ((A : Int) * ((D + 1 : Nat) : Int)) = ((A * (D + 1) : Nat) : Int) := by
          clear e1 e2
          rw [← Int.natCast_mul]; unfold wrap64; omega
        have hpos : 0 < A * (D + 1) := Nat.mul_pos (by omega) (by omega)
        refine ⟨(csOut F (List.replicate (D + 1) 0), true), ?_, ?_, by show (csOut F _).length ≤ 61; rw [csOut_len, List.length_replicate]; omega⟩
        · apply Ev_succ
          have c0 : ¬ (A : Int) = 0 := by clear e1 e2 em; omega
          have c2 : (0 : Int) ≤ ((A * (D + 1) : Nat) : Int) := by clear e1 e2 em; omega
          have c3 : A * (D + 1) ≤ 35184372088832 := by clear e1 e2 em; omega
          have c4 : (0 : Int) < ((List.replicate (A * (D + 1)) (0 : Int)).length : Int) := by rw [List.length_replicate]; clear e1 e2 em; omega
          simp only [spec_CountStuffed.j0, Bool.false_eq_true, if_false, if_neg c0, ht, e1, e2, em, if_pos c2, Int.toNat_natCast, if_pos c3, Option.bind_some, if_pos c4]
          exact g3 _ hout
        · rw [show D + 2 = D + 1 + 1 from rfl, g2]; rfl
      · simp only [decide_eq_false hc, Bool.false_eq_true, if_false, Bool.not_false]
        exact ⟨_, no _, rfl, by simp⟩
    · simp only [decide_eq_true hv, decide_eq_false hb, if_true, Option.bind_some, Bool.false_eq_true, if_false]
      exact ⟨_, no _, rfl, by simp⟩
  · simp only [decide_eq_false hv, Option.bind_some, Bool.false_eq_true, if_false]
    exact ⟨_, no _, rfl, by simp⟩

def FnExactCountStuffed_Pure : Prop := ∀ (a0_0 : Int) (a0_1 : Int) (a1 : Int), (Lit.int .i64 a0_0).wf = true → (Lit.int .i64 a0_1).wf = true → (Lit.int .i64 a1).wf = true → ∃ k, laws_FnExactCountStuffed.f k a0_0 a0_1 a1 = some true
theorem FnExactCountStuffed : FnExactCountStuffed_Pure := by
  intro a0 b1 a1 h1 h2 h3
  apply Ev.rounds
  simp only [laws_FnExactCountStuffed.f, laws_toStuffer.f, Option.bind_some]
  obtain ⟨r, hA, hB, hrl⟩ := cs_both a0 b1 a1
  have he := eqInt64S_self r.1 (by omega)
  obtain ⟨m, hm, hh⟩ := markHeld_ev r.1 (by omega) 1 (by omega) (by omega)
  have n1 : ¬ 1 + (r.1.length : Int) < 0 := by omega
  refine Ev.bind hA ?_
  simp only [hB, Option.bind_some]
  refine Ev.bind he ?_
  simp only [if_true, bne_self_eq_false]
  apply Ev_succ
  simp only [laws_FnExactCountStuffed.j0, Bool.false_eq_true, if_false]
  refine Ev.bind hm (Ev.bind hh ?_)
  simp only [if_neg n1, if_true, laws_toStuffer.f, Option.bind_some, hB]
  refine Ev.bind he ?_
  simp only [if_true, bne_self_eq_false]
  apply Ev_succ
  simp only [laws_FnExactCountStuffed.j1, Bool.false_eq_true, if_false]
  refine Ev.bind hh ?_
  simp only [if_neg n1, if_true]
  exact Ev.now _

end Go.Proofs.Ytbiepjjoaagdiaa.Pure
