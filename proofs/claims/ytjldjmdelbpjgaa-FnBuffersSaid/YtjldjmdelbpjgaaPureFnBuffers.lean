/- The law FnBuffers of the given program holds: for every input that the row lets in the call returns true and leaves its arguments as they were. No condition ahead of it. -/
import Derived.Test.YtjldjmdelbpjgaaWSized
import Derived.Test.YtjldjmdelbpjgaaPFnBuffersx2
import Derived.Test.YtjldjmdelbpjgaaMine
namespace Go.Proofs.Ytjldjmdelbpjgaa.Pure
open Go.RowKit Go.Proofs.Ytjldjmdelbpjgaa.PFnBuffers Go.Proofs.YtjldjmdelbpjgaaW.PrintWords Go.Proofs.YtjldjmdelbpjgaaW.PrintLast Go.Proofs.YtjldjmdelbpjgaaW.PrintMore Go.Proofs.Ytjldjmdelbpjgaa.Mine
set_option linter.unusedVariables false
set_option linter.unusedSimpArgs false
theorem within_eq (a b c : Int) : impl_within.f a b c = some (decide (b ≤ a ∧ a ≤ c)) := by
  unfold impl_within.f; by_cases h : a ≥ b
  · rw [if_pos h]; simp; intro _; exact h
  · rw [if_neg h]; simp; intro h'; omega

theorem areTicks_eq (a b : Int) : impl_areTicks.f a b = some (decide ((2 ≤ a ∧ a ≤ 1000) ∧ (2 ≤ b ∧ b ≤ 1000))) := by
  simp only [impl_areTicks.f, within_eq, Option.bind_some]
  by_cases h0 : 2 ≤ a ∧ a ≤ 1000 <;> by_cases h1 : 2 ≤ b ∧ b ≤ 1000 <;> simp [h0, h1]

theorem isDepth_eq (a : Int) : impl_isDepth.f a = some (decide (1 ≤ a ∧ a ≤ 64)) := by
  simp only [impl_isDepth.f, within_eq, Option.bind_some]

def chg (w r t : Int) : Int := t / w - t / r
def nxt (w t : Int) : Int := (t / w + 1) * w
def InR (w r D f t : Int) : Prop := 0 ≤ f + chg w r t ∧ f + chg w r t ≤ D
def IsT (w r D f T : Int) : Prop := (T = 0 ∧ ∀ t, 1 ≤ t → t ≤ 1000000 → InR w r D f t) ∨ (1 ≤ T ∧ T ≤ 1000000 ∧ ¬ InR w r D f T ∧ ∀ t, 1 ≤ t → t < T → InR w r D f t)
theorem IsT_unique {w r D f T T' : Int} (h : IsT w r D f T) (h' : IsT w r D f T') : T = T' := by
  rcases h with ⟨rfl, h⟩ | ⟨h0, h1, h2, h3⟩ <;> rcases h' with ⟨rfl, g⟩ | ⟨g0, g1, g2, g3⟩
  · rfl
  · exact absurd (h T' g0 g1) g2
  · exact absurd (g T h0 h1) h2
  · rcases Int.lt_trichotomy T T' with e | e | e
    · exact absurd (g3 T h0 e) h2
    · exact e
    · exact absurd (h3 T' g0 e) g2
theorem nxt_eq (w t : Int) : nxt w t = t / w * w + w := by unfold nxt; rw [Int.add_mul, Int.one_mul]
theorem nxt_gt {w t : Int} (hw : 2 ≤ w) : t < nxt w t ∧ nxt w t ≤ t + w := by
  rw [nxt_eq]
  have := Int.mul_ediv_add_emod t w
  have h1 := Int.emod_nonneg t (show w ≠ 0 by omega)
  have h2 := Int.emod_lt_of_pos t (show 0 < w by omega)
  rw [Int.mul_comm] at this
  omega
theorem div_same {w t u : Int} (hw : 2 ≤ w) (h : t ≤ u) (h' : u < nxt w t) : u / w = t / w := by
  have h1 := (nxt_gt (t := t) hw).1
  have a : t / w ≤ u / w := Int.ediv_le_ediv (by omega) h
  have b : u / w < t / w + 1 := Int.ediv_lt_of_lt_mul (by omega) h'
  omega
theorem nxt_same {w t u : Int} (hw : 2 ≤ w) (h : t ≤ u) (h' : u < nxt w t) : nxt w u = nxt w t := by
  unfold nxt; rw [div_same hw h h']
theorem nxt_self {w t : Int} (hw : 2 ≤ w) : nxt w (nxt w t) = nxt w t + w := by
  have : nxt w t / w = t / w + 1 := Int.mul_ediv_cancel _ (by omega)
  rw [nxt_eq w (nxt w t), this]; rfl
theorem chg_same {w r t u : Int} (hw : 2 ≤ w) (hr : 2 ≤ r) (h : t ≤ u) (h1 : u < nxt w t) (h2 : u < nxt r t) : chg w r u = chg w r t := by
  unfold chg; rw [div_same hw h h1, div_same hr h h2]
theorem div_bd {w t : Int} (hw : 2 ≤ w) (h0 : 0 ≤ t) : 0 ≤ t / w ∧ t / w ≤ t := ⟨Int.ediv_nonneg h0 (by omega), Int.ediv_le_self w h0⟩

theorem rd_set (l : List Int) (i j v : Int) (hi : 0 ≤ i) (hil : i < l.length) (hj : 0 ≤ j) : rd (l.set i.toNat v) j = if j = i then v else rd l j := by
  unfold rd
  by_cases e : j = i
  · subst e; rw [if_pos rfl, List.getD_eq_getElem?_getD, List.getElem?_set_self (by omega)]; rfl
  · rw [if_neg e, List.getD_eq_getElem?_getD, List.getElem?_set_ne (by omega), List.getD_eq_getElem?_getD]

structure BufI (w r D : Int) (out : List Int) (lo hi time : Int) : Prop where
  len : (out.length : Int) = D + 1
  lo0 : 0 ≤ lo
  hiD : hi ≤ D
  lohi : lo ≤ hi + 1
  low : ∀ f, 0 ≤ f → f < lo → IsT w r D f (rd out f)
  high : ∀ f, hi < f → f ≤ D → IsT w r D f (rd out f)
  zero : ∀ f, lo ≤ f → f ≤ hi → rd out f = 0
  mid : ∀ f, lo ≤ f → f ≤ hi → ∀ t, 1 ≤ t → t < time → InR w r D f t
theorem mn_eq (a b : Int) : (mn a b = a ∧ a ≤ b) ∨ (mn a b = b ∧ b < a) := by unfold mn; split <;> omega
theorem tdiv_eq {a b : Int} (h : 0 ≤ a) : Int.tdiv a b = a / b := Int.tdiv_eq_ediv_of_nonneg h
theorem bufferTimes_l2 (w r D time : Int) (hw : 2 ≤ w ∧ w ≤ 1000) (hr : 2 ≤ r ∧ r ≤ 1000) (hD : D ≤ 64) (ht : 1 ≤ time ∧ time ≤ 1000000) (R : List Int → Prop)
    (hgo : ∀ out lo hi, BufI w r D out lo hi (mn (nxt w time) (nxt r time)) → ∃ L, Ev (fun k => impl_bufferTimes.l0 k w r D out lo hi (mn (nxt w time) (nxt r time))) L ∧ R L) (d : Nat) :
    ∀ out lo hi, BufI w r D out lo hi time → (lo ≤ hi → 0 ≤ lo + chg w r time) → hi + 1 - lo = d → ∃ L, Ev (fun k => impl_bufferTimes.l2 k w r D out lo hi time (chg w r time)) L ∧ R L := by
  obtain ⟨q1, q2⟩ := div_bd hw.1 (show 0 ≤ time by omega)
  obtain ⟨p1, p2⟩ := div_bd hr.1 (show 0 ≤ time by omega)
  have n1 := nxt_gt (t := time) hw.1
  have n2 := nxt_gt (t := time) hr.1
  have e1 : (time / w + 1) * w = nxt w time := rfl
  have e2 : (time / r + 1) * r = nxt r time := rfl
  have w0 : ¬ w = 0 := by omega
  have r0 : ¬ r = 0 := by omega
  have hc : chg w r time = time / w - time / r := rfl
  have last : ∀ out lo hi, BufI w r D out lo hi time → (lo ≤ hi → 0 ≤ lo + chg w r time) → (lo ≤ hi → hi + chg w r time ≤ D) → BufI w r D out lo hi (mn (nxt w time) (nxt r time)) := by
    intro out lo hi I h1 h2
    refine ⟨I.len, I.lo0, I.hiD, I.lohi, I.low, I.high, I.zero, fun f f0 f1 t t0 t1 => ?_⟩
    by_cases g : t < time
    · exact I.mid f f0 f1 t t0 g
    · have := mn_eq (nxt w time) (nxt r time)
      unfold InR
      rw [chg_same hw.1 hr.1 (show time ≤ t by omega) (by omega) (by omega)]
      have := h1 (by omega); have := h2 (by omega)
      omega
  induction d with
  | zero =>
    intro out lo hi I h1 hd
    obtain ⟨L, hL, hR⟩ := hgo out lo hi (last out lo hi I h1 (fun g => by omega))
    refine ⟨L, Ev_succ ?_, hR⟩
    simp (disch := omega) only [impl_bufferTimes.l2, w64, tdiv_eq, e1, e2]
    simp only [if_neg (show ¬ lo ≤ hi by omega), if_neg w0, if_neg r0]
    exact hL
  | succ d ih =>
    intro out lo hi I h1 hd
    have hle : lo ≤ hi := by omega
    have b1 := I.lo0; have b2 := I.hiD
    by_cases g : hi + chg w r time > D
    · obtain ⟨L, hL, hR⟩ := ih (out.set hi.toNat time) lo (hi - 1) (by
        have hlen := I.len
        refine ⟨by rw [List.length_set]; exact hlen, b1, by omega, by omega, fun f f0 f1 => ?_, fun f f0 f1 => ?_, fun f f0 f1 => ?_, fun f f0 f1 => I.mid f f0 (by omega)⟩
        · rw [rd_set out hi f _ (by omega) (by omega) f0, if_neg (by omega)]; exact I.low f f0 f1
        · rw [rd_set out hi f _ (by omega) (by omega) (by omega)]
          by_cases e : f = hi
          · rw [if_pos e, e]
            refine Or.inr ⟨ht.1, ht.2, fun z => by have := z.2; omega, I.mid hi hle (by omega)⟩
          · rw [if_neg e]; exact I.high f (by omega) f1
        · rw [rd_set out hi f _ (by omega) (by omega) (by omega), if_neg (by omega)]; exact I.zero f f0 (by omega)) (fun _ => h1 hle) (by omega)
      refine ⟨L, Ev_succ ?_, hR⟩
      simp (disch := omega) only [impl_bufferTimes.l2, w64, tdiv_eq, e1, e2]
      have hlen := I.len
      simp only [if_pos hle, if_pos g, if_pos (show 0 ≤ hi by omega), if_pos (show hi < (out.length : Int) by omega)]
      exact hL
    · obtain ⟨L, hL, hR⟩ := hgo out lo hi (last out lo hi I h1 (fun _ => by omega))
      refine ⟨L, Ev_succ ?_, hR⟩
      simp (disch := omega) only [impl_bufferTimes.l2, w64, tdiv_eq, e1, e2]
      simp only [if_pos hle, if_neg g, if_neg w0, if_neg r0]
      exact hL
theorem bufferTimes_l1 (w r D time : Int) (hw : 2 ≤ w ∧ w ≤ 1000) (hr : 2 ≤ r ∧ r ≤ 1000) (hD : D ≤ 64) (ht : 1 ≤ time ∧ time ≤ 1000000) (R : List Int → Prop)
    (hgo : ∀ out lo hi, BufI w r D out lo hi (mn (nxt w time) (nxt r time)) → ∃ L, Ev (fun k => impl_bufferTimes.l0 k w r D out lo hi (mn (nxt w time) (nxt r time))) L ∧ R L) (d : Nat) :
    ∀ out lo hi, BufI w r D out lo hi time → hi + 1 - lo = d → ∃ L, Ev (fun k => impl_bufferTimes.l1 k w r D out lo hi time (chg w r time)) L ∧ R L := by
  obtain ⟨q1, q2⟩ := div_bd hw.1 (show 0 ≤ time by omega)
  obtain ⟨p1, p2⟩ := div_bd hr.1 (show 0 ≤ time by omega)
  have hc : chg w r time = time / w - time / r := rfl
  induction d with
  | zero =>
    intro out lo hi I hd
    obtain ⟨L, hL, hR⟩ := bufferTimes_l2 w r D time hw hr hD ht R hgo 0 out lo hi I (fun g => by omega) hd
    refine ⟨L, Ev_succ ?_, hR⟩
    simp only [impl_bufferTimes.l1, if_neg (show ¬ lo ≤ hi by omega)]
    refine Ev_succ ?_
    simp only [impl_bufferTimes.j3]
    exact hL
  | succ d ih =>
    intro out lo hi I hd
    have hle : lo ≤ hi := by omega
    have b1 := I.lo0; have b2 := I.hiD; have hlen := I.len
    by_cases g : lo + chg w r time < 0
    · obtain ⟨L, hL, hR⟩ := ih (out.set lo.toNat time) (lo + 1) hi (by
        refine ⟨by rw [List.length_set]; exact hlen, by omega, by omega, by omega, fun f f0 f1 => ?_, fun f f0 f1 => ?_, fun f f0 f1 => ?_, fun f f0 f1 => I.mid f (by omega) f1⟩
        · rw [rd_set out lo f _ (by omega) (by omega) f0]
          by_cases e : f = lo
          · rw [if_pos e, e]
            refine Or.inr ⟨ht.1, ht.2, fun z => by have := z.1; omega, I.mid lo (by omega) hle⟩
          · rw [if_neg e]; exact I.low f f0 (by omega)
        · rw [rd_set out lo f _ (by omega) (by omega) (by omega), if_neg (by omega)]; exact I.high f f0 f1
        · rw [rd_set out lo f _ (by omega) (by omega) (by omega), if_neg (by omega)]; exact I.zero f (by omega) f1) (by omega)
      refine ⟨L, Ev_succ ?_, hR⟩
      simp (disch := omega) only [impl_bufferTimes.l1, w64]
      simp only [if_pos hle, if_pos g, if_pos b1, if_pos (show lo < (out.length : Int) by omega)]
      exact hL
    · obtain ⟨L, hL, hR⟩ := bufferTimes_l2 w r D time hw hr hD ht R hgo (d + 1) out lo hi I (fun _ => by omega) hd
      refine ⟨L, Ev_succ ?_, hR⟩
      simp (disch := omega) only [impl_bufferTimes.l1, w64]
      simp only [if_pos hle, if_neg g]
      refine Ev_succ ?_
      simp only [impl_bufferTimes.j3]
      exact hL
theorem bufferTimes_l0 (w r D : Int) (hw : 2 ≤ w ∧ w ≤ 1000) (hr : 2 ≤ r ∧ r ≤ 1000) (hD : D ≤ 64) (d : Nat) : ∀ out lo hi time, BufI w r D out lo hi time → 1 ≤ time → time ≤ 1002000 → 1002000 - time < d →
    ∃ L, Ev (fun k => impl_bufferTimes.l0 k w r D out lo hi time) L ∧ ((L.length : Int) = D + 1 ∧ ∀ f, 0 ≤ f → f ≤ D → IsT w r D f (rd L f)) := by
  induction d with
  | zero => intro out lo hi time I h0 h1 hd; omega
  | succ d ih =>
    intro out lo hi time I h0 h1 hd
    by_cases hx : time ≤ 1000000 ∧ lo ≤ hi
    · obtain ⟨q1, q2⟩ := div_bd hw.1 (show 0 ≤ time by omega)
      obtain ⟨p1, p2⟩ := div_bd hr.1 (show 0 ≤ time by omega)
      have n1 := nxt_gt (t := time) hw.1
      have n2 := nxt_gt (t := time) hr.1
      have hm := mn_eq (nxt w time) (nxt r time)
      obtain ⟨L, hL, hR⟩ := bufferTimes_l1 w r D time hw hr hD ⟨h0, hx.1⟩ (fun L => (L.length : Int) = D + 1 ∧ ∀ f, 0 ≤ f → f ≤ D → IsT w r D f (rd L f))
        (fun out lo hi I => ih out lo hi _ I (by omega) (by omega) (by omega)) (hi + 1 - lo).toNat out lo hi I (by have := I.lohi; omega)
      refine ⟨L, Ev_succ ?_, hR⟩
      simp only [impl_bufferTimes.l0, if_pos hx.1]
      refine Ev_succ ?_
      simp (disch := omega) only [impl_bufferTimes.j1, w64, tdiv_eq]
      simp only [hx.2, decide_true, if_true, if_neg (show ¬ w = 0 by omega), if_neg (show ¬ r = 0 by omega)]
      exact hL
    · refine ⟨out, Ev_succ ?_, I.len, fun f f0 f1 => ?_⟩
      · have J : Ev (fun k => impl_bufferTimes.j1 k w r D out lo hi time false) out := by
          refine Ev_succ ?_
          simp only [impl_bufferTimes.j1, Bool.false_eq_true, if_false]
          exact Ev.now _
        by_cases g : time ≤ 1000000
        · have g2 : ¬ lo ≤ hi := fun z => hx ⟨g, z⟩
          simp only [impl_bufferTimes.l0, if_pos g, decide_eq_false g2]; exact J
        · simp only [impl_bufferTimes.l0, if_neg g]; exact J
      · by_cases g : f < lo
        · exact I.low f f0 g
        · by_cases g2 : hi < f
          · exact I.high f g2 f1
          · rw [I.zero f (by omega) (by omega)]
            exact Or.inl ⟨rfl, fun t t0 t1 => I.mid f (by omega) (by omega) t t0 (by omega)⟩
theorem rd_replicate (n : Nat) (i : Int) : rd (List.replicate n 0) i = 0 := by
  unfold rd
  rw [List.getD_eq_getElem?_getD, List.getElem?_replicate]
  split <;> rfl
theorem bufferTimes_ev (w r D : Int) (hw : 2 ≤ w ∧ w ≤ 1000) (hr : 2 ≤ r ∧ r ≤ 1000) (hD : 1 ≤ D ∧ D ≤ 64) :
    ∃ L, Ev (fun k => impl_bufferTimes.f k w r D) L ∧ ((L.length : Int) = D + 1 ∧ ∀ f, 0 ≤ f → f ≤ D → IsT w r D f (rd L f)) := by
  have hm := mn_eq w r
  obtain ⟨L, hL, hR⟩ := bufferTimes_l0 w r D hw hr hD.2 1002001 (List.replicate (D + 1).toNat 0) 0 D (mn w r)
    ⟨by simp; omega, by omega, by omega, by omega, fun f f0 f1 => by omega, fun f f0 f1 => by omega, fun f f0 f1 => rd_replicate _ _, fun f f0 f1 t t0 t1 => by
      have a : t / w = 0 := Int.ediv_eq_zero_of_lt (by omega) (by omega)
      have b : t / r = 0 := Int.ediv_eq_zero_of_lt (by omega) (by omega)
      unfold InR chg; omega⟩ (by omega) (by omega) (by omega)
  refine ⟨L, ?_, hR⟩
  simp (disch := omega) only [impl_bufferTimes.f, w64]
  simp only [if_pos (show 0 ≤ D + 1 by omega), if_pos (show (D + 1).toNat ≤ 35184372088832 by omega)]
  exact hL

theorem implBT_ev (w r D f : Int) (hw : 2 ≤ w ∧ w ≤ 1000) (hr : 2 ≤ r ∧ r ≤ 1000) (hD : 1 ≤ D ∧ D ≤ 64) (hf : 0 ≤ f ∧ f ≤ D) :
    ∃ T, Ev (fun k => impl_BufferTime.f k w r D f) (T, decide (T > 0)) ∧ IsT w r D f T := by
  obtain ⟨L, hL, hl, hp⟩ := bufferTimes_ev w r D hw hr hD
  refine ⟨rd L f, ?_, hp f hf.1 hf.2⟩
  simp only [impl_BufferTime.f, areTicks_eq, isDepth_eq, within_eq, Option.bind_some, hw, hr, hD, hf, and_self, decide_true, if_true]
  refine Ev.bind hL ?_
  simp only [if_pos (show f < (L.length : Int) by omega)]
  exact Ev.now _
theorem implBT_not (w r D f : Int) (h : ¬ ((2 ≤ w ∧ w ≤ 1000) ∧ (2 ≤ r ∧ r ≤ 1000) ∧ (1 ≤ D ∧ D ≤ 64) ∧ (0 ≤ f ∧ f ≤ D))) : Ev (fun k => impl_BufferTime.f k w r D f) (0, false) := by
  simp only [impl_BufferTime.f, areTicks_eq, isDepth_eq, within_eq, Option.bind_some]
  by_cases h0 : (2 ≤ w ∧ w ≤ 1000) ∧ (2 ≤ r ∧ r ≤ 1000)
  · by_cases h1 : 1 ≤ D ∧ D ≤ 64
    · have h2 : ¬ (0 ≤ f ∧ f ≤ D) := fun g => h ⟨h0.1, h0.2, h1, g⟩
      simp only [h0, h1, h2, and_self, decide_true, decide_false, if_true, Bool.false_eq_true, if_false]; exact Ev.now _
    · simp only [h0, h1, and_self, decide_true, decide_false, if_true, Bool.false_eq_true, if_false]; exact Ev.now _
  · simp only [h0, decide_false, Bool.false_eq_true, if_false]; exact Ev.now _

theorem span_loop (L : List Int) (hl : (L.length : Int) ≤ 65) (d : Nat) : ∀ b i : Int, 0 ≤ b → b < L.length → 0 ≤ i → i ≤ L.length → (L.length : Int) - i = d → (∀ j, 0 ≤ j → j < i → rd L j ≤ rd L b) →
    (∀ j, 0 ≤ j → j < (L.length : Int) → 0 < rd L j) →
    ∃ c, Ev (fun k => impl_BufferSpan.l0 k b L L L.length i) (c, rd L c, true) ∧ 0 ≤ c ∧ c < L.length ∧ ∀ j, 0 ≤ j → j < (L.length : Int) → rd L j ≤ rd L c := by
  induction d with
  | zero =>
    intro b i b0 b1 i0 i1 hd hp hpos
    refine ⟨b, Ev_succ ?_, b0, b1, fun j j0 j1 => hp j j0 (by omega)⟩
    simp only [impl_BufferSpan.l0, if_neg (show ¬ i < (L.length : Int) by omega), if_pos b0, if_pos b1]
    exact Ev.now _
  | succ d ih =>
    intro b i b0 b1 i0 i1 hd hp hpos
    have hi : i < (L.length : Int) := by omega
    have hne : ¬ rd L i = 0 := by have := hpos i i0 hi; omega
    by_cases g : rd L i > rd L b
    · obtain ⟨c, hc, h⟩ := ih i (i + 1) i0 hi (by omega) (by omega) (by omega) (fun j j0 j1 => by
        by_cases e : j = i
        · rw [e]; omega
        · have := hp j j0 (by omega); omega) hpos
      refine ⟨c, Ev_succ ?_, h⟩
      simp (disch := omega) only [impl_BufferSpan.l0, w64]
      simp only [if_pos hi, if_pos i0, if_neg hne, if_pos b0, if_pos b1, if_pos g]
      exact hc
    · obtain ⟨c, hc, h⟩ := ih b (i + 1) b0 b1 (by omega) (by omega) (by omega) (fun j j0 j1 => by
        by_cases e : j = i
        · rw [e]; omega
        · exact hp j j0 (by omega)) hpos
      refine ⟨c, Ev_succ ?_, h⟩
      simp (disch := omega) only [impl_BufferSpan.l0, w64]
      simp only [if_pos hi, if_pos i0, if_neg hne, if_pos b0, if_pos b1, if_neg g]
      exact hc
theorem span_zero (L : List Int) (hl : (L.length : Int) ≤ 65) (d : Nat) : ∀ b i z : Int, 0 ≤ b → b < L.length → 0 ≤ i → i ≤ z → z < L.length → rd L z = 0 → z - i = d →
    Ev (fun k => impl_BufferSpan.l0 k b L L L.length i) (0, 0, false) := by
  induction d with
  | zero =>
    intro b i z b0 b1 i0 i1 i2 hz hd
    obtain rfl : i = z := by omega
    refine Ev_succ ?_
    simp only [impl_BufferSpan.l0, if_pos (show i < (L.length : Int) by omega), if_pos i0, if_pos hz]
    exact Ev.now _
  | succ d ih =>
    intro b i z b0 b1 i0 i1 i2 hz hd
    have hi : i < (L.length : Int) := by omega
    refine Ev_succ ?_
    by_cases hne : rd L i = 0
    · simp only [impl_BufferSpan.l0, if_pos hi, if_pos i0, if_pos hne]
      exact Ev.now _
    · simp (disch := omega) only [impl_BufferSpan.l0, w64]
      by_cases g : rd L i > rd L b
      · simp only [if_pos hi, if_pos i0, if_neg hne, if_pos b0, if_pos b1, if_pos g]
        exact ih i (i + 1) z i0 hi (by omega) (by omega) i2 hz (by omega)
      · simp only [if_pos hi, if_pos i0, if_neg hne, if_pos b0, if_pos b1, if_neg g]
        exact ih b (i + 1) z b0 b1 (by omega) (by omega) i2 hz (by omega)

theorem fillAt_eq (w r f t : Int) (hw : 2 ≤ w ∧ w ≤ 1000) (hr : 2 ≤ r ∧ r ≤ 1000) (hf : 0 ≤ f ∧ f ≤ 64) (ht : 0 ≤ t ∧ t ≤ 1000000) : impl_FillAt.f w r f t = some (f + chg w r t, true) := by
  obtain ⟨q1, q2⟩ := div_bd hw.1 ht.1
  obtain ⟨p1, p2⟩ := div_bd hr.1 ht.1
  simp only [impl_FillAt.f, areTicks_eq, within_eq, Option.bind_some, hw, hr, hf, ht, and_self, decide_true, if_true, if_neg (show ¬ w = 0 by omega), if_neg (show ¬ r = 0 by omega)]
  simp (disch := omega) only [w64, tdiv_eq]
  rw [show f + t / w - t / r = f + chg w r t by unfold chg; omega]
theorem chg_zero (w r : Int) : chg w r 0 = 0 := by unfold chg; simp
theorem drift (w r D f : Int) (hw : 2 ≤ w ∧ w ≤ 21) (hr : 2 ≤ r ∧ r ≤ 21) (hD : D ≤ 6) (hf : 0 ≤ f ∧ f ≤ D) (hne : w ≠ r) : ∃ t, 1 ≤ t ∧ t ≤ 3087 ∧ ¬ InR w r D f t := by
  obtain ⟨b1, b2⟩ := mb (a := w) (b := r) (A := 21) (B := 21) (by omega) (by omega) (by omega) (by omega)
  have b3 : 2 * 2 ≤ w * r := Int.mul_le_mul hw.1 hr.1 (by omega) (by omega)
  refine ⟨7 * (w * r), by omega, by omega, ?_⟩
  have e1 : 7 * (w * r) / w = 7 * r := by rw [show 7 * (w * r) = 7 * r * w by rw [Int.mul_comm w r, Int.mul_assoc]]; exact Int.mul_ediv_cancel _ (by omega)
  have e2 : 7 * (w * r) / r = 7 * w := by rw [show 7 * (w * r) = 7 * w * r by rw [Int.mul_assoc]]; exact Int.mul_ediv_cancel _ (by omega)
  unfold InR chg
  rw [e1, e2]
  omega
theorem implSpan_ev (w r D : Int) (hw : 2 ≤ w ∧ w ≤ 1000) (hr : 2 ≤ r ∧ r ≤ 1000) (hD : 1 ≤ D ∧ D ≤ 64) (hall : ∀ f T, 0 ≤ f → f ≤ D → IsT w r D f T → 0 < T) :
    ∃ b T, Ev (fun k => impl_BufferSpan.f k w r D) (b, T, true) ∧ 0 ≤ b ∧ b ≤ D ∧ IsT w r D b T ∧ ∀ f S, 0 ≤ f → f ≤ D → IsT w r D f S → S ≤ T := by
  obtain ⟨L, hL, hl, hp⟩ := bufferTimes_ev w r D hw hr hD
  obtain ⟨c, hc, c0, c1, c2⟩ := span_loop L (by omega) L.length 0 0 (by omega) (by omega) (by omega) (by omega) (by omega) (fun j j0 j1 => by omega) (fun j j0 j1 => hall j _ j0 (by omega) (hp j j0 (by omega)))
  refine ⟨c, rd L c, ?_, c0, by omega, hp c c0 (by omega), fun f S f0 f1 hS => by rw [IsT_unique hS (hp f f0 f1)]; exact c2 f f0 (by omega)⟩
  simp only [impl_BufferSpan.f, areTicks_eq, isDepth_eq, Option.bind_some, hw, hr, hD, and_self, decide_true, if_true]
  refine Ev_succ ?_
  simp only [impl_BufferSpan.j0, Bool.not_true, Bool.false_eq_true, if_false]
  exact Ev.bind hL hc
theorem implSpan_zero (w D : Int) (hw : 2 ≤ w ∧ w ≤ 1000) (hD : 1 ≤ D ∧ D ≤ 64) : Ev (fun k => impl_BufferSpan.f k w w D) (0, 0, false) := by
  obtain ⟨L, hL, hl, hp⟩ := bufferTimes_ev w w D hw hw hD
  simp only [impl_BufferSpan.f, areTicks_eq, isDepth_eq, Option.bind_some, hw, hD, and_self, decide_true, if_true]
  refine Ev_succ ?_
  simp only [impl_BufferSpan.j0, Bool.not_true, Bool.false_eq_true, if_false]
  refine Ev.bind hL (span_zero L (by omega) 0 0 0 0 (by omega) (by omega) (by omega) (by omega) (by omega) ?_ (by omega))
  rcases hp 0 (by omega) (by omega) with ⟨h, -⟩ | ⟨-, -, h, -⟩
  · exact h
  · exact absurd (by unfold InR chg; omega) h
theorem buffers_loop (w r D f T : Int) (hw : 2 ≤ w ∧ w ≤ 21) (hr : 2 ≤ r ∧ r ≤ 21) (hD : 1 ≤ D ∧ D ≤ 6) (hf : 0 ≤ f ∧ f ≤ D) (hne : w ≠ r) (h1 : 1 ≤ T) (h2 : T ≤ 1000000) (hT : IsT w r D f T) (d : Nat) :
    ∀ t : Int, 0 ≤ t → t ≤ T → T - t = d → Ev (fun k => laws_FnBuffers.l0 k w r D f T t) true := by
  have hno : ¬ InR w r D f T ∧ ∀ t, 1 ≤ t → t < T → InR w r D f t := by
    rcases hT with ⟨h, -⟩ | ⟨-, -, h, g⟩
    · omega
    · exact ⟨h, g⟩
  have fin : ∀ t, Ev (fun k => laws_FnBuffers.j1 k w r D f T t false) true := by
    intro t
    refine Ev_succ ?_
    obtain ⟨b, S, hb, b0, b1, bI, bA⟩ := implSpan_ev w r D (by omega) (by omega) (by omega) (fun f' T' f0 f1 hI => by
      rcases hI with ⟨-, h⟩ | ⟨h, -⟩
      · obtain ⟨u, u0, u1, u2⟩ := drift w r D f' hw hr hD.2 ⟨f0, f1⟩ hne
        exact absurd (h u u0 (by omega)) u2
      · omega)
    obtain ⟨S', hS', hI'⟩ := implBT_ev w r D b (by omega) (by omega) (by omega) ⟨b0, b1⟩
    obtain rfl := IsT_unique hI' bI
    have hge := bA f T hf.1 hf.2 hT
    simp only [laws_FnBuffers.j1, fillAt_eq w r f T (by omega) (by omega) (by omega) (by omega), Option.bind_some, Bool.false_eq_true, if_false]
    refine Ev.bind hb (Ev.bind hS' ?_)
    have g : ¬ (0 ≤ f + chg w r T ∧ f + chg w r T ≤ D) := hno.1
    simp only [if_true, decide_eq_true (show S' > 0 by omega), if_pos (show S' ≥ T from hge), if_pos (show b ≥ 0 from b0), decide_eq_true b1]
    by_cases e : f + chg w r T < 0
    · simp only [if_pos e]; exact Ev.now _
    · simp only [if_neg e, if_pos (show f + chg w r T > D by omega)]; exact Ev.now _
  induction d with
  | zero =>
    intro t t0 t1 hd
    refine Ev_succ ?_
    simp only [laws_FnBuffers.l0, if_neg (show ¬ t < T by omega)]
    exact fin t
  | succ d ih =>
    intro t t0 t1 hd
    refine Ev_succ ?_
    simp only [laws_FnBuffers.l0, if_pos (show t < T by omega)]
    by_cases e : t < 3000
    · simp only [decide_eq_true e]
      refine Ev_succ ?_
      simp (disch := omega) only [laws_FnBuffers.j1, fillAt_eq w r f t (by omega) (by omega) (by omega) (by omega), Option.bind_some, w64, if_true]
      have g : 0 ≤ f + chg w r t ∧ f + chg w r t ≤ D := by
        by_cases z : t = 0
        · rw [z, chg_zero]; omega
        · exact hno.2 t (by omega) (by omega)
      simp only [if_neg (show ¬ f + chg w r t < 0 by omega), if_neg (show ¬ f + chg w r t > D by omega)]
      exact ih (t + 1) (by omega) (by omega) (by omega)
    · simp only [decide_eq_false e]
      exact fin t
theorem u8_bd {a : Int} (h : (Lit.int .u8 a).wf = true) : 0 ≤ a ∧ a ≤ 255 := by
  simp only [Lit.wf, IntKind.min, IntKind.max, IntKind.signed, IntKind.bits, Bool.and_eq_true, decide_eq_true_eq, if_true] at h
  simp at h
  omega
theorem rd_bd {l : List Int} (h : ∀ x ∈ l, (Lit.int .u8 x).wf = true) (i : Int) : 0 ≤ rd l i ∧ rd l i ≤ 255 := by
  unfold rd
  rw [List.getD_eq_getElem?_getD]
  cases e : l[i.toNat]? with
  | none => simp
  | some v => exact u8_bd (h v (List.mem_of_getElem? e))
theorem b10At_ev (l : List Int) (h : ∀ x ∈ l, (Lit.int .u8 x).wf = true) (i n : Int) (hi : 0 ≤ i ∧ i ≤ 100) (hn : 2 ≤ n ∧ n ≤ 100) : ∃ v, laws_b10At.f l i n = some v ∧ 0 ≤ v ∧ v < n := by
  have hb := rd_bd h i
  unfold laws_b10At.f
  simp (disch := omega) only [w64]
  rw [if_neg (show ¬ n ≤ 1 by omega)]
  by_cases e : i < (l.length : Int)
  · rw [if_pos e, if_pos hi.1, if_neg (by omega)]
    exact ⟨_, rfl, Int.tmod_nonneg _ hb.1, Int.tmod_lt_of_pos _ (by omega)⟩
  · rw [if_neg e, if_neg (by omega)]
    exact ⟨_, rfl, Int.tmod_nonneg _ (by omega), Int.tmod_lt_of_pos _ (by omega)⟩
theorem FnBuffers : laws_FnBuffers.Pure := by
  intro l0 l1 _ _ u0 _ _ u1
  apply Ev.rounds
  have hlong : ∃ b, laws_b10Long.f l0 l1 = some b := by unfold laws_b10Long.f; split <;> exact ⟨_, rfl⟩
  obtain ⟨b, hb⟩ := hlong
  simp only [laws_FnBuffers.f, hb, Option.bind_some]
  cases b with
  | true => simp only [if_true]; exact Ev.now _
  | false =>
    obtain ⟨p, hp, p0, p1⟩ := b10At_ev l0 u0 0 20 (by omega) (by omega)
    obtain ⟨q, hq, q0, q1⟩ := b10At_ev l0 u0 1 20 (by omega) (by omega)
    obtain ⟨c, hc, c0, c1⟩ := b10At_ev l1 u1 0 6 (by omega) (by omega)
    obtain ⟨f, hf, f0, f1⟩ := b10At_ev l1 u1 1 (1 + c + 1) (by omega) (by omega)
    simp only [hp, hq, hc, Option.bind_some, Bool.false_eq_true, if_false]
    simp (disch := omega) only [w64]
    simp only [hf, Option.bind_some]
    obtain ⟨T, hT, hI⟩ := implBT_ev (2 + p) (2 + q) (1 + c) f (by omega) (by omega) (by omega) (by omega)
    refine Ev.bind hT ?_
    by_cases e : 2 + p = 2 + q
    · have hz : T = 0 := by
        rcases hI with ⟨h, -⟩ | ⟨-, -, h, -⟩
        · exact h
        · exact absurd (by unfold InR chg; rw [e]; omega) h
      subst hz
      have e2 : ((2 + p) != (2 + q)) = false := by simpa using e
      simp only [e2, gt_iff_lt, Int.lt_irrefl, decide_false, bne_self_eq_false, Bool.false_eq_true, if_false]
      rw [e]
      refine Ev.bind (implSpan_zero (2 + q) (1 + c) (by omega) (by omega)) ?_
      simpa using Ev.now true
    · have hpos : 1 ≤ T ∧ T ≤ 1000000 := by
        rcases hI with ⟨-, h⟩ | ⟨h, g, -⟩
        · obtain ⟨u, v0, v1, v2⟩ := drift (2 + p) (2 + q) (1 + c) f (by omega) (by omega) (by omega) (by omega) e
          exact absurd (h u v0 (by omega)) v2
        · exact ⟨h, g⟩
      have e2 : ((2 + p) != (2 + q)) = true := by simpa using e
      simp only [e2, decide_eq_true (show T > 0 by omega), bne_self_eq_false, Bool.false_eq_true, if_false, if_true]
      exact buffers_loop (2 + p) (2 + q) (1 + c) f T (by omega) (by omega) (by omega) (by omega) e hpos.1 hpos.2 hI T.toNat 0 (by omega) (by omega) (by omega)

end Go.Proofs.Ytjldjmdelbpjgaa.Pure
namespace Go.Proofs.Ytjldjmdelbpjgaa.PrintWords
open Go.ChangeShapes Go.WideShapes
theorem sized_ints {H : Type} {enc : TypeId × Value → H} {P : Program} {W : World} {base : Nat} {spare : Nat → Bool} {held : Bool} {t e : TypeId} {k : IntKind} {a : Option Addr} {len cap : Nat} {d : DataW H} {ps : List MemPlace} {ts : List TypeId} {ds : List (DataW H)} {j : Nat}
    (hsz : (DataW.weightsEach P ts ds).all (· ≤ reachBytes) = true) (ht : ts[j]? = some t) (hd : ds[j]? = some d) (hu : P.underlying t = some (.slice e)) (he : P.underlying e = some (.int k)) (hc : P.cellsOf e = 1) {B : Nat} (hB : P.bytesOf e = B)
    (h : DataW.Trod enc P W base spare held t (.slice a len cap) d ps) : len * B ≤ 140737488351232 :=
  Go.Proofs.YtjldjmdelbpjgaaW.PrintWords.sized_ints hsz ht hd hu he hc hB h
end Go.Proofs.Ytjldjmdelbpjgaa.PrintWords
