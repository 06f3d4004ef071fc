/- The law FnExactBufferSpan of the given program holds: for every input that the row lets in the call returns true and leaves its arguments as they were. No condition ahead of it. -/
import Derived.Test.YtjldjmdelbpjgaaPFnExactBufferSpanx2
import Derived.Test.YtjldjmdelbpjgaaMine
namespace Go.Proofs.Ytjldjmdelbpjgaa.Pure
open Go.RowKit Go.Proofs.Ytjldjmdelbpjgaa.PFnExactBufferSpan Go.Proofs.YtjldjmdelbpjgaaW.PrintWords Go.Proofs.YtjldjmdelbpjgaaW.PrintLast Go.Proofs.YtjldjmdelbpjgaaW.PrintMore Go.Proofs.Ytjldjmdelbpjgaa.Mine
set_option linter.unusedVariables false
set_option linter.unusedSimpArgs false
theorem l00In_eq (a b c : Int) : spec_l00In.f a b c = some (decide (b ≤ a ∧ a ≤ c)) := by
  unfold spec_l00In.f; by_cases h : a ≥ b
  · rw [if_pos h]; simp; intro _; exact h
  · rw [if_neg h]; simp; intro h'; omega
theorem within_eq (a b c : Int) : impl_within.f a b c = some (decide (b ≤ a ∧ a ≤ c)) := by
  unfold impl_within.f; by_cases h : a ≥ b
  · rw [if_pos h]; simp; intro _; exact h
  · rw [if_neg h]; simp; intro h'; omega

theorem ticks_eq (a : Int) : spec_l07Ticks.f a = some (decide (2 ≤ a ∧ a ≤ 1000)) := by
  simp only [spec_l07Ticks.f, l00In_eq, Option.bind_some]
theorem areTicks_eq (a b : Int) : impl_areTicks.f a b = some (decide ((2 ≤ a ∧ a ≤ 1000) ∧ (2 ≤ b ∧ b ≤ 1000))) := by
  simp only [impl_areTicks.f, within_eq, Option.bind_some]
  by_cases h0 : 2 ≤ a ∧ a ≤ 1000 <;> by_cases h1 : 2 ≤ b ∧ b ≤ 1000 <;> simp [h0, h1]

theorem isDepth_eq (a : Int) : impl_isDepth.f a = some (decide (1 ≤ a ∧ a ≤ 64)) := by
  simp only [impl_isDepth.f, within_eq, Option.bind_some]

def chg (w r t : Int) : Int := t / w - t / r
def nxt (w t : Int) : Int := (t / w + 1) * w
def InR (w r D f t : Int) : Prop := 0 ≤ f + chg w r t ∧ f + chg w r t ≤ D
def IsT (w r D f T : Int) : Prop := (T = 0 ∧ ∀ t, 1 ≤ t → t ≤ 1000000 → InR w r D f t) ∨ (1 ≤ T ∧ T ≤ 1000000 ∧ ¬ InR w r D f T ∧ ∀ t, 1 ≤ t → t < T → InR w r D f t)
theorem IsT_unique {w r D f T T' : Int} (h : IsT w r D f T) (h' : IsT w r D f T') : T = T' := by
  rcases h with ⟨rfl, h⟩ | ⟨h0, h1, h2, h3⟩ <;> rcases h' with ⟨rfl, g⟩ | ⟨g0, g1, g2, g3⟩
  · rfl
  · exact absurd (h T' g0 g1) g2
  · exact absurd (g T h0 h1) h2
  · rcases Int.lt_trichotomy T T' with e | e | e
    · exact absurd (g3 T h0 e) h2
    · exact e
    · exact absurd (h3 T' g0 e) g2
theorem nxt_eq (w t : Int) : nxt w t = t / w * w + w := by unfold nxt; rw [Int.add_mul, Int.one_mul]
theorem nxt_gt {w t : Int} (hw : 2 ≤ w) : t < nxt w t ∧ nxt w t ≤ t + w := by
  rw [nxt_eq]
  have := Int.mul_ediv_add_emod t w
  have h1 := Int.emod_nonneg t (show w ≠ 0 by omega)
  have h2 := Int.emod_lt_of_pos t (show 0 < w by omega)
  rw [Int.mul_comm] at this
  omega
theorem div_same {w t u : Int} (hw : 2 ≤ w) (h : t ≤ u) (h' : u < nxt w t) : u / w = t / w := by
  have h1 := (nxt_gt (t := t) hw).1
  have a : t / w ≤ u / w := Int.ediv_le_ediv (by omega) h
  have b : u / w < t / w + 1 := Int.ediv_lt_of_lt_mul (by omega) h'
  omega
theorem nxt_same {w t u : Int} (hw : 2 ≤ w) (h : t ≤ u) (h' : u < nxt w t) : nxt w u = nxt w t := by
  unfold nxt; rw [div_same hw h h']
theorem nxt_self {w t : Int} (hw : 2 ≤ w) : nxt w (nxt w t) = nxt w t + w := by
  have : nxt w t / w = t / w + 1 := Int.mul_ediv_cancel _ (by omega)
  rw [nxt_eq w (nxt w t), this]; rfl
theorem chg_same {w r t u : Int} (hw : 2 ≤ w) (hr : 2 ≤ r) (h : t ≤ u) (h1 : u < nxt w t) (h2 : u < nxt r t) : chg w r u = chg w r t := by
  unfold chg; rw [div_same hw h h1, div_same hr h h2]
theorem div_bd {w t : Int} (hw : 2 ≤ w) (h0 : 0 ≤ t) : 0 ≤ t / w ∧ t / w ≤ t := ⟨Int.ediv_nonneg h0 (by omega), Int.ediv_le_self w h0⟩

theorem rd_set (l : List Int) (i j v : Int) (hi : 0 ≤ i) (hil : i < l.length) (hj : 0 ≤ j) : rd (l.set i.toNat v) j = if j = i then v else rd l j := by
  unfold rd
  by_cases e : j = i
  · subst e; rw [if_pos rfl, List.getD_eq_getElem?_getD, List.getElem?_set_self (by omega)]; rfl
  · rw [if_neg e, List.getD_eq_getElem?_getD, List.getElem?_set_ne (by omega), List.getD_eq_getElem?_getD]

structure BufI (w r D : Int) (out : List Int) (lo hi time : Int) : Prop where
  len : (out.length : Int) = D + 1
  lo0 : 0 ≤ lo
  hiD : hi ≤ D
  lohi : lo ≤ hi + 1
  low : ∀ f, 0 ≤ f → f < lo → IsT w r D f (rd out f)
  high : ∀ f, hi < f → f ≤ D → IsT w r D f (rd out f)
  zero : ∀ f, lo ≤ f → f ≤ hi → rd out f = 0
  mid : ∀ f, lo ≤ f → f ≤ hi → ∀ t, 1 ≤ t → t < time → InR w r D f t
theorem mn_eq (a b : Int) : (mn a b = a ∧ a ≤ b) ∨ (mn a b = b ∧ b < a) := by unfold mn; split <;> omega
theorem tdiv_eq {a b : Int} (h : 0 ≤ a) : Int.tdiv a b = a / b := Int.tdiv_eq_ediv_of_nonneg h
theorem bufferTimes_l2 (w r D time : Int) (hw : 2 ≤ w ∧ w ≤ 1000) (hr : 2 ≤ r ∧ r ≤ 1000) (hD : D ≤ 64) (ht : 1 ≤ time ∧ time ≤ 1000000) (R : List Int → Prop)
    (hgo : ∀ out lo hi, BufI w r D out lo hi (mn (nxt w time) (nxt r time)) → ∃ L, Ev (fun k => impl_bufferTimes.l0 k w r D out lo hi (mn (nxt w time) (nxt r time))) L ∧ R L) (d : Nat) :
    ∀ out lo hi, BufI w r D out lo hi time → (lo ≤ hi → 0 ≤ lo + chg w r time) → hi + 1 - lo = d → ∃ L, Ev (fun k => impl_bufferTimes.l2 k w r D out lo hi time (chg w r time)) L ∧ R L := by
  obtain ⟨q1, q2⟩ := div_bd hw.1 (show 0 ≤ time by omega)
  obtain ⟨p1, p2⟩ := div_bd hr.1 (show 0 ≤ time by omega)
  have n1 := nxt_gt (t := time) hw.1
  have n2 := nxt_gt (t := time) hr.1
  have e1 : (time / w + 1) * w = nxt w time := rfl
  have e2 : (time / r + 1) * r = nxt r time := rfl
  have w0 : ¬ w = 0 := by omega
  have r0 : ¬ r = 0 := by omega
  have hc : chg w r time = time / w - time / r := rfl
  have last : ∀ out lo hi, BufI w r D out lo hi time → (lo ≤ hi → 0 ≤ lo + chg w r time) → (lo ≤ hi → hi + chg w r time ≤ D) → BufI w r D out lo hi (mn (nxt w time) (nxt r time)) := by
    intro out lo hi I h1 h2
    refine ⟨I.len, I.lo0, I.hiD, I.lohi, I.low, I.high, I.zero, fun f f0 f1 t t0 t1 => ?_⟩
    by_cases g : t < time
    · exact I.mid f f0 f1 t t0 g
    · have := mn_eq (nxt w time) (nxt r time)
      unfold InR
      rw [chg_same hw.1 hr.1 (show time ≤ t by omega) (by omega) (by omega)]
      have := h1 (by omega); have := h2 (by omega)
      omega
  induction d with
  | zero =>
    intro out lo hi I h1 hd
    obtain ⟨L, hL, hR⟩ := hgo out lo hi (last out lo hi I h1 (fun g => by omega))
    refine ⟨L, Ev_succ ?_, hR⟩
    simp (disch := omega) only [impl_bufferTimes.l2, w64, tdiv_eq, e1, e2]
    simp only [if_neg (show ¬ lo ≤ hi by omega), if_neg w0, if_neg r0]
    exact hL
  | succ d ih =>
    intro out lo hi I h1 hd
    have hle : lo ≤ hi := by omega
    have b1 := I.lo0; have b2 := I.hiD
    by_cases g : hi + chg w r time > D
    · obtain ⟨L, hL, hR⟩ := ih (out.set hi.toNat time) lo (hi - 1) (by
        have hlen := I.len
        refine ⟨by rw [List.length_set]; exact hlen, b1, by omega, by omega, fun f f0 f1 => ?_, fun f f0 f1 => ?_, fun f f0 f1 => ?_, fun f f0 f1 => I.mid f f0 (by omega)⟩
        · rw [rd_set out hi f _ (by omega) (by omega) f0, if_neg (by omega)]; exact I.low f f0 f1
        · rw [rd_set out hi f _ (by omega) (by omega) (by omega)]
          by_cases e : f = hi
          · rw [if_pos e, e]
            refine Or.inr ⟨ht.1, ht.2, fun z => by have := z.2; omega, I.mid hi hle (by omega)⟩
          · rw [if_neg e]; exact I.high f (by omega) f1
        · rw [rd_set out hi f _ (by omega) (by omega) (by omega), if_neg (by omega)]; exact I.zero f f0 (by omega)) (fun _ => h1 hle) (by omega)
      refine ⟨L, Ev_succ ?_, hR⟩
      simp (disch := omega) only [impl_bufferTimes.l2, w64, tdiv_eq, e1, e2]
      have hlen := I.len
      simp only [if_pos hle, if_pos g, if_pos (show 0 ≤ hi by omega), if_pos (show hi < (out.length : Int) by omega)]
      exact hL
    · obtain ⟨L, hL, hR⟩ := hgo out lo hi (last out lo hi I h1 (fun _ => by omega))
      refine ⟨L, Ev_succ ?_, hR⟩
      simp (disch := omega) only [impl_bufferTimes.l2, w64, tdiv_eq, e1, e2]
      simp only [if_pos hle, if_neg g, if_neg w0, if_neg r0]
      exact hL
theorem bufferTimes_l1 (w r D time : Int) (hw : 2 ≤ w ∧ w ≤ 1000) (hr : 2 ≤ r ∧ r ≤ 1000) (hD : D ≤ 64) (ht : 1 ≤ time ∧ time ≤ 1000000) (R : List Int → Prop)
    (hgo : ∀ out lo hi, BufI w r D out lo hi (mn (nxt w time) (nxt r time)) → ∃ L, Ev (fun k => impl_bufferTimes.l0 k w r D out lo hi (mn (nxt w time) (nxt r time))) L ∧ R L) (d : Nat) :
    ∀ out lo hi, BufI w r D out lo hi time → hi + 1 - lo = d → ∃ L, Ev (fun k => impl_bufferTimes.l1 k w r D out lo hi time (chg w r time)) L ∧ R L := by
  obtain ⟨q1, q2⟩ := div_bd hw.1 (show 0 ≤ time by omega)
  obtain ⟨p1, p2⟩ := div_bd hr.1 (show 0 ≤ time by omega)
  have hc : chg w r time = time / w - time / r := rfl
  induction d with
  | zero =>
    intro out lo hi I hd
    obtain ⟨L, hL, hR⟩ := bufferTimes_l2 w r D time hw hr hD ht R hgo 0 out lo hi I (fun g => by omega) hd
    refine ⟨L, Ev_succ ?_, hR⟩
    simp only [impl_bufferTimes.l1, if_neg (show ¬ lo ≤ hi by omega)]
    refine Ev_succ ?_
    simp only [impl_bufferTimes.j3]
    exact hL
  | succ d ih =>
    intro out lo hi I hd
    have hle : lo ≤ hi := by omega
    have b1 := I.lo0; have b2 := I.hiD; have hlen := I.len
    by_cases g : lo + chg w r time < 0
    · obtain ⟨L, hL, hR⟩ := ih (out.set lo.toNat time) (lo + 1) hi (by
        refine ⟨by rw [List.length_set]; exact hlen, by omega, by omega, by omega, fun f f0 f1 => ?_, fun f f0 f1 => ?_, fun f f0 f1 => ?_, fun f f0 f1 => I.mid f (by omega) f1⟩
        · rw [rd_set out lo f _ (by omega) (by omega) f0]
          by_cases e : f = lo
          · rw [if_pos e, e]
            refine Or.inr ⟨ht.1, ht.2, fun z => by have := z.1; omega, I.mid lo (by omega) hle⟩
          · rw [if_neg e]; exact I.low f f0 (by omega)
        · rw [rd_set out lo f _ (by omega) (by omega) (by omega), if_neg (by omega)]; exact I.high f f0 f1
        · rw [rd_set out lo f _ (by omega) (by omega) (by omega), if_neg (by omega)]; exact I.zero f (by omega) f1) (by omega)
      refine ⟨L, Ev_succ ?_, hR⟩
      simp (disch := omega) only [impl_bufferTimes.l1, w64]
      simp only [if_pos hle, if_pos g, if_pos b1, if_pos (show lo < (out.length : Int) by omega)]
      exact hL
    · obtain ⟨L, hL, hR⟩ := bufferTimes_l2 w r D time hw hr hD ht R hgo (d + 1) out lo hi I (fun _ => by omega) hd
      refine ⟨L, Ev_succ ?_, hR⟩
      simp (disch := omega) only [impl_bufferTimes.l1, w64]
      simp only [if_pos hle, if_neg g]
      refine Ev_succ ?_
      simp only [impl_bufferTimes.j3]
      exact hL
theorem bufferTimes_l0 (w r D : Int) (hw : 2 ≤ w ∧ w ≤ 1000) (hr : 2 ≤ r ∧ r ≤ 1000) (hD : D ≤ 64) (d : Nat) : ∀ out lo hi time, BufI w r D out lo hi time → 1 ≤ time → time ≤ 1002000 → 1002000 - time < d →
    ∃ L, Ev (fun k => impl_bufferTimes.l0 k w r D out lo hi time) L ∧ ((L.length : Int) = D + 1 ∧ ∀ f, 0 ≤ f → f ≤ D → IsT w r D f (rd L f)) := by
  induction d with
  | zero => intro out lo hi time I h0 h1 hd; omega
  | succ d ih =>
    intro out lo hi time I h0 h1 hd
    by_cases hx : time ≤ 1000000 ∧ lo ≤ hi
    · obtain ⟨q1, q2⟩ := div_bd hw.1 (show 0 ≤ time by omega)
      obtain ⟨p1, p2⟩ := div_bd hr.1 (show 0 ≤ time by omega)
      have n1 := nxt_gt (t := time) hw.1
      have n2 := nxt_gt (t := time) hr.1
      have hm := mn_eq (nxt w time) (nxt r time)
      obtain ⟨L, hL, hR⟩ := bufferTimes_l1 w r D time hw hr hD ⟨h0, hx.1⟩ (fun L => (L.length : Int) = D + 1 ∧ ∀ f, 0 ≤ f → f ≤ D → IsT w r D f (rd L f))
        (fun out lo hi I => ih out lo hi _ I (by omega) (by omega) (by omega)) (hi + 1 - lo).toNat out lo hi I (by have := I.lohi; omega)
      refine ⟨L, Ev_succ ?_, hR⟩
      simp only [impl_bufferTimes.l0, if_pos hx.1]
      refine Ev_succ ?_
      simp (disch := omega) only [impl_bufferTimes.j1, w64, tdiv_eq]
      simp only [hx.2, decide_true, if_true, if_neg (show ¬ w = 0 by omega), if_neg (show ¬ r = 0 by omega)]
      exact hL
    · refine ⟨out, Ev_succ ?_, I.len, fun f f0 f1 => ?_⟩
      · have J : Ev (fun k => impl_bufferTimes.j1 k w r D out lo hi time false) out := by
          refine Ev_succ ?_
          simp only [impl_bufferTimes.j1, Bool.false_eq_true, if_false]
          exact Ev.now _
        by_cases g : time ≤ 1000000
        · have g2 : ¬ lo ≤ hi := fun z => hx ⟨g, z⟩
          simp only [impl_bufferTimes.l0, if_pos g, decide_eq_false g2]; exact J
        · simp only [impl_bufferTimes.l0, if_neg g]; exact J
      · by_cases g : f < lo
        · exact I.low f f0 g
        · by_cases g2 : hi < f
          · exact I.high f g2 f1
          · rw [I.zero f (by omega) (by omega)]
            exact Or.inl ⟨rfl, fun t t0 t1 => I.mid f (by omega) (by omega) t t0 (by omega)⟩
theorem rd_replicate (n : Nat) (i : Int) : rd (List.replicate n 0) i = 0 := by
  unfold rd
  rw [List.getD_eq_getElem?_getD, List.getElem?_replicate]
  split <;> rfl
theorem bufferTimes_ev (w r D : Int) (hw : 2 ≤ w ∧ w ≤ 1000) (hr : 2 ≤ r ∧ r ≤ 1000) (hD : 1 ≤ D ∧ D ≤ 64) :
    ∃ L, Ev (fun k => impl_bufferTimes.f k w r D) L ∧ ((L.length : Int) = D + 1 ∧ ∀ f, 0 ≤ f → f ≤ D → IsT w r D f (rd L f)) := by
  have hm := mn_eq w r
  obtain ⟨L, hL, hR⟩ := bufferTimes_l0 w r D hw hr hD.2 1002001 (List.replicate (D + 1).toNat 0) 0 D (mn w r)
    ⟨by simp; omega, by omega, by omega, by omega, fun f f0 f1 => by omega, fun f f0 f1 => by omega, fun f f0 f1 => rd_replicate _ _, fun f f0 f1 t t0 t1 => by
      have a : t / w = 0 := Int.ediv_eq_zero_of_lt (by omega) (by omega)
      have b : t / r = 0 := Int.ediv_eq_zero_of_lt (by omega) (by omega)
      unfold InR chg; omega⟩ (by omega) (by omega) (by omega)
  refine ⟨L, ?_, hR⟩
  simp (disch := omega) only [impl_bufferTimes.f, w64]
  simp only [if_pos (show 0 ≤ D + 1 by omega), if_pos (show (D + 1).toNat ≤ 35184372088832 by omega)]
  exact hL


theorem span_loop (L : List Int) (hl : (L.length : Int) ≤ 65) (d : Nat) : ∀ b i : Int, 0 ≤ b → b < L.length → 0 ≤ i → i ≤ L.length → (L.length : Int) - i = d → (∀ j, 0 ≤ j → j < i → rd L j ≤ rd L b) →
    (∀ j, 0 ≤ j → j < (L.length : Int) → 0 < rd L j) →
    ∃ c, Ev (fun k => impl_BufferSpan.l0 k b L L L.length i) (c, rd L c, true) ∧ 0 ≤ c ∧ c < L.length ∧ ∀ j, 0 ≤ j → j < (L.length : Int) → rd L j ≤ rd L c := by
  induction d with
  | zero =>
    intro b i b0 b1 i0 i1 hd hp hpos
    refine ⟨b, Ev_succ ?_, b0, b1, fun j j0 j1 => hp j j0 (by omega)⟩
    simp only [impl_BufferSpan.l0, if_neg (show ¬ i < (L.length : Int) by omega), if_pos b0, if_pos b1]
    exact Ev.now _
  | succ d ih =>
    intro b i b0 b1 i0 i1 hd hp hpos
    have hi : i < (L.length : Int) := by omega
    have hne : ¬ rd L i = 0 := by have := hpos i i0 hi; omega
    by_cases g : rd L i > rd L b
    · obtain ⟨c, hc, h⟩ := ih i (i + 1) i0 hi (by omega) (by omega) (by omega) (fun j j0 j1 => by
        by_cases e : j = i
        · rw [e]; omega
        · have := hp j j0 (by omega); omega) hpos
      refine ⟨c, Ev_succ ?_, h⟩
      simp (disch := omega) only [impl_BufferSpan.l0, w64]
      simp only [if_pos hi, if_pos i0, if_neg hne, if_pos b0, if_pos b1, if_pos g]
      exact hc
    · obtain ⟨c, hc, h⟩ := ih b (i + 1) b0 b1 (by omega) (by omega) (by omega) (fun j j0 j1 => by
        by_cases e : j = i
        · rw [e]; omega
        · exact hp j j0 (by omega)) hpos
      refine ⟨c, Ev_succ ?_, h⟩
      simp (disch := omega) only [impl_BufferSpan.l0, w64]
      simp only [if_pos hi, if_pos i0, if_neg hne, if_pos b0, if_pos b1, if_neg g]
      exact hc
theorem span_zero (L : List Int) (hl : (L.length : Int) ≤ 65) (d : Nat) : ∀ b i z : Int, 0 ≤ b → b < L.length → 0 ≤ i → i ≤ z → z < L.length → rd L z = 0 → z - i = d →
    Ev (fun k => impl_BufferSpan.l0 k b L L L.length i) (0, 0, false) := by
  induction d with
  | zero =>
    intro b i z b0 b1 i0 i1 i2 hz hd
    obtain rfl : i = z := by omega
    refine Ev_succ ?_
    simp only [impl_BufferSpan.l0, if_pos (show i < (L.length : Int) by omega), if_pos i0, if_pos hz]
    exact Ev.now _
  | succ d ih =>
    intro b i z b0 b1 i0 i1 i2 hz hd
    have hi : i < (L.length : Int) := by omega
    refine Ev_succ ?_
    by_cases hne : rd L i = 0
    · simp only [impl_BufferSpan.l0, if_pos hi, if_pos i0, if_pos hne]
      exact Ev.now _
    · simp (disch := omega) only [impl_BufferSpan.l0, w64]
      by_cases g : rd L i > rd L b
      · simp only [if_pos hi, if_pos i0, if_neg hne, if_pos b0, if_pos b1, if_pos g]
        exact ih i (i + 1) z i0 hi (by omega) (by omega) i2 hz (by omega)
      · simp only [if_pos hi, if_pos i0, if_neg hne, if_pos b0, if_pos b1, if_neg g]
        exact ih b (i + 1) z b0 b1 (by omega) (by omega) i2 hz (by omega)

theorem l00Min_eq (a b : Int) : spec_l00Min.f a b = some (mn a b) := by
  unfold spec_l00Min.f mn
  by_cases h : a < b
  · rw [if_pos h, if_neg (by omega)]
  · rw [if_neg h]
    by_cases g : b < a
    · rw [if_pos g]
    · rw [if_neg g, show a = b by omega]
theorem l07Time_loop (w r D f : Int) (hw : 2 ≤ w ∧ w ≤ 1000) (hr : 2 ≤ r ∧ r ≤ 1000) (hD : D ≤ 64) (hf : 0 ≤ f ∧ f ≤ D) (d : Nat) : ∀ m : Int, 0 ≤ m → m ≤ 1000000 → 1000000 - m < d →
    (∀ t, 1 ≤ t → t < mn (nxt w m) (nxt r m) → InR w r D f t) →
    ∃ T, Ev (fun k => spec_l07Time.l0 k w r D f (nxt w m) (nxt r m)) (T, decide (T > 0)) ∧ IsT w r D f T := by
  induction d with
  | zero => intro m h0 h1 hd; omega
  | succ d ih =>
    intro m h0 h1 hd hp
    have n1 := nxt_gt (t := m) hw.1
    have n2 := nxt_gt (t := m) hr.1
    have hm := mn_eq (nxt w m) (nxt r m)
    obtain ⟨u, hu⟩ : ∃ u, u = mn (nxt w m) (nxt r m) := ⟨_, rfl⟩
    rw [← hu] at hp hm
    by_cases hx : u ≤ 1000000
    · obtain ⟨q1, q2⟩ := div_bd hw.1 (show 0 ≤ u by omega)
      obtain ⟨p1, p2⟩ := div_bd hr.1 (show 0 ≤ u by omega)
      by_cases g : InR w r D f u
      · have k1 := nxt_gt (t := u) hw.1
        have k2 := nxt_gt (t := u) hr.1
        obtain ⟨T, hT, hI⟩ := ih u (by omega) hx (by omega) (fun t t0 t1 => by
          by_cases e : t < u
          · exact hp t t0 e
          · have := mn_eq (nxt w u) (nxt r u)
            unfold InR
            rw [chg_same hw.1 hr.1 (show u ≤ t by omega) (by omega) (by omega)]
            exact g)
        refine ⟨T, Ev_succ ?_, hI⟩
        simp only [spec_l07Time.l0, l00Min_eq, ← hu, Option.bind_some, if_pos hx, spec_l07Fill.f, if_neg (show ¬ w = 0 by omega), if_neg (show ¬ r = 0 by omega), l00In_eq]
        simp (disch := omega) only [w64, tdiv_eq]
        have g2 : 0 ≤ f + u / w - u / r ∧ f + u / w - u / r ≤ D := by
          have := g; unfold InR chg at this; omega
        simp only [g2, and_self, decide_true, if_true]
        have s1 : nxt w m ≠ u → nxt w u = nxt w m := fun e => nxt_same hw.1 (by omega) (by omega)
        have s2 : nxt r m ≠ u → nxt r u = nxt r m := fun e => nxt_same hr.1 (by omega) (by omega)
        have s3 : nxt w m = u → nxt w m + w = nxt w u := fun e => by rw [← e]; exact (nxt_self hw.1).symm
        have s4 : nxt r m = u → nxt r m + r = nxt r u := fun e => by rw [← e]; exact (nxt_self hr.1).symm
        by_cases e1 : nxt w m = u
        · by_cases e2 : nxt r m = u
          · simp only [if_pos e1, if_pos e2, s3 e1, s4 e2]; exact hT
          · simp only [if_pos e1, if_neg e2, s3 e1]; rw [s2 e2] at hT; exact hT
        · by_cases e2 : nxt r m = u
          · simp only [if_neg e1, if_pos e2, s4 e2]; rw [s1 e1] at hT; exact hT
          · omega
      · refine ⟨u, Ev_succ ?_, Or.inr ⟨by omega, hx, g, hp⟩⟩
        simp only [spec_l07Time.l0, l00Min_eq, ← hu, Option.bind_some, if_pos hx, spec_l07Fill.f, if_neg (show ¬ w = 0 by omega), if_neg (show ¬ r = 0 by omega), l00In_eq]
        simp (disch := omega) only [w64, tdiv_eq]
        have g2 : ¬ (0 ≤ f + u / w - u / r ∧ f + u / w - u / r ≤ D) := fun z => g (by unfold InR chg; omega)
        simp only [g2, decide_false, Bool.false_eq_true, if_false, decide_eq_true (show u > 0 by omega)]
        exact Ev.now _
    · refine ⟨0, Ev_succ ?_, Or.inl ⟨rfl, fun t t0 t1 => hp t t0 (by omega)⟩⟩
      simp only [spec_l07Time.l0, l00Min_eq, ← hu, Option.bind_some, if_neg hx]
      exact Ev.now _
theorem l07Time_ev (w r D f : Int) (hw : 2 ≤ w ∧ w ≤ 1000) (hr : 2 ≤ r ∧ r ≤ 1000) (hD : D ≤ 64) (hf : 0 ≤ f ∧ f ≤ D) :
    ∃ T, Ev (fun k => spec_l07Time.f k w r D f) (T, decide (T > 0)) ∧ IsT w r D f T := by
  have e1 : nxt w 0 = w := by unfold nxt; simp
  have e2 : nxt r 0 = r := by unfold nxt; simp
  obtain ⟨T, hT, hI⟩ := l07Time_loop w r D f hw hr hD hf 1000001 0 (by omega) (by omega) (by omega) (fun t t0 t1 => by
    rw [e1, e2] at t1
    have hm := mn_eq w r
    have a : t / w = 0 := Int.ediv_eq_zero_of_lt (by omega) (by omega)
    have b : t / r = 0 := Int.ediv_eq_zero_of_lt (by omega) (by omega)
    unfold InR chg; omega)
  rw [e1, e2] at hT
  exact ⟨T, hT, hI⟩

theorem span_both (w r D : Int) (hw : 2 ≤ w ∧ w ≤ 1000) (hr : 2 ≤ r ∧ r ≤ 1000) (hD : 1 ≤ D ∧ D ≤ 64) (L : List Int) (hl : (L.length : Int) = D + 1) (hp : ∀ f, 0 ≤ f → f ≤ D → IsT w r D f (rd L f)) (d : Nat) :
    ∀ b i : Int, 0 ≤ b → b ≤ D → 1 ≤ i → i ≤ D + 1 → D + 1 - i = d →
    ∃ x, Ev (fun k => spec_BufferSpan.l0 k w r D b (rd L b) i) x ∧ Ev (fun k => impl_BufferSpan.l0 k b L L L.length i) x := by
  induction d with
  | zero =>
    intro b i b0 b1 i0 i1 hd
    refine ⟨(b, rd L b, true), Ev_succ ?_, Ev_succ ?_⟩
    · simp only [spec_BufferSpan.l0, if_neg (show ¬ i ≤ D by omega)]
      exact Ev.now _
    · simp only [impl_BufferSpan.l0, if_neg (show ¬ i < (L.length : Int) by omega), if_pos b0, if_pos (show b < (L.length : Int) by omega)]
      exact Ev.now _
  | succ d ih =>
    intro b i b0 b1 i0 i1 hd
    have hi : i ≤ D := by omega
    obtain ⟨T, hT, hI⟩ := l07Time_ev w r D i hw hr hD.2 ⟨by omega, hi⟩
    obtain rfl := IsT_unique hI (hp i (by omega) hi)
    have hpos : 0 ≤ rd L i := by rcases hI with ⟨h, -⟩ | ⟨h, -⟩ <;> omega
    have S : ∀ x, Ev (fun k => if decide (rd L i > 0) = true then (if rd L i > rd L b then spec_BufferSpan.l0 k w r D i (rd L i) (i + 1) else spec_BufferSpan.l0 k w r D b (rd L b) (i + 1)) else some (0, 0, false)) x →
        Ev (fun k => spec_BufferSpan.l0 k w r D b (rd L b) i) x := by
      intro x h
      refine Ev_succ ?_
      simp (disch := omega) only [spec_BufferSpan.l0, w64]
      simp only [if_pos hi]
      exact Ev.bind hT h
    have I : ∀ x, Ev (fun k => if rd L i = 0 then some (0, 0, false) else (if rd L i > rd L b then impl_BufferSpan.l0 k i L L L.length (i + 1) else impl_BufferSpan.l0 k b L L L.length (i + 1))) x →
        Ev (fun k => impl_BufferSpan.l0 k b L L L.length i) x := by
      intro x h
      refine Ev_succ ?_
      simp (disch := omega) only [impl_BufferSpan.l0, w64]
      simp only [if_pos (show i < (L.length : Int) by omega), if_pos (show 0 ≤ i by omega), if_pos b0, if_pos (show b < (L.length : Int) by omega)]
      exact h
    by_cases z : rd L i = 0
    · refine ⟨(0, 0, false), S _ ?_, I _ ?_⟩
      · simpa [z] using Ev.now _
      · simpa [z] using Ev.now _
    · have zp : 0 < rd L i := by omega
      by_cases g : rd L i > rd L b
      · obtain ⟨x, h1, h2⟩ := ih i (i + 1) (by omega) hi (by omega) (by omega) (by omega)
        exact ⟨x, S x (by simpa [zp, g] using h1), I x (by simpa [z, g] using h2)⟩
      · obtain ⟨x, h1, h2⟩ := ih b (i + 1) b0 b1 (by omega) (by omega) (by omega)
        exact ⟨x, S x (by simpa [zp, g] using h1), I x (by simpa [z, g] using h2)⟩
theorem chg_self (w t : Int) : chg w w t = 0 := by unfold chg; omega
theorem FnExactBufferSpan : laws_FnExactBufferSpan.Pure := by
  intro w r D _ _ _
  apply Ev.rounds
  have E : ∃ x, Ev (fun k => spec_BufferSpan.f k w r D) x ∧ Ev (fun k => impl_BufferSpan.f k w r D) x := by
    have J : Ev (fun k => spec_BufferSpan.j0 k w r D true) (0, 0, false) := by
      refine Ev_succ ?_
      simpa [spec_BufferSpan.j0] using Ev.now _
    by_cases h : (2 ≤ w ∧ w ≤ 1000) ∧ (2 ≤ r ∧ r ≤ 1000) ∧ (1 ≤ D ∧ D ≤ 64)
    · obtain ⟨h0, h1, h2⟩ := h
      obtain ⟨L, hL, hl, hp⟩ := bufferTimes_ev w r D h0 h1 h2
      have B : ∀ x, Ev (fun k => impl_BufferSpan.l0 k 0 L L L.length 0) x → Ev (fun k => impl_BufferSpan.f k w r D) x := by
        intro x h
        simp only [impl_BufferSpan.f, areTicks_eq, isDepth_eq, Option.bind_some, h0, h1, h2, and_self, decide_true, if_true]
        refine Ev_succ ?_
        simp only [impl_BufferSpan.j0, Bool.not_true, Bool.false_eq_true, if_false]
        exact Ev.bind hL h
      by_cases e : w = r
      · refine ⟨(0, 0, false), ?_, B _ ?_⟩
        · simp only [spec_BufferSpan.f, ticks_eq, l00In_eq, Option.bind_some, h0, h1, h2, and_self, decide_true, if_true, beq_iff_eq]
          rw [show (w == r) = true from by simpa using e]
          exact J
        · subst e
          refine span_zero L (by omega) 0 0 0 0 (by omega) (by omega) (by omega) (by omega) (by omega) ?_ (by omega)
          rcases hp 0 (by omega) (by omega) with ⟨h, -⟩ | ⟨-, -, h, -⟩
          · exact h
          · exact absurd (by unfold InR; rw [chg_self]; omega) h
      · have A : ∀ x, Ev (fun k => spec_BufferSpan.l0 k w r D 0 (-1) 0) x → Ev (fun k => spec_BufferSpan.f k w r D) x := by
          intro x h
          simp only [spec_BufferSpan.f, ticks_eq, l00In_eq, Option.bind_some, h0, h1, h2, and_self, decide_true, if_true]
          rw [show (w == r) = false from by simpa using e]
          refine Ev_succ ?_
          simpa [spec_BufferSpan.j0] using h
        obtain ⟨T, hT, hI⟩ := l07Time_ev w r D 0 h0 h1 h2.2 ⟨by omega, by omega⟩
        obtain rfl := IsT_unique hI (hp 0 (by omega) (by omega))
        by_cases z : rd L 0 = 0
        · refine ⟨(0, 0, false), A _ (Ev_succ ?_), B _ (span_zero L (by omega) 0 0 0 0 (by omega) (by omega) (by omega) (by omega) (by omega) z (by omega))⟩
          simp only [spec_BufferSpan.l0, if_pos (show (0 : Int) ≤ D by omega)]
          refine Ev.bind hT ?_
          simpa [z] using Ev.now _
        · have zp : 0 < rd L 0 := by rcases hI with ⟨h, -⟩ | ⟨h, -⟩ <;> omega
          obtain ⟨x, hs, hi⟩ := span_both w r D h0 h1 h2 L hl hp D.toNat 0 1 (by omega) (by omega) (by omega) (by omega) (by omega)
          refine ⟨x, A _ (Ev_succ ?_), B _ (Ev_succ ?_)⟩
          · simp (disch := omega) only [spec_BufferSpan.l0, w64]
            simp only [if_pos (show (0 : Int) ≤ D by omega)]
            refine Ev.bind hT ?_
            simp only [decide_eq_true zp, gt_iff_lt, if_true, if_pos (show -1 < rd L 0 by omega)]
            exact hs
          · simp (disch := omega) only [impl_BufferSpan.l0, w64]
            simp only [if_pos (show 0 < (L.length : Int) by omega), if_pos (Int.le_refl 0), if_neg z, gt_iff_lt, if_neg (Int.lt_irrefl (rd L 0))]
            exact hi
    · have K : Ev (fun k => impl_BufferSpan.j0 k w r D true) (0, 0, false) := by
        refine Ev_succ ?_
        simpa [impl_BufferSpan.j0] using Ev.now _
      refine ⟨(0, 0, false), ?_, ?_⟩
      · simp only [spec_BufferSpan.f, ticks_eq, l00In_eq, Option.bind_some]
        by_cases h0 : 2 ≤ w ∧ w ≤ 1000
        · by_cases h1 : 2 ≤ r ∧ r ≤ 1000
          · have h2 : ¬ (1 ≤ D ∧ D ≤ 64) := fun g => h ⟨h0, h1, g⟩
            simp only [h0, h1, h2, and_self, decide_true, decide_false, if_true, Bool.false_eq_true, if_false]; exact J
          · simp only [h0, h1, and_self, decide_true, decide_false, if_true, Bool.false_eq_true, if_false]; exact J
        · simp only [h0, decide_false, Bool.false_eq_true, if_false]; exact J
      · simp only [impl_BufferSpan.f, areTicks_eq, isDepth_eq, Option.bind_some]
        by_cases h0 : (2 ≤ w ∧ w ≤ 1000) ∧ (2 ≤ r ∧ r ≤ 1000)
        · have h2 : ¬ (1 ≤ D ∧ D ≤ 64) := fun g => h ⟨h0.1, h0.2, g⟩
          simp only [h0, h2, and_self, decide_true, decide_false, if_true, Bool.not_false]; exact K
        · simp only [h0, decide_false, Bool.false_eq_true, if_false]; exact K
  obtain ⟨x, hs, hi⟩ := E
  simp only [laws_FnExactBufferSpan.f]
  refine Ev.bind hs (Ev.bind hi ?_)
  simpa using Ev.now true

end Go.Proofs.Ytjldjmdelbpjgaa.Pure
