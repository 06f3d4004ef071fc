/- The shortest clash of a code as a search: plain lemmas on lists of bytes. No conditions. -/
import Derived.Test.YtkpobdcnggdjaaaDoorWWords
namespace Go.Clash
abbrev S := List UInt8
theorem bl_irrefl : ∀ a : S, Op.bytesLess a a = false
  | [] => rfl
  | x :: a => by simp [Op.bytesLess, bl_irrefl a]
theorem bl_trans : ∀ a b c : S, Op.bytesLess a b = true → Op.bytesLess b c = true → Op.bytesLess a c = true
  | _, _, [], _, h => by simp [Op.bytesLess] at h
  | _, [], _ :: _, h, _ => by simp [Op.bytesLess] at h
  | [], _ :: _, _ :: _, _, _ => by simp [Op.bytesLess]
  | x :: a, y :: b, z :: c, h, h' => by
    simp only [Op.bytesLess, Bool.or_eq_true, decide_eq_true_eq, Bool.and_eq_true, beq_iff_eq] at *
    rcases h with h | ⟨rfl, h⟩
    · rcases h' with h' | ⟨rfl, h'⟩
      · exact .inl (UInt8.lt_trans h h')
      · exact .inl h
    · rcases h' with h' | ⟨rfl, h'⟩
      · exact .inl h'
      · exact .inr ⟨rfl, bl_trans a b c h h'⟩
theorem bl_total : ∀ a b : S, Op.bytesLess a b = false → Op.bytesLess b a = false → a = b
  | [], [], _, _ => rfl
  | [], _ :: _, h, _ => by simp [Op.bytesLess] at h
  | _ :: _, [], _, h => by simp [Op.bytesLess] at h
  | x :: a, y :: b, h, h' => by
    simp only [Op.bytesLess, Bool.or_eq_false_iff, decide_eq_false_iff_not, Bool.and_eq_false_iff, beq_eq_false_iff_ne, UInt8.not_lt] at *
    have hxy : x = y := UInt8.le_antisymm h'.1 h.1
    subst hxy
    have h1 := h.2.resolve_left (fun g => g rfl)
    have h2 := h'.2.resolve_left (fun g => g rfl)
    rw [bl_total a b h1 h2]
theorem bl_append : ∀ a b x : S, a.length = b.length → Op.bytesLess (a ++ x) (b ++ x) = Op.bytesLess a b
  | [], [], x, _ => by simp [bl_irrefl]
  | [], _ :: _, _, h => by simp at h
  | _ :: _, [], _, h => by simp at h
  | p :: a, q :: b, x, h => by
    have ih := bl_append a b x (by simpa using h)
    simp only [List.cons_append, Op.bytesLess, ih]

def lt (a b : S) : Bool := decide (a.length < b.length) || (decide (a.length = b.length) && Op.bytesLess a b)
theorem lt_iff (a b : S) : lt a b = true ↔ a.length < b.length ∨ (a.length = b.length ∧ Op.bytesLess a b = true) := by
  simp [lt]
def le (a b : S) : Prop := ¬ lt b a = true
theorem lt_irrefl (a : S) : ¬ lt a a = true := by rw [lt_iff, bl_irrefl]; simp
theorem lt_trans {a b c : S} (h : lt a b = true) (h' : lt b c = true) : lt a c = true := by
  rw [lt_iff] at *
  rcases h with h | ⟨h, g⟩
  · rcases h' with h' | ⟨h', g'⟩
    · exact .inl (by omega)
    · exact .inl (by omega)
  · rcases h' with h' | ⟨h', g'⟩
    · exact .inl (by omega)
    · exact .inr ⟨by omega, bl_trans _ _ _ g g'⟩
theorem le_refl (a : S) : le a a := lt_irrefl a
theorem le_antisymm {a b : S} (h : le a b) (h' : le b a) : a = b := by
  unfold le at *
  rw [lt_iff] at *
  have hl : a.length = b.length := by omega
  refine bl_total a b ?_ ?_
  · cases e : Op.bytesLess a b
    · rfl
    · exact absurd (.inr ⟨hl, e⟩) h'
  · cases e : Op.bytesLess b a
    · rfl
    · exact absurd (.inr ⟨hl.symm, e⟩) h
theorem lt_of_not_le {a b : S} (h : ¬ le a b) : lt b a = true := by unfold le at h; exact Classical.not_not.1 h
theorem le_of_lt {a b : S} (h : lt a b = true) : le a b := fun g => lt_irrefl _ (lt_trans h g)
theorem le_trans {a b c : S} (h : le a b) (h' : le b c) : le a c := by
  intro g
  -- c < a, a ≤ b, b ≤ c
  by_cases e : a = b
  · subst e; exact h' g
  · have h1 : lt a b = true := by
      apply lt_of_not_le
      intro q
      exact e (le_antisymm h q)
    exact h' (lt_trans g h1)
theorem le_append (a x : S) : le a (a ++ x) := by
  intro g
  rw [lt_iff, List.length_append] at g
  rcases g with g | ⟨g, h⟩
  · omega
  · have : x = [] := List.eq_nil_of_length_eq_zero (by omega)
    subst this
    rw [List.append_nil, bl_irrefl] at h
    cases h
theorem le_append_right {a b : S} (h : le a b) (x : S) : le (a ++ x) (b ++ x) := by
  intro g
  apply h
  rw [lt_iff, List.length_append, List.length_append] at g
  rw [lt_iff]
  rcases g with g | ⟨g, q⟩
  · exact .inl (by omega)
  · rw [bl_append _ _ _ (by omega)] at q
    exact .inr ⟨by omega, q⟩

/-- a step of the two readers. -/
def Step (ws : List S) (a t s t' : S) : Prop := (∃ w ∈ ws, a = w ++ s ∧ t' = t) ∨ (∃ w ∈ ws, w = a ++ s ∧ t' = t ++ s)
def Base (ws : List S) (s t : S) : Prop := ∃ i k : Nat, i ≠ k ∧ ∃ u, ws[i]? = some u ∧ ws[k]? = some t ∧ t = u ++ s
inductive Reach (ws : List S) : S → S → Prop
  | base {s t : S} : Base ws s t → Reach ws s t
  | step {a t s t' : S} : Reach ws a t → a ≠ [] → Step ws a t s t' → Reach ws s t'
theorem Step.le {ws : List S} {a t s t' : S} (h : Step ws a t s t') : le t t' := by
  rcases h with ⟨w, _, _, rfl⟩ | ⟨w, _, _, rfl⟩
  · exact le_refl _
  · exact le_append _ _
theorem Step.iso {ws : List S} {a t s t' u : S} (h : Step ws a t s t') (hu : Clash.le u t) : ∃ u', Step ws a u s u' ∧ Clash.le u' t' := by
  rcases h with ⟨w, hw, ha, rfl⟩ | ⟨w, hw, ha, rfl⟩
  · exact ⟨u, .inl ⟨w, hw, ha, rfl⟩, hu⟩
  · exact ⟨u ++ s, .inr ⟨w, hw, ha, rfl⟩, le_append_right hu s⟩

def Cov (T : S → Option S) (s t : S) : Prop := ∃ u, T s = some u ∧ le u t
def put (T : S → Option S) (s t : S) : S → Option S := fun x => if x = s then (match T s with | none => some t | some u => if lt t u = true then some t else some u) else T x
theorem put_other {T : S → Option S} {s t x : S} (h : x ≠ s) : put T s t x = T x := by unfold put; rw [if_neg h]
theorem put_none {T : S → Option S} {s : S} (t : S) (h : T s = none) : put T s t s = some t := by unfold put; rw [if_pos rfl, h]
theorem put_less {T : S → Option S} {s t u : S} (h : T s = some u) (hl : lt t u = true) : put T s t s = some t := by unfold put; rw [if_pos rfl, h]; simp [hl]
theorem put_keep {T : S → Option S} {s t u : S} (h : T s = some u) (hl : ¬ lt t u = true) : put T s t = T := by
  funext x
  unfold put
  by_cases e : x = s
  · rw [if_pos e, h, e, h]; simp [hl]
  · rw [if_neg e]
theorem put_self (T : S → Option S) (s t : S) : ∃ v, put T s t s = some v ∧ le v t ∧ (v = t ∨ T s = some v) ∧ (∀ u, T s = some u → le v u) := by
  cases h : T s with
  | none => exact ⟨t, put_none t h, le_refl t, .inl rfl, fun u hu => by cases hu⟩
  | some u =>
    by_cases hl : lt t u = true
    · exact ⟨t, put_less h hl, le_refl t, .inl rfl, fun v hv => by cases hv; exact le_of_lt hl⟩
    · exact ⟨u, by rw [put_keep h hl]; exact h, hl, .inr rfl, fun v hv => by cases hv; exact le_refl _⟩
theorem Cov.put {T : S → Option S} {x y : S} (h : Cov T x y) (s t : S) : Cov (put T s t) x y := by
  obtain ⟨u, hu, hl⟩ := h
  by_cases e : x = s
  · subst e
    obtain ⟨v, hv, _, _, hm⟩ := put_self T x t
    exact ⟨v, hv, le_trans (hm u hu) hl⟩
  · exact ⟨u, by rw [put_other e]; exact hu, hl⟩
theorem Cov.of_put (T : S → Option S) (s t : S) : Cov (Clash.put T s t) s t := by
  obtain ⟨v, hv, hl, _⟩ := put_self T s t
  exact ⟨v, hv, hl⟩

/-- what holds of the table T, of the suffixes that are done, and of the pairs C that are covered. -/
structure Inv (ws : List S) (T : S → Option S) (dn : S → Bool) (C : S → S → Prop) : Prop where
  sound : ∀ s t, T s = some t → Reach ws s t
  done : ∀ s, dn s = true → s ≠ [] ∧ ∃ t, T s = some t
  cov : ∀ s t, C s t → Cov T s t
def All (ws : List S) (T : S → Option S) (dn : S → Bool) (s t : S) : Prop := Base ws s t ∨ ∃ a u, dn a = true ∧ T a = some u ∧ Step ws a u s t
def Ans (ws : List S) (r : S) (b : Bool) : Prop := (b = true ∧ Reach ws [] r ∧ ∀ t, Reach ws [] t → le r t) ∨ (b = false ∧ r = [] ∧ ∀ t, ¬ Reach ws [] t)
theorem Ans.uniq {ws : List S} {r r' : S} {b b' : Bool} (h : Ans ws r b) (h' : Ans ws r' b') : r = r' ∧ b = b' := by
  rcases h with ⟨rfl, h1, h2⟩ | ⟨rfl, rfl, h2⟩
  · rcases h' with ⟨rfl, g1, g2⟩ | ⟨rfl, rfl, g2⟩
    · exact ⟨le_antisymm (h2 _ g1) (g2 _ h1), rfl⟩
    · exact absurd h1 (g2 _)
  · rcases h' with ⟨rfl, g1, g2⟩ | ⟨rfl, rfl, g2⟩
    · exact absurd g1 (h2 _)
    · exact ⟨rfl, rfl⟩
theorem exit {ws : List S} {T : S → Option S} {dn : S → Bool} (I : Inv ws T dn (All ws T dn)) (h : ∀ b u, dn b = false → b ≠ [] → T b = some u → ∃ f, T [] = some f ∧ le f u) :
    ∀ {s t : S}, Reach ws s t → (Cov T s t ∧ dn s = true) ∨ ∃ f, T [] = some f ∧ le f t := by
  have key : ∀ s t, Cov T s t → (Cov T s t ∧ dn s = true) ∨ ∃ f, T [] = some f ∧ le f t := by
    intro s t hc
    cases hd : dn s with
    | true => exact .inl ⟨hc, rfl⟩
    | false =>
      right
      obtain ⟨u, hu, hl⟩ := hc
      by_cases e : s = []
      · subst e; exact ⟨u, hu, hl⟩
      · obtain ⟨f, hf, hfl⟩ := h s u hd e hu
        exact ⟨f, hf, le_trans hfl hl⟩
  intro s t hr
  induction hr with
  | base hb => exact key _ _ (I.cov _ _ (.inl hb))
  | @step a t s t' _ ha hs ih =>
    rcases ih with ⟨⟨u, hu, hl⟩, hd⟩ | ⟨f, hf, hl⟩
    · obtain ⟨u', hs', hl'⟩ := hs.iso hl
      obtain ⟨v, hv, hvl⟩ := I.cov _ _ (.inr ⟨a, u, hd, hu, hs'⟩)
      exact key _ _ ⟨v, hv, le_trans hvl hl'⟩
    · exact .inr ⟨f, hf, le_trans hl hs.le⟩
theorem exit_ans {ws : List S} {T : S → Option S} {dn : S → Bool} (I : Inv ws T dn (All ws T dn)) (h : ∀ b u, dn b = false → b ≠ [] → T b = some u → ∃ f, T [] = some f ∧ le f u) :
    Ans ws ((T []).getD []) (T []).isSome := by
  have hno : dn [] = false := by
    cases e : dn [] with
    | false => rfl
    | true => exact absurd rfl (I.done _ e).1
  have hR : ∀ t, Reach ws [] t → ∃ f, T [] = some f ∧ le f t := fun t ht => by
    rcases exit I h ht with ⟨_, g⟩ | g
    · rw [hno] at g; cases g
    · exact g
  cases e : T [] with
  | none => exact .inr ⟨rfl, rfl, fun t ht => by obtain ⟨f, hf, _⟩ := hR t ht; rw [e] at hf; cases hf⟩
  | some f => exact .inl ⟨rfl, I.sound _ _ e, fun t ht => by obtain ⟨g, hg, hl⟩ := hR t ht; rw [e] at hg; cases hg; exact hl⟩
/-- the first pairs: nothing is done. -/
theorem Inv.put_first {ws : List S} {T : S → Option S} {C : S → S → Prop} (I : Inv ws T (fun _ => false) C) {s t : S} (hr : Reach ws s t) : Inv ws (put T s t) (fun _ => false) (fun x y => C x y ∨ (x = s ∧ y = t)) where
  sound x y h := by
    by_cases e : x = s
    · subst e
      obtain ⟨v, hv, _, hw, _⟩ := put_self T x t
      rw [hv] at h; cases h
      rcases hw with rfl | hw
      · exact hr
      · exact I.sound _ _ hw
    · rw [put_other e] at h; exact I.sound _ _ h
  done x h := by cases h
  cov x y h := by
    rcases h with h | ⟨rfl, rfl⟩
    · exact (I.cov x y h).put s t
    · exact Cov.of_put T x y
/-- a round: t0 is the text of the suffix that is gone on from. -/
structure Rnd (ws : List S) (T : S → Option S) (dn : S → Bool) (C : S → S → Prop) (t0 : S) : Prop extends Inv ws T dn C where
  low : ∀ a t, dn a = true → T a = some t → le t t0
  high : ∀ b u, dn b = false → T b = some u → le t0 u
theorem Rnd.keep {ws : List S} {T : S → Option S} {dn : S → Bool} {C : S → S → Prop} {t0 : S} (R : Rnd ws T dn C t0) {s t : S} (hl : le t0 t) (x : S) (hx : dn x = true) : Clash.put T s t x = T x := by
  by_cases e : x = s
  · subst e
    obtain ⟨u, hu⟩ := (R.done x hx).2
    have : ¬ lt t u = true := le_trans (R.low x u hx hu) hl
    rw [put_keep hu this]
  · exact put_other e
theorem Rnd.put {ws : List S} {T : S → Option S} {dn : S → Bool} {C : S → S → Prop} {t0 : S} (R : Rnd ws T dn C t0) {s t : S} (hr : Reach ws s t) (hl : le t0 t) : Rnd ws (put T s t) dn (fun x y => C x y ∨ (x = s ∧ y = t)) t0 where
  sound x y h := by
    by_cases e : x = s
    · subst e
      obtain ⟨v, hv, _, hw, _⟩ := put_self T x t
      rw [hv] at h; cases h
      rcases hw with rfl | hw
      · exact hr
      · exact R.sound _ _ hw
    · rw [put_other e] at h; exact R.sound _ _ h
  done x h := by
    refine ⟨(R.done x h).1, ?_⟩
    rw [R.keep hl x h]
    exact (R.done x h).2
  cov x y h := by
    rcases h with h | ⟨rfl, rfl⟩
    · exact (R.cov x y h).put s t
    · exact Cov.of_put T x y
  low a u ha hu := by rw [R.keep hl a ha] at hu; exact R.low a u ha hu
  high b u hb hu := by
    by_cases e : b = s
    · subst e
      obtain ⟨v, hv, _, hw, _⟩ := put_self T b t
      rw [hv] at hu; cases hu
      rcases hw with rfl | hw
      · exact hl
      · exact R.high _ _ hb hw
    · rw [put_other e] at hu; exact R.high b u hb hu
/-- a round begins at the least suffix that is not done. -/
theorem Rnd.start {ws : List S} {T : S → Option S} {dn : S → Bool} (I : Inv ws T dn (All ws T dn)) (hf : ∀ a t b u, dn a = true → T a = some t → dn b = false → T b = some u → le t u) {best t0 : S} (hb : best ≠ []) (hT : T best = some t0) (hd : dn best = false)
    (hmin : ∀ b u, dn b = false → T b = some u → le t0 u) : Rnd ws T (fun x => dn x || decide (x = best)) (All ws T dn) t0 where
  sound := I.sound
  done x h := by
    simp only [Bool.or_eq_true, decide_eq_true_eq] at h
    rcases h with h | rfl
    · exact I.done x h
    · exact ⟨hb, t0, hT⟩
  cov := I.cov
  low a t ha ht := by
    simp only [Bool.or_eq_true, decide_eq_true_eq] at ha
    rcases ha with ha | rfl
    · exact hf a t best t0 ha ht hd hT
    · rw [hT] at ht; cases ht; exact le_refl _
  high b u hb' hu := by
    simp only [Bool.or_eq_false_iff] at hb'
    exact hmin b u hb'.1 hu
/-- what one word asks of the suffix that is gone on from. -/
def W (best t0 w x y : S) : Prop := (best = w ++ x ∧ y = t0) ∨ (w = best ++ x ∧ y = t0 ++ x)
theorem Inv.weaken {ws : List S} {T : S → Option S} {dn : S → Bool} {C C' : S → S → Prop} (I : Inv ws T dn C) (h : ∀ x y, C' x y → C x y) : Inv ws T dn C' := ⟨I.sound, I.done, fun x y g => I.cov x y (h x y g)⟩
theorem Rnd.weaken {ws : List S} {T : S → Option S} {dn : S → Bool} {C C' : S → S → Prop} {t0 : S} (R : Rnd ws T dn C t0) (h : ∀ x y, C' x y → C x y) : Rnd ws T dn C' t0 := { toInv := R.toInv.weaken h, low := R.low, high := R.high }
theorem app_self {a s : S} (h : a = a ++ s) : s = [] := by
  have := congrArg List.length h
  rw [List.length_append] at this
  exact List.eq_nil_of_length_eq_zero (by omega)
section
variable {ws : List S} {T : S → Option S} {dn : S → Bool} {C : S → S → Prop} {t0 best w s : S}
theorem Rnd.word_cut (R : Rnd ws T dn C t0) (hT : T best = some t0) (hb : best ≠ []) (hw : w ∈ ws) (h : best = w ++ s) : Rnd ws (Clash.put T s t0) dn (fun x y => C x y ∨ W best t0 w x y) t0 := by
  refine (R.put (s := s) (t := t0) (.step (R.sound _ _ hT) hb (.inl ⟨w, hw, h, rfl⟩)) (le_refl _)).weaken (fun x y g => ?_)
  rcases g with g | ⟨g, rfl⟩ | ⟨g, rfl⟩
  · exact .inl g
  · rw [h] at g; exact .inr ⟨(List.append_cancel_left g).symm, rfl⟩
  · right
    have e : best = best ++ (x ++ s) := by rw [← List.append_assoc, ← g]; exact h
    have := app_self e
    have hx : x = [] := (List.append_eq_nil_iff.1 this).1
    have hs : s = [] := (List.append_eq_nil_iff.1 this).2
    subst hx; subst hs
    exact ⟨rfl, List.append_nil _⟩
theorem Rnd.word_more (R : Rnd ws T dn C t0) (hT : T best = some t0) (hb : best ≠ []) (hw : w ∈ ws) (h : w = best ++ s) (hn : ∀ x, best ≠ w ++ x) : Rnd ws (Clash.put T s (t0 ++ s)) dn (fun x y => C x y ∨ W best t0 w x y) t0 := by
  refine (R.put (s := s) (t := t0 ++ s) (.step (R.sound _ _ hT) hb (.inr ⟨w, hw, h, rfl⟩)) (le_append _ _)).weaken (fun x y g => ?_)
  rcases g with g | ⟨g, rfl⟩ | ⟨g, rfl⟩
  · exact .inl g
  · exact absurd g (hn x)
  · rw [h] at g
    have : s = x := List.append_cancel_left g
    subst this
    exact .inr ⟨rfl, rfl⟩
theorem Rnd.word_none (R : Rnd ws T dn C t0) (hn : ∀ x, best ≠ w ++ x) (hm : ∀ x, w ≠ best ++ x) : Rnd ws T dn (fun x y => C x y ∨ W best t0 w x y) t0 :=
  R.weaken (fun x y g => by
    rcases g with g | ⟨g, rfl⟩ | ⟨g, rfl⟩
    · exact g
    · exact absurd g (hn x)
    · exact absurd g (hm x))
theorem Rnd.finish {T' : S → Option S} (R : Rnd ws T' (fun x => dn x || decide (x = best)) (fun x y => All ws T dn x y ∨ ∃ w ∈ ws, W best t0 w x y) t0) (hk : ∀ a, (dn a || decide (a = best)) = true → T' a = T a) (hT : T best = some t0) :
    Inv ws T' (fun x => dn x || decide (x = best)) (All ws T' (fun x => dn x || decide (x = best))) := by
  refine R.toInv.weaken (fun x y h => ?_)
  rcases h with h | ⟨a, u, ha, hu, hs⟩
  · exact .inl (.inl h)
  · have ha' := ha
    rw [hk a ha] at hu
    simp only [Bool.or_eq_true, decide_eq_true_eq] at ha
    rcases ha with ha | rfl
    · exact .inl (.inr ⟨a, u, ha, hu, hs⟩)
    · rw [hT] at hu; cases hu
      right
      rcases hs with ⟨w, hw, h1, h2⟩ | ⟨w, hw, h1, h2⟩
      · exact ⟨w, hw, .inl ⟨h1, h2⟩⟩
      · exact ⟨w, hw, .inr ⟨h1, h2⟩⟩
theorem Rnd.apart (R : Rnd ws T dn C t0) : ∀ a t b u, dn a = true → T a = some t → dn b = false → T b = some u → le t u :=
  fun a t b u ha ht hb hu => le_trans (R.low a t ha ht) (R.high b u hb hu)
end
/-! ### how many suffixes there are -/
def sufs (ws : List S) : List S := ws.flatMap fun w => (List.range (w.length + 1)).map w.drop
theorem mem_sufs {ws : List S} {s : S} : (∃ w ∈ ws, ∃ p, w = p ++ s) → s ∈ sufs ws := by
  rintro ⟨w, hw, p, rfl⟩
  refine List.mem_flatMap.2 ⟨_, hw, List.mem_map.2 ⟨p.length, List.mem_range.2 (by rw [List.length_append]; omega), by simp⟩⟩
theorem Reach.suffix {ws : List S} {s t : S} (h : Reach ws s t) : ∃ w ∈ ws, ∃ p, w = p ++ s := by
  induction h with
  | base hb =>
    obtain ⟨i, k, _, u, _, hk, e⟩ := hb
    exact ⟨_, List.mem_of_getElem? hk, u, e⟩
  | step _ _ hs ih =>
    rcases hs with ⟨w, hw, ha, _⟩ | ⟨w, hw, ha, _⟩
    · obtain ⟨v, hv, p, hp⟩ := ih
      exact ⟨v, hv, p ++ w, by rw [hp, ha, List.append_assoc]⟩
    · exact ⟨w, hw, _, ha⟩
def cnt : List S → (S → Bool) → Nat
  | [], _ => 0
  | a :: r, dn => (if dn a = true then 0 else 1) + cnt r dn
theorem cnt_le_length : ∀ (l : List S) (dn : S → Bool), cnt l dn ≤ l.length
  | [], _ => Nat.le_refl _
  | a :: r, dn => by
    have := cnt_le_length r dn
    rw [cnt, List.length_cons]
    split <;> omega
theorem cnt_le (dn : S → Bool) (best : S) : ∀ l : List S, cnt l (fun x => dn x || decide (x = best)) ≤ cnt l dn
  | [] => Nat.le_refl _
  | a :: r => by
    have h := cnt_le dn best r
    rw [cnt, cnt]
    have e : (if (dn a || decide (a = best)) = true then 0 else 1) ≤ (if dn a = true then 0 else 1) := by
      cases dn a <;> by_cases e : a = best <;> simp [e]
    omega
theorem cnt_lt (dn : S → Bool) (best : S) (hd : dn best = false) : ∀ l : List S, best ∈ l → cnt l (fun x => dn x || decide (x = best)) < cnt l dn
  | [], hm => by cases hm
  | a :: r, hm => by
    rw [cnt, cnt]
    by_cases e : a = best
    · have h := cnt_le dn best r
      subst e
      simp only [hd, Bool.false_or, decide_true, if_true, Bool.false_eq_true, if_false]
      omega
    · have h := cnt_lt dn best hd r (by cases hm with | head => exact absurd rfl e | tail _ h => exact h)
      have e2 : (if (dn a || decide (a = best)) = true then 0 else 1) = (if dn a = true then 0 else 1) := by
        rw [decide_eq_false e, Bool.or_false]
      rw [e2]
      omega
theorem sufs_length {ws : List S} (n : Nat) (h : ∀ w ∈ ws, w.length ≤ n) : (sufs ws).length ≤ (n + 1) * ws.length := by
  unfold sufs
  induction ws with
  | nil => simp
  | cons a r ih =>
    rw [List.flatMap_cons, List.length_append, List.length_map, List.length_range, List.length_cons]
    have h1 := h a List.mem_cons_self
    have h2 := ih (fun w hw => h w (List.mem_cons_of_mem _ hw))
    rw [Nat.mul_succ]; omega
noncomputable def clashOf (ws : List S) : S × Bool := by
  classical exact if h : ∃ p : S × Bool, Ans ws p.1 p.2 then Classical.choose h else ([], false)
theorem clashOf_eq {ws : List S} {r : S} {b : Bool} (h : Ans ws r b) : clashOf ws = (r, b) := by
  have hx : ∃ p : S × Bool, Ans ws p.1 p.2 := ⟨(r, b), h⟩
  unfold clashOf
  rw [dif_pos hx]
  have := Ans.uniq (Classical.choose_spec hx) h
  exact Prod.ext this.1 this.2
end Go.Clash
namespace Go
def clashBs (x : Clash.S) : ByteArray := ⟨x.toArray⟩
theorem clashBs_data (x : Clash.S) : (clashBs x).data.toList = x := rfl
theorem clashBs_size (x : Clash.S) : (clashBs x).size = x.length := rfl
theorem clash_len (s : ByteArray) : s.data.toList.length = s.size := Array.length_toList
/-- the pairs of words before the i-th, and of the i-th with those before the j-th. -/
def clashC (ws : List Clash.S) (i j : Nat) (x y : Clash.S) : Prop := ∃ a b : Nat, (a < i ∨ (a = i ∧ b < j)) ∧ a ≠ b ∧ ∃ u, ws[a]? = some u ∧ ws[b]? = some y ∧ y = u ++ x
theorem clashC_zero (ws : List Clash.S) (x y : Clash.S) : ¬ clashC ws 0 0 x y := by
  rintro ⟨a, b, h, _⟩; omega
theorem clashC_next {ws : List Clash.S} {i j : Nat} (hj : ws.length ≤ j) {x y : Clash.S} (h : clashC ws (i + 1) 0 x y) : clashC ws i j x y := by
  obtain ⟨a, b, h1, h2, u, h3, h4, h5⟩ := h
  have hb : b < ws.length := (List.getElem?_eq_some_iff.1 h4).1
  exact ⟨a, b, by omega, h2, u, h3, h4, h5⟩
theorem clashC_base {ws : List Clash.S} {x y : Clash.S} (h : Clash.Base ws x y) : clashC ws ws.length 0 x y := by
  obtain ⟨a, b, h2, u, h3, h4, h5⟩ := h
  exact ⟨a, b, .inl (List.getElem?_eq_some_iff.1 h3).1, h2, u, h3, h4, h5⟩
theorem clashC_none {ws : List Clash.S} {i j : Nat} {u v : Clash.S} (hu : ws[i]? = some u) (hv : ws[j]? = some v) (hn : i = j ∨ ∀ x, v ≠ u ++ x) {x y : Clash.S} (h : clashC ws i (j + 1) x y) : clashC ws i j x y := by
  obtain ⟨a, b, h1, h2, u', h3, h4, h5⟩ := h
  by_cases e : a = i ∧ b = j
  · obtain ⟨rfl, rfl⟩ := e
    rw [hu] at h3; cases h3
    rw [hv] at h4; cases h4
    rcases hn with hn | hn
    · exact absurd hn h2
    · exact absurd h5 (hn x)
  · exact ⟨a, b, by omega, h2, u', h3, h4, h5⟩
theorem clashC_some {ws : List Clash.S} {i j : Nat} {u v s : Clash.S} (hu : ws[i]? = some u) (hv : ws[j]? = some v) (hs : v = u ++ s) {x y : Clash.S} (h : clashC ws i (j + 1) x y) : clashC ws i j x y ∨ (x = s ∧ y = v) := by
  obtain ⟨a, b, h1, h2, u', h3, h4, h5⟩ := h
  by_cases e : a = i ∧ b = j
  · obtain ⟨rfl, rfl⟩ := e
    rw [hu] at h3; cases h3
    rw [hv] at h4; cases h4
    rw [hs] at h5
    exact .inr ⟨(List.append_cancel_left h5).symm, rfl⟩
  · exact .inl ⟨a, b, by omega, h2, u', h3, h4, h5⟩
/-- the texts of the search are short. -/
def ClB (T : Clash.S → Option Clash.S) (m : Nat) : Prop := ∀ s t, T s = some t → s.length ≤ 12 ∧ t.length ≤ m
theorem ClB.put {T : Clash.S → Option Clash.S} {m : Nat} (h : ClB T m) {s t : Clash.S} (hs : s.length ≤ 12) (ht : t.length ≤ m) : ClB (Clash.put T s t) m := by
  intro x y hxy
  by_cases e : x = s
  · subst e
    obtain ⟨v, hv, _, hw, _⟩ := Clash.put_self T x t
    rw [hv] at hxy; cases hxy
    rcases hw with rfl | hw
    · exact ⟨hs, ht⟩
    · exact h _ _ hw
  · rw [Clash.put_other e] at hxy; exact h _ _ hxy
theorem ClB.mono {T : Clash.S → Option Clash.S} {m m' : Nat} (h : ClB T m) (hm : m ≤ m') : ClB T m' := fun s t g => ⟨(h s t g).1, Nat.le_trans (h s t g).2 hm⟩
theorem clash_next_word {ws : List Clash.S} {best t0 wd : Clash.S} {j : Nat} {C : Clash.S → Clash.S → Prop} (hw : ws[j]? = some wd) {p q : Clash.S} (h : C p q ∨ ∃ a, a < j + 1 ∧ ∃ wd, ws[a]? = some wd ∧ Clash.W best t0 wd p q) : (C p q ∨ ∃ a, a < j ∧ ∃ wd, ws[a]? = some wd ∧ Clash.W best t0 wd p q) ∨ Clash.W best t0 wd p q := by
  rcases h with h | ⟨a, ha, wd', h1, h2⟩
  · exact .inl (.inl h)
  · by_cases e : a = j
    · subst e; rw [hw] at h1; cases h1; exact .inr h2
    · exact .inl (.inr ⟨a, by omega, wd', h1, h2⟩)
noncomputable def clashF (l0 : List ByteArray) : Option (ByteArray × Bool) :=
  if l0.length ≤ 16 ∧ (∀ x ∈ l0, x.size ≤ 12) then some (clashBs (Clash.clashOf (l0.map (·.data.toList))).1, (Clash.clashOf (l0.map (·.data.toList))).2) else none

end Go
