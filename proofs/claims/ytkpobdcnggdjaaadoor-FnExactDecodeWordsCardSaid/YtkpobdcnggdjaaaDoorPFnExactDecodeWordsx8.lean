-- Written by a program of this session (mkprint.py) over the print of the translation. Not trusted: Lean checks it.
import Derived.Test.YtkpobdcnggdjaaaDoorPFnExactDecodeWordsx0
import Derived.Test.YtkpobdcnggdjaaaDoorPFnExactDecodeWordsx7
namespace Go.Proofs.YtkpobdcnggdjaaaDoor.PFnExactDecodeWords
open Go.RowKit Go.Proofs.YtkpobdcnggdjaaaDoorW.PrintWords Go.Proofs.YtkpobdcnggdjaaaDoorW.PrintLast Go.Proofs.YtkpobdcnggdjaaaDoorW.PrintMore
noncomputable section
attribute [local go_sem] max2_int min2_int max_two min_two max_three min_three max_four min_four   -- for this text's walks alone
set_option linter.unusedVariables false
set_option linter.unusedSimpArgs false

/-! ### impl_clash: function 22, told by hand -/
open Go.Maps in
theorem clash_or (x y : Int) : cmp_Or_int.f 5 [x, y] = some (if x = 0 then y else x) := by
  have e0 : rd [x, y] 0 = x := rfl
  have e1 : rd [x, y] 1 = y := rfl
  have w1 : wrap64 (0 + 1) = 1 := by unfold wrap64; omega
  have w2 : wrap64 (1 + 1) = 2 := by unfold wrap64; omega
  have hl : (([x, y] : List Int).length : Int) = 2 := rfl
  simp only [cmp_Or_int.f, cmp_Or_int.l0, hl, e0, e1, w1, w2, if_pos (show (0 : Int) < 2 by decide), if_pos (show (0 : Int) ≤ 0 by decide), if_pos (show (1 : Int) < 2 by decide), if_pos (show (0 : Int) ≤ 1 by decide), if_neg (show ¬ (2 : Int) < 2 by decide)]
  by_cases c : x = 0
  · rw [if_pos c, if_pos c]
    by_cases c2 : y = 0
    · rw [if_pos c2, c2]
    · rw [if_neg c2]
  · rw [if_neg c, if_neg c]
theorem clash_lt (a b : ByteArray) : impl_clash_1.f 5 a b = some (Clash.lt a.data.toList b.data.toList) := by
  have la : a.data.toList.length = a.size := Array.length_toList
  have lb : b.data.toList.length = b.size := Array.length_toList
  have na : (a.toList != a.toList) = false := by simp
  have nb : (b.toList != b.toList) = false := by simp
  simp only [impl_clash_1.f, cmp_Compare_int.f, cmp_Compare_string.f, cmp_isNaN_int.f, Option.bind_some, bne_self_eq_false, Bool.false_eq_true, if_false, Clash.lt, la, lb, Lib.toList_data]
  by_cases h1 : (a.size : Int) < b.size
  · have h1' : a.size < b.size := by omega
    rw [if_pos h1]
    simp only [Option.bind_some, clash_or, if_neg (show ¬ (-1 : Int) = 0 by decide), decide_eq_true h1', Bool.true_or]
    rfl
  · have h1' : ¬ a.size < b.size := by omega
    rw [if_neg h1]
    by_cases h2 : (a.size : Int) > b.size
    · have h2' : ¬ a.size = b.size := by omega
      rw [if_pos h2]
      simp only [Option.bind_some, clash_or, if_neg (show ¬ (1 : Int) = 0 by decide), decide_eq_false h1', decide_eq_false h2', Bool.false_and, Bool.or_self]
      rfl
    · have h2' : a.size = b.size := by omega
      rw [if_neg h2]
      simp only [Option.bind_some, clash_or, if_true, decide_eq_false h1', decide_eq_true h2', Bool.true_and, Bool.false_or]
      cases h3 : Op.bytesLess a.data.toList b.data.toList with
      | true => rfl
      | false =>
        cases h4 : (a.data.toList == b.data.toList) <;> rfl
theorem clash_less (a b : ByteArray) (r : Bool) (w : World) (h : Clash.lt a.data.toList b.data.toList = r) :
    Calls Tryd.prog 35 #[.string a, .string b] w fun e w' => e = .returned (.bool r) ∧ Below w.heap.size w w' :=
  impl_clash_1.calls 5 a b r w (by rw [clash_lt, h])

theorem clash_law : Go.Maps.Keyed Tryd.prog 9 := Go.Maps.string_keyed Tryd.underlying9
theorem clash_zeroS (w : World) : (zeroValue 9).run Tryd.prog w = .ok (.string ⟨#[]⟩) w := by kernel_rfl
theorem clash_zeroB (w : World) : (zeroValue 4).run Tryd.prog w = .ok (.bool false) w := by kernel_rfl
theorem clash_key {s : ByteArray} (h : s.size ≤ maxLen) : keyOf Tryd.prog 9 (.string s) = some (.string s.data.toList) := WideMaps.keyOf_string_mk Tryd.underlying9 h
abbrev clashS (w : World) (B n : Nat) (D : DataW Unit) : Prop := w.ownsMap Tryd.prog 9 (plainElem Tryd.prog 9) B n D
abbrev clashB (w : World) (B n : Nat) (D : DataW Unit) : Prop := w.ownsMap Tryd.prog 9 (plainElem Tryd.prog 4) B n D
theorem clash_lookS_ok (w : World) {ops : Array Oper} {rest : List Oper} {o : Oper} {a : Act} {Q : Exit → Act → World → Prop}
    (hg : o.guard = none) (m x : Operand) (hop : o.op = Op.lookup 49 m x true) (B n : Nat) (D : DataW Unit) (hm : a.eval m = .map (some B)) (hown : clashS w B n D) (key : ByteArray) (hx : a.eval x = .string key) (hs : key.size ≤ maxLen)
    (hK : ∀ c : ByteArray, D.atKey (.string key.data.toList) (.lit (.string [])) = .lit (.string c.data.toList) → c.size ≤ maxLen → wpList Tryd.prog ops Q rest (a.put o.dst (.tuple #[.string c, .bool (Go.Maps.has D (.string key.data.toList))])) w) :
    wpList Tryd.prog ops Q (o :: rest) a w :=
  wpList_lookup_own_ok w hg m x 49 hop 9 9 clash_law Tryd.underlying49 (plainElem Tryd.prog 9) (clash_zeroS w) (.lit (.string [])) [] (plainElem_string Tryd.underlying9 (show (⟨#[]⟩ : ByteArray).size ≤ maxLen from Nat.zero_le _)) B n D hm hown (.string key) _ hx (clash_key hs) (fun v ps hv => by
    obtain ⟨c, rfl, hc, hwc⟩ := plainElem_string_inv Tryd.underlying9 hv
    exact hK c (congrArg Prod.fst hc) hwc)
theorem clash_lookS (w : World) {ops : Array Oper} {rest : List Oper} {o : Oper} {a : Act} {Q : Exit → Act → World → Prop}
    (hg : o.guard = none) (m x : Operand) (hop : o.op = Op.lookup 49 m x false) (B n : Nat) (D : DataW Unit) (hm : a.eval m = .map (some B)) (hown : clashS w B n D) (key : ByteArray) (hx : a.eval x = .string key) (hs : key.size ≤ maxLen)
    (hK : ∀ c : ByteArray, D.atKey (.string key.data.toList) (.lit (.string [])) = .lit (.string c.data.toList) → c.size ≤ maxLen → wpList Tryd.prog ops Q rest (a.put o.dst (.string c)) w) :
    wpList Tryd.prog ops Q (o :: rest) a w := by
  refine wpList_plain hg fun K' hK' => ?_
  obtain ⟨v, ps, hrun, hv⟩ := hown.lookup clash_law Tryd.underlying49 (clash_zeroS w) (zd := .lit (.string [])) (zp := []) (plainElem_string Tryd.underlying9 (show (⟨#[]⟩ : ByteArray).size ≤ maxLen from Nat.zero_le _)) (clash_key hs)
  obtain ⟨c, rfl, hc, hwc⟩ := plainElem_string_inv Tryd.underlying9 hv
  unfold Oper.wp
  simp [execOp, hop, hm, hx, hrun, Result.andThen]
  exact hK' _ _ (hK c (congrArg Prod.fst hc) hwc)
theorem clash_lookB (w : World) {ops : Array Oper} {rest : List Oper} {o : Oper} {a : Act} {Q : Exit → Act → World → Prop}
    (hg : o.guard = none) (m x : Operand) (hop : o.op = Op.lookup 50 m x false) (B n : Nat) (D : DataW Unit) (hm : a.eval m = .map (some B)) (hown : clashB w B n D) (key : ByteArray) (hx : a.eval x = .string key) (hs : key.size ≤ maxLen) (r : Bool)
    (hr : D.atKey (.string key.data.toList) (.lit (.bool false)) = .lit (.bool r)) (hK : wpList Tryd.prog ops Q rest (a.put o.dst (.bool r)) w) :
    wpList Tryd.prog ops Q (o :: rest) a w := by
  refine wpList_plain hg fun K' hK' => ?_
  obtain ⟨v, ps, hrun, hv⟩ := hown.lookup clash_law Tryd.underlying50 (clash_zeroB w) (zd := .lit (.bool false)) (zp := []) (plainElem_bool Tryd.underlying4 false) (clash_key hs)
  rw [hr] at hv
  have hv2 : v = .bool r := by
    unfold plainElem at hv
    rw [Tryd.underlying4] at hv
    cases v <;> simp at hv
    rw [hv.1]
  subst hv2
  unfold Oper.wp
  simp [execOp, hop, hm, hx, hrun, Result.andThen]
  exact hK' _ _ hK
theorem clash_storeS (w : World) {ops : Array Oper} {rest : List Oper} {o : Oper} {a : Act} {Q : Exit → Act → World → Prop}
    (hg : o.guard = none) (m x v : Operand) (hop : o.op = Op.mapUpdate 49 m x v) (B n : Nat) (D : DataW Unit) (hm : a.eval m = .map (some B)) (hown : clashS w B n D) (hn : n < maxLen) (key val : ByteArray) (hx : a.eval x = .string key) (hv : a.eval v = .string val) (hs : key.size ≤ maxLen) (ht : val.size ≤ maxLen)
    (hK : ∀ w', clashS w' B (n + 1) (D.put (.string key.data.toList) (.lit (.string val.data.toList))) → w.grownBy w' (some B) → wpList Tryd.prog ops Q rest (a.put o.dst undef) w') :
    wpList Tryd.prog ops Q (o :: rest) a w :=
  wpList_mapUpdate_own w hg m x v 49 hop 9 9 clash_law Tryd.underlying49 _ B n D hm hown hn (.string key) (.string val) _ hx hv (clash_key hs) _ [] (plainElem_string Tryd.underlying9 ht) hK
theorem clash_storeB (w : World) {ops : Array Oper} {rest : List Oper} {o : Oper} {a : Act} {Q : Exit → Act → World → Prop}
    (hg : o.guard = none) (m x v : Operand) (hop : o.op = Op.mapUpdate 50 m x v) (B n : Nat) (D : DataW Unit) (hm : a.eval m = .map (some B)) (hown : clashB w B n D) (hn : n < maxLen) (key : ByteArray) (hx : a.eval x = .string key) (hv : a.eval v = .bool true) (hs : key.size ≤ maxLen)
    (hK : ∀ w', clashB w' B (n + 1) (D.put (.string key.data.toList) (.lit (.bool true))) → w.grownBy w' (some B) → wpList Tryd.prog ops Q rest (a.put o.dst undef) w') :
    wpList Tryd.prog ops Q (o :: rest) a w :=
  wpList_mapUpdate_own w hg m x v 50 hop 9 4 clash_law Tryd.underlying50 _ B n D hm hown hn (.string key) (.bool true) _ hx hv (clash_key hs) _ [] (plainElem_bool Tryd.underlying4 true) hK
def ClR (D : DataW Unit) (T : Clash.S → Option Clash.S) : Prop := (∀ s : Clash.S, s ≠ [] → (∀ t, T s = some t → Go.Maps.has D (.string s) = true ∧ ∀ z, D.atKey (.string s) z = .lit (.string t)) ∧ (T s = none → Go.Maps.has D (.string s) = false)) ∧ Go.Maps.has D (.string []) = false
theorem ClR.look {D : DataW Unit} {T : Clash.S → Option Clash.S} (h : ClR D T) {s t c : Clash.S} {z : DataW Unit} (hs : s ≠ []) (ht : T s = some t) (hc : D.atKey (.string s) z = .lit (.string c)) : c = t := by
  have := ((h.1 s hs).1 t ht).2 z
  rw [this] at hc
  injection hc with hc
  injection hc with hc
  exact hc.symm
theorem ClR.put {D : DataW Unit} {T : Clash.S → Option Clash.S} (h : ClR D T) (hm : Go.Maps.IsMap D) {s t : Clash.S} (hk : WideAt.IsKeyLit (.string s)) (hs : s ≠ []) (hp : Clash.put T s t s = some t) : ClR (D.put (.string s) (.lit (.string t))) (Clash.put T s t) := by
  refine ⟨fun x hx => ?_, ?_⟩
  · by_cases e : x = s
    · subst e
      refine ⟨fun u hu => ?_, fun hu => by rw [hp] at hu; cases hu⟩
      rw [hp] at hu; cases hu
      exact ⟨Go.Maps.has_put_same hm hk _, fun z => Go.Maps.atKey_put_same hm hk _ z⟩
    · have hne : (Lit.string x) ≠ .string s := fun g => e (by injection g)
      rw [Clash.put_other e, Go.Maps.has_put_other hne]
      exact ⟨fun u hu => ⟨((h.1 x hx).1 u hu).1, fun z => by rw [Go.Maps.atKey_put_other hne]; exact ((h.1 x hx).1 u hu).2 z⟩, (h.1 x hx).2⟩
  · rw [Go.Maps.has_put_other (fun g => hs (by injection g with g; exact g.symm))]
    exact h.2
theorem ClR.put_nil {D : DataW Unit} {T : Clash.S → Option Clash.S} (h : ClR D T) (t : Clash.S) : ClR D (Clash.put T [] t) := by
  refine ⟨fun x hx => ?_, h.2⟩
  rw [Clash.put_other hx]
  exact h.1 x hx
structure ClV (B : Nat) (w : World) (T : Clash.S → Option Clash.S) (n : Nat) : Prop where
  ct : w.heap[B + 1]? = some (.cells #[.map (some B)] 49 (0, 0))
  cl : w.heap[B + 5]? = some (.cells #[.func (.func 35) #[] #[]] 54 (0, 0))
  fi : ∃ (f : ByteArray) (i : Bool), w.heap[B + 3]? = some (.cells #[.string f] 9 (0, 0)) ∧ w.heap[B + 4]? = some (.cells #[.bool i] 4 (0, 0)) ∧ T [] = (if i = true then some f.data.toList else none) ∧ (i = false → f = ⟨#[]⟩)
  mp : ∃ D : DataW Unit, clashS w B n D ∧ ClR D T
theorem ClV.step {B : Nat} {w w' : World} {T : Clash.S → Option Clash.S} {n : Nat} (h : ClV B w T n) (hk : ∀ k, B ≤ k → k < B + 6 → k ≠ B + 2 → w'.heap[k]? = w.heap[k]?) : ClV B w' T n := by
  obtain ⟨h1, h2, ⟨f, i, h3, h4, h5, h6⟩, ⟨D, ⟨es, clock, hb, r⟩, h7⟩⟩ := h
  exact ⟨(hk _ (by omega) (by omega) (by omega)).trans h1, (hk _ (by omega) (by omega) (by omega)).trans h2, ⟨f, i, (hk _ (by omega) (by omega) (by omega)).trans h3, (hk _ (by omega) (by omega) (by omega)).trans h4, h5, h6⟩, ⟨D, ⟨es, clock, (hk _ (by omega) (by omega) (by omega)).trans hb, r⟩, h7⟩⟩

theorem clash_toList (s : ByteArray) : s.toList = s.data.toList := Lib.toList_data s
abbrev clashMay (B : Nat) (k : Nat) : Prop := k = B ∨ k = B + 3 ∨ k = B + 4
structure ClW (B : Nat) (w w' : World) (T : Clash.S → Option Clash.S) (n : Nat) : Prop where
  v : ClV B w' T n
  b : Below B w w'
  k : Kept w w' (clashMay B)
theorem clash_own_below {w w' : World} {B n : Nat} {e : TypeId} {D : DataW Unit} (h : w.ownsMap Tryd.prog 9 (plainElem Tryd.prog e) B n D) (hb : Below w.heap.size w w') : w'.ownsMap Tryd.prog 9 (plainElem Tryd.prog e) B n D := by
  have hlt := h.lt
  obtain ⟨es, clock, h1, r⟩ := h
  exact ⟨es, clock, (hb.block B hlt).trans h1, r⟩
theorem ClV.below {B n : Nat} {w w' : World} {T : Clash.S → Option Clash.S} (h : ClV B w T n) (hB : B + 6 ≤ w.heap.size) (hb : Below w.heap.size w w') : ClV B w' T n := h.step (fun k h1 h2 _ => hb.block k (by omega))
theorem ClW.after {B n : Nat} {w w1 w' : World} {T : Clash.S → Option Clash.S} (hB : B + 6 ≤ w.heap.size) (hb : Below w.heap.size w w1) (h : ClW B w1 w' T n) : ClW B w w' T n where
  v := h.v
  b := (hb.mono (by omega)).trans h.b
  k := (Kept.of_below hb (clashMay B)).then_ h.k (fun k hk => .inl hk)
theorem ClV.found {B n : Nat} {w : World} {T : Clash.S → Option Clash.S} (h : ClV B w T n) (t : ByteArray) (hp : Clash.put T [] t.data.toList [] = some t.data.toList) :
    ClW B w ((w.setCell ⟨B + 3, 0, none⟩ (.string t)).setCell ⟨B + 4, 0, none⟩ (.bool true)) (Clash.put T [] t.data.toList) (n + 1) := by
  obtain ⟨hct, hcl, ⟨f, i, hcf, hci, hTi, hfi⟩, ⟨D, hown, hR⟩⟩ := h
  have far : ∀ k, k ≠ B + 3 → k ≠ B + 4 → ((w.setCell ⟨B + 3, 0, none⟩ (.string t)).setCell ⟨B + 4, 0, none⟩ (.bool true)).heap[k]? = w.heap[k]? := fun k h3 h4 => (Below.heap_setCell _ _ _ _ h4).trans (Below.heap_setCell _ _ _ _ h3)
  refine ⟨⟨(far _ (by omega) (by omega)).trans hct, (far _ (by omega) (by omega)).trans hcl, ⟨t, true, blk_far (blk_put (cs := #[.string f]) hcf 0 _ rfl) (by show B + 3 ≠ B + 4; omega) _, blk_put (cs := #[.bool i]) (blk_far hci (by show B + 4 ≠ B + 3; omega) _) 0 _ rfl, by rw [hp]; rfl, fun h => by cases h⟩, ⟨D, ?_, hR.put_nil _⟩⟩, ?_, ?_⟩
  · obtain ⟨es, clock, h1, h2, h3, h4⟩ := hown
    exact ⟨es, clock, (far _ (by omega) (by omega)).trans h1, h2, by omega, h4⟩
  · exact ((Below.refl B w).setCell (by show B ≤ B + 3; omega) _).setCell (by show B ≤ B + 4; omega) _
  · exact ((Kept.refl w (clashMay B)).setCell (.inl (.inr (.inl rfl))) _).setCell (.inl (.inr (.inr rfl))) _
theorem ClV.same {B n : Nat} {w : World} {T : Clash.S → Option Clash.S} (h : ClV B w T n) {s t : Clash.S} (hp : Clash.put T s t = T) : ClW B w w (Clash.put T s t) (n + 1) := by
  obtain ⟨hct, hcl, hfi, ⟨D, hown, hR⟩⟩ := h
  rw [hp]
  exact ⟨⟨hct, hcl, hfi, ⟨D, World.ownsMap.mono hown (Nat.le_succ n), hR⟩⟩, Below.refl _ _, Kept.refl _ _⟩
theorem ClV.stored {B n : Nat} {w w' : World} {T : Clash.S → Option Clash.S} (h : ClV B w T n) (hB : B + 6 ≤ w.heap.size) {D : DataW Unit} (hown : clashS w B n D) (hR : ClR D T) {s t : ByteArray} (hs : s.data.toList ≠ []) (hz : s.size ≤ maxLen) (hp : Clash.put T s.data.toList t.data.toList s.data.toList = some t.data.toList)
    (hown' : clashS w' B (n + 1) (D.put (.string s.data.toList) (.lit (.string t.data.toList)))) (hg : w.grownBy w' (some B)) : ClW B w w' (Clash.put T s.data.toList t.data.toList) (n + 1) := by
  have hblk : ∀ k, k < w.heap.size → k ≠ B → w'.heap[k]? = w.heap[k]? := fun k hk hne => hg.block k hk (fun e => hne (Option.some.inj e))
  have hm : Go.Maps.IsMap D := World.ownsMap.isMap hown
  obtain ⟨hct, hcl, ⟨f, i, hcf, hci, hTi, hfi⟩, _⟩ := h
  refine ⟨⟨(hblk _ (by omega) (by omega)).trans hct, (hblk _ (by omega) (by omega)).trans hcl, ⟨f, i, (hblk _ (by omega) (by omega)).trans hcf, (hblk _ (by omega) (by omega)).trans hci, ?_, hfi⟩, ⟨_, hown', hR.put hm (clash_law.key (clash_key hz)) hs hp⟩⟩, ?_, ?_⟩
  · rw [Clash.put_other (fun e => hs e.symm)]; exact hTi
  · exact (Below.refl B w).grown hg (by omega) (fun k hk => by cases hk; exact Nat.le_refl _)
  · exact (Kept.refl w (clashMay B)).of_grown hg (fun k hk => by cases hk; exact .inl (.inl rfl))
set_option maxHeartbeats 8000000 in
set_option maxRecDepth 100000 in
theorem clash_add (B n : Nat) (T : Clash.S → Option Clash.S) (s t : ByteArray) (w : World) (hB : B + 6 ≤ w.heap.size) (hV : ClV B w T n) (hs : s.size ≤ maxLen) (ht : t.size ≤ maxLen) (hn : n < maxLen) :
    Calls Tryd.prog 39 #[.string s, .string t, .pointer (some ⟨B + 4, 0, none⟩), .pointer (some ⟨B + 5, 0, none⟩), .pointer (some ⟨B + 3, 0, none⟩), .pointer (some ⟨B + 1, 0, none⟩)] w fun e w' => e = .returned (.tuple #[]) ∧ ClW B w w' (Clash.put T s.data.toList t.data.toList) (n + 1) := by
  have hV0 := hV
  obtain ⟨hct, hcl, ⟨f, i, hcf, hci, hTi, hfi⟩, ⟨D, hown, hR⟩⟩ := hV
  have c1 : w.cell? ⟨B + 1, 0, none⟩ = some (.map (some B)) := (blk_cell hct 0).trans rfl
  have c3 : w.cell? ⟨B + 3, 0, none⟩ = some (.string f) := (blk_cell hcf 0).trans rfl
  have c4 : w.cell? ⟨B + 4, 0, none⟩ = some (.bool i) := (blk_cell hci 0).trans rfl
  have c5 : w.cell? ⟨B + 5, 0, none⟩ = some (.func (.func 35) #[] #[]) := (blk_cell hcl 0).trans rfl
  have z3 := blk_frozen hcf 0
  have z4 := blk_frozen hci 0
  by_cases he : s.data.toList = []
  · have hse : (s.toList == ([] : List UInt8)) = true := by rw [clash_toList, he]; rfl
    rw [he]
    cases i with
    | false =>
      have hT : T [] = none := hTi
      have hend := hV0.found t (Clash.put_none _ hT)
      go_enter Tryd.func39, Tryd.ntmps39
      go_wp2
      (try simp only [Exit.inBlock, Exit.then]); refine bodyPost_ret (results_none rfl _ _ _) rfl ?_
      exact ⟨rfl, hend⟩
    | true =>
      have hT : T [] = some f.data.toList := hTi
      by_cases hl : Clash.lt t.data.toList f.data.toList = true
      · go_enter Tryd.func39, Tryd.ntmps39
        go_wp2_with (go_at_call 35; refine (clash_less t f true _ hl).mono ?_; rintro e w2 ⟨rfl, hb⟩; have z32 := blk_frozen (blk_below hcf hb) 0; have z42 := blk_frozen (blk_below hci hb) 0; have c32 := (blk_cell (blk_below hcf hb) 0).trans rfl; have c42 := (blk_cell (blk_below hci hb) 0).trans rfl)
        (try simp only [Exit.inBlock, Exit.then]); refine bodyPost_ret (results_none rfl _ _ _) rfl ?_
        exact ⟨rfl, ClW.after hB hb ((hV0.below hB hb).found t (Clash.put_less hT hl))⟩
      · go_enter Tryd.func39, Tryd.ntmps39
        go_wp2_with (go_at_call 35; refine (clash_less t f false _ (by simpa using hl)).mono ?_; rintro e w2 ⟨rfl, hb⟩)
        (try simp only [Exit.inBlock, Exit.then]); refine bodyPost_ret (results_none rfl _ _ _) rfl ?_
        exact ⟨rfl, ClW.after hB hb ((hV0.below hB hb).same (Clash.put_keep hT hl))⟩
  · have hse : (s.toList == ([] : List UInt8)) = false := by
      rw [clash_toList]
      cases hh : s.data.toList with
      | nil => exact absurd hh he
      | cons a r => rfl
    cases hT : T s.data.toList with
    | none =>
      have hhas := (hR.1 _ he).2 hT
      go_enter Tryd.func39, Tryd.ntmps39
      go_wp2_with (first | (at_lookup; refine clash_lookS_ok _ rfl _ _ rfl B n D rfl hown s rfl hs ?_; intro c hat hwc; rw [hhas]) | (at_mapUpdate; refine clash_storeS _ rfl _ _ _ rfl B n D rfl hown hn s t rfl rfl hs ht ?_; intro w1 hown1 hgrow1))
      go_end0
      exact ⟨rfl, hV0.stored hB hown hR he hs (Clash.put_none _ hT) hown1 hgrow1⟩
    | some u =>
      have hhas := ((hR.1 _ he).1 u hT).1
      by_cases hl : Clash.lt t.data.toList u = true
      · go_enter Tryd.func39, Tryd.ntmps39
        go_wp2_with (first | (at_lookup; refine clash_lookS_ok _ rfl _ _ rfl B n D rfl hown s rfl hs ?_; intro c hat hwc; rw [hhas]; have hcu := hR.look he hT hat) | (go_at_call 35; refine (clash_less t c true _ (by rw [hcu]; exact hl)).mono ?_; rintro e w2 ⟨rfl, hb⟩; have c12 := (blk_cell (blk_below hct hb) 0).trans rfl; have hown2 := clash_own_below hown hb) | (at_mapUpdate; refine clash_storeS _ rfl _ _ _ rfl B n D rfl hown2 hn s t rfl rfl hs ht ?_; intro w1 hown1 hgrow1))
        go_end0
        exact ⟨rfl, ClW.after hB hb ((hV0.below hB hb).stored (Nat.le_trans hB hb.size) hown2 hR he hs (Clash.put_less hT hl) hown1 hgrow1)⟩
      · go_enter Tryd.func39, Tryd.ntmps39
        go_wp2_with (first | (at_lookup; refine clash_lookS_ok _ rfl _ _ rfl B n D rfl hown s rfl hs ?_; intro c hat hwc; rw [hhas]; have hcu := hR.look he hT hat) | (go_at_call 35; refine (clash_less t c false _ (by rw [hcu]; simpa using hl)).mono ?_; rintro e w2 ⟨rfl, hb⟩))
        go_end0
        exact ⟨rfl, ClW.after hB hb ((hV0.below hB hb).same (Clash.put_keep hT hl))⟩

theorem clash_cut_yes (s p : ByteArray) (x : Clash.S) (w : World) (h : s.data.toList = p.data.toList ++ x) : Calls Tryd.prog 40 #[.string s, .string p] w fun e w' => e = .returned (.tuple #[.string (clashBs x), .bool true]) ∧ w' = w := by
  have hp : Lib.hasPrefix s.data.toList p.data.toList = true := by
    unfold Lib.hasPrefix
    rw [List.isPrefixOf_iff_prefix]
    exact ⟨x, h.symm⟩
  have := Tryd.strings_CutPrefix s p w
  unfold Lib.trimPrefix at this
  rw [hp, if_pos rfl, h, List.drop_left] at this
  exact this
theorem clash_cut_no (s p : ByteArray) (w : World) (h : ∀ x, s.data.toList ≠ p.data.toList ++ x) : Calls Tryd.prog 40 #[.string s, .string p] w fun e w' => e = .returned (.tuple #[.string s, .bool false]) ∧ w' = w := by
  have hp : Lib.hasPrefix s.data.toList p.data.toList = false := by
    unfold Lib.hasPrefix
    cases e : p.data.toList.isPrefixOf s.data.toList with
    | false => rfl
    | true =>
      rw [List.isPrefixOf_iff_prefix] at e
      obtain ⟨x, hx⟩ := e
      exact absurd hx.symm (h x)
  have := Tryd.strings_CutPrefix s p w
  unfold Lib.trimPrefix at this
  rw [hp] at this
  exact this
/-- where the search stands: the variables, the map of what is done, the row of words. -/
structure ClI (B : Nat) (w0 w : World) (T : Clash.S → Option Clash.S) (n : Nat) (dn : Clash.S → Bool) (m : Nat) : Prop where
  v : ClV B w T n
  d : ∃ E : DataW Unit, clashB w (B + 2) m E ∧ ∀ s : Clash.S, E.atKey (.string s) (.lit (.bool false)) = .lit (.bool (dn s))
  b : Below B w0 w
  z : B + 6 ≤ w.heap.size
theorem ClI.added {B n n' m : Nat} {w0 w w' : World} {T T' : Clash.S → Option Clash.S} {dn : Clash.S → Bool} (h : ClI B w0 w T n dn m) (g : ClW B w w' T' n') : ClI B w0 w' T' n' dn m := by
  obtain ⟨hv, ⟨E, ⟨es, clock, h1, h2⟩, h3⟩, hb, hz⟩ := h
  refine ⟨g.v, ⟨E, ⟨es, clock, ?_, h2⟩, h3⟩, hb.trans g.b, Nat.le_trans hz g.b.size⟩
  exact (g.k.2 (B + 2) (by omega) (by unfold clashMay; omega)).trans h1
theorem clash_start (w : World) : ClI w.heap.size w ((((((w.alloc (.map #[] 0)).alloc (.cells #[.map (some w.heap.size)] 49)).alloc (.map #[] 0)).alloc (.cells #[.string { data := #[] }] 9)).alloc (.cells #[.bool false] 4)).alloc (.cells #[.func (.func 35) #[] #[]] 54)) (fun _ => none) 0 (fun _ => false) 0 := by
  have n1 : (w.alloc (.map #[] 0)).heap.size = w.heap.size + 1 := by simp
  have n2 : ((w.alloc (.map #[] 0)).alloc (.cells #[.map (some w.heap.size)] 49)).heap.size = w.heap.size + 2 := by simp
  have n3 : (((w.alloc (.map #[] 0)).alloc (.cells #[.map (some w.heap.size)] 49)).alloc (.map #[] 0)).heap.size = w.heap.size + 3 := by simp
  have n4 : ((((w.alloc (.map #[] 0)).alloc (.cells #[.map (some w.heap.size)] 49)).alloc (.map #[] 0)).alloc (.cells #[.string { data := #[] }] 9)).heap.size = w.heap.size + 4 := by simp
  have n5 : (((((w.alloc (.map #[] 0)).alloc (.cells #[.map (some w.heap.size)] 49)).alloc (.map #[] 0)).alloc (.cells #[.string { data := #[] }] 9)).alloc (.cells #[.bool false] 4)).heap.size = w.heap.size + 5 := by simp
  have m0 := World.ownsMap_made w Tryd.prog 9 (plainElem (H := Unit) Tryd.prog 9)
  have b1 := heap_alloc_new (w.alloc (.map #[] 0)) (.cells #[.map (some w.heap.size)] 49)
  have m2 := World.ownsMap_made ((w.alloc (.map #[] 0)).alloc (.cells #[.map (some w.heap.size)] 49)) Tryd.prog 9 (plainElem (H := Unit) Tryd.prog 4)
  have b3 := heap_alloc_new (((w.alloc (.map #[] 0)).alloc (.cells #[.map (some w.heap.size)] 49)).alloc (.map #[] 0)) (.cells #[.string { data := #[] }] 9)
  have b4 := heap_alloc_new ((((w.alloc (.map #[] 0)).alloc (.cells #[.map (some w.heap.size)] 49)).alloc (.map #[] 0)).alloc (.cells #[.string { data := #[] }] 9)) (.cells #[.bool false] 4)
  have b5 := heap_alloc_new (((((w.alloc (.map #[] 0)).alloc (.cells #[.map (some w.heap.size)] 49)).alloc (.map #[] 0)).alloc (.cells #[.string { data := #[] }] 9)).alloc (.cells #[.bool false] 4)) (.cells #[.func (.func 35) #[] #[]] 54)
  rw [n1] at b1; rw [n2] at m2; rw [n3] at b3; rw [n4] at b4; rw [n5] at b5
  refine ⟨⟨?_, b5, ⟨⟨#[]⟩, false, ?_, ?_, rfl, fun _ => rfl⟩, ⟨.map [], ?_, fun s hs => ⟨fun t ht => (by cases ht), fun _ => rfl⟩, rfl⟩⟩, ⟨.map [], ?_, fun s => rfl⟩, ?_, ?_⟩
  · exact blk_alloc (blk_alloc (blk_alloc (blk_alloc b1 _) _) _) _
  · exact blk_alloc (blk_alloc b3 _) _
  · exact blk_alloc b4 _
  · exact ((((m0.alloc _).alloc _).alloc _).alloc _).alloc _
  · exact ((m2.alloc _).alloc _).alloc _
  · exact below_alloc (below_alloc (below_alloc (below_alloc (below_alloc (below_alloc (Below.refl _ _) _) _) _) _) _) _
  · simp

/-- the first loops' relation. -/
def Cl1 (ws : List Clash.S) (B : Nat) (w0 w : World) (i j : Nat) : Prop := ∃ T n, ClI B w0 w T n (fun _ => false) 0 ∧ Clash.Inv ws T (fun _ => false) (clashC ws i j) ∧ n ≤ 16 * i + j ∧ ClB T 12
theorem clash_word (l0 : List ByteArray) (i : Nat) (h : i < l0.length) : (l0.map (·.data.toList))[i]? = some (rdOf ByteArray.empty l0 (i : Int)).data.toList := by
  rw [List.getElem?_map, List.getElem?_eq_getElem h]
  unfold rdOf
  rw [Int.toNat_natCast, List.getD_eq_getElem?_getD, List.getElem?_eq_getElem h]
  rfl
theorem Cl1.next {ws : List Clash.S} {B : Nat} {w0 w : World} {i j : Nat} (h : Cl1 ws B w0 w i j) (hj : ws.length ≤ j) (hj2 : j ≤ 16) : Cl1 ws B w0 w (i + 1) 0 := by
  obtain ⟨T, n, h1, h2, h3, h4⟩ := h
  exact ⟨T, n, h1, h2.weaken (fun x y g => clashC_next hj g), by omega, h4⟩
theorem Cl1.skip {ws : List Clash.S} {B : Nat} {w0 w : World} {i j : Nat} (h : Cl1 ws B w0 w i j) {u v : Clash.S} (hu : ws[i]? = some u) (hv : ws[j]? = some v) (hn : i = j ∨ ∀ x, v ≠ u ++ x) : Cl1 ws B w0 w i (j + 1) := by
  obtain ⟨T, n, h1, h2, h3, h4⟩ := h
  exact ⟨T, n, h1, h2.weaken (fun x y g => clashC_none hu hv hn g), by omega, h4⟩
theorem clash_max (n : Nat) (h : n ≤ 100000) : n ≤ maxLen := Nat.le_trans h (by decide)
theorem clash_max' (n : Nat) (h : n ≤ 100000) : n < maxLen := Nat.lt_of_le_of_lt h (by decide)

theorem clash_keyInv {key : Value} {kl : Lit} (h : keyOf Tryd.prog 9 key = some kl) : ∃ s : ByteArray, key = .string s ∧ kl = .string s.data.toList ∧ s.size ≤ maxLen := by
  cases key <;> simp [keyOf, Tryd.underlying9, mapKey] at h
  exact ⟨_, rfl, h.2.symm, h.1⟩
theorem clash_next (w : World) {ops : Array Oper} {rest : List Oper} {o : Oper} {a : Act} {Q : Exit → Act → World → Prop}
    (hg : o.guard = none) (it : Operand) (hop : o.op = Op.next it false) (B r n : Nat) (D : DataW Unit) (left : Lit → Bool) (cnt : Nat) (hit : a.eval it = .pointer (some ⟨r, 0, none⟩)) (h : w.ranges Tryd.prog 9 (plainElem Tryd.prog 9) B r n D left cnt)
    (hDone : cnt = 0 → (∀ kl, left kl = false) → wpList Tryd.prog ops Q rest (a.put o.dst (.tuple #[.bool false])) w)
    (hMore : ∀ (x c : ByteArray) (w' : World) (cnt' : Nat), x.size ≤ maxLen → c.size ≤ maxLen → left (.string x.data.toList) = true → (∀ zd, D.atKey (.string x.data.toList) zd = .lit (.string c.data.toList)) → w'.ranges Tryd.prog 9 (plainElem Tryd.prog 9) B r n D (fun z => left z && !z.sameKey (.string x.data.toList)) cnt' → cnt' < cnt →
      w.grownBy w' (some r) → w'.heap.size = w.heap.size → (Instr.entry (.pointer (some ⟨r, 0, none⟩))).run Tryd.prog w' = .ok (.tuple #[.string x, .string c]) w' → wpList Tryd.prog ops Q rest (a.put o.dst (.tuple #[.bool true, .string x, .string c])) w') :
    wpList Tryd.prog ops Q (o :: rest) a w :=
  wpList_next_ranges w hg it hop 9 clash_law (plainElem Tryd.prog 9) Value.string Value.string (fun key kl hkey => by obtain ⟨x, rfl, _⟩ := clash_keyInv hkey; exact ⟨x, rfl⟩) (fun v y hv => by obtain ⟨c, rfl, _⟩ := plainElem_string_inv Tryd.underlying9 hv; exact ⟨c, rfl⟩)
    B r n D left cnt hit h hDone (fun x c kl y w' cnt' hkey hlk hv hat hrg hlt hgr hsz hen => by
      obtain ⟨x', ex, rfl, hwx⟩ := clash_keyInv hkey
      cases ex
      obtain ⟨c', ec, rfl, hwc⟩ := plainElem_string_inv Tryd.underlying9 hv
      cases ec
      exact hMore x c w' cnt' hwx hwc hlk hat hrg hlt hgr hsz hen)
theorem ClR.entry {D : DataW Unit} {T : Clash.S → Option Clash.S} (h : ClR D T) {s c : Clash.S} (hat : ∀ zd, D.atKey (.string s) zd = .lit (.string c)) : s ≠ [] ∧ T s = some c := by
  have hh : Go.Maps.has D (.string s) = true := Go.Maps.has_true_of_atKey hat
  have hs : s ≠ [] := fun e => by subst e; rw [h.2] at hh; cases hh
  refine ⟨hs, ?_⟩
  cases e : T s with
  | none => rw [(h.1 s hs).2 e] at hh; cases hh
  | some t => rw [h.look hs e (hat .nil)]
/-- the least suffix that is not done, of those that the range has come to. -/
def ClS (T : Clash.S → Option Clash.S) (dn : Clash.S → Bool) (left : Lit → Bool) (best : Clash.S) (has : Bool) : Prop :=
  (has = false → ∀ s t, s ≠ [] → T s = some t → left (.string s) = false → dn s = true) ∧
  (has = true → best ≠ [] ∧ dn best = false ∧ ∃ t0, T best = some t0 ∧ ∀ s u, s ≠ [] → T s = some u → left (.string s) = false → dn s = false → Clash.le t0 u)
theorem clash_left {left : Lit → Bool} {x s : Clash.S} (h : (left (.string s) && !(Lit.string s).sameKey (.string x)) = false) : left (.string s) = false ∨ s = x := by
  rw [Bool.and_eq_false_iff] at h
  rcases h with h | h
  · exact .inl h
  · right
    have : (Lit.string s).sameKey (.string x) = true := by simpa using h
    have := WideAt.sameKey_eq this
    injection this
theorem ClS.start {D : DataW Unit} {T : Clash.S → Option Clash.S} (h : ClR D T) (dn : Clash.S → Bool) (best : Clash.S) : ClS T dn (Go.Maps.has D) best false :=
  ⟨fun _ s t hs ht hl => by rw [((h.1 s hs).1 t ht).1] at hl; (cases hl), fun h => (by cases h)⟩
theorem ClS.pass {T : Clash.S → Option Clash.S} {dn : Clash.S → Bool} {left : Lit → Bool} {best x : Clash.S} {has : Bool} (h : ClS T dn left best has) (hx : dn x = true) : ClS T dn (fun z => left z && !z.sameKey (.string x)) best has := by
  refine ⟨fun e s t hs ht hl => ?_, fun e => ?_⟩
  · rcases clash_left hl with hl | rfl
    · exact h.1 e s t hs ht hl
    · exact hx
  · obtain ⟨h1, h2, t0, h3, h4⟩ := h.2 e
    refine ⟨h1, h2, t0, h3, fun s u hs hu hl hd => ?_⟩
    rcases clash_left hl with hl | rfl
    · exact h4 s u hs hu hl hd
    · rw [hx] at hd; cases hd
theorem ClS.keep {T : Clash.S → Option Clash.S} {dn : Clash.S → Bool} {left : Lit → Bool} {best x c t0 : Clash.S} (h : ClS T dn left best true) (hT : T x = some c) (hb : T best = some t0) (hl : ¬ Clash.lt c t0 = true) : ClS T dn (fun z => left z && !z.sameKey (.string x)) best true := by
  refine ⟨fun e => (by cases e), fun e => ?_⟩
  obtain ⟨h1, h2, t1, h3, h4⟩ := h.2 e
  rw [hb] at h3; cases h3
  refine ⟨h1, h2, t0, hb, fun s u hs hu hlf hd => ?_⟩
  rcases clash_left hlf with hlf | rfl
  · exact h4 s u hs hu hlf hd
  · rw [hT] at hu; cases hu; exact hl
theorem ClS.first {T : Clash.S → Option Clash.S} {dn : Clash.S → Bool} {left : Lit → Bool} {best x c : Clash.S} (h : ClS T dn left best false) (hx : x ≠ []) (hd : dn x = false) (hT : T x = some c) : ClS T dn (fun z => left z && !z.sameKey (.string x)) x true := by
  refine ⟨fun e => (by cases e), fun _ => ⟨hx, hd, c, hT, fun s u hs hu hlf hds => ?_⟩⟩
  rcases clash_left hlf with hlf | rfl
  · rw [h.1 rfl s u hs hu hlf] at hds; cases hds
  · rw [hT] at hu; cases hu; exact Clash.le_refl _
theorem ClS.less {T : Clash.S → Option Clash.S} {dn : Clash.S → Bool} {left : Lit → Bool} {best x c t0 : Clash.S} (h : ClS T dn left best true) (hx : x ≠ []) (hd : dn x = false) (hT : T x = some c) (hb : T best = some t0) (hl : Clash.lt c t0 = true) : ClS T dn (fun z => left z && !z.sameKey (.string x)) x true := by
  refine ⟨fun e => (by cases e), fun _ => ⟨hx, hd, c, hT, fun s u hs hu hlf hds => ?_⟩⟩
  obtain ⟨h1, h2, t1, h3, h4⟩ := h.2 rfl
  rw [hb] at h3; cases h3
  rcases clash_left hlf with hlf | rfl
  · exact Clash.le_trans (Clash.le_of_lt hl) (h4 s u hs hu hlf hds)
  · rw [hT] at hu; cases hu; exact Clash.le_refl _
def Cl2 (ws : List Clash.S) (B : Nat) (w0 w : World) (k : Nat) : Prop := ∃ T n dn m b, ClI B w0 w T n dn m ∧ Clash.Inv ws T dn (Clash.All ws T dn) ∧ (∀ a t x u, dn a = true → T a = some t → dn x = false → T x = some u → Clash.le t u) ∧
  k = Clash.cnt (Clash.sufs ws) dn ∧ n + 16 * k ≤ 300 + 16 * (Clash.sufs ws).length ∧ m + k ≤ (Clash.sufs ws).length ∧ b + 12 * k ≤ 12 + 12 * (Clash.sufs ws).length ∧ ClB T b
theorem ClI.below {B n m : Nat} {w0 w w' : World} {T : Clash.S → Option Clash.S} {dn : Clash.S → Bool} (h : ClI B w0 w T n dn m) (hb : Below w.heap.size w w') : ClI B w0 w' T n dn m := by
  obtain ⟨hv, ⟨E, h1, h2⟩, hb0, hz⟩ := h
  exact ⟨hv.below hz hb, ⟨E, clash_own_below h1 hb, h2⟩, hb0.trans (hb.mono (by omega)), Nat.le_trans hz hb.size⟩
/-- the range's own relation: the world at its beginning is wb. -/
def ClN (B r n : Nat) (D : DataW Unit) (T : Clash.S → Option Clash.S) (dn : Clash.S → Bool) (wb w : World) (best : ByteArray) (has : Bool) (k : Nat) : Prop :=
  ∃ left, w.ranges Tryd.prog 9 (plainElem Tryd.prog 9) B r n D left k ∧ Below wb.heap.size wb w ∧ ClS T dn left best.data.toList has ∧ best.size ≤ maxLen
theorem clash_grown {wb w w' : World} {r : Nat} (h : Below wb.heap.size wb w) (hr : wb.heap.size ≤ r) (hg : w.grownBy w' (some r)) : Below wb.heap.size wb w' := h.grown hg h.size (fun k hk => by cases hk; exact hr)
theorem clash_grownOf {w w' : World} (h : Below w.heap.size w w') : w.grownBy w' none := ⟨h.os, h.tape, h.output, h.size, fun k hk _ => h.block k hk⟩
theorem ClI.mark {B n m : Nat} {w0 w w' : World} {T : Clash.S → Option Clash.S} {dn : Clash.S → Bool} (h : ClI B w0 w T n dn m) {E : DataW Unit} (hE : clashB w (B + 2) m E) (hat : ∀ s : Clash.S, E.atKey (.string s) (.lit (.bool false)) = .lit (.bool (dn s))) {best : ByteArray} (hz : best.size ≤ maxLen)
    (hown : clashB w' (B + 2) (m + 1) (E.put (.string best.data.toList) (.lit (.bool true)))) (hg : w.grownBy w' (some (B + 2))) : ClI B w0 w' T n (fun x => dn x || decide (x = best.data.toList)) (m + 1) := by
  have hblk : ∀ k, k < w.heap.size → k ≠ B + 2 → w'.heap[k]? = w.heap[k]? := fun k hk hne => hg.block k hk (fun e => hne (Option.some.inj e))
  refine ⟨h.v.step (fun k h1 h2 h3 => hblk k (by have := h.z; omega) h3), ⟨_, hown, fun s => ?_⟩, h.b.grown hg (by have := h.z; omega) (fun k hk => by cases hk; omega), Nat.le_trans h.z hg.size⟩
  by_cases e : s = best.data.toList
  · subst e
    rw [Go.Maps.atKey_put_same (World.ownsMap.isMap hE) (clash_law.key (clash_key hz))]
    simp
  · rw [Go.Maps.atKey_put_other (fun g => e (by injection g)), hat, decide_eq_false e, Bool.or_false]
/-- the last loop's relation: the words before the j-th are gone through. -/
def Cl3 (ws : List Clash.S) (B : Nat) (w0 w : World) (best t0 : Clash.S) (T0 : Clash.S → Option Clash.S) (dn : Clash.S → Bool) (n0 m b j : Nat) : Prop := ∃ T n, ClI B w0 w T n (fun x => dn x || decide (x = best)) m ∧
  Clash.Rnd ws T (fun x => dn x || decide (x = best)) (fun x y => Clash.All ws T0 dn x y ∨ ∃ a, a < j ∧ ∃ wd, ws[a]? = some wd ∧ Clash.W best t0 wd x y) t0 ∧ (∀ a, (dn a || decide (a = best)) = true → T a = T0 a) ∧ n ≤ n0 + j ∧ ClB T b
section
variable {ws : List Clash.S} {B : Nat} {w0 w : World} {best t0 wd x : Clash.S} {T0 : Clash.S → Option Clash.S} {dn : Clash.S → Bool} {n0 m b j : Nat}
theorem Cl3.none (h : Cl3 ws B w0 w best t0 T0 dn n0 m b j) (hw : ws[j]? = some wd) (hn : ∀ x, best ≠ wd ++ x) (hm : ∀ x, wd ≠ best ++ x) : Cl3 ws B w0 w best t0 T0 dn n0 m b (j + 1) := by
  obtain ⟨T, n, h1, h2, h3, h4, h5⟩ := h
  exact ⟨T, n, h1, (h2.word_none hn hm).weaken (fun p q g => clash_next_word hw g), h3, by omega, h5⟩
theorem Cl3.word (h : Cl3 ws B w0 w best t0 T0 dn n0 m b j) (hT : T0 best = some t0) : ∃ T n, ClI B w0 w T n (fun x => dn x || decide (x = best)) m ∧ T best = some t0 ∧ n ≤ n0 + j ∧ t0.length ≤ b ∧ best.length ≤ 12 ∧
    (best ≠ [] → ws[j]? = some wd → (best = wd ++ x → ∀ w', ClW B w w' (Clash.put T x t0) (n + 1) → Cl3 ws B w0 w' best t0 T0 dn n0 m b (j + 1)) ∧
      (wd = best ++ x → (∀ y, best ≠ wd ++ y) → t0.length + x.length ≤ b → x.length ≤ 12 → ∀ w', ClW B w w' (Clash.put T x (t0 ++ x)) (n + 1) → Cl3 ws B w0 w' best t0 T0 dn n0 m b (j + 1))) := by
  obtain ⟨T, n, h1, h2, h3, h4, h5⟩ := h
  have hTb : T best = some t0 := by rw [h3 best (by simp)]; exact hT
  refine ⟨T, n, h1, hTb, h4, (h5 _ _ hTb).2, (h5 _ _ hTb).1, fun hb hw => ⟨fun hx w' g => ?_, fun hx hn hl hl2 w' g => ?_⟩⟩
  · refine ⟨_, _, h1.added g, (h2.word_cut hTb hb (List.mem_of_getElem? hw) hx).weaken (fun p q g => clash_next_word hw g), fun a ha => ?_, by omega, h5.put ?_ (h5 _ _ hTb).2⟩
    · rw [h2.keep (Clash.le_refl _) a ha]; exact h3 a ha
    · have := (h5 _ _ hTb).1; rw [hx, List.length_append] at this; omega
  · refine ⟨_, _, h1.added g, (h2.word_more hTb hb (List.mem_of_getElem? hw) hx hn).weaken (fun p q g => clash_next_word hw g), fun a ha => ?_, by omega, h5.put hl2 (by rw [List.length_append]; exact hl)⟩
    rw [h2.keep (Clash.le_append _ _) a ha]; exact h3 a ha
theorem Cl3.finish {k b0 m0 : Nat} (h : Cl3 ws B w0 w best t0 T0 dn n0 (m0 + 1) (b0 + 12) j) (hj : ws.length ≤ j) (hj2 : j ≤ 16) (hI : Clash.Inv ws T0 dn (Clash.All ws T0 dn)) (hT : T0 best = some t0) (hd : dn best = false)
    (hk : k = Clash.cnt (Clash.sufs ws) dn ∧ n0 + 16 * k ≤ 300 + 16 * (Clash.sufs ws).length ∧ m0 + k ≤ (Clash.sufs ws).length ∧ b0 + 12 * k ≤ 12 + 12 * (Clash.sufs ws).length) : ∃ k', k' < k ∧ Cl2 ws B w0 w k' := by
  obtain ⟨T, n, h1, h2, h3, h4, h5⟩ := h
  have hlt := Clash.cnt_lt dn best hd _ (Clash.mem_sufs (hI.sound _ _ hT).suffix)
  refine ⟨Clash.cnt (Clash.sufs ws) (fun x => dn x || decide (x = best)), by omega, T, n, _, m0 + 1, b0 + 12, h1, ?_, h2.apart, rfl, by omega, by omega, by omega, h5⟩
  refine Clash.Rnd.finish (h2.weaken (fun p q g => ?_)) h3 hT
  rcases g with g | ⟨wd, hw, g⟩
  · exact .inl g
  · obtain ⟨a, ha, e⟩ := List.getElem_of_mem hw
    exact .inr ⟨a, by omega, wd, by rw [← e]; exact List.getElem?_eq_getElem ha, g⟩
theorem Cl3.start {n m b : Nat} (hI : Clash.Inv ws T0 dn (Clash.All ws T0 dn)) (hf : ∀ a t x u, dn a = true → T0 a = some t → dn x = false → T0 x = some u → Clash.le t u) (hb : best ≠ []) (hT : T0 best = some t0) (hd : dn best = false) (hmin : ∀ b u, dn b = false → T0 b = some u → Clash.le t0 u)
    (h : ClI B w0 w T0 n (fun x => dn x || decide (x = best)) m) (hB : ClB T0 b) : Cl3 ws B w0 w best t0 T0 dn n m (b + 12) 0 :=
  ⟨T0, n, h, (Clash.Rnd.start hI hf hb hT hd hmin).weaken (fun p q g => by
    rcases g with g | ⟨a, ha, _⟩
    · exact g
    · omega), fun _ _ => rfl, by omega, hB.mono (by omega)⟩
end
theorem clash_result {ws : List Clash.S} {T : Clash.S → Option Clash.S} {dn : Clash.S → Bool} (I : Clash.Inv ws T dn (Clash.All ws T dn)) (h : ∀ b u, dn b = false → b ≠ [] → T b = some u → ∃ f, T [] = some f ∧ Clash.le f u) {f : ByteArray} {i : Bool} (hT : T [] = (if i = true then some f.data.toList else none)) (hf : i = false → f = ⟨#[]⟩) :
    f = clashBs (Clash.clashOf ws).1 ∧ i = (Clash.clashOf ws).2 := by
  have hA := Clash.clashOf_eq (Clash.exit_ans I h)
  rw [hA, hT]
  cases i with
  | true => exact ⟨rfl, rfl⟩
  | false => rw [hf rfl]; exact ⟨rfl, rfl⟩
noncomputable def impl_clash.f (l0 : List ByteArray) : Option (ByteArray × Bool) := clashF l0
set_option maxHeartbeats 8000000 in
set_option maxRecDepth 100000 in
theorem impl_clash.calls (A0 : Option Addr) (c0 : Nat) (l0 : List ByteArray) (r1 : ByteArray) (r2 : Bool) (w : World) (hr0 : Kd.C Kd.string w A0 l0.length l0) (hc0 : l0.length ≤ c0) (h : impl_clash.f l0 = some (r1, r2)) :
    Calls Tryd.prog 22 #[.slice A0 l0.length c0] w fun e w' => e = .returned (.tuple #[.string r1, .bool r2]) ∧ Below w.heap.size w w' := by
    obtain ⟨ws, hws⟩ : ∃ ws : List Clash.S, ws = l0.map (·.data.toList) := ⟨_, rfl⟩
    unfold impl_clash.f clashF at h
    rw [← hws] at h
    have hs : l0.length ≤ 16 ∧ (∀ x ∈ l0, x.size ≤ 12) := by
      apply Classical.byContradiction
      intro hn
      rw [if_neg hn] at h
      cases h
    rw [if_pos hs] at h
    have hRES := Aside0.mk (Prod.mk.inj (Option.some.inj h))
    clear h
    have hwl : ws.length = l0.length := by rw [hws, List.length_map]
    have hwi : ∀ i, i < l0.length → ws[i]? = some (rdOf ByteArray.empty l0 (i : Int)).data.toList := fun i hi => by rw [hws]; exact clash_word l0 i hi
    have hwz : ∀ i, i < l0.length → (rdOf ByteArray.empty l0 (i : Int)).size ≤ 12 := fun i hi => by
      unfold rdOf
      rw [Int.toNat_natCast, List.getD_eq_getElem?_getD, List.getElem?_eq_getElem hi]
      exact hs.2 _ (List.getElem_mem hi)
    have hst := clash_start w
    have hW : Aside0 (ws = l0.map (·.data.toList)) := Aside0.mk hws
    have hWL := Aside0.mk hwl
    have hWI := Aside0.mk hwi
    have hWZ := Aside0.mk hwz
    have hHR := Aside0.mk hr0
    have hHS := Aside0.mk hs
    have hST := Aside0.mk hst
    clear hws hwl hwi hwz hr0 hs hst
    have hmm := @run_makeMap Tryd.prog
    go_enter Tryd.func22, Tryd.ntmps22
    go_wp2
    have hst := hST.out
    clear hST
    simp only [Nat.add_assoc, Nat.reduceAdd]
    generalize ((((((w.alloc (.map #[] 0)).alloc (.cells #[.map (some w.heap.size)] 49)).alloc (.map #[] 0)).alloc (.cells #[.string { data := #[] }] 9)).alloc (.cells #[.bool false] 4)).alloc (.cells #[.func (.func 35) #[] #[]] 54)) = w1 at hst ⊢
    obtain ⟨B, hB⟩ : ∃ B, B = w.heap.size := ⟨_, rfl⟩
    have hBB := Aside0.mk hB
    rw [← hB] at hst ⊢
    clear hB
    go_loopg [31] l0.length (fun k v31 wr => ∃ i : Nat, v31 = .int .i64 i ∧ Aside0 (i + k = l0.length) ∧ Aside0 (Cl1 ws B w wr i 0))
    case atStart => 
      refine ⟨0, rfl, Aside0.mk (by omega), Aside0.mk ⟨_, _, hst, ⟨fun s t h => (by cases h), fun s h => (by cases h), fun s t h => absurd h (clashC_zero ws s t)⟩, by omega, fun s t h => (by cases h)⟩⟩
    case round =>
      obtain ⟨i, rfl, hk, hI⟩ := hrel
      by_cases hlt : (i : Int) < l0.length
      · have hi : i < l0.length := by omega
        have p1 : 0 ≤ (i : Int) := by omega
        obtain ⟨ad, rfl, hx1⟩ := Kd.at_string (Kd.C_below hHR.out (by obtain ⟨T, n, h1, _⟩ := hI.out; rw [← hBB.out]; exact h1.b)) i p1 hlt
        rw [Int.toNat_natCast] at hx1
        obtain ⟨u, hu⟩ : ∃ u, u = rdOf ByteArray.empty l0 (i : Int) := ⟨_, rfl⟩
        rw [← hu] at hx1
        have hU := Aside0.mk hu
        clear hu
        have p1t := eq_true p1
        have q1t := eq_true hlt
        go_wp2
        obtain ⟨gout, hgo⟩ : ∃ g, g = gk := ⟨_, rfl⟩
        have hGO := Aside0.mk hgo
        clear hgo p1 p1t hlt q1t hx1
        go_loopg [38] l0.length (fun k v38 wr => ∃ j : Nat, v38 = .int .i64 j ∧ Aside0 (j + k = l0.length) ∧ Aside0 (Cl1 ws B w wr i j))
        case atStart => exact ⟨0, rfl, Aside0.mk (by omega), hI⟩
        case round =>
          clear hI
          obtain ⟨j, rfl, hkj, hI⟩ := hrel
          by_cases hlt : (j : Int) < l0.length
          · have hj : j < l0.length := by omega
            have p1 : 0 ≤ (j : Int) := by omega
            obtain ⟨ad', e, hx1⟩ := Kd.at_string (Kd.C_below hHR.out (by obtain ⟨T, n, h1, _⟩ := hI.out; rw [← hBB.out]; exact h1.b)) j p1 hlt
            injection e with e
            subst e
            rw [Int.toNat_natCast] at hx1
            obtain ⟨v, hv⟩ : ∃ v, v = rdOf ByteArray.empty l0 (j : Int) := ⟨_, rfl⟩
            rw [← hv] at hx1
            have hwu := hWI.out i hi
            have hwv := hWI.out j hj
            have hzv := hWZ.out j hj
            have hl16 := hHS.out.1
            have hkj2 := hkj.out
            rw [← hU.out] at hwu
            rw [← hv] at hwv hzv
            have hV := Aside0.mk hv
            clear hv
            have p1t := eq_true p1
            have q1t := eq_true hlt
            by_cases hpre : ∃ x, v.data.toList = u.data.toList ++ x
            · obtain ⟨x, hx⟩ := hpre
              by_cases hij : i = j
              · have hI2 : Cl1 ws B w wr i (j + 1) := hI.out.skip hwu hwv (.inl hij)
                have hne : ((i : Int) != (j : Int)) = false := by simp [hij]
                have hcut := fun W => clash_cut_yes v u x W hx
                have hAS := Aside0.mk hI2
                clear hI hx hI2 hij
                go_wp2_with (go_at_call 40; refine (hcut _).mono ?_; rintro e w' ⟨rfl, rfl⟩)
                go_roundg (gk - 1)
                case measure => omega
                case rel => exact ⟨j + 1, by simp, Aside0.mk (by omega), hAS⟩
              · have hne : ((i : Int) != (j : Int)) = true := by simp; omega
                have hcut := fun W => clash_cut_yes v u x W hx
                obtain ⟨T, n, h1, h2, h3, h4⟩ := hI.out
                have hxl : x.length ≤ 12 := by have := congrArg List.length hx; rw [clash_len, List.length_append] at this; omega
                have hadd := clash_add B n T (clashBs x) v wr h1.z h1.v (clash_max _ (by rw [clashBs_size]; omega)) (clash_max _ (by omega)) (clash_max' _ (by omega))
                rw [clashBs_data] at hadd
                have hI2 : ∀ w', ClW B wr w' (Clash.put T x v.data.toList) (n + 1) → Cl1 ws B w w' i (j + 1) := fun w' g =>
                  ⟨_, _, h1.added g, (h2.put_first (.base ⟨i, j, hij, u.data.toList, hwu, hwv, hx⟩)).weaken (fun a b g => clashC_some hwu hwv hx g), by omega, h4.put hxl (by rw [clash_len]; omega)⟩
                have hAS := Aside0.mk hI2
                clear hI hx hI2 h1 h2 h3 h4 hwu hwv
                go_wp2_with (first | (go_at_call 40; refine (hcut _).mono ?_; rintro e w' ⟨rfl, rfl⟩) | (go_at_call 39; refine hadd.mono ?_; rintro e w2 ⟨rfl, hW2⟩))
                go_roundg (gk - 1)
                case measure => omega
                case rel => exact ⟨j + 1, by simp, Aside0.mk (by omega), Aside0.mk (hAS.out _ hW2)⟩
            · have hpre' : ∀ x, v.data.toList ≠ u.data.toList ++ x := fun x hx => hpre ⟨x, hx⟩
              have hI2 : Cl1 ws B w wr i (j + 1) := hI.out.skip hwu hwv (.inr hpre')
              have hcut := fun W => clash_cut_no v u W hpre'
              have hAS := Aside0.mk hI2
              clear hI hpre hI2 hpre'
              go_wp2_with (go_at_call 40; refine (hcut _).mono ?_; rintro e w' ⟨rfl, rfl⟩)
              go_roundg (gk - 1)
              case measure => omega
              case rel => exact ⟨j + 1, by simp, Aside0.mk (by omega), hAS⟩
          · have hkj2 := hkj.out
            have hl16 := hHS.out.1
            have hI2 : Cl1 ws B w wr (i + 1) 0 := hI.out.next (by have := hWL.out; omega) (by omega)
            have hAS := Aside0.mk hI2
            clear hI hI2
            have hk2 := hk.out
            have hgo := hGO.out
            go_wp2
            go_roundg (gout - 1)
            case measure => omega
            case rel => exact ⟨i + 1, by simp, Aside0.mk (by omega), hAS⟩
      · have hi : i = l0.length := by have := hk.out; omega
        have hI2 : ∃ k, Cl2 ws B w wr k := by
          obtain ⟨T, n, h1, h2, h3, h4⟩ := hI.out
          rw [hi, ← hWL.out] at h2 h3
          have hl16 := hHS.out.1
          have hW2 := hWL.out
          refine ⟨_, T, n, fun _ => false, 0, 12, h1, h2.weaken (fun x y g => ?_), fun a t x u ha => (by cases ha), rfl, ?_, ?_, ?_, h4⟩
          · rcases g with g | ⟨a, u, ha, _⟩
            · exact clashC_base g
            · cases ha
          · have := Clash.cnt_le_length (Clash.sufs ws) (fun _ => false); omega
          · have := Clash.cnt_le_length (Clash.sufs ws) (fun _ => false); omega
          · have := Clash.cnt_le_length (Clash.sufs ws) (fun _ => false); omega
        obtain ⟨k0, hI3⟩ := hI2
        have hAS := Aside0.mk hI3
        clear hI hI3 hk hi
        go_wp2
        go_loopg [] k0 (fun k wr => Aside0 (Cl2 ws B w wr k))
        case atStart => exact hAS
        case round =>
          obtain ⟨wb, rfl⟩ : ∃ x, x = wr := ⟨_, rfl⟩
          clear hAS
          obtain ⟨T, n, dn, m, b, h1, h2, h3, h4, h5, h6, h7, h8⟩ := hrel.out
          have hI1 := Aside0.mk h1
          have hI2 := Aside0.mk h2
          have hI3 := Aside0.mk h3
          have hI4 := Aside0.mk (And.intro h4 (And.intro h5 (And.intro h6 h7)))
          have hI8 := Aside0.mk h8
          obtain ⟨hct, hcl, ⟨f, isf, hcf, hci, hTi, hfi⟩, ⟨D, hown, hR⟩⟩ := h1.v
          have c1 : wb.cell? ⟨B + 1, 0, none⟩ = some (.map (some B)) := (blk_cell hct 0).trans rfl
          have hTI := Aside0.mk (And.intro hTi hfi)
          have hRR := Aside0.mk hR
          have hz := Aside0.mk h1.z
          have hCT := Aside0.mk hct
          have hCL := Aside0.mk hcl
          have hCF := Aside0.mk hcf
          have hCI := Aside0.mk hci
          clear h1 h2 h3 h4 h5 h6 h7 h8 hrel hTi hfi hR hct hcl hcf hci
          go_wp2_with (at_range; refine wpList_range_own _ rfl _ 49 rfl 9 9 clash_law Tryd.underlying49 _ B n D rfl hown ?_; intro wq hrg hgq hsq)
          go_frame
          obtain ⟨r, hr⟩ : ∃ r, r = wb.heap.size := ⟨_, rfl⟩
          have hrr := Aside0.mk hr
          rw [← hr] at hrg ⊢
          obtain ⟨gout, hgo⟩ : ∃ g, g = gk := ⟨_, rfl⟩
          have hGO := Aside0.mk hgo
          have hN0 : Aside0 (ClN B r n D T dn wb wq ⟨#[]⟩ false (Go.Maps.size D)) := Aside0.mk ⟨_, hrg, (Below.refl _ wb).grown hgq (Nat.le_refl _) (fun k hk => (by cases hk)), ClS.start hRR.out dn _, Nat.zero_le _⟩
          clear hgo hr hrg hgq hsq hown c1
          go_loopg [16, 17] (Go.Maps.size D) (fun k v16 v17 wn => ∃ (best : ByteArray) (has : Bool), v16 = .string best ∧ v17 = .bool has ∧ Aside0 (ClN B r n D T dn wb wn best has k))
          case atStart => exact ⟨_, _, rfl, rfl, hN0⟩
          case round =>
            obtain ⟨wn, rfl⟩ : ∃ x, x = wr := ⟨_, rfl⟩
            clear hN0
            obtain ⟨best, has, rfl, rfl, hN⟩ := hrel
            obtain ⟨left, hrg, hBel, hS, hbz⟩ := hN.out
            have hV := Aside0.mk (hI1.out.below hBel)
            have hct := blk_below hCT.out hBel
            have hcl := blk_below hCL.out hBel
            have hcf := blk_below hCF.out hBel
            have hci := blk_below hCI.out hBel
            have c1 : wn.cell? ⟨B + 1, 0, none⟩ = some (.map (some B)) := (blk_cell hct 0).trans rfl
            have c3 : wn.cell? ⟨B + 3, 0, none⟩ = some (.string f) := (blk_cell hcf 0).trans rfl
            have c4 : wn.cell? ⟨B + 4, 0, none⟩ = some (.bool isf) := (blk_cell hci 0).trans rfl
            have c5 : wn.cell? ⟨B + 5, 0, none⟩ = some (.func (.func 35) #[] #[]) := (blk_cell hcl 0).trans rfl
            have hBEL := Aside0.mk hBel
            have hSS := Aside0.mk hS
            clear hct hcl hcf hci hN hBel hS
            go_wp2_with (at_next; refine clash_next _ rfl _ rfl B r n D left gk rfl hrg ?_ ?_)
            · intro _ hl0
              cases has with
              | false =>
                have hres := Aside0.mk (clash_result hI2.out (fun b u hd hb hu => by rw [hSS.out.1 rfl b u hb hu (hl0 _)] at hd; cases hd) hTI.out.1 hTI.out.2)
                clear hl0 hrg
                go_wp2_with fail
                go_quiet (fail)
                go_wp2
                go_ret2
                refine ⟨?_, ?_⟩
                · have e1 := (hres.out.1.trans hRES.out.1).symm
                  have e2 := (hres.out.2.trans hRES.out.2).symm
                  subst e1
                  subst e2
                  rfl
                · have := hV.out.b
                  rw [hBB.out] at this
                  exact pw_below_drewN this _
              | true =>
                obtain ⟨hb, hdb, t0, hTb, hmin0⟩ := hSS.out.2 rfl
                have hmin : ∀ s u, s ≠ [] → T s = some u → dn s = false → Clash.le t0 u := fun s u hs hu hd => hmin0 s u hs hu (hl0 _) hd
                have hMIN := Aside0.mk hmin
                have hHB := Aside0.mk (And.intro hb (And.intro hTb hdb))
                have hmz : m < maxLen := by
                  have h1 := Clash.sufs_length (ws := ws) 12 (by rw [hW.out]; intro x hx; obtain ⟨y, hy, rfl⟩ := List.mem_map.1 hx; rw [clash_len]; exact hHS.out.2 y hy)
                  have h2 := hWL.out
                  have h3 := hHS.out.1
                  have h4 := hI4.out.2.2.1
                  exact clash_max' _ (by omega)
                have hSZ : Aside0 (b + 12 ≤ 100000 ∧ n + 16 ≤ 100000) := by
                  have h1 := Clash.sufs_length (ws := ws) 12 (by rw [hW.out]; intro x hx; obtain ⟨y, hy, rfl⟩ := List.mem_map.1 hx; rw [clash_len]; exact hHS.out.2 y hy)
                  have h2 := hWL.out
                  have h3 := hHS.out.1
                  have h4 := hI4.out
                  exact Aside0.mk ⟨by omega, by omega⟩
                obtain ⟨E, hownE, hE⟩ := hV.out.d
                have hEE := Aside0.mk hE
                have hown := hrg.owns
                clear hb hTb hdb hmin0 hmin hl0 hE hrg
                cases isf with
                | false =>
                  have hmin' : ∀ b u, dn b = false → T b = some u → Clash.le t0 u := fun s u hd hu => by
                    by_cases e : s = []
                    · subst e; have := hTI.out.1; rw [hu] at this; cases this
                    · exact hMIN.out s u e hu hd
                  have hC0 : ∀ w3, clashB w3 (B + 2) (m + 1) (E.put (.string best.data.toList) (.lit (.bool true))) → wn.grownBy w3 (some (B + 2)) → Cl3 ws B w w3 best.data.toList t0 T dn n (m + 1) (b + 12) 0 := fun w3 p1 p2 =>
                    Cl3.start hI2.out hI3.out hHB.out.1 hHB.out.2.1 hHB.out.2.2 hmin' (hV.out.mark hownE hEE.out hbz p1 p2) hI8.out
                  have hCC := Aside0.mk hC0
                  clear hmin' hC0
                  go_wp2_with (at_mapUpdate; refine clash_storeB _ rfl _ _ _ rfl (B + 2) m E rfl hownE hmz best rfl rfl hbz ?_; intro w3 hown3 hgrow3)
                  have hC3 := Aside0.mk (hCC.out w3 hown3 hgrow3)
                  clear hown3 hgrow3 hown hownE hmz c1 c3 c4 c5
                  go_loopg [104] l0.length (fun k v104 wx => ∃ j : Nat, v104 = .int .i64 j ∧ Aside0 (j + k = l0.length) ∧ Aside0 (Cl3 ws B w wx best.data.toList t0 T dn n (m + 1) (b + 12) j))
                  case atStart => exact ⟨0, rfl, Aside0.mk (by omega), hC3⟩
                  case round =>
                    obtain ⟨wx, rfl⟩ : ∃ x, x = wr := ⟨_, rfl⟩
                    clear hC3
                    obtain ⟨j, rfl, hkj, hC3⟩ := hrel
                    by_cases hlt : (j : Int) < l0.length
                    · have hj : j < l0.length := by omega
                      have p1 : 0 ≤ (j : Int) := by omega
                      obtain ⟨ad, rfl, hx1⟩ := Kd.at_string (Kd.C_below hHR.out (by obtain ⟨T1, n1, g1, _⟩ := hC3.out; rw [← hBB.out]; exact g1.b)) j p1 hlt
                      rw [Int.toNat_natCast] at hx1
                      have hwd := hWI.out j hj
                      have hzd := hWZ.out j hj
                      obtain ⟨wd, hwdE⟩ : ∃ u, u = rdOf ByteArray.empty l0 (j : Int) := ⟨_, rfl⟩
                      rw [← hwdE] at hx1 hwd hzd
                      clear hwdE
                      have hWD := Aside0.mk (And.intro hwd hzd)
                      have p1t := eq_true p1
                      have q1t := eq_true hlt
                      have hkj2 := hkj.out
                      by_cases hpre : ∃ x, best.data.toList = wd.data.toList ++ x
                      · obtain ⟨x, hx⟩ := hpre
                        obtain ⟨T1, n1, g1, g2, g3, g4, g5, g6⟩ := hC3.out.word (x := x) (wd := wd.data.toList) hHB.out.2.1
                        have hnext := (g6 hHB.out.1 hwd).1 hx
                        obtain ⟨hct, _, _, ⟨D1, hown1, hR1⟩⟩ := g1.v
                        have c1 : wx.cell? ⟨B + 1, 0, none⟩ = some (.map (some B)) := (blk_cell hct 0).trans rfl
                        have hRR1 := Aside0.mk (And.intro hR1 g2)
                        have hxl : x.length ≤ 12 := by have := congrArg List.length hx; rw [List.length_append] at this; omega
                        have hcut := fun W => clash_cut_yes best wd x W hx
                        have hadd : ∀ c0' : ByteArray, c0'.data.toList = t0 → Calls Tryd.prog 39 #[.string (clashBs x), .string c0', .pointer (some ⟨B + 4, 0, none⟩), .pointer (some ⟨B + 5, 0, none⟩), .pointer (some ⟨B + 3, 0, none⟩), .pointer (some ⟨B + 1, 0, none⟩)] wx fun e w' => e = .returned (.tuple #[]) ∧ ClW B wx w' (Clash.put T1 x t0) (n1 + 1) := fun c0' hc => by
                          have hsz := hSZ.out
                          have h16 := hHS.out.1
                          have := clash_add B n1 T1 (clashBs x) c0' wx g1.z g1.v (clash_max _ (by rw [clashBs_size]; omega)) (clash_max _ (by rw [← clash_len, hc]; omega)) (clash_max' _ (by omega))
                          rw [hc, clashBs_data] at this
                          exact this
                        have hNX := Aside0.mk hnext
                        clear g1 g2 g3 g4 g5 g6 hR1 hct hnext hC3 hx hwd hxl
                        go_wp2_with (first | (go_at_call 40; refine (hcut _).mono ?_; rintro e w' ⟨rfl, rfl⟩) | (at_lookup; refine clash_lookS _ rfl _ _ rfl B n1 D1 rfl hown1 best rfl hbz ?_; intro c0' hat0 hcz0; have hc0' := hRR1.out.1.look hHB.out.1 hRR1.out.2 hat0) | (go_at_call 39; refine (hadd c0' hc0').mono ?_; rintro e w4 ⟨rfl, hW4⟩))
                        go_roundg (gk - 1)
                        case measure => omega
                        case rel => exact ⟨j + 1, by (have h9 := hHS.out.1; simp; unfold wrap64; omega), Aside0.mk (by omega), Aside0.mk (hNX.out _ hW4)⟩
                      · have hpre' : ∀ x, best.data.toList ≠ wd.data.toList ++ x := fun x hx => hpre ⟨x, hx⟩
                        have hcut := fun W => clash_cut_no best wd W hpre'
                        by_cases hmo : ∃ x, wd.data.toList = best.data.toList ++ x
                        · obtain ⟨x, hx⟩ := hmo
                          obtain ⟨T1, n1, g1, g2, g3, g4, g5, g6⟩ := hC3.out.word (x := x) (wd := wd.data.toList) hHB.out.2.1
                          have hxl : x.length ≤ 12 := by have := congrArg List.length hx; rw [List.length_append, clash_len] at this; omega
                          have htl : t0.length ≤ b := (hI8.out _ _ hHB.out.2.1).2
                          have hnext := (g6 hHB.out.1 hwd).2 hx hpre' (by omega) hxl
                          obtain ⟨hct, _, _, ⟨D1, hown1, hR1⟩⟩ := g1.v
                          have c1 : wx.cell? ⟨B + 1, 0, none⟩ = some (.map (some B)) := (blk_cell hct 0).trans rfl
                          have hRR1 := Aside0.mk (And.intro hR1 g2)
                          have hcut2 := fun W => clash_cut_yes wd best x W hx
                          have hadd : ∀ c0' : ByteArray, c0'.data.toList = t0 → (9223372036854775807 < c0'.size + (clashBs x).size) = False ∧ Calls Tryd.prog 39 #[.string (clashBs x), .string (c0' ++ clashBs x), .pointer (some ⟨B + 4, 0, none⟩), .pointer (some ⟨B + 5, 0, none⟩), .pointer (some ⟨B + 3, 0, none⟩), .pointer (some ⟨B + 1, 0, none⟩)] wx fun e w' => e = .returned (.tuple #[]) ∧ ClW B wx w' (Clash.put T1 x (t0 ++ x)) (n1 + 1) := fun c0' hc => by
                            have hsz := hSZ.out
                            have h16 := hHS.out.1
                            have hcl : c0'.size = t0.length := by rw [← clash_len, hc]
                            have hcd : (c0' ++ clashBs x).data.toList = t0 ++ x := by rw [ByteArray.data_append, Array.toList_append, hc, clashBs_data]
                            have hcz : (c0' ++ clashBs x).size = t0.length + x.length := by rw [← clash_len, hcd, List.length_append]
                            have := clash_add B n1 T1 (clashBs x) (c0' ++ clashBs x) wx g1.z g1.v (clash_max _ (by rw [clashBs_size]; omega)) (clash_max _ (by omega)) (clash_max' _ (by omega))
                            rw [hcd, clashBs_data] at this
                            exact ⟨eq_false (by rw [hcl, clashBs_size]; omega), this⟩
                          have hNX := Aside0.mk hnext
                          have hADD := Aside0.mk hadd
                          clear g1 g2 g3 g4 g5 g6 hR1 hct hnext hC3 hx hwd hxl hadd hpre hpre'
                          go_wp2_with (first | (go_at_call 40; (first | refine (hcut _).mono ?_ | refine (hcut2 _).mono ?_); rintro e w' ⟨rfl, rfl⟩) | (at_lookup; refine clash_lookS _ rfl _ _ rfl B n1 D1 rfl hown1 best rfl hbz ?_; intro c0' hat0 hcz0; have hc0' := hRR1.out.1.look hHB.out.1 hRR1.out.2 hat0; have hsum := (hADD.out c0' hc0').1) | (go_at_call 39; refine ((hADD.out c0' hc0').2).mono ?_; rintro e w4 ⟨rfl, hW4⟩))
                          go_roundg (gk - 1)
                          case measure => omega
                          case rel => exact ⟨j + 1, by (have h9 := hHS.out.1; simp; unfold wrap64; omega), Aside0.mk (by omega), Aside0.mk (hNX.out _ hW4)⟩
                        · have hmo' : ∀ x, wd.data.toList ≠ best.data.toList ++ x := fun x hx => hmo ⟨x, hx⟩
                          have hcut2 := fun W => clash_cut_no wd best W hmo'
                          have hNX := Aside0.mk (hC3.out.none hwd hpre' hmo')
                          clear hC3 hpre hpre' hmo hmo' hwd
                          go_wp2_with (go_at_call 40; (first | refine (hcut _).mono ?_ | refine (hcut2 _).mono ?_); rintro e w' ⟨rfl, rfl⟩)
                          go_roundg (gk - 1)
                          case measure => omega
                          case rel => exact ⟨j + 1, by (have h9 := hHS.out.1; simp; unfold wrap64; omega), Aside0.mk (by omega), hNX⟩
                    · have hkj2 := hkj.out
                      obtain ⟨k', hk', hC2⟩ := hC3.out.finish (by have := hWL.out; omega) (by have := hHS.out.1; omega) hI2.out hHB.out.2.1 hHB.out.2.2 hI4.out
                      have hNX := Aside0.mk hC2
                      have hLK := Aside0.mk hk'
                      clear hC2 hC3 hk'
                      go_wp2
                      go_roundg k'
                      case measure => exact hLK.out
                      case rel => exact hNX
                | true =>
                  have hTf : T [] = some f.data.toList := hTI.out.1
                  by_cases hl : Clash.lt f.data.toList t0 = true
                  · have hres := Aside0.mk (clash_result hI2.out (fun b u hd hb hu => ⟨_, hTf, Clash.le_trans (Clash.le_of_lt hl) (hMIN.out b u hb hu hd)⟩) hTI.out.1 hTI.out.2)
                    have hCFX := hCF.out
                    clear hTf
                    go_wp2_with (first | (at_lookup; refine gate_guard (by rfl) ?_; dsimp only; refine clash_lookS _ rfl _ _ rfl B n D rfl hown best rfl hbz ?_; intro c0' hat0 hcz0; have hc0' := hRR.out.look hHB.out.1 hHB.out.2.1 hat0) | (go_at_call 35; refine (clash_less f c0' true _ (by rw [hc0']; exact hl)).mono ?_; rintro e w2 ⟨rfl, hb2⟩; have c32 : w2.cell? ⟨B + 3, 0, none⟩ = some (.string f) := (blk_cell (blk_below (blk_below hCF.out hBEL.out) hb2) 0).trans rfl; have c42 : w2.cell? ⟨B + 4, 0, none⟩ = some (.bool true) := (blk_cell (blk_below (blk_below hCI.out hBEL.out) hb2) 0).trans rfl))
                    go_quiet (fail)
                    go_wp2
                    go_ret2
                    refine ⟨?_, ?_⟩
                    · have e1 := (hres.out.1.trans hRES.out.1).symm
                      have e2 := (hres.out.2.trans hRES.out.2).symm
                      subst e1
                      subst e2
                      rfl
                    · have := hV.out.b.trans (hb2.mono (by have := hV.out.z; omega))
                      rw [hBB.out] at this
                      exact pw_below_drewN this _
                  · have hmin' : ∀ b u, dn b = false → T b = some u → Clash.le t0 u := fun s u hd hu => by
                      by_cases e : s = []
                      · subst e; rw [hTf] at hu; cases hu; exact hl
                      · exact hMIN.out s u e hu hd
                    have hC0 : ∀ w2, Below wn.heap.size wn w2 → ∀ w3, clashB w3 (B + 2) (m + 1) (E.put (.string best.data.toList) (.lit (.bool true))) → w2.grownBy w3 (some (B + 2)) → Cl3 ws B w w3 best.data.toList t0 T dn n (m + 1) (b + 12) 0 := fun w2 p0 w3 p1 p2 =>
                      Cl3.start hI2.out hI3.out hHB.out.1 hHB.out.2.1 hHB.out.2.2 hmin' ((hV.out.below p0).mark (clash_own_below hownE p0) hEE.out hbz p1 p2) hI8.out
                    have hCC := Aside0.mk hC0
                    clear hmin' hC0 hTf
                    go_wp2_with (first | (at_lookup; refine gate_guard (by rfl) ?_; dsimp only; refine clash_lookS _ rfl _ _ rfl B n D rfl hown best rfl hbz ?_; intro c0' hat0 hcz0; have hc0' := hRR.out.look hHB.out.1 hHB.out.2.1 hat0) | (go_at_call 35; refine (clash_less f c0' false _ (by rw [hc0']; simpa using hl)).mono ?_; rintro e w2 ⟨rfl, hb2⟩; have hownE2 := clash_own_below hownE hb2) | (at_mapUpdate; refine clash_storeB _ rfl _ _ _ rfl (B + 2) m E rfl hownE2 hmz best rfl rfl hbz ?_; intro w3 hown3 hgrow3))
                    have hC3 := Aside0.mk (hCC.out w2 hb2 w3 hown3 hgrow3)
                    clear hown3 hgrow3 hown hownE hownE2 hmz c1 c3 c4 c5 hat0 hcz0 hc0' hb2
                    go_loopg [104] l0.length (fun k v104 wx => ∃ j : Nat, v104 = .int .i64 j ∧ Aside0 (j + k = l0.length) ∧ Aside0 (Cl3 ws B w wx best.data.toList t0 T dn n (m + 1) (b + 12) j))
                    case atStart => exact ⟨0, rfl, Aside0.mk (by omega), hC3⟩
                    case round =>
                      obtain ⟨wx, rfl⟩ : ∃ x, x = wr := ⟨_, rfl⟩
                      clear hC3
                      obtain ⟨j, rfl, hkj, hC3⟩ := hrel
                      by_cases hlt : (j : Int) < l0.length
                      · have hj : j < l0.length := by omega
                        have p1 : 0 ≤ (j : Int) := by omega
                        obtain ⟨ad, rfl, hx1⟩ := Kd.at_string (Kd.C_below hHR.out (by obtain ⟨T1, n1, g1, _⟩ := hC3.out; rw [← hBB.out]; exact g1.b)) j p1 hlt
                        rw [Int.toNat_natCast] at hx1
                        have hwd := hWI.out j hj
                        have hzd := hWZ.out j hj
                        obtain ⟨wd, hwdE⟩ : ∃ u, u = rdOf ByteArray.empty l0 (j : Int) := ⟨_, rfl⟩
                        rw [← hwdE] at hx1 hwd hzd
                        clear hwdE
                        have hWD := Aside0.mk (And.intro hwd hzd)
                        have p1t := eq_true p1
                        have q1t := eq_true hlt
                        have hkj2 := hkj.out
                        by_cases hpre : ∃ x, best.data.toList = wd.data.toList ++ x
                        · obtain ⟨x, hx⟩ := hpre
                          obtain ⟨T1, n1, g1, g2, g3, g4, g5, g6⟩ := hC3.out.word (x := x) (wd := wd.data.toList) hHB.out.2.1
                          have hnext := (g6 hHB.out.1 hwd).1 hx
                          obtain ⟨hct, _, _, ⟨D1, hown1, hR1⟩⟩ := g1.v
                          have c1 : wx.cell? ⟨B + 1, 0, none⟩ = some (.map (some B)) := (blk_cell hct 0).trans rfl
                          have hRR1 := Aside0.mk (And.intro hR1 g2)
                          have hxl : x.length ≤ 12 := by have := congrArg List.length hx; rw [List.length_append] at this; omega
                          have hcut := fun W => clash_cut_yes best wd x W hx
                          have hadd : ∀ c0' : ByteArray, c0'.data.toList = t0 → Calls Tryd.prog 39 #[.string (clashBs x), .string c0', .pointer (some ⟨B + 4, 0, none⟩), .pointer (some ⟨B + 5, 0, none⟩), .pointer (some ⟨B + 3, 0, none⟩), .pointer (some ⟨B + 1, 0, none⟩)] wx fun e w' => e = .returned (.tuple #[]) ∧ ClW B wx w' (Clash.put T1 x t0) (n1 + 1) := fun c0' hc => by
                            have hsz := hSZ.out
                            have h16 := hHS.out.1
                            have := clash_add B n1 T1 (clashBs x) c0' wx g1.z g1.v (clash_max _ (by rw [clashBs_size]; omega)) (clash_max _ (by rw [← clash_len, hc]; omega)) (clash_max' _ (by omega))
                            rw [hc, clashBs_data] at this
                            exact this
                          have hNX := Aside0.mk hnext
                          clear g1 g2 g3 g4 g5 g6 hR1 hct hnext hC3 hx hwd hxl
                          go_wp2_with (first | (go_at_call 40; refine (hcut _).mono ?_; rintro e w' ⟨rfl, rfl⟩) | (at_lookup; refine clash_lookS _ rfl _ _ rfl B n1 D1 rfl hown1 best rfl hbz ?_; intro c0' hat0 hcz0; have hc0' := hRR1.out.1.look hHB.out.1 hRR1.out.2 hat0) | (go_at_call 39; refine (hadd c0' hc0').mono ?_; rintro e w4 ⟨rfl, hW4⟩))
                          go_roundg (gk - 1)
                          case measure => omega
                          case rel => exact ⟨j + 1, by (have h9 := hHS.out.1; simp; unfold wrap64; omega), Aside0.mk (by omega), Aside0.mk (hNX.out _ hW4)⟩
                        · have hpre' : ∀ x, best.data.toList ≠ wd.data.toList ++ x := fun x hx => hpre ⟨x, hx⟩
                          have hcut := fun W => clash_cut_no best wd W hpre'
                          by_cases hmo : ∃ x, wd.data.toList = best.data.toList ++ x
                          · obtain ⟨x, hx⟩ := hmo
                            obtain ⟨T1, n1, g1, g2, g3, g4, g5, g6⟩ := hC3.out.word (x := x) (wd := wd.data.toList) hHB.out.2.1
                            have hxl : x.length ≤ 12 := by have := congrArg List.length hx; rw [List.length_append, clash_len] at this; omega
                            have htl : t0.length ≤ b := (hI8.out _ _ hHB.out.2.1).2
                            have hnext := (g6 hHB.out.1 hwd).2 hx hpre' (by omega) hxl
                            obtain ⟨hct, _, _, ⟨D1, hown1, hR1⟩⟩ := g1.v
                            have c1 : wx.cell? ⟨B + 1, 0, none⟩ = some (.map (some B)) := (blk_cell hct 0).trans rfl
                            have hRR1 := Aside0.mk (And.intro hR1 g2)
                            have hcut2 := fun W => clash_cut_yes wd best x W hx
                            have hadd : ∀ c0' : ByteArray, c0'.data.toList = t0 → (9223372036854775807 < c0'.size + (clashBs x).size) = False ∧ Calls Tryd.prog 39 #[.string (clashBs x), .string (c0' ++ clashBs x), .pointer (some ⟨B + 4, 0, none⟩), .pointer (some ⟨B + 5, 0, none⟩), .pointer (some ⟨B + 3, 0, none⟩), .pointer (some ⟨B + 1, 0, none⟩)] wx fun e w' => e = .returned (.tuple #[]) ∧ ClW B wx w' (Clash.put T1 x (t0 ++ x)) (n1 + 1) := fun c0' hc => by
                              have hsz := hSZ.out
                              have h16 := hHS.out.1
                              have hcl : c0'.size = t0.length := by rw [← clash_len, hc]
                              have hcd : (c0' ++ clashBs x).data.toList = t0 ++ x := by rw [ByteArray.data_append, Array.toList_append, hc, clashBs_data]
                              have hcz : (c0' ++ clashBs x).size = t0.length + x.length := by rw [← clash_len, hcd, List.length_append]
                              have := clash_add B n1 T1 (clashBs x) (c0' ++ clashBs x) wx g1.z g1.v (clash_max _ (by rw [clashBs_size]; omega)) (clash_max _ (by omega)) (clash_max' _ (by omega))
                              rw [hcd, clashBs_data] at this
                              exact ⟨eq_false (by rw [hcl, clashBs_size]; omega), this⟩
                            have hNX := Aside0.mk hnext
                            have hADD := Aside0.mk hadd
                            clear g1 g2 g3 g4 g5 g6 hR1 hct hnext hC3 hx hwd hxl hadd hpre hpre'
                            go_wp2_with (first | (go_at_call 40; (first | refine (hcut _).mono ?_ | refine (hcut2 _).mono ?_); rintro e w' ⟨rfl, rfl⟩) | (at_lookup; refine clash_lookS _ rfl _ _ rfl B n1 D1 rfl hown1 best rfl hbz ?_; intro c0' hat0 hcz0; have hc0' := hRR1.out.1.look hHB.out.1 hRR1.out.2 hat0; have hsum := (hADD.out c0' hc0').1) | (go_at_call 39; refine ((hADD.out c0' hc0').2).mono ?_; rintro e w4 ⟨rfl, hW4⟩))
                            go_roundg (gk - 1)
                            case measure => omega
                            case rel => exact ⟨j + 1, by (have h9 := hHS.out.1; simp; unfold wrap64; omega), Aside0.mk (by omega), Aside0.mk (hNX.out _ hW4)⟩
                          · have hmo' : ∀ x, wd.data.toList ≠ best.data.toList ++ x := fun x hx => hmo ⟨x, hx⟩
                            have hcut2 := fun W => clash_cut_no wd best W hmo'
                            have hNX := Aside0.mk (hC3.out.none hwd hpre' hmo')
                            clear hC3 hpre hpre' hmo hmo' hwd
                            go_wp2_with (go_at_call 40; (first | refine (hcut _).mono ?_ | refine (hcut2 _).mono ?_); rintro e w' ⟨rfl, rfl⟩)
                            go_roundg (gk - 1)
                            case measure => omega
                            case rel => exact ⟨j + 1, by (have h9 := hHS.out.1; simp; unfold wrap64; omega), Aside0.mk (by omega), hNX⟩
                      · have hkj2 := hkj.out
                        obtain ⟨k', hk', hC2⟩ := hC3.out.finish (by have := hWL.out; omega) (by have := hHS.out.1; omega) hI2.out hHB.out.2.1 hHB.out.2.2 hI4.out
                        have hNX := Aside0.mk hC2
                        have hLK := Aside0.mk hk'
                        clear hC2 hC3 hk'
                        go_wp2
                        go_roundg k'
                        case measure => exact hLK.out
                        case rel => exact hNX
            · intro x c w1 cnt1 hxz hcz hlk hat hrg1 hlt hg1 hs1 hen
              have hB1 := clash_grown hBEL.out (by rw [hrr.out]; exact Nat.le_refl _) hg1
              have hV1 := hI1.out.below hB1
              obtain ⟨hx, hTx⟩ := hRR.out.entry hat
              obtain ⟨E, hownE, hE⟩ := hV1.d
              have hdx := hE x.data.toList
              have c11 : w1.cell? ⟨B + 1, 0, none⟩ = some (.map (some B)) := (blk_cell (blk_below hCT.out hB1) 0).trans rfl
              have c51 : w1.cell? ⟨B + 5, 0, none⟩ = some (.func (.func 35) #[] #[]) := (blk_cell (blk_below hCL.out hB1) 0).trans rfl
              have hHX := Aside0.mk (And.intro hx hTx)
              have hBEL1 := Aside0.mk hB1
              have hown1 := hrg1.owns
              have hLT := Aside0.mk hlt
              clear hx hTx hB1 hE hat hlk hs1 hg1 hV1 c1 c3 c4 c5 hrg hlt
              cases hd : dn x.data.toList with
              | true =>
                rw [hd] at hdx
                have hNX : Aside0 (ClN B r n D T dn wb w1 best has cnt1) := Aside0.mk ⟨_, hrg1, hBEL1.out, hSS.out.pass hd, hbz⟩
                go_wp2_with (at_lookup; refine clash_lookB _ rfl _ _ rfl (B + 2) m E rfl hownE x rfl hxz true hdx ?_)
                go_roundg cnt1
                case measure => exact hLT.out
                case rel => exact ⟨best, has, rfl, rfl, hNX⟩
              | false =>
                rw [hd] at hdx
                cases has with
                | false =>
                  have hNX : Aside0 (ClN B r n D T dn wb w1 x true cnt1) := Aside0.mk ⟨_, hrg1, hBEL1.out, hSS.out.first hHX.out.1 hd hHX.out.2, hxz⟩
                  go_wp2_with (at_lookup; refine clash_lookB _ rfl _ _ rfl (B + 2) m E rfl hownE x rfl hxz false hdx ?_)
                  go_roundg cnt1
                  case measure => exact hLT.out
                  case rel => exact ⟨x, true, rfl, rfl, hNX⟩
                | true =>
                  obtain ⟨hb, hdb, t0, hTb, _⟩ := hSS.out.2 rfl
                  have hHB := Aside0.mk (And.intro hb hTb)
                  clear hb hTb hdb
                  by_cases hl : Clash.lt c.data.toList t0 = true
                  · have hNX : ∀ w2, Below w1.heap.size w1 w2 → ClN B r n D T dn wb w2 x true cnt1 := fun w2 g => ⟨_, hrg1.kept (clash_grownOf g) (by simp) (by simp), hBEL1.out.trans (g.mono hBEL1.out.size), hSS.out.less hHX.out.1 hd hHX.out.2 hHB.out.2 hl, hxz⟩
                    have hNX2 := Aside0.mk hNX
                    clear hNX
                    go_wp2_with (first | (at_lookup; refine clash_lookB _ rfl _ _ rfl (B + 2) m E rfl hownE x rfl hxz false hdx ?_) | (at_lookup; refine gate_guard (by rfl) ?_; dsimp only; refine clash_lookS _ rfl _ _ rfl B n D rfl hown1 best rfl hbz ?_; intro c0' hat0 hcz0; have hc0' := hRR.out.look hHB.out.1 hHB.out.2 hat0) | (go_at_call 35; refine (clash_less c c0' true _ (by rw [hc0']; exact hl)).mono ?_; rintro e w2 ⟨rfl, hb2⟩))
                    go_roundg cnt1
                    case measure => exact hLT.out
                    case rel => exact ⟨x, true, rfl, rfl, Aside0.mk (hNX2.out _ hb2)⟩
                  · have hNX : ∀ w2, Below w1.heap.size w1 w2 → ClN B r n D T dn wb w2 best true cnt1 := fun w2 g => ⟨_, hrg1.kept (clash_grownOf g) (by simp) (by simp), hBEL1.out.trans (g.mono hBEL1.out.size), hSS.out.keep hHX.out.2 hHB.out.2 hl, hbz⟩
                    have hNX2 := Aside0.mk hNX
                    clear hNX
                    go_wp2_with (first | (at_lookup; refine clash_lookB _ rfl _ _ rfl (B + 2) m E rfl hownE x rfl hxz false hdx ?_) | (at_lookup; refine gate_guard (by rfl) ?_; dsimp only; refine clash_lookS _ rfl _ _ rfl B n D rfl hown1 best rfl hbz ?_; intro c0' hat0 hcz0; have hc0' := hRR.out.look hHB.out.1 hHB.out.2 hat0) | (go_at_call 35; refine (clash_less c c0' false _ (by rw [hc0']; simpa using hl)).mono ?_; rintro e w2 ⟨rfl, hb2⟩))
                    go_roundg cnt1
                    case measure => exact hLT.out
                    case rel => exact ⟨best, true, rfl, rfl, Aside0.mk (hNX2.out _ hb2)⟩


end
end Go.Proofs.YtkpobdcnggdjaaaDoor.PFnExactDecodeWords
