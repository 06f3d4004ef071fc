-- Written by a program of this session (mkprint.py) over the print of the translation. Not trusted: Lean checks it.
import Derived.Test.YtkpobdcnggdjaaaPFnExactCanonicalWordsx0
import Derived.Test.YtkpobdcnggdjaaaPFnExactCanonicalWordsx2
namespace Go.Proofs.Ytkpobdcnggdjaaa.PFnExactCanonicalWords
open Go.RowKit Go.Proofs.YtkpobdcnggdjaaaW.PrintWords Go.Proofs.YtkpobdcnggdjaaaW.PrintLast Go.Proofs.YtkpobdcnggdjaaaW.PrintMore
attribute [local go_sem] max2_int min2_int max_two min_two max_three min_three max_four min_four   -- for this text's walks alone
set_option linter.unusedVariables false
set_option linter.unusedSimpArgs false

/-! ### impl_CanonicalWords: function 7, told by hand -/
theorem canon_lays : SlLaysF.n20 Try.prog ⟨fun | 20 => 42 | n => n, fun | 22 => 36 | 24 => 3 | 25 => 39 | n => n, fun | n => n⟩ := {
  mixed := by kernel_rfl
  f20 := ⟨ "slices.insertionSortCmpFunc[int]", by decide, Try.func42.trans (congrArg some (by kernel_rfl))⟩
  t0 := Try.underlying0
  a0 := Try.isAgg0
  z0 := Try.sizeOf0
  v0 := Try.zeroValue0
  t3 := Try.underlying3
  a3 := Try.isAgg3
  z3 := Try.sizeOf3
  v3 := Try.zeroValue3
  t4 := Try.underlying4
  a4 := Try.isAgg4
  z4 := Try.sizeOf4
  v4 := Try.zeroValue4
  t22 := Try.underlying36
  a22 := Try.isAgg36
  z22 := Try.sizeOf36
  v22 := Try.zeroValue36
  a24 := Try.isAgg3
  z24 := Try.sizeOf3
  t25 := Try.underlying39
  a25 := Try.isAgg39
  z25 := Try.sizeOf39
  v25 := Try.zeroValue39 }
def canonCf (l : List Int) (x y : Fin l.length) : Int := if rd l (x.val : Int) < rd l (y.val : Int) then -1 else if rd l (x.val : Int) > rd l (y.val : Int) then 1 else 0
def canonEnc (n : Nat) (i : Fin n) : Value := .int .i64 (i.val : Int)
theorem canon_cmp64 (a b : Int) : cmp_Compare_int64.f a b = some (if a < b then -1 else if a > b then 1 else 0) := by
  simp only [cmp_Compare_int64.f, cmp_isNaN_int64.f, Option.bind_some, bne_self_eq_false, Bool.false_eq_true, if_false]
  by_cases h : a < b
  · rw [if_pos h, if_pos h]
  · rw [if_neg h, if_neg h]
    by_cases h2 : a > b
    · rw [if_pos h2, if_pos h2]
    · rw [if_neg h2, if_neg h2]
set_option maxHeartbeats 8000000 in
set_option maxRecDepth 100000 in
theorem canon_closure (A0 : Option Addr) (c0 : Nat) (l : List Int) (bx : Nat) (W : World) (hbox : W.heap[bx]? = some (.cells #[.slice A0 l.length c0] 22 (0, 0))) (hr : Kd.C (Kd.int .i64) W A0 l.length l) (hc0 : l.length ≤ c0) (x y : Fin l.length) :
    Calls Try.prog 20 #[.int .i64 (x.val : Int), .int .i64 (y.val : Int), .pointer (some ⟨bx, 0, none⟩)] W fun e w' => e = .returned (.int .i64 (canonCf l x y)) ∧ ∃ q, w' = W.drewN q := by
  have hx := x.isLt
  have hy := y.isLt
  have p1 : (0 : Int) ≤ (x.val : Int) := by omega
  have q1 : (x.val : Int) < (l.length : Int) := by omega
  have p2 : (0 : Int) ≤ (y.val : Int) := by omega
  have q2 : (y.val : Int) < (l.length : Int) := by omega
  obtain ⟨ad, rfl, hx1⟩ := Kd.at_int hr (x.val : Int) p1 q1
  obtain ⟨ad', e, hx2⟩ := Kd.at_int hr (y.val : Int) p2 q2
  injection e with e
  subst e
  rw [Int.toNat_natCast] at hx1 hx2
  have hcell : W.cell? ⟨bx, 0, none⟩ = some (.slice (some ad) l.length c0) := (blk_cell hbox 0).trans rfl
  have hcmp := fun w => cmp_Compare_int64.calls (rd l (x.val : Int)) (rd l (y.val : Int)) _ w (canon_cmp64 _ _)
  obtain ⟨r, hr'⟩ : ∃ r, canonCf l x y = r := ⟨_, rfl⟩
  rw [hr']
  have hcmp' : ∀ w, Calls Try.prog 21 #[.int .i64 (rd l (x.val : Int)), .int .i64 (rd l (y.val : Int))] w fun e w' => e = .returned (.int .i64 r) ∧ ∃ q, w' = w.drewN q := fun w => (hcmp w).mono fun e w' hh => by rw [← hr']; exact ⟨hh.1, hh.2.out⟩
  have hHC := Aside0.mk hcmp'
  clear hcmp hcmp' hr' hr
  obtain ⟨u, hu⟩ : ∃ u, u = rd l (x.val : Int) := ⟨_, rfl⟩
  obtain ⟨v, hv⟩ : ∃ v, v = rd l (y.val : Int) := ⟨_, rfl⟩
  rw [← hu, ← hv] at hHC
  rw [← hu] at hx1
  rw [← hv] at hx2
  clear hu hv
  obtain ⟨i, hi⟩ : ∃ i : Nat, i = x.val := ⟨_, rfl⟩
  obtain ⟨j, hj⟩ : ∃ j : Nat, j = y.val := ⟨_, rfl⟩
  rw [← hi] at hx1 p1 q1 ⊢
  rw [← hj] at hx2 p2 q2 ⊢
  clear hi hj hx hy
  have p1t := eq_true p1
  have q1t := eq_true q1
  have p2t := eq_true p2
  have q2t := eq_true q2
  go_enter Try.func20, Try.ntmps20
  go_wp2_with fail
  go_quiet (first | (go_at_call 21; refine Calls.quiet_of (hHC.out _)))
  go_wp2
  go_ret
  exact ⟨rfl, _, rfl⟩
open Go.Sort in
set_option maxHeartbeats 8000000 in
set_option maxRecDepth 100000 in
theorem canon_stable {α : Type} [Inhabited α] (enc : α → Value) (hO : OneCell enc) (cf : α → α → Int) (g : Nat) (cb : Array Value) (blk off cap : Nat) (d : Array α) (w : World)
    (eg : ∀ args w, (callFunc g args).run Try.prog w = .ok (.enter g args) w) (hcmp : CmpReads Try.prog g cb enc cf blk off d.size w) (hH : Holds enc w blk off d) (h2 : 2 ≤ d.size) (h16 : d.size ≤ 16) :
    Calls Try.prog 35 #[.slice (some ⟨blk, off, none⟩) d.size cap, .int .i64 d.size, .func (.func g) #[] cb] w fun e w' =>
      e = .returned (.tuple #[]) ∧ ∃ n, w' = (putRow enc w blk off (Sort.insertionSort (ltOf cf) d 0 d.size)).drewN n := by
  have HC := Aside0.mk (Any.insertionSortCmpFunc_one canon_lays enc hO cf g cb blk off cap 0 d.size d w eg hcmp hH (Nat.zero_le _) (Nat.le_refl _) (by omega))
  clear hcmp hH eg hO
  obtain ⟨W1, hW1⟩ : ∃ W1, putRow enc w blk off (Sort.insertionSort (ltOf cf) d 0 d.size) = W1 := ⟨_, rfl⟩
  rw [hW1] at HC ⊢
  obtain ⟨n, hn⟩ : ∃ n, d.size = n := ⟨_, rfl⟩
  rw [hn] at HC h2 h16 ⊢
  clear hW1
  have b1 : decide ((20 : Int) ≤ (n : Int)) = false := decide_eq_false (by omega)
  have b2 : decide ((20 : Int) < (n : Int)) = false := decide_eq_false (by omega)
  go_enter Try.func35, Try.ntmps35
  go_wp2
  go_loopg [7, 8] 1 (fun gq v7 v8 w' => v7 = .int .i64 0 ∧ v8 = .int .i64 20 ∧ w' = w)
  case atStart => exact ⟨rfl, rfl, rfl⟩
  case round =>
    obtain ⟨rfl, rfl, rfl⟩ := hrel
    go_wp2_with fail
    go_at_call 42
    refine HC.out.mono ?_
    rintro e w' ⟨rfl, m, rfl⟩
    go_wp2
    go_loopg [6] 1 (fun gq v6 w' => v6 = .int .i64 20 ∧ w' = W1.drewN m)
    case atStart => exact ⟨rfl, rfl⟩
    case round =>
      obtain ⟨rfl, rfl⟩ := hrel
      go_wp2
      refine bodyPost_end (results_none rfl _ _ _) rfl ?_
      exact ⟨rfl, _, rfl⟩
theorem canon_lt (l : List Int) (x y : Fin l.length) : ltOf (canonCf l) x y = decide (rd l (x.val : Int) < rd l (y.val : Int)) := by
  unfold ltOf canonCf
  by_cases h : rd l (x.val : Int) < rd l (y.val : Int)
  · simp [h]
  · by_cases h2 : rd l (x.val : Int) > rd l (y.val : Int)
    · simp [h, h2]
    · simp [h, h2]
theorem canon_swo (l : List Int) : Sort.SWO (ltOf (canonCf l)) where
  irrefl x := by rw [canon_lt]; simp
  trans x y z h1 h2 := by rw [canon_lt] at *; simp at *; omega
  ntrans x y z h1 h2 := by rw [canon_lt] at *; simp at *; omega
def canonArr (l : List Int) (h : 0 < l.length) : Array (Fin l.length) := letI : Inhabited (Fin l.length) := ⟨⟨0, h⟩⟩; Sort.insertionSort (ltOf (canonCf l)) (Array.ofFn fun i => i) 0 l.length
def canonOrd (l : List Int) : List Int := if h : 0 < l.length then (canonArr l h).toList.map (fun i => (i.val : Int)) else []
theorem canon_size (l : List Int) (h : 0 < l.length) : (canonArr l h).size = l.length := by
  letI : Inhabited (Fin l.length) := ⟨⟨0, h⟩⟩
  have := (Sort.insertionSort_holds (canon_swo l) (Array.ofFn fun i : Fin l.length => i) 0 l.length (Nat.zero_le _) (by simp)).1.1
  exact this.trans (by simp)
theorem canon_far {α : Type} [Inhabited α] (enc : α → Value) (W : World) (g k m : Nat) (dk : Array α) (os : Array Obj) (hk : k < W.heap.size) (hne : g ≠ k) : (sortWorld enc W g 0 m dk os).heap[k]? = W.heap[k]? := by
  unfold sortWorld
  rw [Sort.heap_grow_old _ _ (by simpa using hk)]
  simp [Sort.putRow, Sort.mapBlock, Sort.ahead, Array.getElem?_modify, hne]
theorem canon_take {α : Type} [Inhabited α] (enc : α → Value) (cur : Array Value) (d : Array α) (h : d.size ≤ cur.size) : (Sort.putCells enc 0 d cur).toList.take d.size = d.toList.map enc := by
  apply List.ext_getElem?
  intro j
  by_cases hj : j < d.size
  · rw [List.getElem?_take_of_lt hj, Array.getElem?_toList]
    simp [Sort.putCells, hj, show j < cur.size by omega]
  · rw [List.getElem?_take_eq_none (by omega), List.getElem?_eq_none (by simp; omega)]
set_option maxHeartbeats 8000000 in
set_option maxRecDepth 100000 in
theorem canon_sort (A0 : Option Addr) (c0 : Nat) (l : List Int) (bx : Nat) (w W : World) (v : Value) (hB : Below w.heap.size w W) (hlt : w.heap.size ≤ bx) (hbox : W.heap[bx]? = some (.cells #[.slice A0 l.length c0] 22 (0, 0))) (hr : Kd.C (Kd.int .i64) w A0 l.length l) (hc0 : l.length ≤ c0)
    (hv : Kd.R (Kd.int .i64) 3 W w.heap.size (fun _ => True) v ((List.range l.length).map (fun i : Nat => (i : Int)))) (h2 : 2 ≤ l.length) (h16 : l.length ≤ 16) :
    Calls Try.prog 19 #[v, .func (.func 20) #[] #[.pointer (some ⟨bx, 0, none⟩)]] W fun e w' => e = .returned (.tuple #[]) ∧ Kd.R (Kd.int .i64) 3 w' w.heap.size (fun _ => True) v (canonOrd l) ∧ Below w.heap.size w w' ∧ w'.heap[bx]? = some (.cells #[.slice A0 l.length c0] 22 (0, 0)) := by
  have hlen : ((List.range l.length).map (fun i : Nat => (i : Int))).length = l.length := by simp
  have own := Kd.own_of_R hv
  rw [hlen] at own
  rcases own.2 with ⟨_, h0⟩ | ⟨g, cap, cur, rfl, hbg, hg, hn, hcap, hcs, htk⟩
  · omega
  letI : Inhabited (Fin l.length) := ⟨⟨0, by omega⟩⟩
  have hgb : g ≠ bx := blk_ne hg hbox (by decide)
  have hgs := blk_lt hg
  have hbs := blk_lt hbox
  obtain ⟨d, hd⟩ : ∃ d : Array (Fin l.length), d = Array.ofFn (fun i : Fin l.length => i) := ⟨_, rfl⟩
  have hds : d.size = l.length := by rw [hd]; simp
  have hH : Sort.Holds (canonEnc l.length) W g 0 d := by
    intro j hj
    rw [hds] at hj
    refine ⟨?_, by rw [blk_frozen hg]⟩
    rw [blk_cell hg, Nat.zero_add]
    have h1 : (cur.toList.take (l.length * 1))[j]? = (encs (Value.int .i64) ((List.range l.length).map (fun i : Nat => (i : Int))))[j]? := by rw [htk]
    rw [List.getElem?_take_of_lt (by omega), Array.getElem?_toList] at h1
    rw [h1, hd]
    simp [encs, canonEnc, hj]
  have hBg : ∀ m (dk : Array (Fin l.length)) os, Below w.heap.size w (sortWorld (canonEnc l.length) W g 0 m dk os) := fun m dk os => hB.trans ⟨rfl, rfl, rfl, by simp [sortWorld, Sort.grow, Sort.putRow, Sort.mapBlock, Sort.ahead], fun k hk => canon_far _ _ _ _ _ _ _ (by omega) (by omega)⟩
  have hcmp : CmpReads Try.prog 20 #[.pointer (some ⟨bx, 0, none⟩)] (canonEnc l.length) (canonCf l) g 0 d.size W := fun m os dk hdk x y =>
    canon_closure A0 c0 l bx _ ((canon_far _ _ _ _ _ _ _ hbs hgb).trans hbox) (Kd.C_below hr (hBg m dk os)) hc0 x y
  have eg : ∀ args w, (callFunc 20 args).run Try.prog w = .ok (.enter 20 args) w := enters_of Try.func20 (by kernel_rfl) rfl
  have hcon := canon_stable (canonEnc l.length) (fun _ => rfl) (canonCf l) 20 #[.pointer (some ⟨bx, 0, none⟩)] g 0 cap d W eg hcmp hH (by omega) (by omega)
  rw [hds] at hcon
  have hcon2 : Calls Try.prog 35 #[.slice (some ⟨g, 0, none⟩) l.length cap, .int .i64 l.length, .func (.func 20) #[] #[.pointer (some ⟨bx, 0, none⟩)]] W fun e w' => e = .returned (.tuple #[]) ∧ Kd.R (Kd.int .i64) 3 w' w.heap.size (fun _ => True) (.slice (some ⟨g, 0, none⟩) l.length cap) (canonOrd l) ∧ Below w.heap.size w w' ∧ w'.heap[bx]? = some (.cells #[.slice A0 l.length c0] 22 (0, 0)) := by
    refine hcon.mono ?_
    rintro e w' ⟨rfl, n, rfl⟩
    have harr : Sort.insertionSort (ltOf (canonCf l)) d 0 l.length = canonArr l (by omega) := by subst hd; rfl
    rw [harr]
    have hsz := canon_size l (by omega)
    have hord : canonOrd l = (canonArr l (by omega)).toList.map (fun i => (i.val : Int)) := by unfold canonOrd; rw [dif_pos]
    have e0 : (Sort.putRow (canonEnc l.length) W g 0 (canonArr l (by omega))).drewN n = sortWorld (canonEnc l.length) W g 0 n (canonArr l (by omega)) #[] := (sortWorld_none _ _ _ _ _ _).symm
    refine ⟨rfl, Kd.R_of_own (enc := Value.int .i64) ?_ (fun _ _ => trivial), by rw [e0]; exact hBg _ _ _, by rw [e0]; exact (canon_far _ _ _ _ _ _ _ hbs hgb).trans hbox⟩
    have hol : (canonOrd l).length = l.length := by rw [hord]; simp [hsz]
    rw [hol]
    refine ⟨by simp [encs, hol], .inr ⟨g, cap, Sort.putCells (canonEnc l.length) 0 (canonArr l (by omega)) cur, rfl, hbg, ?_, hn, hcap, by simp [Sort.putCells, hcs], ?_⟩⟩
    · simp [World.drewN, Sort.putRow, Sort.mapBlock, Array.getElem?_modify, hg, Sort.onCells]
    · have := canon_take (canonEnc l.length) cur (canonArr l (by omega)) (by omega)
      have e5 : (Sort.putCells (canonEnc l.length) 0 (canonArr l (by omega)) cur).toList.take (l.length * 1) = (Sort.putCells (canonEnc l.length) 0 (canonArr l (by omega)) cur).toList.take (canonArr l (by omega)).size := congrArg (fun z => List.take z _) (by omega)
      rw [e5, this, hord]
      simp [encs, canonEnc]
  have HC := Aside0.mk hcon2
  clear hcon hcon2 hcmp hBg hH hd hds d own htk hcs hg hbox hr hv hB
  go_enter Try.func19, Try.ntmps19
  go_wp2_with (go_at_call 35; refine HC.out.mono ?_; rintro e w' ⟨rfl, h5, h6, h7⟩)
  refine bodyPost_end (results_none rfl _ _ _) rfl ?_
  exact ⟨rfl, h5, h6, h7⟩
def canonTail (l : List Int) : List Int → List ByteArray → Int → Option (List ByteArray × Bool)
  | [], out, _ => some (out, true)
  | i :: r, out, next => if 0 ≤ i ∧ i < (l.length : Int) ∧ i < (out.length : Int) ∧ 0 ≤ wrap64 (12 - rd l i) ∧ 0 ≤ rd l i then
      (if wrap64 (next + shl .i64 1 (wrap64 (12 - rd l i))) > 4096 then some ([], false) else
      (impl_digits.f 20 next 12).bind fun d => if rd l i ≤ (d.size : Int) then canonTail l r (out.set i.toNat (d.extract 0 (rd l i).toNat)) (wrap64 (next + shl .i64 1 (wrap64 (12 - rd l i)))) else none) else none
def impl_CanonicalWords.f (l0 : List Int) : Option (List ByteArray × Bool) :=
  if (l0.length : Int) < 2 then some ([], false) else if (l0.length : Int) > 16 then some ([], false) else
  (impl_areIn.f 20 l0 1 12).bind fun a => if a = true then canonTail l0 (canonOrd l0) (List.replicate l0.length (⟨#[]⟩ : ByteArray)) 0 else some ([], false)
theorem canon_apart {W : World} {base n t t' bx : Nat} {v : Value} {xs : List Value} {cs : Array Value} (h : W.ownsRow base t 1 v n xs) (hb : W.heap[bx]? = some (.cells cs t' (0, 0))) (hne : t ≠ t') : some bx ≠ v.ownBlock := by
  rcases h.2 with ⟨rfl, _⟩ | ⟨g, cap, cur, rfl, _, hg, _⟩
  · intro e; cases e
  · intro e
    injection e with e
    exact blk_ne hg hb hne e.symm
theorem canon_ord_len (l : List Int) : (canonOrd l).length = l.length := by
  unfold canonOrd
  by_cases h : 0 < l.length
  · rw [dif_pos h, List.length_map, Array.length_toList, canon_size]
  · rw [dif_neg h]
    simp
    omega
theorem canon_put {w wr w2 : World} {ad : Addr} {A : Option Addr} {go n co co2 c0 : Nat} {ord : List Int} {out : List ByteArray} (x : ByteArray) (iN : Nat) (hn : 0 < out.length) (HB : Below w.heap.size w wr) (hb : Below wr.heap.size wr w2) (HO : Kd.R (Kd.int .i64) 3 wr w.heap.size (fun _ => True) (.slice (some ad) n co) ord)
    (HS : Kd.R Kd.string 9 wr w.heap.size (fun _ => True) (.slice (some ⟨go, 0, none⟩) n co2) out) (HX : wr.heap[w.heap.size]? = some (.cells #[.slice A n c0] 22 (0, 0))) :
    Kd.R (Kd.int .i64) 3 (w2.setCell ⟨go, iN, none⟩ (.string x)) w.heap.size (fun _ => True) (.slice (some ad) n co) ord ∧ Kd.R Kd.string 9 (w2.setCell ⟨go, iN, none⟩ (.string x)) w.heap.size (fun _ => True) (.slice (some ⟨go, 0, none⟩) n co2) (out.set iN x) ∧
      Below w.heap.size w (w2.setCell ⟨go, iN, none⟩ (.string x)) ∧ (w2.setCell ⟨go, iN, none⟩ (.string x)).heap[w.heap.size]? = some (.cells #[.slice A n c0] 22 (0, 0)) := by
  have HO2 := Kd.R_below HO hb
  have HS2 := Kd.R_below HS hb
  have HX2 := blk_below HX hb
  have HB2 := below_step HB hb
  obtain ⟨g, cap, e, hg1, hg2, cells, hg3⟩ := Kd.R_form HS2 hn
  injection e with e _ _
  injection e with e
  injection e with e
  subst e
  have hp : Kd.R Kd.string 9 (w2.setCell ⟨go, iN, none⟩ (.string x)) w.heap.size (fun _ => True) (.slice (some ⟨go, 0, none⟩) n co2) (out.set iN x) ∧ w2.grownBy (w2.setCell ⟨go, iN, none⟩ (.string x)) (some go) := Kd.R_putg HS2 (iN : Int) x
  have own := Kd.own_of_R HO2
  have hap := canon_apart own hg3 (by decide)
  have HO3 : Kd.R (Kd.int .i64) 3 w2 w.heap.size (fun k => k ≠ go) (.slice (some ad) n co) ord := Kd.R_of_own own (fun k hk e => hap (by rw [hk, e]))
  exact ⟨Kd.R_mono (Kd.R_grown HO3 hp.2 (fun k hk e => hk (Option.some.inj e))) (fun _ _ => trivial), hp.1, below_set HB2 hg1, blk_grown HX2 hp.2 (fun e => blk_ne HX2 hg3 (by decide) (Option.some.inj e))⟩
theorem canon_info3 : (Try.prog.info? 3).map (fun i => (i.zero, i.size, i.bytes)) = some (some (.int .i64 0), 1, 8) := by kernel_rfl
set_option maxHeartbeats 8000000 in
set_option maxRecDepth 100000 in
theorem impl_CanonicalWords.calls (A0 : Option Addr) (c0 : Nat) (l0 : List Int) (r1 : List ByteArray) (r2 : Bool) (w : World) (hr0 : Kd.C (Kd.int .i64) w A0 l0.length l0) (hc0 : l0.length ≤ c0) (h : impl_CanonicalWords.f l0 = some (r1, r2)) :
    Calls Try.prog 7 #[.slice A0 l0.length c0] w fun e w' => ∃ v0_ : Value, e = .returned (.tuple #[v0_, .bool r2]) ∧ Kd.R Kd.string 9 w' w.heap.size (fun _ => True) v0_ r1 ∧ Below w.heap.size w w' := by
  have hb0 : (w.alloc (.cells #[.slice A0 l0.length c0] 22)).heap[w.heap.size]? = some (.cells #[.slice A0 l0.length c0] 22 (0, 0)) := heap_alloc_new w _
  have hr1 : Kd.C (Kd.int .i64) (w.alloc (.cells #[.slice A0 l0.length c0] 22)) A0 l0.length l0 := Kd.C_alloc hr0 _
  have hB1 : Below w.heap.size w (w.alloc (.cells #[.slice A0 l0.length c0] 22)) := below_alloc (Below.refl _ _) _
  have hz1 : w.heap.size < (w.alloc (.cells #[.slice A0 l0.length c0] 22)).heap.size := by simp
  have hcell : (w.alloc (.cells #[.slice A0 l0.length c0] 22)).cell? ⟨w.heap.size, 0, none⟩ = some (.slice A0 l0.length c0) := (blk_cell hb0 0).trans rfl
  unfold impl_CanonicalWords.f at h
  go_enter Try.func7, Try.ntmps7
  by_cases c1 : (l0.length : Int) < 2
  · rw [if_pos c1] at h
    cases h
    have d1 : decide ((l0.length : Int) < 2) = true := decide_eq_true c1
    go_wp2
    go_ret2
    exact ⟨_, rfl, Kd.R_nil _ _ _ _ _, by first | exact hB1 | exact pw_below_drewN hB1 _⟩
  have d1 : decide ((l0.length : Int) < 2) = false := decide_eq_false c1
  rw [if_neg c1] at h
  by_cases c2 : (l0.length : Int) > 16
  · rw [if_pos c2] at h
    cases h
    have d2 : decide ((l0.length : Int) > 16) = true := decide_eq_true c2
    have d3 : decide (16 < (l0.length : Int)) = true := decide_eq_true c2
    go_wp2
    go_ret2
    exact ⟨_, rfl, Kd.R_nil _ _ _ _ _, by first | exact hB1 | exact pw_below_drewN hB1 _⟩
  have d2 : decide ((l0.length : Int) > 16) = false := decide_eq_false c2
  have d3 : decide (16 < (l0.length : Int)) = false := decide_eq_false c2
  rw [if_neg c2] at h
  obtain ⟨a, ha, h⟩ := Option.bind_eq_some_iff.1 h
  cases a with
  | false =>
    cases h
    go_wp2_with (go_at_call 18; refine (impl_areIn.calls 20 A0 c0 l0 1 12 false _ (by first | exact hr1 | exact Kd.C_drewN hr1 _) hc0 ha).mono ?_; rintro e w' ⟨rfl, ⟨q, rfl⟩⟩)
    go_ret2
    exact ⟨_, rfl, Kd.R_nil _ _ _ _ _, by first | exact hB1 | exact pw_below_drewN hB1 _⟩
  | true =>
    replace h : canonTail l0 (canonOrd l0) (List.replicate l0.length (⟨#[]⟩ : ByteArray)) 0 = some (r1, r2) := by rw [if_pos rfl] at h; exact h
    have H := Aside0.mk h
    clear h
    try clear h
    go_upto_region 3 with (go_at_call 18; refine (impl_areIn.calls 20 A0 c0 l0 1 12 true _ (by first | exact hr1 | exact Kd.C_drewN hr1 _) hc0 ha).mono ?_; rintro e w' ⟨rfl, ⟨q, rfl⟩⟩)
    obtain ⟨W, hW⟩ : ∃ W, (w.alloc (.cells #[.slice A0 l0.length c0] 22)).drewN q = W := ⟨_, rfl⟩
    rw [hW]
    have HB := Aside0.mk (show Below w.heap.size w W from by rw [← hW]; exact pw_below_drewN hB1 _)
    have HX := Aside0.mk (show W.heap[w.heap.size]? = some (.cells #[.slice A0 l0.length c0] 22 (0, 0)) from by rw [← hW]; exact hb0)
    have HR := Aside0.mk hr0
    have HC0 := Aside0.mk hc0
    have hc22 : l0.length ≤ 16 := by omega
    have hc21 : 2 ≤ l0.length := by omega
    have HN := Aside0.mk (And.intro hc21 hc22)
    clear hW hb0 hr1 hB1 hz1 hcell d1 d2 d3 c1 c2 ha hr0 hc0 hc21 hc22
    go_upto_region 4 with (first | ((with_reducible refine gate_dst (N := 24) rfl ?_); refine Kd.R_lit (Kd.int .i64) _ 3 ?hg (N := 24) ?hd (xs := ([] : List Int)) (inner := []) (ok := fun _ => True) (okp := fun _ => True) ?hr ?hp (fun _ hk => hk) trivial (Below.refl _ _) (Nat.le_refl _) (by simp) ?_; (case hd => rfl); (case hg => rfl); (case hr => first | (go_simp; done) | (go_simp; rfl)); (case hp => exact (Reps.none _ _)); intro v135 w3 ho4 hb hg_ hnew_; have n1_ := Aside0.mk (below_step HB.out hb); have n2_ := Aside0.mk (blk_below HX.out hb); have HO := Aside0.mk (Kd.R_lower ho4 (below_size HB.out)); clear HB HX hg_ hnew_ ho4 hb; have HB := n1_; have HX := n2_; clear n1_ n2_))
    have hcell3 : w3.cell? ⟨w.heap.size, 0, none⟩ = some (.slice A0 l0.length c0) := (blk_cell HX.out 0).trans rfl
    go_wp2_with fail
    go_loopg [4, 27] l0.length (fun gq v4 v27 w' => ∃ j : Nat, v27 = .int .i64 (j : Int) ∧ Aside0 (j ≤ l0.length ∧ l0.length - j ≤ gq) ∧ Aside0 (Kd.R (Kd.int .i64) 3 w' w.heap.size (fun _ => True) v4 ((List.range j).map (fun i : Nat => (i : Int)))) ∧ Aside0 (Below w.heap.size w w') ∧ Aside0 (w'.heap[w.heap.size]? = some (.cells #[.slice A0 l0.length c0] 22 (0, 0))))
    case atStart => exact ⟨0, rfl, ⟨by omega, by omega⟩, HO, HB, HX⟩
    case round =>
      clear HO HB HX hcell3
      obtain ⟨j, rfl, HJ, HO, HB, HX⟩ := hrel
      have hj1 := HJ.out.1
      have hj2 := HJ.out.2
      by_cases c : j < l0.length
      · have d1 : decide ((j : Int) < (l0.length : Int)) = true := decide_eq_true (by omega)
        have d2 : decide (j < l0.length) = true := decide_eq_true c
        have e1 : wrap64 ((j : Int) + 1) = ((j + 1 : Nat) : Int) := by have := HN.out.2; unfold wrap64; omega
        have E1 := Aside0.mk e1
        cases gk with
        | zero => exact absurd hj2 (by omega)
        | succ k1 =>
          have HJ2 := Aside0.mk (And.intro (show j + 1 ≤ l0.length by omega) (show l0.length - (j + 1) ≤ k1 by omega))
          clear hj1 hj2 c HJ e1
          go_wp2_with (first | ((with_reducible refine gate_builtin (b := .append) (xs := #[.tmp 30, .tmp 32]) rfl ?_); at_builtin; refine Kd.R_append (Kd.int .i64) (w0 := w) w.heap.size rfl (.tmp 30) (.tmp 32) 36 3 (.int .i64 0) 8 rfl Try.underlying36 canon_info3 rfl (by decide) (by omega) u4 ((List.range j).map (fun i : Nat => (i : Int))) (j : Int) [.int .i64 (j : Int)] (fun _ => True) (fun _ => False) rfl rfl ?aP (fun _ hk => hk.elim) ?aF ?aO ?aB ?aS ?aL ?_; (case aP => exact rfl); (case aB => exact HB.out); (case aF => exact (fun _ _ => trivial)); (case aO => exact HO.out); (case aS => exact (below_size HB.out)); (case aL => have := HJ2.out.1; have := HN.out.2; simp; omega); intro v138 w9 ho hb hg hat; have n1_ := Aside0.mk ho; have n2_ := Aside0.mk hb; have n3_ := Aside0.mk (show w9.heap[w.heap.size]? = some (.cells #[.slice A0 l0.length c0] 22 (0, 0)) from blk_grown HX.out hg (canon_apart (Kd.own_of_R HO.out) HX.out (by decide))); clear HO HB HX ho hb hg hat; have HO := n1_; have HB := n2_; have HX := n3_; clear n1_ n2_ n3_))
          go_roundg k1
          case measure => omega
          case rel => exact ⟨j + 1, by rw [E1.out], HJ2, ⟨by have := HO.out; rw [List.range_succ, List.map_append]; exact this⟩, HB, HX⟩
      · have d1 : decide ((j : Int) < (l0.length : Int)) = false := decide_eq_false (by omega)
        have d2 : decide (j < l0.length) = false := decide_eq_false c
        obtain rfl : j = l0.length := by omega
        clear hj1 hj2 c HJ
        go_upto_region 9 with fail
        go_upto_region 10 with (go_at_call 19; refine (canon_sort A0 c0 l0 w.heap.size w _ _ HB.out (Nat.le_refl _) HX.out HR.out HC0.out HO.out HN.out.1 HN.out.2).mono ?_; rintro e w5 ⟨rfl, h5, h6, h7⟩)
        clear HO HB HX d1 d2
        have HO := Aside0.mk h5
        have HB := Aside0.mk h6
        have HX := Aside0.mk h7
        clear h5 h6 h7
        obtain ⟨ad, co, e5⟩ := Kd.R_slice1 HO.out (by rw [canon_ord_len]; have := HN.out.1; omega)
        rw [canon_ord_len] at e5
        subst e5
        have hcell5 : w5.cell? ⟨w.heap.size, 0, none⟩ = some (.slice A0 l0.length c0) := (blk_cell HX.out 0).trans rfl
        have p5 : 0 ≤ (l0.length : Int) := by omega
        have p6 := HN.out
        go_upto_region 12 with (first | ((with_reducible refine gate_dst (N := 40) rfl ?_); refine Kd.R_make Kd.string _ 9 rfl (N := 40) rfl 23 _ _ rfl (l0.length : Int) rfl rfl Try.underlying23 (.string ⟨#[]⟩) 16 info9 rfl (by decide) (by omega) (⟨#[]⟩ : ByteArray) (ok := fun _ => True) (okp := fun _ => True) rfl (fun _ hk => hk) trivial (by omega) (by omega) (Below.refl _ _) (Nat.le_refl _) ?_; intro v108 w6 ho5 hb hg_ hnew_; have n0_ := Aside0.mk (Kd.R_lower ho5 (below_size HB.out)); have n1_ := Aside0.mk (below_step HB.out hb); have n2_ := Aside0.mk (blk_below HX.out hb); have n3_ := Aside0.mk (Kd.R_below HO.out hb); clear HO HB HX hcell5 ho5 hb hg_ hnew_; have HO := n3_; have HS := n0_; have HB := n1_; have HX := n2_; clear n0_ n1_ n2_ n3_))
        replace HS : Aside0 (Kd.R Kd.string 9 w6 w.heap.size (fun _ => True) v108 (List.replicate l0.length (⟨#[]⟩ : ByteArray))) := HS
        obtain ⟨go, co2, e6, go1, go2, go3⟩ := Kd.R_form HS.out (by rw [List.length_replicate]; have := HN.out.1; omega)
        rw [List.length_replicate] at e6
        subst e6
        clear p5 p6 go1 go2 go3
        go_wp2_with fail
        go_loopg [7, 43] l0.length (fun gq v7 v43 w' => ∃ (q : Nat) (next : Int) (out : List ByteArray), v7 = .int .i64 next ∧ v43 = .int .i64 (q : Int) ∧ Aside0 (q ≤ l0.length ∧ l0.length - q ≤ gq) ∧ Aside0 (out.length = l0.length) ∧ Aside0 (canonTail l0 ((canonOrd l0).drop q) out next = some (r1, r2)) ∧ Aside0 (Kd.R (Kd.int .i64) 3 w' w.heap.size (fun _ => True) (.slice (some ad) l0.length co) (canonOrd l0)) ∧ Aside0 (Kd.R Kd.string 9 w' w.heap.size (fun _ => True) (.slice (some ⟨go, 0, none⟩) l0.length co2) out) ∧ Aside0 (Below w.heap.size w w') ∧ Aside0 (w'.heap[w.heap.size]? = some (.cells #[.slice A0 l0.length c0] 22 (0, 0))))
        case atStart => exact ⟨0, 0, _, rfl, rfl, ⟨by omega, by omega⟩, ⟨List.length_replicate⟩, H, HO, HS, HB, HX⟩
        case round =>
          clear HO HB HX HS H
          obtain ⟨q, next, out, rfl, rfl, HJ, HL, H, HO, HS, HB, HX⟩ := hrel
          have hj1 := HJ.out.1
          have hj2 := HJ.out.2
          by_cases c : q < l0.length
          · have d1 : decide ((q : Int) < (l0.length : Int)) = true := decide_eq_true (by omega)
            have d2 : decide (q < l0.length) = true := decide_eq_true c
            have e1 : wrap64 ((q : Int) + 1) = ((q + 1 : Nat) : Int) := by have := HN.out.2; unfold wrap64; omega
            have E1 := Aside0.mk e1
            clear e1
            cases gk with
            | zero => exact absurd hj2 (by omega)
            | succ k1 =>
              have HJ2 := Aside0.mk (And.intro (show q + 1 ≤ l0.length by omega) (show l0.length - (q + 1) ≤ k1 by omega))
              have hd : (canonOrd l0).drop q = rd (canonOrd l0) (q : Int) :: (canonOrd l0).drop (q + 1) := by
                rw [List.drop_eq_getElem_cons (by rw [canon_ord_len]; exact c)]
                congr 1
                unfold rd
                rw [Int.toNat_natCast, List.getD_eq_getElem?_getD, List.getElem?_eq_getElem (by rw [canon_ord_len]; exact c)]
                rfl
              have h := H.out
              rw [hd] at h
              have hx1 := (Kd.R_reads' HO.out).2.2
              have hln := canon_ord_len l0
              obtain ⟨ad', e, hx2⟩ := Kd.at_int hx1 (q : Int) (by omega) (by omega)
              cases e
              rw [Int.toNat_natCast] at hx2
              obtain ⟨i, hi⟩ : ∃ i, rd (canonOrd l0) (q : Int) = i := ⟨_, rfl⟩
              rw [hi] at h hx2
              obtain ⟨rest, hrest⟩ : ∃ rest, (canonOrd l0).drop (q + 1) = rest := ⟨_, rfl⟩
              rw [hrest] at h
              simp only [canonTail] at h
              by_cases g : 0 ≤ i ∧ i < (l0.length : Int) ∧ i < (out.length : Int) ∧ 0 ≤ wrap64 (12 - rd l0 i) ∧ 0 ≤ rd l0 i
              · rw [if_pos g] at h
                have HRST := Aside0.mk hrest
                have H' := Aside0.mk h
                have HG := Aside0.mk g
                obtain ⟨ad2, e, hx3⟩ := Kd.at_int HR.out i g.1 g.2.1
                cases e
                replace hx3 := (HB.out.cell (World.block_lt_of_cell? w _ hx3)).trans hx3
                have hcell := (blk_cell HX.out 0).trans (show (#[.slice (some ad2) l0.length c0] : Array Value)[0]? = some (.slice (some ad2) l0.length c0) from rfl)
                obtain ⟨n, hn⟩ : ∃ n, rd l0 i = n := ⟨_, rfl⟩
                rw [hn] at hx3
                have HNN := Aside0.mk hn
                have p1 := eq_true (show (0 : Int) ≤ (q : Int) by omega)
                have q1 := eq_true (show (q : Int) < (l0.length : Int) by omega)
                have p2 := eq_true g.1
                have q2 := eq_true g.2.1
                obtain ⟨s, hs⟩ : ∃ s, wrap64 (12 - n) = s := ⟨_, rfl⟩
                have hs0 : 0 ≤ s := by rw [← hs, ← hn]; exact g.2.2.2.1
                obtain ⟨tk, htk⟩ : ∃ tk, shl .i64 1 s = tk := ⟨_, rfl⟩
                replace H' : Aside0 ((if wrap64 (next + tk) > 4096 then some (([] : List ByteArray), false) else (impl_digits.f 20 next 12).bind fun d => if n ≤ (d.size : Int) then canonTail l0 rest (out.set i.toNat (d.extract 0 n.toNat)) (wrap64 (next + tk)) else none) = some (r1, r2)) := by
                  subst htk hs hn
                  exact H'
                have s1 := eq_true hs0
                have s2 : decide (0 ≤ s) = true := decide_eq_true hs0
                have htk_ : (IntKind.i64.wrap (1 * 2 ^ min s.toNat 64)) = tk := htk
                have htkz : s ≤ 64 → (IntKind.i64.wrap (1 * 2 ^ s.toNat)) = tk := shl_small htk
                have htku : (IntKind.i64.wrap (2 ^ min s.toNat 64)) = tk := by have h_ := htk_; rw [Int.one_mul] at h_; exact h_
                have htkv : s ≤ 64 → (IntKind.i64.wrap (2 ^ s.toNat)) = tk := fun hle_ => by have h_ := htkz hle_; rw [Int.one_mul] at h_; exact h_
                have htky : (wrap64 (1 * 2 ^ min s.toNat 64)) = tk := (i64_w _).symm.trans htk_
                have htkx : s ≤ 64 → (wrap64 (1 * 2 ^ s.toNat)) = tk := fun h_ => (i64_w _).symm.trans (htkz h_)
                have htkw : (wrap64 (2 ^ min s.toNat 64)) = tk := (i64_w _).symm.trans htku
                clear hs0 htk
                clear h hj1 hj2 HJ hx1 hln hd hi hrest H c g hn
                go_upto_region 15 with fail
                go_upto_region 16 with fail
                clear s1 s2 htk_ htkz htku htkv htky htkx htkw p1 q1 hx2 hs
                by_cases g2 : wrap64 (next + tk) > 4096
                · have h := H'.out
                  rw [if_pos g2] at h
                  cases h
                  have b1 : decide (wrap64 (next + tk) > 4096) = true := decide_eq_true g2
                  have b2 : decide (4096 < wrap64 (next + tk)) = true := decide_eq_true g2
                  clear g2
                  go_wp2
                  go_ret2
                  exact ⟨_, rfl, Kd.R_nil _ _ _ _ _, HB.out⟩
                · have h := H'.out
                  rw [if_neg g2] at h
                  have b1 : decide (wrap64 (next + tk) > 4096) = false := decide_eq_false g2
                  have b2 : decide (4096 < wrap64 (next + tk)) = false := decide_eq_false g2
                  obtain ⟨dg, hdg, h⟩ := Option.bind_eq_some_iff.1 h
                  by_cases g3 : n ≤ (dg.size : Int)
                  · rw [if_pos g3] at h
                    have H2 := Aside0.mk h
                    have HD := Aside0.mk hdg
                    have n0 : 0 ≤ n := by rw [← HNN.out]; exact HG.out.2.2.2.2
                    clear h hdg g2 H'
                    go_upto_region 18 with fail
                    obtain ⟨m, hm⟩ : ∃ m : Nat, n = (m : Int) := ⟨n.toNat, by omega⟩
                    subst hm
                    obtain ⟨iN, hm⟩ : ∃ m : Nat, i = (m : Int) := ⟨i.toNat, by have := HG.out.1; omega⟩
                    subst hm
                    have g4 : m ≤ dg.size := by omega
                    have m1 := eq_true g4
                    have m2 : decide (m ≤ dg.size) = true := decide_eq_true g4
                    have m3 := eq_true g3
                    have m4 := eq_true n0
                    have hfr := fun (w' : World) (hs : Kd.R Kd.string 9 w' w.heap.size (fun _ => True) (.slice (some ⟨go, 0, none⟩) l0.length co2) out) => Kd.R_celln (⟨#[]⟩ : ByteArray) hs (iN : Int) (by omega) (by have := HG.out; omega)
                    rw [Int.toNat_natCast] at hfr hx3
                    obtain ⟨hf1, hf2⟩ := hfr _ HS.out
                    have HF := Aside0.mk hfr
                    clear g3 n0 hfr g4
                    go_upto_region 18 with fail
                    go_region_with (go_at_call 22; refine (impl_digits.calls 20 next 12 dg _ HD.out).mono ?_; rintro e w2 ⟨rfl, hb2⟩; have hb3 : Below wr.heap.size wr w2 := ⟨hb2.os, hb2.tape, hb2.output, hb2.size, hb2.block⟩; clear hb2; have hcell2 := (hb3.cell (p := ⟨w.heap.size, 0, none⟩) (blk_lt HX.out)).trans hcell; have hx4 := (hb3.cell (World.block_lt_of_cell? wr _ hx3)).trans hx3; obtain ⟨hf3, hf4⟩ := HF.out _ (Kd.R_below HS.out hb3); have HB2 := Aside0.mk hb3; clear hb3)
                    all_goals (go_wp2; go_roundg k1; (case measure => omega); (case rel => obtain ⟨P1, P2, P3, P4⟩ := canon_put (dg.extract 0 m) iN (by have := HL.out; have := HN.out.1; omega) HB.out HB2.out HO.out HS.out HX.out; exact ⟨q + 1, wrap64 (next + tk), out.set iN (dg.extract 0 m), rfl, by rw [E1.out], HJ2, ⟨by rw [List.length_set]; exact HL.out⟩, ⟨by rw [HRST.out]; exact H2.out⟩, ⟨P1⟩, ⟨P2⟩, ⟨P3⟩, ⟨P4⟩⟩))
                  · rw [if_neg g3] at h
                    cases h
              · rw [if_neg g] at h
                cases h
          · have d1 : decide ((q : Int) < (l0.length : Int)) = false := decide_eq_false (by omega)
            have d2 : decide (q < l0.length) = false := decide_eq_false c
            have h := H.out
            rw [List.drop_eq_nil_of_le (by rw [canon_ord_len]; omega), canonTail] at h
            cases h
            clear hj1 hj2 c HJ
            go_wp2
            go_ret2
            exact ⟨_, rfl, HS.out, HB.out⟩


/-! ### laws_eqStringS: function 8 -/
def laws_eqStringS.l0 : Nat → List ByteArray → List ByteArray → Int → Option (Bool)
  | 0, _, _, _ => none
  | k + 1, x0, x1, x5 => if x5 < (x0.length : Int) then (if 0 ≤ x5 then (if x5 < (x1.length : Int) then (if (rdOf ByteArray.empty x0 x5).toList = (rdOf ByteArray.empty x1 x5).toList then (laws_eqStringS.l0 k x0 x1 (wrap64 (x5 + 1))) else (some false)) else (none)) else (none)) else (some true)
def laws_eqStringS.f (k : Nat) (l0 : List ByteArray) (l1 : List ByteArray) : Option (Bool) := if (l0.length : Int) = (l1.length : Int) then (laws_eqStringS.l0 k l0 l1 0) else (some false)
theorem laws_eqStringS.mono_l : ∀ k, (∀ y0 y1 y2, LeO (laws_eqStringS.l0 k y0 y1 y2) (laws_eqStringS.l0 (k + 1) y0 y1 y2))
  | 0 => fun _ _ _ r h => by simp [laws_eqStringS.l0] at h
  | k + 1 => by
    have ih0 := laws_eqStringS.mono_l k
    · intro y0 y1 y2
      unfold laws_eqStringS.l0
      repeat' first
      | (with_reducible exact ih0 _ _ _)
      | (with_reducible exact LeO.refl _)
      | (with_reducible exact LeO.none _)
      | (with_reducible refine LeO.ite ?_ ?_)
      | (with_reducible refine LeO.bind ?_ (fun _ => ?_))
      | exact ih0 _ _ _
      | exact LeO.none _
      | refine LeO.ite ?_ ?_
      | refine LeO.bind ?_ (fun _ => ?_)
theorem laws_eqStringS.mono : ∀ a0 a1 k, LeO (laws_eqStringS.f k a0 a1) (laws_eqStringS.f (k + 1) a0 a1) := by
  intro a0 a1 k
  have ih0 := laws_eqStringS.mono_l k
  unfold laws_eqStringS.f
  repeat' first
      | (with_reducible exact ih0 _ _ _)
      | (with_reducible exact LeO.refl _)
      | (with_reducible exact LeO.none _)
      | (with_reducible refine LeO.ite ?_ ?_)
      | (with_reducible refine LeO.bind ?_ (fun _ => ?_))
      | exact ih0 _ _ _
      | exact LeO.none _
      | refine LeO.ite ?_ ?_
      | refine LeO.bind ?_ (fun _ => ?_)
set_option maxHeartbeats 8000000 in
set_option maxRecDepth 100000 in
theorem laws_eqStringS.calls (k : Nat) (A0 : Option Addr) (c0 : Nat) (l0 : List ByteArray) (A1 : Option Addr) (c1 : Nat) (l1 : List ByteArray) (r : Bool) (w : World) (hr0 : Kd.C Kd.string w A0 l0.length l0) (hc0 : l0.length ≤ c0) (hr1 : Kd.C Kd.string w A1 l1.length l1) (hc1 : l1.length ≤ c1) (h : laws_eqStringS.f k l0 l1 = some r) :
    Calls Try.prog 8 #[.slice A0 l0.length c0, .slice A1 l1.length c1] w fun e w' => e = .returned (.bool r) ∧ Drawn0 w w' := by
  have HR0 := Aside0.mk hr0
  have HC0 := Aside0.mk hc0
  clear hr0 hc0
  have HR1 := Aside0.mk hr1
  have HC1 := Aside0.mk hc1
  clear hr1 hc1
  have H : (if (l0.length : Int) = (l1.length : Int) then (laws_eqStringS.l0 k l0 l1 0) else (some false)) = some r := h
  clear h
  by_cases c3 : (l0.length : Int) = (l1.length : Int)
  · rw [if_pos c3] at H
    have c3b0 : ((l0.length : Int) == (l1.length : Int)) = true := beq_iff_eq.mpr c3
    have c3b1 : ((l0.length : Int) != (l1.length : Int)) = false := bne_eq_false_iff_eq.mpr c3
    have c3b2 : (l0.length == l1.length) = true := by first | simpa using c3 | (simp at c3 ⊢; omega)
    clear c3
    have H' := Aside0.mk H
    clear H
    go_enter Try.func8, Try.ntmps8
    go_wp2
    repeat (go_quiet (fail); try go_wp2)
    go_loopg [5] k (fun kq v5 w' => ∃ (x5_1 : Int), v5 = .int .i64 x5_1 ∧ Aside0 (laws_eqStringS.l0 kq l0 l1 x5_1 = some r) ∧ Aside0 (kq ≤ k) ∧ Drawn0 w w')
    case atStart => exact ⟨(0), (by first | rfl | (simp; done) | (simp [*]; done)), H', ⟨Nat.le_refl _⟩, by repeat (first | exact Drawn0.refl _ | apply Drawn0.step)⟩
    case round =>
      clear H'
      try clear c1
      try clear p2
      try clear c3
      try clear c3b0
      try clear c3b1
      try clear c3b2
      obtain ⟨x5_1, rfl, HA, HK1, ⟨m1, rfl⟩⟩ := hrel
      cases gk with
      | zero => exact absurd HA.out (by simp [laws_eqStringS.l0])
      | succ k1 =>
        have H := HA.out
        clear HA
        simp only [laws_eqStringS.l0] at H
        by_cases c4 : x5_1 < (l0.length : Int)
        · rw [if_pos c4] at H
          have c4b0 : decide (x5_1 < (l0.length : Int)) = true := decide_eq_true c4
          clear c4
          by_cases c5 : 0 ≤ x5_1
          · rw [if_pos c5] at H
            have c5b0 : decide (0 ≤ x5_1) = true := decide_eq_true c5
            clear c5
            by_cases c6 : x5_1 < (l1.length : Int)
            · rw [if_pos c6] at H
              have c6b0 : decide (x5_1 < (l1.length : Int)) = true := decide_eq_true c6
              clear c6
              by_cases c7 : (rdOf ByteArray.empty l0 x5_1).toList = (rdOf ByteArray.empty l1 x5_1).toList
              · rw [if_pos c7] at H
                have c7b0 : ((rdOf ByteArray.empty l0 x5_1).toList == (rdOf ByteArray.empty l1 x5_1).toList) = true := beq_iff_eq.mpr c7
                have c7b1 : ((rdOf ByteArray.empty l0 x5_1).toList != (rdOf ByteArray.empty l1 x5_1).toList) = false := bne_eq_false_iff_eq.mpr c7
                clear c7
                have H' := Aside0.mk H
                clear H
                have p142 : 0 ≤ (x5_1 : Int) := of_decide_eq_true (by first | (with_reducible assumption) | assumption)
                have q142 : x5_1 < (l0.length : Int) := of_decide_eq_true (by first | (with_reducible assumption) | assumption)
                obtain ⟨ad142, e142, hx142_0⟩ := Kd.at_string HR0.out x5_1 p142 q142
                cases e142
                replace p142 := eq_true p142
                replace q142 := eq_true q142
                have p143 : 0 ≤ (x5_1 : Int) := of_decide_eq_true (by first | (with_reducible assumption) | assumption)
                have q143 : x5_1 < (l1.length : Int) := of_decide_eq_true (by first | (with_reducible assumption) | assumption)
                obtain ⟨ad143, e143, hx143_0⟩ := Kd.at_string HR1.out x5_1 p143 q143
                cases e143
                replace p143 := eq_true p143
                replace q143 := eq_true q143
                go_wp2
                repeat (go_quiet (fail); try go_wp2)
                go_roundg k1
                case measure => have := HK1.out; omega
                case rel => exact ⟨(wrap64 (x5_1 + 1)), (by first | rfl | (simp; done) | (simp [*]; done)), H', ⟨by have := HK1.out; omega⟩, by repeat (first | exact Drawn0.refl _ | apply Drawn0.step)⟩
              · rw [if_neg c7] at H
                have c7b0 : ((rdOf ByteArray.empty l0 x5_1).toList == (rdOf ByteArray.empty l1 x5_1).toList) = false := beq_eq_false_iff_ne.mpr c7
                have c7b1 : ((rdOf ByteArray.empty l0 x5_1).toList != (rdOf ByteArray.empty l1 x5_1).toList) = true := bne_iff_ne.mpr c7
                obtain rfl := Option.some.inj H
                have p142 : 0 ≤ (x5_1 : Int) := of_decide_eq_true (by first | (with_reducible assumption) | assumption)
                have q142 : x5_1 < (l0.length : Int) := of_decide_eq_true (by first | (with_reducible assumption) | assumption)
                obtain ⟨ad142, e142, hx142_0⟩ := Kd.at_string HR0.out x5_1 p142 q142
                cases e142
                replace p142 := eq_true p142
                replace q142 := eq_true q142
                have p143 : 0 ≤ (x5_1 : Int) := of_decide_eq_true (by first | (with_reducible assumption) | assumption)
                have q143 : x5_1 < (l1.length : Int) := of_decide_eq_true (by first | (with_reducible assumption) | assumption)
                obtain ⟨ad143, e143, hx143_0⟩ := Kd.at_string HR1.out x5_1 p143 q143
                cases e143
                replace p143 := eq_true p143
                replace q143 := eq_true q143
                go_wp2
                repeat (go_quiet (fail); try go_wp2)
                go_ret
                exact ⟨by first | rfl | (simp; done) | (simp [*]; done), by repeat (first | exact Drawn0.refl _ | apply Drawn0.step)⟩
            · rw [if_neg c6] at H
              exact absurd H (by simp)
          · rw [if_neg c5] at H
            exact absurd H (by simp)
        · rw [if_neg c4] at H
          have c4b0 : decide (x5_1 < (l0.length : Int)) = false := decide_eq_false c4
          clear c4
          obtain rfl := Option.some.inj H
          go_wp2
          repeat (go_quiet (fail); try go_wp2)
          go_ret
          exact ⟨by first | rfl | (simp; done) | (simp [*]; done), by repeat (first | exact Drawn0.refl _ | apply Drawn0.step)⟩
  · rw [if_neg c3] at H
    have c3b0 : ((l0.length : Int) == (l1.length : Int)) = false := beq_eq_false_iff_ne.mpr c3
    have c3b1 : ((l0.length : Int) != (l1.length : Int)) = true := bne_iff_ne.mpr c3
    have c3b2 : (l0.length == l1.length) = false := by first | simpa using c3 | (simp at c3 ⊢; omega)
    obtain rfl := Option.some.inj H
    go_enter Try.func8, Try.ntmps8
    go_wp2
    repeat (go_quiet (fail); try go_wp2)
    go_ret
    exact ⟨by first | rfl | (simp; done) | (simp [*]; done), by repeat (first | exact Drawn0.refl _ | apply Drawn0.step)⟩

/-! ### laws_eqInt64S: function 9 -/
def laws_eqInt64S.l0 : Nat → List Int → List Int → Int → Option (Bool)
  | 0, _, _, _ => none
  | k + 1, x0, x1, x5 => if x5 < (x0.length : Int) then (if 0 ≤ x5 then (if x5 < (x1.length : Int) then (if (rd x0 x5) = (rd x1 x5) then (laws_eqInt64S.l0 k x0 x1 (wrap64 (x5 + 1))) else (some false)) else (none)) else (none)) else (some true)
def laws_eqInt64S.f (k : Nat) (l0 : List Int) (l1 : List Int) : Option (Bool) := if (l0.length : Int) = (l1.length : Int) then (laws_eqInt64S.l0 k l0 l1 0) else (some false)
theorem laws_eqInt64S.mono_l : ∀ k, (∀ y0 y1 y2, LeO (laws_eqInt64S.l0 k y0 y1 y2) (laws_eqInt64S.l0 (k + 1) y0 y1 y2))
  | 0 => fun _ _ _ r h => by simp [laws_eqInt64S.l0] at h
  | k + 1 => by
    have ih0 := laws_eqInt64S.mono_l k
    · intro y0 y1 y2
      unfold laws_eqInt64S.l0
      repeat' first
      | (with_reducible exact ih0 _ _ _)
      | (with_reducible exact LeO.refl _)
      | (with_reducible exact LeO.none _)
      | (with_reducible refine LeO.ite ?_ ?_)
      | (with_reducible refine LeO.bind ?_ (fun _ => ?_))
      | exact ih0 _ _ _
      | exact LeO.none _
      | refine LeO.ite ?_ ?_
      | refine LeO.bind ?_ (fun _ => ?_)
theorem laws_eqInt64S.mono : ∀ a0 a1 k, LeO (laws_eqInt64S.f k a0 a1) (laws_eqInt64S.f (k + 1) a0 a1) := by
  intro a0 a1 k
  have ih0 := laws_eqInt64S.mono_l k
  unfold laws_eqInt64S.f
  repeat' first
      | (with_reducible exact ih0 _ _ _)
      | (with_reducible exact LeO.refl _)
      | (with_reducible exact LeO.none _)
      | (with_reducible refine LeO.ite ?_ ?_)
      | (with_reducible refine LeO.bind ?_ (fun _ => ?_))
      | exact ih0 _ _ _
      | exact LeO.none _
      | refine LeO.ite ?_ ?_
      | refine LeO.bind ?_ (fun _ => ?_)
set_option maxHeartbeats 8000000 in
set_option maxRecDepth 100000 in
theorem laws_eqInt64S.calls (k : Nat) (A0 : Option Addr) (c0 : Nat) (l0 : List Int) (A1 : Option Addr) (c1 : Nat) (l1 : List Int) (r : Bool) (w : World) (hr0 : Kd.C (Kd.int .i64) w A0 l0.length l0) (hc0 : l0.length ≤ c0) (hr1 : Kd.C (Kd.int .i64) w A1 l1.length l1) (hc1 : l1.length ≤ c1) (h : laws_eqInt64S.f k l0 l1 = some r) :
    Calls Try.prog 9 #[.slice A0 l0.length c0, .slice A1 l1.length c1] w fun e w' => e = .returned (.bool r) ∧ Drawn0 w w' := by
  have HR0 := Aside0.mk hr0
  have HC0 := Aside0.mk hc0
  clear hr0 hc0
  have HR1 := Aside0.mk hr1
  have HC1 := Aside0.mk hc1
  clear hr1 hc1
  have H : (if (l0.length : Int) = (l1.length : Int) then (laws_eqInt64S.l0 k l0 l1 0) else (some false)) = some r := h
  clear h
  by_cases c3 : (l0.length : Int) = (l1.length : Int)
  · rw [if_pos c3] at H
    have c3b0 : ((l0.length : Int) == (l1.length : Int)) = true := beq_iff_eq.mpr c3
    have c3b1 : ((l0.length : Int) != (l1.length : Int)) = false := bne_eq_false_iff_eq.mpr c3
    have c3b2 : (l0.length == l1.length) = true := by first | simpa using c3 | (simp at c3 ⊢; omega)
    clear c3
    have H' := Aside0.mk H
    clear H
    go_enter Try.func9, Try.ntmps9
    go_wp2
    repeat (go_quiet (fail); try go_wp2)
    go_loopg [5] k (fun kq v5 w' => ∃ (x5_1 : Int), v5 = .int .i64 x5_1 ∧ Aside0 (laws_eqInt64S.l0 kq l0 l1 x5_1 = some r) ∧ Aside0 (kq ≤ k) ∧ Drawn0 w w')
    case atStart => exact ⟨(0), (by first | rfl | (simp; done) | (simp [*]; done)), H', ⟨Nat.le_refl _⟩, by repeat (first | exact Drawn0.refl _ | apply Drawn0.step)⟩
    case round =>
      clear H'
      try clear c1
      try clear p2
      try clear c3
      try clear c3b0
      try clear c3b1
      try clear c3b2
      obtain ⟨x5_1, rfl, HA, HK1, ⟨m1, rfl⟩⟩ := hrel
      cases gk with
      | zero => exact absurd HA.out (by simp [laws_eqInt64S.l0])
      | succ k1 =>
        have H := HA.out
        clear HA
        simp only [laws_eqInt64S.l0] at H
        by_cases c4 : x5_1 < (l0.length : Int)
        · rw [if_pos c4] at H
          have c4b0 : decide (x5_1 < (l0.length : Int)) = true := decide_eq_true c4
          clear c4
          by_cases c5 : 0 ≤ x5_1
          · rw [if_pos c5] at H
            have c5b0 : decide (0 ≤ x5_1) = true := decide_eq_true c5
            clear c5
            by_cases c6 : x5_1 < (l1.length : Int)
            · rw [if_pos c6] at H
              have c6b0 : decide (x5_1 < (l1.length : Int)) = true := decide_eq_true c6
              clear c6
              by_cases c7 : (rd l0 x5_1) = (rd l1 x5_1)
              · rw [if_pos c7] at H
                have c7b0 : ((rd l0 x5_1) == (rd l1 x5_1)) = true := beq_iff_eq.mpr c7
                have c7b1 : ((rd l0 x5_1) != (rd l1 x5_1)) = false := bne_eq_false_iff_eq.mpr c7
                clear c7
                have H' := Aside0.mk H
                clear H
                have p144 : 0 ≤ (x5_1 : Int) := of_decide_eq_true (by first | (with_reducible assumption) | assumption)
                have q144 : x5_1 < (l0.length : Int) := of_decide_eq_true (by first | (with_reducible assumption) | assumption)
                obtain ⟨ad144, e144, hx144_0⟩ := Kd.at_int HR0.out x5_1 p144 q144
                cases e144
                replace p144 := eq_true p144
                replace q144 := eq_true q144
                have p145 : 0 ≤ (x5_1 : Int) := of_decide_eq_true (by first | (with_reducible assumption) | assumption)
                have q145 : x5_1 < (l1.length : Int) := of_decide_eq_true (by first | (with_reducible assumption) | assumption)
                obtain ⟨ad145, e145, hx145_0⟩ := Kd.at_int HR1.out x5_1 p145 q145
                cases e145
                replace p145 := eq_true p145
                replace q145 := eq_true q145
                go_wp2
                repeat (go_quiet (fail); try go_wp2)
                go_roundg k1
                case measure => have := HK1.out; omega
                case rel => exact ⟨(wrap64 (x5_1 + 1)), (by first | rfl | (simp; done) | (simp [*]; done)), H', ⟨by have := HK1.out; omega⟩, by repeat (first | exact Drawn0.refl _ | apply Drawn0.step)⟩
              · rw [if_neg c7] at H
                have c7b0 : ((rd l0 x5_1) == (rd l1 x5_1)) = false := beq_eq_false_iff_ne.mpr c7
                have c7b1 : ((rd l0 x5_1) != (rd l1 x5_1)) = true := bne_iff_ne.mpr c7
                obtain rfl := Option.some.inj H
                have p144 : 0 ≤ (x5_1 : Int) := of_decide_eq_true (by first | (with_reducible assumption) | assumption)
                have q144 : x5_1 < (l0.length : Int) := of_decide_eq_true (by first | (with_reducible assumption) | assumption)
                obtain ⟨ad144, e144, hx144_0⟩ := Kd.at_int HR0.out x5_1 p144 q144
                cases e144
                replace p144 := eq_true p144
                replace q144 := eq_true q144
                have p145 : 0 ≤ (x5_1 : Int) := of_decide_eq_true (by first | (with_reducible assumption) | assumption)
                have q145 : x5_1 < (l1.length : Int) := of_decide_eq_true (by first | (with_reducible assumption) | assumption)
                obtain ⟨ad145, e145, hx145_0⟩ := Kd.at_int HR1.out x5_1 p145 q145
                cases e145
                replace p145 := eq_true p145
                replace q145 := eq_true q145
                go_wp2
                repeat (go_quiet (fail); try go_wp2)
                go_ret
                exact ⟨by first | rfl | (simp; done) | (simp [*]; done), by repeat (first | exact Drawn0.refl _ | apply Drawn0.step)⟩
            · rw [if_neg c6] at H
              exact absurd H (by simp)
          · rw [if_neg c5] at H
            exact absurd H (by simp)
        · rw [if_neg c4] at H
          have c4b0 : decide (x5_1 < (l0.length : Int)) = false := decide_eq_false c4
          clear c4
          obtain rfl := Option.some.inj H
          go_wp2
          repeat (go_quiet (fail); try go_wp2)
          go_ret
          exact ⟨by first | rfl | (simp; done) | (simp [*]; done), by repeat (first | exact Drawn0.refl _ | apply Drawn0.step)⟩
  · rw [if_neg c3] at H
    have c3b0 : ((l0.length : Int) == (l1.length : Int)) = false := beq_eq_false_iff_ne.mpr c3
    have c3b1 : ((l0.length : Int) != (l1.length : Int)) = true := bne_iff_ne.mpr c3
    have c3b2 : (l0.length == l1.length) = false := by first | simpa using c3 | (simp at c3 ⊢; omega)
    obtain rfl := Option.some.inj H
    go_enter Try.func9, Try.ntmps9
    go_wp2
    repeat (go_quiet (fail); try go_wp2)
    go_ret
    exact ⟨by first | rfl | (simp; done) | (simp [*]; done), by repeat (first | exact Drawn0.refl _ | apply Drawn0.step)⟩

/-! ### laws_markInt64S: function 10 -/
def laws_markInt64S.l0 : Nat → List Int → Int → Int → Option (Int × List Int)
  | 0, _, _, _ => none
  | k + 1, x0, x1, x5 => if x5 < (x0.length : Int) then (if 0 ≤ x5 then (laws_markInt64S.l0 k (x0.set (x5 : Int).toNat x1) (wrap64 (x1 + 1)) (wrap64 (x5 + 1))) else (none)) else (some (x1, x0))
def laws_markInt64S.f (k : Nat) (l0 : List Int) (a1 : Int) : Option (Int × List Int) := laws_markInt64S.l0 k l0 a1 0
theorem laws_markInt64S.mono_l : ∀ k, (∀ y0 y1 y2, LeO (laws_markInt64S.l0 k y0 y1 y2) (laws_markInt64S.l0 (k + 1) y0 y1 y2))
  | 0 => fun _ _ _ r h => by simp [laws_markInt64S.l0] at h
  | k + 1 => by
    have ih0 := laws_markInt64S.mono_l k
    · intro y0 y1 y2
      unfold laws_markInt64S.l0
      repeat' first
      | (with_reducible exact ih0 _ _ _)
      | (with_reducible exact LeO.refl _)
      | (with_reducible exact LeO.none _)
      | (with_reducible refine LeO.ite ?_ ?_)
      | (with_reducible refine LeO.bind ?_ (fun _ => ?_))
      | exact ih0 _ _ _
      | exact LeO.none _
      | refine LeO.ite ?_ ?_
      | refine LeO.bind ?_ (fun _ => ?_)
theorem laws_markInt64S.mono : ∀ a0 a1 k, LeO (laws_markInt64S.f k a0 a1) (laws_markInt64S.f (k + 1) a0 a1) := by
  intro a0 a1 k
  have ih0 := laws_markInt64S.mono_l k
  unfold laws_markInt64S.f
  repeat' first
      | (with_reducible exact ih0 _ _ _)
      | (with_reducible exact LeO.refl _)
      | (with_reducible exact LeO.none _)
      | (with_reducible refine LeO.ite ?_ ?_)
      | (with_reducible refine LeO.bind ?_ (fun _ => ?_))
      | exact ih0 _ _ _
      | exact LeO.none _
      | refine LeO.ite ?_ ?_
      | refine LeO.bind ?_ (fun _ => ?_)
set_option maxHeartbeats 8000000 in
set_option maxRecDepth 100000 in
theorem laws_markInt64S.calls (k : Nat) (P0_ : Nat → Prop) (u9000_ : Value) (l0 : List Int) (a1 : Int) (r1 : Int) (r2 : List Int) (w0 w : World) (hB : Below w0.heap.size w0 w) (ho0 : Kd.R (Kd.int .i64) 2 w w0.heap.size P0_ u9000_ l0) (h : laws_markInt64S.f k l0 a1 = some (r1, r2)) :
    Calls Try.prog 10 #[u9000_, .int .i64 a1] w fun e w' => e = .returned (.int .i64 r1) ∧ Kd.R (Kd.int .i64) 2 w' w0.heap.size (fun k_ => (P0_ k_ ∨ w.heap.size ≤ k_)) u9000_ r2 ∧ Below w0.heap.size w0 w' ∧ Kept w w' (fun k_ => P0_ k_) := by
  have HO0 := Aside0.mk (show Kd.R (Kd.int .i64) 2 w w0.heap.size (fun k_ => (P0_ k_ ∨ w.heap.size ≤ k_)) u9000_ l0 from Kd.R_mono ho0 (fun k_ hk => (.inl hk)))
  have HK := Aside0.mk (Kept.refl w (fun k_ => P0_ k_))
  have HW0 := Aside0.mk hB.size
  have HB := Aside0.mk hB
  clear hB
  have H : (laws_markInt64S.l0 k l0 a1 0) = some (r1, r2) := h
  clear h
  have H' := Aside0.mk H
  clear H
  go_enter Try.func10, Try.ntmps10
  go_wp2
  go_loopg [1, 5] k (fun kq v1 v5 w' => ∃ (x0_1 : List Int) (x1_1 : Int) (x5_1 : Int), v1 = .int .i64 x1_1 ∧ v5 = .int .i64 x5_1 ∧ Aside0 (laws_markInt64S.l0 kq x0_1 x1_1 x5_1 = some (r1, r2)) ∧ Aside0 (kq ≤ k) ∧ Aside0 (Kd.R (Kd.int .i64) 2 w' w0.heap.size (fun k_ => (P0_ k_ ∨ w.heap.size ≤ k_)) u9000_ x0_1) ∧ Aside0 (Kept w w' (fun k_ => P0_ k_)) ∧ Aside0 (Below w0.heap.size w0 w'))
  case atStart => exact ⟨(l0), (a1), (0), (by first | rfl | (simp; done) | (simp [*]; done)), (by first | rfl | (simp; done) | (simp [*]; done)), H', ⟨Nat.le_refl _⟩, ⟨by (with_reducible repeat (first | apply Kd.R_alloc | apply Kd.R_drewN | apply Kd.R_drew)); exact HO0.out⟩, ⟨by repeat (first | (with_reducible first | exact HK.out | apply Kept.alloc | apply Kept.drewN | apply Kept.drew) | exact HK.out)⟩, ⟨by repeat (first | (with_reducible first | exact HB.out | apply below_alloc | apply pw_below_drewN | apply below_drew1) | exact HB.out)⟩⟩
  case round =>
    clear H'
    try clear c1
    try clear p2
    obtain ⟨x0_1, x1_1, x5_1, rfl, rfl, HA, HK1, HO_0, HK, HB⟩ := hrel
    cases gk with
    | zero => exact absurd HA.out (by simp [laws_markInt64S.l0])
    | succ k1 =>
      have H := HA.out
      clear HA
      simp only [laws_markInt64S.l0] at H
      by_cases c3 : x5_1 < (x0_1.length : Int)
      · rw [if_pos c3] at H
        have c3b0 : decide (x5_1 < (x0_1.length : Int)) = true := decide_eq_true c3
        clear c3
        by_cases c4 : 0 ≤ x5_1
        · rw [if_pos c4] at H
          have c4b0 : decide (0 ≤ x5_1) = true := decide_eq_true c4
          clear c4
          obtain ⟨y146, hy146⟩ : ∃ y_ : List Int, y_ = (x0_1.set (x5_1 : Int).toNat x1_1) := ⟨_, rfl⟩
          replace H : (laws_markInt64S.l0 k1 y146 (wrap64 (x1_1 + 1)) (wrap64 (x5_1 + 1))) = some (r1, r2) := by first | (rw [hy146]; with_reducible exact H) | (have H2_ := (Option.bind_some _ _).symm.trans H; rw [hy146]; with_reducible exact H2_) | (have H2_ := (Option.bind_some _ _).symm.trans H; with_reducible exact H2_) | with_reducible exact H | (rw [hy146]; exact H) | exact H
          have Ny146 := Aside0.mk hy146
          clear hy146
          have H' := Aside0.mk H
          clear H
          obtain ⟨Ao6, co6, eo6⟩ := Kd.R_slice HO_0.out
          subst eo6
          have p5 : 0 ≤ (x5_1 : Int) := of_decide_eq_true (by first | (with_reducible assumption) | assumption)
          have q5 : (x5_1 : Int) < ((x0_1.length : Int) : Int) := of_decide_eq_true (by first | (with_reducible assumption) | assumption)
          obtain ⟨go5, co5, eo5, gb5, gl5, cl5, HG5⟩ := Kd.R_form HO_0.out (by omega)
          (first | cases eo5 | (injection eo5 with ea_ en_ ec_; (first | subst ea_ | (injection ea_ with ea_; subst ea_)); subst ec_; clear en_))
          have GB5 := Aside0.mk gb5
          have GG5 := Aside0.mk HG5
          clear gb5 gl5 HG5
          have HMgo5 := Aside0.mk (show (P0_ go5 ∨ w.heap.size ≤ go5) from (HO_0.out.1 _ rfl))
          obtain ⟨hx5_0, hf5_0⟩ := Kd.R_celln 0 HO_0.out (x5_1 : Int) p5 q5
          replace p5 := eq_true p5
          replace q5 := eq_true q5
          have HP7 := Kd.R_putg HO_0.out (x5_1 : Int) x1_1
          go_wp2_with (first | ((with_reducible refine gate_store (t := 2) (p := 15) rfl ?_); refine store_event (t := 2) (p := 15) (v := ?vo_w8) (w1 := (wr.setCell ⟨go5, (x5_1 : Int).toNat, none⟩ (.int .i64 x1_1))) ?hg ?ho ?hn ?hr ?_; (case ho => rfl); (case hg => rfl); (case hn => rfl); (case hr => first | (go_simp; done) | (go_simp; rfl)); intro w8 hw; have hg : wr.grownBy w8 (some go5) := (by rw [hw]; exact HP7.2); have hp_ : Kd.R (Kd.int .i64) 2 w8 w0.heap.size (fun k_ => (P0_ k_ ∨ w.heap.size ≤ k_)) (.slice (some ⟨go5, 0, none⟩) x0_1.length co6) y146 := (by rw [hw, Ny146.out]; exact HP7.1); clear HP7; have n0_ := Aside0.mk (hp_); have n1_ := Aside0.mk ((by rw [hw]; exact below_set (HB.out) GB5.out : Below w0.heap.size w0 w8)); have n2_ := Aside0.mk (Kept.of_grown (S := (fun k_ => P0_ k_)) hg (by repeat (first | (with_reducible first | exact HK.out | apply Kept.alloc | apply Kept.drewN | apply Kept.drew) | exact HK.out)) (fun k_ e_ => (HO_0.out.1 k_ e_))); clear HO_0; clear HB; clear HK; have HO_0 := n0_; have HB := n1_; have HK := n2_; clear n0_ n1_ n2_; clear hg hw hp_))
          go_roundg k1
          case measure => have := HK1.out; omega
          case rel => exact ⟨(y146), (wrap64 (x1_1 + 1)), (wrap64 (x5_1 + 1)), (by first | rfl | (simp; done) | (simp [*]; done)), (by first | rfl | (simp; done) | (simp [*]; done)), H', ⟨by have := HK1.out; omega⟩, ⟨by (with_reducible repeat (first | apply Kd.R_alloc | apply Kd.R_drewN | apply Kd.R_drew)); exact HO_0.out⟩, ⟨by repeat (first | (with_reducible first | exact HK.out | apply Kept.alloc | apply Kept.drewN | apply Kept.drew) | exact HK.out)⟩, ⟨by repeat (first | (with_reducible first | exact HB.out | apply below_alloc | apply pw_below_drewN | apply below_drew1) | exact HB.out)⟩⟩
        · rw [if_neg c4] at H
          exact absurd H (by simp)
      · rw [if_neg c3] at H
        have c3b0 : decide (x5_1 < (x0_1.length : Int)) = false := decide_eq_false c3
        clear c3
        simp only [Option.some.injEq, Prod.mk.injEq] at H
        obtain ⟨rfl, rfl⟩ := H
        obtain ⟨Ao9, co9, eo9⟩ := Kd.R_slice HO_0.out
        subst eo9
        go_wp2
        go_ret
        exact ⟨by first | rfl | (simp [errW_none, errW_some] <;> rfl) | (simp [*, errW_none, errW_some] <;> rfl), by (with_reducible repeat (first | apply Kd.R_alloc | apply Kd.R_drewN | apply Kd.R_drew)); exact HO_0.out, by repeat (first | (with_reducible first | exact HB.out | apply below_alloc | apply pw_below_drewN | apply below_drew1) | exact HB.out), by repeat (first | (with_reducible first | exact HK.out | apply Kept.alloc | apply Kept.drewN | apply Kept.drew) | exact HK.out)⟩

end Go.Proofs.Ytkpobdcnggdjaaa.PFnExactCanonicalWords
