/-  Rows of bytes that the call owns, of which a row that '[]byte(s)' has made is one (its mark lies behind its last cell): reading, keeping, appending one byte; and slices.Reverse over such a row. My own; no conditions. -/
import Derived.Test.YtondkjcmibnbpaaDoorWWords
import Derived.Test.YtondkjcmibnbpaaDoorWLast
import Derived.Test.YtondkjcmibnbpaaDoorWMore
import Derived.Lib.ConvBytes
import Derived.Lib.AppendStr
import Derived.Shelf.Slices.Reverse
namespace Go.Proofs.YtondkjcmibnbpaaDoorW.PrintMore
open Go.RowKit Go.Proofs.YtondkjcmibnbpaaDoorW.PrintWords Go.Proofs.YtondkjcmibnbpaaDoorW.PrintLast
set_option linter.unusedVariables false
set_option linter.unusedSimpArgs false

/-- A string appended to a row of bytes, as one step of a region that draws. -/
theorem print_append_str_step {P : Program} {ops : Array Oper} {o : Oper} {a : Act} {Q : Exit → Act → World → Prop} {Kc : Act → World → Prop} {w0 W : World} (base : Nat) (hw : Region.wanted o (yielded ops a.tmps) = true) (s x : Operand) (t u e : TypeId)
    (ho : o.op = .call { callee := .builtin .append, args := #[s, x], argTypes := #[t, u] })
    (ht : P.underlying t = some (.slice e)) (hu : P.underlying u = some .string) (hinfo : (P.info? e).map (fun i => (i.zero, i.size, i.bytes)) = some (some (.int .u8 0), 1, 1))
    (v : Value) (xs : List Int) (y : ByteArray) (hs : a.eval s = v) (hx : a.eval x = .string y)
    (HO : W.ownsRow base e 1 v xs.length (nums .u8 xs)) (HB : Below base w0 W) (hbase : base ≤ W.heap.size) (hl : xs.length + y.size ≤ 140737488355328)
    (h : ∀ v1 w1, w1.ownsRow base e 1 v1 (xs ++ bytesOf y).length (nums .u8 (xs ++ bytesOf y)) → Below base w0 w1 → W.grownBy w1 v.ownBlock → Kc (a.put o.dst v1) w1) :
    if Region.wanted o (yielded ops a.tmps) = true then Oper.wp P o a W Kc Q else Kc (a.put o.dst undef) W := by
  rw [if_pos hw]
  obtain ⟨i0, hi, hzz⟩ := Option.map_eq_some_iff.1 hinfo
  simp only [Prod.mk.injEq] at hzz
  obtain ⟨hz0, hz1, hz2⟩ := hzz
  obtain ⟨v1, w1, hr, h2, h3, _⟩ := Lib.run_append_own_string (P := P) W base t u o.type e i0 ht hu hi hz0 hz1 hz2 v xs.length (nums .u8 xs) HO y (by simp only [maxLen]; omega) hl hbase
  have hl2 : (xs ++ bytesOf y).length = xs.length + y.size := by rw [List.length_append, bytesOf_length]
  have hc : nums .u8 (xs ++ bytesOf y) = nums .u8 xs ++ Lib.strCells y := by
    rw [nums_append]
    congr 1
    simp [nums, bytesOf, Lib.strCells]
  unfold Oper.wp execOp
  simp only [ho, resolve, invoke, builtin, Sem.run_bind, Sem.run_pure, Result.andThen_ok, List.map_toArray, List.map_cons, List.map_nil, hs, hx, hr]
  exact h v1 w1 (by rw [hl2, hc]; exact h2) (HB.grown h3 hbase (own_base HO)) h3
def OwnG (w : World) (base : Nat) (e : TypeId) (v : Value) (n : Nat) (xs : List Value) : Prop :=
  xs.length = n ∧ ((v = .slice none 0 0 ∧ n = 0) ∨
   ∃ g cap cur fz, v = .slice (some ⟨g, 0, none⟩) n cap ∧ base ≤ g ∧ w.heap[g]? = some (.cells cur e fz) ∧ (fz = (0, 0) ∨ fz = (cap, cap + 1)) ∧ n ≤ cap ∧ cap ≤ maxLen ∧ cur.size = cap ∧ cur.toList.take n = xs)
def Gd.R (d : Kd Int) (e : Nat) (w : World) (base : Nat) (ok : Nat → Prop) (v : Value) (xs : List Int) : Prop :=
  (∀ k, v.ownBlock = some k → ok k) ∧ OwnG w base e v xs.length (encs (Value.int .u8) xs)

namespace Gd
section
variable {d : Kd Int} {e : Nat} {w w1 W : World} {base b : Nat} {ok ok' : Nat → Prop} {v u : Value} {xs ys : List Int}
theorem of_own {n : Nat} {cs : List Value} (h : w.ownsRow base e 1 v n cs) : OwnG w base e v n cs := by
  refine ⟨by simpa using h.1, ?_⟩
  rcases h.2 with h2 | ⟨g, cap, cur, rfl, h3, h4, h5, h6, h7, h8⟩
  · exact .inl h2
  · exact .inr ⟨g, cap, cur, (0, 0), rfl, h3, h4, .inl rfl, h5, h6, by simpa using h7, by simpa using h8⟩
theorem of_Kd (h : (Kd.int .u8).R e w base ok v xs) : R d e w base ok v xs := ⟨h.1, of_own (Kd.own_of_R h)⟩
theorem R_mono (h : R d e w base ok v xs) (hok : ∀ k, ok k → ok' k) : R d e w base ok' v xs := ⟨fun k hk => hok k (h.1 k hk), h.2⟩
theorem at_ (h : R d e w base ok v xs) : ∀ k, v.ownBlock = some k → base ≤ k ∧ k < w.heap.size ∧ ∃ cs fz, w.heap[k]? = some (.cells cs e fz) := by
  intro k hk
  rcases h.2.2 with ⟨rfl, _⟩ | ⟨g, cap, cur, fz, rfl, h3, h4, _⟩
  · simp [Value.ownBlock] at hk
  · simp [Value.ownBlock] at hk
    subst hk
    exact ⟨h3, (Array.getElem?_eq_some_iff.1 h4).1, _, _, h4⟩
theorem R_lt (h : R d e w base ok v xs) : ∀ k, v.ownBlock = some k → k < w.heap.size := fun k hk => (at_ h k hk).2.1
theorem R_base (h : R d e w base ok v xs) : ∀ k, v.ownBlock = some k → base ≤ k := fun k hk => (at_ h k hk).1
theorem R_kept (h : R d e w base ok v xs) (hm : ∀ k, v.ownBlock = some k → w1.heap[k]? = w.heap[k]?) : R d e w1 base ok v xs := by
  refine ⟨h.1, h.2.1, ?_⟩
  rcases h.2.2 with h2 | ⟨g, cap, cur, fz, rfl, h3, h4, r⟩
  · exact .inl h2
  · exact .inr ⟨g, cap, cur, fz, rfl, h3, by rw [hm g (by simp [Value.ownBlock])]; exact h4, r⟩
theorem R_below (h : R d e w base ok v xs) (hb : Below w.heap.size w w1) : R d e w1 base ok v xs := R_kept h (fun k hk => hb.block k (R_lt h k hk))
theorem R_alloc (h : R d e w base ok v xs) (o : Obj) : R d e (w.alloc o) base ok v xs := R_below h (below_alloc (Below.refl _ _) o)
theorem R_drew (h : R d e w base ok v xs) : R d e w.drew base ok v xs := R_below h (below_drew (Below.refl _ _))
theorem R_drewN (h : R d e w base ok v xs) (m : Nat) : R d e (w.drewN m) base ok v xs := R_below h (pw_below_drewN (Below.refl _ _) m)
theorem R_lower {base' : Nat} (h : R d e w base ok v xs) (hb : base' ≤ base) : R d e w base' ok v xs := by
  refine ⟨h.1, h.2.1, ?_⟩
  rcases h.2.2 with h2 | ⟨g, cap, cur, fz, rfl, h3, r⟩
  · exact .inl h2
  · exact .inr ⟨g, cap, cur, fz, rfl, Nat.le_trans hb h3, r⟩
theorem R_ne (h : R d e w base ok v xs) {g t : Nat} {cells : Array Value} (hb : w.heap[g]? = some (.cells cells t (0, 0))) (ht : e ≠ t) : some g ≠ v.ownBlock := by
  intro he
  obtain ⟨_, _, cs, fz, hc⟩ := at_ h g he.symm
  rw [hb] at hc
  injection hc with hc
  injection hc with _ hc
  exact ht hc.symm
theorem C_of (h : R d e w base ok v xs) : ∃ A c, v = .slice A xs.length c ∧ xs.length ≤ c ∧ (Kd.int .u8).C w A xs.length xs := by
  rcases h.2.2 with ⟨h1, h2⟩ | ⟨g, cap, cur, fz, h1, h3, h4, h5, h6, h7, h8, h9⟩
  · have : xs = [] := List.eq_nil_of_length_eq_zero h2
    subst this
    exact ⟨none, 0, h1, Nat.le_refl _, Kd.C_nil _ _⟩
  · refine ⟨_, cap, h1, h6, rfl, by simp only [maxLen] at h7; omega, fun _ => ⟨_, rfl, fun j p hj => ⟨[Value.int .u8 p], rfl, rfl, fun i u hu => ?_⟩⟩⟩
    match i, hu with
    | 0, hu =>
      have hu' : Value.int .u8 p = u := by simpa using hu
      subst hu'
      have hadd : (⟨g, 0, none⟩ : Addr).add (j * 1 + 0) = ⟨g, j, none⟩ := by unfold Addr.add; split <;> simp_all
      have hjl := (List.getElem?_eq_some_iff.1 hj).1
      have e1 : (cur.toList.take xs.length)[j]? = some (Value.int .u8 p) := by rw [h9]; simp [encs, hj]
      rw [List.getElem?_take, if_pos hjl] at e1
      show w.cell? ((⟨g, 0, none⟩ : Addr).add (j * 1 + 0)) = _
      rw [hadd, cell_of_row w g j cur e fz h4]
      simpa using e1
theorem R_slice (h : R d e w base ok v xs) : ∃ A c, v = .slice A xs.length c := by obtain ⟨A, c, h, _⟩ := C_of h; exact ⟨A, c, h⟩
theorem R_reads' {A : Option Addr} {n c : Nat} (h : R d e w base ok (.slice A n c) xs) : n = xs.length ∧ n ≤ c ∧ (Kd.int .u8).C w A xs.length xs := by
  obtain ⟨A', c', he, hl, hr⟩ := C_of h
  injection he with h1 h2 h3
  subst h1
  exact ⟨h2, by omega, hr⟩
theorem R_after {v1 : Value} (h : R d e W base (fun k => ok k ∧ some k ≠ v.ownBlock) u xs) (hg : W.grownBy w1 v.ownBlock) (hat : v1.ownBlock = v.ownBlock ∨ ∃ b, v1.ownBlock = some b ∧ W.heap.size ≤ b) : R d e w1 base (fun k => ok k ∧ some k ≠ v1.ownBlock) u xs := by
  have h1 := R_kept (w1 := w1) h (fun k hk => hg.block k (R_lt h k hk) (h.1 k hk).2)
  refine ⟨fun k hk => ⟨(h.1 k hk).1, ?_⟩, h1.2⟩
  rcases hat with hat | ⟨b, hb, hle⟩
  · rw [hat]; exact (h.1 k hk).2
  · rw [hb]
    intro he
    injection he with he
    have := R_lt h k hk
    omega
theorem R_elder' (hu : R d e W base ok u xs) (hbase : ∀ k, v.ownBlock = some k → W.heap.size ≤ k) (hb : Below W.heap.size W w1) : R d e w1 base (fun k => ok k ∧ some k ≠ v.ownBlock) u xs := by
  have h1 := R_below hu hb
  exact ⟨fun k hk => ⟨hu.1 k hk, fun he => by have := hbase k he.symm; have := R_lt hu k hk; omega⟩, h1.2⟩
theorem R_new' (h : R d e w1 W.heap.size ok v xs) (hlt : ∀ k, u.ownBlock = some k → k < W.heap.size) : R d e w1 W.heap.size (fun k => ok k ∧ some k ≠ u.ownBlock) v xs :=
  ⟨fun k hk => ⟨h.1 k hk, fun he => by have := hlt k he.symm; have := R_base h k hk; omega⟩, h.2⟩
theorem fresh' (hlt : ∀ k, u.ownBlock = some k → k < W.heap.size) : ∀ k, W.heap.size ≤ k → some k ≠ u.ownBlock := fun k hk he => by have := hlt k he.symm; omega
end

section
variable {P : Program} (w : World)
theorem run_append_roomG (t ty e : TypeId) (i : TypeInfo) (ht : P.underlying t = some (.slice e)) (hi : P.info? e = some i) (hs1 : i.size = 1)
    (g sLen sCap : Nat) (cur : Array Value) (fz : Nat × Nat) (hg : w.heap[g]? = some (.cells cur e fz)) (hfz : ¬ (fz.1 ≤ sLen ∧ sLen < fz.2))
    (a : Addr) (c : Nat) (x : Value) (hnews : ∀ j u, [x][j]? = some u → w.cell? (a.add j) = some u) (h1 : x.oneCell' = true)
    (hroom : sLen + 1 ≤ sCap) (hfit : sLen + 1 ≤ cur.size) :
    (Builtin.append_ #[t, t] ty #[.slice (some ⟨g, 0, none⟩) sLen sCap, .slice (some a) 1 c]).run P w =
      .ok (.slice (some ⟨g, 0, none⟩) (sLen + 1) sCap) (w.setRow g (cur.setIfInBounds sLen x)) := by
  have hf := run_firstCells_some (P := P) w i.size 1 a 1 c [x] (by simp [hs1]) hnews
  have hi2 : sLen < cur.size := by omega
  have hcell : w.cell? ⟨g, sLen, none⟩ = some cur[sLen] := by simp [World.cell?, hg, hi2]
  have hfro : w.frozen? ⟨g, sLen, none⟩ = false := by
    obtain ⟨lo, hi'⟩ := fz
    simp only [World.frozen?, hg]
    simp only at hfz
    by_cases c1 : lo ≤ sLen
    · have : ¬ sLen < hi' := fun h => hfz ⟨c1, h⟩
      simp [c1, this]
    · simp [c1]
  have hst : (store ⟨g, sLen, none⟩ x).run P w = .ok () (w.setRow g (cur.setIfInBounds sLen x)) := by
    rw [run_store P w _ x _ h1, hcell]
    simp [hfro, setCell_eq_setRow w g sLen cur e fz x hg]
  have hadd : (⟨g, 0, none⟩ : Addr).add sLen = ⟨g, sLen, none⟩ := by unfold Addr.add; split <;> simp_all
  have hadd0 : (⟨g, sLen, none⟩ : Addr).add 0 = ⟨g, sLen, none⟩ := by simp [Addr.add]
  have hsc : (storeCells ⟨g, sLen, none⟩ [x] 0).run P w = .ok () (w.setRow g (cur.setIfInBounds sLen x)) := by
    simp only [storeCells, hadd0, Sem.run_bind, hst, Result.andThen_ok]
    rfl
  rw [hs1] at hf
  simp [Builtin.append_, run_underlying ht, sizeOf, typeInfo, hi, hs1, Builtin.lenOf, hroom, hf, hadd, hsc]
theorem run_append_G (base : Nat) (t ty e : TypeId) (i : TypeInfo) (z : Value) (bytes : Nat) (ht : P.underlying t = some (.slice e)) (hi : P.info? e = some i) (hz : i.zero = some z)
    (hsize : i.size = 1) (hby : i.bytes = bytes) (hzs : z.cells.size = 1)
    (v : Value) (n : Nat) (xs : List Value) (hown : OwnG w base e v n xs)
    (a : Addr) (c : Nat) (x : Value) (hnews : ∀ j u, [x][j]? = some u → w.cell? (a.add j) = some u) (h1 : x.oneCell' = true)
    (h63 : n + 1 ≤ maxLen) (hbytes : (n + 1) * bytes ≤ 140737488355328) (hbase : base ≤ w.heap.size) :
    ∃ v' w', (Builtin.append_ #[t, t] ty #[v, .slice (some a) 1 c]).run P w = .ok v' w' ∧ OwnG w' base e v' (n + 1) (xs ++ [x]) ∧ w.grownBy w' v.ownBlock ∧ (v'.ownBlock = v.ownBlock ∨ v'.ownBlock = some w.heap.size) := by
  have plain : w.ownsRow base e 1 v n xs → ∃ v' w', (Builtin.append_ #[t, t] ty #[v, .slice (some a) 1 c]).run P w = .ok v' w' ∧ OwnG w' base e v' (n + 1) (xs ++ [x]) ∧ w.grownBy w' v.ownBlock ∧ (v'.ownBlock = v.ownBlock ∨ v'.ownBlock = some w.heap.size) := by
    intro ho
    obtain ⟨v', w', hr, h2, h3, _, h5⟩ := run_append_own_at (P := P) w base t ty e i z 1 bytes ht hi hz hsize hby hzs (by omega) v n xs ho a 1 c [x] (by simp) hnews (by simpa using h1) h63 hbytes hbase
    exact ⟨v', w', hr, of_own h2, h3, h5⟩
  rcases hown.2 with ⟨rfl, rfl⟩ | ⟨g, cap, cur, fz, rfl, hbg, hg, hfz, hnc, hcm, hcs, htake⟩
  · exact plain ⟨by simpa using hown.1, .inl ⟨rfl, rfl⟩⟩
  · rcases hfz with rfl | rfl
    · exact plain ⟨by simpa using hown.1, .inr ⟨g, cap, cur, rfl, hbg, hg, hnc, hcm, by simpa using hcs, by simpa using htake⟩⟩
    · have hxl := hown.1
      have hsmall : n + 1 ≤ 9223372036854775807 := by simp only [maxLen] at h63; omega
      by_cases hroom : n + 1 ≤ cap
      · have hr := run_append_roomG (P := P) w t ty e i ht hi hsize g n cap cur _ hg (by simp only; omega) a c x hnews h1 hroom (by omega)
        refine ⟨_, _, hr, ⟨by simp [hxl], .inr ⟨g, cap, _, _, rfl, hbg, setRow_heap w g cur _ e _ hg, .inr rfl, hroom, hcm, by simp [hcs], ?_⟩⟩, ⟨rfl, rfl, rfl, by simp, fun k _ hk => setRow_other w g k _ (fun e => hk (by simp [Value.ownBlock, e]))⟩, .inl rfl⟩
        have hn : n < cur.toList.length := by simp; omega
        rw [Array.toList_setIfInBounds, List.take_succ_eq_append_getElem (by simpa using hn), List.take_set_of_le (Nat.le_refl _), htake]
        simp
      · have holds : ∀ j u, xs[j]? = some u → w.cell? ((⟨g, 0, none⟩ : Addr).add j) = some u := by
          intro j u hu
          have hadd : (⟨g, 0, none⟩ : Addr).add j = ⟨g, j, none⟩ := by unfold Addr.add; split <;> simp_all
          rw [hadd, cell_of_row w g j cur e _ hg]
          rw [← htake, List.getElem?_take] at hu
          split at hu
          · simpa using hu
          · cases hu
        have hr := run_append_grow (P := P) w t ty e i z ht hi hz ⟨g, 0, none⟩ n cap xs (by simp [hsize, hxl]) holds a 1 c [x] (by simp [hsize]) hnews (by omega) (by omega) (by rw [hby]; exact growslice_fits (by omega) hbytes)
        have hge := grownCap_ge w (n + 1) cap e
        have hcm2 : grownCap w (n + 1) cap e ≤ maxLen := grownCap_le_maxLen w (n + 1) cap e h63
        refine ⟨_, _, hr, ⟨by simp [hxl], .inr ⟨w.heap.size, _, _, (0, 0), rfl, hbase, heap_alloc_new w.drew _, .inl rfl, hge, hcm2, ?_, ?_⟩⟩, ⟨rfl, rfl, rfl, by simp, fun k hk _ => Go.heap_alloc_old w.drew _ hk⟩, .inr rfl⟩
        · simp only [Array.size_append, List.size_toArray, size_zeroCells, hzs, hxl, List.length_singleton]
          omega
        · have hlen : (xs ++ [x]).length = n + 1 := by simp [hxl]
          simp only [Array.toList_append, List.append_assoc]
          rw [← List.append_assoc, ← hlen]
          exact List.take_left
end

section
variable {P : Program} {ops : Array Oper} {rest : List Oper} {o : Oper} {a : Act} {Q : Exit → Act → World → Prop} {Kc : Act → World → Prop} {d : Kd Int}
theorem grown_R {W w1 : World} {e base : Nat} {ok : Nat → Prop} {v v1 : Value} {xs : List Int} {p : Int} (h0 : ∀ k, v.ownBlock = some k → ok k) (hfresh : ∀ k, W.heap.size ≤ k → ok k)
    (hown : OwnG w1 base e v1 (xs.length + 1) (encs (Value.int .u8) xs ++ [Value.int .u8 p])) (hat : v1.ownBlock = v.ownBlock ∨ ∃ b, v1.ownBlock = some b ∧ W.heap.size ≤ b) : R d e w1 base ok v1 (xs ++ [p]) := by
  refine ⟨fun k hk => ?_, ?_⟩
  · rcases hat with hat | ⟨b, hb, hle⟩
    · exact h0 k (hat ▸ hk)
    · rw [hb] at hk
      injection hk with hk
      exact hfresh k (by omega)
  · have e1 : encs (Value.int .u8) (xs ++ [p]) = encs (Value.int .u8) xs ++ [Value.int .u8 p] := by simp [encs]
    rw [e1, List.length_append]
    exact hown
theorem R_append (d : Kd Int) {w0 W : World} (base : Nat) (hgd : o.guard = none) (s x : Operand) (t e : TypeId) (z : Value) (bytes : Nat)
    (ho : o.op = .call { callee := .builtin .append, args := #[s, x], argTypes := #[t, t] })
    (ht : P.underlying t = some (.slice e)) (hinfo : (P.info? e).map (fun i => (i.zero, i.size, i.bytes)) = some (some z, 1, bytes)) (hz : z.cells.size = 1) (hs0 : 0 < 1) (hb0 : 0 < bytes)
    (v : Value) (xs : List Int) (p : Int) (cs : List Value) (ok okp : Nat → Prop) (hs : a.eval s = v) (hx : a.eval x = .slice (some ⟨W.heap.size, 0, none⟩) 1 1) (hp : cs = [Value.int .u8 p]) (hokp : ∀ k, okp k → ok k ∧ some k ≠ v.ownBlock) (hfresh : ∀ k, W.heap.size ≤ k → ok k)
    (HO : R d e W base ok v xs) (HB : Below base w0 W) (hbase : base ≤ W.heap.size) (hl : (xs.length + 1) * bytes ≤ 140737488355328)
    (h : ∀ v1 w1, R d e w1 base ok v1 (xs ++ [p]) → Below base w0 w1 → W.grownBy w1 v.ownBlock → (v1.ownBlock = v.ownBlock ∨ ∃ b, v1.ownBlock = some b ∧ W.heap.size ≤ b) → wpList P ops Q rest (a.put o.dst v1) w1) :
    wpList P ops Q (o :: rest) a (W.alloc (.cells cs.toArray e)) := by
  subst hp
  obtain ⟨i0, hi, hzz⟩ := Option.map_eq_some_iff.1 hinfo
  simp only [Prod.mk.injEq] at hzz
  obtain ⟨hz0, hz1, hz2⟩ := hzz
  have hlen : xs.length + 1 ≤ 140737488355328 := Nat.le_trans (Nat.le_mul_of_pos_right _ hb0) hl
  refine wpList_plain hgd fun K hK => ?_
  obtain ⟨v1, w1, hr, hown, hg, hat⟩ := run_append_G (P := P) (W.alloc (.cells #[Value.int .u8 p] e)) base t o.type e i0 z bytes ht hi hz0 hz1 hz2 hz v xs.length _ (R_alloc HO _).2 ⟨W.heap.size, 0, none⟩ 1 (.int .u8 p)
    (cell_one_new W (.int .u8 p) e) rfl (by simp only [maxLen]; omega) hl (by simp; omega)
  unfold Oper.wp execOp
  simp only [ho, resolve, invoke, builtin, Sem.run_bind, Sem.run_pure, Result.andThen_ok, List.map_toArray, List.map_cons, List.map_nil, hs, hx, hr]
  have hat' : v1.ownBlock = v.ownBlock ∨ ∃ b, v1.ownBlock = some b ∧ W.heap.size ≤ b := hat.imp id (fun h => ⟨_, h, by simp⟩)
  exact hK _ _ (h v1 w1 (grown_R HO.1 hfresh hown hat') ((HB.alloc hbase _).grown hg (by simp; omega) (R_base HO)) (World.grownBy.trans (World.grownBy_alloc W _ _) hg) hat')
theorem R_append_step (d : Kd Int) {w0 W : World} (base : Nat) (hw : Region.wanted o (yielded ops a.tmps) = true) (s x : Operand) (t e : TypeId) (z : Value) (bytes : Nat)
    (ho : o.op = .call { callee := .builtin .append, args := #[s, x], argTypes := #[t, t] })
    (ht : P.underlying t = some (.slice e)) (hinfo : (P.info? e).map (fun i => (i.zero, i.size, i.bytes)) = some (some z, 1, bytes)) (hz : z.cells.size = 1) (hs0 : 0 < 1) (hb0 : 0 < bytes)
    (v : Value) (xs : List Int) (p : Int) (cs : List Value) (ok okp : Nat → Prop) (hs : a.eval s = v) (hx : a.eval x = .slice (some ⟨W.heap.size, 0, none⟩) 1 1) (hp : cs = [Value.int .u8 p]) (hokp : ∀ k, okp k → ok k ∧ some k ≠ v.ownBlock) (hfresh : ∀ k, W.heap.size ≤ k → ok k)
    (HO : R d e W base ok v xs) (HB : Below base w0 W) (hbase : base ≤ W.heap.size) (hl : (xs.length + 1) * bytes ≤ 140737488355328)
    (h : ∀ v1 w1, R d e w1 base ok v1 (xs ++ [p]) → Below base w0 w1 → W.grownBy w1 v.ownBlock → (v1.ownBlock = v.ownBlock ∨ ∃ b, v1.ownBlock = some b ∧ W.heap.size ≤ b) → Kc (a.put o.dst v1) w1) :
    if Region.wanted o (yielded ops a.tmps) = true then Oper.wp P o a (W.alloc (.cells cs.toArray e)) Kc Q else Kc (a.put o.dst undef) (W.alloc (.cells cs.toArray e)) := by
  subst hp
  obtain ⟨i0, hi, hzz⟩ := Option.map_eq_some_iff.1 hinfo
  simp only [Prod.mk.injEq] at hzz
  obtain ⟨hz0, hz1, hz2⟩ := hzz
  have hlen : xs.length + 1 ≤ 140737488355328 := Nat.le_trans (Nat.le_mul_of_pos_right _ hb0) hl
  rw [if_pos hw]
  obtain ⟨v1, w1, hr, hown, hg, hat⟩ := run_append_G (P := P) (W.alloc (.cells #[Value.int .u8 p] e)) base t o.type e i0 z bytes ht hi hz0 hz1 hz2 hz v xs.length _ (R_alloc HO _).2 ⟨W.heap.size, 0, none⟩ 1 (.int .u8 p)
    (cell_one_new W (.int .u8 p) e) rfl (by simp only [maxLen]; omega) hl (by simp; omega)
  unfold Oper.wp execOp
  simp only [ho, resolve, invoke, builtin, Sem.run_bind, Sem.run_pure, Result.andThen_ok, List.map_toArray, List.map_cons, List.map_nil, hs, hx, hr]
  have hat' : v1.ownBlock = v.ownBlock ∨ ∃ b, v1.ownBlock = some b ∧ W.heap.size ≤ b := hat.imp id (fun h => ⟨_, h, by simp⟩)
  exact h v1 w1 (grown_R HO.1 hfresh hown hat') ((HB.alloc hbase _).grown hg (by simp; omega) (R_base HO)) (World.grownBy.trans (World.grownBy_alloc W _ _) hg) hat'
end

section
variable {P : Program} {ops : Array Oper} {rest : List Oper} {o : Oper} {a : Act} {Q : Exit → Act → World → Prop}
theorem R_lit (d : Kd Int) {w0 W : World} (base e : Nat) (hgd : o.guard = none) {N : Tmp} (_hd : o.dst = some N) {xs : List Int} {inner : List Value} {ok okp : Nat → Prop}
    (hrun : (execOp a.eval o).run P W = .ok (.value (.slice (some ⟨W.heap.size, 0, none⟩) xs.length xs.length)) (W.alloc (.cells inner.toArray e)))
    (hrep : Reps ((Kd.int .u8).M W base okp) 1 xs inner) (hok : ∀ k, okp k → ok k) (hfresh : ok W.heap.size) (HB : Below base w0 W) (hbase : base ≤ W.heap.size) (hm : xs.length ≤ 9223372036854775807)
    (h : ∀ v1 w1, R d e w1 base ok v1 xs → Below base w0 w1 → W.grownBy w1 none → (∃ b, v1.ownBlock = some b ∧ W.heap.size ≤ b) → wpList P ops Q rest (a.put o.dst v1) w1) : wpList P ops Q (o :: rest) a W :=
  Kd.R_lit (Kd.int .u8) base e hgd _hd hrun hrep hok hfresh HB hbase hm (fun v1 w1 h1 => h v1 w1 (of_Kd h1))
theorem own_string {w : World} {base : Nat} {e' src dst e : TypeId} {d : Kd Int} {ok : Nat → Prop} {v : Value} {xs : List Int} (hs : P.underlying src = some (.slice e)) (he : P.underlying e = some (.int .u8)) (hd : P.underlying dst = some .string)
    (h : R d e' w base ok v xs) : (convert src dst v).run P w = .ok (.string (strOfNums xs)) w := by
  obtain ⟨A, c, rfl, _, hC⟩ := C_of h
  exact Kd.C_string hs he hd hC
end
/-! '[]byte(s)', then slices.Reverse -/
def zsOf (s : ByteArray) : List Int := s.data.toList.map fun b => (b.toNat : Int)
theorem zsOf_length (s : ByteArray) : (zsOf s).length = s.size := by rw [zsOf, List.length_map]; exact Array.length_toList
theorem bytesCells_size (w : World) (e : TypeId) (s : ByteArray) : (Lib.bytesCells w e s).size = grownCap w s.size 0 e := by
  have h := grownCap_ge w s.size 0 e
  have h2 : s.data.size = s.size := rfl
  simp only [Lib.bytesCells, Array.size_append, Array.size_map, Array.size_replicate, h2]
  omega
theorem conv_holds (w : World) (e : TypeId) (s : ByteArray) : Sort.Holds (Value.int .u8) (Lib.bytesWorld w e s) w.heap.size 0 (zsOf s).toArray := by
  intro j hj
  have hl := zsOf_length s
  have hj' : j < s.size := by simpa [hl] using hj
  refine ⟨?_, ?_⟩
  · rw [Nat.zero_add, Lib.bytesWorld_cell w e s j hj']
    have hj2 : j < s.data.toList.length := by simpa using hj'
    rw [getElem!_pos _ j hj]
    simp [zsOf, List.getD, List.getElem?_eq_getElem hj2]
  · have hc := bytesCells_size w e s
    have h := grownCap_ge w s.size 0 e
    simp only [World.frozen?, Lib.bytesWorld_at_new, hc]
    simp only [Nat.zero_add, Bool.and_eq_false_iff, decide_eq_false_iff_not]
    left
    omega
theorem conv_below (w : World) (e : TypeId) (s : ByteArray) : Below w.heap.size w (Lib.bytesWorld w e s) := by
  refine ⟨rfl, rfl, rfl, by rw [Lib.bytesWorld_size]; omega, fun k hk => Lib.bytesWorld_at_old w e s k hk⟩
theorem put_heap (w : World) (n g : Nat) (d : Array Int) {cur : Array Value} {e : TypeId} {fr : Nat × Nat} (hb : w.heap[g]? = some (.cells cur e fr)) :
    (Sort.putRow (Value.int .u8) (Sort.ahead w n) g 0 d).heap[g]? = some (.cells (Sort.putCells (Value.int .u8) 0 d cur) e fr) := by
  simp [Sort.putRow, Sort.mapBlock, Sort.ahead, Array.getElem?_modify, hb, Sort.onCells]
theorem put_other (w : World) (n g : Nat) (d : Array Int) (k : Nat) (hk : k ≠ g) : (Sort.putRow (Value.int .u8) (Sort.ahead w n) g 0 d).heap[k]? = w.heap[k]? := by
  simp [Sort.putRow, Sort.mapBlock, Sort.ahead, Array.getElem?_modify, Ne.symm hk]
theorem put_size (w : World) (n g : Nat) (d : Array Int) : (Sort.putRow (Value.int .u8) (Sort.ahead w n) g 0 d).heap.size = w.heap.size := by
  simp [Sort.putRow, Sort.mapBlock, Sort.ahead]
theorem conv_reversed (w : World) (e : TypeId) (s : ByteArray) (n : Nat) (hs : s.size ≤ 140737488355328) {d : Kd Int} {ok : Nat → Prop} (hok : ok w.heap.size) :
    R d e (Sort.putRow (Value.int .u8) (Sort.ahead (Lib.bytesWorld w e s) n) w.heap.size 0 (zsOf s).reverse.toArray) w.heap.size ok (.slice (some ⟨w.heap.size, 0, none⟩) s.size (grownCap w s.size 0 e)) (zsOf s).reverse := by
  have hl := zsOf_length s
  have hge := grownCap_ge w s.size 0 e
  refine ⟨fun k hk => ?_, by simp [encs], .inr ⟨w.heap.size, grownCap w s.size 0 e, _, _, ?_, Nat.le_refl _, put_heap _ n _ _ (Lib.bytesWorld_at_new w e s), .inr ?_, ?_, ?_, ?_, ?_⟩⟩
  · have : w.heap.size = k := by simpa [Value.ownBlock] using hk
    rw [← this]; exact hok
  · rw [List.length_reverse, hl]
  · rw [bytesCells_size]
  · rw [List.length_reverse, hl]; exact hge
  · exact grownCap_le_maxLen w s.size 0 e (Nat.le_trans hs (by decide))
  · simp [Sort.putCells, bytesCells_size]
  · have hcs := bytesCells_size w e s
    apply List.ext_getElem?
    intro j
    rw [List.getElem?_take]
    by_cases hj : j < (zsOf s).reverse.length
    · have hj1 : j < (zsOf s).length := by simpa using hj
      have hjc : j < (Lib.bytesCells w e s).size := by omega
      have hjr : j < (zsOf s).reverse.toArray.size := by simpa using hj1
      rw [if_pos hj]
      simp only [Sort.putCells, Array.getElem?_toList, Array.getElem?_mapIdx, Array.getElem?_eq_getElem hjc, Option.map_some, Nat.zero_le, true_and, Nat.zero_add, Nat.sub_zero, if_pos hjr]
      rw [getElem!_pos _ j hjr]
      simp [encs, hj1]
    · rw [if_neg hj]
      have : ¬ j < (encs (Value.int .u8) (zsOf s).reverse).length := by simpa [encs] using hj
      rw [List.getElem?_eq_none (by omega)]
theorem conv_reversed_below (w : World) (e : TypeId) (s : ByteArray) (n : Nat) (d : Array Int) : Below w.heap.size w (Sort.putRow (Value.int .u8) (Sort.ahead (Lib.bytesWorld w e s) n) w.heap.size 0 d) := by
  refine ⟨rfl, rfl, rfl, ?_, fun k hk => ?_⟩
  · rw [put_size, Lib.bytesWorld_size]; omega
  · rw [put_other _ _ _ _ k (by omega)]; exact Lib.bytesWorld_at_old w e s k hk
section
variable {d : Kd Int} {e : Nat} {w W : World} {base : Nat} {ok : Nat → Prop} {v : Value} {xs : List Int}
theorem R_form (h : R d e w base ok v xs) (hp : 0 < xs.length) : ∃ g cap, v = .slice (some ⟨g, 0, none⟩) xs.length cap ∧ base ≤ g ∧ g < w.heap.size ∧ ∃ cells fz, w.heap[g]? = some (.cells cells e fz) := by
  rcases h.2.2 with ⟨_, h0⟩ | ⟨g, cap, cur, fz, rfl, h3, h4, _⟩
  · omega
  · exact ⟨g, cap, rfl, h3, (Array.getElem?_eq_some_iff.1 h4).1, cur, fz, h4⟩
theorem R_celln {g n cap : Nat} (z : Int) (h : R d e W base ok (.slice (some ⟨g, 0, none⟩) n cap) xs) (i : Int) (h0 : 0 ≤ i) (hi : i < n) : W.cell? ⟨g, i.toNat, none⟩ = some (.int .u8 (rdOf z xs i)) ∧ W.frozen? ⟨g, i.toNat, none⟩ = false := by
  obtain ⟨hn, _, _⟩ := R_reads' h
  rcases h.2.2 with ⟨h1, _⟩ | ⟨g', cap', cur, fz, he, h3, h4, h5, h6, h7, h8, h9⟩
  · cases h1
  · injection he with ha _ hc
    injection ha with ha
    injection ha with ha
    subst ha; subst hc; subst hn
    have hj : i.toNat < xs.length := by omega
    constructor
    · have e1 : (cur.toList.take xs.length)[i.toNat]? = some (Value.int .u8 (rdOf z xs i)) := by rw [h9]; exact encs_get (d := z) xs i.toNat hj ▸ (by simp [encs, rdOf, List.getElem?_eq_getElem hj, h0])
      rw [List.getElem?_take, if_pos hj] at e1
      rw [cell_of_row W g i.toNat cur e fz h4]
      simpa using e1
    · simp only [World.frozen?, h4]
      rcases h5 with rfl | rfl
      · simp
      · simp only [Bool.and_eq_false_iff, decide_eq_false_iff_not]
        left
        omega
theorem R_putg {g n cap : Nat} (h : R d e W base ok (.slice (some ⟨g, 0, none⟩) n cap) xs) (i : Int) (x : Int) : R d e (W.setCell ⟨g, i.toNat, none⟩ (.int .u8 x)) base ok (.slice (some ⟨g, 0, none⟩) n cap) (xs.set i.toNat x) ∧ W.grownBy (W.setCell ⟨g, i.toNat, none⟩ (.int .u8 x)) (some g) := by
  obtain ⟨hn, _, _⟩ := R_reads' h
  rcases h.2.2 with ⟨h1, _⟩ | ⟨g', cap', cur, fz, he, h3, h4, h5, h6, h7, h8, h9⟩
  · cases h1
  · injection he with ha _ hc
    injection ha with ha
    injection ha with ha
    subst ha; subst hc; subst hn
    rw [setCell_eq_setRow W g i.toNat cur e fz _ h4]
    refine ⟨⟨h.1, by simp [encs], .inr ⟨g, cap, _, _, by rw [List.length_set], h3, setRow_heap W g cur _ e _ h4, h5, by rw [List.length_set]; exact h6, h7, by simp [h8], ?_⟩⟩, ⟨rfl, rfl, rfl, by simp, fun k _ hk => setRow_other W g k _ (fun e => hk (by rw [e]))⟩⟩
    rw [Array.toList_setIfInBounds, List.length_set, List.take_set, h9]
    simp [encs, List.map_set]
end
section
variable {P : Program} {ops : Array Oper} {rest : List Oper} {o : Oper} {a : Act} {Q : Exit → Act → World → Prop}
theorem conv_R (w : World) (e : TypeId) (s : ByteArray) (hs : s.size ≤ 140737488355328) {d : Kd Int} {ok : Nat → Prop} (hok : ok w.heap.size) :
    R d e (Lib.bytesWorld w e s) w.heap.size ok (.slice (some ⟨w.heap.size, 0, none⟩) s.size (grownCap w s.size 0 e)) (bytesOf s) := by
  have hl := bytesOf_length s
  have hge := grownCap_ge w s.size 0 e
  have hcs := bytesCells_size w e s
  refine ⟨fun k hk => ?_, by simp [encs], .inr ⟨w.heap.size, grownCap w s.size 0 e, _, _, by rw [hl], Nat.le_refl _, Lib.bytesWorld_at_new w e s, .inr (by rw [hcs]), by rw [hl]; exact hge, grownCap_le_maxLen w s.size 0 e (Nat.le_trans hs (by decide)), hcs, ?_⟩⟩
  · have : w.heap.size = k := by simpa [Value.ownBlock] using hk
    rw [← this]; exact hok
  · have h2 : s.data.toList.length = s.size := data_length s
    rw [hl, Lib.bytesCells, Array.toList_append, List.take_append_of_le_length (by simp), List.take_of_length_le (by simp)]
    simp [encs, bytesOf]
theorem conv_event (d : Kd Int) {w0 W : World} (base : Nat) (src dst e : TypeId) {x : Operand} (ho : o.op = .convert src dst x) (hgd : o.guard = none) (hs : P.underlying src = some .string) (hd : P.underlying dst = some (.slice e)) (he : P.underlying e = some (.int .u8)) {s : ByteArray} {ok : Nat → Prop}
    (hx : a.eval x = .string s) (hok : ok W.heap.size) (HB : Below base w0 W) (hbase : base ≤ W.heap.size) (hl : s.size < 140737488355328)
    (h : ∀ v1 w1, R d e w1 base ok v1 (bytesOf s) → Below base w0 w1 → wpList P ops Q rest (a.put o.dst v1) w1) : wpList P ops Q (o :: rest) a W := by
  refine Kd.event_run hgd ?_ (h _ _ (R_lower (conv_R W e s (Nat.le_of_lt hl) hok) hbase) (below_then HB hbase (conv_below W e s)))
  have hc := Lib.run_convert_string_bytes (P := P) W src dst e s hs hd he
  unfold execOp
  simp only [ho, hx, Sem.run_bind, hc, Result.andThen_ok, Sem.run_pure]
end
end Gd
end Go.Proofs.YtondkjcmibnbpaaDoorW.PrintMore
