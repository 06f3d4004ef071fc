-- Written by a program of this session (mkprint.py) over the print of the translation. Not trusted: Lean checks it.
import Derived.Test.YtkpobdcnggdjaaaPFnExactBestLengthsx0
import Derived.Test.YtkpobdcnggdjaaaPFnExactBestLengthsx4
namespace Go.Proofs.Ytkpobdcnggdjaaa.PFnExactBestLengths
open Go.RowKit Go.Proofs.YtkpobdcnggdjaaaW.PrintWords Go.Proofs.YtkpobdcnggdjaaaW.PrintLast Go.Proofs.YtkpobdcnggdjaaaW.PrintMore
attribute [local go_sem] max2_int min2_int max_two min_two max_three min_three max_four min_four   -- for this text's walks alone
set_option linter.unusedVariables false
set_option linter.unusedSimpArgs false

/-! ### impl_BestLengths: function 14, told by hand -/
theorem best_lays : SlLaysF0.n6 Try.prog ⟨fun | 6 => 27 | 14 => 39 | 15 => 40 | 20 => 44 | 21 => 45 | 22 => 46 | 23 => 47 | 24 => 48 | 25 => 49 | 26 => 50 | 27 => 51 | 28 => 52 | 29 => 53 | 46 => 55 | 47 => 56 | 48 => 57 | 49 => 58 | 50 => 59 | 57 => 61 | n => n, fun | 22 => 42 | 24 => 44 | 25 => 47 | 39 => 50 | 45 => 67 | 46 => 68 | 50 => 72 | 53 => 75 | 55 => 77 | 66 => 78 | 70 => 82 | 76 => 84 | 77 => 85 | n => n, fun | n => n⟩ := {
  mixed := by kernel_rfl
  f6 := ⟨ "slices.SortFunc[[]loop.example/g01142/impl.tree,loop.example/g01142/impl.tree]", by decide, Try.func27.trans (congrArg some (by kernel_rfl))⟩
  f14 := ⟨ "slices.pdqsortCmpFunc[loop.example/g01142/impl.tree]", by decide, Try.func39.trans (congrArg some (by kernel_rfl))⟩
  f15 := Try.func40.trans (congrArg some (by kernel_rfl))
  f20 := ⟨ "slices.insertionSortCmpFunc[loop.example/g01142/impl.tree]", by decide, Try.func44.trans (congrArg some (by kernel_rfl))⟩
  f21 := ⟨ "slices.heapSortCmpFunc[loop.example/g01142/impl.tree]", by decide, Try.func45.trans (congrArg some (by kernel_rfl))⟩
  f22 := ⟨ "slices.breakPatternsCmpFunc[loop.example/g01142/impl.tree]", by decide, Try.func46.trans (congrArg some (by kernel_rfl))⟩
  f23 := ⟨ "slices.choosePivotCmpFunc[loop.example/g01142/impl.tree]", by decide, Try.func47.trans (congrArg some (by kernel_rfl))⟩
  f24 := ⟨ "slices.reverseRangeCmpFunc[loop.example/g01142/impl.tree]", by decide, Try.func48.trans (congrArg some (by kernel_rfl))⟩
  f25 := ⟨ "slices.partialInsertionSortCmpFunc[loop.example/g01142/impl.tree]", by decide, Try.func49.trans (congrArg some (by kernel_rfl))⟩
  f26 := ⟨ "slices.partitionEqualCmpFunc[loop.example/g01142/impl.tree]", by decide, Try.func50.trans (congrArg some (by kernel_rfl))⟩
  f27 := ⟨ "slices.partitionCmpFunc[loop.example/g01142/impl.tree]", by decide, Try.func51.trans (congrArg some (by kernel_rfl))⟩
  f28 := Try.func52.trans (congrArg some (by kernel_rfl))
  f29 := Try.func53.trans (congrArg some (by kernel_rfl))
  f46 := ⟨ "slices.siftDownCmpFunc[loop.example/g01142/impl.tree]", by decide, Try.func55.trans (congrArg some (by kernel_rfl))⟩
  f47 := Try.func56.trans (congrArg some (by kernel_rfl))
  f48 := Try.func57.trans (congrArg some (by kernel_rfl))
  f49 := ⟨ "slices.medianAdjacentCmpFunc[loop.example/g01142/impl.tree]", by decide, Try.func58.trans (congrArg some (by kernel_rfl))⟩
  f50 := ⟨ "slices.medianCmpFunc[loop.example/g01142/impl.tree]", by decide, Try.func59.trans (congrArg some (by kernel_rfl))⟩
  f57 := ⟨ "slices.order2CmpFunc[loop.example/g01142/impl.tree]", by decide, Try.func61.trans (congrArg some (by kernel_rfl))⟩
  t0 := Try.underlying0
  a0 := Try.isAgg0
  z0 := Try.sizeOf0
  v0 := Try.zeroValue0
  t3 := Try.underlying3
  a3 := Try.isAgg3
  z3 := Try.sizeOf3
  v3 := Try.zeroValue3
  t4 := Try.underlying4
  a4 := Try.isAgg4
  z4 := Try.sizeOf4
  v4 := Try.zeroValue4
  t5 := Try.underlying5
  a5 := Try.isAgg5
  z5 := Try.sizeOf5
  v5 := Try.zeroValue5
  t9 := Try.underlying9
  a9 := Try.isAgg9
  z9 := Try.sizeOf9
  v9 := Try.zeroValue9
  t22 := Try.underlying42
  a22 := Try.isAgg42
  z22 := Try.sizeOf42
  v22 := Try.zeroValue42
  t25 := Try.underlying47
  a25 := Try.isAgg47
  z25 := Try.sizeOf47
  v25 := Try.zeroValue47
  t39 := Try.underlying50
  a39 := Try.isAgg50
  z39 := Try.sizeOf50
  v39 := Try.zeroValue50
  t45 := Try.underlying67
  a45 := Try.isAgg67
  z45 := Try.sizeOf67
  v45 := Try.zeroValue67
  t46 := Try.underlying68
  a46 := Try.isAgg68
  z46 := Try.sizeOf68
  v46 := Try.zeroValue68
  t50 := Try.underlying72
  a50 := Try.isAgg72
  z50 := Try.sizeOf72
  v50 := Try.zeroValue72
  t53 := Try.underlying75
  a53 := Try.isAgg75
  z53 := Try.sizeOf75
  v53 := Try.zeroValue75
  t55 := Try.underlying77
  a55 := Try.isAgg77
  z55 := Try.sizeOf77
  v55 := Try.zeroValue77
  t66 := Try.underlying78
  a66 := Try.isAgg78
  z66 := Try.sizeOf78
  v66 := Try.zeroValue78
  t70 := Try.underlying82
  a70 := Try.isAgg82
  z70 := Try.sizeOf82
  v70 := Try.zeroValue82
  t76 := Try.underlying84
  a76 := Try.isAgg84
  z76 := Try.sizeOf84
  v76 := Try.zeroValue84
  t77 := Try.underlying85
  a77 := Try.isAgg85
  z77 := Try.sizeOf85
  v77 := Try.zeroValue85 }
theorem best_grow : Lays8.n4 Try.prog ⟨fun | 4 => 41 | n => n, fun | 22 => 36 | 25 => 3 | n => n, fun | n => n⟩ := {
  mixed := by kernel_rfl
  f4 := ⟨ "slices.Grow[[]int,int]", by decide, Try.func41.trans (congrArg some (by kernel_rfl))⟩
  t0 := Try.underlying0
  a0 := Try.isAgg0
  z0 := Try.sizeOf0
  v0 := Try.zeroValue0
  t3 := Try.underlying3
  a3 := Try.isAgg3
  z3 := Try.sizeOf3
  v3 := Try.zeroValue3
  t4 := Try.underlying4
  a4 := Try.isAgg4
  z4 := Try.sizeOf4
  v4 := Try.zeroValue4
  t9 := Try.underlying9
  a9 := Try.isAgg9
  z9 := Try.sizeOf9
  v9 := Try.zeroValue9
  t20 := Try.underlying20
  a20 := Try.isAgg20
  z20 := Try.sizeOf20
  v20 := Try.zeroValue20
  t22 := Try.underlying36
  a22 := Try.isAgg36
  z22 := Try.sizeOf36
  v22 := Try.zeroValue36 }
theorem best_max : SlLaysN.n37 Try.prog ⟨fun | 37 => 31 | n => n, fun | 22 => 22 | 23 => 2 | n => n, fun | n => n⟩ := {
  mixed := by kernel_rfl
  f37 := ⟨ "slices.Max[[]int64,int64]", by decide, Try.func31.trans (congrArg some (by kernel_rfl))⟩
  t0 := Try.underlying0
  a0 := Try.isAgg0
  z0 := Try.sizeOf0
  v0 := Try.zeroValue0
  t3 := Try.underlying3
  a3 := Try.isAgg3
  z3 := Try.sizeOf3
  v3 := Try.zeroValue3
  t4 := Try.underlying4
  a4 := Try.isAgg4
  z4 := Try.sizeOf4
  v4 := Try.zeroValue4
  t9 := Try.underlying9
  a9 := Try.isAgg9
  z9 := Try.sizeOf9
  v9 := Try.zeroValue9
  t20 := Try.underlying20
  a20 := Try.isAgg20
  z20 := Try.sizeOf20
  v20 := Try.zeroValue20
  t22 := Try.underlying22
  a22 := Try.isAgg22
  z22 := Try.sizeOf22
  v22 := Try.zeroValue22
  t23 := Try.underlying2
  a23 := Try.isAgg2
  z23 := Try.sizeOf2
  v23 := Try.zeroValue2 }
set_option maxHeartbeats 8000000 in
set_option maxRecDepth 100000 in
theorem best_or (x y : Int) (g : Nat) (W : World) (hb : W.heap[g]? = some (.cells #[.int .i64 x, .int .i64 y] 3 (0, 0))) :
    Calls Try.prog 29 #[.slice (some ⟨g, 0, none⟩) 2 2] W fun e w' => e = .returned (.int .i64 (if x = 0 then y else x)) ∧ ∃ q, w' = W.drewN q := by
  have k0 : W.cell? ⟨g, 0, none⟩ = some (.int .i64 x) := (blk_cell hb 0).trans rfl
  have k1 : W.cell? ⟨g, 1, none⟩ = some (.int .i64 y) := (blk_cell hb 1).trans rfl
  obtain ⟨r, hr⟩ : ∃ r, (if x = 0 then y else x) = r := ⟨_, rfl⟩
  rw [hr]
  have e1 : wrap64 (0 + 1) = 1 := by unfold wrap64; omega
  have e2 : wrap64 (1 + 1) = 2 := by unfold wrap64; omega
  clear hb
  by_cases c : x = 0
  · subst c
    rw [if_pos rfl] at hr
    subst hr
    by_cases c : y = 0
    · subst c
      go_enter Try.func29, Try.ntmps29
      go_wp2
      go_loopg [8] 3 (fun gq v8 w' => ∃ j : Nat, v8 = .int .i64 (j : Int) ∧ j ≤ 2 ∧ 3 - j ≤ gq ∧ ∃ q, w' = W.drewN q)
      case atStart => exact ⟨0, rfl, by omega, by omega, 0, rfl⟩
      case round =>
        obtain ⟨j, rfl, hj, hg, q, rfl⟩ := hrel
        cases gk with
        | zero => omega
        | succ k =>
          by_cases j0 : j = 0
          · subst j0
            go_wp2
            go_roundg k
            case measure => omega
            case rel => exact ⟨1, by first | rfl | (simp; done) | (rw [e1]; rfl), by omega, by omega, _, rfl⟩
          · by_cases j1 : j = 1
            · subst j1
              go_wp2
              go_roundg k
              case measure => omega
              case rel => exact ⟨2, by first | rfl | (simp; done) | (rw [e2]; rfl), by omega, by omega, _, rfl⟩
            · obtain rfl : j = 2 := by omega
              go_wp2
              go_ret
              exact ⟨rfl, _, rfl⟩
    · have n1 : (y == 0) = false := beq_eq_false_iff_ne.mpr c
      have n2 : (y != 0) = true := bne_iff_ne.mpr c
      go_enter Try.func29, Try.ntmps29
      go_wp2
      go_loopg [8] 3 (fun gq v8 w' => ∃ j : Nat, v8 = .int .i64 (j : Int) ∧ j ≤ 1 ∧ 3 - j ≤ gq ∧ ∃ q, w' = W.drewN q)
      case atStart => exact ⟨0, rfl, by omega, by omega, 0, rfl⟩
      case round =>
        obtain ⟨j, rfl, hj, hg, q, rfl⟩ := hrel
        cases gk with
        | zero => omega
        | succ k =>
          by_cases j0 : j = 0
          · subst j0
            go_wp2
            go_roundg k
            case measure => omega
            case rel => exact ⟨1, by first | rfl | (simp; done) | (rw [e1]; rfl), by omega, by omega, _, rfl⟩
          · obtain rfl : j = 1 := by omega
            go_wp2
            go_ret
            exact ⟨rfl, _, rfl⟩
  · rw [if_neg c] at hr
    subst hr
    have n1 : (x == 0) = false := beq_eq_false_iff_ne.mpr c
    have n2 : (x != 0) = true := bne_iff_ne.mpr c
    go_enter Try.func29, Try.ntmps29
    go_wp2
    go_loopg [8] 3 (fun gq v8 w' => v8 = .int .i64 0 ∧ ∃ q, w' = W.drewN q)
    case atStart => exact ⟨rfl, 0, rfl⟩
    case round =>
      obtain ⟨rfl, q, rfl⟩ := hrel
      go_wp2
      go_ret
      exact ⟨rfl, _, rfl⟩
def bestCf (x y : Int × Int) : Int := if x.1 < y.1 then -1 else if x.1 > y.1 then 1 else if x.2 < y.2 then -1 else if x.2 > y.2 then 1 else 0
theorem best_cmp64 (a b : Int) : cmp_Compare_int64.f a b = some (if a < b then -1 else if a > b then 1 else 0) := by
  simp only [cmp_Compare_int64.f, cmp_isNaN_int64.f, Option.bind_some, bne_self_eq_false, Bool.false_eq_true, if_false]
  by_cases h : a < b
  · rw [if_pos h, if_pos h]
  · rw [if_neg h, if_neg h]
    by_cases h2 : a > b
    · rw [if_pos h2, if_pos h2]
    · rw [if_neg h2, if_neg h2]
def BeG (W W' : World) : Prop := ∃ q os, W' = Go.Sort.grow (W.drewN q) os
theorem BeG.refl (W : World) : BeG W W := ⟨0, #[], by rw [Go.Sort.grow_empty]; rfl⟩
theorem BeG.trans {A B C : World} (h : BeG A B) (h' : BeG B C) : BeG A C := by
  obtain ⟨q, os, rfl⟩ := h
  obtain ⟨q', os', rfl⟩ := h'
  exact ⟨q + q', os ++ os', by show Go.Sort.grow (Go.Sort.grow ((A.drewN q).drewN q') os) os' = _; rw [Go.Sort.grow_grow, World.drewN_drewN]⟩
theorem BeG.drewN {A B : World} (h : BeG A B) (q : Nat) : BeG A (B.drewN q) := h.trans ⟨q, #[], by rw [Go.Sort.grow_empty]⟩
theorem BeG.drew {A B : World} (h : BeG A B) : BeG A B.drew := h.drewN 1
theorem BeG.alloc {A B : World} (h : BeG A B) (o : Obj) : BeG A (B.alloc o) := h.trans ⟨0, #[o], by rw [Go.Sort.alloc_eq_grow]; rfl⟩
set_option maxHeartbeats 8000000 in
set_option maxRecDepth 100000 in
theorem best_closure (w1 n1 w2 n2 : Int) (v1 v2 : Value) (W : World) :
    Calls Try.prog 28 #[.agg #[.int .i64 w1, .int .i64 n1, v1], .agg #[.int .i64 w2, .int .i64 n2, v2]] W fun e w' => e = .returned (.int .i64 (bestCf (w1, n1) (w2, n2))) ∧ BeG W w' := by
  obtain ⟨c1, hc1⟩ : ∃ c, (if w1 < w2 then (-1 : Int) else if w1 > w2 then 1 else 0) = c := ⟨_, rfl⟩
  obtain ⟨c2, hc2⟩ : ∃ c, (if n1 < n2 then (-1 : Int) else if n1 > n2 then 1 else 0) = c := ⟨_, rfl⟩
  have H1 : ∀ W', Calls Try.prog 21 #[.int .i64 w1, .int .i64 w2] W' fun e w' => e = .returned (.int .i64 c1) ∧ ∃ q, w' = W'.drewN q := fun W' => (cmp_Compare_int64.calls w1 w2 _ W' (best_cmp64 _ _)).mono fun e w' hh => by rw [← hc1]; exact ⟨hh.1, hh.2.out⟩
  have H2 : ∀ W', Calls Try.prog 21 #[.int .i64 n1, .int .i64 n2] W' fun e w' => e = .returned (.int .i64 c2) ∧ ∃ q, w' = W'.drewN q := fun W' => (cmp_Compare_int64.calls n1 n2 _ W' (best_cmp64 _ _)).mono fun e w' hh => by rw [← hc2]; exact ⟨hh.1, hh.2.out⟩
  have hcf : bestCf (w1, n1) (w2, n2) = (if c1 = 0 then c2 else c1) := by
    rw [← hc1, ← hc2]
    unfold bestCf
    by_cases a : w1 < w2
    · simp [a]
    · by_cases b : w1 > w2
      · simp [a, b]
      · simp [a, b]
  rw [hcf]
  obtain ⟨r, hr⟩ : ∃ r, (if c1 = 0 then c2 else c1) = r := ⟨_, rfl⟩
  rw [hr]
  have HA3 : Aside0 (∀ (g : Nat) (W' : World), W'.heap[g]? = some (.cells #[.int .i64 c1, .int .i64 c2] 3 (0, 0)) → Calls Try.prog 29 #[.slice (some ⟨g, 0, none⟩) 2 2] W' fun e w' => e = .returned (.int .i64 r) ∧ ∃ q, w' = W'.drewN q) := ⟨fun g W' hb => by rw [← hr]; exact best_or c1 c2 g W' hb⟩
  clear hr
  have HA1 := Aside0.mk H1
  have HA2 := Aside0.mk H2
  clear H1 H2 hc1 hc2 hcf
  go_enter Try.func28, Try.ntmps28
  go_upto_region 1 with fail
  have HG := Aside0.mk (((BeG.refl W).alloc (.cells #[.int .i64 w1, .int .i64 n1, v1] 44)).alloc (.cells #[.int .i64 w2, .int .i64 n2, v2] 44))
  have k1 := blk_alloc (heap_alloc_new W (.cells #[.int .i64 w1, .int .i64 n1, v1] 44)) (.cells #[.int .i64 w2, .int .i64 n2, v2] 44)
  have k2 := heap_alloc_new (W.alloc (.cells #[.int .i64 w1, .int .i64 n1, v1] 44)) (.cells #[.int .i64 w2, .int .i64 n2, v2] 44)
  have hz : (W.alloc (.cells #[.int .i64 w1, .int .i64 n1, v1] 44)).heap.size = W.heap.size + 1 := by simp
  rw [hz] at k2
  obtain ⟨W2, hW2⟩ : ∃ W2, (W.alloc (.cells #[.int .i64 w1, .int .i64 n1, v1] 44)).alloc (.cells #[.int .i64 w2, .int .i64 n2, v2] 44) = W2 := ⟨_, rfl⟩
  rw [hW2] at HG k1 k2 ⊢
  clear hW2 hz
  obtain ⟨b1, hb1⟩ : ∃ b1, W.heap.size = b1 := ⟨_, rfl⟩
  obtain ⟨b2, hb2⟩ : ∃ b2, b1 + 1 = b2 := ⟨_, rfl⟩
  rw [hb1] at k1 k2 ⊢
  rw [hb2] at k2 ⊢
  have c10 : W2.cell? ⟨b1, 0, none⟩ = some (.int .i64 w1) := (blk_cell k1 0).trans rfl
  have c11 : W2.cell? ⟨b1, 1, none⟩ = some (.int .i64 n1) := (blk_cell k1 1).trans rfl
  have c20 : W2.cell? ⟨b2, 0, none⟩ = some (.int .i64 w2) := (blk_cell k2 0).trans rfl
  have c21 : W2.cell? ⟨b2, 1, none⟩ = some (.int .i64 n2) := (blk_cell k2 1).trans rfl
  clear hb1 hb2 k1 k2
  go_region_held3 (fun w' => w'.cell? ⟨b1, 0, none⟩ = some (.int .i64 w1) ∧ w'.cell? ⟨b1, 1, none⟩ = some (.int .i64 n1) ∧ w'.cell? ⟨b2, 0, none⟩ = some (.int .i64 w2) ∧ w'.cell? ⟨b2, 1, none⟩ = some (.int .i64 n2))
    (first | go_keep)
    (first
      | (go_at_call 21; (with_reducible refine (HA1.out _).mono ?_); rintro e w' ⟨rfl, q1, rfl⟩)
      | (go_at_call 21; (with_reducible refine (HA2.out _).mono ?_); rintro e w' ⟨rfl, q2, rfl⟩)
      | (go_at_call 29; refine (HA3.out _ _ ?hb).mono ?_; (case hb => exact heap_alloc_new _ _); rintro e w' ⟨rfl, q3, rfl⟩))
  go_wp2
  go_ret
  exact ⟨rfl, by repeat (first | exact HG.out | refine BeG.drewN ?_ _ | refine BeG.drew ?_ | refine BeG.alloc ?_ _)⟩
def bKey (t : S57) : Int × Int := (t.f0, t.f1)
abbrev BP := S57 × Value
def bCf (ks : List (Int × Int)) (x y : Fin ks.length) : Int := bestCf ks[x] ks[y]
def bIdx (ks : List (Int × Int)) (h : 0 < ks.length) : Array (Fin ks.length) := letI : Inhabited (Fin ks.length) := ⟨⟨0, h⟩⟩; Go.Sort.pdq (ltOf (bCf ks)) (Array.ofFn fun i => i) 0 ks.length (Lib.bitLen ks.length) true true
def bNat (ks : List (Int × Int)) : List Nat := if h : 0 < ks.length then (bIdx ks h).toList.map Fin.val else []
def bPerm {α : Type} (f : α → Int × Int) (l : List α) : List α := (bNat (l.map f)).filterMap (fun i => l[i]?)
theorem bestCf_lt (x y : Int × Int) : decide (bestCf x y < 0) = decide (x.1 < y.1 ∨ x.1 = y.1 ∧ x.2 < y.2) := by
  unfold bestCf
  by_cases a : x.1 < y.1
  · simp [a]
  · by_cases b : x.1 > y.1
    · simp [a, b]
      omega
    · by_cases c : x.2 < y.2
      · simp [a, b, c]
        omega
      · by_cases d : x.2 > y.2
        · simp [a, b, c, d]
        · simp [a, b, c, d]
theorem bCf_swo (ks : List (Int × Int)) : Go.Sort.SWO (ltOf (bCf ks)) where
  irrefl x := by unfold ltOf bCf; rw [bestCf_lt]; simp
  trans x y z h1 h2 := by unfold ltOf bCf at *; rw [bestCf_lt] at *; simp at *; omega
  ntrans x y z h1 h2 := by unfold ltOf bCf at *; rw [bestCf_lt] at *; simp at *; omega
theorem bIdx_sorts (ks : List (Int × Int)) (h : 0 < ks.length) : letI : Inhabited (Fin ks.length) := ⟨⟨0, h⟩⟩; Go.Sort.PermIn 0 ks.length (Array.ofFn fun i : Fin ks.length => i) (bIdx ks h) ∧ Go.Sort.SortedIn (ltOf (bCf ks)) 0 ks.length (bIdx ks h) := by
  letI : Inhabited (Fin ks.length) := ⟨⟨0, h⟩⟩
  exact Go.Sort.pdq_sorts (ltOf (bCf ks)) (bCf_swo ks) (Array.ofFn fun i => i) 0 ks.length (Lib.bitLen ks.length) true true (Nat.zero_le _) (by simp) (Or.inl rfl)
theorem bIdx_size (ks : List (Int × Int)) (h : 0 < ks.length) : (bIdx ks h).size = ks.length := by
  have := (bIdx_sorts ks h).1.1
  exact this.trans (by simp)
theorem bt_filterMap {α : Type} (l : List α) : ∀ (ns : List Nat), (∀ n ∈ ns, n < l.length) → ∀ i : Nat, (ns.filterMap (fun j : Nat => l[j]?))[i]? = (ns[i]?).bind (fun j : Nat => l[j]?)
  | [], _, i => by simp
  | n :: ns, h, i => by
    have hn : n < l.length := h n (by simp)
    rw [List.filterMap_cons_some (b := l[n]) (by simp [hn])]
    cases i with
    | zero => simp [hn]
    | succ i => simpa using bt_filterMap l ns (fun m hm => h m (by simp [hm])) i
theorem bNat_lt (ks : List (Int × Int)) : ∀ n ∈ bNat ks, n < ks.length := by
  intro n hn
  unfold bNat at hn
  split at hn
  · obtain ⟨x, _, rfl⟩ := List.mem_map.1 hn
    exact x.isLt
  · cases hn
theorem bNat_len (ks : List (Int × Int)) : (bNat ks).length = ks.length := by
  unfold bNat
  by_cases h : 0 < ks.length
  · rw [dif_pos h, List.length_map, Array.length_toList, bIdx_size]
  · rw [dif_neg h]
    simp; omega
theorem bPerm_get {α : Type} (f : α → Int × Int) (l : List α) (i : Nat) : (bPerm f l)[i]? = ((bNat (l.map f))[i]?).bind (fun i => l[i]?) :=
  bt_filterMap l _ (fun n hn => by have := bNat_lt _ n hn; simpa using this) i
theorem bPerm_len {α : Type} (f : α → Int × Int) (l : List α) : (bPerm f l).length = l.length := by
  have h1 := bNat_len (l.map f)
  rw [List.length_map] at h1
  have h2 : ∀ (ns : List Nat), (∀ n ∈ ns, n < l.length) → (ns.filterMap (fun i => l[i]?)).length = ns.length := by
    intro ns
    induction ns with
    | nil => intro _; rfl
    | cons n ns ih =>
      intro h
      have hn : n < l.length := h n (by simp)
      rw [List.filterMap_cons_some (b := l[n]) (by simp [hn])]
      simp [ih (fun m hm => h m (by simp [hm]))]
  unfold bPerm
  rw [h2 _ (fun n hn => by have := bNat_lt _ n hn; simpa using this), h1]
theorem bPerm_map {α β : Type} (g : α → β) (f : β → Int × Int) (l : List α) : (bPerm (fun x => f (g x)) l).map g = bPerm f (l.map g) := by
  unfold bPerm
  rw [List.map_filterMap, List.map_map]
  show List.filterMap _ (bNat (l.map (fun x => f (g x)))) = List.filterMap _ (bNat (l.map (f ∘ g)))
  congr 1
  funext i
  simp
theorem bPerm_mem {α : Type} (f : α → Int × Int) (l : List α) : ∀ x ∈ bPerm f l, x ∈ l := by
  intro x hx
  obtain ⟨i, _, hi⟩ := List.mem_filterMap.1 hx
  exact List.mem_of_getElem? hi
def bCells (ps : List BP) : List Value := ps.flatMap fun p => [.int .i64 p.1.f0, .int .i64 p.1.f1, p.2]
theorem bCells_len (ps : List BP) : (bCells ps).length = ps.length * 3 := by
  induction ps with
  | nil => rfl
  | cons p ps ih => simp only [bCells, List.flatMap_cons, List.length_append, List.length_cons, List.length_nil] at ih ⊢; omega
theorem bCells_get : ∀ (ps : List BP) (i : Nat) (p : BP), ps[i]? = some p → (bCells ps)[i * 3]? = some (.int .i64 p.1.f0) ∧ (bCells ps)[i * 3 + 1]? = some (.int .i64 p.1.f1) ∧ (bCells ps)[i * 3 + 2]? = some p.2
  | [], i, p, h => by simp at h
  | q :: ps, 0, p, h => by
    simp at h
    subst h
    exact ⟨rfl, rfl, rfl⟩
  | q :: ps, i + 1, p, h => by
    have h' : ps[i]? = some p := by simpa using h
    obtain ⟨h1, h2, h3⟩ := bCells_get ps i p h'
    have e : ∀ r, (bCells (q :: ps))[(i + 1) * 3 + r]? = (bCells ps)[i * 3 + r]? := fun r => by
      show ([.int .i64 q.1.f0, .int .i64 q.1.f1, q.2] ++ bCells ps)[(i + 1) * 3 + r]? = _
      rw [List.getElem?_append_right (by simp; omega)]
      congr 1
      simp; omega
    exact ⟨(e 0).trans h1, (e 1).trans h2, (e 2).trans h3⟩
theorem bCells_inv (ps : List BP) (j : Nat) (u : Value) (h : (bCells ps)[j]? = some u) : ∃ i p, ps[i]? = some p ∧ (j = i * 3 ∧ u = .int .i64 p.1.f0 ∨ j = i * 3 + 1 ∧ u = .int .i64 p.1.f1 ∨ j = i * 3 + 2 ∧ u = p.2) := by
  have hj : j < ps.length * 3 := by rw [← bCells_len]; exact (List.getElem?_eq_some_iff.1 h).1
  have hi : j / 3 < ps.length := by omega
  obtain ⟨h1, h2, h3⟩ := bCells_get ps (j / 3) ps[j / 3] (by simp [hi])
  refine ⟨j / 3, ps[j / 3], by simp [hi], ?_⟩
  rcases (by omega : j = j / 3 * 3 ∨ j = j / 3 * 3 + 1 ∨ j = j / 3 * 3 + 2) with e | e | e
  · rw [e, h1] at h
    exact .inl ⟨e, (Option.some.inj h).symm⟩
  · rw [e, h2] at h
    exact .inr (.inl ⟨e, (Option.some.inj h).symm⟩)
  · rw [e, h3] at h
    exact .inr (.inr ⟨e, (Option.some.inj h).symm⟩)
structure BtLies (w : World) (g off cap : Nat) (ps : List BP) : Prop where
  le : ps.length ≤ cap
  blk : ∃ cur, w.heap[g]? = some (.cells cur 44 (0, 0)) ∧ off + cap * 3 ≤ cur.size ∧ ∀ i p, ps[i]? = some p → cur[off + i * 3]? = some (.int .i64 p.1.f0) ∧ cur[off + i * 3 + 1]? = some (.int .i64 p.1.f1) ∧ cur[off + i * 3 + 2]? = some p.2
theorem BtLies.lt {w : World} {g off cap : Nat} {ps : List BP} (h : BtLies w g off cap ps) : g < w.heap.size := by
  obtain ⟨cur, h1, _⟩ := h.blk
  exact blk_lt h1
theorem BtLies.cell {w : World} {g off cap : Nat} {ps : List BP} (h : BtLies w g off cap ps) {i : Nat} {p : BP} (hi : ps[i]? = some p) :
    w.cell? ⟨g, off + i * 3, none⟩ = some (.int .i64 p.1.f0) ∧ w.cell? ⟨g, off + i * 3 + 1, none⟩ = some (.int .i64 p.1.f1) ∧ w.cell? ⟨g, off + i * 3 + 2, none⟩ = some p.2 := by
  obtain ⟨cur, h1, _, h2⟩ := h.blk
  obtain ⟨a, b, c⟩ := h2 i p hi
  exact ⟨(blk_cell h1 _).trans a, (blk_cell h1 _).trans b, (blk_cell h1 _).trans c⟩
theorem BtLies.frz {w : World} {g off cap : Nat} {ps : List BP} (h : BtLies w g off cap ps) (j : Nat) : w.frozen? ⟨g, j, none⟩ = false := by
  obtain ⟨cur, h1, _⟩ := h.blk
  exact blk_frozen h1 j
theorem BtLies.far {w w' : World} {g off cap : Nat} {ps : List BP} (h : BtLies w g off cap ps) (hk : w'.heap[g]? = w.heap[g]?) : BtLies w' g off cap ps := by
  obtain ⟨cur, h1, h2⟩ := h.blk
  exact ⟨h.le, cur, hk.trans h1, h2⟩
def BtLeaves (w : World) (base : Nat) (ps : List BP) : Prop := ∀ p ∈ ps, w.ownsRow base 3 1 p.2 p.1.f2.length (encs (Value.int .i64) p.1.f2)
theorem own_ne {w : World} {base e n g t : Nat} {v : Value} {xs : List Value} {cs : Array Value} {fr : Nat × Nat} (h : w.ownsRow base e 1 v n xs) (hb : w.heap[g]? = some (.cells cs t fr)) (hne : e ≠ t) : v.ownBlock ≠ some g := by
  rcases h.2 with ⟨rfl, _⟩ | ⟨g', cap, cur, rfl, _, hg, _⟩
  · simp [Value.ownBlock]
  · intro he
    have : g' = g := by simpa [Value.ownBlock] using he
    subst this
    rw [hg] at hb
    injection hb with hb
    injection hb with _ ht
    exact hne ht
theorem BtLeaves.grown {w w' : World} {base g t : Nat} {ps : List BP} {cs : Array Value} {fr : Nat × Nat} (h : BtLeaves w base ps) (hb : w.heap[g]? = some (.cells cs t fr)) (hne : 3 ≠ t) (hg : w.grownBy w' (some g)) : BtLeaves w' base ps :=
  fun p hp => (h p hp).kept hg (.inr (own_ne (h p hp) hb hne))
theorem BtLeaves.grown0 {w w' : World} {base : Nat} {ps : List BP} (h : BtLeaves w base ps) (hg : w.grownBy w' none) : BtLeaves w' base ps :=
  fun p hp => (h p hp).kept hg (by cases p.2.ownBlock <;> simp)
theorem BtLeaves.one {w : World} {base : Nat} {ps : List BP} (h : BtLeaves w base ps) : ∀ p ∈ ps, p.2.oneCell' = true := by
  intro p hp
  rcases (h p hp).2 with ⟨e, _⟩ | ⟨g, cap, cur, e, _⟩ <;> rw [e] <;> rfl
def bEnc (ps : List BP) (ks : List (Int × Int)) (x : Fin ks.length) : List Value := [.int .i64 ks[x].1, .int .i64 ks[x].2, (ps.map Prod.snd).getD x.val (.slice none 0 0)]
def btKey (p : BP) : Int × Int := bKey p.1
set_option maxHeartbeats 1000000 in
theorem best_sort (W : World) (g off cap : Nat) (ps : List BP) (h : BtLies W g off cap ps) (h1 : ∀ p ∈ ps, p.2.oneCell' = true) (h2 : 2 ≤ ps.length) (h16 : ps.length ≤ 16) :
    Calls Try.prog 27 #[.slice (some ⟨g, off, none⟩) ps.length cap, .func (.func 28) #[] #[]] W fun e w' => e = .returned (.tuple #[]) ∧ BtLies w' g off cap (bPerm btKey ps) ∧ W.grownBy w' (some g) := by
  obtain ⟨ks, hks⟩ : ∃ ks, ks = ps.map btKey := ⟨_, rfl⟩
  have hl : ks.length = ps.length := by rw [hks]; simp
  have h0 : 0 < ks.length := by omega
  letI : Inhabited (Fin ks.length) := ⟨⟨0, h0⟩⟩
  have hgs := h.lt
  have hds : (Array.ofFn fun i : Fin ks.length => i).size = ps.length := by simp [hl]
  have hget : ∀ x : Fin ks.length, ∃ p, ps[x.val]? = some p ∧ p ∈ ps ∧ bEnc ps ks x = [.int .i64 p.1.f0, .int .i64 p.1.f1, p.2] := by
    intro x
    have hx : x.val < ps.length := by have := x.isLt; omega
    refine ⟨ps[x.val], by simp [hx], List.getElem_mem hx, ?_⟩
    subst hks
    simp [bEnc, btKey, bKey, hx]
  have hH : Go.Sort.HoldsK (bEnc ps ks) 3 W g off (Array.ofFn fun i : Fin ks.length => i) := by
    intro j hj
    have hj3 : j < ps.length * 3 := by rw [Go.Sort.size_flatK, hds] at hj; exact hj
    have hi : j / 3 < ks.length := by omega
    rw [Go.Sort.get_flatK _ _ _ _ (by rw [hds]; exact hj3)]
    obtain ⟨p, hp, _, he⟩ := hget ⟨j / 3, hi⟩
    obtain ⟨a, b, c⟩ := h.cell hp
    have e1 : (Array.ofFn fun i : Fin ks.length => i)[j / 3]! = ⟨j / 3, hi⟩ := by
      rw [getElem!_pos _ _ (by rw [hds]; omega)]
      simp
    rw [e1, he]
    refine ⟨?_, h.frz _⟩
    have hdm := Nat.div_add_mod j 3
    rcases (by omega : j % 3 = 0 ∨ j % 3 = 1 ∨ j % 3 = 2) with e | e | e
    · rw [e]
      rw [show off + j = off + j / 3 * 3 by omega]
      exact a
    · rw [e]
      rw [show off + j = off + j / 3 * 3 + 1 by omega]
      exact b
    · rw [e]
      rw [show off + j = off + j / 3 * 3 + 2 by omega]
      exact c
  have hcmp : CmpLays Try.prog 28 #[] (bEnc ps ks) 3 (bCf ks) g off (Array.ofFn fun i : Fin ks.length => i).size W := fun m os dk _ x y =>
    best_closure ks[x].1 ks[x].2 ks[y].1 ks[y].2 _ _ _
  have eg : ∀ args w, (callFunc 28 args).run Try.prog w = .ok (.enter 28 args) w := enters_of Try.func28 (by kernel_rfl) rfl
  have hcon := AnyQ.slices_SortFunc_eq best_lays 3 Try.isAgg44 Try.sizeOf44 (bEnc ps ks) (fun _ => rfl) (fun x v hv => by
    obtain ⟨p, _, hm, he⟩ := hget x
    rw [he] at hv
    have := h1 p hm
    simp at hv
    rcases hv with rfl | rfl | rfl
    · rfl
    · rfl
    · exact this) (bCf ks) (bCf_swo ks) 28 #[] g off cap (Array.ofFn fun i => i) W eg hcmp hH hgs (by rw [hds]; omega)
  rw [hds] at hcon
  refine hcon.mono ?_
  rintro e w' ⟨rfl, n, os, rfl⟩
  have hidx : Go.Sort.pdq (ltOf (bCf ks)) (Array.ofFn fun i => i) 0 ps.length (Lib.bitLen ps.length) true true = bIdx ks h0 := by rw [← hl]; rfl
  rw [hidx]
  have hsz := bIdx_size ks h0
  refine ⟨rfl, ?_, ?_⟩
  · obtain ⟨cur, c1, c2, c3⟩ := h.blk
    have hlen : (bPerm btKey ps).length = ps.length := bPerm_len _ _
    have hheap : (sortWorldK (bEnc ps ks) 3 W g off n (bIdx ks h0) os).heap[g]? = some (.cells (Go.Sort.putCells id off (Go.Sort.flatK (bEnc ps ks) 3 (bIdx ks h0)) cur) 44 (0, 0)) := by
      unfold sortWorldK
      rw [Go.Sort.heap_grow_old _ _ (by simpa [Go.Sort.putRowK, Go.Sort.putRow, Go.Sort.mapBlock, Go.Sort.ahead] using hgs)]
      simp [Go.Sort.putRowK, Go.Sort.putRow, Go.Sort.mapBlock, Go.Sort.ahead, Array.getElem?_modify, c1, Go.Sort.onCells]
    have hH2 : Go.Sort.HoldsK (bEnc ps ks) 3 (sortWorldK (bEnc ps ks) 3 W g off n (bIdx ks h0) os) g off (bIdx ks h0) := by
      refine Go.Sort.holdsK_grow _ _ _ _ _ _ _ (by simpa [Go.Sort.putRowK, Go.Sort.putRow, Go.Sort.mapBlock, Go.Sort.ahead] using hgs) ?_
      exact Go.Sort.holdsK_putRowK _ _ _ _ _ _ _ (Go.Sort.holdsK_ahead _ _ _ _ _ _ _ hH) (by rw [hsz, hds, hl])
    refine ⟨by rw [hlen]; exact h.le, _, hheap, by simpa [Go.Sort.putCells] using c2, fun i p hp => ?_⟩
    have hi : i < ps.length := by rw [← hlen]; exact (List.getElem?_eq_some_iff.1 hp).1
    have hi2 : i < (bIdx ks h0).size := by omega
    rw [bPerm_get] at hp
    have e1 : (bNat (ps.map btKey))[i]? = some (Fin.val ((bIdx ks h0)[i])) := by
      rw [← hks]
      unfold bNat
      rw [dif_pos h0]
      simp [hi2]
    rw [e1] at hp
    obtain ⟨p', hp', _, he⟩ := hget ((bIdx ks h0)[i])
    have : p' = p := Option.some.inj (hp'.symm.trans hp)
    subst this
    have e2 : (bIdx ks h0)[i]! = (bIdx ks h0)[i] := getElem!_pos (bIdx ks h0) i hi2
    have k0 := (hH2.cell hi2 (c := 0) (by omega)).1
    have k1 := (hH2.cell hi2 (c := 1) (by omega)).1
    have k2 := (hH2.cell hi2 (c := 2) (by omega)).1
    rw [e2, he, blk_cell hheap] at k0 k1 k2
    exact ⟨k0, k1, k2⟩
  · refine ⟨rfl, rfl, rfl, by simp [sortWorldK, Go.Sort.grow, Go.Sort.putRowK, Go.Sort.putRow, Go.Sort.mapBlock, Go.Sort.ahead], fun k hk hne => ?_⟩
    unfold sortWorldK
    rw [Go.Sort.heap_grow_old _ _ (by simpa [Go.Sort.putRowK, Go.Sort.putRow, Go.Sort.mapBlock, Go.Sort.ahead] using hk)]
    have : g ≠ k := fun e => hne (by rw [e])
    simp [Go.Sort.putRowK, Go.Sort.putRow, Go.Sort.mapBlock, Go.Sort.ahead, Array.getElem?_modify, this]
theorem best_info3 : (Try.prog.info? 3).map (fun i => (i.zero, i.size, i.bytes)) = some (some (.int .i64 0), 1, 8) := by kernel_rfl
theorem grown_trans {A B C : World} {r : Option Nat} (h : A.grownBy B none) (h' : B.grownBy C r) (hr : ∀ k, r = some k → A.heap.size ≤ k) : A.grownBy C none :=
  ⟨h'.os.trans h.os, h'.tape.trans h.tape, h'.output.trans h.output, Nat.le_trans h.size h'.size, fun k hk _ => (h'.block k (Nat.lt_of_lt_of_le hk h.size) (fun e => by have := hr k e.symm; omega)).trans (h.block k hk (by simp))⟩
theorem grown_refl (A : World) (r : Option Nat) : A.grownBy A r := ⟨rfl, rfl, rfl, Nat.le_refl _, fun _ _ _ => rfl⟩
theorem grown_drewN {A B : World} {r : Option Nat} (h : A.grownBy B r) (q : Nat) : A.grownBy (B.drewN q) r := ⟨h.os, h.tape, h.output, h.size, h.block⟩
theorem owns_drewN {w : World} {base e size n : Nat} {v : Value} {xs : List Value} (h : w.ownsRow base e size v n xs) (q : Nat) : (w.drewN q).ownsRow base e size v n xs := h
theorem best_grown (W : World) (n : Nat) (h1 : 1 ≤ n) (h16 : n ≤ 16) :
    Calls Try.prog 41 #[.slice none 0 0, .int .i64 (n : Int)] W fun e w' => ∃ v, e = .returned v ∧ w'.ownsRow W.heap.size 3 1 v 0 [] ∧ W.grownBy w' none := by
  obtain ⟨i0, hi, hz0, hz1, hz2⟩ := info_parts best_info3
  have hcon := Any8.slices_Grow_grow best_grow i0 (.int .i64 0) hi hz0 (by omega) none 0 0 n [] W (Nat.le_refl _) (by omega) (by rw [hz2]; omega) (by omega) (by simp) (fun _ => rfl) (fun a e => by cases e)
  refine hcon.mono ?_
  rintro e w' ⟨rfl, rfl⟩
  have hge := grownCap_ge W (0 + n) 0 3
  have hle := grownCap_le_maxLen W (0 + n) 0 3 (by unfold maxLen; omega)
  obtain ⟨G, hG⟩ : ∃ G, G = grownCap W (0 + n) 0 3 := ⟨_, rfl⟩
  show ∃ v, Ending.returned (.slice (some ⟨W.heap.size, 0, none⟩) 0 (grownCap W (0 + n) 0 3)) = .returned v ∧ _
  rw [← hG] at hge hle ⊢
  refine ⟨_, rfl, ?_, ⟨rfl, rfl, rfl, by simp, fun k hk _ => Below.heap_alloc W.drew _ k hk⟩⟩
  refine ⟨rfl, .inr ⟨W.heap.size, G, _, rfl, Nat.le_refl _, heap_alloc_new W.drew _, Nat.zero_le _, hle, ?_, by simp⟩⟩
  have hzs : (Value.int IntKind.i64 0).cells.size = 1 := rfl
  simp only [Array.size_append, size_zeroCells, hzs, List.size_toArray, List.length_nil]
  rw [show (0 + n - 0) * 1 = n by omega]
  rw [← hG]
  omega
theorem owns_reads {w : World} {base e n : Nat} {v : Value} {xs : List Value} (h : w.ownsRow base e 1 v n xs) (hn : 1 ≤ n) : ∃ b c, v = .slice (some ⟨b, 0, none⟩) n c ∧ b < w.heap.size ∧ base ≤ b ∧ n ≤ c ∧ ∀ j u, xs[j]? = some u → w.cell? ((⟨b, 0, none⟩ : Addr).add j) = some u := by
  rcases h.2 with ⟨_, h0⟩ | ⟨g, cap, cur, rfl, hb, hg, hc, _⟩
  · omega
  · exact ⟨g, cap, rfl, blk_lt hg, hb, hc, h.cells rfl⟩
theorem grown_cell {A B : World} {a : Addr} {u : Value} (h : A.grownBy B none) (hc : A.cell? a = some u) : B.cell? a = some u := h.cell hc (by simp)
set_option maxHeartbeats 8000000 in
set_option maxRecDepth 100000 in
theorem best_concat (W : World) (base gb : Nat) (v1 v2 : Value) (l1 l2 : List Int) (hgb : W.heap[gb]? = some (.cells #[v1, v2] 36 (0, 0))) (h1 : W.ownsRow base 3 1 v1 l1.length (encs (Value.int .i64) l1)) (h2 : W.ownsRow base 3 1 v2 l2.length (encs (Value.int .i64) l2))
    (hn1 : 1 ≤ l1.length) (hn2 : 1 ≤ l2.length) (h16 : l1.length + l2.length ≤ 16) :
    Calls Try.prog 30 #[.slice (some ⟨gb, 0, none⟩) 2 2] W fun e w' => ∃ v, e = .returned v ∧ w'.ownsRow W.heap.size 3 1 v (l1.length + l2.length) (encs (Value.int .i64) (l1 ++ l2)) ∧ W.grownBy w' none := by
  obtain ⟨i0, hi, hz0, hz1, hz2⟩ := info_parts best_info3
  obtain ⟨b1, c1, rfl, hb1, _, hc1, hr1⟩ := owns_reads h1 hn1
  obtain ⟨b2, c2, rfl, hb2, _, hc2, hr2⟩ := owns_reads h2 hn2
  have k0 : W.cell? ⟨gb, 0, none⟩ = some (.slice (some ⟨b1, 0, none⟩) l1.length c1) := (blk_cell hgb 0).trans rfl
  have k1 : W.cell? ⟨gb, 1, none⟩ = some (.slice (some ⟨b2, 0, none⟩) l2.length c2) := (blk_cell hgb 1).trans rfl
  have e1 : ∀ l1 : List Int, (encs (Value.int .i64) l1).length = l1.length := fun l1 => by simp [encs]
  have ea : encs (Value.int .i64) (l1 ++ l2) = encs (Value.int .i64) l1 ++ encs (Value.int .i64) l2 := by simp [encs]
  have EA := Aside0.mk ea
  obtain ⟨n1, en1⟩ : ∃ n, n = l1.length := ⟨_, rfl⟩
  obtain ⟨n2, en2⟩ : ∃ n, n = l2.length := ⟨_, rfl⟩
  obtain ⟨x1, ex1⟩ : ∃ x, x = encs (Value.int .i64) l1 := ⟨_, rfl⟩
  obtain ⟨x2, ex2⟩ : ∃ x, x = encs (Value.int .i64) l2 := ⟨_, rfl⟩
  have q1 : x1.length = n1 * 1 := by rw [ex1, e1, en1, Nat.mul_one]
  have q2 : x2.length = n2 * 1 := by rw [ex2, e1, en2, Nat.mul_one]
  have o1 : ∀ u ∈ x1, u.oneCell' = true := by intro u hu; rw [ex1] at hu; obtain ⟨x, _, rfl⟩ := List.mem_map.1 hu; rfl
  have o2 : ∀ u ∈ x2, u.oneCell' = true := by intro u hu; rw [ex2] at hu; obtain ⟨x, _, rfl⟩ := List.mem_map.1 hu; rfl
  rw [← en1] at h1 k0 hn1 h16 hc1 ⊢
  rw [← en2] at h2 k1 hn2 h16 hc2 ⊢
  rw [← ex1] at hr1 EA
  rw [← ex2] at hr2 EA
  rw [EA.out]
  have A1 := Aside0.mk (And.intro hr1 (And.intro q1 (And.intro o1 hc1)))
  have A2 := Aside0.mk (And.intro hr2 (And.intro q2 (And.intro o2 hc2)))
  have HN := Aside0.mk (And.intro hn1 (And.intro hn2 h16))
  have K0 := Aside0.mk (And.intro k0 k1)
  have S1 : Aside0 (wrap64 (n1 : Int) = n1) := ⟨by unfold wrap64; omega⟩
  have S2 : Aside0 (wrap64 ((n1 : Int) + (n2 : Int)) = ((n1 + n2 : Nat) : Int)) := ⟨by unfold wrap64; omega⟩
  clear hgb h1 h2 e1 ea EA en1 en2 ex1 ex2 q1 q2 o1 o2 hr1 hr2 hn1 hn2 h16 hc1 hc2 hb1 hb2
  go_enter Try.func30, Try.ntmps30
  go_wp2
  go_loopg [3, 11] 3 (fun gq v3 v11 w' => ∃ j : Nat, v11 = .int .i64 (j : Int) ∧ j ≤ 2 ∧ 3 - j ≤ gq ∧ v3 = .int .i64 (if j = 0 then 0 else if j = 1 then (n1 : Int) else ((n1 + n2 : Nat) : Int)) ∧ w' = W)
  case atStart => exact ⟨0, rfl, by omega, by omega, rfl, rfl⟩
  case round =>
    obtain ⟨j, rfl, hj, hg, rfl, hw⟩ := hrel
    replace hw := hw.symm
    subst hw
    cases gk with
    | zero => omega
    | succ k =>
      have T1 : Aside0 (wrap64 (0 + 1) = 1) := ⟨by unfold wrap64; omega⟩
      have T2 : Aside0 (wrap64 (1 + 1) = 2) := ⟨by unfold wrap64; omega⟩
      by_cases j0 : j = 0
      · subst j0
        have p1 : decide ((n1 : Int) < 0) = false := decide_eq_false (by omega)
        have hk2 : 3 - 1 ≤ k := by omega
        have s1 := S1.out
        go_wp2
        go_roundg k
        case measure => exact Nat.lt_succ_self _
        case rel => exact ⟨1, by first | rfl | (simp; done) | (rw [T1.out]; rfl), by decide, hk2, by first | rfl | (rw [s1]; rfl), rfl⟩
      · by_cases j1 : j = 1
        · subst j1
          have p1 : decide ((n1 : Int) + (n2 : Int) < 0) = false := decide_eq_false (by omega)
          have hk2 : 3 - 2 ≤ k := by omega
          have s3 : wrap64 ((n1 : Int) + (n2 : Int)) = (n1 : Int) + (n2 : Int) := by rw [S2.out]; exact Int.natCast_add _ _
          go_wp2
          go_roundg k
          case measure => exact Nat.lt_succ_self _
          case rel => exact ⟨2, by first | rfl | (simp; done) | (rw [T2.out]; rfl), by decide, hk2, by first | rfl | (rw [s3]; rfl), rfl⟩
        · obtain rfl : j = 2 := by omega
          have hgr := best_grown W (n1 + n2) (by have := HN.out; omega) (HN.out.2.2)
          have hgr2 : ∀ x : Int, x = ((n1 + n2 : Nat) : Int) → Calls Try.prog 41 #[.slice none 0 0, .int .i64 x] W fun e w' => ∃ v, e = .returned v ∧ w'.ownsRow W.heap.size 3 1 v 0 [] ∧ W.grownBy w' none := fun x hx => by rw [hx]; exact hgr
          have HG := Aside0.mk hgr2
          clear hgr hgr2
          go_wp2_with (go_at_call 41; refine (HG.out _ ?_).mono ?_; (first | rfl | (simp; done)); rintro e w2 ⟨v6, rfl, ho, hg2⟩; have HO := Aside0.mk ho; have HW := Aside0.mk hg2; clear ho hg2)
          clear k0 k1
          go_loopg [6, 27] 3 (fun gq v6 v27 w' => ∃ (j m : Nat) (xs : List Value), v27 = .int .i64 (j : Int) ∧ Aside0 (j ≤ 2 ∧ 3 - j ≤ gq) ∧ Aside0 (m = (if j = 0 then 0 else if j = 1 then n1 else n1 + n2) ∧ xs = (if j = 0 then [] else if j = 1 then x1 else x1 ++ x2)) ∧ Aside0 (w'.ownsRow W.heap.size 3 1 v6 m xs) ∧ Aside0 (W.grownBy w' none))
          case atStart => exact ⟨0, 0, [], rfl, ⟨by omega, by omega⟩, ⟨rfl, rfl⟩, HO, HW⟩
          case round =>
            clear HO HW hj hg
            obtain ⟨j, m, xs, rfl, HJ, HM, HO, HW⟩ := hrel
            cases gk with
            | zero => exact absurd HJ.out (by omega)
            | succ k =>
              have m0 := grown_cell HW.out K0.out.1
              have m1 := grown_cell HW.out K0.out.2
              have hsz := HW.out.size
              have hnn := HN.out
              by_cases j0 : j = 0
              · subst j0
                obtain ⟨hm, hx⟩ := HM.out
                replace hm : m = 0 := hm
                replace hx : xs = [] := hx
                subst hm hx
                clear HM
                go_wp2_with (first | (at_builtin; refine wpList_append_own_at _ rfl (.tmp 31) (.tmp 32) 36 rfl W.heap.size 3 i0 (.int .i64 0) 1 8 Try.underlying36 hi hz0 hz1 hz2 rfl (by omega) u6 0 [] rfl HO.out ⟨b1, 0, none⟩ n1 c1 x1 rfl A1.out.2.1 ?qc A1.out.2.2.1 ?q63 ?qby ?qba ?_; (case qc => intro j u hu; exact grown_cell HW.out (A1.out.1 j u hu)); (case q63 => unfold maxLen; omega); (case qby => omega); (case qba => exact hsz); intro v' w4 ho hgr _ _; have HO4 := Aside0.mk ho; have HW4 := Aside0.mk (grown_trans HW.out hgr (fun k hk => (HO.out.lt k hk).1)); clear ho hgr))
                go_roundg k
                case measure => exact Nat.lt_succ_self _
                case rel => exact ⟨1, n1, x1, by first | rfl | (simp; done) | (rw [T1.out]; rfl), ⟨by omega, by have := HJ.out; omega⟩, ⟨rfl, rfl⟩, ⟨by have := HO4.out; rw [Nat.zero_add, List.nil_append] at this; exact this⟩, HW4⟩
              · by_cases j1 : j = 1
                · subst j1
                  obtain ⟨hm, hx⟩ := HM.out
                  replace hm : n1 = m := hm.symm
                  replace hx : x1 = xs := hx.symm
                  subst hm hx
                  clear HM
                  go_wp2_with (first | (at_builtin; refine wpList_append_own_at _ rfl (.tmp 31) (.tmp 32) 36 rfl W.heap.size 3 i0 (.int .i64 0) 1 8 Try.underlying36 hi hz0 hz1 hz2 rfl (by omega) u6 n1 x1 rfl HO.out ⟨b2, 0, none⟩ n2 c2 x2 rfl A2.out.2.1 ?qc A2.out.2.2.1 ?q63 ?qby ?qba ?_; (case qc => intro j u hu; exact grown_cell HW.out (A2.out.1 j u hu)); (case q63 => unfold maxLen; omega); (case qby => omega); (case qba => exact hsz); intro v' w4 ho hgr _ _; have HO4 := Aside0.mk ho; have HW4 := Aside0.mk (grown_trans HW.out hgr (fun k hk => (HO.out.lt k hk).1)); clear ho hgr))
                  go_roundg k
                  case measure => exact Nat.lt_succ_self _
                  case rel => exact ⟨2, n1 + n2, x1 ++ x2, by first | rfl | (simp; done) | (rw [T2.out]; rfl), ⟨by omega, by have := HJ.out; omega⟩, ⟨rfl, rfl⟩, HO4, HW4⟩
                · obtain rfl : j = 2 := by have := HJ.out; omega
                  obtain ⟨hm, hx⟩ := HM.out
                  replace hm : n1 + n2 = m := hm.symm
                  replace hx : x1 ++ x2 = xs := hx.symm
                  subst hm hx
                  go_wp2
                  go_ret
                  exact ⟨_, rfl, HO.out, HW.out⟩
theorem best_info44 : (Try.prog.info? 44).map (fun i => (i.zero, i.size, i.bytes)) = some (some (.agg #[.int .i64 0, .int .i64 0, .slice none 0 0]), 3, 40) := by kernel_rfl
theorem best_cut {w : World} {g off cap : Nat} {ps : List BP} (h : BtLies w g off cap ps) (h2 : 2 ≤ ps.length) : ∃ off' cap', (∀ W : World, (Instr.slice 42 (.slice (some ⟨g, off, none⟩) ps.length cap) (some (.int .i64 2)) none none).run Try.prog W = .ok (.slice (some ⟨g, off', none⟩) (ps.drop 2).length cap') W) ∧ ∀ W : World, BtLies W g off cap ps → BtLies W g off' cap' (ps.drop 2) := by
  obtain ⟨i0, hi, hz0, hz1, hz2⟩ := info_parts best_info44
  have hcut := cut_from (P := Try.prog) 42 44 .i64 Try.underlying42 hi 3 hz1 (some ⟨g, off, none⟩) ps.length cap 2 (by omega) (by omega)
  have hle := h.le
  by_cases c : cap = 2
  · subst c
    refine ⟨off, 0, fun W => (hcut W).trans (by rw [List.length_drop]; rfl), fun W hW => ⟨by rw [List.length_drop]; omega, ?_⟩⟩
    obtain ⟨cur, c1, c2, c3⟩ := hW.blk
    exact ⟨cur, c1, by omega, fun i p hp => by
      have : i < (ps.drop 2).length := (List.getElem?_eq_some_iff.1 hp).1
      rw [List.length_drop] at this
      omega⟩
  · refine ⟨off + 6, cap - 2, fun W => (hcut W).trans ?_, fun W hW => ⟨by rw [List.length_drop]; omega, ?_⟩⟩
    · rw [List.length_drop]
      have e1 : (2 : Int).toNat = 2 := rfl
      rw [e1, if_neg c]
      rfl
    · obtain ⟨cur, c1, c2, c3⟩ := hW.blk
      refine ⟨cur, c1, by omega, fun i p hp => ?_⟩
      rw [List.getElem?_drop] at hp
      obtain ⟨a, b, c⟩ := c3 _ p hp
      rw [show off + 6 + i * 3 = off + (2 + i) * 3 by omega]
      exact ⟨a, b, c⟩
theorem bCells_snoc (ps : List BP) (p : BP) : bCells (ps ++ [p]) = bCells ps ++ [.int .i64 p.1.f0, .int .i64 p.1.f1, p.2] := by simp [bCells]
theorem lies_of_owns {w : World} {base n : Nat} {v : Value} {ps : List BP} (h : w.ownsRow base 44 3 v n (bCells ps)) (hn : 1 ≤ n) : ∃ g cap, v = .slice (some ⟨g, 0, none⟩) ps.length cap ∧ base ≤ g ∧ BtLies w g 0 cap ps := by
  have hl : ps.length = n := by have := h.1; rw [bCells_len] at this; omega
  rcases h.2 with ⟨_, h0⟩ | ⟨g, cap, cur, rfl, hb, hg, hnc, _, hcs, htk⟩
  · omega
  · refine ⟨g, cap, by rw [hl], hb, by omega, cur, hg, by omega, fun i p hp => ?_⟩
    have hi : i < ps.length := (List.getElem?_eq_some_iff.1 hp).1
    obtain ⟨a, b, c⟩ := bCells_get ps i p hp
    rw [← htk] at a b c
    rw [List.getElem?_take_of_lt (by omega), Array.getElem?_toList] at a b c
    rw [Nat.zero_add]
    exact ⟨a, b, c⟩
theorem lies_olds {w : World} {g off cap : Nat} {ps : List BP} (h : BtLies w g off cap ps) : ∀ j u, (bCells ps)[j]? = some u → w.cell? ⟨g, off + j, none⟩ = some u := by
  intro j u hu
  obtain ⟨i, p, hp, hc⟩ := bCells_inv ps j u hu
  obtain ⟨a, b, c⟩ := h.cell hp
  rcases hc with ⟨rfl, rfl⟩ | ⟨rfl, rfl⟩ | ⟨rfl, rfl⟩
  · exact a
  · exact b
  · exact c
theorem lies_put {w : World} {g off cap : Nat} {ps : List BP} (h : BtLies w g off cap ps) (p : BP) (hr : ps.length + 1 ≤ cap) :
    (∀ j, j < 3 → (w.cell? ⟨g, off + ps.length * 3 + j, none⟩).isSome = true) ∧ BtLies (w.setCells g (off + ps.length * 3) [.int .i64 p.1.f0, .int .i64 p.1.f1, p.2]) g off cap (ps ++ [p]) ∧ w.grownBy (w.setCells g (off + ps.length * 3) [.int .i64 p.1.f0, .int .i64 p.1.f1, p.2]) (some g) := by
  obtain ⟨cur, c1, c2, c3⟩ := h.blk
  refine ⟨fun j hj => by rw [blk_cell c1]; simp; omega, ⟨by simpa using hr, ?_⟩, ?_⟩
  · have d1 := blk_put c1 (off + ps.length * 3) (.int .i64 p.1.f0) rfl
    have d2 := blk_put d1 (off + ps.length * 3 + 1) (.int .i64 p.1.f1) rfl
    have d3 := blk_put d2 (off + ps.length * 3 + 1 + 1) p.2 rfl
    refine ⟨_, d3, by simpa using c2, fun i q hq => ?_⟩
    by_cases e : i = ps.length
    · subst e
      have hq2 : q = p := by simpa using hq.symm
      subst hq2
      simp only [Array.getElem?_setIfInBounds, Array.size_setIfInBounds]
      refine ⟨?_, ?_, ?_⟩
      · rw [if_neg (by omega), if_neg (by omega), if_pos trivial, if_pos (by omega)]
      · rw [if_neg (by omega), if_pos trivial, if_pos (by omega)]
      · rw [if_pos trivial, if_pos (by omega)]
    · have hi : i < ps.length := by have := (List.getElem?_eq_some_iff.1 hq).1; simp at this; omega
      rw [List.getElem?_append_left hi] at hq
      obtain ⟨a, b, c⟩ := c3 i q hq
      simp only [Array.getElem?_setIfInBounds, Array.size_setIfInBounds]
      refine ⟨?_, ?_, ?_⟩
      · rw [if_neg (by omega), if_neg (by omega), if_neg (by omega)]; exact a
      · rw [if_neg (by omega), if_neg (by omega), if_neg (by omega)]; exact b
      · rw [if_neg (by omega), if_neg (by omega), if_neg (by omega)]; exact c
  · exact ⟨rfl, rfl, rfl, by simp [World.setCells, World.setCell], fun k hk hne => by
      have hk2 : k ≠ g := fun e => hne (by rw [e])
      simp only [World.setCells]
      rw [Below.heap_setCell _ _ _ k hk2, Below.heap_setCell _ _ _ k hk2, Below.heap_setCell _ _ _ k hk2]⟩
theorem run_best_append (w : World) (ty : TypeId) (g off cap : Nat) (ps : List BP) (hL : BtLies w g off cap ps) (h16 : ps.length ≤ 16) (p : BP) (nb : Nat) (hnb : w.heap[nb]? = some (.cells #[.int .i64 p.1.f0, .int .i64 p.1.f1, p.2] 44 (0, 0))) (h1 : p.2.oneCell' = true) :
    ∃ g' off' cap' w', (Builtin.append_ #[42, 42] ty #[.slice (some ⟨g, off, none⟩) ps.length cap, .slice (some ⟨nb, 0, none⟩) 1 1]).run Try.prog w = .ok (.slice (some ⟨g', off', none⟩) (ps ++ [p]).length cap') w' ∧ BtLies w' g' off' cap' (ps ++ [p]) ∧ w.grownBy w' (some g) ∧ (g' = g ∨ w.heap.size ≤ g') := by
  obtain ⟨i0, hi, hz0, hz1, hz2⟩ := info_parts best_info44
  have hnews : ∀ j u, ([.int .i64 p.1.f0, .int .i64 p.1.f1, p.2] : List Value)[j]? = some u → w.cell? ((⟨nb, 0, none⟩ : Addr).add j) = some u := World.news_of_block (cs := #[.int .i64 p.1.f0, .int .i64 p.1.f1, p.2]) hnb
  have hone : ∀ u ∈ ([.int .i64 p.1.f0, .int .i64 p.1.f1, p.2] : List Value), u.oneCell' = true := by
    intro u hu
    simp at hu
    rcases hu with rfl | rfl | rfl
    · rfl
    · rfl
    · exact h1
  have hlen : (ps ++ [p]).length = ps.length + 1 := by simp
  rw [hlen]
  by_cases hr : ps.length + 1 ≤ cap
  · obtain ⟨k1, k2, k3⟩ := lies_put hL p hr
    refine ⟨g, off, cap, _, ?_, k2, k3, .inl rfl⟩
    have := run_append_room_cells (P := Try.prog) w 42 ty 44 i0 Try.underlying42 hi g off ps.length cap ⟨nb, 0, none⟩ 1 1 _ (by rw [hz1]; rfl) hnews hone hr (fun j hj => by rw [hz1]; exact k1 j hj) (fun j hj => hL.frz _)
    rw [hz1] at this
    exact this
  · obtain ⟨v', w', hrun, r1, r2⟩ := run_append_arg_grows (P := Try.prog) w 42 ty 44 i0 (.agg #[.int .i64 0, .int .i64 0, .slice none 0 0]) 3 40 Try.underlying42 hi hz0 hz1 hz2 rfl (by decide) ⟨g, off, none⟩ ps.length cap (bCells ps) (bCells_len ps) (fun j u hj => by rw [Addr.add_lit]; exact lies_olds hL j u hj) ⟨nb, 0, none⟩ 1 1 _ rfl hnews (by omega) (by unfold maxLen; omega) (by omega)
    rw [← bCells_snoc] at r1
    obtain ⟨g', cap', rfl, hb, hL'⟩ := lies_of_owns r1 (by omega)
    exact ⟨g', 0, cap', w', by rw [hrun, hlen], hL', ⟨r2.os, r2.tape, r2.output, r2.size, fun k hk _ => r2.block k hk (by simp)⟩, .inr hb⟩
theorem step_best_append {w : World} {ops : Array Oper} {o : Oper} {a : Act} {K : Act → World → Prop} {Q : Exit → Act → World → Prop} {E : Prop} (hgd : o.guard = none) (s x : Operand)
    (ho : o.op = .call { callee := .builtin .append, args := #[s, x], argTypes := #[42, 42] }) (g off cap : Nat) (ps : List BP) (hs : a.eval s = .slice (some ⟨g, off, none⟩) ps.length cap) (hL : BtLies w g off cap ps) (h16 : ps.length ≤ 16)
    (p : BP) (nb : Nat) (hx : a.eval x = .slice (some ⟨nb, 0, none⟩) 1 1) (hnb : w.heap[nb]? = some (.cells #[.int .i64 p.1.f0, .int .i64 p.1.f1, p.2] 44 (0, 0))) (h1 : p.2.oneCell' = true)
    (h : ∀ g' off' cap' w', BtLies w' g' off' cap' (ps ++ [p]) → w.grownBy w' (some g) → (g' = g ∨ w.heap.size ≤ g') → K (a.put o.dst (.slice (some ⟨g', off', none⟩) (ps ++ [p]).length cap')) w') :
    if Region.wanted o (yielded ops a.tmps) = true then Oper.wp Try.prog o a w K Q else E := by
  have hw : Region.wanted o (yielded ops a.tmps) = true := by simp [Region.wanted, hgd]
  rw [if_pos hw]
  obtain ⟨g', off', cap', w', hr, h2, h3, h4⟩ := run_best_append w o.type g off cap ps hL h16 p nb hnb h1
  unfold Oper.wp execOp
  simp only [ho, resolve, invoke, builtin, Sem.run_bind, Sem.run_pure, Result.andThen_ok, List.map_toArray, List.map_cons, List.map_nil, hs, hx, hr]
  exact h g' off' cap' w' h2 h3 h4
theorem best_info2 : (Try.prog.info? 2).map (fun i => (i.zero, i.size, i.bytes)) = some (some (.int .i64 0), 1, 8) := by kernel_rfl
def bBump : List Int → List Int → Option (List Int)
  | [], out => some out
  | i :: r, out => if 0 ≤ i ∧ i < (out.length : Int) then bBump r (out.set i.toNat (wrap64 (rd out i + 1))) else none
def bGo : Nat → List S57 → Int → List Int → Option (List Int)
  | 0, _, _, _ => none
  | k + 1, ts, num, out => if ts.length ≤ 1 then some out else
    if 1 ≤ (rd_T57 (bPerm bKey ts) 0).f2.length ∧ 1 ≤ (rd_T57 (bPerm bKey ts) 1).f2.length ∧ (rd_T57 (bPerm bKey ts) 0).f2.length + (rd_T57 (bPerm bKey ts) 1).f2.length ≤ 16 then
      (bBump ((rd_T57 (bPerm bKey ts) 0).f2 ++ (rd_T57 (bPerm bKey ts) 1).f2) out).bind fun out' =>
        bGo k ((bPerm bKey ts).drop 2 ++ [⟨wrap64 ((rd_T57 (bPerm bKey ts) 0).f0 + (rd_T57 (bPerm bKey ts) 1).f0), num, (rd_T57 (bPerm bKey ts) 0).f2 ++ (rd_T57 (bPerm bKey ts) 1).f2⟩]) (wrap64 (num + 1)) out' else none
def bStart (l : List Int) (n : Nat) : List S57 := (List.range n).map fun i : Nat => ⟨rd l (i : Int), (i : Int), [(i : Int)]⟩
def impl_BestLengths.f (l0 : List Int) : Option (List Int × Bool) :=
  (impl_areWeights.f 20 l0).bind fun b => if b = true then (if 2 ≤ l0.length ∧ l0.length ≤ 16 then
    (bGo 17 (bStart l0 l0.length) (l0.length : Int) (List.replicate l0.length 0)).bind fun out => some (if Lib.maxOf out > 12 then (([], false) : List Int × Bool) else (out, true)) else none) else some ([], false)
theorem BtLeaves.grownV {w w' : World} {base n : Nat} {v : Value} {xs : List Value} {ps : List BP} (h : BtLeaves w base ps) (hv : w.ownsRow base 44 3 v n xs) (hg : w.grownBy w' v.ownBlock) : BtLeaves w' base ps := by
  rcases hv.2 with ⟨rfl, _⟩ | ⟨g, cap, cur, rfl, _, hgg, _⟩
  · exact h.grown0 hg
  · exact h.grown hgg (by decide) hg
theorem BtLeaves.snoc {w : World} {base : Nat} {ps : List BP} {p : BP} (h : BtLeaves w base ps) (hp : w.ownsRow base 3 1 p.2 p.1.f2.length (encs (Value.int .i64) p.1.f2)) : BtLeaves w base (ps ++ [p]) := by
  intro q hq
  rcases List.mem_append.1 hq with hq | hq
  · exact h q hq
  · rw [List.mem_singleton.1 hq]
    exact hp
theorem best_push {wr w4 : World} {base j : Nat} {v4 : Value} {ps : List BP} {x : Int} (hO : wr.ownsRow base 44 3 v4 j (bCells ps)) (hL : BtLeaves wr base ps) (hb : base ≤ wr.heap.size)
    (hg : ((wr.alloc (.cells #[.int .i64 (j : Int)] 3)).alloc (.cells #[.int .i64 x, .int .i64 (j : Int), .slice (some ⟨wr.heap.size, 0, none⟩) 1 1] 44)).grownBy w4 v4.ownBlock) :
    BtLeaves w4 base (ps ++ [(⟨x, (j : Int), [(j : Int)]⟩, .slice (some ⟨wr.heap.size, 0, none⟩) 1 1)]) := by
  have hO3 := (hO.alloc (.cells #[.int .i64 (j : Int)] 3)).alloc (.cells #[.int .i64 x, .int .i64 (j : Int), .slice (some ⟨wr.heap.size, 0, none⟩) 1 1] 44)
  have hL3 : BtLeaves ((wr.alloc (.cells #[.int .i64 (j : Int)] 3)).alloc (.cells #[.int .i64 x, .int .i64 (j : Int), .slice (some ⟨wr.heap.size, 0, none⟩) 1 1] 44)) base ps :=
    (hL.grown0 (World.grownBy_alloc wr _ none)).grown0 (World.grownBy_alloc _ _ none)
  refine (BtLeaves.snoc hL3 ?_).grownV hO3 hg
  refine ⟨by simp [encs], .inr ⟨wr.heap.size, 1, #[.int .i64 (j : Int)], rfl, hb, blk_alloc (heap_alloc_new wr _) _, Nat.le_refl _, by decide, rfl, rfl⟩⟩
section
variable {P : Program} {ops : Array Oper} {rest : List Oper} {o : Oper} {a : Act} {Q : Exit → Act → World → Prop} {W : World}
theorem best_make (hgd : o.guard = none) {N : Tmp} (hd : o.dst = some N) (t e : TypeId) (x y : Operand) (ho : o.op = .makeSlice t x y) (n : Nat) (hx : a.eval x = .int .i64 (n : Int)) (hy : a.eval y = .int .i64 (n : Int))
    (ht : P.underlying t = some (.slice e)) (z : Value) (bytes : Nat) (hinfo : (P.info? e).map (fun i => (i.zero, i.size, i.bytes)) = some (some z, 1, bytes)) (hz : z.cells = #[z]) (hb : bytes ≤ 100) (hn : n ≤ 1000)
    (h : ∀ g w1, g = W.heap.size → w1 = W.alloc (.cells (List.replicate n z).toArray e) → Below W.heap.size W w1 → wpList P ops Q rest (a.put o.dst (.slice (some ⟨g, 0, none⟩) n n)) w1) : wpList P ops Q (o :: rest) a W := by
  obtain ⟨i0, hi, hzz⟩ := Option.map_eq_some_iff.1 hinfo
  simp only [Prod.mk.injEq] at hzz
  obtain ⟨hz0, hz1, hz2⟩ := hzz
  have hr := run_make (P := P) W t e i0 z ht hi hz0 .i64 .i64 (n : Int) (n : Int) (by omega) (by omega)
    (by
      have h1 : i0.bytes * n ≤ 100 * 1000 := Nat.mul_le_mul (by omega) hn
      have h3 : ((i0.bytes * n : Nat) : Int) ≤ 281474976710656 := by omega
      rwa [Int.natCast_mul] at h3) (by omega)
  simp only [Int.toNat_natCast] at hr
  rw [hz1, Nat.mul_one] at hr
  have hm : madeCells z.cells n = (List.replicate n z).toArray := by
    apply Array.ext'
    apply List.ext_getElem
    · simp [madeCells]
    · intro i h1 h2
      simp [madeCells, hz, Nat.mod_one]
  rw [hm] at hr
  refine Kd.event_run hgd (v := .slice (some ⟨W.heap.size, 0, none⟩) n n) (w1 := W.alloc (.cells (List.replicate n z).toArray e)) ?_ (h _ _ rfl rfl (below_alloc (Below.refl _ _) _))
  simp [execOp, ho, hx, hy, hr]
end
theorem grown_of_below {w w' : World} (hb : Below w.heap.size w w') : w.grownBy w' none := ⟨hb.os, hb.tape, hb.output, hb.size, fun k hk _ => hb.block k hk⟩
theorem BtLies.below {w w' : World} {g off cap : Nat} {ps : List BP} (h : BtLies w g off cap ps) (hb : Below w.heap.size w w') : BtLies w' g off cap ps := h.far (hb.block g h.lt)
theorem BtLeaves.below {w w' : World} {base : Nat} {ps : List BP} (h : BtLeaves w base ps) (hb : Below w.heap.size w w') : BtLeaves w' base ps := h.grown0 (grown_of_below hb)
theorem bStart_len (l : List Int) (n : Nat) : (bStart l n).length = n := by simp [bStart]
theorem best_out {w wr : World} {go n : Nat} {out : List Int} (hg : w.heap.size ≤ go) (ho : wr.heap[go]? = some (.cells (out.map (Value.int .i64)).toArray 2 (0, 0))) (hl : out.length = n) (hn : n ≤ 16) : Kd.R (Kd.int .i64) 2 wr w.heap.size (fun _ => True) (.slice (some ⟨go, 0, none⟩) n n) out := by
  refine Kd.R_of_own (enc := Value.int .i64) ?_ (fun _ _ => trivial)
  rw [hl]
  refine ⟨by simp [encs, hl], .inr ⟨go, n, _, rfl, hg, ho, Nat.le_refl _, Nat.le_trans hn (by decide), by simp [hl], ?_⟩⟩
  simp [encs]
  rw [List.take_of_length_le (by simp [hl])]
theorem grown_alloc {A B : World} (h : A.grownBy B none) (o : Obj) : A.grownBy (B.alloc o) none := grown_trans h (World.grownBy_alloc B o none) (fun k hk => by cases hk)
theorem grown_drew {A B : World} {r : Option Nat} (h : A.grownBy B r) : A.grownBy B.drew r := grown_drewN h 1
theorem grown_blk {A B : World} {k : Nat} {o : Obj} (h : A.grownBy B none) (hk : A.heap[k]? = some o) : B.heap[k]? = some o := (h.block k (by rcases Nat.lt_or_ge k A.heap.size with h | h; exact h; rw [Array.getElem?_eq_none h] at hk; cases hk) (by simp)).trans hk
theorem best_store3 {w2 w3 : World} {base gj n : Nat} {v : Value} {xs : List Value} (h0 : w2.grownBy w3 none) (hj : w3.heap[gj]? = some (.cells #[.int .i64 0, .int .i64 0, .slice none 0 0] 44 (0, 0))) (hge : w2.heap.size ≤ gj) (ho : w3.ownsRow base 3 1 v n xs) (s num : Int) :
    (((w3.setCell ⟨gj, 0, none⟩ (.int .i64 s)).setCell ⟨gj, 1, none⟩ (.int .i64 num)).setCell ⟨gj, 2, none⟩ v).heap[gj]? = some (.cells #[.int .i64 s, .int .i64 num, v] 44 (0, 0)) ∧
      (((w3.setCell ⟨gj, 0, none⟩ (.int .i64 s)).setCell ⟨gj, 1, none⟩ (.int .i64 num)).setCell ⟨gj, 2, none⟩ v).ownsRow base 3 1 v n xs ∧
      w2.grownBy (((w3.setCell ⟨gj, 0, none⟩ (.int .i64 s)).setCell ⟨gj, 1, none⟩ (.int .i64 num)).setCell ⟨gj, 2, none⟩ v) none := by
  have hg : w3.grownBy (((w3.setCell ⟨gj, 0, none⟩ (.int .i64 s)).setCell ⟨gj, 1, none⟩ (.int .i64 num)).setCell ⟨gj, 2, none⟩ v) (some gj) :=
    ⟨rfl, rfl, rfl, by simp [World.setCell], fun k hk hne => by
      have hk2 : k ≠ gj := fun e => hne (by rw [e])
      rw [Below.heap_setCell _ _ _ k hk2, Below.heap_setCell _ _ _ k hk2, Below.heap_setCell _ _ _ k hk2]⟩
  refine ⟨blk_put (blk_put (blk_put hj 0 _ rfl) 1 _ rfl) 2 _ rfl, ho.kept hg (.inr (own_ne ho hj (by decide))), grown_trans h0 hg (fun k hk => by rw [← Option.some.inj hk]; exact hge)⟩
theorem BtLies.grown0 {w w' : World} {g off cap : Nat} {ps : List BP} (h : BtLies w g off cap ps) (hg : w.grownBy w' none) : BtLies w' g off cap ps := h.far (hg.block g h.lt (by simp))
theorem best_after {w wr Wc w7 : World} {g off' cap' g' go : Nat} {rest ps : List BP} {cs : Array Value} (hW : wr.grownBy Wc none) (hT : BtLies wr g off' cap' rest) (hg7 : Wc.grownBy w7 (some g)) (hat : g' = g ∨ Wc.heap.size ≤ g') (hL : BtLeaves wr w.heap.size ps)
    (hO : wr.heap[go]? = some (.cells cs 2 (0, 0))) (hB : Below w.heap.size w wr) (hbg : w.heap.size ≤ g) : BtLeaves w7 w.heap.size ps ∧ w7.heap[go]? = some (.cells cs 2 (0, 0)) ∧ Below w.heap.size w w7 ∧ w.heap.size ≤ g' := by
  obtain ⟨cur, hcur, _⟩ := hT.blk
  have hcur2 := grown_blk hW hcur
  have hO2 := grown_blk hW hO
  refine ⟨(hL.grown0 hW).grown hcur2 (by decide) hg7, (hg7.block go (blk_lt hO2) (fun e => blk_ne hO2 hcur2 (by decide) (Option.some.inj e))).trans hO2, (hB.grown hW (below_size hB) (fun k hk => by cases hk)).grown hg7 (Nat.le_trans (below_size hB) hW.size) (fun k hk => by rw [← Option.some.inj hk]; exact hbg), ?_⟩
  rcases hat with rfl | h
  · exact hbg
  · exact Nat.le_trans (below_size hB) (Nat.le_trans hW.size h)
theorem heap_new2 (w : World) (o1 o2 : Obj) : ((w.alloc o1).alloc o2).heap[w.heap.size + 1]? = some o2 := by
  have h := heap_alloc_new (w.alloc o1) o2
  have hz : (w.alloc o1).heap.size = w.heap.size + 1 := by simp
  rw [hz] at h
  exact h
theorem bStart_succ (l : List Int) (n : Nat) : bStart l (n + 1) = bStart l n ++ [⟨rd l (n : Int), (n : Int), [(n : Int)]⟩] := by simp [bStart, List.range_succ]
set_option maxHeartbeats 8000000 in
set_option maxRecDepth 100000 in
theorem impl_BestLengths.calls (A0 : Option Addr) (c0 : Nat) (l0 : List Int) (r1 : List Int) (r2 : Bool) (w : World) (hr0 : Kd.C (Kd.int .i64) w A0 l0.length l0) (hc0 : l0.length ≤ c0) (h : impl_BestLengths.f l0 = some (r1, r2)) :
    Calls Try.prog 14 #[.slice A0 l0.length c0] w fun e w' => ∃ v0_ : Value, e = .returned (.tuple #[v0_, .bool r2]) ∧ Kd.R (Kd.int .i64) 2 w' w.heap.size (fun _ => True) v0_ r1 ∧ Below w.heap.size w w' := by
  obtain ⟨i0, hi, hz0, hz1, hz2⟩ := info_parts best_info44
  unfold impl_BestLengths.f at h
  obtain ⟨b, hb, h⟩ := Option.bind_eq_some_iff.1 h
  have HA := Aside0.mk hb
  have HR := Aside0.mk hr0
  clear hb hr0
  go_enter Try.func14, Try.ntmps14
  cases b with
  | false =>
    cases h
    go_wp2_with (go_at_call 26; refine (impl_areWeights.calls 20 A0 c0 l0 false _ HR.out hc0 HA.out).mono ?_; rintro e w' ⟨rfl, ⟨q, rfl⟩⟩)
    go_ret2
    exact ⟨_, rfl, Kd.R_nil _ _ _ _ _, pw_below_drewN (Below.refl _ _) _⟩
  | true =>
    rw [if_pos rfl] at h
    by_cases hl : 2 ≤ l0.length ∧ l0.length ≤ 16
    · rw [if_pos hl] at h
      obtain ⟨F, hF, h⟩ := Option.bind_eq_some_iff.1 h
      have HF := Aside0.mk hF
      have HE := Aside0.mk (Option.some.inj h)
      have HN := Aside0.mk hl
      try clear h
      try clear h
      clear hF hl
      go_upto_region 3 with (go_at_call 26; refine (impl_areWeights.calls 20 A0 c0 l0 true _ HR.out hc0 HA.out).mono ?_; rintro e w' ⟨rfl, ⟨q, rfl⟩⟩)
      obtain ⟨W, hW⟩ : ∃ W, w.drewN q = W := ⟨_, rfl⟩
      rw [hW]
      have HB := Aside0.mk (show Below w.heap.size w W by rw [← hW]; exact pw_below_drewN (Below.refl _ _) q)
      clear hW HA
      try clear h
      go_upto_region 4 with fail
      have HO := Aside0.mk (World.ownsRow_made (base := w.heap.size) (e := 44) (size := 3) W #[] 0 (below_size HB.out) (Nat.zero_le _) rfl)
      have HB1 := Aside0.mk (below_alloc HB.out (.cells #[] 44))
      obtain ⟨W1, hW1⟩ : ∃ W1, W.alloc (.cells #[] 44) = W1 := ⟨_, rfl⟩
      obtain ⟨v4, hv4⟩ : ∃ v4, Value.slice (some ⟨W.heap.size, 0, none⟩) 0 0 = v4 := ⟨_, rfl⟩
      rw [hW1] at HO HB1 ⊢
      rw [hv4] at HO ⊢
      clear hW1 hv4 HB
      go_wp2_with fail
      go_loopg [4, 18] l0.length (fun gq v4 v18 w' => ∃ (j : Nat) (ps : List BP), v18 = .int .i64 (j : Int) ∧ Aside0 (j ≤ l0.length ∧ l0.length - j ≤ gq) ∧ Aside0 (ps.map Prod.fst = bStart l0 j) ∧ Aside0 (w'.ownsRow w.heap.size 44 3 v4 j (bCells ps)) ∧ Aside0 (BtLeaves w' w.heap.size ps) ∧ Aside0 (Below w.heap.size w w'))
      case atStart => exact ⟨0, [], rfl, ⟨by omega, by omega⟩, ⟨rfl⟩, HO, ⟨fun p hp => by cases hp⟩, HB1⟩
      case round =>
        clear HO HB1
        obtain ⟨j, ps, rfl, HJ, HP, HO, HL, HB⟩ := hrel
        by_cases c : j < l0.length
        · have d1 : decide ((j : Int) < (l0.length : Int)) = true := decide_eq_true (by omega)
          have d2 : decide (j < l0.length) = true := decide_eq_true c
          have E1 : Aside0 (wrap64 ((j : Int) + 1) = ((j + 1 : Nat) : Int)) := ⟨by have := HN.out.2; unfold wrap64; omega⟩
          have p1 := eq_true (show (0 : Int) ≤ (j : Int) by omega)
          have q1 := eq_true (show (j : Int) < (l0.length : Int) by omega)
          obtain ⟨ad, ea, hx0⟩ := Kd.at_int HR.out (j : Int) (by omega) (by omega)
          rw [Int.toNat_natCast] at hx0
          have hx1 := (HB.out.cell (World.block_lt_of_cell? w _ hx0)).trans hx0
          obtain ⟨x, hx⟩ : ∃ x, rd l0 (j : Int) = x := ⟨_, rfl⟩
          rw [hx] at hx1
          have HX := Aside0.mk hx
          cases gk with
          | zero => exact absurd HJ.out.2 (by omega)
          | succ k1 =>
            have HJ2 := Aside0.mk (And.intro (show j + 1 ≤ l0.length by omega) (show l0.length - (j + 1) ≤ k1 by have := HJ.out.2; omega))
            clear hx0 hx
            subst ea
            go_upto_region 7 with fail
            clear hx1 p1 q1 d1 d2
            have hj16 : j + 1 ≤ 16 := by have := HN.out.2; omega
            go_wp2_with (first | (at_builtin; refine wpList_append_own_at _ rfl (.tmp 23) (.tmp 29) 42 rfl w.heap.size 44 i0 (.agg #[.int .i64 0, .int .i64 0, .slice none 0 0]) 3 40 Try.underlying42 hi hz0 hz1 hz2 rfl (by decide) u4 j (bCells ps) rfl ((HO.out.alloc _).alloc _) _ 1 1 [.int .i64 x, .int .i64 (j : Int), .slice (some ⟨wr.heap.size, 0, none⟩) 1 1] rfl rfl ?qc ?q1 ?q63 ?qby ?qba ?_; (case qc => exact World.news_of_block (cs := #[.int .i64 x, .int .i64 (j : Int), .slice (some ⟨wr.heap.size, 0, none⟩) 1 1]) (t := 44) (fr := (0, 0)) (heap_new2 _ _ _)); (case q1 => intro u hu; simp at hu; rcases hu with rfl | rfl | rfl <;> rfl); (case q63 => unfold maxLen; omega); (case qby => omega); (case qba => exact below_size (below_alloc (below_alloc HB.out _) _)); intro v' w4 ho hgr _ _; have HO4 := Aside0.mk ho; have HL4 := Aside0.mk (best_push HO.out HL.out (below_size HB.out) hgr); have HB4 := Aside0.mk ((below_alloc (below_alloc HB.out (.cells #[.int .i64 (j : Int)] 3)) (.cells #[.int .i64 x, .int .i64 (j : Int), .slice (some ⟨wr.heap.size, 0, none⟩) 1 1] 44)).grown hgr (below_size (below_alloc (below_alloc HB.out _) _)) (fun k hk => (HO.out.lt k hk).1)); clear ho hgr))
            go_roundg k1
            case measure => exact Nat.lt_succ_self _
            case rel => exact ⟨j + 1, ps ++ [(⟨x, (j : Int), [(j : Int)]⟩, .slice (some ⟨wr.heap.size, 0, none⟩) 1 1)], by first | rfl | rw [E1.out], HJ2, ⟨by rw [List.map_append, HP.out, bStart_succ, HX.out]; rfl⟩, ⟨by rw [bCells_snoc]; exact HO4.out⟩, HL4, HB4⟩
        · have d1 : decide ((j : Int) < (l0.length : Int)) = false := decide_eq_false (by omega)
          have d2 : decide (j < l0.length) = false := decide_eq_false c
          obtain rfl : j = l0.length := by have := HJ.out.1; omega
          clear HJ c
          go_upto_region 9 with fail
          have hps : ps.length = l0.length := by have := congrArg List.length HP.out; rw [List.length_map, bStart_len] at this; exact this
          obtain ⟨g, cap, rfl, hg, hlies⟩ := lies_of_owns HO.out (by have := HN.out.1; omega)
          have HT := Aside0.mk hlies
          have HG := Aside0.mk hg
          have HPS := Aside0.mk hps
          clear hlies hg HO d1 d2 hi hz0 hz1 hz2 hps
          have hn16 := HN.out.2
          go_upto_region 10 with (first | ((with_reducible refine gate_dst (N := 34) rfl ?_); refine best_make rfl (N := 34) rfl 22 2 _ _ rfl l0.length rfl rfl Try.underlying22 (.int .i64 0) 8 best_info2 rfl (by decide) (Nat.le_trans hn16 (by decide)) ?_; intro go w5 hgo hw5 hb5; have HGO := Aside0.mk (show w.heap.size ≤ go by rw [hgo]; exact below_size HB.out); have HO := Aside0.mk (show w5.heap[go]? = some (.cells ((List.replicate l0.length 0).map (Value.int .i64)).toArray 2 (0, 0)) by rw [hw5, hgo, List.map_replicate]; exact heap_alloc_new wr _); have HT5 := Aside0.mk (HT.out.below hb5); have HL5 := Aside0.mk (HL.out.below hb5); have HB5 := Aside0.mk (below_step HB.out hb5); clear HT HL HB hgo hw5 hb5))
          clear hn16
          go_wp2_with fail
          go_loopg [4, 8] 17 (fun gq v4 v8 w' => ∃ (g off cap : Nat) (ps : List BP) (num : Int) (out : List Int), v4 = .slice (some ⟨g, off, none⟩) ps.length cap ∧ v8 = .int .i64 num ∧ Aside0 (bGo gq (ps.map Prod.fst) num out = some F) ∧ Aside0 (1 ≤ ps.length ∧ ps.length ≤ 16 ∧ out.length = l0.length ∧ w.heap.size ≤ g) ∧ Aside0 (BtLies w' g off cap ps) ∧ Aside0 (BtLeaves w' w.heap.size ps) ∧ Aside0 (w'.heap[go]? = some (.cells (out.map (Value.int .i64)).toArray 2 (0, 0))) ∧ Aside0 (Below w.heap.size w w'))
          case atStart => exact ⟨g, 0, cap, ps, (l0.length : Int), List.replicate l0.length 0, rfl, rfl, ⟨by rw [HP.out]; exact HF.out⟩, ⟨by have := HPS.out; have := HN.out; omega, by have := HPS.out; have := HN.out; omega, by simp, HG.out⟩, HT5, HL5, HO, HB5⟩
          case round =>
            clear HT5 HL5 HO HB5 HF HP HPS HG
            clear g cap ps
            obtain ⟨g, off, cap, ps, num, out, rfl, rfl, HF, HG, HT, HL, HO, HB⟩ := hrel
            cases gk with
            | zero => have := HF.out; rw [bGo] at this; cases this
            | succ k1 =>
              have hf := HF.out
              rw [bGo, List.length_map] at hf
              by_cases c : ps.length ≤ 1
              · rw [if_pos c] at hf
                obtain rfl := Option.some.inj hf
                have d1 : decide ((ps.length : Int) > 1) = false := decide_eq_false (by omega)
                have d2 : decide (1 < ps.length) = false := decide_eq_false (by omega)
                clear HF hf
                have hmx := AnyG.slices_Max_int best_max go 0 l0.length l0.length out wr (by have := HN.out.1; omega) (by have := HG.out.2.2.1; omega) (by have := HN.out.2; omega) (fun j hj => by rw [Nat.zero_add, blk_cell HO.out]; simp [hj])
                rw [List.take_of_length_le (by have := HG.out.2.2.1; omega)] at hmx
                have HM := Aside0.mk hmx
                clear hmx c
                have he := HE.out
                have hown := best_out HGO.out HO.out HG.out.2.2.1 HN.out.2
                have HOW := Aside0.mk hown
                clear hown
                by_cases hm : Lib.maxOf out > 12
                · rw [if_pos hm] at he
                  simp only [Prod.mk.injEq] at he
                  obtain ⟨rfl, rfl⟩ := he
                  have d3 : decide (Lib.maxOf out > 12) = true := decide_eq_true hm
                  have d4 : decide (12 < Lib.maxOf out) = true := decide_eq_true hm
                  clear hm
                  go_wp2_with (go_at_call 31; refine HM.out.mono ?_; rintro e w6 ⟨rfl, rfl⟩)
                  go_ret2
                  exact ⟨_, rfl, Kd.R_nil _ _ _ _ _, HB.out⟩
                · rw [if_neg hm] at he
                  simp only [Prod.mk.injEq] at he
                  obtain ⟨rfl, rfl⟩ := he
                  have d3 : decide (Lib.maxOf out > 12) = false := decide_eq_false hm
                  have d4 : decide (12 < Lib.maxOf out) = false := decide_eq_false hm
                  clear hm
                  go_wp2_with (go_at_call 31; refine HM.out.mono ?_; rintro e w6 ⟨rfl, rfl⟩)
                  go_ret2
                  exact ⟨_, rfl, HOW.out, HB.out⟩
              · rw [if_neg c] at hf
                have d1 : decide ((ps.length : Int) > 1) = true := decide_eq_true (by omega)
                have d2 : decide (1 < ps.length) = true := decide_eq_true (by omega)
                have hsort := best_sort wr g off cap ps HT.out HL.out.one (by omega) HG.out.2.1
                have hq : bPerm bKey (ps.map Prod.fst) = (bPerm btKey ps).map Prod.fst := (bPerm_map Prod.fst bKey ps).symm
                have hql := bPerm_len btKey ps
                have hqm := bPerm_mem btKey ps
                rw [hq] at hf
                obtain ⟨p0, p1, rest, hqs⟩ : ∃ p0 p1 rest, bPerm btKey ps = p0 :: p1 :: rest := by
                  cases hx : bPerm btKey ps with
                  | nil => rw [hx] at hql; simp at hql; omega
                  | cons a r => cases r with
                    | nil => rw [hx] at hql; simp at hql; omega
                    | cons b r => exact ⟨a, b, r, rfl⟩
                rw [hqs] at hf hsort hql hqm
                replace hf : (if 1 ≤ p0.1.f2.length ∧ 1 ≤ p1.1.f2.length ∧ p0.1.f2.length + p1.1.f2.length ≤ 16 then (bBump (p0.1.f2 ++ p1.1.f2) out).bind fun out' => bGo k1 (rest.map Prod.fst ++ [⟨wrap64 (p0.1.f0 + p1.1.f0), num, p0.1.f2 ++ p1.1.f2⟩]) (wrap64 (num + 1)) out' else none) = some F := hf
                by_cases hgd : 1 ≤ p0.1.f2.length ∧ 1 ≤ p1.1.f2.length ∧ p0.1.f2.length + p1.1.f2.length ≤ 16
                · rw [if_pos hgd] at hf
                  obtain ⟨out2, hbump, hgo⟩ := Option.bind_eq_some_iff.1 hf
                  have HBUMP := Aside0.mk hbump
                  have HGO2 := Aside0.mk hgo
                  have HGD := Aside0.mk hgd
                  have HS := Aside0.mk hsort
                  have hnl : ps.length = rest.length + 2 := by rw [← hql]; rfl
                  have HNL := Aside0.mk hnl
                  have HQM := Aside0.mk hqm
                  clear hf hbump hgo hgd hsort hq hql hqm hqs hnl c
                  have HN2 := HN
                  go_upto_region 14 with (go_at_call 27; refine HS.out.mono ?_; rintro e w2 ⟨rfl, hT2, hG2⟩; have HT2 := Aside0.mk hT2; have HL2 := Aside0.mk (show BtLeaves w2 w.heap.size (p0 :: p1 :: rest) from fun p hp => by obtain ⟨cur, hcur, _⟩ := HT.out.blk; exact (HL.out.grown hcur (by decide) hG2) p (HQM.out p hp)); have HO2 := Aside0.mk (show w2.heap[go]? = some (.cells (out.map (Value.int .i64)).toArray 2 (0, 0)) from (hG2.block go (blk_lt HO.out) (fun e => by obtain ⟨cur, hcur, _⟩ := HT.out.blk; exact blk_ne HO.out hcur (by decide) (Option.some.inj e))).trans HO.out); have HB2 := Aside0.mk (HB.out.grown hG2 (below_size HB.out) (fun k hk => by rw [← Option.some.inj hk]; exact HG.out.2.2.2)); clear hT2 hG2 HT HL HO HB)
                  clear HS HQM HF d1 d2
                  obtain ⟨⟨a0, m0, y0⟩, v0⟩ := p0
                  obtain ⟨⟨a1, m1, y1⟩, v1⟩ := p1
                  have hc0 := HT2.out.cell (i := 0) (p := (⟨a0, m0, y0⟩, v0)) rfl
                  have hc1 := HT2.out.cell (i := 1) (p := (⟨a1, m1, y1⟩, v1)) rfl
                  have hv0 := HL2.out (⟨a0, m0, y0⟩, v0) (by simp)
                  have hv1 := HL2.out (⟨a1, m1, y1⟩, v1) (by simp)
                  replace HGD : Aside0 (1 ≤ y0.length ∧ 1 ≤ y1.length ∧ y0.length + y1.length ≤ 16) := HGD
                  obtain ⟨bl0, cl0, hvv0, _⟩ := owns_reads hv0 HGD.out.1
                  obtain ⟨bl1, cl1, hvv1, _⟩ := owns_reads hv1 HGD.out.2.1
                  replace hvv0 : v0 = .slice (some ⟨bl0, 0, none⟩) y0.length cl0 := hvv0
                  replace hvv1 : v1 = .slice (some ⟨bl1, 0, none⟩) y1.length cl1 := hvv1
                  subst hvv0 hvv1
                  have k00 : w2.cell? ⟨g, off, none⟩ = some (.int .i64 a0) := hc0.1
                  have k02 : w2.cell? ⟨g, off + 2, none⟩ = some (.slice (some ⟨bl0, 0, none⟩) y0.length cl0) := hc0.2.2
                  have k10 : w2.cell? ⟨g, off + 3, none⟩ = some (.int .i64 a1) := hc1.1
                  have k12 : w2.cell? ⟨g, off + 3 + 2, none⟩ = some (.slice (some ⟨bl1, 0, none⟩) y1.length cl1) := hc1.2.2
                  have k12' : w2.cell? ⟨g, off + 5, none⟩ = some (.slice (some ⟨bl1, 0, none⟩) y1.length cl1) := hc1.2.2
                  have HV0 := Aside0.mk (show w2.ownsRow w.heap.size 3 1 (.slice (some ⟨bl0, 0, none⟩) y0.length cl0) y0.length (encs (Value.int .i64) y0) from hv0)
                  have HV1 := Aside0.mk (show w2.ownsRow w.heap.size 3 1 (.slice (some ⟨bl1, 0, none⟩) y1.length cl1) y1.length (encs (Value.int .i64) y1) from hv1)
                  replace HBUMP : Aside0 (bBump (y0 ++ y1) out = some out2) := HBUMP
                  obtain ⟨s, hs⟩ : ∃ s, wrap64 (a0 + a1) = s := ⟨_, rfl⟩
                  replace HGO2 : Aside0 (bGo k1 (rest.map Prod.fst ++ [⟨s, num, y0 ++ y1⟩]) (wrap64 (num + 1)) out2 = some F) := by rw [← hs]; exact HGO2
                  have hn2 := HNL.out
                  have b0 := eq_true (show 0 < ps.length by omega)
                  have b1 := eq_true (show 1 < ps.length by omega)
                  have b2 := eq_true (show (0 : Int) < (ps.length : Int) by omega)
                  have b3 := eq_true (show (1 : Int) < (ps.length : Int) by omega)
                  have hs2 : IntKind.i64.wrap (a0 + a1) = s := (i64_w _).trans hs
                  clear hc0 hc1 hv0 hv1 hn2
                  have hcon : ∀ (W' : World) (gb : Nat), W'.heap[gb]? = some (.cells #[.slice (some ⟨bl0, 0, none⟩) y0.length cl0, .slice (some ⟨bl1, 0, none⟩) y1.length cl1] 36 (0, 0)) → w2.grownBy W' none → Calls Try.prog 30 #[.slice (some ⟨gb, 0, none⟩) 2 2] W' fun e w' => ∃ b c, e = .returned (.slice (some ⟨b, 0, none⟩) (y0.length + y1.length) c) ∧ w'.ownsRow w.heap.size 3 1 (.slice (some ⟨b, 0, none⟩) (y0.length + y1.length) c) (y0.length + y1.length) (encs (Value.int .i64) (y0 ++ y1)) ∧ w2.grownBy w' none ∧ W'.grownBy w' none := by
                    intro W' gb hgb hg
                    refine (best_concat W' w.heap.size gb _ _ y0 y1 hgb (HV0.out.kept hg (.inr (by simp [Value.ownBlock]))) (HV1.out.kept hg (.inr (by simp [Value.ownBlock]))) HGD.out.1 HGD.out.2.1 HGD.out.2.2).mono ?_
                    rintro e w' ⟨v, rfl, ho, hgr⟩
                    obtain ⟨b, c, rfl, _, _, _, _⟩ := owns_reads ho (by have := HGD.out.1; omega)
                    exact ⟨b, c, rfl, own_less ho (Nat.le_trans (below_size HB2.out) hg.size), grown_trans hg hgr (fun k hk => by cases hk), hgr⟩
                  have HCON := Aside0.mk hcon
                  clear hcon
                  go_cut [9] (fun s9 wx => ∃ gj b c : Nat, s9 = .pointer (some ⟨gj, 0, none⟩) ∧ Aside0 (wx.heap[gj]? = some (.cells #[.int .i64 s, .int .i64 num, .slice (some ⟨b, 0, none⟩) (y0.length + y1.length) c] 44 (0, 0))) ∧ Aside0 (wx.ownsRow w.heap.size 3 1 (.slice (some ⟨b, 0, none⟩) (y0.length + y1.length) c) (y0.length + y1.length) (encs (Value.int .i64) (y0 ++ y1))) ∧ Aside0 (w2.grownBy wx none) ∧ Aside0 (w2.heap.size ≤ gj))
                  case first =>
                    go_region_held3 (fun w' => w'.cell? ⟨g, off, none⟩ = some (.int .i64 a0) ∧ w'.cell? ⟨g, off + 2, none⟩ = some (.slice (some ⟨bl0, 0, none⟩) y0.length cl0) ∧ w'.cell? ⟨g, off + 3, none⟩ = some (.int .i64 a1) ∧ w'.cell? ⟨g, off + 3 + 2, none⟩ = some (.slice (some ⟨bl1, 0, none⟩) y1.length cl1) ∧ w'.cell? ⟨g, off + 5, none⟩ = some (.slice (some ⟨bl1, 0, none⟩) y1.length cl1))
                      (first | exact ⟨grown_cell (HW3.out) k00, grown_cell (HW3.out) k02, grown_cell (HW3.out) k10, grown_cell (HW3.out) k12, grown_cell (HW3.out) k12'⟩ | exact ⟨grown_cell (grown_alloc HW3.out _) k00, grown_cell (grown_alloc HW3.out _) k02, grown_cell (grown_alloc HW3.out _) k10, grown_cell (grown_alloc HW3.out _) k12, grown_cell (grown_alloc HW3.out _) k12'⟩ | exact ⟨grown_cell ((best_store3 HW3.out Z.out (by first | exact Nat.le_refl _ | exact Nat.le_succ _) HO3.out s num).2.2) k00, grown_cell ((best_store3 HW3.out Z.out (by first | exact Nat.le_refl _ | exact Nat.le_succ _) HO3.out s num).2.2) k02, grown_cell ((best_store3 HW3.out Z.out (by first | exact Nat.le_refl _ | exact Nat.le_succ _) HO3.out s num).2.2) k10, grown_cell ((best_store3 HW3.out Z.out (by first | exact Nat.le_refl _ | exact Nat.le_succ _) HO3.out s num).2.2) k12, grown_cell ((best_store3 HW3.out Z.out (by first | exact Nat.le_refl _ | exact Nat.le_succ _) HO3.out s num).2.2) k12'⟩ | go_keep)
                      (first
                        | (go_at_call 30; refine (HCON.out _ _ ?hb ?hg).mono ?_; (case hb => first | exact heap_alloc_new _ _ | exact blk_alloc (heap_alloc_new _ _) _ | exact heap_new2 _ _ _); (case hg => repeat (first | exact grown_refl _ _ | refine grown_alloc ?_ _ | refine grown_drewN ?_ _ | refine grown_drew ?_)); rintro e w3 ⟨b, c, rfl, ho, hg3, hg4⟩; have HO3 := Aside0.mk ho; have HW3 := Aside0.mk hg3; (try (have z : w3.heap[w2.heap.size + 1]? = some (.cells #[.int .i64 0, .int .i64 0, .slice none 0 0] 44 (0, 0)) := grown_blk hg4 (heap_new2 _ _ _); have Z := Aside0.mk z; have z0 : w3.cell? ⟨w2.heap.size + 1, 0, none⟩ = some (.int .i64 0) := (blk_cell z 0).trans rfl; have z1 : w3.cell? ⟨w2.heap.size + 1, 1, none⟩ = some (.int .i64 0) := (blk_cell z 1).trans rfl; have z2 : w3.cell? ⟨w2.heap.size + 1, 2, none⟩ = some (.slice none 0 0) := (blk_cell z 2).trans rfl; have zf := fun j => blk_frozen z j; clear z)); (try (have z : w3.heap[w2.heap.size]? = some (.cells #[.int .i64 0, .int .i64 0, .slice none 0 0] 44 (0, 0)) := grown_blk hg4 (blk_alloc (heap_alloc_new _ _) _); have Z := Aside0.mk z; have z0 : w3.cell? ⟨w2.heap.size, 0, none⟩ = some (.int .i64 0) := (blk_cell z 0).trans rfl; have z1 : w3.cell? ⟨w2.heap.size, 1, none⟩ = some (.int .i64 0) := (blk_cell z 1).trans rfl; have z2 : w3.cell? ⟨w2.heap.size, 2, none⟩ = some (.slice none 0 0) := (blk_cell z 2).trans rfl; have zf := fun j => blk_frozen z j; clear z)); clear ho hg3 hg4))
                    all_goals (go_wp2_with fail; go_meet; first | exact ⟨_, b, c, rfl, ⟨heap_alloc_new _ _⟩, ⟨HO3.out.alloc _⟩, ⟨grown_alloc HW3.out _⟩, ⟨HW3.out.size⟩⟩ | exact ⟨_, b, c, rfl, ⟨(best_store3 HW3.out Z.out (by first | exact Nat.le_refl _ | exact Nat.le_succ _) HO3.out s num).1⟩, ⟨(best_store3 HW3.out Z.out (by first | exact Nat.le_refl _ | exact Nat.le_succ _) HO3.out s num).2.1⟩, ⟨(best_store3 HW3.out Z.out (by first | exact Nat.le_refl _ | exact Nat.le_succ _) HO3.out s num).2.2⟩, ⟨by first | exact Nat.le_refl _ | exact Nat.le_succ _⟩⟩)
                  case rest =>
                    obtain ⟨gj, b, c, rfl, HJ, HV, HW3, HGJ⟩ := hcut
                    clear k00 k02 k10 k12 k12' b0 b1 b2 b3 HCON HV0 HV1 hs hs2
                    have hk2 : wc.cell? ⟨gj, 2, none⟩ = some (.slice (some ⟨b, 0, none⟩) (y0.length + y1.length) c) := (blk_cell HJ.out 2).trans rfl
                    obtain ⟨L, hL⟩ : ∃ L, y0.length + y1.length = L := ⟨_, rfl⟩
                    obtain ⟨z, hz⟩ : ∃ z, y0 ++ y1 = z := ⟨_, rfl⟩
                    have HZ := Aside0.mk (show z.length = L by rw [← hz, ← hL, List.length_append])
                    have HLB := Aside0.mk (show 1 ≤ L ∧ L ≤ 16 by have := HGD.out; omega)
                    rw [hz] at HBUMP HGO2 HV
                    rw [hL] at hk2 HJ HV
                    have HO3 := Aside0.mk (grown_blk HW3.out HO2.out)
                    have HB3 := Aside0.mk (HB2.out.grown HW3.out (below_size HB2.out) (fun k hk => by cases hk))
                    clear hL hz HGD
                    go_upto_region 16 with fail
                    clear hk2
                    go_wp2_with fail
                    go_loopg [68] L (fun gq v68 w' => ∃ (q : Nat) (o : List Int), v68 = .int .i64 (q : Int) ∧ Aside0 (q ≤ L ∧ L - q ≤ gq) ∧ Aside0 (bBump (z.drop q) o = some out2) ∧ Aside0 (o.length = l0.length) ∧ Aside0 (w'.heap[go]? = some (.cells (o.map (Value.int .i64)).toArray 2 (0, 0))) ∧ Aside0 (wc.grownBy w' (some go)))
                    case atStart => exact ⟨0, out, rfl, ⟨by omega, by omega⟩, HBUMP, ⟨HG.out.2.2.1⟩, HO3, ⟨grown_refl _ _⟩⟩
                    case round =>
                      clear HBUMP HO3
                      obtain ⟨q, o, rfl, HQ, HBUMP, HOL, HO, HW⟩ := hrel
                      by_cases c : q < L
                      · have d1 : decide ((q : Int) < (L : Int)) = true := decide_eq_true (by omega)
                        have d2 : decide (q < L) = true := decide_eq_true c
                        have E1 : Aside0 (wrap64 ((q : Int) + 1) = ((q + 1 : Nat) : Int)) := ⟨by have := HLB.out.2; unfold wrap64; omega⟩
                        cases gk with
                        | zero => exact absurd HQ.out.2 (by omega)
                        | succ k2 =>
                          have HQ2 := Aside0.mk (And.intro (show q + 1 ≤ L by omega) (show L - (q + 1) ≤ k2 by have := HQ.out.2; omega))
                          have hd : z.drop q = rd z (q : Int) :: z.drop (q + 1) := by
                            rw [List.drop_eq_getElem_cons (by rw [HZ.out]; exact c)]
                            congr 1
                            unfold rd
                            rw [Int.toNat_natCast, List.getD_eq_getElem?_getD, List.getElem?_eq_getElem (by rw [HZ.out]; exact c)]
                            rfl
                          have hbu := HBUMP.out
                          rw [hd, bBump] at hbu
                          have hx0 : wc.cell? ((⟨b, 0, none⟩ : Addr).add q) = some (.int .i64 (rd z (q : Int))) := HV.out.cells rfl q _ (by
                            unfold rd
                            simp [encs, HZ.out, c])
                          have hx1 : wr.cell? ((⟨b, 0, none⟩ : Addr).add q) = some (.int .i64 (rd z (q : Int))) := HW.out.cell hx0 (by
                            rw [Addr.add_lit]
                            have := own_ne HV.out (grown_blk HW3.out HO2.out) (by decide)
                            simpa [Value.ownBlock] using this)
                          rw [Addr.add_lit, Nat.zero_add] at hx1
                          obtain ⟨i, hi⟩ : ∃ i, rd z (q : Int) = i := ⟨_, rfl⟩
                          rw [hi] at hx1 hbu
                          by_cases hgi : 0 ≤ i ∧ i < (o.length : Int)
                          · rw [if_pos hgi] at hbu
                            obtain ⟨iN, hiN⟩ : ∃ iN : Nat, i = (iN : Int) := ⟨i.toNat, by omega⟩
                            subst hiN
                            rw [Int.toNat_natCast] at hbu
                            have hio : iN < o.length := by omega
                            have hil : iN < l0.length := by rw [← HOL.out]; exact hio
                            have ky : wr.cell? ⟨go, iN, none⟩ = some (.int .i64 (rd o (iN : Int))) := by
                              rw [blk_cell HO.out]
                              unfold rd
                              simp [hio]
                            have kf := blk_frozen HO.out iN
                            obtain ⟨y, hy⟩ : ∃ y, rd o (iN : Int) = y := ⟨_, rfl⟩
                            rw [hy] at ky hbu
                            have HBU := Aside0.mk hbu
                            have p1 := eq_true (show (0 : Int) ≤ (q : Int) by omega)
                            have q1 := eq_true (show (q : Int) < (L : Int) by omega)
                            have p2 := eq_true (show (0 : Int) ≤ (iN : Int) by omega)
                            have q2 := eq_true (show (iN : Int) < (l0.length : Int) by omega)
                            clear hd hbu hx0 hi hgi hio hil hy c
                            go_wp2
                            go_roundg k2
                            case measure => exact Nat.lt_succ_self _
                            case rel => exact ⟨q + 1, o.set iN (wrap64 (y + 1)), by first | rfl | rw [E1.out], HQ2, HBU, ⟨by rw [List.length_set]; exact HOL.out⟩, ⟨blk_put HO.out iN _ (by rw [List.map_set, List.setIfInBounds_toArray])⟩, ⟨HW.out.os, HW.out.tape, HW.out.output, by have := HW.out.size; simpa [World.setCell] using this, fun k hk hne => (Below.heap_setCell _ _ _ k (fun e => hne (by rw [e]))).trans (HW.out.block k hk hne)⟩⟩
                          · rw [if_neg hgi] at hbu
                            cases hbu
                      · have d1 : decide ((q : Int) < (L : Int)) = false := decide_eq_false (by omega)
                        have d2 : decide (q < L) = false := decide_eq_false c
                        have hbu := HBUMP.out
                        rw [List.drop_eq_nil_of_le (by have := HZ.out; omega), bBump] at hbu
                        have hoo : out2 = o := (Option.some.inj hbu).symm
                        subst hoo
                        clear hbu HBUMP HQ c
                        have hgg : ∀ (k t : Nat) (cs : Array Value), wc.heap[k]? = some (.cells cs t (0, 0)) → t ≠ 2 → wr.heap[k]? = some (.cells cs t (0, 0)) := fun k t cs hk hne => (HW.out.block k (blk_lt hk) (fun e => blk_ne hk (grown_blk HW3.out HO2.out) hne (Option.some.inj e))).trans hk
                        have HTr := Aside0.mk (show BtLies wr g off cap _ from HT2.out.far (by obtain ⟨cur, hcur, _⟩ := HT2.out.blk; exact (hgg g 44 cur (grown_blk HW3.out hcur) (by decide)).trans hcur.symm))
                        have HLr := Aside0.mk ((HL2.out.grown0 HW3.out).grown (grown_blk HW3.out HO2.out) (by decide) HW.out)
                        have HVr := Aside0.mk (HV.out.kept HW.out (.inr (own_ne HV.out (grown_blk HW3.out HO2.out) (by decide))))
                        have hJr := hgg gj 44 _ HJ.out (by decide)
                        have HJr := Aside0.mk hJr
                        have HBr := Aside0.mk (HB3.out.grown HW.out (below_size HB3.out) (fun k hk => by rw [← Option.some.inj hk]; exact HGO.out))
                        have kj0 : wr.cell? ⟨gj, 0, none⟩ = some (.int .i64 s) := (blk_cell hJr 0).trans rfl
                        have kj1 : wr.cell? ⟨gj, 1, none⟩ = some (.int .i64 num) := (blk_cell hJr 1).trans rfl
                        have kj2 : wr.cell? ⟨gj, 2, none⟩ = some (.slice (some ⟨b, 0, none⟩) L c) := (blk_cell hJr 2).trans rfl
                        have hne : g ≠ gj := by have h1 := HT2.out.lt; have h2 := HGJ.out; omega
                        have HNE := Aside0.mk hne
                        have HLp := Aside0.mk (BtLeaves.snoc (p := ((⟨s, num, z⟩ : S57), Value.slice (some ⟨b, 0, none⟩) L c)) (fun p hp => HLr.out p (List.mem_cons_of_mem _ (List.mem_cons_of_mem _ hp)) : BtLeaves wr w.heap.size rest) (by rw [HZ.out]; exact HVr.out))
                        obtain ⟨off', cap', hcut, hcl⟩ := best_cut HTr.out (by simp)
                        have HTc := Aside0.mk (hcl wr HTr.out)
                        have hlen : ((⟨a0, m0, y0⟩, .slice (some ⟨bl0, 0, none⟩) y0.length cl0) :: (⟨a1, m1, y1⟩, .slice (some ⟨bl1, 0, none⟩) y1.length cl1) :: rest : List BP).length = ps.length := by rw [HNL.out]; rfl
                        rw [hlen] at hcut
                        replace hcut : ∀ W : World, (Instr.slice 42 (.slice (some ⟨g, off, none⟩) ps.length cap) (some (.int .i64 2)) none none).run Try.prog W = .ok (.slice (some ⟨g, off', none⟩) rest.length cap') W := hcut
                        replace HTc : Aside0 (BtLies wr g off' cap' rest) := HTc
                        have hr16 : rest.length ≤ 16 := by have h1 := HNL.out; have h2 := HG.out.2.1; omega
                        have HR16 := Aside0.mk hr16
                        clear hgg hJr HT2 HL2 HV HJ HB3 HW HW3 HO2 HB2 HGJ hne hcl hlen hr16
                        go_upto_region 20 with fail
                        go_region_held3 (fun w' => w'.cell? ⟨gj, 0, none⟩ = some (.int .i64 s) ∧ w'.cell? ⟨gj, 1, none⟩ = some (.int .i64 num) ∧ w'.cell? ⟨gj, 2, none⟩ = some (.slice (some ⟨b, 0, none⟩) L c))
                          (first | exact K7.out | go_keep)
                          (first
                            | (refine step_best_append (by rfl) (.tmp 80) (.tmp 82) (by rfl) g off' cap' rest (by rfl) ?hL HR16.out ((⟨s, num, z⟩ : S57), Value.slice (some ⟨b, 0, none⟩) L c) wr.heap.size (by rfl) (heap_alloc_new _ _) (by rfl) ?_; (case hL => exact HTc.out.grown0 (by repeat (first | exact grown_refl _ _ | refine grown_alloc ?_ _ | refine grown_drewN ?_ _ | refine grown_drew ?_))); intro g' off2 cap2 w7 hL7 hg7 hat; have HL7 := Aside0.mk hL7; have HA7 := Aside0.mk (best_after (by repeat (first | exact grown_refl _ _ | refine grown_alloc ?_ _ | refine grown_drewN ?_ _ | refine grown_drew ?_)) HTc.out hg7 hat HLp.out HO.out HBr.out HG.out.2.2.2); have K7 := Aside0.mk (show w7.cell? ⟨gj, 0, none⟩ = some (.int .i64 s) ∧ w7.cell? ⟨gj, 1, none⟩ = some (.int .i64 num) ∧ w7.cell? ⟨gj, 2, none⟩ = some (.slice (some ⟨b, 0, none⟩) L c) from ⟨hg7.cell (grown_cell (by repeat (first | exact grown_refl _ _ | refine grown_alloc ?_ _ | refine grown_drewN ?_ _ | refine grown_drew ?_)) kj0) (fun e => HNE.out (Option.some.inj e).symm), hg7.cell (grown_cell (by repeat (first | exact grown_refl _ _ | refine grown_alloc ?_ _ | refine grown_drewN ?_ _ | refine grown_drew ?_)) kj1) (fun e => HNE.out (Option.some.inj e).symm), hg7.cell (grown_cell (by repeat (first | exact grown_refl _ _ | refine grown_alloc ?_ _ | refine grown_drewN ?_ _ | refine grown_drew ?_)) kj2) (fun e => HNE.out (Option.some.inj e).symm)⟩); clear hL7 hg7 hat))
                        all_goals (clear kj0 kj1 kj2 hcut; go_wp2_with fail; go_roundg k1; (case measure => exact Nat.lt_succ_self _); (case rel => exact ⟨g', off2, cap2, rest ++ [((⟨s, num, z⟩ : S57), Value.slice (some ⟨b, 0, none⟩) L c)], wrap64 (num + 1), out2, by first | rfl | simp, rfl, ⟨by rw [List.map_append]; exact HGO2.out⟩, ⟨by simp, by have h1 := HNL.out; have h2 := HG.out.2.1; rw [List.length_append, List.length_singleton]; omega, HOL.out, HA7.out.2.2.2⟩, HL7, ⟨HA7.out.1⟩, ⟨HA7.out.2.1⟩, ⟨HA7.out.2.2.1⟩⟩))
                · rw [if_neg hgd] at hf
                  cases hf
    · rw [if_neg hl] at h
      cases h


end Go.Proofs.Ytkpobdcnggdjaaa.PFnExactBestLengths
