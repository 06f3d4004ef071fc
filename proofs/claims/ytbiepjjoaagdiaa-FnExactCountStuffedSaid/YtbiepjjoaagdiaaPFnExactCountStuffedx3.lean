-- Written by a program of this session (mkprint.py) over the print of the translation. Not trusted: Lean checks it.
import Derived.Test.YtbiepjjoaagdiaaPFnExactCountStuffedx0
namespace Go.Proofs.Ytbiepjjoaagdiaa.PFnExactCountStuffed
open Go.RowKit Go.Proofs.YtbiepjjoaagdiaaW.PrintWords Go.Proofs.YtbiepjjoaagdiaaW.PrintLast Go.Proofs.YtbiepjjoaagdiaaW.PrintMore
attribute [local go_sem] max2_int min2_int max_two min_two max_three min_three max_four min_four   -- for this text's walks alone
set_option linter.unusedVariables false
set_option linter.unusedSimpArgs false

/-! ### laws_toStuffer: function 5 -/
def laws_toStuffer.f (a0_0 : Int) (a0_1 : Int) : Option (Int × Int) := some (a0_0, a0_1)
set_option maxHeartbeats 8000000 in
set_option maxRecDepth 100000 in
theorem laws_toStuffer.calls (a0_0 : Int) (a0_1 : Int) (r1 : Int) (r2 : Int) (w : World) (h : laws_toStuffer.f a0_0 a0_1 = some (r1, r2)) :
    Calls Try.prog 5 #[.agg #[.int .i64 a0_0, .int .i64 a0_1]] w fun e w' => e = .returned (.agg #[.int .i64 r1, .int .i64 r2]) ∧ Below w.heap.size w w' := by
  have hu23 := Try.underlying23
  have hu27 := Try.underlying27
  have HB := Aside0.mk (Below.refl w.heap.size w)
  have H : (some (a0_0, a0_1)) = some (r1, r2) := h
  clear h
  simp only [Option.some.injEq, Prod.mk.injEq] at H
  obtain ⟨rfl, rfl⟩ := H
  go_enter Try.func5, Try.ntmps5
  go_wp2_with (first | ((with_reducible refine gate_dst (N := 1) rfl ?_); refine box_event ?hg (N := 1) ?hd (cs := #[.int .i64 a0_0, .int .i64 a0_1]) (t := 23) ?hr ?_; (case hd => rfl); (case hg => rfl); (case hr => first | (go_simp; done) | (go_simp; rfl)); intro gb127 hg w2 hbox hb; have n0_ := Aside0.mk (below_step (by repeat (first | (with_reducible first | exact HB.out | apply below_alloc | apply pw_below_drewN | apply below_drew1) | exact HB.out)) hb); have n1_ := Aside0.mk (hbox); have n2_ := Aside0.mk ((by rw [hg]; exact (below_size (by repeat (first | (with_reducible first | exact HB.out | apply below_alloc | apply pw_below_drewN | apply below_drew1) | exact HB.out))) : w.heap.size ≤ gb127)); have n3_ := Aside0.mk ((by rw [hg]; exact (below_size (by repeat (first | (with_reducible first | exact HB.out | apply below_alloc | apply pw_below_drewN | apply below_drew1) | exact HB.out))) : w.heap.size ≤ gb127)); clear HB; have HB := n0_; have BK127 := n1_; have GW127 := n2_; have GE127 := n3_; clear n0_ n1_ n2_ n3_; clear hb hbox hg) | ((with_reducible refine gate_dst (N := 2) rfl ?_); refine box_event ?hg (N := 2) ?hd (cs := #[.int .i64 0, .int .i64 0]) (t := 27) ?hr ?_; (case hd => rfl); (case hg => rfl); (case hr => first | (go_simp; done) | (go_simp; rfl)); intro gb128 hg w3 hbox hb; have n0_ := Aside0.mk (blk_below (g := gb127) (o := .cells #[.int .i64 a0_0, .int .i64 a0_1] 23 (0, 0)) (by (with_reducible repeat (first | refine blk_drewN ?_ _ | refine blk_drew ?_ | refine blk_alloc ?_ _)); exact BK127.out) hb); have n1_ := Aside0.mk (below_step (by repeat (first | (with_reducible first | exact HB.out | apply below_alloc | apply pw_below_drewN | apply below_drew1 | refine below_set ?_ GE127.out) | exact HB.out)) hb); have n2_ := Aside0.mk (hbox); have n3_ := Aside0.mk ((by rw [hg]; exact (below_size (by repeat (first | (with_reducible first | exact HB.out | apply below_alloc | apply pw_below_drewN | apply below_drew1 | refine below_set ?_ GE127.out) | exact HB.out))) : w.heap.size ≤ gb128)); have n4_ := Aside0.mk ((by rw [hg]; exact (below_size (by repeat (first | (with_reducible first | exact HB.out | apply below_alloc | apply pw_below_drewN | apply below_drew1 | refine below_set ?_ GE127.out) | exact HB.out))) : w.heap.size ≤ gb128)); have n5_ := Aside0.mk ((by rw [hg]; exact Nat.ne_of_lt (blk_lt (g := gb127) (o := .cells #[.int .i64 a0_0, .int .i64 a0_1] 23 (0, 0)) (by (with_reducible repeat (first | refine blk_drewN ?_ _ | refine blk_drew ?_ | refine blk_alloc ?_ _)); exact BK127.out)) : gb127 ≠ gb128)); have n6_ := Aside0.mk ((by rw [hg]; exact Nat.ne_of_gt (blk_lt (g := gb127) (o := .cells #[.int .i64 a0_0, .int .i64 a0_1] 23 (0, 0)) (by (with_reducible repeat (first | refine blk_drewN ?_ _ | refine blk_drew ?_ | refine blk_alloc ?_ _)); exact BK127.out)) : gb128 ≠ gb127)); clear BK127; clear HB; have BK127 := n0_; have HB := n1_; have BK128 := n2_; have GW128 := n3_; have GE128 := n4_; have NB127_128 := n5_; have NB128_127 := n6_; clear n0_ n1_ n2_ n3_ n4_ n5_ n6_; clear hb hbox hg) | ((with_reducible refine gate_dst (N := 3) rfl ?_); refine box_event ?hg (N := 3) ?hd (cs := #[.int .i64 0, .int .i64 0]) (t := 27) ?hr ?_; (case hd => rfl); (case hg => rfl); (case hr => first | (go_simp; done) | (go_simp; rfl)); intro gb129 hg w4 hbox hb; have n0_ := Aside0.mk (blk_below (g := gb127) (o := .cells #[.int .i64 a0_0, .int .i64 a0_1] 23 (0, 0)) (by (with_reducible repeat (first | refine blk_drewN ?_ _ | refine blk_drew ?_ | refine blk_alloc ?_ _)); exact BK127.out) hb); have n1_ := Aside0.mk (blk_below (g := gb128) (o := .cells #[.int .i64 0, .int .i64 0] 27 (0, 0)) (by (with_reducible repeat (first | refine blk_drewN ?_ _ | refine blk_drew ?_ | refine blk_alloc ?_ _)); exact BK128.out) hb); have n2_ := Aside0.mk (below_step (by repeat (first | (with_reducible first | exact HB.out | apply below_alloc | apply pw_below_drewN | apply below_drew1 | refine below_set ?_ GE127.out | refine below_set ?_ GE128.out) | exact HB.out)) hb); have n3_ := Aside0.mk (hbox); have n4_ := Aside0.mk ((by rw [hg]; exact (below_size (by repeat (first | (with_reducible first | exact HB.out | apply below_alloc | apply pw_below_drewN | apply below_drew1 | refine below_set ?_ GE127.out | refine below_set ?_ GE128.out) | exact HB.out))) : w.heap.size ≤ gb129)); have n5_ := Aside0.mk ((by rw [hg]; exact (below_size (by repeat (first | (with_reducible first | exact HB.out | apply below_alloc | apply pw_below_drewN | apply below_drew1 | refine below_set ?_ GE127.out | refine below_set ?_ GE128.out) | exact HB.out))) : w.heap.size ≤ gb129)); have n6_ := Aside0.mk ((by rw [hg]; exact Nat.ne_of_lt (blk_lt (g := gb127) (o := .cells #[.int .i64 a0_0, .int .i64 a0_1] 23 (0, 0)) (by (with_reducible repeat (first | refine blk_drewN ?_ _ | refine blk_drew ?_ | refine blk_alloc ?_ _)); exact BK127.out)) : gb127 ≠ gb129)); have n7_ := Aside0.mk ((by rw [hg]; exact Nat.ne_of_gt (blk_lt (g := gb127) (o := .cells #[.int .i64 a0_0, .int .i64 a0_1] 23 (0, 0)) (by (with_reducible repeat (first | refine blk_drewN ?_ _ | refine blk_drew ?_ | refine blk_alloc ?_ _)); exact BK127.out)) : gb129 ≠ gb127)); have n8_ := Aside0.mk ((by rw [hg]; exact Nat.ne_of_lt (blk_lt (g := gb128) (o := .cells #[.int .i64 0, .int .i64 0] 27 (0, 0)) (by (with_reducible repeat (first | refine blk_drewN ?_ _ | refine blk_drew ?_ | refine blk_alloc ?_ _)); exact BK128.out)) : gb128 ≠ gb129)); have n9_ := Aside0.mk ((by rw [hg]; exact Nat.ne_of_gt (blk_lt (g := gb128) (o := .cells #[.int .i64 0, .int .i64 0] 27 (0, 0)) (by (with_reducible repeat (first | refine blk_drewN ?_ _ | refine blk_drew ?_ | refine blk_alloc ?_ _)); exact BK128.out)) : gb129 ≠ gb128)); clear BK127; clear BK128; clear HB; have BK127 := n0_; have BK128 := n1_; have HB := n2_; have BK129 := n3_; have GW129 := n4_; have GE129 := n5_; have NB127_129 := n6_; have NB129_127 := n7_; have NB128_129 := n8_; have NB129_128 := n9_; clear n0_ n1_ n2_ n3_ n4_ n5_ n6_ n7_ n8_ n9_; clear hb hbox hg; have hnb5 := NB127_128.out; have hnc5 := NB128_127.out; have hnb6 := NB127_129.out; have hnc6 := NB129_127.out; have hcz7_0 : w4.cell? ⟨gb127, 0, none⟩ = some (.int .i64 a0_0) := (blk_cell BK127.out 0).trans rfl; have hcz7_1 : w4.cell? ⟨gb127, 1, none⟩ = some (.int .i64 a0_1) := (blk_cell BK127.out 1).trans rfl; have hfz7_0 := blk_frozen BK127.out 0; have hfz7_1 := blk_frozen BK127.out 1; have hnb8 := NB129_128.out; have hnc8 := NB128_129.out; have hcz9_0 : w4.cell? ⟨gb129, 0, none⟩ = some (.int .i64 0) := (blk_cell BK129.out 0).trans rfl; have hcz9_1 : w4.cell? ⟨gb129, 1, none⟩ = some (.int .i64 0) := (blk_cell BK129.out 1).trans rfl; have hfz9_0 := blk_frozen BK129.out 0; have hfz9_1 := blk_frozen BK129.out 1; have hcz10_0 : w4.cell? ⟨gb128, 0, none⟩ = some (.int .i64 0) := (blk_cell BK128.out 0).trans rfl; have hcz10_1 : w4.cell? ⟨gb128, 1, none⟩ = some (.int .i64 0) := (blk_cell BK128.out 1).trans rfl; have hfz10_0 := blk_frozen BK128.out 0; have hfz10_1 := blk_frozen BK128.out 1))
  refine bodyPost_ret (results_cell_row rfl _ _ gb128 27 #[.int .i64 a0_0, .int .i64 a0_1] (0, 0) _ rfl (by (with_reducible repeat (first | refine blk_drewN ?_ _ | refine blk_drew ?_ | refine blk_alloc ?_ _)); refine blk_put (cs := #[.int .i64 a0_0, .int .i64 0]) ?_ 1 _ rfl; (with_reducible repeat (first | refine blk_drewN ?_ _ | refine blk_drew ?_ | refine blk_alloc ?_ _)); refine blk_put (cs := #[.int .i64 0, .int .i64 0]) ?_ 0 _ rfl; (with_reducible repeat (first | refine blk_drewN ?_ _ | refine blk_drew ?_ | refine blk_alloc ?_ _)); refine blk_far ?_ NB128_129.out _; (with_reducible repeat (first | refine blk_drewN ?_ _ | refine blk_drew ?_ | refine blk_alloc ?_ _)); refine blk_far ?_ NB128_129.out _; (with_reducible repeat (first | refine blk_drewN ?_ _ | refine blk_drew ?_ | refine blk_alloc ?_ _)); exact BK128.out) Try.underlying27 rfl (by kernel_rfl)) rfl ?_
  exact ⟨by first | rfl | (simp [errW_none, errW_some] <;> rfl) | (simp [*, errW_none, errW_some] <;> rfl), by repeat (first | (with_reducible first | exact HB.out | apply below_alloc | apply pw_below_drewN | apply below_drew1 | refine below_set ?_ GE127.out | refine below_set ?_ GE128.out | refine below_set ?_ GE129.out) | exact HB.out)⟩

/-! ### impl_within: function 13 -/
def impl_within.f (a0 : Int) (a1 : Int) (a2 : Int) : Option (Bool) := if a0 ≥ a1 then (some (decide (a0 ≤ a2))) else (some false)
set_option maxHeartbeats 8000000 in
set_option maxRecDepth 100000 in
theorem impl_within.calls (a0 : Int) (a1 : Int) (a2 : Int) (r : Bool) (w : World) (h : impl_within.f a0 a1 a2 = some r) :
    Calls Try.prog 13 #[.int .i64 a0, .int .i64 a1, .int .i64 a2] w fun e w' => e = .returned (.bool r) ∧ Drawn0 w w' := by
  have H : (if a0 ≥ a1 then (some (decide (a0 ≤ a2))) else (some false)) = some r := h
  clear h
  by_cases c4 : a0 ≥ a1
  · rw [if_pos c4] at H
    have c4b0 : decide (a1 ≤ a0) = true := decide_eq_true c4
    clear c4
    obtain rfl := Option.some.inj H
    go_enter Try.func13, Try.ntmps13
    go_wp2
    go_ret
    exact ⟨by first | rfl | (simp; done) | (simp [*]; done), by repeat (first | exact Drawn0.refl _ | apply Drawn0.step)⟩
  · rw [if_neg c4] at H
    have c4b0 : decide (a1 ≤ a0) = false := decide_eq_false c4
    clear c4
    obtain rfl := Option.some.inj H
    go_enter Try.func13, Try.ntmps13
    go_wp2
    go_ret
    exact ⟨by first | rfl | (simp; done) | (simp [*]; done), by repeat (first | exact Drawn0.refl _ | apply Drawn0.step)⟩

/-! ### impl_ValidStuffer: function 12 -/
def impl_ValidStuffer.f (a0_0 : Int) (a0_1 : Int) : Option (Bool) := (impl_within.f a0_0 1 10).bind fun t131 => (if t131 = true then ((impl_within.f a0_1 0 1).bind fun t132 => (some t132)) else (some false))
set_option maxHeartbeats 8000000 in
set_option maxRecDepth 100000 in
theorem impl_ValidStuffer.calls (a0_0 : Int) (a0_1 : Int) (r : Bool) (w : World) (h : impl_ValidStuffer.f a0_0 a0_1 = some r) :
    Calls Try.prog 12 #[.agg #[.int .i64 a0_0, .int .i64 a0_1]] w fun e w' => e = .returned (.bool r) ∧ Below w.heap.size w w' := by
  have hu27 := Try.underlying27
  have HB := Aside0.mk (Below.refl w.heap.size w)
  have H : ((impl_within.f a0_0 1 10).bind fun t131 => (if t131 = true then ((impl_within.f a0_1 0 1).bind fun t132 => (some t132)) else (some false))) = some r := h
  clear h
  replace H := Option.bind_eq_some_iff.mp H
  obtain ⟨t131, A20, H⟩ := H
  replace H : (if t131 = true then ((impl_within.f a0_1 0 1).bind fun t132 => (some t132)) else (some false)) = some r := H
  have A2 := Aside0.mk A20
  clear A20
  by_cases c3 : t131 = true
  · subst c3
    have H1 : ((impl_within.f a0_1 0 1).bind fun t132 => (some t132)) = some r := by rw [if_pos rfl] at H; exact H
    clear H
    have H := H1
    clear H1
    replace H := Option.bind_eq_some_iff.mp H
    obtain ⟨t132, A40, H⟩ := H
    replace H : (some t132) = some r := H
    have A4 := Aside0.mk A40
    clear A40
    obtain rfl := Option.some.inj H
    go_enter Try.func12, Try.ntmps12
    go_wp2_with (first | ((with_reducible refine gate_dst (N := 1) rfl ?_); refine box_event ?hg (N := 1) ?hd (cs := #[.int .i64 a0_0, .int .i64 a0_1]) (t := 27) ?hr ?_; (case hd => rfl); (case hg => rfl); (case hr => first | (go_simp; done) | (go_simp; rfl)); intro gb130 hg w5 hbox hb; have n0_ := Aside0.mk (below_step (by repeat (first | (with_reducible first | exact HB.out | apply below_alloc | apply pw_below_drewN | apply below_drew1) | exact HB.out)) hb); have n1_ := Aside0.mk (hbox); have n2_ := Aside0.mk ((by rw [hg]; exact (below_size (by repeat (first | (with_reducible first | exact HB.out | apply below_alloc | apply pw_below_drewN | apply below_drew1) | exact HB.out))) : w.heap.size ≤ gb130)); have n3_ := Aside0.mk ((by rw [hg]; exact (below_size (by repeat (first | (with_reducible first | exact HB.out | apply below_alloc | apply pw_below_drewN | apply below_drew1) | exact HB.out))) : w.heap.size ≤ gb130)); clear HB; have HB := n0_; have BK130 := n1_; have GW130 := n2_; have GE130 := n3_; clear n0_ n1_ n2_ n3_; clear hb hbox hg; have hcz6_0 : w5.cell? ⟨gb130, 0, none⟩ = some (.int .i64 a0_0) := (blk_cell BK130.out 0).trans rfl; have hcz6_1 : w5.cell? ⟨gb130, 1, none⟩ = some (.int .i64 a0_1) := (blk_cell BK130.out 1).trans rfl; have hfz6_0 := blk_frozen BK130.out 0; have hfz6_1 := blk_frozen BK130.out 1) | ((with_reducible refine gate_callee (f := 13) rfl ?_); refine goesL_ (some 5) rfl rfl Try.func13 (by kernel_rfl) rfl #[.int .i64 a0_0, .int .i64 1, .int .i64 10] rfl (by (try simp only [List.map_toArray, List.map_cons, List.map_nil]); first | done | rfl | (simp only [List.length_drop, List.length_take]; rfl)) ?_; (with_reducible refine (impl_within.calls a0_0 1 10 true _ A2.out).mono ?_); rintro e w' ⟨rfl, ⟨nd, rfl⟩⟩; refine ⟨_, rfl, ?_⟩) | (go_at_call 13; (with_reducible refine (impl_within.calls a0_1 0 1 t132 _ A4.out).mono ?_); rintro e w' ⟨rfl, ⟨nd, rfl⟩⟩))
    go_ret
    exact ⟨by first | rfl | (simp [errW_none, errW_some] <;> rfl) | (simp [*, errW_none, errW_some] <;> rfl), by repeat (first | (with_reducible first | exact HB.out | apply below_alloc | apply pw_below_drewN | apply below_drew1 | refine below_set ?_ GE130.out) | exact HB.out)⟩
  · replace c3 := Bool.eq_false_iff.mpr c3
    subst c3
    have H1 : (some false) = some r := by rw [if_neg (show ¬ (false = true) by decide)] at H; exact H
    clear H
    have H := H1
    clear H1
    obtain rfl := Option.some.inj H
    go_enter Try.func12, Try.ntmps12
    go_wp2_with (first | ((with_reducible refine gate_dst (N := 1) rfl ?_); refine box_event ?hg (N := 1) ?hd (cs := #[.int .i64 a0_0, .int .i64 a0_1]) (t := 27) ?hr ?_; (case hd => rfl); (case hg => rfl); (case hr => first | (go_simp; done) | (go_simp; rfl)); intro gb130 hg w7 hbox hb; have n0_ := Aside0.mk (below_step (by repeat (first | (with_reducible first | exact HB.out | apply below_alloc | apply pw_below_drewN | apply below_drew1) | exact HB.out)) hb); have n1_ := Aside0.mk (hbox); have n2_ := Aside0.mk ((by rw [hg]; exact (below_size (by repeat (first | (with_reducible first | exact HB.out | apply below_alloc | apply pw_below_drewN | apply below_drew1) | exact HB.out))) : w.heap.size ≤ gb130)); have n3_ := Aside0.mk ((by rw [hg]; exact (below_size (by repeat (first | (with_reducible first | exact HB.out | apply below_alloc | apply pw_below_drewN | apply below_drew1) | exact HB.out))) : w.heap.size ≤ gb130)); clear HB; have HB := n0_; have BK130 := n1_; have GW130 := n2_; have GE130 := n3_; clear n0_ n1_ n2_ n3_; clear hb hbox hg; have hcz8_0 : w7.cell? ⟨gb130, 0, none⟩ = some (.int .i64 a0_0) := (blk_cell BK130.out 0).trans rfl; have hcz8_1 : w7.cell? ⟨gb130, 1, none⟩ = some (.int .i64 a0_1) := (blk_cell BK130.out 1).trans rfl; have hfz8_0 := blk_frozen BK130.out 0; have hfz8_1 := blk_frozen BK130.out 1) | ((with_reducible refine gate_callee (f := 13) rfl ?_); refine goesL_ (some 5) rfl rfl Try.func13 (by kernel_rfl) rfl #[.int .i64 a0_0, .int .i64 1, .int .i64 10] rfl (by (try simp only [List.map_toArray, List.map_cons, List.map_nil]); first | done | rfl | (simp only [List.length_drop, List.length_take]; rfl)) ?_; (with_reducible refine (impl_within.calls a0_0 1 10 false _ A2.out).mono ?_); rintro e w' ⟨rfl, ⟨nd, rfl⟩⟩; refine ⟨_, rfl, ?_⟩))
    go_ret
    exact ⟨by first | rfl | (simp [errW_none, errW_some] <;> rfl) | (simp [*, errW_none, errW_some] <;> rfl), by repeat (first | (with_reducible first | exact HB.out | apply below_alloc | apply pw_below_drewN | apply below_drew1 | refine below_set ?_ GE130.out) | exact HB.out)⟩

/-! ### impl_CountStuffed: function 6, told by hand -/
theorem cs_info24 : (Try.prog.info? 24).map (fun i => (i.zero, i.size, i.bytes)) = some (some (.slice none 0 0), 1, 24) := by kernel_rfl
theorem cs_info2 : (Try.prog.info? 2).map (fun i => (i.zero, i.size, i.bytes)) = some (some (.int .i64 0), 1, 8) := by kernel_rfl
abbrev CsM := List (List Int)
def csRd (M : CsM) (r : Nat) : List Int := M.getD r []
def csPut (M : CsM) (r n : Nat) (v : Int) : CsM := M.set r ((csRd M r).set n v)
def csAdd (M : CsM) (r n : Nat) (x : Int) : CsM := csPut M r n (wrap64 (rd (csRd M r) (n : Int) + x))
def csStep (A r n m : Nat) (x : Int) (M : CsM) : Option CsM :=
  if r + 1 < A then some (csAdd (csAdd M 0 n x) (r + 1) n x) else if x > 0 then (if n + 1 < m then some (csAdd (csAdd M 0 n x) 0 (n + 1) x) else none) else some (csAdd M 0 n x)
def csRow (A r m : Nat) : List Int → Nat → CsM → Option CsM
  | [], _, M => some M
  | x :: t, n, M => (csStep A r n m x M).bind fun M' => csRow A r m t (n + 1) M'
def csAll (A m : Nat) : CsM → Nat → CsM → Option CsM
  | [], _, M => some M
  | row :: t, r, M => (csRow A r m row 0 M).bind fun M' => csAll A m t (r + 1) M'
def csZeros (A m : Nat) : CsM := List.replicate A (List.replicate m 0)
def csIter (A m : Nat) : Nat → CsM → Option CsM
  | 0, M => some M
  | k + 1, M => (csAll A m M 0 (csZeros A m)).bind fun M' => csIter A m k M'
def csOR (row : List Int) : Nat → Nat → List Int → List Int
  | 0, _, out => out
  | d + 1, n, out => csOR row d (n + 1) (out.set n (wrap64 (rd out (n : Int) + rd row (n : Int))))
def csOut : CsM → List Int → List Int
  | [], out => out
  | row :: t, out => csOut t (csOR row out.length 0 out)
def impl_CountStuffed.f (a0_0 a0_1 a1 : Int) : Option (List Int × Bool) :=
  (impl_ValidStuffer.f a0_0 a0_1).bind fun b => if b = true then ((impl_within.f a1 0 60).bind fun c => if c = true then
    (if 1 ≤ a0_0 ∧ a0_0 ≤ 10 ∧ 0 ≤ a1 ∧ a1 ≤ 60 then (csIter a0_0.toNat (a1.toNat / a0_0.toNat + 2) a1.toNat (csPut (csZeros a0_0.toNat (a1.toNat / a0_0.toNat + 2)) 0 0 1)).bind fun M => some (csOut M (List.replicate (a1.toNat / a0_0.toNat + 1) 0), true) else none) else some ([], false)) else some ([], false)
structure CsMat (w : World) (g A m : Nat) (M : CsM) : Prop where
  hd : w.heap[g]? = some (.cells ((List.range A).map fun r => Value.slice (some ⟨g + 1 + r, 0, none⟩) m m).toArray 24 (0, 0))
  len : M.length = A
  rows : ∀ r, r < A → (csRd M r).length = m ∧ w.heap[g + 1 + r]? = some (.cells ((csRd M r).map (Value.int .i64)).toArray 2 (0, 0))
theorem CsMat.cellH {w : World} {g A m : Nat} {M : CsM} (h : CsMat w g A m M) {r : Nat} (hr : r < A) : w.cell? ⟨g, r, none⟩ = some (.slice (some ⟨g + 1 + r, 0, none⟩) m m) := by
  rw [blk_cell h.hd]
  simp [hr]
theorem CsMat.cellR {w : World} {g A m : Nat} {M : CsM} (h : CsMat w g A m M) {r n : Nat} (hr : r < A) (hn : n < m) : w.cell? ⟨g + 1 + r, n, none⟩ = some (.int .i64 (rd (csRd M r) (n : Int))) := by
  obtain ⟨h1, h2⟩ := h.rows r hr
  rw [blk_cell h2]
  unfold rd
  rw [Int.toNat_natCast, List.getD_eq_getElem?_getD]
  simp [h1, hn]
theorem CsMat.frzR {w : World} {g A m : Nat} {M : CsM} (h : CsMat w g A m M) {r n : Nat} (hr : r < A) : w.frozen? ⟨g + 1 + r, n, none⟩ = false := blk_frozen (h.rows r hr).2 n
theorem CsMat.far {w w' : World} {g A m : Nat} {M : CsM} (h : CsMat w g A m M) (hk : ∀ k, g ≤ k → k ≤ g + A → w'.heap[k]? = w.heap[k]?) : CsMat w' g A m M :=
  ⟨(hk g (Nat.le_refl _) (by omega)).trans h.hd, h.len, fun r hr => ⟨(h.rows r hr).1, (hk _ (by omega) (by omega)).trans (h.rows r hr).2⟩⟩
theorem csRd_put (M : CsM) (r n : Nat) (v : Int) (i : Nat) (hr : r < M.length) : csRd (csPut M r n v) i = if i = r then (csRd M r).set n v else csRd M i := by
  unfold csPut csRd
  rw [List.getD_eq_getElem?_getD, List.getElem?_set]
  by_cases e : r = i
  · subst e
    rw [if_pos rfl, if_pos rfl, if_pos hr]
    rfl
  · rw [if_neg e, if_neg (fun g => e g.symm), ← List.getD_eq_getElem?_getD]
theorem CsMat.put {w : World} {g A m : Nat} {M : CsM} (h : CsMat w g A m M) {r n : Nat} (v : Int) (hr : r < A) : CsMat (w.setCell ⟨g + 1 + r, n, none⟩ (.int .i64 v)) g A m (csPut M r n v) := by
  refine ⟨(blk_far h.hd (by show g ≠ g + 1 + r; omega) _), by rw [csPut, List.length_set]; exact h.len, fun i hi => ?_⟩
  rw [csRd_put M r n v i (by rw [h.len]; exact hr)]
  by_cases e : i = r
  · subst e
    rw [if_pos rfl]
    refine ⟨by rw [List.length_set]; exact (h.rows i hi).1, blk_put (h.rows i hi).2 n _ ?_⟩
    rw [List.map_set, List.setIfInBounds_toArray]
  · rw [if_neg e]
    exact ⟨(h.rows i hi).1, blk_far (h.rows i hi).2 (by show g + 1 + i ≠ g + 1 + r; omega) _⟩
theorem CsMat.below {w w' : World} {g A m : Nat} {M : CsM} (h : CsMat w g A m M) (hb : Below w.heap.size w w') : CsMat w' g A m M :=
  ⟨blk_below h.hd hb, h.len, fun r hr => ⟨(h.rows r hr).1, blk_below (h.rows r hr).2 hb⟩⟩
theorem CsMat.store {w : World} {g A m : Nat} {M : CsM} (h : CsMat w g A m M) {b o : Nat} {u : Value} (hb : b < g ∨ g + A < b) : CsMat (w.setCell ⟨b, o, none⟩ u) g A m M :=
  h.far (fun k h1 h2 => Below.heap_setCell w ⟨b, o, none⟩ u k (by show k ≠ b; omega))
structure CsPart (w : World) (g A m r : Nat) : Prop where
  hd : w.heap[g]? = some (.cells ((List.range A).map fun i => if i < r then Value.slice (some ⟨g + 1 + i, 0, none⟩) m m else .slice none 0 0).toArray 24 (0, 0))
  rows : ∀ i, i < r → w.heap[g + 1 + i]? = some (.cells (List.replicate m (Value.int .i64 0)).toArray 2 (0, 0))
  size : w.heap.size = g + 1 + r
theorem CsPart.done {w : World} {g A m : Nat} (h : CsPart w g A m A) : CsMat w g A m (csZeros A m) where
  hd := by
    rw [h.hd]
    congr 3
    apply List.map_congr_left
    intro i hi
    rw [if_pos (List.mem_range.1 hi)]
  len := by simp [csZeros]
  rows := fun r hr => by
    have e : csRd (csZeros A m) r = List.replicate m 0 := by
      unfold csRd csZeros
      rw [List.getD_eq_getElem?_getD, List.getElem?_replicate, if_pos hr]
      rfl
    rw [e]
    refine ⟨by simp, ?_⟩
    rw [h.rows r hr, List.map_replicate]
theorem CsPart.start {w w1 : World} (A m : Nat) (hw : w1 = w.alloc (.cells (List.replicate A (Value.slice none 0 0)).toArray 24)) : CsPart w1 w.heap.size A m 0 := by
  subst hw
  refine ⟨?_, fun i hi => by omega, by simp⟩
  rw [heap_alloc_new]
  congr 3
  apply List.ext_getElem (by simp)
  intro i h1 h2
  simp
theorem CsPart.make {w w1 : World} {g A m r : Nat} (h : CsPart w g A m r) (hr : r < A) (hw : w1 = w.alloc (.cells (List.replicate m (Value.int .i64 0)).toArray 2)) :
    (w1.cell? ⟨g, r, none⟩ = some (.slice none 0 0) ∧ w1.frozen? ⟨g, r, none⟩ = false) ∧ CsPart (w1.setCell ⟨g, r, none⟩ (.slice (some ⟨w.heap.size, 0, none⟩) m m)) g A m (r + 1) := by
  have hs := h.size
  have hd1 := blk_alloc h.hd (.cells (List.replicate m (Value.int .i64 0)).toArray 2)
  rw [← hw] at hd1
  have hnew : w1.heap[w.heap.size]? = some (.cells (List.replicate m (Value.int .i64 0)).toArray 2 (0, 0)) := by rw [hw]; exact heap_alloc_new w _
  have hrow : ∀ i, i < r → w1.heap[g + 1 + i]? = some (.cells (List.replicate m (Value.int .i64 0)).toArray 2 (0, 0)) := fun i hi => by rw [hw]; exact blk_alloc (h.rows i hi) _
  have hsz : w1.heap.size = g + 1 + r + 1 := by rw [hw]; simp [hs]
  refine ⟨⟨?_, blk_frozen hd1 r⟩, ?_⟩
  · rw [blk_cell hd1]
    simp [hr]
  · refine ⟨blk_put hd1 r _ ?_, fun i hi => ?_, by simp [World.setCell, hsz]; omega⟩
    · rw [List.setIfInBounds_toArray]
      congr 1
      apply List.ext_getElem (by simp)
      intro i h1 h2
      rw [List.getElem_set]
      simp only [List.getElem_map, List.getElem_range]
      by_cases e : r = i
      · subst e
        rw [if_pos rfl, if_pos (by omega), hs]
      · rw [if_neg e]
        by_cases c : i < r
        · rw [if_pos c, if_pos (by omega)]
        · rw [if_neg c, if_neg (by omega)]
    · by_cases e : i < r
      · exact blk_far (hrow i e) (by show g + 1 + i ≠ g; omega) _
      · obtain rfl : i = r := by omega
        rw [hs] at hnew
        exact blk_far hnew (by show g + 1 + i ≠ g; omega) _
theorem cs_drop {M : CsM} {r A : Nat} (h : M.length = A) (hr : r < A) : M.drop r = csRd M r :: M.drop (r + 1) := by
  subst h
  rw [List.drop_eq_getElem_cons hr]
  congr 1
  unfold csRd
  rw [List.getD_eq_getElem?_getD, List.getElem?_eq_getElem hr]
  rfl
theorem cs_dropL {l : List Int} {n m : Nat} (h : l.length = m) (hn : n < m) : l.drop n = rd l (n : Int) :: l.drop (n + 1) := by
  subst h
  rw [List.drop_eq_getElem_cons hn]
  congr 1
  unfold rd
  rw [Int.toNat_natCast, List.getD_eq_getElem?_getD, List.getElem?_eq_getElem hn]
  rfl
section
variable {P : Program} {ops : Array Oper} {rest : List Oper} {o : Oper} {a : Act} {Q : Exit → Act → World → Prop} {W : World}
theorem cs_make (hgd : o.guard = none) {N : Tmp} (hd : o.dst = some N) (t e : TypeId) (x y : Operand) (ho : o.op = .makeSlice t x y) (n : Nat) (hx : a.eval x = .int .i64 (n : Int)) (hy : a.eval y = .int .i64 (n : Int))
    (ht : P.underlying t = some (.slice e)) (z : Value) (bytes : Nat) (hinfo : (P.info? e).map (fun i => (i.zero, i.size, i.bytes)) = some (some z, 1, bytes)) (hz : z.cells = #[z]) (hb : bytes ≤ 100) (hn : n ≤ 1000)
    (h : ∀ g w1, g = W.heap.size → w1 = W.alloc (.cells (List.replicate n z).toArray e) → Below W.heap.size W w1 → wpList P ops Q rest (a.put o.dst (.slice (some ⟨g, 0, none⟩) n n)) w1) : wpList P ops Q (o :: rest) a W := by
  obtain ⟨i0, hi, hzz⟩ := Option.map_eq_some_iff.1 hinfo
  simp only [Prod.mk.injEq] at hzz
  obtain ⟨hz0, hz1, hz2⟩ := hzz
  have hr := run_make (P := P) W t e i0 z ht hi hz0 .i64 .i64 (n : Int) (n : Int) (by omega) (by omega)
    (by
      have h1 : i0.bytes * n ≤ 100 * 1000 := Nat.mul_le_mul (by omega) hn
      have h3 : ((i0.bytes * n : Nat) : Int) ≤ 281474976710656 := by omega
      rwa [Int.natCast_mul] at h3) (by omega)
  simp only [Int.toNat_natCast] at hr
  rw [hz1, Nat.mul_one] at hr
  have hm : madeCells z.cells n = (List.replicate n z).toArray := by
    apply Array.ext'
    apply List.ext_getElem
    · simp [madeCells]
    · intro i h1 h2
      simp [madeCells, hz, Nat.mod_one]
  rw [hm] at hr
  refine Kd.event_run hgd (v := .slice (some ⟨W.heap.size, 0, none⟩) n n) (w1 := W.alloc (.cells (List.replicate n z).toArray e)) ?_ (h _ _ rfl rfl (below_alloc (Below.refl _ _) _))
  simp [execOp, ho, hx, hy, hr]
end
set_option maxHeartbeats 8000000 in
set_option maxRecDepth 100000 in
theorem impl_CountStuffed.calls (a0_0 a0_1 a1 : Int) (r1 : List Int) (r2 : Bool) (w : World) (h : impl_CountStuffed.f a0_0 a0_1 a1 = some (r1, r2)) :
    Calls Try.prog 6 #[.agg #[.int .i64 a0_0, .int .i64 a0_1], .int .i64 a1] w fun e w' => ∃ v0_ : Value, e = .returned (.tuple #[v0_, .bool r2]) ∧ Kd.R (Kd.int .i64) 2 w' w.heap.size (fun _ => True) v0_ r1 ∧ Below w.heap.size w w' := by
  have hu27 := Try.underlying27
  unfold impl_CountStuffed.f at h
  obtain ⟨b, hb, h⟩ := Option.bind_eq_some_iff.1 h
  have HV := Aside0.mk hb
  clear hb
  go_enter Try.func6, Try.ntmps6
  go_upto_region 1 with (first | ((with_reducible refine gate_dst (N := 2) rfl ?_); refine box_event ?hg (N := 2) ?hd (cs := #[.int .i64 a0_0, .int .i64 a0_1]) (t := 27) ?hr ?_; (case hd => rfl); (case hg => rfl); (case hr => first | (go_simp; done) | (go_simp; rfl)); intro gb hgb w4 hbox hbe; have HGB := Aside0.mk hgb; have HX := Aside0.mk hbox; have HB := Aside0.mk hbe; clear hgb hbox hbe))
  (try simp only [Act.put, List.setIfInBounds_toArray, List.set_cons_zero, List.set_cons_succ])
  have hcz0 : w4.cell? ⟨gb, 0, none⟩ = some (.int .i64 a0_0) := (blk_cell HX.out 0).trans rfl
  have hcz1 : w4.cell? ⟨gb, 1, none⟩ = some (.int .i64 a0_1) := (blk_cell HX.out 1).trans rfl
  cases b with
  | false =>
    cases h
    go_wp2_with (go_at_call 12; refine (impl_ValidStuffer.calls a0_0 a0_1 false _ HV.out).mono ?_; rintro e w5 ⟨rfl, hb5⟩; have HB5 := Aside0.mk hb5; clear hb5)
    go_ret2
    exact ⟨_, rfl, Kd.R_nil _ _ _ _ _, below_step HB.out HB5.out⟩
  | true =>
    replace h : ((impl_within.f a1 0 60).bind fun c => if c = true then
      (if 1 ≤ a0_0 ∧ a0_0 ≤ 10 ∧ 0 ≤ a1 ∧ a1 ≤ 60 then (csIter a0_0.toNat (a1.toNat / a0_0.toNat + 2) a1.toNat (csPut (csZeros a0_0.toNat (a1.toNat / a0_0.toNat + 2)) 0 0 1)).bind fun M => some (csOut M (List.replicate (a1.toNat / a0_0.toNat + 1) 0), true) else none) else some ([], false)) = some (r1, r2) := h
    obtain ⟨c, hc, h⟩ := Option.bind_eq_some_iff.1 h
    have HW := Aside0.mk hc
    clear hc
    cases c with
    | false =>
      cases h
      go_wp2_with (first | (go_at_call 12; refine (impl_ValidStuffer.calls a0_0 a0_1 true _ HV.out).mono ?_; rintro e w5 ⟨rfl, hb5⟩; have HB5 := Aside0.mk hb5; clear hb5) | (go_at_call 13; refine (impl_within.calls a1 0 60 false _ HW.out).mono ?_; rintro e w6 ⟨rfl, ⟨q, rfl⟩⟩))
      go_ret2
      exact ⟨_, rfl, Kd.R_nil _ _ _ _ _, by repeat (first | exact below_step HB.out HB5.out | refine pw_below_drewN ?_ _)⟩
    | true =>
      rw [if_pos rfl] at h
      by_cases hg : 1 ≤ a0_0 ∧ a0_0 ≤ 10 ∧ 0 ≤ a1 ∧ a1 ≤ 60
      · rw [if_pos hg] at h
        obtain ⟨A, rfl⟩ : ∃ A : Nat, a0_0 = (A : Int) := ⟨a0_0.toNat, by omega⟩
        obtain ⟨L, rfl⟩ : ∃ L : Nat, a1 = (L : Int) := ⟨a1.toNat, by omega⟩
        simp only [Int.toNat_natCast] at h
        have hD60 : L / A ≤ 60 := Nat.le_trans (Nat.div_le_self _ _) (by omega)
        have e31 : (L : Int) / (A : Int) = ((L / A : Nat) : Int) := rfl
        obtain ⟨D, hD⟩ : ∃ D, L / A = D := ⟨_, rfl⟩
        rw [hD] at h e31 hD60
        obtain ⟨m, hm⟩ : ∃ m, D + 2 = m := ⟨_, rfl⟩
        rw [hm] at h
        have e30 : wrap64 ((L : Int) / (A : Int)) = (D : Int) := by rw [e31]; unfold wrap64; omega
        have e30w : IntKind.i64.wrap ((L : Int) / (A : Int)) = (D : Int) := (i64_w _).trans e30
        have e30t : IntKind.i64.wrap (Int.tdiv (L : Int) (A : Int)) = (D : Int) := e30w
        have e30u : wrap64 (Int.tdiv (L : Int) (A : Int)) = (D : Int) := e30
        clear e31
        obtain ⟨F, hF, h⟩ := Option.bind_eq_some_iff.1 h
        have hr := Option.some.inj h
        simp only [Prod.mk.injEq] at hr
        obtain ⟨hr1, rfl⟩ := hr
        try clear h
        try clear h
        have HF := Aside0.mk hF
        have HR1 := Aside0.mk hr1
        have HG := Aside0.mk (And.intro (show 1 ≤ A by omega) (And.intro (show A ≤ 10 by omega) (And.intro (show L ≤ 60 by omega) hD60)))
        have z0 : ¬ (A : Int) = 0 := by omega
        have z1 : ((A : Int) == 0) = false := beq_eq_false_iff_ne.mpr z0
        have z2 : ¬ A = 0 := by omega
        have e42 : wrap64 ((D : Int) + 2) = (m : Int) := by unfold wrap64; omega
        have HM := Aside0.mk hm
        have E42 := Aside0.mk e42
        have e42w : IntKind.i64.wrap ((D : Int) + 2) = (m : Int) := (i64_w _).trans e42
        clear hF hr1 h hD hD60 hg hm
        go_upto_region 3 with (first | (go_at_call 12; refine (impl_ValidStuffer.calls A a0_1 true _ HV.out).mono ?_; rintro e w5 ⟨rfl, hb5⟩; have HB5 := Aside0.mk hb5; clear hb5) | (go_at_call 13; refine (impl_within.calls L 0 60 true _ HW.out).mono ?_; rintro e w6 ⟨rfl, ⟨q, rfl⟩⟩))
        obtain ⟨W, hW⟩ : ∃ W, w5.drewN q = W := ⟨_, rfl⟩
        rw [hW]
        have HB6 := Aside0.mk (show Below w4.heap.size w4 W from by rw [← hW]; exact pw_below_drewN HB5.out _)
        have HB7 := Aside0.mk (below_step HB.out HB6.out)
        have HX7 := Aside0.mk (blk_below HX.out HB6.out)
        clear hW HB HX HB5 HB6 hcz0 hcz1 HV HW
        have HB := HB7
        have HX := HX7
        clear HB7 HX7
        have hcz0 : W.cell? ⟨gb, 0, none⟩ = some (.int .i64 A) := (blk_cell HX.out 0).trans rfl
        go_upto_region 5 with (first | ((with_reducible refine gate_dst (N := 33) rfl ?_); refine cs_make rfl (N := 33) rfl 36 24 _ _ rfl A rfl rfl Try.underlying36 (.slice none 0 0) 24 cs_info24 rfl (by decide) (Nat.le_trans HG.out.2.1 (by decide)) ?_; intro g w1 hg hw1 hb1; have HP := Aside0.mk (CsPart.start (w := W) A m hw1); rw [← hg] at HP; have n1 := Aside0.mk (below_step HB.out hb1); have n2 := Aside0.mk (blk_below HX.out hb1); have HG1 := Aside0.mk (show gb + 1 ≤ g ∧ w.heap.size ≤ g from ⟨by rw [hg]; exact blk_lt HX.out, by rw [hg]; exact below_size HB.out⟩); clear HB HX hcz0 hg hw1 hb1; have HB := n1; have HX := n2; clear n1 n2))
        go_wp2_with fail
        go_loopg [36] A (fun gq v36 w' => ∃ r : Nat, v36 = .int .i64 (r : Int) ∧ Aside0 (r ≤ A ∧ A - r ≤ gq) ∧ Aside0 (CsPart w' g A m r) ∧ Aside0 (Below w.heap.size w w') ∧ Aside0 (w'.heap[gb]? = some (.cells #[.int .i64 A, .int .i64 a0_1] 27 (0, 0))))
        case atStart => exact ⟨0, rfl, ⟨by omega, by omega⟩, HP, HB, HX⟩
        case round =>
          clear HP HB HX
          obtain ⟨r, rfl, HJ, HP, HB, HX⟩ := hrel
          have hj1 := HJ.out.1
          have hj2 := HJ.out.2
          by_cases c : r < A
          · have d1 : decide ((r : Int) < (A : Int)) = true := decide_eq_true (by omega)
            have d2 : decide (r < A) = true := decide_eq_true c
            have e1 : wrap64 ((r : Int) + 1) = ((r + 1 : Nat) : Int) := by have := HG.out.2.1; unfold wrap64; omega
            have E1 := Aside0.mk e1
            clear e1
            have p1 := eq_true (show (0 : Int) ≤ (r : Int) by omega)
            have q1 := eq_true (show (r : Int) < (A : Int) by omega)
            have HC := Aside0.mk c
            cases gk with
            | zero => exact absurd hj2 (by omega)
            | succ k1 =>
              have HJ2 := Aside0.mk (And.intro (show r + 1 ≤ A by omega) (show A - (r + 1) ≤ k1 by omega))
              clear hj1 hj2 c HJ
              go_wp2_with (first | ((with_reducible refine gate_dst (N := 43) rfl ?_); refine cs_make rfl (N := 43) rfl 24 2 _ _ rfl m rfl rfl Try.underlying24 (.int .i64 0) 8 cs_info2 rfl (by decide) ?hn ?_; (case hn => exact (by have := HG.out.2.2.2; have := HM.out; omega)); intro g2 w2 hg2 hw2 hb2; obtain ⟨⟨k1_, k2_⟩, k3_⟩ := HP.out.make HC.out hw2; rw [← hg2] at k3_; have n1 := Aside0.mk (below_step HB.out hb2); have n2 := Aside0.mk (blk_below HX.out hb2); have n3 := Aside0.mk k3_; clear HB HX HP hg2 hw2 hb2 k3_; have HB := n1; have HX := n2; have HP := n3; clear n1 n2 n3))
              go_roundg k1
              case measure => omega
              case rel => exact ⟨r + 1, by rw [E1.out], HJ2, HP, ⟨below_set HB.out HG1.out.2⟩, ⟨blk_far HX.out (by have := HG1.out.1; show gb ≠ g; omega) _⟩⟩
          · have d1 : decide ((r : Int) < (A : Int)) = false := decide_eq_false (by omega)
            have d2 : decide (r < A) = false := decide_eq_false c
            obtain rfl : A = r := by omega
            clear hj1 hj2 c HJ
            have HM1 := Aside0.mk HP.out.done
            have HS1 := Aside0.mk HP.out.size
            clear HP
            obtain ⟨hA1, hA2, hL, hD⟩ := HG.out
            have hmD := HM.out
            obtain ⟨b0, hb0⟩ : ∃ b0, g + 1 + 0 = b0 := ⟨_, rfl⟩
            have k1 := HM1.out.cellH (r := 0) (by omega)
            have k2 := HM1.out.cellR (r := 0) (n := 0) (by omega) (by omega)
            have k3 := HM1.out.frzR (r := 0) (n := 0) (by omega)
            rw [hb0] at k1 k2 k3
            have f1 := eq_true (show (0 : Int) < (A : Int) by omega)
            have f2 := eq_true (show 0 < A by omega)
            have f3 := eq_true (show (0 : Int) < (m : Int) by omega)
            have f4 := eq_true (show 0 < m by omega)
            have hm0 := HM1.out.put (r := 0) (n := 0) 1 (by omega)
            rw [hb0] at hm0
            have HM2 := Aside0.mk hm0
            have HB2 := Aside0.mk (below_set (g := b0) (j := 0) (v := .int .i64 1) HB.out (by have := HG1.out.2; show w.heap.size ≤ b0; omega))
            have HX2 := Aside0.mk (blk_far HX.out (p := ⟨b0, 0, none⟩) (by have := HG1.out.1; show gb ≠ b0; omega) (.int .i64 1))
            have HS2 := Aside0.mk (show g + A < (wr.setCell ⟨b0, 0, none⟩ (.int .i64 1)).heap.size by have := HS1.out; simp [World.setCell]; omega)
            clear hm0 HB HX HM1 hA1 hA2 hL hD hmD hb0 HS1
            go_upto_region 11 with fail
            clear k1 k2 k3
            obtain ⟨W2, hW2⟩ : ∃ W2, wr.setCell ⟨b0, 0, none⟩ (.int .i64 1) = W2 := ⟨_, rfl⟩
            rw [hW2] at HM2 HB2 HX2 HS2 ⊢
            clear hW2
            go_wp2_with fail
            go_loopg [7, 51] L (fun gq v7 v51 w' => ∃ (k g : Nat) (M : CsM), v7 = .slice (some ⟨g, 0, none⟩) A A ∧ v51 = .int .i64 (k : Int) ∧ Aside0 (k ≤ L ∧ L - k ≤ gq) ∧ Aside0 (CsMat w' g A m M) ∧ Aside0 (g + A < w'.heap.size ∧ gb + 1 ≤ g ∧ w.heap.size ≤ g) ∧ Aside0 (csIter A m (L - k) M = some F) ∧ Aside0 (Below w.heap.size w w') ∧ Aside0 (w'.heap[gb]? = some (.cells #[.int .i64 A, .int .i64 a0_1] 27 (0, 0))))
            case atStart => exact ⟨0, g, _, rfl, rfl, ⟨by omega, by omega⟩, HM2, ⟨HS2.out, HG1.out.1, HG1.out.2⟩, HF, HB2, HX2⟩
            case round =>
              clear HM2 HB2 HX2 HS2 HF HG1 d1 d2
              obtain ⟨k, g, M, rfl, rfl, HJ, HM1, HG1, HF, HB, HX⟩ := hrel
              have hj1 := HJ.out.1
              have hj2 := HJ.out.2
              by_cases c : k < L
              · have d1 : decide ((k : Int) < (L : Int)) = true := decide_eq_true (by omega)
                have d2 : decide (k < L) = true := decide_eq_true c
                have e1 : wrap64 ((k : Int) + 1) = ((k + 1 : Nat) : Int) := by have := HG.out.2.2.1; unfold wrap64; omega
                have E1 := Aside0.mk e1
                clear e1
                cases gk with
                | zero => exact absurd hj2 (by omega)
                | succ k1 =>
                  have HJ2 := Aside0.mk (And.intro (show k + 1 ≤ L by omega) (show L - (k + 1) ≤ k1 by omega))
                  have hF := HF.out
                  rw [show L - k = (L - (k + 1)) + 1 by omega, csIter] at hF
                  obtain ⟨N, hN, hF2⟩ := Option.bind_eq_some_iff.1 hF
                  have HN := Aside0.mk hN
                  have HF2 := Aside0.mk hF2
                  clear hj1 hj2 c HJ hF hN hF2 HF
                  have hcz0 : wr.cell? ⟨gb, 0, none⟩ = some (.int .i64 A) := (blk_cell HX.out 0).trans rfl
                  go_upto_region 14 with (first | ((with_reducible refine gate_dst (N := 55) rfl ?_); refine cs_make rfl (N := 55) rfl 36 24 _ _ rfl A rfl rfl Try.underlying36 (.slice none 0 0) 24 cs_info24 rfl (by decide) (Nat.le_trans HG.out.2.1 (by decide)) ?_; intro g2 w1 hg hw1 hb1; have HP := Aside0.mk (CsPart.start (w := wr) A m hw1); rw [← hg] at HP; have n1 := Aside0.mk (below_step HB.out hb1); have n2 := Aside0.mk (blk_below HX.out hb1); have n3 := Aside0.mk (HM1.out.below hb1); have HG2 := Aside0.mk (show g + A < g2 ∧ gb + 1 ≤ g2 ∧ w.heap.size ≤ g2 from ⟨by rw [hg]; exact HG1.out.1, by rw [hg]; exact blk_lt HX.out, by rw [hg]; exact below_size HB.out⟩); clear HB HX HM1 hcz0 hg hw1 hb1; have HB := n1; have HX := n2; have HM1 := n3; clear n1 n2 n3))
                  go_wp2_with fail
                  go_loopg [58] A (fun gq v36 w' => ∃ r : Nat, v36 = .int .i64 (r : Int) ∧ Aside0 (r ≤ A ∧ A - r ≤ gq) ∧ Aside0 (CsPart w' g2 A m r) ∧ Aside0 (CsMat w' g A m M) ∧ Aside0 (Below w.heap.size w w') ∧ Aside0 (w'.heap[gb]? = some (.cells #[.int .i64 A, .int .i64 a0_1] 27 (0, 0))))
                  case atStart => exact ⟨0, rfl, ⟨by omega, by omega⟩, HP, HM1, HB, HX⟩
                  case round =>
                    clear HP HB HX HM1 d1 d2
                    obtain ⟨r, rfl, HJ, HP, HM1, HB, HX⟩ := hrel
                    have hj1 := HJ.out.1
                    have hj2 := HJ.out.2
                    by_cases c : r < A
                    · have d1 : decide ((r : Int) < (A : Int)) = true := decide_eq_true (by omega)
                      have d2 : decide (r < A) = true := decide_eq_true c
                      have e1 : wrap64 ((r : Int) + 1) = ((r + 1 : Nat) : Int) := by have := HG.out.2.1; unfold wrap64; omega
                      have E1' := Aside0.mk e1
                      clear e1
                      have p1 := eq_true (show (0 : Int) ≤ (r : Int) by omega)
                      have q1 := eq_true (show (r : Int) < (A : Int) by omega)
                      have HC := Aside0.mk c
                      cases gk with
                      | zero => exact absurd hj2 (by omega)
                      | succ k2 =>
                        have HJ3 := Aside0.mk (And.intro (show r + 1 ≤ A by omega) (show A - (r + 1) ≤ k2 by omega))
                        clear hj1 hj2 c HJ
                        go_wp2_with (first | ((with_reducible refine gate_dst (N := 65) rfl ?_); refine cs_make rfl (N := 65) rfl 24 2 _ _ rfl m rfl rfl Try.underlying24 (.int .i64 0) 8 cs_info2 rfl (by decide) ?hn ?_; (case hn => exact (by have := HG.out.2.2.2; have := HM.out; omega)); intro g3 w2 hg2 hw2 hb2; obtain ⟨⟨k1_, k2_⟩, k3_⟩ := HP.out.make HC.out hw2; rw [← hg2] at k3_; have n1 := Aside0.mk (below_step HB.out hb2); have n2 := Aside0.mk (blk_below HX.out hb2); have n3 := Aside0.mk k3_; have n4 := Aside0.mk (HM1.out.below hb2); clear HB HX HP HM1 hg2 hw2 hb2 k3_; have HB := n1; have HX := n2; have HP := n3; have HM1 := n4; clear n1 n2 n3 n4))
                        go_roundg k2
                        case measure => omega
                        case rel => exact ⟨r + 1, by rw [E1'.out], HJ3, HP, ⟨HM1.out.store (.inr HG2.out.1)⟩, ⟨below_set HB.out HG2.out.2.2⟩, ⟨blk_far HX.out (by have := HG2.out.2.1; show gb ≠ g2; omega) _⟩⟩
                    · have d1 : decide ((r : Int) < (A : Int)) = false := decide_eq_false (by omega)
                      have d2 : decide (r < A) = false := decide_eq_false c
                      obtain rfl : A = r := by omega
                      clear hj1 hj2 c HJ
                      have HN1 := Aside0.mk HP.out.done
                      have HS1 := Aside0.mk (show g2 + A < wr.heap.size by have := HP.out.size; omega)
                      clear HP
                      go_upto_region 19 with fail
                      go_wp2_with fail
                      go_loopg [70] A (fun gq v70 w' => ∃ (r : Nat) (N0 : CsM), v70 = .int .i64 (r : Int) ∧ Aside0 (r ≤ A ∧ A - r ≤ gq) ∧ Aside0 (CsMat w' g A m M) ∧ Aside0 (CsMat w' g2 A m N0) ∧ Aside0 (g2 + A < w'.heap.size) ∧ Aside0 (csAll A m (M.drop r) r N0 = some N) ∧ Aside0 (Below w.heap.size w w') ∧ Aside0 (w'.heap[gb]? = some (.cells #[.int .i64 A, .int .i64 a0_1] 27 (0, 0))))
                      case atStart => exact ⟨0, _, rfl, ⟨by omega, by omega⟩, HM1, HN1, HS1, HN, HB, HX⟩
                      case round =>
                        clear HN1 HS1 HM1 HB HX HN d1 d2
                        obtain ⟨r, N0, rfl, HJ, HM1, HN1, HS1, HN, HB, HX⟩ := hrel
                        have hj1 := HJ.out.1
                        have hj2 := HJ.out.2
                        by_cases c : r < A
                        · have d1 : decide ((r : Int) < (A : Int)) = true := decide_eq_true (by omega)
                          have d2 : decide (r < A) = true := decide_eq_true c
                          have e1 : wrap64 ((r : Int) + 1) = ((r + 1 : Nat) : Int) := by have := HG.out.2.1; unfold wrap64; omega
                          have E2 := Aside0.mk e1
                          clear e1
                          have p1 := eq_true (show (0 : Int) ≤ (r : Int) by omega)
                          have q1 := eq_true (show (r : Int) < (A : Int) by omega)
                          have HC := Aside0.mk c
                          cases gk with
                          | zero => exact absurd hj2 (by omega)
                          | succ k2 =>
                            have HJ3 := Aside0.mk (And.intro (show r + 1 ≤ A by omega) (show A - (r + 1) ≤ k2 by omega))
                            have hN := HN.out
                            rw [cs_drop HM1.out.len c, csAll] at hN
                            obtain ⟨N1, hN1, hN2⟩ := Option.bind_eq_some_iff.1 hN
                            have HR := Aside0.mk hN1
                            have HN2 := Aside0.mk hN2
                            have kh := HM1.out.cellH c
                            obtain ⟨b, hb⟩ : ∃ b, g + 1 + r = b := ⟨_, rfl⟩
                            rw [hb] at kh
                            have HBB := Aside0.mk hb
                            clear hj1 hj2 c HJ hN hN1 hN2 HN hb
                            go_upto_region 23 with fail
                            go_loopg [77] m (fun gq v77 w' => ∃ (n : Nat) (N0 : CsM), v77 = .int .i64 (n : Int) ∧ Aside0 (n ≤ m ∧ m - n ≤ gq) ∧ Aside0 (CsMat w' g A m M) ∧ Aside0 (CsMat w' g2 A m N0) ∧ Aside0 (g2 + A < w'.heap.size) ∧ Aside0 (csRow A r m ((csRd M r).drop n) n N0 = some N1) ∧ Aside0 (Below w.heap.size w w') ∧ Aside0 (w'.heap[gb]? = some (.cells #[.int .i64 A, .int .i64 a0_1] 27 (0, 0))))
                            case atStart => exact ⟨0, _, rfl, ⟨by omega, by omega⟩, HM1, HN1, HS1, HR, HB, HX⟩
                            case round =>
                              clear HN1 HS1 HM1 HB HX HR kh d1 d2 p1 q1
                              obtain ⟨n, N0, rfl, HJ, HM1, HN1, HS1, HR, HB, HX⟩ := hrel
                              have hj1 := HJ.out.1
                              have hj2 := HJ.out.2
                              by_cases c : n < m
                              · have d1 : decide ((n : Int) < (m : Int)) = true := decide_eq_true (by omega)
                                have d2 : decide (n < m) = true := decide_eq_true c
                                have e1 : wrap64 ((n : Int) + 1) = ((n + 1 : Nat) : Int) := by have := HG.out.2.2.2; have := HM.out; unfold wrap64; omega
                                have E3 := Aside0.mk e1
                                clear e1
                                have p1 := eq_true (show (0 : Int) ≤ (n : Int) by omega)
                                have q1 := eq_true (show (n : Int) < (m : Int) by omega)
                                cases gk with
                                | zero => exact absurd hj2 (by omega)
                                | succ k3 =>
                                  have HJ4 := Aside0.mk (And.intro (show n + 1 ≤ m by omega) (show m - (n + 1) ≤ k3 by omega))
                                  have hR := HR.out
                                  rw [cs_dropL (HM1.out.rows r HC.out).1 c, csRow] at hR
                                  obtain ⟨N2, hst, hR2⟩ := Option.bind_eq_some_iff.1 hR
                                  have HR2 := Aside0.mk hR2
                                  have kx := HM1.out.cellR (n := n) HC.out c
                                  rw [HBB.out] at kx
                                  obtain ⟨x, hx⟩ : ∃ x, rd (csRd M r) (n : Int) = x := ⟨_, rfl⟩
                                  rw [hx] at kx hst
                                  have hA := HG.out.1
                                  obtain ⟨b0, hb0⟩ : ∃ b0, g2 + 1 + 0 = b0 := ⟨_, rfl⟩
                                  have k1 := HN1.out.cellH (r := 0) (by omega)
                                  have k2 := HN1.out.cellR (r := 0) (n := n) (by omega) c
                                  have k3 := HN1.out.frzR (r := 0) (n := n) (by omega)
                                  rw [hb0] at k1 k2 k3
                                  obtain ⟨y, hy⟩ : ∃ y, rd (csRd N0 0) (n : Int) = y := ⟨_, rfl⟩
                                  rw [hy] at k2
                                  have f1 := eq_true (show (0 : Int) < (A : Int) by omega)
                                  have f2 := eq_true (show 0 < A by omega)
                                  have hm0 := HN1.out.put (r := 0) (n := n) (wrap64 (y + x)) (by omega)
                                  rw [hb0] at hm0
                                  have ea : csPut N0 0 n (wrap64 (y + x)) = csAdd N0 0 n x := by rw [csAdd, hy]
                                  rw [ea] at hm0
                                  have HN3 := Aside0.mk hm0
                                  have HM3 := Aside0.mk (HM1.out.store (b := b0) (o := n) (u := .int .i64 (wrap64 (y + x))) (.inr (by have := HG2.out.1; omega)))
                                  have HB3 := Aside0.mk (below_set (g := b0) (j := n) (v := .int .i64 (wrap64 (y + x))) HB.out (by have := HG2.out.2.2; omega))
                                  have HX3 := Aside0.mk (blk_far HX.out (p := ⟨b0, n, none⟩) (by have := HG2.out.2.1; show gb ≠ b0; omega) (.int .i64 (wrap64 (y + x))))
                                  have HS3 := Aside0.mk (show g2 + A < (wr.setCell ⟨b0, n, none⟩ (.int .i64 (wrap64 (y + x)))).heap.size by have := HS1.out; simp [World.setCell]; omega)
                                  have HST := Aside0.mk hst
                                  clear hm0 hj1 hj2 HJ hR hR2 hst HR hb0 HN1 HM1 HB HX HS1 ea hy hx
                                  go_upto_region 26 with fail
                                  clear k1 k2 k3 kx p1 q1 d1 d2
                                  obtain ⟨w1, hw1⟩ : ∃ w1, wr.setCell ⟨b0, n, none⟩ (.int .i64 (wrap64 (y + x))) = w1 := ⟨_, rfl⟩
                                  rw [hw1] at HN3 HM3 HB3 HX3 HS3 ⊢
                                  clear hw1
                                  have hcz0 : w1.cell? ⟨gb, 0, none⟩ = some (.int .i64 A) := (blk_cell HX3.out 0).trans rfl
                                  obtain ⟨r1, hr1⟩ : ∃ r1, r + 1 = r1 := ⟨_, rfl⟩
                                  have er : wrap64 ((r : Int) + 1) = (r1 : Int) := by rw [← hr1]; exact E2.out
                                  have erw : IntKind.i64.wrap ((r : Int) + 1) = (r1 : Int) := (i64_w _).trans er
                                  obtain ⟨n1, hn1⟩ : ∃ n1, n + 1 = n1 := ⟨_, rfl⟩
                                  have en : wrap64 ((n : Int) + 1) = (n1 : Int) := by rw [← hn1]; exact E3.out
                                  have enw : IntKind.i64.wrap ((n : Int) + 1) = (n1 : Int) := (i64_w _).trans en
                                  have hst := HST.out
                                  rw [csStep, hr1, hn1] at hst
                                  rw [hn1] at HJ4 HR2
                                  have p1 := eq_true (show (0 : Int) ≤ (n : Int) by clear er erw en enw; omega)
                                  have q1 := eq_true (show (n : Int) < (m : Int) by clear er erw en enw; omega)
                                  by_cases c1 : r1 < A
                                  · rw [if_pos c1] at hst
                                    obtain rfl := Option.some.inj hst
                                    have t1 : decide ((r1 : Int) < (A : Int)) = true := decide_eq_true (by clear er erw en enw; omega)
                                    have t2 : decide (r1 < A) = true := decide_eq_true c1
                                    have p2 := eq_true (show (0 : Int) ≤ (r1 : Int) by clear er erw en enw; omega)
                                    have q2 := eq_true (show (r1 : Int) < (A : Int) by clear er erw en enw; omega)
                                    obtain ⟨b1, hb1⟩ : ∃ b1, g2 + 1 + r1 = b1 := ⟨_, rfl⟩
                                    have k1 := HN3.out.cellH (r := r1) c1
                                    have k2 := HN3.out.cellR (r := r1) (n := n) c1 c
                                    have kf := HN3.out.frzR (r := r1) (n := n) c1
                                    rw [hb1] at k1 k2 kf
                                    obtain ⟨y1, hy1⟩ : ∃ y1, rd (csRd (csAdd N0 0 n x) r1) (n : Int) = y1 := ⟨_, rfl⟩
                                    rw [hy1] at k2
                                    have hm0 := HN3.out.put (r := r1) (n := n) (wrap64 (y1 + x)) c1
                                    rw [hb1] at hm0
                                    have ea : csPut (csAdd N0 0 n x) r1 n (wrap64 (y1 + x)) = csAdd (csAdd N0 0 n x) r1 n x := by rw [csAdd.eq_def (csAdd N0 0 n x), hy1]
                                    rw [ea] at hm0
                                    have HN4 := Aside0.mk hm0
                                    have HM4 := Aside0.mk (HM3.out.store (b := b1) (o := n) (u := .int .i64 (wrap64 (y1 + x))) (.inr (by have := HG2.out.1; clear er erw en enw; omega)))
                                    have HB4 := Aside0.mk (below_set (g := b1) (j := n) (v := .int .i64 (wrap64 (y1 + x))) HB3.out (by have := HG2.out.2.2; clear er erw en enw; omega))
                                    have HX4 := Aside0.mk (blk_far HX3.out (p := ⟨b1, n, none⟩) (by have := HG2.out.2.1; show gb ≠ b1; clear er erw en enw; omega) (.int .i64 (wrap64 (y1 + x))))
                                    have HS4 := Aside0.mk (show g2 + A < (w1.setCell ⟨b1, n, none⟩ (.int .i64 (wrap64 (y1 + x)))).heap.size by have := HS3.out; simp [World.setCell]; clear er erw en enw; omega)
                                    clear hm0 ea hst c1 hb1 hy1 HN3 HM3 HB3 HX3 HS3
                                    go_wp2_with fail
                                    go_roundg k3
                                    case measure => omega
                                    case rel => exact ⟨n1, _, rfl, HJ4, HM4, HN4, HS4, HR2, HB4, HX4⟩
                                  · rw [if_neg c1] at hst
                                    have t1 : decide ((r1 : Int) < (A : Int)) = false := decide_eq_false (by clear er erw en enw; omega)
                                    have t2 : decide (r1 < A) = false := decide_eq_false c1
                                    by_cases c2 : x > 0
                                    · rw [if_pos c2] at hst
                                      by_cases c3 : n1 < m
                                      · rw [if_pos c3] at hst
                                        obtain rfl := Option.some.inj hst
                                        have t3 : decide (x > 0) = true := decide_eq_true c2
                                        have t4 : decide (0 < x) = true := decide_eq_true c2
                                        have p2 := eq_true (show (0 : Int) ≤ (n1 : Int) by clear er erw en enw; omega)
                                        have q2 := eq_true (show (n1 : Int) < (m : Int) by clear er erw en enw; omega)
                                        obtain ⟨b1, hb1⟩ : ∃ b1, g2 + 1 + 0 = b1 := ⟨_, rfl⟩
                                        have k1 := HN3.out.cellH (r := 0) hA
                                        have k2 := HN3.out.cellR (r := 0) (n := n1) hA c3
                                        have kf := HN3.out.frzR (r := 0) (n := n1) hA
                                        rw [hb1] at k1 k2 kf
                                        obtain ⟨y1, hy1⟩ : ∃ y1, rd (csRd (csAdd N0 0 n x) 0) (n1 : Int) = y1 := ⟨_, rfl⟩
                                        rw [hy1] at k2
                                        have hm0 := HN3.out.put (r := 0) (n := n1) (wrap64 (y1 + x)) hA
                                        rw [hb1] at hm0
                                        have ea : csPut (csAdd N0 0 n x) 0 n1 (wrap64 (y1 + x)) = csAdd (csAdd N0 0 n x) 0 n1 x := by rw [csAdd.eq_def (csAdd N0 0 n x), hy1]
                                        rw [ea] at hm0
                                        have HN4 := Aside0.mk hm0
                                        have HM4 := Aside0.mk (HM3.out.store (b := b1) (o := n1) (u := .int .i64 (wrap64 (y1 + x))) (.inr (by have := HG2.out.1; clear er erw en enw; omega)))
                                        have HB4 := Aside0.mk (below_set (g := b1) (j := n1) (v := .int .i64 (wrap64 (y1 + x))) HB3.out (by have := HG2.out.2.2; clear er erw en enw; omega))
                                        have HX4 := Aside0.mk (blk_far HX3.out (p := ⟨b1, n1, none⟩) (by have := HG2.out.2.1; show gb ≠ b1; clear er erw en enw; omega) (.int .i64 (wrap64 (y1 + x))))
                                        have HS4 := Aside0.mk (show g2 + A < (w1.setCell ⟨b1, n1, none⟩ (.int .i64 (wrap64 (y1 + x)))).heap.size by have := HS3.out; simp [World.setCell]; clear er erw en enw; omega)
                                        clear hm0 ea hst c1 c2 c3 hb1 hy1 HN3 HM3 HB3 HX3 HS3
                                        go_wp2_with fail
                                        go_roundg k3
                                        case measure => omega
                                        case rel => exact ⟨n1, _, rfl, HJ4, HM4, HN4, HS4, HR2, HB4, HX4⟩
                                      · rw [if_neg c3] at hst
                                        cases hst
                                    · rw [if_neg c2] at hst
                                      obtain rfl := Option.some.inj hst
                                      have t3 : decide (x > 0) = false := decide_eq_false c2
                                      have t4 : decide (0 < x) = false := decide_eq_false c2
                                      clear hst c1 c2
                                      go_wp2_with fail
                                      go_roundg k3
                                      case measure => omega
                                      case rel => exact ⟨n1, _, rfl, HJ4, HM3, HN3, HS3, HR2, HB3, HX3⟩
                              · have d1 : decide ((n : Int) < (m : Int)) = false := decide_eq_false (by omega)
                                have d2 : decide (n < m) = false := decide_eq_false c
                                have hR := HR.out
                                rw [List.drop_eq_nil_of_le (by have := (HM1.out.rows r HC.out).1; omega), csRow] at hR
                                obtain rfl := Option.some.inj hR
                                clear hj1 hj2 c HJ hR HR
                                go_wp2_with fail
                                go_roundg k2
                                case measure => omega
                                case rel => exact ⟨r + 1, _, by rw [E2.out], HJ3, HM1, HN1, HS1, HN2, HB, HX⟩
                        · have d1 : decide ((r : Int) < (A : Int)) = false := decide_eq_false (by omega)
                          have d2 : decide (r < A) = false := decide_eq_false c
                          have hN := HN.out
                          rw [List.drop_eq_nil_of_le (by have := HM1.out.len; omega), csAll] at hN
                          obtain rfl := Option.some.inj hN
                          clear hj1 hj2 c HJ hN HN
                          go_wp2_with fail
                          go_roundg k1
                          case measure => omega
                          case rel => exact ⟨k + 1, g2, _, rfl, by rw [E1.out], HJ2, HN1, ⟨HS1.out, HG2.out.2.1, HG2.out.2.2⟩, HF2, HB, HX⟩
              · have d1 : decide ((k : Int) < (L : Int)) = false := decide_eq_false (by omega)
                have d2 : decide (k < L) = false := decide_eq_false c
                obtain rfl : k = L := by omega
                clear hj1 hj2 c HJ
                have hF := HF.out
                rw [Nat.sub_self, csIter] at hF
                obtain rfl := Option.some.inj hF
                clear hF HF
                obtain ⟨n0, hn0⟩ : ∃ n0, D + 1 = n0 := ⟨_, rfl⟩
                have ed : wrap64 ((D : Int) + 1) = (n0 : Int) := by have := HG.out.2.2.2; unfold wrap64; omega
                have edw : IntKind.i64.wrap ((D : Int) + 1) = (n0 : Int) := (i64_w _).trans ed
                have HD1 := Aside0.mk hn0
                have hr1 := HR1.out
                rw [hn0] at hr1
                have HR2 := Aside0.mk hr1
                clear hn0 hr1 HR1
                go_upto_region 35 with (first | ((with_reducible refine gate_dst (N := 127) rfl ?_); refine cs_make rfl (N := 127) rfl 24 2 _ _ rfl n0 rfl rfl Try.underlying24 (.int .i64 0) 8 cs_info2 rfl (by decide) ?hn ?_; (case hn => exact (by have := HG.out.2.2.2; have := HD1.out; clear ed edw; omega)); intro go w1 hg hw1 hb1; have HO := Aside0.mk (show w1.heap[go]? = some (.cells ((List.replicate n0 (0 : Int)).map (Value.int .i64)).toArray 2 (0, 0)) from by rw [hg, hw1, List.map_replicate]; exact heap_alloc_new wr _); have n1 := Aside0.mk (below_step HB.out hb1); have n3 := Aside0.mk (HM1.out.below hb1); have HG3 := Aside0.mk (show g + A < go ∧ w.heap.size ≤ go from ⟨by rw [hg]; exact HG1.out.1, by rw [hg]; exact below_size HB.out⟩); clear HB HX HM1 hg hw1 hb1; have HB := n1; have HM1 := n3; clear n1 n3))
                clear ed edw
                go_wp2_with fail
                go_loopg [130] A (fun gq v130 w' => ∃ (r : Nat) (out : List Int), v130 = .int .i64 (r : Int) ∧ Aside0 (r ≤ A ∧ A - r ≤ gq) ∧ Aside0 (out.length = n0) ∧ Aside0 (CsMat w' g A m M) ∧ Aside0 (w'.heap[go]? = some (.cells (out.map (Value.int .i64)).toArray 2 (0, 0))) ∧ Aside0 (csOut (M.drop r) out = r1) ∧ Aside0 (Below w.heap.size w w'))
                case atStart => exact ⟨0, _, rfl, ⟨by omega, by omega⟩, ⟨List.length_replicate⟩, HM1, HO, HR2, HB⟩
                case round =>
                  clear HM1 HO HR2 HB d1 d2
                  obtain ⟨r, out, rfl, HJ, HL, HM1, HO, HR, HB⟩ := hrel
                  have hj1 := HJ.out.1
                  have hj2 := HJ.out.2
                  by_cases c : r < A
                  · have d1 : decide ((r : Int) < (A : Int)) = true := decide_eq_true (by omega)
                    have d2 : decide (r < A) = true := decide_eq_true c
                    have e1 : wrap64 ((r : Int) + 1) = ((r + 1 : Nat) : Int) := by have := HG.out.2.1; unfold wrap64; omega
                    have E2 := Aside0.mk e1
                    clear e1
                    have p1 := eq_true (show (0 : Int) ≤ (r : Int) by omega)
                    have q1 := eq_true (show (r : Int) < (A : Int) by omega)
                    have HC := Aside0.mk c
                    cases gk with
                    | zero => exact absurd hj2 (by omega)
                    | succ k2 =>
                      have HJ3 := Aside0.mk (And.intro (show r + 1 ≤ A by omega) (show A - (r + 1) ≤ k2 by omega))
                      have hR := HR.out
                      rw [cs_drop HM1.out.len c, csOut, HL.out] at hR
                      obtain ⟨O1, hO1⟩ : ∃ O1, csOR (csRd M r) n0 0 out = O1 := ⟨_, rfl⟩
                      rw [hO1] at hR
                      have HO1 := Aside0.mk hO1
                      have HR3 := Aside0.mk hR
                      have kh := HM1.out.cellH c
                      obtain ⟨b, hb⟩ : ∃ b, g + 1 + r = b := ⟨_, rfl⟩
                      rw [hb] at kh
                      have HBB := Aside0.mk hb
                      clear hj1 hj2 c HJ hR hO1 HR hb
                      go_upto_region 39 with fail
                      go_loopg [136] n0 (fun gq v136 w' => ∃ (n : Nat) (out : List Int), v136 = .int .i64 (n : Int) ∧ Aside0 (n ≤ n0 ∧ n0 - n ≤ gq) ∧ Aside0 (out.length = n0) ∧ Aside0 (CsMat w' g A m M) ∧ Aside0 (w'.heap[go]? = some (.cells (out.map (Value.int .i64)).toArray 2 (0, 0))) ∧ Aside0 (csOR (csRd M r) (n0 - n) n out = O1) ∧ Aside0 (Below w.heap.size w w'))
                      case atStart => exact ⟨0, _, rfl, ⟨by omega, by omega⟩, HL, HM1, HO, HO1, HB⟩
                      case round =>
                        clear HM1 HO HO1 HB HL kh d1 d2 p1 q1
                        obtain ⟨n, out, rfl, HJ, HL, HM1, HO, HO1, HB⟩ := hrel
                        have hj1 := HJ.out.1
                        have hj2 := HJ.out.2
                        by_cases c : n < n0
                        · have d1 : decide ((n : Int) < (n0 : Int)) = true := decide_eq_true (by omega)
                          have d2 : decide (n < n0) = true := decide_eq_true c
                          have hcm : n < m := by have := HM.out; have := HD1.out; omega
                          have e1 : wrap64 ((n : Int) + 1) = ((n + 1 : Nat) : Int) := by have := HG.out.2.2.2; have := HD1.out; unfold wrap64; omega
                          have E3 := Aside0.mk e1
                          clear e1
                          have p1 := eq_true (show (0 : Int) ≤ (n : Int) by omega)
                          have q1 := eq_true (show (n : Int) < (m : Int) by omega)
                          have q2 := eq_true (show (n : Int) < (n0 : Int) by omega)
                          cases gk with
                          | zero => exact absurd hj2 (by omega)
                          | succ k3 =>
                            have HJ4 := Aside0.mk (And.intro (show n + 1 ≤ n0 by omega) (show n0 - (n + 1) ≤ k3 by omega))
                            have hO1 := HO1.out
                            rw [show n0 - n = (n0 - (n + 1)) + 1 by omega, csOR] at hO1
                            have kx := HM1.out.cellR (n := n) HC.out hcm
                            rw [HBB.out] at kx
                            obtain ⟨x, hx⟩ : ∃ x, rd (csRd M r) (n : Int) = x := ⟨_, rfl⟩
                            rw [hx] at kx hO1
                            have hol := HL.out
                            have ky : wr.cell? ⟨go, n, none⟩ = some (.int .i64 (rd out (n : Int))) := by
                              rw [blk_cell HO.out]
                              unfold rd
                              rw [Int.toNat_natCast, List.getD_eq_getElem?_getD]
                              simp [hol, c]
                            have kf := blk_frozen HO.out n
                            obtain ⟨y, hy⟩ : ∃ y, rd out (n : Int) = y := ⟨_, rfl⟩
                            rw [hy] at ky hO1
                            have HO2 := Aside0.mk hO1
                            have HY := Aside0.mk hy
                            clear hj1 hj2 c hcm HJ hO1 hx hol hy HO1
                            go_upto_region 41 with fail
                            have HM3 := Aside0.mk (HM1.out.store (b := go) (o := n) (u := .int .i64 (wrap64 (y + x))) (.inr HG3.out.1))
                            have HB3 := Aside0.mk (below_set (g := go) (j := n) (v := .int .i64 (wrap64 (y + x))) HB.out HG3.out.2)
                            have HO3 := Aside0.mk (show (wr.setCell ⟨go, n, none⟩ (.int .i64 (wrap64 (y + x)))).heap[go]? = some (.cells ((out.set n (wrap64 (y + x))).map (Value.int .i64)).toArray 2 (0, 0)) from blk_put HO.out n _ (by rw [List.map_set, List.setIfInBounds_toArray]))
                            have HL3 := Aside0.mk (show (out.set n (wrap64 (y + x))).length = n0 by rw [List.length_set]; exact HL.out)
                            clear HM1 HB HO HL
                            go_region
                            all_goals (go_wp2_with fail; go_roundg k3; (case measure => omega); (case rel => exact ⟨n + 1, _, by rw [E3.out], HJ4, HL3, ⟨HM3.out.hd, HM3.out.len, HM3.out.rows⟩, ⟨HO3.out⟩, HO2, ⟨by first | exact below_drew1 HB3.out | exact pw_below_drewN HB3.out _⟩⟩))
                        · have d1 : decide ((n : Int) < (n0 : Int)) = false := decide_eq_false (by omega)
                          have d2 : decide (n < n0) = false := decide_eq_false c
                          have hO1 := HO1.out
                          rw [show n0 - n = 0 by omega, csOR] at hO1
                          subst hO1
                          clear hj1 hj2 c HJ HO1
                          go_wp2_with fail
                          go_roundg k2
                          case measure => omega
                          case rel => exact ⟨r + 1, _, by rw [E2.out], HJ3, HL, HM1, HO, HR3, HB⟩
                  · have d1 : decide ((r : Int) < (A : Int)) = false := decide_eq_false (by omega)
                    have d2 : decide (r < A) = false := decide_eq_false c
                    have hR := HR.out
                    rw [List.drop_eq_nil_of_le (by have := HM1.out.len; omega), csOut] at hR
                    subst hR
                    clear hj1 hj2 c HJ HR
                    have hown : Kd.R (Kd.int .i64) 2 wr w.heap.size (fun _ => True) (.slice (some ⟨go, 0, none⟩) n0 n0) out := by
                      refine Kd.R_of_own (enc := Value.int .i64) ?_ (fun _ _ => trivial)
                      have hol := HL.out
                      rw [hol]
                      refine ⟨by simp [encs, hol], .inr ⟨go, n0, _, rfl, HG3.out.2, HO.out, Nat.le_refl _, Nat.le_trans (show n0 ≤ 1000 by have := HG.out.2.2.2; have := HD1.out; omega) (by decide), by simp [hol], ?_⟩⟩
                      simp [encs]
                      rw [List.take_of_length_le (by simp [hol])]
                    have HOW := Aside0.mk hown
                    clear hown
                    go_wp2_with fail
                    go_ret2
                    exact ⟨_, rfl, HOW.out, HB.out⟩
      · rw [if_neg hg] at h
        cases h


end Go.Proofs.Ytbiepjjoaagdiaa.PFnExactCountStuffed
