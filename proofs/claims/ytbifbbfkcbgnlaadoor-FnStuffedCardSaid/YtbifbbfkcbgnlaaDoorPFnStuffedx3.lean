-- Written by a program of this session (mkprint.py) over the print of the translation. Not trusted: Lean checks it.
import Derived.Test.YtbifbbfkcbgnlaaDoorPFnStuffedx0
import Derived.Test.YtbifbbfkcbgnlaaDoorPFnStuffedx1
import Derived.Test.YtbifbbfkcbgnlaaDoorPFnStuffedx2
namespace Go.Proofs.YtbifbbfkcbgnlaaDoor.PFnStuffed
open Go.RowKit Go.Proofs.YtbifbbfkcbgnlaaDoorW.PrintWords Go.Proofs.YtbifbbfkcbgnlaaDoorW.PrintLast Go.Proofs.YtbifbbfkcbgnlaaDoorW.PrintMore
attribute [local go_sem] max2_int min2_int max_two min_two max_three min_three max_four min_four   -- for this text's walks alone
set_option linter.unusedVariables false
set_option linter.unusedSimpArgs false

/-! ### impl_Stuffer_flag: function 36 -/
def impl_Stuffer_flag.f (a0_0 : Int) (a0_1 : Int) : Option (ByteArray) := (impl_bitOf.f (a0_1 == 0)).bind fun t170 => ((impl_bitOf.f (a0_1 == 1)).bind fun t171 => ((strings_Repeat.f t171 (wrap64 (a0_0 + 1))).bind fun t172 => (if t170.size + t172.size ≤ 9223372036854775807 then (if (t170 ++ t172).size + t170.size ≤ 9223372036854775807 then (some ((t170 ++ t172) ++ t170)) else (none)) else (none))))
def impl_Stuffer_flag.T2 : Bool × List (List Nat × List Nat) := (true, [([], []), ([], []), ([1], [1]), ([2], [2]), ([3], [3]), ([], []), ([5], [5]), ([6], [6]), ([4, 7, 4], [4, 7]), ([0, 8], [0, 8]), ([], []), ([9, 10], [9, 10]), ([11, 8, 0, 1, 2, 3, 4, 5, 6, 7, 8, 9, 10, 11], [11])])
def impl_Stuffer_flag.B2 : List Nat := [0, 0, 2, 6, 14, 0, 32, 96, 254, 511, 0, 2047, 4095]
theorem impl_Stuffer_flag.tab2 : rtab .any (opsOf Tryd.f36 2) = impl_Stuffer_flag.T2 := by kernel_rfl
theorem impl_Stuffer_flag.bits2 : waitsOk impl_Stuffer_flag.T2.2 impl_Stuffer_flag.B2 = true := by kernel_rfl
set_option maxHeartbeats 8000000 in
set_option maxRecDepth 100000 in
theorem impl_Stuffer_flag.calls (a0_0 : Int) (a0_1 : Int) (r : ByteArray) (w : World) (h : impl_Stuffer_flag.f a0_0 a0_1 = some r) :
    Calls Tryd.prog 36 #[.agg #[.int .i64 a0_0, .int .i64 a0_1]] w fun e w' => e = .returned (.string r) ∧ Below w.heap.size w w' := by
  have hu26 := Tryd.underlying26
  have HB := Aside0.mk (Below.refl w.heap.size w)
  have H : ((impl_bitOf.f (a0_1 == 0)).bind fun t170 => ((impl_bitOf.f (a0_1 == 1)).bind fun t171 => ((strings_Repeat.f t171 (wrap64 (a0_0 + 1))).bind fun t172 => (if t170.size + t172.size ≤ 9223372036854775807 then (if (t170 ++ t172).size + t170.size ≤ 9223372036854775807 then (some ((t170 ++ t172) ++ t170)) else (none)) else (none))))) = some r := h
  clear h
  replace H := Option.bind_eq_some_iff.mp H
  obtain ⟨t170, A20, H⟩ := H
  replace H : ((impl_bitOf.f (a0_1 == 1)).bind fun t171 => ((strings_Repeat.f t171 (wrap64 (a0_0 + 1))).bind fun t172 => (if t170.size + t172.size ≤ 9223372036854775807 then (if (t170 ++ t172).size + t170.size ≤ 9223372036854775807 then (some ((t170 ++ t172) ++ t170)) else (none)) else (none)))) = some r := H
  have A2 := Aside0.mk A20
  clear A20
  replace H := Option.bind_eq_some_iff.mp H
  obtain ⟨t171, A30, H⟩ := H
  replace H : ((strings_Repeat.f t171 (wrap64 (a0_0 + 1))).bind fun t172 => (if t170.size + t172.size ≤ 9223372036854775807 then (if (t170 ++ t172).size + t170.size ≤ 9223372036854775807 then (some ((t170 ++ t172) ++ t170)) else (none)) else (none))) = some r := H
  have A3 := Aside0.mk A30
  clear A30
  replace H := Option.bind_eq_some_iff.mp H
  obtain ⟨t172, A40, H⟩ := H
  replace H : (if t170.size + t172.size ≤ 9223372036854775807 then (if (t170 ++ t172).size + t170.size ≤ 9223372036854775807 then (some ((t170 ++ t172) ++ t170)) else (none)) else (none)) = some r := H
  have A4 := Aside0.mk A40
  clear A40
  by_cases c5 : t170.size + t172.size ≤ 9223372036854775807
  · rw [if_pos c5] at H
    have c5b0 := eq_true c5
    have c5b1 : decide (t170.size + t172.size ≤ 9223372036854775807) = true := decide_eq_true c5
    try have c5b2 : (9223372036854775807 < t170.size + t172.size) = False := eq_false (Nat.not_lt.2 c5)
    by_cases c6 : (t170 ++ t172).size + t170.size ≤ 9223372036854775807
    · rw [if_pos c6] at H
      have c6b0 := eq_true c6
      have c6b1 : decide ((t170 ++ t172).size + t170.size ≤ 9223372036854775807) = true := decide_eq_true c6
      try have c6b2 : (9223372036854775807 < (t170 ++ t172).size + t170.size) = False := eq_false (Nat.not_lt.2 c6)
      try (have c6b3 := c6b2; simp only [ByteArray.size_append] at c6b3)
      obtain rfl := Option.some.inj H
      go_enter Tryd.func36, Tryd.ntmps36
      try go_wp2_with (first | ((with_reducible refine gate_dst (N := 1) rfl ?_); refine box_event ?hg (N := 1) ?hd (cs := #[.int .i64 a0_0, .int .i64 a0_1]) (t := 26) ?hr ?_; (case hd => rfl); (case hg => rfl); (case hr => first | (go_simp; done) | (go_simp; rfl)); intro gb169 hg w7 hbox hb; have n0_ := Aside0.mk (below_step (by repeat (first | (with_reducible first | exact HB.out | apply below_alloc | apply pw_below_drewN | apply below_drew1) | exact HB.out)) hb); have n1_ := Aside0.mk (hbox); have n2_ := Aside0.mk ((by rw [hg]; exact (below_size (by repeat (first | (with_reducible first | exact HB.out | apply below_alloc | apply pw_below_drewN | apply below_drew1) | exact HB.out))) : w.heap.size ≤ gb169)); have n3_ := Aside0.mk ((by rw [hg]; exact (below_size (by repeat (first | (with_reducible first | exact HB.out | apply below_alloc | apply pw_below_drewN | apply below_drew1) | exact HB.out))) : w.heap.size ≤ gb169)); clear HB; have HB := n0_; have BK169 := n1_; have GW169 := n2_; have GE169 := n3_; clear n0_ n1_ n2_ n3_; clear hb hbox hg; have hcz8_0 : w7.cell? ⟨gb169, 0, none⟩ = some (.int .i64 a0_0) := (blk_cell BK169.out 0).trans rfl; have hcz8_1 : w7.cell? ⟨gb169, 1, none⟩ = some (.int .i64 a0_1) := (blk_cell BK169.out 1).trans rfl; have hfz8_0 := blk_frozen BK169.out 0; have hfz8_1 := blk_frozen BK169.out 1) | ((with_reducible refine gate_callee (f := 47) rfl ?_); refine goesL_ (some 7) rfl rfl Tryd.func47 (by kernel_rfl) rfl #[.bool (a0_1 == 0)] rfl (by (try simp only [List.map_toArray, List.map_cons, List.map_nil]); first | done | rfl | (simp only [List.length_drop, List.length_take]; rfl)) ?_; (with_reducible refine (impl_bitOf.calls (a0_1 == 0) t170 _ A2.out).mono ?_); rintro e w' ⟨rfl, ⟨nd, rfl⟩⟩; refine ⟨_, rfl, ?_⟩))
      (try (rw [drewN_self w7]; generalize hq_ : World.drewN w7 _ = w7; have n0_ : Aside0 (w7.heap[gb169]? = some (.cells #[.int .i64 a0_0, .int .i64 a0_1] 26 (0, 0))) := ⟨by rw [← hq_]; exact (by (with_reducible repeat (first | refine blk_drewN ?_ _ | refine blk_drew ?_ | refine blk_alloc ?_ _)); exact BK169.out)⟩; have n1_ : Aside0 (Below w.heap.size w w7) := ⟨by rw [← hq_]; exact (by repeat (first | (with_reducible first | exact HB.out | apply below_alloc | apply pw_below_drewN | apply below_drew1 | refine below_set ?_ GE169.out) | exact HB.out))⟩; clear BK169 HB hq_; have BK169 := n0_; have HB := n1_; clear n0_ n1_))
      have n0_ := Aside0.mk (blk_drew BK169.out)
      have n1_ := Aside0.mk (below_drew1 HB.out)
      clear BK169
      clear HB
      have BK169 := n0_
      have HB := n1_
      clear n0_ n1_
      refine start_ (n := 13) (S := fun w' => w'.cell? ⟨gb169, 0, none⟩ = some (.int .i64 a0_0) ∧ w'.cell? ⟨gb169, 1, none⟩ = some (.int .i64 a0_1)) (ds := []) #[false, false, false, false, false, false, false, false, false, false, false, false, false] (by kernel_rfl) rfl rfl ⟨(blk_cell BK169.out 0).trans rfl, (blk_cell BK169.out 1).trans rfl⟩ (fun hHeld => ?_); refine with_tabW impl_Stuffer_flag.tab2 impl_Stuffer_flag.bits2 (fun HT_ HW_ => ?_)
      generalize w7.drew = w9 at BK169 HB hHeld ⊢
      refine pure_ (i := 0) (N := some 8) (v := ?_) (a' := ?_) #[true, false, false, false, false, false, false, false, false, false, false, false, false] rfl rfl (any_of HT_.out (by kernel_rfl)) (fun _ _ _ h => h) (Or.inl ⟨by rfl, ?_⟩) ?_ ?_
      rotate_left
      · intro w'
        go_simp
        with_reducible rfl
      rotate_left
      · simp only [Act.put, List.setIfInBounds_toArray, List.set_cons_zero, List.set_cons_succ, i64_w, i32_w]
        rfl
      refine pure_ (i := 1) (N := some 9) (v := ?_) (a' := ?_) #[true, true, false, false, false, false, false, false, false, false, false, false, false] rfl rfl (any_of HT_.out (by kernel_rfl)) (fun _ _ _ h => h) (Or.inl ⟨by rfl, ?_⟩) ?_ ?_
      rotate_left
      · intro w'
        go_simp
        with_reducible rfl
      rotate_left
      · simp only [Act.put, List.setIfInBounds_toArray, List.set_cons_zero, List.set_cons_succ, i64_w, i32_w]
        rfl
      refine pure_ (i := 5) (N := some 13) (v := ?_) (a' := ?_) #[true, true, false, false, false, true, false, false, false, false, false, false, false] rfl rfl (any_of HT_.out (by kernel_rfl)) (fun _ _ _ h => h) (Or.inl ⟨by rfl, ?_⟩) ?_ ?_
      rotate_left
      · intro w'
        go_simp
        with_reducible rfl
      rotate_left
      · simp only [Act.put, List.setIfInBounds_toArray, List.set_cons_zero, List.set_cons_succ, i64_w, i32_w]
        rfl
      refine pure_ (i := 10) (N := some 18) (v := ?_) (a' := ?_) #[true, true, false, false, false, true, false, false, false, false, true, false, false] rfl rfl (any_of HT_.out (by kernel_rfl)) (fun _ _ _ h => h) (Or.inl ⟨by rfl, ?_⟩) ?_ ?_
      rotate_left
      · intro w'
        go_simp
        with_reducible rfl
      rotate_left
      · simp only [Act.put, List.setIfInBounds_toArray, List.set_cons_zero, List.set_cons_succ, i64_w, i32_w]
        rfl
      refine take_ (i := 2) (N := some 10) (v := ?_) (a' := ?_) #[true, true, true, false, false, true, false, false, false, false, true, false, false] rfl rfl (take_ofW HT_.out HW_.out (by kernel_rfl)) (fun _ _ _ h => h) (Or.inl ⟨by rfl, ?_⟩) hHeld ?_ ?_
      rotate_left
      · rintro w' ⟨s0, s1⟩
        go_simp
        with_reducible rfl
      rotate_left
      · simp only [Act.put, List.setIfInBounds_toArray, List.set_cons_zero, List.set_cons_succ, i64_w, i32_w]
        rfl
      refine pure_ (i := 3) (N := some 11) (v := ?_) (a' := ?_) #[true, true, true, true, false, true, false, false, false, false, true, false, false] rfl rfl (any_of HT_.out (by kernel_rfl)) (fun _ _ _ h => h) (Or.inl ⟨by rfl, ?_⟩) ?_ ?_
      rotate_left
      · intro w'
        go_simp
        with_reducible rfl
      rotate_left
      · simp only [Act.put, List.setIfInBounds_toArray, List.set_cons_zero, List.set_cons_succ, i64_w, i32_w]
        rfl
      refine take_ (i := 6) (N := some 14) (v := ?_) (a' := ?_) #[true, true, true, true, false, true, true, false, false, false, true, false, false] rfl rfl (take_ofW HT_.out HW_.out (by kernel_rfl)) (fun _ _ _ h => h) (Or.inl ⟨by rfl, ?_⟩) hHeld ?_ ?_
      rotate_left
      · rintro w' ⟨s0, s1⟩
        go_simp
        with_reducible rfl
      rotate_left
      · simp only [Act.put, List.setIfInBounds_toArray, List.set_cons_zero, List.set_cons_succ, i64_w, i32_w]
        rfl
      refine pure_ (i := 7) (N := some 15) (v := ?_) (a' := ?_) #[true, true, true, true, false, true, true, true, false, false, true, false, false] rfl rfl (any_of HT_.out (by kernel_rfl)) (fun _ _ _ h => h) (Or.inl ⟨by rfl, ?_⟩) ?_ ?_
      rotate_left
      · intro w'
        go_simp
        with_reducible rfl
      rotate_left
      · simp only [Act.put, List.setIfInBounds_toArray, List.set_cons_zero, List.set_cons_succ, i64_w, i32_w]
        rfl
      refine one_ (i := 4) (N := some 12) #[true, true, true, true, true, true, true, true, false, false, true, false, false] rfl rfl (one_of HT_.out (by kernel_rfl)) (by decide) (fun K hK => ?_)
      refine goes_ Tryd.func47 (by kernel_rfl) rfl #[.bool (a0_1 == 1)] (by rfl) rfl rfl (by (try simp only [List.map_toArray, List.map_cons, List.map_nil]); first | done | rfl | (simp only [List.length_drop, List.length_take]; rfl)) ?_
      with_reducible refine (impl_bitOf.calls (a0_1 == 1) t171 _ A3.out).mono ?_
      rintro e w' ⟨rfl, ⟨nd, rfl⟩⟩
      refine ⟨_, rfl, ?_⟩
      refine hK.out _ _ ⟨(blk_cell BK169.out 0).trans rfl, (blk_cell BK169.out 1).trans rfl⟩ (fun hHeld => ?_)
      clear hK K
      refine norm_ (a' := ?_) ?_ ?_
      rotate_left
      · show Act.put _ (some 12) _ = _
        simp only [Act.put, List.setIfInBounds_toArray, List.set_cons_zero, List.set_cons_succ, i64_w, i32_w]
        rfl
      refine one_ (i := 8) (N := some 16) #[true, true, true, true, true, true, true, true, true, false, true, false, false] rfl rfl (one_of HT_.out (by kernel_rfl)) (by decide) (fun K hK => ?_)
      refine goes_ Tryd.func48 (by kernel_rfl) rfl #[.string t171, .int .i64 (wrap64 (a0_0 + 1))] (by rfl) rfl rfl (by (try simp only [List.map_toArray, List.map_cons, List.map_nil]); first | done | rfl | (simp only [List.length_drop, List.length_take]; rfl)) ?_
      with_reducible refine (strings_Repeat.calls t171 (wrap64 (a0_0 + 1)) t172 _ A4.out).mono ?_
      rintro e w10 ⟨rfl, hb⟩
      refine ⟨_, rfl, ?_⟩
      have n0_ := Aside0.mk (blk_below (g := gb169) (o := .cells #[.int .i64 a0_0, .int .i64 a0_1] 26 (0, 0)) (by (with_reducible repeat (first | refine blk_drewN ?_ _ | refine blk_drew ?_ | refine blk_alloc ?_ _)); exact BK169.out) hb)
      have n1_ := Aside0.mk (below_step (by repeat (first | (with_reducible first | exact HB.out | apply below_alloc | apply pw_below_drewN | apply below_drew1 | refine below_set ?_ GE169.out) | exact HB.out)) hb)
      clear BK169
      clear HB
      have BK169 := n0_
      have HB := n1_
      clear n0_ n1_
      (try clear hb)
      (try clear hb2)
      (try clear hk)
      (try clear hi)
      refine hK.out _ _ ⟨(blk_cell BK169.out 0).trans rfl, (blk_cell BK169.out 1).trans rfl⟩ (fun hHeld => ?_)
      clear hK K
      refine norm_ (a' := ?_) ?_ ?_
      rotate_left
      · show Act.put _ (some 16) _ = _
        simp only [Act.put, List.setIfInBounds_toArray, List.set_cons_zero, List.set_cons_succ, i64_w, i32_w]
        rfl
      refine pure_ (i := 9) (N := some 17) (v := ?_) (a' := ?_) #[true, true, true, true, true, true, true, true, true, true, true, false, false] rfl rfl (any_of HT_.out (by kernel_rfl)) (fun _ _ _ h => h) (Or.inl ⟨by rfl, ?_⟩) ?_ ?_
      rotate_left
      · intro w'
        go_simp
        with_reducible rfl
      rotate_left
      · simp only [Act.put, List.setIfInBounds_toArray, List.set_cons_zero, List.set_cons_succ, i64_w, i32_w]
        rfl
      refine pure_ (i := 11) (N := some 19) (v := ?_) (a' := ?_) #[true, true, true, true, true, true, true, true, true, true, true, true, false] rfl rfl (any_of HT_.out (by kernel_rfl)) (fun _ _ _ h => h) (Or.inl ⟨by rfl, ?_⟩) ?_ ?_
      rotate_left
      · intro w'
        go_simp
        with_reducible rfl
      rotate_left
      · simp only [Act.put, List.setIfInBounds_toArray, List.set_cons_zero, List.set_cons_succ, i64_w, i32_w]
        rfl
      refine pure_ (i := 12) (N := some 2) (v := ?_) (a' := ?_) #[true, true, true, true, true, true, true, true, true, true, true, true, true] rfl rfl (any_of HT_.out (by kernel_rfl)) (fun _ _ _ h => h) (Or.inl ⟨by rfl, ?_⟩) ?_ ?_
      rotate_left
      · intro w'
        go_simp
        with_reducible rfl
      rotate_left
      · simp only [Act.put, List.setIfInBounds_toArray, List.set_cons_zero, List.set_cons_succ, i64_w, i32_w]
        rfl
      refine done_ (done_of HT_.out (by kernel_rfl)) ?_
      try go_wp2
      go_ret
      exact ⟨by first | rfl | (simp [errW_none, errW_some] <;> rfl) | (simp [*, errW_none, errW_some] <;> rfl), by repeat (first | (with_reducible first | exact HB.out | apply below_alloc | apply pw_below_drewN | apply below_drew1 | refine below_set ?_ GE169.out) | exact HB.out)⟩
    · rw [if_neg c6] at H
      exact absurd H (by simp)
  · rw [if_neg c5] at H
    exact absurd H (by simp)

/-! ### impl_FlagOf: function 16 -/
def impl_FlagOf.f (a0_0 : Int) (a0_1 : Int) : Option (ByteArray × Bool) := (impl_ValidStuffer.f a0_0 a0_1).bind fun t174 => (if t174 = true then ((impl_Stuffer_flag.f a0_0 a0_1).bind fun t175 => (some (t175, true))) else (some ((⟨#[]⟩ : ByteArray), false)))
set_option maxHeartbeats 8000000 in
set_option maxRecDepth 100000 in
theorem impl_FlagOf.calls (a0_0 : Int) (a0_1 : Int) (r1 : ByteArray) (r2 : Bool) (w : World) (h : impl_FlagOf.f a0_0 a0_1 = some (r1, r2)) :
    Calls Tryd.prog 16 #[.agg #[.int .i64 a0_0, .int .i64 a0_1]] w fun e w' => e = .returned (.tuple #[.string r1, .bool r2]) ∧ Below w.heap.size w w' := by
  have hu26 := Tryd.underlying26
  have HB := Aside0.mk (Below.refl w.heap.size w)
  have H : ((impl_ValidStuffer.f a0_0 a0_1).bind fun t174 => (if t174 = true then ((impl_Stuffer_flag.f a0_0 a0_1).bind fun t175 => (some (t175, true))) else (some ((⟨#[]⟩ : ByteArray), false)))) = some (r1, r2) := h
  clear h
  replace H := Option.bind_eq_some_iff.mp H
  obtain ⟨t174, A20, H⟩ := H
  replace H : (if t174 = true then ((impl_Stuffer_flag.f a0_0 a0_1).bind fun t175 => (some (t175, true))) else (some ((⟨#[]⟩ : ByteArray), false))) = some (r1, r2) := H
  have A2 := Aside0.mk A20
  clear A20
  by_cases c3 : t174 = true
  · subst c3
    have H1 : ((impl_Stuffer_flag.f a0_0 a0_1).bind fun t175 => (some (t175, true))) = some (r1, r2) := by rw [if_pos rfl] at H; exact H
    clear H
    have H := H1
    clear H1
    replace H := Option.bind_eq_some_iff.mp H
    obtain ⟨t175, A40, H⟩ := H
    replace H : (some (t175, true)) = some (r1, r2) := H
    have A4 := Aside0.mk A40
    clear A40
    simp only [Option.some.injEq, Prod.mk.injEq] at H
    obtain ⟨rfl, rfl⟩ := H
    go_enter Tryd.func16, Tryd.ntmps16
    go_wp2_with (first | ((with_reducible refine gate_dst (N := 1) rfl ?_); refine box_event ?hg (N := 1) ?hd (cs := #[.int .i64 a0_0, .int .i64 a0_1]) (t := 26) ?hr ?_; (case hd => rfl); (case hg => rfl); (case hr => first | (go_simp; done) | (go_simp; rfl)); intro gb173 hg w5 hbox hb; have n0_ := Aside0.mk (below_step (by repeat (first | (with_reducible first | exact HB.out | apply below_alloc | apply pw_below_drewN | apply below_drew1) | exact HB.out)) hb); have n1_ := Aside0.mk (hbox); have n2_ := Aside0.mk ((by rw [hg]; exact (below_size (by repeat (first | (with_reducible first | exact HB.out | apply below_alloc | apply pw_below_drewN | apply below_drew1) | exact HB.out))) : w.heap.size ≤ gb173)); have n3_ := Aside0.mk ((by rw [hg]; exact (below_size (by repeat (first | (with_reducible first | exact HB.out | apply below_alloc | apply pw_below_drewN | apply below_drew1) | exact HB.out))) : w.heap.size ≤ gb173)); clear HB; have HB := n0_; have BK173 := n1_; have GW173 := n2_; have GE173 := n3_; clear n0_ n1_ n2_ n3_; clear hb hbox hg; have hcz6_0 : w5.cell? ⟨gb173, 0, none⟩ = some (.int .i64 a0_0) := (blk_cell BK173.out 0).trans rfl; have hcz6_1 : w5.cell? ⟨gb173, 1, none⟩ = some (.int .i64 a0_1) := (blk_cell BK173.out 1).trans rfl; have hfz6_0 := blk_frozen BK173.out 0; have hfz6_1 := blk_frozen BK173.out 1) | ((with_reducible refine gate_callee (f := 17) rfl ?_); refine goesL_ (some 5) rfl rfl Tryd.func17 (by kernel_rfl) rfl #[.agg #[.int .i64 a0_0, .int .i64 a0_1]] rfl (by (try simp only [List.map_toArray, List.map_cons, List.map_nil]); first | done | rfl | (simp only [List.length_drop, List.length_take]; rfl)) ?_; (with_reducible refine (impl_ValidStuffer.calls a0_0 a0_1 true _ A2.out).mono ?_); rintro e w7 ⟨rfl, hb⟩; refine ⟨_, rfl, ?_⟩; have n0_ := Aside0.mk (blk_below (g := gb173) (o := .cells #[.int .i64 a0_0, .int .i64 a0_1] 26 (0, 0)) (by (with_reducible repeat (first | refine blk_drewN ?_ _ | refine blk_drew ?_ | refine blk_alloc ?_ _)); exact BK173.out) hb); have n1_ := Aside0.mk (below_step (by repeat (first | (with_reducible first | exact HB.out | apply below_alloc | apply pw_below_drewN | apply below_drew1 | refine below_set ?_ GE173.out) | exact HB.out)) hb); clear BK173; clear HB; have BK173 := n0_; have HB := n1_; clear n0_ n1_; (try clear hb); (try clear hb2); (try clear hk); (try clear hi); have hcz8_0 : w7.cell? ⟨gb173, 0, none⟩ = some (.int .i64 a0_0) := (blk_cell BK173.out 0).trans rfl; have hcz8_1 : w7.cell? ⟨gb173, 1, none⟩ = some (.int .i64 a0_1) := (blk_cell BK173.out 1).trans rfl; have hfz8_0 := blk_frozen BK173.out 0; have hfz8_1 := blk_frozen BK173.out 1) | ((with_reducible refine gate_callee (f := 36) rfl ?_); refine goesL_ (some 8) rfl rfl Tryd.func36 (by kernel_rfl) rfl #[.agg #[.int .i64 a0_0, .int .i64 a0_1]] rfl (by (try simp only [List.map_toArray, List.map_cons, List.map_nil]); first | done | rfl | (simp only [List.length_drop, List.length_take]; rfl)) ?_; (with_reducible refine (impl_Stuffer_flag.calls a0_0 a0_1 t175 _ A4.out).mono ?_); rintro e w9 ⟨rfl, hb⟩; refine ⟨_, rfl, ?_⟩; have n0_ := Aside0.mk (blk_below (g := gb173) (o := .cells #[.int .i64 a0_0, .int .i64 a0_1] 26 (0, 0)) (by (with_reducible repeat (first | refine blk_drewN ?_ _ | refine blk_drew ?_ | refine blk_alloc ?_ _)); exact BK173.out) hb); have n1_ := Aside0.mk (below_step (by repeat (first | (with_reducible first | exact HB.out | apply below_alloc | apply pw_below_drewN | apply below_drew1 | refine below_set ?_ GE173.out) | exact HB.out)) hb); clear BK173; clear HB; have BK173 := n0_; have HB := n1_; clear n0_ n1_; (try clear hb); (try clear hb2); (try clear hk); (try clear hi)))
    go_ret2
    exact ⟨by first | rfl | (simp [errW_none, errW_some] <;> rfl) | (simp [*, errW_none, errW_some] <;> rfl), by repeat (first | (with_reducible first | exact HB.out | apply below_alloc | apply pw_below_drewN | apply below_drew1 | refine below_set ?_ GE173.out) | exact HB.out)⟩
  · replace c3 := Bool.eq_false_iff.mpr c3
    subst c3
    have H1 : (some ((⟨#[]⟩ : ByteArray), false)) = some (r1, r2) := by rw [if_neg (show ¬ (false = true) by decide)] at H; exact H
    clear H
    have H := H1
    clear H1
    simp only [Option.some.injEq, Prod.mk.injEq] at H
    obtain ⟨rfl, rfl⟩ := H
    go_enter Tryd.func16, Tryd.ntmps16
    go_wp2_with (first | ((with_reducible refine gate_dst (N := 1) rfl ?_); refine box_event ?hg (N := 1) ?hd (cs := #[.int .i64 a0_0, .int .i64 a0_1]) (t := 26) ?hr ?_; (case hd => rfl); (case hg => rfl); (case hr => first | (go_simp; done) | (go_simp; rfl)); intro gb173 hg w10 hbox hb; have n0_ := Aside0.mk (below_step (by repeat (first | (with_reducible first | exact HB.out | apply below_alloc | apply pw_below_drewN | apply below_drew1) | exact HB.out)) hb); have n1_ := Aside0.mk (hbox); have n2_ := Aside0.mk ((by rw [hg]; exact (below_size (by repeat (first | (with_reducible first | exact HB.out | apply below_alloc | apply pw_below_drewN | apply below_drew1) | exact HB.out))) : w.heap.size ≤ gb173)); have n3_ := Aside0.mk ((by rw [hg]; exact (below_size (by repeat (first | (with_reducible first | exact HB.out | apply below_alloc | apply pw_below_drewN | apply below_drew1) | exact HB.out))) : w.heap.size ≤ gb173)); clear HB; have HB := n0_; have BK173 := n1_; have GW173 := n2_; have GE173 := n3_; clear n0_ n1_ n2_ n3_; clear hb hbox hg; have hcz11_0 : w10.cell? ⟨gb173, 0, none⟩ = some (.int .i64 a0_0) := (blk_cell BK173.out 0).trans rfl; have hcz11_1 : w10.cell? ⟨gb173, 1, none⟩ = some (.int .i64 a0_1) := (blk_cell BK173.out 1).trans rfl; have hfz11_0 := blk_frozen BK173.out 0; have hfz11_1 := blk_frozen BK173.out 1) | ((with_reducible refine gate_callee (f := 17) rfl ?_); refine goesL_ (some 5) rfl rfl Tryd.func17 (by kernel_rfl) rfl #[.agg #[.int .i64 a0_0, .int .i64 a0_1]] rfl (by (try simp only [List.map_toArray, List.map_cons, List.map_nil]); first | done | rfl | (simp only [List.length_drop, List.length_take]; rfl)) ?_; (with_reducible refine (impl_ValidStuffer.calls a0_0 a0_1 false _ A2.out).mono ?_); rintro e w12 ⟨rfl, hb⟩; refine ⟨_, rfl, ?_⟩; have n0_ := Aside0.mk (blk_below (g := gb173) (o := .cells #[.int .i64 a0_0, .int .i64 a0_1] 26 (0, 0)) (by (with_reducible repeat (first | refine blk_drewN ?_ _ | refine blk_drew ?_ | refine blk_alloc ?_ _)); exact BK173.out) hb); have n1_ := Aside0.mk (below_step (by repeat (first | (with_reducible first | exact HB.out | apply below_alloc | apply pw_below_drewN | apply below_drew1 | refine below_set ?_ GE173.out) | exact HB.out)) hb); clear BK173; clear HB; have BK173 := n0_; have HB := n1_; clear n0_ n1_; (try clear hb); (try clear hb2); (try clear hk); (try clear hi)))
    go_ret2
    exact ⟨by first | rfl | (simp [errW_none, errW_some] <;> rfl) | (simp [*, errW_none, errW_some] <;> rfl), by repeat (first | (with_reducible first | exact HB.out | apply below_alloc | apply pw_below_drewN | apply below_drew1 | refine below_set ?_ GE173.out) | exact HB.out)⟩

/-! ### laws_FnStuffed: function 4 -/
mutual
def laws_FnStuffed.j0 : Nat → ByteArray → ByteArray → Bool → Option (Bool)
  | 0, _, _, _ => none
  | k + 1, x7, x15, x112 => if x112 = true then (some false) else (laws_FnStuffed.l0 k x7 x15 0)
def laws_FnStuffed.l0 : Nat → ByteArray → ByteArray → Int → Option (Bool)
  | 0, _, _, _ => none
  | k + 1, x7, x15, x17 => if (wrap64 (x17 + (x15.size : Int))) ≤ (x7.size : Int) then (if 0 ≤ x17 then (if x17 ≤ (wrap64 (x17 + (x15.size : Int))) then (if (x7.extract (x17 : Int).toNat ((wrap64 (x17 + (x15.size : Int))) : Int).toNat).toList = x15.toList then (some false) else (laws_FnStuffed.l0 k x7 x15 (wrap64 (x17 + 1)))) else (none)) else (none)) else (some true)
end
def laws_FnStuffed.f (k : Nat) (l0 : List Int) (l1 : List Int) : Option (Bool) := (laws_r8Long.f l0 l1).bind fun t176 => (if t176 = true then (some true) else ((spec_R8Stuffer.f l0).bind fun bt177 => ((spec_R8Bits.f k l1 40).bind fun t180 => ((impl_StuffBits.f k bt177.1 bt177.2 t180).bind fun bt181 => ((impl_UnstuffBits.f k bt177.1 bt177.2 bt181.1).bind fun bt183 => ((impl_LongestRun.f k bt177.1 bt177.2 bt181.1).bind fun bt185 => ((impl_MostStuffed.f bt177.1 bt177.2 (t180.size : Int)).bind fun bt187 => ((impl_FlagOf.f bt177.1 bt177.2).bind fun bt189 => (if bt181.2 = true then (if bt183.2 = true then (if bt185.2 = true then (if bt187.2 = true then (if bt189.2 = true then (if bt183.1.toList = t180.toList then (if bt185.1 > bt177.1 then (laws_FnStuffed.j0 k bt181.1 bt189.1 true) else (if (bt181.1.size : Int) < (t180.size : Int) then (laws_FnStuffed.j0 k bt181.1 bt189.1 true) else (if (wrap64 ((bt181.1.size : Int) - (t180.size : Int))) > bt187.1 then (laws_FnStuffed.j0 k bt181.1 bt189.1 true) else (if (bt189.1.size : Int) = (wrap64 (bt177.1 + 3)) then ((impl_ValidStuffer.f bt177.1 bt177.2).bind fun t191 => (laws_FnStuffed.j0 k bt181.1 bt189.1 (!t191))) else (laws_FnStuffed.j0 k bt181.1 bt189.1 true))))) else (laws_FnStuffed.j0 k bt181.1 bt189.1 true)) else (laws_FnStuffed.j0 k bt181.1 bt189.1 true)) else (laws_FnStuffed.j0 k bt181.1 bt189.1 true)) else (laws_FnStuffed.j0 k bt181.1 bt189.1 true)) else (laws_FnStuffed.j0 k bt181.1 bt189.1 true)) else (laws_FnStuffed.j0 k bt181.1 bt189.1 true))))))))))
theorem laws_FnStuffed.mono_l : ∀ k, (∀ y0 y1 y2, LeO (laws_FnStuffed.j0 k y0 y1 y2) (laws_FnStuffed.j0 (k + 1) y0 y1 y2)) ∧ (∀ y0 y1 y2, LeO (laws_FnStuffed.l0 k y0 y1 y2) (laws_FnStuffed.l0 (k + 1) y0 y1 y2))
  | 0 => ⟨fun _ _ _ r h => by simp [laws_FnStuffed.j0] at h, fun _ _ _ r h => by simp [laws_FnStuffed.l0] at h⟩
  | k + 1 => by
    obtain ⟨ih0, ih1⟩ := laws_FnStuffed.mono_l k
    refine ⟨?_, ?_⟩
    · intro y0 y1 y2
      unfold laws_FnStuffed.j0
      repeat' first
      | (with_reducible exact ih0 _ _ _)
      | (with_reducible exact ih1 _ _ _)
      | (with_reducible exact impl_LongestRun.mono _ _ _ _)
      | (with_reducible exact impl_StuffBits.mono _ _ _ _)
      | (with_reducible exact impl_UnstuffBits.mono _ _ _ _)
      | (with_reducible exact spec_R8Bits.mono _ _ _)
      | (with_reducible exact LeO.refl _)
      | (with_reducible exact LeO.none _)
      | (with_reducible refine LeO.ite ?_ ?_)
      | (with_reducible refine LeO.bind ?_ (fun _ => ?_))
      | exact ih0 _ _ _
      | exact ih1 _ _ _
      | exact impl_LongestRun.mono _ _ _ _
      | exact impl_StuffBits.mono _ _ _ _
      | exact impl_UnstuffBits.mono _ _ _ _
      | exact spec_R8Bits.mono _ _ _
      | exact LeO.none _
      | refine LeO.ite ?_ ?_
      | refine LeO.bind ?_ (fun _ => ?_)
    · intro y0 y1 y2
      unfold laws_FnStuffed.l0
      repeat' first
      | (with_reducible exact ih0 _ _ _)
      | (with_reducible exact ih1 _ _ _)
      | (with_reducible exact impl_LongestRun.mono _ _ _ _)
      | (with_reducible exact impl_StuffBits.mono _ _ _ _)
      | (with_reducible exact impl_UnstuffBits.mono _ _ _ _)
      | (with_reducible exact spec_R8Bits.mono _ _ _)
      | (with_reducible exact LeO.refl _)
      | (with_reducible exact LeO.none _)
      | (with_reducible refine LeO.ite ?_ ?_)
      | (with_reducible refine LeO.bind ?_ (fun _ => ?_))
      | exact ih0 _ _ _
      | exact ih1 _ _ _
      | exact impl_LongestRun.mono _ _ _ _
      | exact impl_StuffBits.mono _ _ _ _
      | exact impl_UnstuffBits.mono _ _ _ _
      | exact spec_R8Bits.mono _ _ _
      | exact LeO.none _
      | refine LeO.ite ?_ ?_
      | refine LeO.bind ?_ (fun _ => ?_)
theorem laws_FnStuffed.mono : ∀ a0 a1 k, LeO (laws_FnStuffed.f k a0 a1) (laws_FnStuffed.f (k + 1) a0 a1) := by
  intro a0 a1 k
  obtain ⟨ih0, ih1⟩ := laws_FnStuffed.mono_l k
  unfold laws_FnStuffed.f
  repeat' first
      | (with_reducible exact ih0 _ _ _)
      | (with_reducible exact ih1 _ _ _)
      | (with_reducible exact impl_LongestRun.mono _ _ _ _)
      | (with_reducible exact impl_StuffBits.mono _ _ _ _)
      | (with_reducible exact impl_UnstuffBits.mono _ _ _ _)
      | (with_reducible exact spec_R8Bits.mono _ _ _)
      | (with_reducible exact LeO.refl _)
      | (with_reducible exact LeO.none _)
      | (with_reducible refine LeO.ite ?_ ?_)
      | (with_reducible refine LeO.bind ?_ (fun _ => ?_))
      | exact ih0 _ _ _
      | exact ih1 _ _ _
      | exact impl_LongestRun.mono _ _ _ _
      | exact impl_StuffBits.mono _ _ _ _
      | exact impl_UnstuffBits.mono _ _ _ _
      | exact spec_R8Bits.mono _ _ _
      | exact LeO.none _
      | refine LeO.ite ?_ ?_
      | refine LeO.bind ?_ (fun _ => ?_)
set_option maxHeartbeats 8000000 in
set_option maxRecDepth 100000 in
theorem laws_FnStuffed.calls (k : Nat) (A0 : Option Addr) (c0 : Nat) (l0 : List Int) (A1 : Option Addr) (c1 : Nat) (l1 : List Int) (r : Bool) (w : World) (hr0 : Kd.C (Kd.int .u8) w A0 l0.length l0) (hc0 : l0.length ≤ c0) (hr1 : Kd.C (Kd.int .u8) w A1 l1.length l1) (hc1 : l1.length ≤ c1) (h : laws_FnStuffed.f k l0 l1 = some r) :
    Calls Tryd.prog 4 #[.slice A0 l0.length c0, .slice A1 l1.length c1] w fun e w' => e = .returned (.bool r) ∧ Below w.heap.size w w' := by
  have hu26 := Tryd.underlying26
  have HR0 := Aside0.mk hr0
  have HC0 := Aside0.mk hc0
  clear hr0 hc0
  have HR1 := Aside0.mk hr1
  have HC1 := Aside0.mk hc1
  clear hr1 hc1
  have HB := Aside0.mk (Below.refl w.heap.size w)
  have H : ((laws_r8Long.f l0 l1).bind fun t176 => (if t176 = true then (some true) else ((spec_R8Stuffer.f l0).bind fun bt177 => ((spec_R8Bits.f k l1 40).bind fun t180 => ((impl_StuffBits.f k bt177.1 bt177.2 t180).bind fun bt181 => ((impl_UnstuffBits.f k bt177.1 bt177.2 bt181.1).bind fun bt183 => ((impl_LongestRun.f k bt177.1 bt177.2 bt181.1).bind fun bt185 => ((impl_MostStuffed.f bt177.1 bt177.2 (t180.size : Int)).bind fun bt187 => ((impl_FlagOf.f bt177.1 bt177.2).bind fun bt189 => (if bt181.2 = true then (if bt183.2 = true then (if bt185.2 = true then (if bt187.2 = true then (if bt189.2 = true then (if bt183.1.toList = t180.toList then (if bt185.1 > bt177.1 then (laws_FnStuffed.j0 k bt181.1 bt189.1 true) else (if (bt181.1.size : Int) < (t180.size : Int) then (laws_FnStuffed.j0 k bt181.1 bt189.1 true) else (if (wrap64 ((bt181.1.size : Int) - (t180.size : Int))) > bt187.1 then (laws_FnStuffed.j0 k bt181.1 bt189.1 true) else (if (bt189.1.size : Int) = (wrap64 (bt177.1 + 3)) then ((impl_ValidStuffer.f bt177.1 bt177.2).bind fun t191 => (laws_FnStuffed.j0 k bt181.1 bt189.1 (!t191))) else (laws_FnStuffed.j0 k bt181.1 bt189.1 true))))) else (laws_FnStuffed.j0 k bt181.1 bt189.1 true)) else (laws_FnStuffed.j0 k bt181.1 bt189.1 true)) else (laws_FnStuffed.j0 k bt181.1 bt189.1 true)) else (laws_FnStuffed.j0 k bt181.1 bt189.1 true)) else (laws_FnStuffed.j0 k bt181.1 bt189.1 true)) else (laws_FnStuffed.j0 k bt181.1 bt189.1 true))))))))))) = some r := h
  clear h
  replace H := Option.bind_eq_some_iff.mp H
  obtain ⟨t176, A30, H⟩ := H
  replace H : (if t176 = true then (some true) else ((spec_R8Stuffer.f l0).bind fun bt177 => ((spec_R8Bits.f k l1 40).bind fun t180 => ((impl_StuffBits.f k bt177.1 bt177.2 t180).bind fun bt181 => ((impl_UnstuffBits.f k bt177.1 bt177.2 bt181.1).bind fun bt183 => ((impl_LongestRun.f k bt177.1 bt177.2 bt181.1).bind fun bt185 => ((impl_MostStuffed.f bt177.1 bt177.2 (t180.size : Int)).bind fun bt187 => ((impl_FlagOf.f bt177.1 bt177.2).bind fun bt189 => (if bt181.2 = true then (if bt183.2 = true then (if bt185.2 = true then (if bt187.2 = true then (if bt189.2 = true then (if bt183.1.toList = t180.toList then (if bt185.1 > bt177.1 then (laws_FnStuffed.j0 k bt181.1 bt189.1 true) else (if (bt181.1.size : Int) < (t180.size : Int) then (laws_FnStuffed.j0 k bt181.1 bt189.1 true) else (if (wrap64 ((bt181.1.size : Int) - (t180.size : Int))) > bt187.1 then (laws_FnStuffed.j0 k bt181.1 bt189.1 true) else (if (bt189.1.size : Int) = (wrap64 (bt177.1 + 3)) then ((impl_ValidStuffer.f bt177.1 bt177.2).bind fun t191 => (laws_FnStuffed.j0 k bt181.1 bt189.1 (!t191))) else (laws_FnStuffed.j0 k bt181.1 bt189.1 true))))) else (laws_FnStuffed.j0 k bt181.1 bt189.1 true)) else (laws_FnStuffed.j0 k bt181.1 bt189.1 true)) else (laws_FnStuffed.j0 k bt181.1 bt189.1 true)) else (laws_FnStuffed.j0 k bt181.1 bt189.1 true)) else (laws_FnStuffed.j0 k bt181.1 bt189.1 true)) else (laws_FnStuffed.j0 k bt181.1 bt189.1 true)))))))))) = some r := H
  have A3 := Aside0.mk A30
  clear A30
  by_cases c4 : t176 = true
  · subst c4
    have H1 : (some true) = some r := by rw [if_pos rfl] at H; exact H
    clear H
    have H := H1
    clear H1
    obtain rfl := Option.some.inj H
    go_enter Tryd.func4, Tryd.ntmps4
    go_wp2_with (first | ((with_reducible refine gate_callee (f := 10) rfl ?_); refine goesL_ (some 20) rfl rfl Tryd.func10 (by kernel_rfl) rfl #[.slice A0 l0.length c0, .slice A1 l1.length c1] rfl (by (try simp only [List.map_toArray, List.map_cons, List.map_nil]); first | done | rfl | (simp only [List.length_drop, List.length_take]; rfl)) ?_; (with_reducible refine (laws_r8Long.calls _ _ l0 _ _ l1 true _ ?side1 ?side2 ?side3 ?side4 A3.out).mono ?_); (case side1 => repeat (first | exact HR0.out | (with_reducible refine Kd.C_alloc ?_ _) | (with_reducible refine Kd.C_drewN ?_ _) | (with_reducible refine Kd.C_drew ?_))); (case side2 => exact HC0.out); (case side3 => repeat (first | exact HR1.out | (with_reducible refine Kd.C_alloc ?_ _) | (with_reducible refine Kd.C_drewN ?_ _) | (with_reducible refine Kd.C_drew ?_))); (case side4 => exact HC1.out); rintro e w' ⟨rfl, ⟨nd, rfl⟩⟩; refine ⟨_, rfl, ?_⟩))
    go_ret
    exact ⟨by first | rfl | (simp [errW_none, errW_some] <;> rfl) | (simp [*, errW_none, errW_some] <;> rfl), by repeat (first | (with_reducible first | exact HB.out | apply below_alloc | apply pw_below_drewN | apply below_drew1) | exact HB.out)⟩
  · replace c4 := Bool.eq_false_iff.mpr c4
    subst c4
    have H1 : ((spec_R8Stuffer.f l0).bind fun bt177 => ((spec_R8Bits.f k l1 40).bind fun t180 => ((impl_StuffBits.f k bt177.1 bt177.2 t180).bind fun bt181 => ((impl_UnstuffBits.f k bt177.1 bt177.2 bt181.1).bind fun bt183 => ((impl_LongestRun.f k bt177.1 bt177.2 bt181.1).bind fun bt185 => ((impl_MostStuffed.f bt177.1 bt177.2 (t180.size : Int)).bind fun bt187 => ((impl_FlagOf.f bt177.1 bt177.2).bind fun bt189 => (if bt181.2 = true then (if bt183.2 = true then (if bt185.2 = true then (if bt187.2 = true then (if bt189.2 = true then (if bt183.1.toList = t180.toList then (if bt185.1 > bt177.1 then (laws_FnStuffed.j0 k bt181.1 bt189.1 true) else (if (bt181.1.size : Int) < (t180.size : Int) then (laws_FnStuffed.j0 k bt181.1 bt189.1 true) else (if (wrap64 ((bt181.1.size : Int) - (t180.size : Int))) > bt187.1 then (laws_FnStuffed.j0 k bt181.1 bt189.1 true) else (if (bt189.1.size : Int) = (wrap64 (bt177.1 + 3)) then ((impl_ValidStuffer.f bt177.1 bt177.2).bind fun t191 => (laws_FnStuffed.j0 k bt181.1 bt189.1 (!t191))) else (laws_FnStuffed.j0 k bt181.1 bt189.1 true))))) else (laws_FnStuffed.j0 k bt181.1 bt189.1 true)) else (laws_FnStuffed.j0 k bt181.1 bt189.1 true)) else (laws_FnStuffed.j0 k bt181.1 bt189.1 true)) else (laws_FnStuffed.j0 k bt181.1 bt189.1 true)) else (laws_FnStuffed.j0 k bt181.1 bt189.1 true)) else (laws_FnStuffed.j0 k bt181.1 bt189.1 true))))))))) = some r := by rw [if_neg (show ¬ (false = true) by decide)] at H; exact H
    clear H
    have H := H1
    clear H1
    replace H := Option.bind_eq_some_iff.mp H
    obtain ⟨⟨t177, t178⟩, A50, H⟩ := H
    replace H : ((spec_R8Bits.f k l1 40).bind fun t180 => ((impl_StuffBits.f k t177 t178 t180).bind fun bt181 => ((impl_UnstuffBits.f k t177 t178 bt181.1).bind fun bt183 => ((impl_LongestRun.f k t177 t178 bt181.1).bind fun bt185 => ((impl_MostStuffed.f t177 t178 (t180.size : Int)).bind fun bt187 => ((impl_FlagOf.f t177 t178).bind fun bt189 => (if bt181.2 = true then (if bt183.2 = true then (if bt185.2 = true then (if bt187.2 = true then (if bt189.2 = true then (if bt183.1.toList = t180.toList then (if bt185.1 > t177 then (laws_FnStuffed.j0 k bt181.1 bt189.1 true) else (if (bt181.1.size : Int) < (t180.size : Int) then (laws_FnStuffed.j0 k bt181.1 bt189.1 true) else (if (wrap64 ((bt181.1.size : Int) - (t180.size : Int))) > bt187.1 then (laws_FnStuffed.j0 k bt181.1 bt189.1 true) else (if (bt189.1.size : Int) = (wrap64 (t177 + 3)) then ((impl_ValidStuffer.f t177 t178).bind fun t191 => (laws_FnStuffed.j0 k bt181.1 bt189.1 (!t191))) else (laws_FnStuffed.j0 k bt181.1 bt189.1 true))))) else (laws_FnStuffed.j0 k bt181.1 bt189.1 true)) else (laws_FnStuffed.j0 k bt181.1 bt189.1 true)) else (laws_FnStuffed.j0 k bt181.1 bt189.1 true)) else (laws_FnStuffed.j0 k bt181.1 bt189.1 true)) else (laws_FnStuffed.j0 k bt181.1 bt189.1 true)) else (laws_FnStuffed.j0 k bt181.1 bt189.1 true)))))))) = some r := H
    have A5 := Aside0.mk A50
    clear A50
    replace H := Option.bind_eq_some_iff.mp H
    obtain ⟨t180, A60, H⟩ := H
    replace H : ((impl_StuffBits.f k t177 t178 t180).bind fun bt181 => ((impl_UnstuffBits.f k t177 t178 bt181.1).bind fun bt183 => ((impl_LongestRun.f k t177 t178 bt181.1).bind fun bt185 => ((impl_MostStuffed.f t177 t178 (t180.size : Int)).bind fun bt187 => ((impl_FlagOf.f t177 t178).bind fun bt189 => (if bt181.2 = true then (if bt183.2 = true then (if bt185.2 = true then (if bt187.2 = true then (if bt189.2 = true then (if bt183.1.toList = t180.toList then (if bt185.1 > t177 then (laws_FnStuffed.j0 k bt181.1 bt189.1 true) else (if (bt181.1.size : Int) < (t180.size : Int) then (laws_FnStuffed.j0 k bt181.1 bt189.1 true) else (if (wrap64 ((bt181.1.size : Int) - (t180.size : Int))) > bt187.1 then (laws_FnStuffed.j0 k bt181.1 bt189.1 true) else (if (bt189.1.size : Int) = (wrap64 (t177 + 3)) then ((impl_ValidStuffer.f t177 t178).bind fun t191 => (laws_FnStuffed.j0 k bt181.1 bt189.1 (!t191))) else (laws_FnStuffed.j0 k bt181.1 bt189.1 true))))) else (laws_FnStuffed.j0 k bt181.1 bt189.1 true)) else (laws_FnStuffed.j0 k bt181.1 bt189.1 true)) else (laws_FnStuffed.j0 k bt181.1 bt189.1 true)) else (laws_FnStuffed.j0 k bt181.1 bt189.1 true)) else (laws_FnStuffed.j0 k bt181.1 bt189.1 true)) else (laws_FnStuffed.j0 k bt181.1 bt189.1 true))))))) = some r := H
    have A6 := Aside0.mk A60
    clear A60
    replace H := Option.bind_eq_some_iff.mp H
    obtain ⟨⟨t181, t182⟩, A70, H⟩ := H
    replace H : ((impl_UnstuffBits.f k t177 t178 t181).bind fun bt183 => ((impl_LongestRun.f k t177 t178 t181).bind fun bt185 => ((impl_MostStuffed.f t177 t178 (t180.size : Int)).bind fun bt187 => ((impl_FlagOf.f t177 t178).bind fun bt189 => (if t182 = true then (if bt183.2 = true then (if bt185.2 = true then (if bt187.2 = true then (if bt189.2 = true then (if bt183.1.toList = t180.toList then (if bt185.1 > t177 then (laws_FnStuffed.j0 k t181 bt189.1 true) else (if (t181.size : Int) < (t180.size : Int) then (laws_FnStuffed.j0 k t181 bt189.1 true) else (if (wrap64 ((t181.size : Int) - (t180.size : Int))) > bt187.1 then (laws_FnStuffed.j0 k t181 bt189.1 true) else (if (bt189.1.size : Int) = (wrap64 (t177 + 3)) then ((impl_ValidStuffer.f t177 t178).bind fun t191 => (laws_FnStuffed.j0 k t181 bt189.1 (!t191))) else (laws_FnStuffed.j0 k t181 bt189.1 true))))) else (laws_FnStuffed.j0 k t181 bt189.1 true)) else (laws_FnStuffed.j0 k t181 bt189.1 true)) else (laws_FnStuffed.j0 k t181 bt189.1 true)) else (laws_FnStuffed.j0 k t181 bt189.1 true)) else (laws_FnStuffed.j0 k t181 bt189.1 true)) else (laws_FnStuffed.j0 k t181 bt189.1 true)))))) = some r := H
    have A7 := Aside0.mk A70
    clear A70
    replace H := Option.bind_eq_some_iff.mp H
    obtain ⟨⟨t183, t184⟩, A80, H⟩ := H
    replace H : ((impl_LongestRun.f k t177 t178 t181).bind fun bt185 => ((impl_MostStuffed.f t177 t178 (t180.size : Int)).bind fun bt187 => ((impl_FlagOf.f t177 t178).bind fun bt189 => (if t182 = true then (if t184 = true then (if bt185.2 = true then (if bt187.2 = true then (if bt189.2 = true then (if t183.toList = t180.toList then (if bt185.1 > t177 then (laws_FnStuffed.j0 k t181 bt189.1 true) else (if (t181.size : Int) < (t180.size : Int) then (laws_FnStuffed.j0 k t181 bt189.1 true) else (if (wrap64 ((t181.size : Int) - (t180.size : Int))) > bt187.1 then (laws_FnStuffed.j0 k t181 bt189.1 true) else (if (bt189.1.size : Int) = (wrap64 (t177 + 3)) then ((impl_ValidStuffer.f t177 t178).bind fun t191 => (laws_FnStuffed.j0 k t181 bt189.1 (!t191))) else (laws_FnStuffed.j0 k t181 bt189.1 true))))) else (laws_FnStuffed.j0 k t181 bt189.1 true)) else (laws_FnStuffed.j0 k t181 bt189.1 true)) else (laws_FnStuffed.j0 k t181 bt189.1 true)) else (laws_FnStuffed.j0 k t181 bt189.1 true)) else (laws_FnStuffed.j0 k t181 bt189.1 true)) else (laws_FnStuffed.j0 k t181 bt189.1 true))))) = some r := H
    have A8 := Aside0.mk A80
    clear A80
    replace H := Option.bind_eq_some_iff.mp H
    obtain ⟨⟨t185, t186⟩, A90, H⟩ := H
    replace H : ((impl_MostStuffed.f t177 t178 (t180.size : Int)).bind fun bt187 => ((impl_FlagOf.f t177 t178).bind fun bt189 => (if t182 = true then (if t184 = true then (if t186 = true then (if bt187.2 = true then (if bt189.2 = true then (if t183.toList = t180.toList then (if t185 > t177 then (laws_FnStuffed.j0 k t181 bt189.1 true) else (if (t181.size : Int) < (t180.size : Int) then (laws_FnStuffed.j0 k t181 bt189.1 true) else (if (wrap64 ((t181.size : Int) - (t180.size : Int))) > bt187.1 then (laws_FnStuffed.j0 k t181 bt189.1 true) else (if (bt189.1.size : Int) = (wrap64 (t177 + 3)) then ((impl_ValidStuffer.f t177 t178).bind fun t191 => (laws_FnStuffed.j0 k t181 bt189.1 (!t191))) else (laws_FnStuffed.j0 k t181 bt189.1 true))))) else (laws_FnStuffed.j0 k t181 bt189.1 true)) else (laws_FnStuffed.j0 k t181 bt189.1 true)) else (laws_FnStuffed.j0 k t181 bt189.1 true)) else (laws_FnStuffed.j0 k t181 bt189.1 true)) else (laws_FnStuffed.j0 k t181 bt189.1 true)) else (laws_FnStuffed.j0 k t181 bt189.1 true)))) = some r := H
    have A9 := Aside0.mk A90
    clear A90
    replace H := Option.bind_eq_some_iff.mp H
    obtain ⟨⟨t187, t188⟩, A100, H⟩ := H
    replace H : ((impl_FlagOf.f t177 t178).bind fun bt189 => (if t182 = true then (if t184 = true then (if t186 = true then (if t188 = true then (if bt189.2 = true then (if t183.toList = t180.toList then (if t185 > t177 then (laws_FnStuffed.j0 k t181 bt189.1 true) else (if (t181.size : Int) < (t180.size : Int) then (laws_FnStuffed.j0 k t181 bt189.1 true) else (if (wrap64 ((t181.size : Int) - (t180.size : Int))) > t187 then (laws_FnStuffed.j0 k t181 bt189.1 true) else (if (bt189.1.size : Int) = (wrap64 (t177 + 3)) then ((impl_ValidStuffer.f t177 t178).bind fun t191 => (laws_FnStuffed.j0 k t181 bt189.1 (!t191))) else (laws_FnStuffed.j0 k t181 bt189.1 true))))) else (laws_FnStuffed.j0 k t181 bt189.1 true)) else (laws_FnStuffed.j0 k t181 bt189.1 true)) else (laws_FnStuffed.j0 k t181 bt189.1 true)) else (laws_FnStuffed.j0 k t181 bt189.1 true)) else (laws_FnStuffed.j0 k t181 bt189.1 true)) else (laws_FnStuffed.j0 k t181 bt189.1 true))) = some r := H
    have A10 := Aside0.mk A100
    clear A100
    replace H := Option.bind_eq_some_iff.mp H
    obtain ⟨⟨t189, t190⟩, A110, H⟩ := H
    replace H : (if t182 = true then (if t184 = true then (if t186 = true then (if t188 = true then (if t190 = true then (if t183.toList = t180.toList then (if t185 > t177 then (laws_FnStuffed.j0 k t181 t189 true) else (if (t181.size : Int) < (t180.size : Int) then (laws_FnStuffed.j0 k t181 t189 true) else (if (wrap64 ((t181.size : Int) - (t180.size : Int))) > t187 then (laws_FnStuffed.j0 k t181 t189 true) else (if (t189.size : Int) = (wrap64 (t177 + 3)) then ((impl_ValidStuffer.f t177 t178).bind fun t191 => (laws_FnStuffed.j0 k t181 t189 (!t191))) else (laws_FnStuffed.j0 k t181 t189 true))))) else (laws_FnStuffed.j0 k t181 t189 true)) else (laws_FnStuffed.j0 k t181 t189 true)) else (laws_FnStuffed.j0 k t181 t189 true)) else (laws_FnStuffed.j0 k t181 t189 true)) else (laws_FnStuffed.j0 k t181 t189 true)) else (laws_FnStuffed.j0 k t181 t189 true)) = some r := H
    have A11 := Aside0.mk A110
    clear A110
    have HC12 := Aside0.mk H
    clear H
    go_enter Tryd.func4, Tryd.ntmps4
    go_upto_region 10 with (first | ((with_reducible refine gate_callee (f := 10) rfl ?_); refine goesL_ (some 20) rfl rfl Tryd.func10 (by kernel_rfl) rfl #[.slice A0 l0.length c0, .slice A1 l1.length c1] rfl (by (try simp only [List.map_toArray, List.map_cons, List.map_nil]); first | done | rfl | (simp only [List.length_drop, List.length_take]; rfl)) ?_; (with_reducible refine (laws_r8Long.calls _ _ l0 _ _ l1 false _ ?side1 ?side2 ?side3 ?side4 A3.out).mono ?_); (case side1 => repeat (first | exact HR0.out | (with_reducible refine Kd.C_alloc ?_ _) | (with_reducible refine Kd.C_drewN ?_ _) | (with_reducible refine Kd.C_drew ?_))); (case side2 => exact HC0.out); (case side3 => repeat (first | exact HR1.out | (with_reducible refine Kd.C_alloc ?_ _) | (with_reducible refine Kd.C_drewN ?_ _) | (with_reducible refine Kd.C_drew ?_))); (case side4 => exact HC1.out); rintro e w' ⟨rfl, ⟨nd, rfl⟩⟩; refine ⟨_, rfl, ?_⟩) | ((with_reducible refine gate_callee (f := 11) rfl ?_); refine goesL_ (some 22) rfl rfl Tryd.func11 (by kernel_rfl) rfl #[.slice A0 l0.length c0] rfl (by (try simp only [List.map_toArray, List.map_cons, List.map_nil]); first | done | rfl | (simp only [List.length_drop, List.length_take]; rfl)) ?_; (with_reducible refine (spec_R8Stuffer.calls _ _ l0 t177 t178 _ ?side1 ?side2 A5.out).mono ?_); (case side1 => repeat (first | exact HR0.out | (with_reducible refine Kd.C_alloc ?_ _) | (with_reducible refine Kd.C_drewN ?_ _) | (with_reducible refine Kd.C_drew ?_))); (case side2 => exact HC0.out); rintro e w13 ⟨rfl, hb⟩; refine ⟨_, rfl, ?_⟩; have n0_ := Aside0.mk (below_step (by repeat (first | (with_reducible first | exact HB.out | apply below_alloc | apply pw_below_drewN | apply below_drew1) | exact HB.out)) hb); clear HB; have HB := n0_; clear n0_; (try clear hb); (try clear hb2); (try clear hk); (try clear hi)) | ((with_reducible refine gate_dst (N := 5) rfl ?_); (try (refine gate_guard (by rfl) ?_; dsimp only)); refine box_event ?hg (N := 5) ?hd (cs := #[.int .i64 0, .int .i64 0]) (t := 26) ?hr ?_; (case hd => rfl); (case hg => rfl); (case hr => first | (go_simp; done) | (go_simp; rfl)); intro gb179 hg w14 hbox hb; have n0_ := Aside0.mk (below_step (by repeat (first | (with_reducible first | exact HB.out | apply below_alloc | apply pw_below_drewN | apply below_drew1) | exact HB.out)) hb); have n1_ := Aside0.mk (hbox); have n2_ := Aside0.mk ((by rw [hg]; exact (below_size (by repeat (first | (with_reducible first | exact HB.out | apply below_alloc | apply pw_below_drewN | apply below_drew1) | exact HB.out))) : w.heap.size ≤ gb179)); have n3_ := Aside0.mk ((by rw [hg]; exact (below_size (by repeat (first | (with_reducible first | exact HB.out | apply below_alloc | apply pw_below_drewN | apply below_drew1) | exact HB.out))) : w.heap.size ≤ gb179)); clear HB; have HB := n0_; have BK179 := n1_; have GW179 := n2_; have GE179 := n3_; clear n0_ n1_ n2_ n3_; clear hb hbox hg; have hcz15_0 : w14.cell? ⟨gb179, 0, none⟩ = some (.int .i64 0) := (blk_cell BK179.out 0).trans rfl; have hcz15_1 : w14.cell? ⟨gb179, 1, none⟩ = some (.int .i64 0) := (blk_cell BK179.out 1).trans rfl; have hfz15_0 := blk_frozen BK179.out 0; have hfz15_1 := blk_frozen BK179.out 1) | ((with_reducible refine gate_callee (f := 12) rfl ?_); refine goesL_ (some 24) rfl rfl Tryd.func12 (by kernel_rfl) rfl #[.slice A1 l1.length c1, .int .i64 40] rfl (by (try simp only [List.map_toArray, List.map_cons, List.map_nil]); first | done | rfl | (simp only [List.length_drop, List.length_take]; rfl)) ?_; (with_reducible refine (spec_R8Bits.calls k _ _ l1 40 t180 _ ?side1 ?side2 A6.out).mono ?_); (case side1 => exact Kd.C_below HR1.out (by repeat (first | (with_reducible first | exact HB.out | apply below_alloc | apply pw_below_drewN | apply below_drew1 | refine below_set ?_ GE179.out) | exact HB.out))); (case side2 => exact HC1.out); rintro e w16 ⟨rfl, hb⟩; refine ⟨_, rfl, ?_⟩; have n0_ := Aside0.mk (blk_below (g := gb179) (o := .cells #[.int .i64 t177, .int .i64 t178] 26 (0, 0)) (by (with_reducible repeat (first | refine blk_drewN ?_ _ | refine blk_drew ?_ | refine blk_alloc ?_ _)); refine blk_put (cs := #[.int .i64 t177, .int .i64 0]) ?_ 1 _ rfl; (with_reducible repeat (first | refine blk_drewN ?_ _ | refine blk_drew ?_ | refine blk_alloc ?_ _)); refine blk_put (cs := #[.int .i64 0, .int .i64 0]) ?_ 0 _ rfl; (with_reducible repeat (first | refine blk_drewN ?_ _ | refine blk_drew ?_ | refine blk_alloc ?_ _)); exact BK179.out) hb); have n1_ := Aside0.mk (below_step (by repeat (first | (with_reducible first | exact HB.out | apply below_alloc | apply pw_below_drewN | apply below_drew1 | refine below_set ?_ GE179.out) | exact HB.out)) hb); clear BK179; clear HB; have BK179 := n0_; have HB := n1_; clear n0_ n1_; (try clear hb); (try clear hb2); (try clear hk); (try clear hi); have hcz17_0 : w16.cell? ⟨gb179, 0, none⟩ = some (.int .i64 t177) := (blk_cell BK179.out 0).trans rfl; have hcz17_1 : w16.cell? ⟨gb179, 1, none⟩ = some (.int .i64 t178) := (blk_cell BK179.out 1).trans rfl; have hfz17_0 := blk_frozen BK179.out 0; have hfz17_1 := blk_frozen BK179.out 1) | ((with_reducible refine gate_callee (f := 13) rfl ?_); refine goesL_ (some 28) rfl rfl Tryd.func13 (by kernel_rfl) rfl #[.agg #[.int .i64 t177, .int .i64 t178], .string t180] rfl (by (try simp only [List.map_toArray, List.map_cons, List.map_nil]); first | done | rfl | (simp only [List.length_drop, List.length_take]; rfl)) ?_; (with_reducible refine (impl_StuffBits.calls k t177 t178 t180 t181 t182 _ A7.out).mono ?_); rintro e w18 ⟨rfl, hb⟩; refine ⟨_, rfl, ?_⟩; have n0_ := Aside0.mk (blk_below (g := gb179) (o := .cells #[.int .i64 t177, .int .i64 t178] 26 (0, 0)) (by (with_reducible repeat (first | refine blk_drewN ?_ _ | refine blk_drew ?_ | refine blk_alloc ?_ _)); exact BK179.out) hb); have n1_ := Aside0.mk (below_step (by repeat (first | (with_reducible first | exact HB.out | apply below_alloc | apply pw_below_drewN | apply below_drew1 | refine below_set ?_ GE179.out) | exact HB.out)) hb); clear BK179; clear HB; have BK179 := n0_; have HB := n1_; clear n0_ n1_; (try clear hb); (try clear hb2); (try clear hk); (try clear hi); have hcz19_0 : w18.cell? ⟨gb179, 0, none⟩ = some (.int .i64 t177) := (blk_cell BK179.out 0).trans rfl; have hcz19_1 : w18.cell? ⟨gb179, 1, none⟩ = some (.int .i64 t178) := (blk_cell BK179.out 1).trans rfl; have hfz19_0 := blk_frozen BK179.out 0; have hfz19_1 := blk_frozen BK179.out 1) | ((with_reducible refine gate_callee (f := 9) rfl ?_); refine goesL_ (some 34) rfl rfl Tryd.func9 (by kernel_rfl) rfl #[.agg #[.int .i64 t177, .int .i64 t178], .string t181] rfl (by (try simp only [List.map_toArray, List.map_cons, List.map_nil]); first | done | rfl | (simp only [List.length_drop, List.length_take]; rfl)) ?_; (with_reducible refine (impl_UnstuffBits.calls k t177 t178 t181 t183 t184 _ A8.out).mono ?_); rintro e w20 ⟨rfl, hb⟩; refine ⟨_, rfl, ?_⟩; have n0_ := Aside0.mk (blk_below (g := gb179) (o := .cells #[.int .i64 t177, .int .i64 t178] 26 (0, 0)) (by (with_reducible repeat (first | refine blk_drewN ?_ _ | refine blk_drew ?_ | refine blk_alloc ?_ _)); exact BK179.out) hb); have n1_ := Aside0.mk (below_step (by repeat (first | (with_reducible first | exact HB.out | apply below_alloc | apply pw_below_drewN | apply below_drew1 | refine below_set ?_ GE179.out) | exact HB.out)) hb); clear BK179; clear HB; have BK179 := n0_; have HB := n1_; clear n0_ n1_; (try clear hb); (try clear hb2); (try clear hk); (try clear hi); have hcz21_0 : w20.cell? ⟨gb179, 0, none⟩ = some (.int .i64 t177) := (blk_cell BK179.out 0).trans rfl; have hcz21_1 : w20.cell? ⟨gb179, 1, none⟩ = some (.int .i64 t178) := (blk_cell BK179.out 1).trans rfl; have hfz21_0 := blk_frozen BK179.out 0; have hfz21_1 := blk_frozen BK179.out 1) | ((with_reducible refine gate_callee (f := 14) rfl ?_); refine goesL_ (some 40) rfl rfl Tryd.func14 (by kernel_rfl) rfl #[.agg #[.int .i64 t177, .int .i64 t178], .string t181] rfl (by (try simp only [List.map_toArray, List.map_cons, List.map_nil]); first | done | rfl | (simp only [List.length_drop, List.length_take]; rfl)) ?_; (with_reducible refine (impl_LongestRun.calls k t177 t178 t181 t185 t186 _ A9.out).mono ?_); rintro e w22 ⟨rfl, hb⟩; refine ⟨_, rfl, ?_⟩; have n0_ := Aside0.mk (blk_below (g := gb179) (o := .cells #[.int .i64 t177, .int .i64 t178] 26 (0, 0)) (by (with_reducible repeat (first | refine blk_drewN ?_ _ | refine blk_drew ?_ | refine blk_alloc ?_ _)); exact BK179.out) hb); have n1_ := Aside0.mk (below_step (by repeat (first | (with_reducible first | exact HB.out | apply below_alloc | apply pw_below_drewN | apply below_drew1 | refine below_set ?_ GE179.out) | exact HB.out)) hb); clear BK179; clear HB; have BK179 := n0_; have HB := n1_; clear n0_ n1_; (try clear hb); (try clear hb2); (try clear hk); (try clear hi); have hcz23_0 : w22.cell? ⟨gb179, 0, none⟩ = some (.int .i64 t177) := (blk_cell BK179.out 0).trans rfl; have hcz23_1 : w22.cell? ⟨gb179, 1, none⟩ = some (.int .i64 t178) := (blk_cell BK179.out 1).trans rfl; have hfz23_0 := blk_frozen BK179.out 0; have hfz23_1 := blk_frozen BK179.out 1) | ((with_reducible refine gate_callee (f := 15) rfl ?_); refine goesL_ (some 47) rfl rfl Tryd.func15 (by kernel_rfl) rfl #[.agg #[.int .i64 t177, .int .i64 t178], .int .i64 (t180.size : Int)] rfl (by (try simp only [List.map_toArray, List.map_cons, List.map_nil]); first | done | rfl | (simp only [List.length_drop, List.length_take]; rfl)) ?_; (with_reducible refine (impl_MostStuffed.calls t177 t178 (t180.size : Int) t187 t188 _ A10.out).mono ?_); rintro e w24 ⟨rfl, hb⟩; refine ⟨_, rfl, ?_⟩; have n0_ := Aside0.mk (blk_below (g := gb179) (o := .cells #[.int .i64 t177, .int .i64 t178] 26 (0, 0)) (by (with_reducible repeat (first | refine blk_drewN ?_ _ | refine blk_drew ?_ | refine blk_alloc ?_ _)); exact BK179.out) hb); have n1_ := Aside0.mk (below_step (by repeat (first | (with_reducible first | exact HB.out | apply below_alloc | apply pw_below_drewN | apply below_drew1 | refine below_set ?_ GE179.out) | exact HB.out)) hb); clear BK179; clear HB; have BK179 := n0_; have HB := n1_; clear n0_ n1_; (try clear hb); (try clear hb2); (try clear hk); (try clear hi); have hcz25_0 : w24.cell? ⟨gb179, 0, none⟩ = some (.int .i64 t177) := (blk_cell BK179.out 0).trans rfl; have hcz25_1 : w24.cell? ⟨gb179, 1, none⟩ = some (.int .i64 t178) := (blk_cell BK179.out 1).trans rfl; have hfz25_0 := blk_frozen BK179.out 0; have hfz25_1 := blk_frozen BK179.out 1) | ((with_reducible refine gate_callee (f := 16) rfl ?_); refine goesL_ (some 52) rfl rfl Tryd.func16 (by kernel_rfl) rfl #[.agg #[.int .i64 t177, .int .i64 t178]] rfl (by (try simp only [List.map_toArray, List.map_cons, List.map_nil]); first | done | rfl | (simp only [List.length_drop, List.length_take]; rfl)) ?_; (with_reducible refine (impl_FlagOf.calls t177 t178 t189 t190 _ A11.out).mono ?_); rintro e w26 ⟨rfl, hb⟩; refine ⟨_, rfl, ?_⟩; have n0_ := Aside0.mk (blk_below (g := gb179) (o := .cells #[.int .i64 t177, .int .i64 t178] 26 (0, 0)) (by (with_reducible repeat (first | refine blk_drewN ?_ _ | refine blk_drew ?_ | refine blk_alloc ?_ _)); exact BK179.out) hb); have n1_ := Aside0.mk (below_step (by repeat (first | (with_reducible first | exact HB.out | apply below_alloc | apply pw_below_drewN | apply below_drew1 | refine below_set ?_ GE179.out) | exact HB.out)) hb); clear BK179; clear HB; have BK179 := n0_; have HB := n1_; clear n0_ n1_; (try clear hb); (try clear hb2); (try clear hk); (try clear hi)))
    (try simp only [Act.put, List.setIfInBounds_toArray, List.set_cons_zero, List.set_cons_succ])
    go_cut [112] (fun v112 wc => ∃ (kq : Nat) (x112_11 : Bool), v112 = .bool x112_11 ∧ Aside0 (laws_FnStuffed.j0 kq t181 t189 x112_11 = some r) ∧ Aside0 (kq ≤ k) ∧ Aside0 (wc.heap[gb179]? = some (.cells #[.int .i64 t177, .int .i64 t178] 26 (0, 0))) ∧ Aside0 (Below w.heap.size w wc))
    case first =>
      have H := HC12.out
      clear HC12
      by_cases c27 : t182 = true
      · subst c27
        have H1 : (if t184 = true then (if t186 = true then (if t188 = true then (if t190 = true then (if t183.toList = t180.toList then (if t185 > t177 then (laws_FnStuffed.j0 k t181 t189 true) else (if (t181.size : Int) < (t180.size : Int) then (laws_FnStuffed.j0 k t181 t189 true) else (if (wrap64 ((t181.size : Int) - (t180.size : Int))) > t187 then (laws_FnStuffed.j0 k t181 t189 true) else (if (t189.size : Int) = (wrap64 (t177 + 3)) then ((impl_ValidStuffer.f t177 t178).bind fun t191 => (laws_FnStuffed.j0 k t181 t189 (!t191))) else (laws_FnStuffed.j0 k t181 t189 true))))) else (laws_FnStuffed.j0 k t181 t189 true)) else (laws_FnStuffed.j0 k t181 t189 true)) else (laws_FnStuffed.j0 k t181 t189 true)) else (laws_FnStuffed.j0 k t181 t189 true)) else (laws_FnStuffed.j0 k t181 t189 true)) = some r := by rw [if_pos rfl] at H; exact H
        clear H
        have H := H1
        clear H1
        by_cases c28 : t184 = true
        · subst c28
          have H1 : (if t186 = true then (if t188 = true then (if t190 = true then (if t183.toList = t180.toList then (if t185 > t177 then (laws_FnStuffed.j0 k t181 t189 true) else (if (t181.size : Int) < (t180.size : Int) then (laws_FnStuffed.j0 k t181 t189 true) else (if (wrap64 ((t181.size : Int) - (t180.size : Int))) > t187 then (laws_FnStuffed.j0 k t181 t189 true) else (if (t189.size : Int) = (wrap64 (t177 + 3)) then ((impl_ValidStuffer.f t177 t178).bind fun t191 => (laws_FnStuffed.j0 k t181 t189 (!t191))) else (laws_FnStuffed.j0 k t181 t189 true))))) else (laws_FnStuffed.j0 k t181 t189 true)) else (laws_FnStuffed.j0 k t181 t189 true)) else (laws_FnStuffed.j0 k t181 t189 true)) else (laws_FnStuffed.j0 k t181 t189 true)) = some r := by rw [if_pos rfl] at H; exact H
          clear H
          have H := H1
          clear H1
          by_cases c29 : t186 = true
          · subst c29
            have H1 : (if t188 = true then (if t190 = true then (if t183.toList = t180.toList then (if t185 > t177 then (laws_FnStuffed.j0 k t181 t189 true) else (if (t181.size : Int) < (t180.size : Int) then (laws_FnStuffed.j0 k t181 t189 true) else (if (wrap64 ((t181.size : Int) - (t180.size : Int))) > t187 then (laws_FnStuffed.j0 k t181 t189 true) else (if (t189.size : Int) = (wrap64 (t177 + 3)) then ((impl_ValidStuffer.f t177 t178).bind fun t191 => (laws_FnStuffed.j0 k t181 t189 (!t191))) else (laws_FnStuffed.j0 k t181 t189 true))))) else (laws_FnStuffed.j0 k t181 t189 true)) else (laws_FnStuffed.j0 k t181 t189 true)) else (laws_FnStuffed.j0 k t181 t189 true)) = some r := by rw [if_pos rfl] at H; exact H
            clear H
            have H := H1
            clear H1
            by_cases c30 : t188 = true
            · subst c30
              have H1 : (if t190 = true then (if t183.toList = t180.toList then (if t185 > t177 then (laws_FnStuffed.j0 k t181 t189 true) else (if (t181.size : Int) < (t180.size : Int) then (laws_FnStuffed.j0 k t181 t189 true) else (if (wrap64 ((t181.size : Int) - (t180.size : Int))) > t187 then (laws_FnStuffed.j0 k t181 t189 true) else (if (t189.size : Int) = (wrap64 (t177 + 3)) then ((impl_ValidStuffer.f t177 t178).bind fun t191 => (laws_FnStuffed.j0 k t181 t189 (!t191))) else (laws_FnStuffed.j0 k t181 t189 true))))) else (laws_FnStuffed.j0 k t181 t189 true)) else (laws_FnStuffed.j0 k t181 t189 true)) = some r := by rw [if_pos rfl] at H; exact H
              clear H
              have H := H1
              clear H1
              by_cases c31 : t190 = true
              · subst c31
                have H1 : (if t183.toList = t180.toList then (if t185 > t177 then (laws_FnStuffed.j0 k t181 t189 true) else (if (t181.size : Int) < (t180.size : Int) then (laws_FnStuffed.j0 k t181 t189 true) else (if (wrap64 ((t181.size : Int) - (t180.size : Int))) > t187 then (laws_FnStuffed.j0 k t181 t189 true) else (if (t189.size : Int) = (wrap64 (t177 + 3)) then ((impl_ValidStuffer.f t177 t178).bind fun t191 => (laws_FnStuffed.j0 k t181 t189 (!t191))) else (laws_FnStuffed.j0 k t181 t189 true))))) else (laws_FnStuffed.j0 k t181 t189 true)) = some r := by rw [if_pos rfl] at H; exact H
                clear H
                have H := H1
                clear H1
                by_cases c32 : t183.toList = t180.toList
                · rw [if_pos c32] at H
                  have c32b0 : (t183.toList == t180.toList) = true := beq_iff_eq.mpr c32
                  have c32b1 : (t183.toList != t180.toList) = false := bne_eq_false_iff_eq.mpr c32
                  clear c32
                  (first | rw [c32b0] | (simp only [i64_w, i32_w]; rw [c32b0]) | skip)
                  by_cases c33 : t185 > t177
                  · rw [if_pos c33] at H
                    have c33b0 : decide (t177 < t185) = true := decide_eq_true c33
                    clear c33
                    have H' := Aside0.mk H
                    clear H
                    have hcz34_0 : w26.cell? ⟨gb179, 0, none⟩ = some (.int .i64 t177) := (blk_cell BK179.out 0).trans rfl
                    have hcz34_1 : w26.cell? ⟨gb179, 1, none⟩ = some (.int .i64 t178) := (blk_cell BK179.out 1).trans rfl
                    have hfz34_0 := blk_frozen BK179.out 0
                    have hfz34_1 := blk_frozen BK179.out 1
                    go_wp2
                    go_meet
                    case rel => exact ⟨_, (true), (by first | rfl | (simp; done) | (simp [*]; done)), H', ⟨by first | omega | exact Nat.le_refl _⟩, ⟨by (with_reducible repeat (first | refine blk_drewN ?_ _ | refine blk_drew ?_ | refine blk_alloc ?_ _)); exact BK179.out⟩, ⟨by repeat (first | (with_reducible first | exact HB.out | apply below_alloc | apply pw_below_drewN | apply below_drew1 | refine below_set ?_ GE179.out) | exact HB.out)⟩⟩
                  · rw [if_neg c33] at H
                    have c33b0 : decide (t177 < t185) = false := decide_eq_false c33
                    clear c33
                    by_cases c35 : (t181.size : Int) < (t180.size : Int)
                    · rw [if_pos c35] at H
                      have c35b0 : decide ((t181.size : Int) < (t180.size : Int)) = true := decide_eq_true c35
                      have c35b1 : decide (t181.size < t180.size) = true := decide_eq_true (Int.ofNat_lt.mp c35)
                      clear c35
                      have H' := Aside0.mk H
                      clear H
                      have hcz36_0 : w26.cell? ⟨gb179, 0, none⟩ = some (.int .i64 t177) := (blk_cell BK179.out 0).trans rfl
                      have hcz36_1 : w26.cell? ⟨gb179, 1, none⟩ = some (.int .i64 t178) := (blk_cell BK179.out 1).trans rfl
                      have hfz36_0 := blk_frozen BK179.out 0
                      have hfz36_1 := blk_frozen BK179.out 1
                      go_wp2
                      go_meet
                      case rel => exact ⟨_, (true), (by first | rfl | (simp; done) | (simp [*]; done)), H', ⟨by first | omega | exact Nat.le_refl _⟩, ⟨by (with_reducible repeat (first | refine blk_drewN ?_ _ | refine blk_drew ?_ | refine blk_alloc ?_ _)); exact BK179.out⟩, ⟨by repeat (first | (with_reducible first | exact HB.out | apply below_alloc | apply pw_below_drewN | apply below_drew1 | refine below_set ?_ GE179.out) | exact HB.out)⟩⟩
                    · rw [if_neg c35] at H
                      have c35b0 : decide ((t181.size : Int) < (t180.size : Int)) = false := decide_eq_false c35
                      have c35b1 : decide (t181.size < t180.size) = false := decide_eq_false (fun h => c35 (Int.ofNat_lt.mpr h))
                      clear c35
                      by_cases c37 : (wrap64 ((t181.size : Int) - (t180.size : Int))) > t187
                      · rw [if_pos c37] at H
                        have c37b0 : decide (t187 < (wrap64 ((t181.size : Int) - (t180.size : Int)))) = true := decide_eq_true c37
                        clear c37
                        have H' := Aside0.mk H
                        clear H
                        have hcz38_0 : w26.cell? ⟨gb179, 0, none⟩ = some (.int .i64 t177) := (blk_cell BK179.out 0).trans rfl
                        have hcz38_1 : w26.cell? ⟨gb179, 1, none⟩ = some (.int .i64 t178) := (blk_cell BK179.out 1).trans rfl
                        have hfz38_0 := blk_frozen BK179.out 0
                        have hfz38_1 := blk_frozen BK179.out 1
                        go_wp2
                        go_meet
                        case rel => exact ⟨_, (true), (by first | rfl | (simp; done) | (simp [*]; done)), H', ⟨by first | omega | exact Nat.le_refl _⟩, ⟨by (with_reducible repeat (first | refine blk_drewN ?_ _ | refine blk_drew ?_ | refine blk_alloc ?_ _)); exact BK179.out⟩, ⟨by repeat (first | (with_reducible first | exact HB.out | apply below_alloc | apply pw_below_drewN | apply below_drew1 | refine below_set ?_ GE179.out) | exact HB.out)⟩⟩
                      · rw [if_neg c37] at H
                        have c37b0 : decide (t187 < (wrap64 ((t181.size : Int) - (t180.size : Int)))) = false := decide_eq_false c37
                        clear c37
                        by_cases c39 : (t189.size : Int) = (wrap64 (t177 + 3))
                        · rw [if_pos c39] at H
                          have c39b0 : ((t189.size : Int) == (wrap64 (t177 + 3))) = true := beq_iff_eq.mpr c39
                          have c39b1 : ((t189.size : Int) != (wrap64 (t177 + 3))) = false := bne_eq_false_iff_eq.mpr c39
                          clear c39
                          replace H := Option.bind_eq_some_iff.mp H
                          obtain ⟨t191, A400, H⟩ := H
                          replace H : (laws_FnStuffed.j0 k t181 t189 (!t191)) = some r := H
                          have A40 := Aside0.mk A400
                          clear A400
                          have H' := Aside0.mk H
                          clear H
                          have hcz41_0 : w26.cell? ⟨gb179, 0, none⟩ = some (.int .i64 t177) := (blk_cell BK179.out 0).trans rfl
                          have hcz41_1 : w26.cell? ⟨gb179, 1, none⟩ = some (.int .i64 t178) := (blk_cell BK179.out 1).trans rfl
                          have hfz41_0 := blk_frozen BK179.out 0
                          have hfz41_1 := blk_frozen BK179.out 1
                          go_wp2_with (first | (go_at_call 17; (with_reducible refine (impl_ValidStuffer.calls t177 t178 t191 _ A40.out).mono ?_); rintro e w42 ⟨rfl, hb⟩; have n0_ := Aside0.mk (blk_below (g := gb179) (o := .cells #[.int .i64 t177, .int .i64 t178] 26 (0, 0)) (by (with_reducible repeat (first | refine blk_drewN ?_ _ | refine blk_drew ?_ | refine blk_alloc ?_ _)); exact BK179.out) hb); have n1_ := Aside0.mk (below_step (by repeat (first | (with_reducible first | exact HB.out | apply below_alloc | apply pw_below_drewN | apply below_drew1 | refine below_set ?_ GE179.out) | exact HB.out)) hb); clear BK179; clear HB; have BK179 := n0_; have HB := n1_; clear n0_ n1_; (try clear hb); (try clear hb2); (try clear hk); (try clear hi)))
                          go_meet
                          case rel => exact ⟨_, (!t191), (by first | rfl | (simp; done) | (simp [*]; done)), H', ⟨by first | omega | exact Nat.le_refl _⟩, ⟨by (with_reducible repeat (first | refine blk_drewN ?_ _ | refine blk_drew ?_ | refine blk_alloc ?_ _)); exact BK179.out⟩, ⟨by repeat (first | (with_reducible first | exact HB.out | apply below_alloc | apply pw_below_drewN | apply below_drew1 | refine below_set ?_ GE179.out) | exact HB.out)⟩⟩
                        · rw [if_neg c39] at H
                          have c39b0 : ((t189.size : Int) == (wrap64 (t177 + 3))) = false := beq_eq_false_iff_ne.mpr c39
                          have c39b1 : ((t189.size : Int) != (wrap64 (t177 + 3))) = true := bne_iff_ne.mpr c39
                          have H' := Aside0.mk H
                          clear H
                          have hcz43_0 : w26.cell? ⟨gb179, 0, none⟩ = some (.int .i64 t177) := (blk_cell BK179.out 0).trans rfl
                          have hcz43_1 : w26.cell? ⟨gb179, 1, none⟩ = some (.int .i64 t178) := (blk_cell BK179.out 1).trans rfl
                          have hfz43_0 := blk_frozen BK179.out 0
                          have hfz43_1 := blk_frozen BK179.out 1
                          go_wp2
                          go_meet
                          case rel => exact ⟨_, (true), (by first | rfl | (simp; done) | (simp [*]; done)), H', ⟨by first | omega | exact Nat.le_refl _⟩, ⟨by (with_reducible repeat (first | refine blk_drewN ?_ _ | refine blk_drew ?_ | refine blk_alloc ?_ _)); exact BK179.out⟩, ⟨by repeat (first | (with_reducible first | exact HB.out | apply below_alloc | apply pw_below_drewN | apply below_drew1 | refine below_set ?_ GE179.out) | exact HB.out)⟩⟩
                · rw [if_neg c32] at H
                  have c32b0 : (t183.toList == t180.toList) = false := beq_eq_false_iff_ne.mpr c32
                  have c32b1 : (t183.toList != t180.toList) = true := bne_iff_ne.mpr c32
                  (first | rw [c32b0] | (simp only [i64_w, i32_w]; rw [c32b0]) | skip)
                  have H' := Aside0.mk H
                  clear H
                  go_wp2
                  go_meet
                  case rel => exact ⟨_, (true), (by first | rfl | (simp; done) | (simp [*]; done)), H', ⟨by first | omega | exact Nat.le_refl _⟩, ⟨by (with_reducible repeat (first | refine blk_drewN ?_ _ | refine blk_drew ?_ | refine blk_alloc ?_ _)); exact BK179.out⟩, ⟨by repeat (first | (with_reducible first | exact HB.out | apply below_alloc | apply pw_below_drewN | apply below_drew1 | refine below_set ?_ GE179.out) | exact HB.out)⟩⟩
              · replace c31 := Bool.eq_false_iff.mpr c31
                subst c31
                have H1 : (laws_FnStuffed.j0 k t181 t189 true) = some r := by rw [if_neg (show ¬ (false = true) by decide)] at H; exact H
                clear H
                have H := H1
                clear H1
                have H' := Aside0.mk H
                clear H
                go_wp2
                go_meet
                case rel => exact ⟨_, (true), (by first | rfl | (simp; done) | (simp [*]; done)), H', ⟨by first | omega | exact Nat.le_refl _⟩, ⟨by (with_reducible repeat (first | refine blk_drewN ?_ _ | refine blk_drew ?_ | refine blk_alloc ?_ _)); exact BK179.out⟩, ⟨by repeat (first | (with_reducible first | exact HB.out | apply below_alloc | apply pw_below_drewN | apply below_drew1 | refine below_set ?_ GE179.out) | exact HB.out)⟩⟩
            · replace c30 := Bool.eq_false_iff.mpr c30
              subst c30
              have H1 : (laws_FnStuffed.j0 k t181 t189 true) = some r := by rw [if_neg (show ¬ (false = true) by decide)] at H; exact H
              clear H
              have H := H1
              clear H1
              have H' := Aside0.mk H
              clear H
              go_wp2
              go_meet
              case rel => exact ⟨_, (true), (by first | rfl | (simp; done) | (simp [*]; done)), H', ⟨by first | omega | exact Nat.le_refl _⟩, ⟨by (with_reducible repeat (first | refine blk_drewN ?_ _ | refine blk_drew ?_ | refine blk_alloc ?_ _)); exact BK179.out⟩, ⟨by repeat (first | (with_reducible first | exact HB.out | apply below_alloc | apply pw_below_drewN | apply below_drew1 | refine below_set ?_ GE179.out) | exact HB.out)⟩⟩
          · replace c29 := Bool.eq_false_iff.mpr c29
            subst c29
            have H1 : (laws_FnStuffed.j0 k t181 t189 true) = some r := by rw [if_neg (show ¬ (false = true) by decide)] at H; exact H
            clear H
            have H := H1
            clear H1
            have H' := Aside0.mk H
            clear H
            go_wp2
            go_meet
            case rel => exact ⟨_, (true), (by first | rfl | (simp; done) | (simp [*]; done)), H', ⟨by first | omega | exact Nat.le_refl _⟩, ⟨by (with_reducible repeat (first | refine blk_drewN ?_ _ | refine blk_drew ?_ | refine blk_alloc ?_ _)); exact BK179.out⟩, ⟨by repeat (first | (with_reducible first | exact HB.out | apply below_alloc | apply pw_below_drewN | apply below_drew1 | refine below_set ?_ GE179.out) | exact HB.out)⟩⟩
        · replace c28 := Bool.eq_false_iff.mpr c28
          subst c28
          have H1 : (laws_FnStuffed.j0 k t181 t189 true) = some r := by rw [if_neg (show ¬ (false = true) by decide)] at H; exact H
          clear H
          have H := H1
          clear H1
          have H' := Aside0.mk H
          clear H
          go_wp2
          go_meet
          case rel => exact ⟨_, (true), (by first | rfl | (simp; done) | (simp [*]; done)), H', ⟨by first | omega | exact Nat.le_refl _⟩, ⟨by (with_reducible repeat (first | refine blk_drewN ?_ _ | refine blk_drew ?_ | refine blk_alloc ?_ _)); exact BK179.out⟩, ⟨by repeat (first | (with_reducible first | exact HB.out | apply below_alloc | apply pw_below_drewN | apply below_drew1 | refine below_set ?_ GE179.out) | exact HB.out)⟩⟩
      · replace c27 := Bool.eq_false_iff.mpr c27
        subst c27
        have H1 : (laws_FnStuffed.j0 k t181 t189 true) = some r := by rw [if_neg (show ¬ (false = true) by decide)] at H; exact H
        clear H
        have H := H1
        clear H1
        have H' := Aside0.mk H
        clear H
        go_wp2
        go_meet
        case rel => exact ⟨_, (true), (by first | rfl | (simp; done) | (simp [*]; done)), H', ⟨by first | omega | exact Nat.le_refl _⟩, ⟨by (with_reducible repeat (first | refine blk_drewN ?_ _ | refine blk_drew ?_ | refine blk_alloc ?_ _)); exact BK179.out⟩, ⟨by repeat (first | (with_reducible first | exact HB.out | apply below_alloc | apply pw_below_drewN | apply below_drew1 | refine below_set ?_ GE179.out) | exact HB.out)⟩⟩
    case rest =>
      clear HC12
      try clear c1
      try clear c2
      try clear p2
      try clear c3
      try clear c4
      try clear p6
      try clear c9
      try clear c10
      try clear c11
      try clear c12
      try clear c13
      try clear c14
      try clear c15
      try clear c16
      try clear c27
      try clear c28
      try clear c29
      try clear c30
      try clear c31
      try clear c32
      try clear c32b0
      try clear c32b1
      try clear c33
      try clear c33b0
      try clear c35
      try clear c35b0
      try clear c35b1
      try clear c37
      try clear c37b0
      try clear c39
      try clear c39b0
      try clear c39b1
      try clear hcz15_0
      try clear hcz15_1
      try clear hcz17_0
      try clear hcz17_1
      try clear hcz19_0
      try clear hcz19_1
      try clear hcz21_0
      try clear hcz21_1
      try clear hcz23_0
      try clear hcz23_1
      try clear hcz25_0
      try clear hcz25_1
      try clear hcz34_0
      try clear hcz34_1
      try clear hcz36_0
      try clear hcz36_1
      try clear hcz38_0
      try clear hcz38_1
      try clear hcz41_0
      try clear hcz41_1
      try clear hcz43_0
      try clear hcz43_1
      try clear hfz15_0
      try clear hfz15_1
      try clear hfz17_0
      try clear hfz17_1
      try clear hfz19_0
      try clear hfz19_1
      try clear hfz21_0
      try clear hfz21_1
      try clear hfz23_0
      try clear hfz23_1
      try clear hfz25_0
      try clear hfz25_1
      try clear hfz34_0
      try clear hfz34_1
      try clear hfz36_0
      try clear hfz36_1
      try clear hfz38_0
      try clear hfz38_1
      try clear hfz41_0
      try clear hfz41_1
      try clear hfz43_0
      try clear hfz43_1
      obtain ⟨kq, x112_11, rfl, HA, HJ11, BK179, HB⟩ := hcut
      cases kq with
      | zero => exact absurd HA.out (by simp [laws_FnStuffed.j0])
      | succ kj11 =>
        have H := HA.out
        clear HA
        simp only [laws_FnStuffed.j0] at H
        by_cases c44 : x112_11 = true
        · subst c44
          have H1 : (some false) = some r := by rw [if_pos rfl] at H; exact H
          clear H
          have H := H1
          clear H1
          obtain rfl := Option.some.inj H
          go_wp2
          go_ret
          exact ⟨by first | rfl | (simp [errW_none, errW_some] <;> rfl) | (simp [*, errW_none, errW_some] <;> rfl), by repeat (first | (with_reducible first | exact HB.out | apply below_alloc | apply pw_below_drewN | apply below_drew1 | refine below_set ?_ GE179.out) | exact HB.out)⟩
        · replace c44 := Bool.eq_false_iff.mpr c44
          subst c44
          have H1 : (laws_FnStuffed.l0 kj11 t181 t189 0) = some r := by rw [if_neg (show ¬ (false = true) by decide)] at H; exact H
          clear H
          have H := H1
          clear H1
          have H' := Aside0.mk H
          clear H
          go_wp2
          go_loopg [17] kj11 (fun kq v17 w' => ∃ (x17_2 : Int), v17 = .int .i64 x17_2 ∧ Aside0 (laws_FnStuffed.l0 kq t181 t189 x17_2 = some r) ∧ Aside0 (kq ≤ kj11) ∧ Aside0 (w'.heap[gb179]? = some (.cells #[.int .i64 t177, .int .i64 t178] 26 (0, 0))) ∧ Aside0 (Below w.heap.size w w'))
          case atStart => exact ⟨(0), (by first | rfl | (simp; done) | (simp [*]; done)), H', ⟨Nat.le_refl _⟩, ⟨by (with_reducible repeat (first | refine blk_drewN ?_ _ | refine blk_drew ?_ | refine blk_alloc ?_ _)); exact BK179.out⟩, ⟨by repeat (first | (with_reducible first | exact HB.out | apply below_alloc | apply pw_below_drewN | apply below_drew1 | refine below_set ?_ GE179.out) | exact HB.out)⟩⟩
          case round =>
            clear H'
            try clear c1
            try clear c2
            try clear p2
            try clear c3
            try clear c4
            try clear p6
            try clear c9
            try clear c10
            try clear c11
            try clear c12
            try clear c13
            try clear c14
            try clear c15
            try clear c16
            try clear c27
            try clear c28
            try clear c29
            try clear c30
            try clear c31
            try clear c32
            try clear c32b0
            try clear c32b1
            try clear c33
            try clear c33b0
            try clear c35
            try clear c35b0
            try clear c35b1
            try clear c37
            try clear c37b0
            try clear c39
            try clear c39b0
            try clear c39b1
            try clear c44
            try clear hcz15_0
            try clear hcz15_1
            try clear hcz17_0
            try clear hcz17_1
            try clear hcz19_0
            try clear hcz19_1
            try clear hcz21_0
            try clear hcz21_1
            try clear hcz23_0
            try clear hcz23_1
            try clear hcz25_0
            try clear hcz25_1
            try clear hcz34_0
            try clear hcz34_1
            try clear hcz36_0
            try clear hcz36_1
            try clear hcz38_0
            try clear hcz38_1
            try clear hcz41_0
            try clear hcz41_1
            try clear hcz43_0
            try clear hcz43_1
            try clear hfz15_0
            try clear hfz15_1
            try clear hfz17_0
            try clear hfz17_1
            try clear hfz19_0
            try clear hfz19_1
            try clear hfz21_0
            try clear hfz21_1
            try clear hfz23_0
            try clear hfz23_1
            try clear hfz25_0
            try clear hfz25_1
            try clear hfz34_0
            try clear hfz34_1
            try clear hfz36_0
            try clear hfz36_1
            try clear hfz38_0
            try clear hfz38_1
            try clear hfz41_0
            try clear hfz41_1
            try clear hfz43_0
            try clear hfz43_1
            try clear p2
            try clear p6
            obtain ⟨x17_2, rfl, HA, HK2, BK179, HB⟩ := hrel
            cases gk with
            | zero => exact absurd HA.out (by simp [laws_FnStuffed.l0])
            | succ k2 =>
              have H := HA.out
              clear HA
              simp only [laws_FnStuffed.l0] at H
              by_cases c45 : (wrap64 (x17_2 + (t189.size : Int))) ≤ (t181.size : Int)
              · rw [if_pos c45] at H
                have c45b0 : decide ((wrap64 (x17_2 + (t189.size : Int))) ≤ (t181.size : Int)) = true := decide_eq_true c45
                clear c45
                by_cases c46 : 0 ≤ x17_2
                · rw [if_pos c46] at H
                  have c46b0 := eq_true c46
                  have c46b1 : decide (0 ≤ x17_2) = true := decide_eq_true c46
                  clear c46
                  by_cases c47 : x17_2 ≤ (wrap64 (x17_2 + (t189.size : Int)))
                  · rw [if_pos c47] at H
                    have c47b0 := eq_true c47
                    have c47b1 : decide (x17_2 ≤ (wrap64 (x17_2 + (t189.size : Int)))) = true := decide_eq_true c47
                    have c48b0 := eq_true (of_decide_eq_true (by first | (with_reducible assumption) | assumption) : (wrap64 (x17_2 + (t189.size : Int))) ≤ (t181.size : Int))
                    by_cases c49 : (t181.extract (x17_2 : Int).toNat ((wrap64 (x17_2 + (t189.size : Int))) : Int).toNat).toList = t189.toList
                    · rw [if_pos c49] at H
                      have c49b0 : ((t181.extract (x17_2 : Int).toNat ((wrap64 (x17_2 + (t189.size : Int))) : Int).toNat).toList == t189.toList) = true := beq_iff_eq.mpr c49
                      have c49b1 : ((t181.extract (x17_2 : Int).toNat ((wrap64 (x17_2 + (t189.size : Int))) : Int).toNat).toList != t189.toList) = false := bne_eq_false_iff_eq.mpr c49
                      clear c49
                      obtain rfl := Option.some.inj H
                      go_wp2
                      go_ret
                      exact ⟨by first | rfl | (simp [errW_none, errW_some] <;> rfl) | (simp [*, errW_none, errW_some] <;> rfl), by repeat (first | (with_reducible first | exact HB.out | apply below_alloc | apply pw_below_drewN | apply below_drew1 | refine below_set ?_ GE179.out) | exact HB.out)⟩
                    · rw [if_neg c49] at H
                      have c49b0 : ((t181.extract (x17_2 : Int).toNat ((wrap64 (x17_2 + (t189.size : Int))) : Int).toNat).toList == t189.toList) = false := beq_eq_false_iff_ne.mpr c49
                      have c49b1 : ((t181.extract (x17_2 : Int).toNat ((wrap64 (x17_2 + (t189.size : Int))) : Int).toNat).toList != t189.toList) = true := bne_iff_ne.mpr c49
                      have H' := Aside0.mk H
                      clear H
                      go_wp2
                      go_roundg k2
                      case measure => have := HJ11.out; have := HK2.out; omega
                      case rel => exact ⟨(wrap64 (x17_2 + 1)), (by first | rfl | (simp; done) | (simp [*]; done)), H', ⟨by have := HJ11.out; have := HK2.out; omega⟩, ⟨by (with_reducible repeat (first | refine blk_drewN ?_ _ | refine blk_drew ?_ | refine blk_alloc ?_ _)); exact BK179.out⟩, ⟨by repeat (first | (with_reducible first | exact HB.out | apply below_alloc | apply pw_below_drewN | apply below_drew1 | refine below_set ?_ GE179.out) | exact HB.out)⟩⟩
                  · rw [if_neg c47] at H
                    exact absurd H (by simp)
                · rw [if_neg c46] at H
                  exact absurd H (by simp)
              · rw [if_neg c45] at H
                have c45b0 : decide ((wrap64 (x17_2 + (t189.size : Int))) ≤ (t181.size : Int)) = false := decide_eq_false c45
                clear c45
                obtain rfl := Option.some.inj H
                go_wp2
                go_ret
                exact ⟨by first | rfl | (simp [errW_none, errW_some] <;> rfl) | (simp [*, errW_none, errW_some] <;> rfl), by repeat (first | (with_reducible first | exact HB.out | apply below_alloc | apply pw_below_drewN | apply below_drew1 | refine below_set ?_ GE179.out) | exact HB.out)⟩

/-- THE ONE PURE STATEMENT of laws_FnStuffed: yours. -/
def laws_FnStuffed.Pure : Prop := ∀ (l0 : List Int) (l1 : List Int), l0.length ≤ maxLen → l0.length * 1 ≤ 140737488351232 → (∀ x ∈ l0, (Lit.int .u8 x).wf = true) → l1.length ≤ maxLen → l1.length * 1 ≤ 140737488351232 → (∀ x ∈ l1, (Lit.int .u8 x).wf = true) → ∃ k, laws_FnStuffed.f k l0 l1 = some true
theorem laws_FnStuffed.walk (P : laws_FnStuffed.Pure) (a0 : Option Addr) (len0 cap0 : Nat) (z0 : List Int) (a1 : Option Addr) (len1 cap1 : Nat) (z1 : List Int) (w : World) (w0 : (a0 = none ∧ len0 = 0 ∧ cap0 = 0 ∧ z0 = []) ∨ ∃ x, a0 = some x ∧ len0 ≤ cap0 ∧ cap0 ≤ maxLen ∧ z0.length = cap0 ∧ (∀ i, i < z0.length → w.cell? (x.add i) = some (.int .u8 (z0.getD i 0))) ∧ ∀ n ∈ z0, (Lit.int .u8 n).wf = true) (y0 : len0 * 1 ≤ 140737488351232) (w1 : (a1 = none ∧ len1 = 0 ∧ cap1 = 0 ∧ z1 = []) ∨ ∃ x, a1 = some x ∧ len1 ≤ cap1 ∧ cap1 ≤ maxLen ∧ z1.length = cap1 ∧ (∀ i, i < z1.length → w.cell? (x.add i) = some (.int .u8 (z1.getD i 0))) ∧ ∀ n ∈ z1, (Lit.int .u8 n).wf = true) (y1 : len1 * 1 ≤ 140737488351232) :
    Calls Tryd.prog 4 #[.slice a0 len0 cap0, .slice a1 len1 cap1] w fun e w' => e = .returned (.bool true) ∧ Below w.heap.size w w' := by
  obtain ⟨l0, rfl, hr0, hm0, hw0, hc0⟩ := ReadsInt.ofRowC w0
  obtain ⟨l1, rfl, hr1, hm1, hw1, hc1⟩ := ReadsInt.ofRowC w1
  obtain ⟨k, h⟩ := P l0 l1 hm0 y0 hw0 hm1 y1 hw1
  refine (laws_FnStuffed.calls k _ _ l0 _ _ l1 true w (Kd.C_of_reads (d := (0 : Int)) (h1 := fun _ => rfl) hr0) hc0 (Kd.C_of_reads (d := (0 : Int)) (h1 := fun _ => rfl) hr1) hc1 h).mono ?_
  rintro e w' ⟨rfl, hd⟩
  exact ⟨rfl, hd⟩

end Go.Proofs.YtbifbbfkcbgnlaaDoor.PFnStuffed
