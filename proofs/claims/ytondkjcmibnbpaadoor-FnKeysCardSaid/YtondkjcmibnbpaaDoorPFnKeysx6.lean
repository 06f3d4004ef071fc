-- Written by a program of this session (mkprint.py) over the print of the translation. Not trusted: Lean checks it.
import Derived.Test.YtondkjcmibnbpaaDoorPFnKeysx0
import Derived.Test.YtondkjcmibnbpaaDoorPFnKeysx2
import Derived.Test.YtondkjcmibnbpaaDoorPFnKeysx4
import Derived.Test.YtondkjcmibnbpaaDoorPFnKeysx5
namespace Go.Proofs.YtondkjcmibnbpaaDoor.PFnKeys
open Go.RowKit Go.Proofs.YtondkjcmibnbpaaDoorW.PrintWords Go.Proofs.YtondkjcmibnbpaaDoorW.PrintLast Go.Proofs.YtondkjcmibnbpaaDoorW.PrintMore
attribute [local go_sem] max2_int min2_int max_two min_two max_three min_three max_four min_four   -- for this text's walks alone
set_option linter.unusedVariables false
set_option linter.unusedSimpArgs false

/-! ### impl_FindKey: function 28 -/
mutual
def impl_FindKey.j0 : Nat → List Int → ByteArray → ByteArray → Bool → Option (ByteArray × Bool)
  | 0, _, _, _, _ => none
  | k + 1, x0, x1, x2, x47 => if x47 = true then (some ((⟨#[]⟩ : ByteArray), false)) else (if 0 ≤ (wrap64 ((x0.length : Int) - 1)) then (if (wrap64 ((x0.length : Int) - 1)) < (x0.length : Int) then ((impl_xorBits.f x1 x2).bind fun t245 => (if 0 ≤ (rd x0 (wrap64 ((x0.length : Int) - 1))) then (if (rd x0 (wrap64 ((x0.length : Int) - 1)) : Int).toNat ≤ 281474976710656 then ((some (List.replicate (rd x0 (wrap64 ((x0.length : Int) - 1)) : Int).toNat 0 : List Int)).bind fun y246 => (if (rd x0 (wrap64 ((x0.length : Int) - 1))) ≤ (t245.size : Int) then (if y246.length + (t245.extract 0 ((rd x0 (wrap64 ((x0.length : Int) - 1))) : Int).toNat).size < 140737488355328 then (impl_FindKey.l0 k x0 (rd x0 (wrap64 ((x0.length : Int) - 1))) t245 (y246 ++ bytesOf (t245.extract 0 ((rd x0 (wrap64 ((x0.length : Int) - 1))) : Int).toNat)) (wrap64 ((rd x0 (wrap64 ((x0.length : Int) - 1))) - 1))) else (none)) else (none))) else (none)) else (none))) else (none)) else (none))
def impl_FindKey.l0 : Nat → List Int → Int → ByteArray → List Int → Int → Option (ByteArray × Bool)
  | 0, _, _, _, _, _ => none
  | k + 1, x0, x8, x9, x10, x11 => if x11 ≥ 0 then (if 0 ≤ (wrap64 (x8 + x11)) then (if (wrap64 (x8 + x11)) < (x10.length : Int) then (if 0 ≤ (wrap64 ((x0.length : Int) - 1)) then (if (wrap64 ((x0.length : Int) - 1)) ≤ (x0.length : Int) then (impl_FindKey.l1 k x0 x8 x9 x10 x11 (Go.bits .and .u8 (rd x10 (wrap64 (x8 + x11))) 1) (x0.take ((wrap64 ((x0.length : Int) - 1)) : Int).toNat) ((x0.take ((wrap64 ((x0.length : Int) - 1)) : Int).toNat).length : Int) 0) else (none)) else (none)) else (none)) else (none)) else (if 0 ≤ x8 then (if x8 ≤ (x10.length : Int) then ((slices_Reverse_byte_byte.f k (x10.take (x8 : Int).toNat)).bind fun t260 => ((impl_Scrambler_keyBits.f k x0 (strOfNums t260) (x9.size : Int)).bind fun t262 => (if t262.toList = x9.toList then (some (strOfNums t260, true)) else (some ((⟨#[]⟩ : ByteArray), false))))) else (none)) else (none))
def impl_FindKey.l1 : Nat → List Int → Int → ByteArray → List Int → Int → Int → List Int → Int → Int → Option (ByteArray × Bool)
  | 0, _, _, _, _, _, _, _, _, _ => none
  | k + 1, x0, x8, x9, x10, x11, x12, x80, x81, x82 => if x82 < x81 then (if 0 ≤ x82 then (if x82 < (x80.length : Int) then (if 0 ≤ (wrap64 ((wrap64 (x8 + x11)) - (rd x80 x82))) then (if (wrap64 ((wrap64 (x8 + x11)) - (rd x80 x82))) < (x10.length : Int) then (impl_FindKey.l1 k x0 x8 x9 x10 x11 (Go.bits .xor .u8 x12 (Go.bits .and .u8 (rd x10 (wrap64 ((wrap64 (x8 + x11)) - (rd x80 x82)))) 1)) x80 x81 (wrap64 (x82 + 1))) else (none)) else (none)) else (none)) else (none)) else (if 0 ≤ x11 then (if x11 < (x10.length : Int) then (impl_FindKey.l0 k x0 x8 x9 (x10.set (x11 : Int).toNat ((48 + x12) % 256)) (wrap64 (x11 - 1))) else (none)) else (none))
end
def impl_FindKey.f (k : Nat) (l0 : List Int) (a1 : ByteArray) (a2 : ByteArray) : Option (ByteArray × Bool) := (impl_areTaps.f k l0).bind fun t240 => (if t240 = true then ((impl_IsBits.f a1).bind fun t241 => (if t241 = true then ((impl_IsBits.f a2).bind fun t242 => (if t242 = true then (if (a1.size : Int) = (a2.size : Int) then (if 0 ≤ (wrap64 ((l0.length : Int) - 1)) then (if (wrap64 ((l0.length : Int) - 1)) < (l0.length : Int) then (impl_FindKey.j0 k l0 a1 a2 (decide ((a1.size : Int) < (rd l0 (wrap64 ((l0.length : Int) - 1)))))) else (none)) else (none)) else (impl_FindKey.j0 k l0 a1 a2 true)) else (impl_FindKey.j0 k l0 a1 a2 true))) else (impl_FindKey.j0 k l0 a1 a2 true))) else (impl_FindKey.j0 k l0 a1 a2 true))
theorem impl_FindKey.mono_l : ∀ k, (∀ y0 y1 y2 y3, LeO (impl_FindKey.j0 k y0 y1 y2 y3) (impl_FindKey.j0 (k + 1) y0 y1 y2 y3)) ∧ (∀ y0 y1 y2 y3 y4, LeO (impl_FindKey.l0 k y0 y1 y2 y3 y4) (impl_FindKey.l0 (k + 1) y0 y1 y2 y3 y4)) ∧ (∀ y0 y1 y2 y3 y4 y5 y6 y7 y8, LeO (impl_FindKey.l1 k y0 y1 y2 y3 y4 y5 y6 y7 y8) (impl_FindKey.l1 (k + 1) y0 y1 y2 y3 y4 y5 y6 y7 y8))
  | 0 => ⟨fun _ _ _ _ r h => by simp [impl_FindKey.j0] at h, fun _ _ _ _ _ r h => by simp [impl_FindKey.l0] at h, fun _ _ _ _ _ _ _ _ _ r h => by simp [impl_FindKey.l1] at h⟩
  | k + 1 => by
    obtain ⟨ih0, ih1, ih2⟩ := impl_FindKey.mono_l k
    refine ⟨?_, ?_, ?_⟩
    · intro y0 y1 y2 y3
      unfold impl_FindKey.j0
      repeat' first
      | (with_reducible exact ih0 _ _ _ _)
      | (with_reducible exact ih1 _ _ _ _ _)
      | (with_reducible exact ih2 _ _ _ _ _ _ _ _ _)
      | (with_reducible exact impl_Scrambler_keyBits.mono _ _ _ _)
      | (with_reducible exact impl_areTaps.mono _ _)
      | (with_reducible exact slices_Reverse_byte_byte.mono _ _)
      | (with_reducible exact LeO.refl _)
      | (with_reducible exact LeO.none _)
      | (with_reducible refine LeO.ite ?_ ?_)
      | (with_reducible refine LeO.bind ?_ (fun _ => ?_))
      | exact ih0 _ _ _ _
      | exact ih1 _ _ _ _ _
      | exact ih2 _ _ _ _ _ _ _ _ _
      | exact impl_Scrambler_keyBits.mono _ _ _ _
      | exact impl_areTaps.mono _ _
      | exact slices_Reverse_byte_byte.mono _ _
      | exact LeO.none _
      | refine LeO.ite ?_ ?_
      | refine LeO.bind ?_ (fun _ => ?_)
    · intro y0 y1 y2 y3 y4
      unfold impl_FindKey.l0
      repeat' first
      | (with_reducible exact ih0 _ _ _ _)
      | (with_reducible exact ih1 _ _ _ _ _)
      | (with_reducible exact ih2 _ _ _ _ _ _ _ _ _)
      | (with_reducible exact impl_Scrambler_keyBits.mono _ _ _ _)
      | (with_reducible exact impl_areTaps.mono _ _)
      | (with_reducible exact slices_Reverse_byte_byte.mono _ _)
      | (with_reducible exact LeO.refl _)
      | (with_reducible exact LeO.none _)
      | (with_reducible refine LeO.ite ?_ ?_)
      | (with_reducible refine LeO.bind ?_ (fun _ => ?_))
      | exact ih0 _ _ _ _
      | exact ih1 _ _ _ _ _
      | exact ih2 _ _ _ _ _ _ _ _ _
      | exact impl_Scrambler_keyBits.mono _ _ _ _
      | exact impl_areTaps.mono _ _
      | exact slices_Reverse_byte_byte.mono _ _
      | exact LeO.none _
      | refine LeO.ite ?_ ?_
      | refine LeO.bind ?_ (fun _ => ?_)
    · intro y0 y1 y2 y3 y4 y5 y6 y7 y8
      unfold impl_FindKey.l1
      repeat' first
      | (with_reducible exact ih0 _ _ _ _)
      | (with_reducible exact ih1 _ _ _ _ _)
      | (with_reducible exact ih2 _ _ _ _ _ _ _ _ _)
      | (with_reducible exact impl_Scrambler_keyBits.mono _ _ _ _)
      | (with_reducible exact impl_areTaps.mono _ _)
      | (with_reducible exact slices_Reverse_byte_byte.mono _ _)
      | (with_reducible exact LeO.refl _)
      | (with_reducible exact LeO.none _)
      | (with_reducible refine LeO.ite ?_ ?_)
      | (with_reducible refine LeO.bind ?_ (fun _ => ?_))
      | exact ih0 _ _ _ _
      | exact ih1 _ _ _ _ _
      | exact ih2 _ _ _ _ _ _ _ _ _
      | exact impl_Scrambler_keyBits.mono _ _ _ _
      | exact impl_areTaps.mono _ _
      | exact slices_Reverse_byte_byte.mono _ _
      | exact LeO.none _
      | refine LeO.ite ?_ ?_
      | refine LeO.bind ?_ (fun _ => ?_)
theorem impl_FindKey.mono : ∀ a0 a1 a2 k, LeO (impl_FindKey.f k a0 a1 a2) (impl_FindKey.f (k + 1) a0 a1 a2) := by
  intro a0 a1 a2 k
  obtain ⟨ih0, ih1, ih2⟩ := impl_FindKey.mono_l k
  unfold impl_FindKey.f
  repeat' first
      | (with_reducible exact ih0 _ _ _ _)
      | (with_reducible exact ih1 _ _ _ _ _)
      | (with_reducible exact ih2 _ _ _ _ _ _ _ _ _)
      | (with_reducible exact impl_Scrambler_keyBits.mono _ _ _ _)
      | (with_reducible exact impl_areTaps.mono _ _)
      | (with_reducible exact slices_Reverse_byte_byte.mono _ _)
      | (with_reducible exact LeO.refl _)
      | (with_reducible exact LeO.none _)
      | (with_reducible refine LeO.ite ?_ ?_)
      | (with_reducible refine LeO.bind ?_ (fun _ => ?_))
      | exact ih0 _ _ _ _
      | exact ih1 _ _ _ _ _
      | exact ih2 _ _ _ _ _ _ _ _ _
      | exact impl_Scrambler_keyBits.mono _ _ _ _
      | exact impl_areTaps.mono _ _
      | exact slices_Reverse_byte_byte.mono _ _
      | exact LeO.none _
      | refine LeO.ite ?_ ?_
      | refine LeO.bind ?_ (fun _ => ?_)
set_option maxHeartbeats 8000000 in
set_option maxRecDepth 100000 in
theorem impl_FindKey.calls (k : Nat) (A0 : Option Addr) (c0 : Nat) (l0 : List Int) (a1 : ByteArray) (a2 : ByteArray) (r1 : ByteArray) (r2 : Bool) (w : World) (hr0 : Kd.C (Kd.int .i64) w A0 l0.length l0) (hc0 : l0.length ≤ c0) (h : impl_FindKey.f k l0 a1 a2 = some (r1, r2)) :
    Calls Tryd.prog 28 #[.slice A0 l0.length c0, .string a1, .string a2] w fun e w' => e = .returned (.tuple #[.string r1, .bool r2]) ∧ Below w.heap.size w w' := by
  have hu38 := Tryd.underlying38
  have HR0 := Aside0.mk hr0
  have HC0 := Aside0.mk hc0
  clear hr0 hc0
  have HB := Aside0.mk (Below.refl w.heap.size w)
  have H : ((impl_areTaps.f k l0).bind fun t240 => (if t240 = true then ((impl_IsBits.f a1).bind fun t241 => (if t241 = true then ((impl_IsBits.f a2).bind fun t242 => (if t242 = true then (if (a1.size : Int) = (a2.size : Int) then (if 0 ≤ (wrap64 ((l0.length : Int) - 1)) then (if (wrap64 ((l0.length : Int) - 1)) < (l0.length : Int) then (impl_FindKey.j0 k l0 a1 a2 (decide ((a1.size : Int) < (rd l0 (wrap64 ((l0.length : Int) - 1)))))) else (none)) else (none)) else (impl_FindKey.j0 k l0 a1 a2 true)) else (impl_FindKey.j0 k l0 a1 a2 true))) else (impl_FindKey.j0 k l0 a1 a2 true))) else (impl_FindKey.j0 k l0 a1 a2 true))) = some (r1, r2) := h
  clear h
  have HC4 := Aside0.mk H
  clear H
  go_enter Tryd.func28, Tryd.ntmps28
  go_upto_region 1 with (fail)
  go_cut [47] (fun v47 wc => ∃ (kq : Nat) (x47_3 : Bool), v47 = .bool x47_3 ∧ Aside0 (impl_FindKey.j0 kq l0 a1 a2 x47_3 = some (r1, r2)) ∧ Aside0 (kq ≤ k) ∧ Aside0 (Below w.heap.size w wc))
  case first =>
    have H := HC4.out
    clear HC4
    replace H := Option.bind_eq_some_iff.mp H
    obtain ⟨t240, A50, H⟩ := H
    replace H : (if t240 = true then ((impl_IsBits.f a1).bind fun t241 => (if t241 = true then ((impl_IsBits.f a2).bind fun t242 => (if t242 = true then (if (a1.size : Int) = (a2.size : Int) then (if 0 ≤ (wrap64 ((l0.length : Int) - 1)) then (if (wrap64 ((l0.length : Int) - 1)) < (l0.length : Int) then (impl_FindKey.j0 k l0 a1 a2 (decide ((a1.size : Int) < (rd l0 (wrap64 ((l0.length : Int) - 1)))))) else (none)) else (none)) else (impl_FindKey.j0 k l0 a1 a2 true)) else (impl_FindKey.j0 k l0 a1 a2 true))) else (impl_FindKey.j0 k l0 a1 a2 true))) else (impl_FindKey.j0 k l0 a1 a2 true)) = some (r1, r2) := H
    have A5 := Aside0.mk A50
    clear A50
    by_cases c6 : t240 = true
    · subst c6
      have H1 : ((impl_IsBits.f a1).bind fun t241 => (if t241 = true then ((impl_IsBits.f a2).bind fun t242 => (if t242 = true then (if (a1.size : Int) = (a2.size : Int) then (if 0 ≤ (wrap64 ((l0.length : Int) - 1)) then (if (wrap64 ((l0.length : Int) - 1)) < (l0.length : Int) then (impl_FindKey.j0 k l0 a1 a2 (decide ((a1.size : Int) < (rd l0 (wrap64 ((l0.length : Int) - 1)))))) else (none)) else (none)) else (impl_FindKey.j0 k l0 a1 a2 true)) else (impl_FindKey.j0 k l0 a1 a2 true))) else (impl_FindKey.j0 k l0 a1 a2 true))) = some (r1, r2) := by rw [if_pos rfl] at H; exact H
      clear H
      have H := H1
      clear H1
      replace H := Option.bind_eq_some_iff.mp H
      obtain ⟨t241, A70, H⟩ := H
      replace H : (if t241 = true then ((impl_IsBits.f a2).bind fun t242 => (if t242 = true then (if (a1.size : Int) = (a2.size : Int) then (if 0 ≤ (wrap64 ((l0.length : Int) - 1)) then (if (wrap64 ((l0.length : Int) - 1)) < (l0.length : Int) then (impl_FindKey.j0 k l0 a1 a2 (decide ((a1.size : Int) < (rd l0 (wrap64 ((l0.length : Int) - 1)))))) else (none)) else (none)) else (impl_FindKey.j0 k l0 a1 a2 true)) else (impl_FindKey.j0 k l0 a1 a2 true))) else (impl_FindKey.j0 k l0 a1 a2 true)) = some (r1, r2) := H
      have A7 := Aside0.mk A70
      clear A70
      by_cases c8 : t241 = true
      · subst c8
        have H1 : ((impl_IsBits.f a2).bind fun t242 => (if t242 = true then (if (a1.size : Int) = (a2.size : Int) then (if 0 ≤ (wrap64 ((l0.length : Int) - 1)) then (if (wrap64 ((l0.length : Int) - 1)) < (l0.length : Int) then (impl_FindKey.j0 k l0 a1 a2 (decide ((a1.size : Int) < (rd l0 (wrap64 ((l0.length : Int) - 1)))))) else (none)) else (none)) else (impl_FindKey.j0 k l0 a1 a2 true)) else (impl_FindKey.j0 k l0 a1 a2 true))) = some (r1, r2) := by rw [if_pos rfl] at H; exact H
        clear H
        have H := H1
        clear H1
        replace H := Option.bind_eq_some_iff.mp H
        obtain ⟨t242, A90, H⟩ := H
        replace H : (if t242 = true then (if (a1.size : Int) = (a2.size : Int) then (if 0 ≤ (wrap64 ((l0.length : Int) - 1)) then (if (wrap64 ((l0.length : Int) - 1)) < (l0.length : Int) then (impl_FindKey.j0 k l0 a1 a2 (decide ((a1.size : Int) < (rd l0 (wrap64 ((l0.length : Int) - 1)))))) else (none)) else (none)) else (impl_FindKey.j0 k l0 a1 a2 true)) else (impl_FindKey.j0 k l0 a1 a2 true)) = some (r1, r2) := H
        have A9 := Aside0.mk A90
        clear A90
        by_cases c10 : t242 = true
        · subst c10
          have H1 : (if (a1.size : Int) = (a2.size : Int) then (if 0 ≤ (wrap64 ((l0.length : Int) - 1)) then (if (wrap64 ((l0.length : Int) - 1)) < (l0.length : Int) then (impl_FindKey.j0 k l0 a1 a2 (decide ((a1.size : Int) < (rd l0 (wrap64 ((l0.length : Int) - 1)))))) else (none)) else (none)) else (impl_FindKey.j0 k l0 a1 a2 true)) = some (r1, r2) := by rw [if_pos rfl] at H; exact H
          clear H
          have H := H1
          clear H1
          by_cases c11 : (a1.size : Int) = (a2.size : Int)
          · rw [if_pos c11] at H
            have c11b0 : ((a1.size : Int) == (a2.size : Int)) = true := beq_iff_eq.mpr c11
            have c11b1 : ((a1.size : Int) != (a2.size : Int)) = false := bne_eq_false_iff_eq.mpr c11
            have c11b2 : (a1.size == a2.size) = true := by first | simpa using c11 | (simp at c11 ⊢; omega)
            clear c11
            (first | rw [c11b0] | (simp only [i64_w, i32_w]; rw [c11b0]) | skip)
            obtain ⟨ji12, hji12⟩ : ∃ j_ : Int, (wrap64 ((l0.length : Int) - 1)) = j_ := ⟨_, rfl⟩
            replace H : (if 0 ≤ (ji12) then (if (ji12) < (l0.length : Int) then (impl_FindKey.j0 k l0 a1 a2 (decide ((a1.size : Int) < (rd l0 (ji12))))) else (none)) else (none)) = some (r1, r2) := by first | (rw [hji12] at H; exact H) | (simp only [hji12] at H ⊢; exact H)
            (try rw [hji12] at A5)
            (try rw [hji12] at A7)
            (try rw [hji12] at A9)
            have hji12w : (IntKind.i64.wrap ((l0.length : Int) - 1)) = ji12 := (i64_w _).trans hji12
            by_cases c13 : 0 ≤ (ji12)
            · rw [if_pos c13] at H
              have c13b0 : decide (0 ≤ (ji12)) = true := decide_eq_true c13
              clear c13
              by_cases c14 : (ji12) < (l0.length : Int)
              · rw [if_pos c14] at H
                have c14b0 : decide ((ji12) < (l0.length : Int)) = true := decide_eq_true c14
                clear c14
                have H' := Aside0.mk H
                clear H
                go_wp2_with (first | ((with_reducible refine gate_callee (f := 72) rfl ?_); refine goesL_ (some 18) rfl rfl Tryd.func72 (by kernel_rfl) rfl #[.slice A0 l0.length c0] rfl (by (try simp only [List.map_toArray, List.map_cons, List.map_nil]); first | done | rfl | (simp only [List.length_drop, List.length_take]; rfl)) ?_; (with_reducible refine (impl_areTaps.calls k _ _ l0 true _ ?side1 ?side2 A5.out).mono ?_); (case side1 => repeat (first | exact (Kd.C_below HR0.out HB.out) | (with_reducible refine Kd.C_alloc ?_ _) | (with_reducible refine Kd.C_drewN ?_ _) | (with_reducible refine Kd.C_drew ?_))); (case side2 => exact HC0.out); rintro e w' ⟨rfl, ⟨nd, rfl⟩⟩; refine ⟨_, rfl, ?_⟩) | (go_at_call 56; (with_reducible refine (impl_IsBits.calls a1 true _ A7.out).mono ?_); rintro e w15 ⟨rfl, hb⟩; have n0_ := Aside0.mk (below_step (by repeat (first | (with_reducible first | exact HB.out | apply below_alloc | apply pw_below_drewN | apply below_drew1) | exact HB.out)) hb); clear HB; have HB := n0_; clear n0_; (try clear hb); (try clear hb2); (try clear hk); (try clear hi)) | (go_at_call 56; (with_reducible refine (impl_IsBits.calls a2 true _ A9.out).mono ?_); rintro e w16 ⟨rfl, hb⟩; have n0_ := Aside0.mk (below_step (by repeat (first | (with_reducible first | exact HB.out | apply below_alloc | apply pw_below_drewN | apply below_drew1) | exact HB.out)) hb); clear HB; have HB := n0_; clear n0_; (try clear hb); (try clear hb2); (try clear hk); (try clear hi); have p243 : 0 ≤ ((ji12) : Int) := of_decide_eq_true (by first | (with_reducible assumption) | assumption); have q243 : (ji12) < (l0.length : Int) := of_decide_eq_true (by first | (with_reducible assumption) | assumption); obtain ⟨ad243, e243, hx243_0⟩ := Kd.at_int HR0.out (ji12) p243 q243; cases e243; replace hx243_0 := (HB.out.cell (World.block_lt_of_cell? w _ hx243_0)).trans hx243_0; replace p243 := eq_true p243; replace q243 := eq_true q243))
                go_meet
                case rel => exact ⟨_, (decide ((a1.size : Int) < (rd l0 (ji12)))), (by first | rfl | (simp; done) | (simp only [← hji12] <;> (first | rfl | simp)) | (simp [*]; done)), H', ⟨by first | omega | exact Nat.le_refl _⟩, ⟨by repeat (first | (with_reducible first | exact HB.out | apply below_alloc | apply pw_below_drewN | apply below_drew1) | exact HB.out)⟩⟩
              · rw [if_neg c14] at H
                exact absurd H (by simp)
            · rw [if_neg c13] at H
              exact absurd H (by simp)
          · rw [if_neg c11] at H
            have c11b0 : ((a1.size : Int) == (a2.size : Int)) = false := beq_eq_false_iff_ne.mpr c11
            have c11b1 : ((a1.size : Int) != (a2.size : Int)) = true := bne_iff_ne.mpr c11
            have c11b2 : (a1.size == a2.size) = false := by first | simpa using c11 | (simp at c11 ⊢; omega)
            (first | rw [c11b0] | (simp only [i64_w, i32_w]; rw [c11b0]) | skip)
            have H' := Aside0.mk H
            clear H
            go_wp2_with (first | ((with_reducible refine gate_callee (f := 72) rfl ?_); refine goesL_ (some 18) rfl rfl Tryd.func72 (by kernel_rfl) rfl #[.slice A0 l0.length c0] rfl (by (try simp only [List.map_toArray, List.map_cons, List.map_nil]); first | done | rfl | (simp only [List.length_drop, List.length_take]; rfl)) ?_; (with_reducible refine (impl_areTaps.calls k _ _ l0 true _ ?side1 ?side2 A5.out).mono ?_); (case side1 => repeat (first | exact (Kd.C_below HR0.out HB.out) | (with_reducible refine Kd.C_alloc ?_ _) | (with_reducible refine Kd.C_drewN ?_ _) | (with_reducible refine Kd.C_drew ?_))); (case side2 => exact HC0.out); rintro e w' ⟨rfl, ⟨nd, rfl⟩⟩; refine ⟨_, rfl, ?_⟩) | (go_at_call 56; (with_reducible refine (impl_IsBits.calls a1 true _ A7.out).mono ?_); rintro e w17 ⟨rfl, hb⟩; have n0_ := Aside0.mk (below_step (by repeat (first | (with_reducible first | exact HB.out | apply below_alloc | apply pw_below_drewN | apply below_drew1) | exact HB.out)) hb); clear HB; have HB := n0_; clear n0_; (try clear hb); (try clear hb2); (try clear hk); (try clear hi)) | (go_at_call 56; (with_reducible refine (impl_IsBits.calls a2 true _ A9.out).mono ?_); rintro e w18 ⟨rfl, hb⟩; have n0_ := Aside0.mk (below_step (by repeat (first | (with_reducible first | exact HB.out | apply below_alloc | apply pw_below_drewN | apply below_drew1) | exact HB.out)) hb); clear HB; have HB := n0_; clear n0_; (try clear hb); (try clear hb2); (try clear hk); (try clear hi)))
            go_meet
            case rel => exact ⟨_, (true), (by first | rfl | (simp; done) | (simp [*]; done)), H', ⟨by first | omega | exact Nat.le_refl _⟩, ⟨by repeat (first | (with_reducible first | exact HB.out | apply below_alloc | apply pw_below_drewN | apply below_drew1) | exact HB.out)⟩⟩
        · replace c10 := Bool.eq_false_iff.mpr c10
          subst c10
          have H1 : (impl_FindKey.j0 k l0 a1 a2 true) = some (r1, r2) := by rw [if_neg (show ¬ (false = true) by decide)] at H; exact H
          clear H
          have H := H1
          clear H1
          have H' := Aside0.mk H
          clear H
          go_wp2_with (first | ((with_reducible refine gate_callee (f := 72) rfl ?_); refine goesL_ (some 18) rfl rfl Tryd.func72 (by kernel_rfl) rfl #[.slice A0 l0.length c0] rfl (by (try simp only [List.map_toArray, List.map_cons, List.map_nil]); first | done | rfl | (simp only [List.length_drop, List.length_take]; rfl)) ?_; (with_reducible refine (impl_areTaps.calls k _ _ l0 true _ ?side1 ?side2 A5.out).mono ?_); (case side1 => repeat (first | exact (Kd.C_below HR0.out HB.out) | (with_reducible refine Kd.C_alloc ?_ _) | (with_reducible refine Kd.C_drewN ?_ _) | (with_reducible refine Kd.C_drew ?_))); (case side2 => exact HC0.out); rintro e w' ⟨rfl, ⟨nd, rfl⟩⟩; refine ⟨_, rfl, ?_⟩) | (go_at_call 56; (with_reducible refine (impl_IsBits.calls a1 true _ A7.out).mono ?_); rintro e w19 ⟨rfl, hb⟩; have n0_ := Aside0.mk (below_step (by repeat (first | (with_reducible first | exact HB.out | apply below_alloc | apply pw_below_drewN | apply below_drew1) | exact HB.out)) hb); clear HB; have HB := n0_; clear n0_; (try clear hb); (try clear hb2); (try clear hk); (try clear hi)) | (go_at_call 56; (with_reducible refine (impl_IsBits.calls a2 false _ A9.out).mono ?_); rintro e w20 ⟨rfl, hb⟩; have n0_ := Aside0.mk (below_step (by repeat (first | (with_reducible first | exact HB.out | apply below_alloc | apply pw_below_drewN | apply below_drew1) | exact HB.out)) hb); clear HB; have HB := n0_; clear n0_; (try clear hb); (try clear hb2); (try clear hk); (try clear hi)))
          go_meet
          case rel => exact ⟨_, (true), (by first | rfl | (simp; done) | (simp [*]; done)), H', ⟨by first | omega | exact Nat.le_refl _⟩, ⟨by repeat (first | (with_reducible first | exact HB.out | apply below_alloc | apply pw_below_drewN | apply below_drew1) | exact HB.out)⟩⟩
      · replace c8 := Bool.eq_false_iff.mpr c8
        subst c8
        have H1 : (impl_FindKey.j0 k l0 a1 a2 true) = some (r1, r2) := by rw [if_neg (show ¬ (false = true) by decide)] at H; exact H
        clear H
        have H := H1
        clear H1
        have H' := Aside0.mk H
        clear H
        go_wp2_with (first | ((with_reducible refine gate_callee (f := 72) rfl ?_); refine goesL_ (some 18) rfl rfl Tryd.func72 (by kernel_rfl) rfl #[.slice A0 l0.length c0] rfl (by (try simp only [List.map_toArray, List.map_cons, List.map_nil]); first | done | rfl | (simp only [List.length_drop, List.length_take]; rfl)) ?_; (with_reducible refine (impl_areTaps.calls k _ _ l0 true _ ?side1 ?side2 A5.out).mono ?_); (case side1 => repeat (first | exact (Kd.C_below HR0.out HB.out) | (with_reducible refine Kd.C_alloc ?_ _) | (with_reducible refine Kd.C_drewN ?_ _) | (with_reducible refine Kd.C_drew ?_))); (case side2 => exact HC0.out); rintro e w' ⟨rfl, ⟨nd, rfl⟩⟩; refine ⟨_, rfl, ?_⟩) | (go_at_call 56; (with_reducible refine (impl_IsBits.calls a1 false _ A7.out).mono ?_); rintro e w21 ⟨rfl, hb⟩; have n0_ := Aside0.mk (below_step (by repeat (first | (with_reducible first | exact HB.out | apply below_alloc | apply pw_below_drewN | apply below_drew1) | exact HB.out)) hb); clear HB; have HB := n0_; clear n0_; (try clear hb); (try clear hb2); (try clear hk); (try clear hi)))
        go_meet
        case rel => exact ⟨_, (true), (by first | rfl | (simp; done) | (simp [*]; done)), H', ⟨by first | omega | exact Nat.le_refl _⟩, ⟨by repeat (first | (with_reducible first | exact HB.out | apply below_alloc | apply pw_below_drewN | apply below_drew1) | exact HB.out)⟩⟩
    · replace c6 := Bool.eq_false_iff.mpr c6
      subst c6
      have H1 : (impl_FindKey.j0 k l0 a1 a2 true) = some (r1, r2) := by rw [if_neg (show ¬ (false = true) by decide)] at H; exact H
      clear H
      have H := H1
      clear H1
      have H' := Aside0.mk H
      clear H
      go_wp2_with (first | ((with_reducible refine gate_callee (f := 72) rfl ?_); refine goesL_ (some 18) rfl rfl Tryd.func72 (by kernel_rfl) rfl #[.slice A0 l0.length c0] rfl (by (try simp only [List.map_toArray, List.map_cons, List.map_nil]); first | done | rfl | (simp only [List.length_drop, List.length_take]; rfl)) ?_; (with_reducible refine (impl_areTaps.calls k _ _ l0 false _ ?side1 ?side2 A5.out).mono ?_); (case side1 => repeat (first | exact (Kd.C_below HR0.out HB.out) | (with_reducible refine Kd.C_alloc ?_ _) | (with_reducible refine Kd.C_drewN ?_ _) | (with_reducible refine Kd.C_drew ?_))); (case side2 => exact HC0.out); rintro e w' ⟨rfl, ⟨nd, rfl⟩⟩; refine ⟨_, rfl, ?_⟩))
      go_meet
      case rel => exact ⟨_, (true), (by first | rfl | (simp; done) | (simp [*]; done)), H', ⟨by first | omega | exact Nat.le_refl _⟩, ⟨by repeat (first | (with_reducible first | exact HB.out | apply below_alloc | apply pw_below_drewN | apply below_drew1) | exact HB.out)⟩⟩
  case rest =>
    clear HC4
    try clear c1
    try clear c2
    try clear p2
    try clear q2
    try clear hx2
    try clear c6
    try clear p6
    try clear c7
    try clear c8
    try clear c10
    try clear c11
    try clear c11b0
    try clear c11b1
    try clear c11b2
    try clear c13
    try clear c13b0
    try clear c14
    try clear c14b0
    try clear hx243_0
    try clear p243
    try clear q243
    obtain ⟨kq, x47_3, rfl, HA, HJ3, HB⟩ := hcut
    cases kq with
    | zero => exact absurd HA.out (by simp [impl_FindKey.j0])
    | succ kj3 =>
      have H := HA.out
      clear HA
      simp only [impl_FindKey.j0] at H
      by_cases c22 : x47_3 = true
      · subst c22
        have H1 : (some ((⟨#[]⟩ : ByteArray), false)) = some (r1, r2) := by rw [if_pos rfl] at H; exact H
        clear H
        have H := H1
        clear H1
        simp only [Option.some.injEq, Prod.mk.injEq] at H
        obtain ⟨rfl, rfl⟩ := H
        go_wp2
        go_ret2
        exact ⟨by first | rfl | (simp [errW_none, errW_some] <;> rfl) | (simp [*, errW_none, errW_some] <;> rfl), by repeat (first | (with_reducible first | exact HB.out | apply below_alloc | apply pw_below_drewN | apply below_drew1) | exact HB.out)⟩
      · replace c22 := Bool.eq_false_iff.mpr c22
        subst c22
        have H1 : (if 0 ≤ (wrap64 ((l0.length : Int) - 1)) then (if (wrap64 ((l0.length : Int) - 1)) < (l0.length : Int) then ((impl_xorBits.f a1 a2).bind fun t245 => (if 0 ≤ (rd l0 (wrap64 ((l0.length : Int) - 1))) then (if (rd l0 (wrap64 ((l0.length : Int) - 1)) : Int).toNat ≤ 281474976710656 then ((some (List.replicate (rd l0 (wrap64 ((l0.length : Int) - 1)) : Int).toNat 0 : List Int)).bind fun y246 => (if (rd l0 (wrap64 ((l0.length : Int) - 1))) ≤ (t245.size : Int) then (if y246.length + (t245.extract 0 ((rd l0 (wrap64 ((l0.length : Int) - 1))) : Int).toNat).size < 140737488355328 then (impl_FindKey.l0 kj3 l0 (rd l0 (wrap64 ((l0.length : Int) - 1))) t245 (y246 ++ bytesOf (t245.extract 0 ((rd l0 (wrap64 ((l0.length : Int) - 1))) : Int).toNat)) (wrap64 ((rd l0 (wrap64 ((l0.length : Int) - 1))) - 1))) else (none)) else (none))) else (none)) else (none))) else (none)) else (none)) = some (r1, r2) := by rw [if_neg (show ¬ (false = true) by decide)] at H; exact H
        clear H
        have H := H1
        clear H1
        obtain ⟨ji23, hji23⟩ : ∃ j_ : Int, (wrap64 ((l0.length : Int) - 1)) = j_ := ⟨_, rfl⟩
        replace H : (if 0 ≤ (ji23) then (if (ji23) < (l0.length : Int) then ((impl_xorBits.f a1 a2).bind fun t245 => (if 0 ≤ (rd l0 (ji23)) then (if (rd l0 (ji23) : Int).toNat ≤ 281474976710656 then ((some (List.replicate (rd l0 (ji23) : Int).toNat 0 : List Int)).bind fun y246 => (if (rd l0 (ji23)) ≤ (t245.size : Int) then (if y246.length + (t245.extract 0 ((rd l0 (ji23)) : Int).toNat).size < 140737488355328 then (impl_FindKey.l0 kj3 l0 (rd l0 (ji23)) t245 (y246 ++ bytesOf (t245.extract 0 ((rd l0 (ji23)) : Int).toNat)) (wrap64 ((rd l0 (ji23)) - 1))) else (none)) else (none))) else (none)) else (none))) else (none)) else (none)) = some (r1, r2) := by first | (rw [hji23] at H; exact H) | (simp only [hji23] at H ⊢; exact H)
        have hji23w : (IntKind.i64.wrap ((l0.length : Int) - 1)) = ji23 := (i64_w _).trans hji23
        by_cases c24 : 0 ≤ (ji23)
        · rw [if_pos c24] at H
          have c24b0 : decide (0 ≤ (ji23)) = true := decide_eq_true c24
          clear c24
          by_cases c25 : (ji23) < (l0.length : Int)
          · rw [if_pos c25] at H
            have c25b0 : decide ((ji23) < (l0.length : Int)) = true := decide_eq_true c25
            clear c25
            replace H := Option.bind_eq_some_iff.mp H
            obtain ⟨t245, A260, H⟩ := H
            replace H : (if 0 ≤ (rd l0 (ji23)) then (if (rd l0 (ji23) : Int).toNat ≤ 281474976710656 then ((some (List.replicate (rd l0 (ji23) : Int).toNat 0 : List Int)).bind fun y246 => (if (rd l0 (ji23)) ≤ (t245.size : Int) then (if y246.length + (t245.extract 0 ((rd l0 (ji23)) : Int).toNat).size < 140737488355328 then (impl_FindKey.l0 kj3 l0 (rd l0 (ji23)) t245 (y246 ++ bytesOf (t245.extract 0 ((rd l0 (ji23)) : Int).toNat)) (wrap64 ((rd l0 (ji23)) - 1))) else (none)) else (none))) else (none)) else (none)) = some (r1, r2) := H
            have A26 := Aside0.mk A260
            clear A260
            by_cases c27 : 0 ≤ (rd l0 (ji23))
            · rw [if_pos c27] at H
              have c27b0 := eq_true c27
              have c27b1 : decide (0 ≤ (rd l0 (ji23))) = true := decide_eq_true c27
              clear c27
              by_cases c28 : (rd l0 (ji23) : Int).toNat ≤ 281474976710656
              · rw [if_pos c28] at H
                have c28b0 := eq_true c28
                have c28b1 : decide ((rd l0 (ji23) : Int).toNat ≤ 281474976710656) = true := decide_eq_true c28
                clear c28
                obtain ⟨y246, hy246⟩ : ∃ y_ : List Int, y_ = (List.replicate (rd l0 (ji23) : Int).toNat 0) := ⟨_, rfl⟩
                replace H : (if (rd l0 (ji23)) ≤ (t245.size : Int) then (if y246.length + (t245.extract 0 ((rd l0 (ji23)) : Int).toNat).size < 140737488355328 then (impl_FindKey.l0 kj3 l0 (rd l0 (ji23)) t245 (y246 ++ bytesOf (t245.extract 0 ((rd l0 (ji23)) : Int).toNat)) (wrap64 ((rd l0 (ji23)) - 1))) else (none)) else (none)) = some (r1, r2) := by first | (rw [hy246]; with_reducible exact H) | (have H2_ := (Option.bind_some _ _).symm.trans H; rw [hy246]; with_reducible exact H2_) | (have H2_ := (Option.bind_some _ _).symm.trans H; with_reducible exact H2_) | with_reducible exact H | (rw [hy246]; exact H) | exact H
                have Ny246 := Aside0.mk hy246
                clear hy246
                have c29b0 := eq_true (of_decide_eq_true (by first | (with_reducible assumption) | assumption) : 0 ≤ (rd l0 (ji23)))
                by_cases c30 : (rd l0 (ji23)) ≤ (t245.size : Int)
                · rw [if_pos c30] at H
                  have c30b0 := eq_true c30
                  have c30b1 : decide ((rd l0 (ji23)) ≤ (t245.size : Int)) = true := decide_eq_true c30
                  clear c30
                  by_cases c31 : y246.length + (t245.extract 0 ((rd l0 (ji23)) : Int).toNat).size < 140737488355328
                  · rw [if_pos c31] at H
                    have LMc31 := Aside0.mk c31
                    clear c31
                    obtain ⟨y249, hy249⟩ : ∃ y_ : List Int, y_ = (y246 ++ bytesOf (t245.extract 0 ((rd l0 (ji23)) : Int).toNat)) := ⟨_, rfl⟩
                    replace H : (impl_FindKey.l0 kj3 l0 (rd l0 (ji23)) t245 y249 (wrap64 ((rd l0 (ji23)) - 1))) = some (r1, r2) := by first | (rw [hy249]; with_reducible exact H) | (have H2_ := (Option.bind_some _ _).symm.trans H; rw [hy249]; with_reducible exact H2_) | (have H2_ := (Option.bind_some _ _).symm.trans H; with_reducible exact H2_) | with_reducible exact H | (rw [hy249]; exact H) | exact H
                    have Ny249 := Aside0.mk hy249
                    clear hy249
                    have H' := Aside0.mk H
                    clear H
                    have p244 : 0 ≤ ((ji23) : Int) := of_decide_eq_true (by first | (with_reducible assumption) | assumption)
                    have q244 : (ji23) < (l0.length : Int) := of_decide_eq_true (by first | (with_reducible assumption) | assumption)
                    obtain ⟨ad244, e244, hx244_0⟩ := Kd.at_int HR0.out (ji23) p244 q244
                    cases e244
                    replace hx244_0 := (HB.out.cell (World.block_lt_of_cell? w _ hx244_0)).trans hx244_0
                    replace p244 := eq_true p244
                    replace q244 := eq_true q244
                    try go_wp2_with (first | ((with_reducible refine gate_callee (f := 71) rfl ?_); refine goesL_ (some 56) rfl rfl Tryd.func71 (by kernel_rfl) rfl #[.string a1, .string a2] rfl (by (try simp only [List.map_toArray, List.map_cons, List.map_nil]); first | done | rfl | (simp only [List.length_drop, List.length_take]; rfl)) ?_; (with_reducible refine (impl_xorBits.calls a1 a2 t245 _ A26.out).mono ?_); rintro e w32 ⟨rfl, hb⟩; refine ⟨_, rfl, ?_⟩; have n0_ := Aside0.mk (below_step (by repeat (first | (with_reducible first | exact HB.out | apply below_alloc | apply pw_below_drewN | apply below_drew1) | exact HB.out)) hb); clear HB; have HB := n0_; clear n0_; (try clear hb); (try clear hb2); (try clear hk); (try clear hi)))
                    have n0_ := Aside0.mk (below_drew1 HB.out)
                    clear HB
                    have HB := n0_
                    clear n0_
                    refine start_ (n := 7) (S := fun w' => True) (ds := []) #[false, false, false, false, false, false, false] (by kernel_rfl) rfl rfl trivial (fun hHeld => ?_)
                    generalize w32.drew = w33 at HB hHeld ⊢
                    refine pure_ (i := 0) (N := some 57) (v := ?_) (a' := ?_) #[true, false, false, false, false, false, false] rfl rfl (by kernel_rfl) (fun _ _ _ h => h) (Or.inl ⟨by rfl, ?_⟩) ?_ ?_
                    rotate_left
                    · intro w'
                      go_simp
                      with_reducible rfl
                    rotate_left
                    · simp only [Act.put, List.setIfInBounds_toArray, List.set_cons_zero, List.set_cons_succ, i64_w, i32_w]
                      rfl
                    refine pure_ (i := 2) (N := some 59) (v := ?_) (a' := ?_) #[true, false, true, false, false, false, false] rfl rfl (by kernel_rfl) (fun _ _ _ h => h) (Or.inl ⟨by rfl, ?_⟩) ?_ ?_
                    rotate_left
                    · intro w'
                      go_simp
                      with_reducible rfl
                    rotate_left
                    · simp only [Act.put, List.setIfInBounds_toArray, List.set_cons_zero, List.set_cons_succ, i64_w, i32_w]
                      rfl
                    refine pure_ (i := 3) (N := some 60) (v := ?_) (a' := ?_) #[true, false, true, true, false, false, false] rfl rfl (by kernel_rfl) (fun _ _ _ h => h) (Or.inl ⟨by rfl, ?_⟩) ?_ ?_
                    rotate_left
                    · intro w'
                      go_simp
                      with_reducible rfl
                    rotate_left
                    · simp only [Act.put, List.setIfInBounds_toArray, List.set_cons_zero, List.set_cons_succ, i64_w, i32_w]
                      rfl
                    refine pure_ (i := 4) (N := some 61) (v := ?_) (a' := ?_) #[true, false, true, true, true, false, false] rfl rfl (by kernel_rfl) (fun _ _ _ h => h) (Or.inl ⟨by rfl, ?_⟩) ?_ ?_
                    rotate_left
                    · intro w'
                      go_simp
                      with_reducible rfl
                    rotate_left
                    · simp only [Act.put, List.setIfInBounds_toArray, List.set_cons_zero, List.set_cons_succ, i64_w, i32_w]
                      rfl
                    refine one_ (i := 1) (N := some 58) #[true, true, true, true, true, false, false] rfl rfl (by kernel_rfl) (by decide) (fun K hK => ?_)
                    refine Kd.R_make_step (Kd.int .u8) _ 5 (by rfl) (N := 58) rfl 22 _ _ rfl (rd l0 (ji23)) rfl rfl Tryd.underlying22 (.int .u8 0) 1 info5 rfl (by decide) (by omega) 0 (ok := fun _ => True) (okp := fun _ => True) rfl (fun _ hk => hk) trivial (of_decide_eq_true (by first | (with_reducible assumption) | assumption)) (Nat.le_trans (Nat.mul_le_mul_right _ (of_decide_eq_true (by first | (with_reducible assumption) | assumption) : (rd l0 (ji23)).toNat ≤ 281474976710656)) (by omega)) (Below.refl _ _) (Nat.le_refl _) ?_
                    intro v247 w34 ho35 hb hg_ hnew_
                    clear hg_ hnew_
                    (first | rw [← Ny246.out] at ho35 | (simp only [Int.reduceToNat] at ho35; rw [← Ny246.out] at ho35))
                    have n0_ := Aside0.mk (Kd.R_lower ho35 (below_size (by repeat (first | (with_reducible first | exact HB.out | apply below_alloc | apply pw_below_drewN | apply below_drew1) | exact HB.out))))
                    have n1_ := Aside0.mk (below_step (by repeat (first | (with_reducible first | exact HB.out | apply below_alloc | apply pw_below_drewN | apply below_drew1) | exact HB.out)) hb)
                    clear HB
                    have HO248 := n0_
                    have HB := n1_
                    clear n0_ n1_
                    clear hb ho35
                    refine hK.out _ _ trivial (fun hHeld => ?_)
                    clear hK K
                    refine norm_ (a' := ?_) ?_ ?_
                    rotate_left
                    · show Act.put _ (some 58) _ = _
                      simp only [Act.put, List.setIfInBounds_toArray, List.set_cons_zero, List.set_cons_succ, i64_w, i32_w]
                      rfl
                    refine one_ (i := 5) (N := some 62) #[true, true, true, true, true, true, false] rfl rfl (by kernel_rfl) (by decide) (fun K hK => ?_)
                    refine print_append_str_step (w0 := w) w.heap.size (by rfl) (.tmp 58) _ 22 9 5 rfl Tryd.underlying22 Tryd.underlying9 info5 v247 y246 (t245.extract 0 ((rd l0 (ji23)) : Int).toNat) rfl rfl ?aO ?aB ?aS ?aL ?_
                    (case aB => exact (by repeat (first | (with_reducible first | exact HB.out | apply below_alloc | apply pw_below_drewN | apply below_drew1) | exact HB.out)))
                    (case aO => exact (Kd.own_of_R (by (with_reducible repeat (first | apply Kd.R_alloc | apply Kd.R_drewN | apply Kd.R_drew)); exact HO248.out)))
                    (case aS => exact (below_size (by repeat (first | (with_reducible first | exact HB.out | apply below_alloc | apply pw_below_drewN | apply below_drew1) | exact HB.out))))
                    (case aL => have := LMc31.out; omega)
                    intro v250 w36 ho0 hb hg
                    have ho := Kd.R_of_own (h1 := fun _ => rfl) (ok := fun _ => True) ho0 (fun _ _ => trivial)
                    clear ho0
                    have hat := True.intro
                    rw [← Ny249.out] at ho
                    change Kd.R (Kd.int .u8) 5 w36 w.heap.size (fun _ => True) v250 y249 at ho
                    have n0_ := Aside0.mk (hb)
                    have n1_ := Aside0.mk (ho)
                    clear HB
                    clear HO248
                    have HB := n0_
                    have HO251 := n1_
                    clear n0_ n1_
                    clear ho hb hg hat
                    refine hK.out _ _ trivial (fun hHeld => ?_)
                    clear hK K
                    refine norm_ (a' := ?_) ?_ ?_
                    rotate_left
                    · show Act.put _ (some 62) _ = _
                      simp only [Act.put, List.setIfInBounds_toArray, List.set_cons_zero, List.set_cons_succ, i64_w, i32_w]
                      rfl
                    refine pure_ (i := 6) (N := some 10) (v := ?_) (a' := ?_) #[true, true, true, true, true, true, true] rfl rfl (by kernel_rfl) (fun _ _ _ h => h) (Or.inl ⟨by rfl, ?_⟩) ?_ ?_
                    rotate_left
                    · intro w'
                      go_simp
                      with_reducible rfl
                    rotate_left
                    · simp only [Act.put, List.setIfInBounds_toArray, List.set_cons_zero, List.set_cons_succ, i64_w, i32_w]
                      rfl
                    refine done_ (by kernel_rfl) ?_
                    try go_wp2
                    go_loopg [11] kj3 (fun kq v11 w' => ∃ (x10_2 : List Int) (x11_2 : Int), v11 = .int .i64 x11_2 ∧ Aside0 (impl_FindKey.l0 kq l0 (rd l0 (ji23)) t245 x10_2 x11_2 = some (r1, r2)) ∧ Aside0 (kq ≤ kj3) ∧ Aside0 (Kd.R (Kd.int .u8) 5 w' w.heap.size (fun _ => True) v250 x10_2) ∧ Aside0 (Below w.heap.size w w'))
                    case atStart => exact ⟨(y249), (wrap64 ((rd l0 (ji23)) - 1)), (by first | rfl | (simp; done) | (simp only [← hji23] <;> (first | rfl | simp)) | (simp [*]; done)), H', ⟨Nat.le_refl _⟩, ⟨by (with_reducible repeat (first | apply Kd.R_alloc | apply Kd.R_drewN | apply Kd.R_drew)); exact HO251.out⟩, ⟨by repeat (first | (with_reducible first | exact HB.out | apply below_alloc | apply pw_below_drewN | apply below_drew1) | exact HB.out)⟩⟩
                    case round =>
                      clear H'
                      try clear c1
                      try clear c2
                      try clear p2
                      try clear q2
                      try clear hx2
                      try clear c3
                      try clear c6
                      try clear p6
                      try clear c7
                      try clear c8
                      try clear c10
                      try clear c11
                      try clear c11b0
                      try clear c11b1
                      try clear c11b2
                      try clear c13
                      try clear c13b0
                      try clear c14
                      try clear c14b0
                      try clear c22
                      try clear c24
                      try clear c24b0
                      try clear p24
                      try clear q24
                      try clear hx24
                      try clear c25
                      try clear c25b0
                      try clear c27
                      try clear c27b0
                      try clear c27b1
                      try clear c28
                      try clear c28b0
                      try clear c28b1
                      try clear c29
                      try clear c29b0
                      try clear c30
                      try clear c30b0
                      try clear c30b1
                      try clear c31
                      try clear hx243_0
                      try clear hx244_0
                      try clear p2
                      try clear p243
                      try clear p244
                      try clear p6
                      try clear q2
                      try clear q243
                      try clear q244
                      obtain ⟨x10_2, x11_2, rfl, HA, HK2, HO_10, HB⟩ := hrel
                      cases gk with
                      | zero => exact absurd HA.out (by simp [impl_FindKey.l0])
                      | succ k2 =>
                        have H := HA.out
                        clear HA
                        simp only [impl_FindKey.l0] at H
                        by_cases c37 : x11_2 ≥ 0
                        · rw [if_pos c37] at H
                          have c37b0 : decide (0 ≤ x11_2) = true := decide_eq_true c37
                          clear c37
                          obtain ⟨ji38, hji38⟩ : ∃ j_ : Int, (wrap64 ((rd l0 (ji23)) + x11_2)) = j_ := ⟨_, rfl⟩
                          replace H : (if 0 ≤ (ji38) then (if (ji38) < (x10_2.length : Int) then (if 0 ≤ (wrap64 ((l0.length : Int) - 1)) then (if (wrap64 ((l0.length : Int) - 1)) ≤ (l0.length : Int) then (impl_FindKey.l1 k2 l0 (rd l0 (ji23)) t245 x10_2 x11_2 (Go.bits .and .u8 (rd x10_2 (ji38)) 1) (l0.take ((wrap64 ((l0.length : Int) - 1)) : Int).toNat) ((l0.take ((wrap64 ((l0.length : Int) - 1)) : Int).toNat).length : Int) 0) else (none)) else (none)) else (none)) else (none)) = some (r1, r2) := by first | (rw [hji38] at H; exact H) | (simp only [hji38] at H ⊢; exact H)
                          have hji38w : (IntKind.i64.wrap ((rd l0 (ji23)) + x11_2)) = ji38 := (i64_w _).trans hji38
                          by_cases c39 : 0 ≤ (ji38)
                          · rw [if_pos c39] at H
                            have c39b0 : decide (0 ≤ (ji38)) = true := decide_eq_true c39
                            clear c39
                            by_cases c40 : (ji38) < (x10_2.length : Int)
                            · rw [if_pos c40] at H
                              have c40b0 : decide ((ji38) < (x10_2.length : Int)) = true := decide_eq_true c40
                              clear c40
                              obtain ⟨ji41, hji41⟩ : ∃ j_ : Int, (wrap64 ((l0.length : Int) - 1)) = j_ := ⟨_, rfl⟩
                              replace H : (if 0 ≤ (ji41) then (if (ji41) ≤ (l0.length : Int) then (impl_FindKey.l1 k2 l0 (rd l0 (ji23)) t245 x10_2 x11_2 (Go.bits .and .u8 (rd x10_2 (ji38)) 1) (l0.take ((ji41) : Int).toNat) ((l0.take ((ji41) : Int).toNat).length : Int) 0) else (none)) else (none)) = some (r1, r2) := by first | (rw [hji41] at H; exact H) | (simp only [hji41] at H ⊢; exact H)
                              have hji41w : (IntKind.i64.wrap ((l0.length : Int) - 1)) = ji41 := (i64_w _).trans hji41
                              by_cases c42 : 0 ≤ (ji41)
                              · rw [if_pos c42] at H
                                have c42b0 := eq_true c42
                                have c42b1 : decide (0 ≤ (ji41)) = true := decide_eq_true c42
                                clear c42
                                by_cases c43 : (ji41) ≤ (l0.length : Int)
                                · rw [if_pos c43] at H
                                  have c43b0 := eq_true c43
                                  have hmx_ : ((l0.take (ji41 : Int).toNat).length : Int) = max ji41 0 := by
                                    have a_ := of_eq_true c42b0
                                    have b_ := of_eq_true c43b0
                                    rw [List.length_take]; omega
                                  have c43b1 : decide ((ji41) ≤ (l0.length : Int)) = true := decide_eq_true c43
                                  clear c43
                                  have H' := Aside0.mk H
                                  clear H
                                  obtain ⟨Ao44, co44, eo44⟩ := Kd.R_slice HO_10.out
                                  subst eo44
                                  have p252 : 0 ≤ ((ji38) : Int) := of_decide_eq_true (by first | (with_reducible assumption) | assumption)
                                  have q252 : (ji38) < (x10_2.length : Int) := of_decide_eq_true (by first | (with_reducible assumption) | assumption)
                                  obtain ⟨ad252, e252, hx252_0⟩ := Kd.at_int (Kd.R_reads' HO_10.out).2.2 (ji38) p252 q252
                                  cases e252
                                  replace p252 := eq_true p252
                                  replace q252 := eq_true q252
                                  obtain ⟨i045, hi045, _, hsz45, _⟩ := info_parts info2
                                  obtain ⟨hcut45, hA45, hC45⟩ := print_take_of (P := Tryd.prog) (Value.int .i64) 0 31 2 .i64 Tryd.underlying31 hi045 hsz45 (some ad244) c0 l0 (ji41) (of_decide_eq_true (by first | (with_reducible assumption) | assumption)) (of_decide_eq_true (by first | (with_reducible assumption) | assumption)) HC0.out
                                  have HR253 := Aside0.mk (Kd.C_of_reads (h1 := fun _ => rfl) (hA45 _ (Kd.reads_of_C HR0.out)))
                                  have HC253 := Aside0.mk hC45
                                  clear hA45 hC45 hi045 hsz45
                                  clear hji23 hji23w
                                  go_wp2
                                  go_loopg [12, 82] k2 (fun kq v12 v82 w' => ∃ (x12_3 : Int) (x82_3 : Int), v12 = .int .u8 x12_3 ∧ v82 = .int .i64 x82_3 ∧ Aside0 (impl_FindKey.l1 kq l0 (rd l0 (ji23)) t245 x10_2 x11_2 x12_3 (l0.take ((ji41) : Int).toNat) ((l0.take ((ji41) : Int).toNat).length : Int) x82_3 = some (r1, r2)) ∧ Aside0 (kq ≤ k2) ∧ Aside0 (Kd.R (Kd.int .u8) 5 w' w.heap.size (fun _ => True) (.slice (some ad252) x10_2.length co44) x10_2) ∧ Aside0 (Below w.heap.size w w'))
                                  case atStart => exact ⟨(Go.bits .and .u8 (rd x10_2 (ji38)) 1), (0), (by first | rfl | (simp; done) | (simp only [← hji38] <;> (first | rfl | simp)) | (simp [*]; done)), (by first | rfl | (simp; done) | (simp [*]; done)), H', ⟨Nat.le_refl _⟩, ⟨by (with_reducible repeat (first | apply Kd.R_alloc | apply Kd.R_drewN | apply Kd.R_drew)); exact HO_10.out⟩, ⟨by repeat (first | (with_reducible first | exact HB.out | apply below_alloc | apply pw_below_drewN | apply below_drew1) | exact HB.out)⟩⟩
                                  case round =>
                                    clear H'
                                    try clear c1
                                    try clear c2
                                    try clear p2
                                    try clear q2
                                    try clear hx2
                                    try clear c3
                                    try clear c4
                                    try clear c6
                                    try clear p6
                                    try clear c7
                                    try clear c8
                                    try clear c10
                                    try clear c11
                                    try clear c11b0
                                    try clear c11b1
                                    try clear c11b2
                                    try clear c13
                                    try clear c13b0
                                    try clear c14
                                    try clear c14b0
                                    try clear c22
                                    try clear c24
                                    try clear c24b0
                                    try clear p24
                                    try clear q24
                                    try clear hx24
                                    try clear c25
                                    try clear c25b0
                                    try clear p25
                                    try clear q25
                                    try clear hx25
                                    try clear c27
                                    try clear c27b0
                                    try clear c27b1
                                    try clear c28
                                    try clear c28b0
                                    try clear c28b1
                                    try clear c29
                                    try clear c29b0
                                    try clear c30
                                    try clear c30b0
                                    try clear c30b1
                                    try clear c31
                                    try clear c37
                                    try clear c37b0
                                    try clear c39
                                    try clear c39b0
                                    try clear c40
                                    try clear c40b0
                                    try clear c42
                                    try clear c42b0
                                    try clear c42b1
                                    try clear c43
                                    try clear c43b0
                                    try clear c43b1
                                    try clear hx243_0
                                    try clear hx244_0
                                    try clear hx252_0
                                    try clear p2
                                    try clear p24
                                    try clear p243
                                    try clear p244
                                    try clear p252
                                    try clear p6
                                    try clear q2
                                    try clear q24
                                    try clear q243
                                    try clear q244
                                    try clear q252
                                    obtain ⟨x12_3, x82_3, rfl, rfl, HA, HK3, HO_10, HB⟩ := hrel
                                    cases gk with
                                    | zero => exact absurd HA.out (by simp [impl_FindKey.l1])
                                    | succ k3 =>
                                      have H := HA.out
                                      clear HA
                                      simp only [impl_FindKey.l1] at H
                                      by_cases c46 : x82_3 < ((l0.take ((ji41) : Int).toNat).length : Int)
                                      · rw [if_pos c46] at H
                                        have c46b0 : decide (x82_3 < ((l0.take ((ji41) : Int).toNat).length : Int)) = true := decide_eq_true c46
                                        try (have c46b9 := c46b0; rw [hmx_] at c46b9)
                                        clear c46
                                        by_cases c47 : 0 ≤ x82_3
                                        · rw [if_pos c47] at H
                                          have c47b0 : decide (0 ≤ x82_3) = true := decide_eq_true c47
                                          clear c47
                                          by_cases c48 : x82_3 < ((l0.take ((ji41) : Int).toNat).length : Int)
                                          · rw [if_pos c48] at H
                                            have c48b0 : decide (x82_3 < ((l0.take ((ji41) : Int).toNat).length : Int)) = true := decide_eq_true c48
                                            try (have c48b9 := c48b0; rw [hmx_] at c48b9)
                                            clear c48
                                            obtain ⟨ji49, hji49⟩ : ∃ j_ : Int, (wrap64 ((wrap64 ((rd l0 (ji23)) + x11_2)) - (rd (l0.take ((ji41) : Int).toNat) x82_3))) = j_ := ⟨_, rfl⟩
                                            replace H : (if 0 ≤ (ji49) then (if (ji49) < (x10_2.length : Int) then (impl_FindKey.l1 k3 l0 (rd l0 (ji23)) t245 x10_2 x11_2 (Go.bits .xor .u8 x12_3 (Go.bits .and .u8 (rd x10_2 (ji49)) 1)) (l0.take ((ji41) : Int).toNat) ((l0.take ((ji41) : Int).toNat).length : Int) (wrap64 (x82_3 + 1))) else (none)) else (none)) = some (r1, r2) := by first | (rw [hji49] at H; exact H) | (simp only [hji49] at H ⊢; exact H)
                                            have hji49w : (IntKind.i64.wrap ((wrap64 ((rd l0 (ji23)) + x11_2)) - (rd (l0.take ((ji41) : Int).toNat) x82_3))) = ji49 := (i64_w _).trans hji49
                                            try rw [hji38] at hji49
                                            try rw [hji38] at hji49w
                                            by_cases c50 : 0 ≤ (ji49)
                                            · rw [if_pos c50] at H
                                              have c50b0 : decide (0 ≤ (ji49)) = true := decide_eq_true c50
                                              clear c50
                                              by_cases c51 : (ji49) < (x10_2.length : Int)
                                              · rw [if_pos c51] at H
                                                have c51b0 : decide ((ji49) < (x10_2.length : Int)) = true := decide_eq_true c51
                                                clear c51
                                                have H' := Aside0.mk H
                                                clear H
                                                have p254 : 0 ≤ (x82_3 : Int) := of_decide_eq_true (by first | (with_reducible assumption) | assumption)
                                                have q254 : x82_3 < ((l0.take ((ji41) : Int).toNat).length : Int) := of_decide_eq_true (by first | (with_reducible assumption) | assumption)
                                                obtain ⟨ad254, e254, hx254_0⟩ := Kd.at_int HR253.out x82_3 p254 q254
                                                obtain rfl : ad244 = ad254 := (by injection e254)
                                                replace hx254_0 := (HB.out.cell (World.block_lt_of_cell? w _ hx254_0)).trans hx254_0
                                                replace p254 := eq_true p254
                                                replace q254 := eq_true q254
                                                try (have q254b := q254; rw [hmx_] at q254b)
                                                have p255 : 0 ≤ ((ji49) : Int) := of_decide_eq_true (by first | (with_reducible assumption) | assumption)
                                                have q255 : (ji49) < (x10_2.length : Int) := of_decide_eq_true (by first | (with_reducible assumption) | assumption)
                                                obtain ⟨ad255, e255, hx255_0⟩ := Kd.at_int (Kd.R_reads' HO_10.out).2.2 (ji49) p255 q255
                                                obtain rfl : ad252 = ad255 := (by injection e255)
                                                replace p255 := eq_true p255
                                                replace q255 := eq_true q255
                                                go_wp2
                                                go_roundg k3
                                                case measure => have := HJ3.out; have := HK2.out; have := HK3.out; omega
                                                case rel => exact ⟨(Go.bits .xor .u8 x12_3 (Go.bits .and .u8 (rd x10_2 (ji49)) 1)), (wrap64 (x82_3 + 1)), (by first | rfl | (simp; done) | (simp only [← hji49] <;> (first | rfl | simp)) | (simp [*]; done)), (by first | rfl | (simp; done) | (simp [*]; done)), H', ⟨by have := HJ3.out; have := HK2.out; have := HK3.out; omega⟩, ⟨by (with_reducible repeat (first | apply Kd.R_alloc | apply Kd.R_drewN | apply Kd.R_drew)); exact HO_10.out⟩, ⟨by repeat (first | (with_reducible first | exact HB.out | apply below_alloc | apply pw_below_drewN | apply below_drew1) | exact HB.out)⟩⟩
                                              · rw [if_neg c51] at H
                                                exact absurd H (by simp)
                                            · rw [if_neg c50] at H
                                              exact absurd H (by simp)
                                          · rw [if_neg c48] at H
                                            exact absurd H (by simp)
                                        · rw [if_neg c47] at H
                                          exact absurd H (by simp)
                                      · rw [if_neg c46] at H
                                        have c46b0 : decide (x82_3 < ((l0.take ((ji41) : Int).toNat).length : Int)) = false := decide_eq_false c46
                                        try (have c46b9 := c46b0; rw [hmx_] at c46b9)
                                        clear c46
                                        by_cases c52 : 0 ≤ x11_2
                                        · rw [if_pos c52] at H
                                          have c52b0 : decide (0 ≤ x11_2) = true := decide_eq_true c52
                                          clear c52
                                          by_cases c53 : x11_2 < (x10_2.length : Int)
                                          · rw [if_pos c53] at H
                                            have c53b0 : decide (x11_2 < (x10_2.length : Int)) = true := decide_eq_true c53
                                            clear c53
                                            obtain ⟨y256, hy256⟩ : ∃ y_ : List Int, y_ = (x10_2.set (x11_2 : Int).toNat ((48 + x12_3) % 256)) := ⟨_, rfl⟩
                                            replace H : (impl_FindKey.l0 k3 l0 (rd l0 (ji23)) t245 y256 (wrap64 (x11_2 - 1))) = some (r1, r2) := by first | (rw [hy256]; with_reducible exact H) | (have H2_ := (Option.bind_some _ _).symm.trans H; rw [hy256]; with_reducible exact H2_) | (have H2_ := (Option.bind_some _ _).symm.trans H; with_reducible exact H2_) | with_reducible exact H | (rw [hy256]; exact H) | exact H
                                            have Ny256 := Aside0.mk hy256
                                            clear hy256
                                            have H' := Aside0.mk H
                                            clear H
                                            have p54 : 0 ≤ (x11_2 : Int) := of_decide_eq_true (by first | (with_reducible assumption) | assumption)
                                            have q54 : (x11_2 : Int) < ((x10_2.length : Int) : Int) := of_decide_eq_true (by first | (with_reducible assumption) | assumption)
                                            obtain ⟨go54, co54, eo54, gb54, gl54, cl54, HG54⟩ := Kd.R_form HO_10.out (by omega)
                                            (first | cases eo54 | (injection eo54 with ea_ en_ ec_; (first | subst ea_ | (injection ea_ with ea_; subst ea_)); subst ec_; clear en_))
                                            have GB54 := Aside0.mk gb54
                                            have GG54 := Aside0.mk HG54
                                            clear gb54 gl54 HG54
                                            (first | simp only [add_plain] at hx252_0 | skip)
                                            (first | simp only [add_plain] at hx255_0 | skip)
                                            obtain ⟨hx54_0, hf54_0⟩ := Kd.R_celln 0 HO_10.out (x11_2 : Int) p54 q54
                                            replace p54 := eq_true p54
                                            replace q54 := eq_true q54
                                            have HP55 := Kd.R_putg HO_10.out (x11_2 : Int) ((48 + x12_3) % 256)
                                            go_wp2_with (first | ((with_reducible refine gate_store (t := 5) (p := 102) rfl ?_); refine store_event (t := 5) (p := 102) (v := ?vo_w56) (w1 := (wr.setCell ⟨go54, (x11_2 : Int).toNat, none⟩ (.int .u8 ((48 + x12_3) % 256)))) ?hg ?ho ?hn ?hr ?_; (case ho => rfl); (case hg => rfl); (case hn => rfl); (case hr => first | (go_simp; done) | (go_simp; rfl)); intro w56 hw; have hg : wr.grownBy w56 (some go54) := (by rw [hw]; exact HP55.2); have hp_ : Kd.R (Kd.int .u8) 5 w56 w.heap.size (fun _ => True) (.slice (some ⟨go54, 0, none⟩) x10_2.length co44) y256 := (by rw [hw, Ny256.out]; exact HP55.1); clear HP55; have n0_ := Aside0.mk (hp_); have n1_ := Aside0.mk ((by rw [hw]; exact below_set (HB.out) GB54.out : Below w.heap.size w w56)); clear HO_10; clear HB; have HO_10 := n0_; have HB := n1_; clear n0_ n1_; clear hg hw hp_))
                                            go_roundg k3
                                            case measure => have := HJ3.out; have := HK2.out; have := HK3.out; omega
                                            case rel => exact ⟨(y256), (wrap64 (x11_2 - 1)), (by first | rfl | (simp; done) | (simp [*]; done)), H', ⟨by have := HJ3.out; have := HK2.out; have := HK3.out; omega⟩, ⟨by (with_reducible repeat (first | apply Kd.R_alloc | apply Kd.R_drewN | apply Kd.R_drew)); exact HO_10.out⟩, ⟨by repeat (first | (with_reducible first | exact HB.out | apply below_alloc | apply pw_below_drewN | apply below_drew1) | exact HB.out)⟩⟩
                                          · rw [if_neg c53] at H
                                            exact absurd H (by simp)
                                        · rw [if_neg c52] at H
                                          exact absurd H (by simp)
                                · rw [if_neg c43] at H
                                  exact absurd H (by simp)
                              · rw [if_neg c42] at H
                                exact absurd H (by simp)
                            · rw [if_neg c40] at H
                              exact absurd H (by simp)
                          · rw [if_neg c39] at H
                            exact absurd H (by simp)
                        · rw [if_neg c37] at H
                          have c37b0 : decide (0 ≤ x11_2) = false := decide_eq_false c37
                          clear c37
                          by_cases c57 : 0 ≤ (rd l0 (ji23))
                          · rw [if_pos c57] at H
                            have c57b0 := eq_true c57
                            have c57b1 : decide (0 ≤ (rd l0 (ji23))) = true := decide_eq_true c57
                            clear c57
                            by_cases c58 : (rd l0 (ji23)) ≤ (x10_2.length : Int)
                            · rw [if_pos c58] at H
                              have c58b0 := eq_true c58
                              have c58b1 : decide ((rd l0 (ji23)) ≤ (x10_2.length : Int)) = true := decide_eq_true c58
                              clear c58
                              obtain ⟨y257, hy257⟩ : ∃ y_ : List Int, y_ = (x10_2.take ((rd l0 (ji23)) : Int).toNat) := ⟨_, rfl⟩
                              replace H : ((slices_Reverse_byte_byte.f k2 y257).bind fun t260 => ((impl_Scrambler_keyBits.f k2 l0 (strOfNums t260) (t245.size : Int)).bind fun t262 => (if t262.toList = t245.toList then (some (strOfNums t260, true)) else (some ((⟨#[]⟩ : ByteArray), false))))) = some (r1, r2) := by first | (rw [hy257]; with_reducible exact H) | (have H2_ := (Option.bind_some _ _).symm.trans H; rw [hy257]; with_reducible exact H2_) | (have H2_ := (Option.bind_some _ _).symm.trans H; with_reducible exact H2_) | with_reducible exact H | (rw [hy257]; exact H) | exact H
                              have Ny257 := Aside0.mk hy257
                              clear hy257
                              replace H := Option.bind_eq_some_iff.mp H
                              obtain ⟨t260, A590, H⟩ := H
                              replace H : ((impl_Scrambler_keyBits.f k2 l0 (strOfNums t260) (t245.size : Int)).bind fun t262 => (if t262.toList = t245.toList then (some (strOfNums t260, true)) else (some ((⟨#[]⟩ : ByteArray), false)))) = some (r1, r2) := H
                              have A59 := Aside0.mk A590
                              clear A590
                              replace H := Option.bind_eq_some_iff.mp H
                              obtain ⟨t262, A600, H⟩ := H
                              replace H : (if t262.toList = t245.toList then (some (strOfNums t260, true)) else (some ((⟨#[]⟩ : ByteArray), false))) = some (r1, r2) := H
                              have A60 := Aside0.mk A600
                              clear A600
                              by_cases c61 : t262.toList = t245.toList
                              · rw [if_pos c61] at H
                                have c61b0 : (t262.toList == t245.toList) = true := beq_iff_eq.mpr c61
                                have c61b1 : (t262.toList != t245.toList) = false := bne_eq_false_iff_eq.mpr c61
                                clear c61
                                simp only [Option.some.injEq, Prod.mk.injEq] at H
                                obtain ⟨rfl, rfl⟩ := H
                                obtain ⟨Ao62, co62, eo62⟩ := Kd.R_slice HO_10.out
                                subst eo62
                                have q63 : ((rd l0 (ji23)) : Int) ≤ ((x10_2.length : Int) : Int) := of_decide_eq_true (by first | (with_reducible assumption) | assumption)
                                obtain ⟨i063, hi063, _, hsz63, _⟩ := info_parts info5
                                have hcut63 := cut_to (P := Tryd.prog) 22 5 .i64 Tryd.underlying22 hi063 Ao62 x10_2.length co62 (rd l0 (ji23)) (of_decide_eq_true (by first | (with_reducible assumption) | assumption)) q63 (Kd.R_reads' HO_10.out).2.1
                                have hr63 := Kd.R_take (m := ((rd l0 (ji23)) : Int).toNat) HO_10.out (by omega)
                                have hy63 : y257.length = ((rd l0 (ji23)) : Int).toNat := (by rw [Ny257.out, List.length_take]; omega)
                                rw [← Ny257.out] at hr63
                                rw [← hy63] at hr63 hcut63
                                clear hy63 hi063 hsz63 HO_10
                                have HO259 := Aside0.mk hr63
                                clear hr63
                                replace q63 := eq_true q63
                                go_wp2_with (first | ((with_reducible refine gate_callee (f := 73) rfl ?_); refine goesL_ (some 107) rfl rfl Tryd.func73 (by kernel_rfl) rfl #[.slice Ao62 y257.length co62] rfl (by (try simp only [List.map_toArray, List.map_cons, List.map_nil]); first | done | rfl | (simp only [List.length_drop, List.length_take]; rfl)) ?_; (with_reducible refine (slices_Reverse_byte_byte.calls k2 (fun k_ => some k_ = (.slice Ao62 y257.length co62 : Value).ownBlock) (.slice Ao62 y257.length co62) y257 t260 w _ ?side1 ?side2 A59.out).mono ?_); (case side1 => repeat (first | (with_reducible first | exact HB.out | apply below_alloc | apply pw_below_drewN | apply below_drew1) | exact HB.out)); (case side2 => exact Kd.R_tight rfl HO259.out); rintro e w64 ⟨rfl, hy0, hb, hkp⟩; refine ⟨_, rfl, ?_⟩; have n0_ := Aside0.mk (Kd.R_reok rfl hy0 (fun k_ e_ => HO259.out.1 k_ e_)); have n1_ := Aside0.mk (hb); clear HO259; clear HB; have HO259 := n0_; have HB := n1_; clear n0_ n1_; (try clear hb); (try clear hkp); (try clear hy0); have hcv65 := own_string (P := Tryd.prog) Tryd.underlying22 Tryd.underlying5 Tryd.underlying9 (Kd.own_of_R HO259.out)) | ((with_reducible refine gate_dst (N := 16) rfl ?_); (try (refine gate_guard (by rfl) ?_; dsimp only)); refine box_event ?hg (N := 16) ?hd (cs := #[.slice none 0 0, .string (⟨#[]⟩ : ByteArray)]) (t := 38) ?hr ?_; (case hd => rfl); (case hg => rfl); (case hr => first | (go_simp; done) | (go_simp; rfl)); intro gb261 hg w66 hbox hb; have n0_ := Aside0.mk (Kd.R_below (by (with_reducible repeat (first | apply Kd.R_alloc | apply Kd.R_drewN | apply Kd.R_drew)); exact HO259.out) hb); have n1_ := Aside0.mk (below_step (by repeat (first | (with_reducible first | exact HB.out | apply below_alloc | apply pw_below_drewN | apply below_drew1) | exact HB.out)) hb); have n2_ := Aside0.mk (hbox); have n3_ := Aside0.mk ((by rw [hg]; exact (below_size (by repeat (first | (with_reducible first | exact HB.out | apply below_alloc | apply pw_below_drewN | apply below_drew1) | exact HB.out))) : w.heap.size ≤ gb261)); have n4_ := Aside0.mk ((by rw [hg]; exact (below_size (by repeat (first | (with_reducible first | exact HB.out | apply below_alloc | apply pw_below_drewN | apply below_drew1) | exact HB.out))) : w.heap.size ≤ gb261)); clear HO259; clear HB; have HO259 := n0_; have HB := n1_; have BK261 := n2_; have GW261 := n3_; have GE261 := n4_; clear n0_ n1_ n2_ n3_ n4_; clear hb hbox hg; have hcz67_0 : w66.cell? ⟨gb261, 0, none⟩ = some (.slice none 0 0) := (blk_cell BK261.out 0).trans rfl; have hcz67_1 : w66.cell? ⟨gb261, 1, none⟩ = some (.string (⟨#[]⟩ : ByteArray)) := (blk_cell BK261.out 1).trans rfl; have hfz67_0 := blk_frozen BK261.out 0; have hfz67_1 := blk_frozen BK261.out 1) | ((with_reducible refine gate_callee (f := 70) rfl ?_); refine goesL_ (some 115) rfl rfl Tryd.func70 (by kernel_rfl) rfl #[.agg #[.slice (some ad244) l0.length c0, .string (strOfNums t260)], .int .i64 (t245.size : Int)] rfl (by (try simp only [List.map_toArray, List.map_cons, List.map_nil]); first | done | rfl | (simp only [List.length_drop, List.length_take]; rfl)) ?_; (with_reducible refine (impl_Scrambler_keyBits.calls k2 _ _ l0 (strOfNums t260) (t245.size : Int) t262 _ ?side1 ?side2 A60.out).mono ?_); (case side1 => exact Kd.C_below HR0.out (by repeat (first | (with_reducible first | exact HB.out | apply below_alloc | apply pw_below_drewN | apply below_drew1 | refine below_set ?_ GE261.out) | exact HB.out))); (case side2 => exact HC0.out); rintro e w68 ⟨rfl, hb⟩; refine ⟨_, rfl, ?_⟩; have n0_ := Aside0.mk (Kd.R_below (by (with_reducible repeat (first | apply Kd.R_alloc | apply Kd.R_drewN | apply Kd.R_drew)); exact (Kd.R_mono (Kd.R_far (p := ⟨gb261, 1, none⟩) (Kd.R_far (p := ⟨gb261, 0, none⟩) (Kd.R_types HO259.out BK261.out (by decide)) (fun _ hk => hk.2) (.slice (some ad244) l0.length c0)) (fun _ hk => hk.2) (.string (strOfNums t260))) (fun _ h_ => h_.1))) hb); have n1_ := Aside0.mk (blk_below (g := gb261) (o := .cells #[.slice (some ad244) l0.length c0, .string (strOfNums t260)] 38 (0, 0)) (by (with_reducible repeat (first | refine blk_drewN ?_ _ | refine blk_drew ?_ | refine blk_alloc ?_ _)); refine blk_put (cs := #[.slice (some ad244) l0.length c0, .string (⟨#[]⟩ : ByteArray)]) ?_ 1 _ rfl; (with_reducible repeat (first | refine blk_drewN ?_ _ | refine blk_drew ?_ | refine blk_alloc ?_ _)); refine blk_put (cs := #[.slice none 0 0, .string (⟨#[]⟩ : ByteArray)]) ?_ 0 _ rfl; (with_reducible repeat (first | refine blk_drewN ?_ _ | refine blk_drew ?_ | refine blk_alloc ?_ _)); exact BK261.out) hb); have n2_ := Aside0.mk (below_step (by repeat (first | (with_reducible first | exact HB.out | apply below_alloc | apply pw_below_drewN | apply below_drew1 | refine below_set ?_ GE261.out) | exact HB.out)) hb); clear HO259; clear BK261; clear HB; have HO259 := n0_; have BK261 := n1_; have HB := n2_; clear n0_ n1_ n2_; (try clear hb); (try clear hb2); (try clear hk); (try clear hi); have hcz69_0 : w68.cell? ⟨gb261, 0, none⟩ = some (.slice (some ad244) l0.length c0) := (blk_cell BK261.out 0).trans rfl; have hcz69_1 : w68.cell? ⟨gb261, 1, none⟩ = some (.string (strOfNums t260)) := (blk_cell BK261.out 1).trans rfl; have hfz69_0 := blk_frozen BK261.out 0; have hfz69_1 := blk_frozen BK261.out 1))
                                go_ret2
                                exact ⟨by first | rfl | (simp [errW_none, errW_some] <;> rfl) | (simp only [← hji23]; first | rfl | (simp [errW_none, errW_some] <;> rfl)) | (simp [*, errW_none, errW_some] <;> rfl), by repeat (first | (with_reducible first | exact HB.out | apply below_alloc | apply pw_below_drewN | apply below_drew1 | refine below_set ?_ GE261.out) | exact HB.out)⟩
                              · rw [if_neg c61] at H
                                have c61b0 : (t262.toList == t245.toList) = false := beq_eq_false_iff_ne.mpr c61
                                have c61b1 : (t262.toList != t245.toList) = true := bne_iff_ne.mpr c61
                                simp only [Option.some.injEq, Prod.mk.injEq] at H
                                obtain ⟨rfl, rfl⟩ := H
                                obtain ⟨Ao70, co70, eo70⟩ := Kd.R_slice HO_10.out
                                subst eo70
                                have q71 : ((rd l0 (ji23)) : Int) ≤ ((x10_2.length : Int) : Int) := of_decide_eq_true (by first | (with_reducible assumption) | assumption)
                                obtain ⟨i071, hi071, _, hsz71, _⟩ := info_parts info5
                                have hcut71 := cut_to (P := Tryd.prog) 22 5 .i64 Tryd.underlying22 hi071 Ao70 x10_2.length co70 (rd l0 (ji23)) (of_decide_eq_true (by first | (with_reducible assumption) | assumption)) q71 (Kd.R_reads' HO_10.out).2.1
                                have hr71 := Kd.R_take (m := ((rd l0 (ji23)) : Int).toNat) HO_10.out (by omega)
                                have hy71 : y257.length = ((rd l0 (ji23)) : Int).toNat := (by rw [Ny257.out, List.length_take]; omega)
                                rw [← Ny257.out] at hr71
                                rw [← hy71] at hr71 hcut71
                                clear hy71 hi071 hsz71 HO_10
                                have HO259 := Aside0.mk hr71
                                clear hr71
                                replace q71 := eq_true q71
                                go_wp2_with (first | ((with_reducible refine gate_callee (f := 73) rfl ?_); refine goesL_ (some 107) rfl rfl Tryd.func73 (by kernel_rfl) rfl #[.slice Ao70 y257.length co70] rfl (by (try simp only [List.map_toArray, List.map_cons, List.map_nil]); first | done | rfl | (simp only [List.length_drop, List.length_take]; rfl)) ?_; (with_reducible refine (slices_Reverse_byte_byte.calls k2 (fun k_ => some k_ = (.slice Ao70 y257.length co70 : Value).ownBlock) (.slice Ao70 y257.length co70) y257 t260 w _ ?side1 ?side2 A59.out).mono ?_); (case side1 => repeat (first | (with_reducible first | exact HB.out | apply below_alloc | apply pw_below_drewN | apply below_drew1) | exact HB.out)); (case side2 => exact Kd.R_tight rfl HO259.out); rintro e w72 ⟨rfl, hy0, hb, hkp⟩; refine ⟨_, rfl, ?_⟩; have n0_ := Aside0.mk (Kd.R_reok rfl hy0 (fun k_ e_ => HO259.out.1 k_ e_)); have n1_ := Aside0.mk (hb); clear HO259; clear HB; have HO259 := n0_; have HB := n1_; clear n0_ n1_; (try clear hb); (try clear hkp); (try clear hy0); have hcv73 := own_string (P := Tryd.prog) Tryd.underlying22 Tryd.underlying5 Tryd.underlying9 (Kd.own_of_R HO259.out)) | ((with_reducible refine gate_dst (N := 16) rfl ?_); (try (refine gate_guard (by rfl) ?_; dsimp only)); refine box_event ?hg (N := 16) ?hd (cs := #[.slice none 0 0, .string (⟨#[]⟩ : ByteArray)]) (t := 38) ?hr ?_; (case hd => rfl); (case hg => rfl); (case hr => first | (go_simp; done) | (go_simp; rfl)); intro gb261 hg w74 hbox hb; have n0_ := Aside0.mk (Kd.R_below (by (with_reducible repeat (first | apply Kd.R_alloc | apply Kd.R_drewN | apply Kd.R_drew)); exact HO259.out) hb); have n1_ := Aside0.mk (below_step (by repeat (first | (with_reducible first | exact HB.out | apply below_alloc | apply pw_below_drewN | apply below_drew1) | exact HB.out)) hb); have n2_ := Aside0.mk (hbox); have n3_ := Aside0.mk ((by rw [hg]; exact (below_size (by repeat (first | (with_reducible first | exact HB.out | apply below_alloc | apply pw_below_drewN | apply below_drew1) | exact HB.out))) : w.heap.size ≤ gb261)); have n4_ := Aside0.mk ((by rw [hg]; exact (below_size (by repeat (first | (with_reducible first | exact HB.out | apply below_alloc | apply pw_below_drewN | apply below_drew1) | exact HB.out))) : w.heap.size ≤ gb261)); clear HO259; clear HB; have HO259 := n0_; have HB := n1_; have BK261 := n2_; have GW261 := n3_; have GE261 := n4_; clear n0_ n1_ n2_ n3_ n4_; clear hb hbox hg; have hcz75_0 : w74.cell? ⟨gb261, 0, none⟩ = some (.slice none 0 0) := (blk_cell BK261.out 0).trans rfl; have hcz75_1 : w74.cell? ⟨gb261, 1, none⟩ = some (.string (⟨#[]⟩ : ByteArray)) := (blk_cell BK261.out 1).trans rfl; have hfz75_0 := blk_frozen BK261.out 0; have hfz75_1 := blk_frozen BK261.out 1) | ((with_reducible refine gate_callee (f := 70) rfl ?_); refine goesL_ (some 115) rfl rfl Tryd.func70 (by kernel_rfl) rfl #[.agg #[.slice (some ad244) l0.length c0, .string (strOfNums t260)], .int .i64 (t245.size : Int)] rfl (by (try simp only [List.map_toArray, List.map_cons, List.map_nil]); first | done | rfl | (simp only [List.length_drop, List.length_take]; rfl)) ?_; (with_reducible refine (impl_Scrambler_keyBits.calls k2 _ _ l0 (strOfNums t260) (t245.size : Int) t262 _ ?side1 ?side2 A60.out).mono ?_); (case side1 => exact Kd.C_below HR0.out (by repeat (first | (with_reducible first | exact HB.out | apply below_alloc | apply pw_below_drewN | apply below_drew1 | refine below_set ?_ GE261.out) | exact HB.out))); (case side2 => exact HC0.out); rintro e w76 ⟨rfl, hb⟩; refine ⟨_, rfl, ?_⟩; have n0_ := Aside0.mk (Kd.R_below (by (with_reducible repeat (first | apply Kd.R_alloc | apply Kd.R_drewN | apply Kd.R_drew)); exact (Kd.R_mono (Kd.R_far (p := ⟨gb261, 1, none⟩) (Kd.R_far (p := ⟨gb261, 0, none⟩) (Kd.R_types HO259.out BK261.out (by decide)) (fun _ hk => hk.2) (.slice (some ad244) l0.length c0)) (fun _ hk => hk.2) (.string (strOfNums t260))) (fun _ h_ => h_.1))) hb); have n1_ := Aside0.mk (blk_below (g := gb261) (o := .cells #[.slice (some ad244) l0.length c0, .string (strOfNums t260)] 38 (0, 0)) (by (with_reducible repeat (first | refine blk_drewN ?_ _ | refine blk_drew ?_ | refine blk_alloc ?_ _)); refine blk_put (cs := #[.slice (some ad244) l0.length c0, .string (⟨#[]⟩ : ByteArray)]) ?_ 1 _ rfl; (with_reducible repeat (first | refine blk_drewN ?_ _ | refine blk_drew ?_ | refine blk_alloc ?_ _)); refine blk_put (cs := #[.slice none 0 0, .string (⟨#[]⟩ : ByteArray)]) ?_ 0 _ rfl; (with_reducible repeat (first | refine blk_drewN ?_ _ | refine blk_drew ?_ | refine blk_alloc ?_ _)); exact BK261.out) hb); have n2_ := Aside0.mk (below_step (by repeat (first | (with_reducible first | exact HB.out | apply below_alloc | apply pw_below_drewN | apply below_drew1 | refine below_set ?_ GE261.out) | exact HB.out)) hb); clear HO259; clear BK261; clear HB; have HO259 := n0_; have BK261 := n1_; have HB := n2_; clear n0_ n1_ n2_; (try clear hb); (try clear hb2); (try clear hk); (try clear hi)))
                                go_ret2
                                exact ⟨by first | rfl | (simp [errW_none, errW_some] <;> rfl) | (simp only [← hji23]; first | rfl | (simp [errW_none, errW_some] <;> rfl)) | (simp [*, errW_none, errW_some] <;> rfl), by repeat (first | (with_reducible first | exact HB.out | apply below_alloc | apply pw_below_drewN | apply below_drew1 | refine below_set ?_ GE261.out) | exact HB.out)⟩
                            · rw [if_neg c58] at H
                              exact absurd H (by simp)
                          · rw [if_neg c57] at H
                            exact absurd H (by simp)
                  · rw [if_neg c31] at H
                    exact absurd H (by simp)
                · rw [if_neg c30] at H
                  exact absurd H (by simp)
              · rw [if_neg c28] at H
                exact absurd H (by simp)
            · rw [if_neg c27] at H
              exact absurd H (by simp)
          · rw [if_neg c25] at H
            exact absurd H (by simp)
        · rw [if_neg c24] at H
          exact absurd H (by simp)

end Go.Proofs.YtondkjcmibnbpaaDoor.PFnKeys
