/-  Words of my own that every text of this seat uses: rounds that are enough, whole numbers that do not wrap. No conditions. -/
import Derived.Test.YtkpobdcnggdjaaaWWords
import Derived.Test.YtkpobdcnggdjaaaWLast
import Derived.Test.YtkpobdcnggdjaaaWMore
namespace Go.Proofs.Ytkpobdcnggdjaaa.Mine
open Go.RowKit Go.Proofs.YtkpobdcnggdjaaaW.PrintWords Go.Proofs.YtkpobdcnggdjaaaW.PrintLast Go.Proofs.YtkpobdcnggdjaaaW.PrintMore
set_option linter.unusedVariables false
set_option linter.unusedSimpArgs false

theorem w64 {n : Int} (h0 : -9223372036854775808 ≤ n) (h1 : n ≤ 9223372036854775807) : wrap64 n = n := by unfold wrap64; omega
theorem mb {a b A B : Int} (h0 : 0 ≤ a) (h1 : a ≤ A) (h2 : 0 ≤ b) (h3 : b ≤ B) : 0 ≤ a * b ∧ a * b ≤ A * B :=
  ⟨Int.mul_nonneg h0 h2, Int.mul_le_mul h1 h3 h2 (Int.le_trans h0 h1)⟩
theorem i64_lo {a : Int} (h : (Lit.int .i64 a).wf = true) : -9223372036854775808 ≤ a := by
  simp only [Lit.wf, IntKind.min, IntKind.max, IntKind.signed, IntKind.bits, Bool.and_eq_true, decide_eq_true_eq, if_true] at h
  omega
theorem i64_hi {a : Int} (h : (Lit.int .i64 a).wf = true) : a ≤ 9223372036854775807 := by
  simp only [Lit.wf, IntKind.min, IntKind.max, IntKind.signed, IntKind.bits, Bool.and_eq_true, decide_eq_true_eq, if_true] at h
  omega

theorem Ev_succ {α : Type} {g : Nat → Option α} {r : α} (h : Ev (fun k => g (k + 1)) r) : Ev g r := Ev.step (fun _ => rfl) h
theorem Ev_eq {α : Type} {g : Nat → Option α} {r : α} (h : ∀ k, g k = some r) : Ev g r := ⟨0, fun k _ => h k⟩
theorem Ev_unique {α : Type} {g : Nat → Option α} {r s : α} (h : Ev g r) (h' : Ev g s) : r = s := by
  obtain ⟨K, h⟩ := h; obtain ⟨K', h'⟩ := h'
  have := h (max K K') (Nat.le_max_left _ _); have := h' (max K K') (Nat.le_max_right _ _); simp_all

end Go.Proofs.Ytkpobdcnggdjaaa.Mine
