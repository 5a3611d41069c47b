/- Frames: is one right, the law's own words on them. Condition: each theorem's own bounds. -/
import Derived.Test.YtkhcnmjgojkkoaaLibUs
import Derived.Test.YtkhcnmjgojkkoaaAx4
import Derived.Test.YtkhcnmjgojkkoaaAx8
import Derived.Test.YtkhcnmjgojkkoaaAx53
import Derived.Test.YtkhcnmjgojkkoaaAx55
import Derived.Test.YtkhcnmjgojkkoaaAx58
import Derived.Test.YtkhcnmjgojkkoaaAx61
set_option linter.unusedVariables false
set_option linter.unusedSimpArgs false
namespace Go.Proofs.Ytkhcnmjgojkkoaa.LibF
open Go.RowKit Go.Proofs.Ytkhcnmjgojkkoaa.A Go.Proofs.YtkhcnmjgojkkoaaW.PrintWords Go.Proofs.YtkhcnmjgojkkoaaW.PrintLast Go.Proofs.Ytkhcnmjgojkkoaa.LibU
def okF (a b c : Int) (l : List Int) : Prop := (0 ≤ a ∧ a ≤ 255) ∧ (0 ≤ b ∧ b ≤ 255) ∧ (0 ≤ c ∧ c ≤ 2147483647) ∧ l.length ≤ 1000
instance (a b c : Int) (l : List Int) : Decidable (okF a b c l) := by unfold okF; infer_instance
theorem impl_frameOk (a b c : Int) (l : List Int) : impl_FrameOk.f a b c l = some (decide (okF a b c l)) := by
  unfold impl_FrameOk.f
  simp only [inRange, Option.bind_some, decide_eq_true_eq]
  unfold okF
  by_cases h1 : 0 ≤ a ∧ a ≤ 255 <;> by_cases h2 : 0 ≤ b ∧ b ≤ 255 <;> by_cases h3 : 0 ≤ c ∧ c ≤ 2147483647 <;> simp [h1, h2, h3] <;> omega
theorem spec_frameOk (a b c : Int) (l : List Int) : spec_FrameOk.f a b c l = some (decide (okF a b c l)) := by
  unfold spec_FrameOk.f
  simp only [l1In, Option.bind_some, decide_eq_true_eq]
  unfold okF
  by_cases h1 : 0 ≤ a ∧ a ≤ 255 <;> by_cases h2 : 0 ≤ b ∧ b ≤ 255 <;> by_cases h3 : 0 ≤ c ∧ c ≤ 2147483647 <;> simp [h1, h2, h3] <;> omega
theorem frameOk (a b c : Int) (l : List Int) : ∃ r, spec_FrameOk.f a b c l = some r ∧ impl_FrameOk.f a b c l = some r := ⟨_, spec_frameOk a b c l, impl_frameOk a b c l⟩
theorem szByteS (l : List Int) (a : Int) (h0 : 0 ≤ a) (h1 : a ≤ 1048576) (hl : l.length ≤ 9223372036854775807) : laws_szByteS.f l a = some (if (l.length : Int) ≤ a then a - l.length else -1) := by
  unfold laws_szByteS.f
  rw [w64 (by omega) (by omega)]
  by_cases h : (l.length : Int) ≤ a
  · rw [if_neg (by omega), if_pos h]
  · rw [if_pos (by omega), if_neg h]
theorem szFrame_yes (a b c : Int) (l : List Int) (h : (l.length : Int) ≤ 1048576) : laws_szFrame.f a b c l 1048576 = some (1048576 - (l.length : Int)) := by
  unfold laws_szFrame.f
  rw [szByteS l 1048576 (by omega) (by omega) (by omega), if_pos h]
  simp only [Option.bind_some]
  rw [if_neg (by omega)]
theorem szFrame_no (a b c : Int) (l : List Int) (h : ¬ (l.length : Int) ≤ 1048576) (hl : l.length ≤ 9223372036854775807) : laws_szFrame.f a b c l 1048576 = some (-1) := by
  unfold laws_szFrame.f
  rw [szByteS l 1048576 (by omega) (by omega) hl, if_neg h]
  rfl
theorem toFrame (a b c : Int) {l : List Int} {k : Nat} (h : laws_toByteS.f k l = some l) : laws_toFrame.f k a b c l = some (a, b, c, l) := by
  unfold laws_toFrame.f
  rw [h]
  rfl
theorem eqFrame (a b c : Int) {l : List Int} {k : Nat} (h : laws_eqByteS.f k l l = some true) : laws_eqFrame.f k a b c l a b c l = some true := by
  unfold laws_eqFrame.f
  rw [if_pos rfl, if_pos rfl, if_pos rfl, h]
  rfl
end Go.Proofs.Ytkhcnmjgojkkoaa.LibF
