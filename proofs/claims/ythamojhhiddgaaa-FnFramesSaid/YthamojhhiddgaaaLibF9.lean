/- Frames: is one right. Condition: each theorem's own bounds. -/
import Derived.Test.YthamojhhiddgaaaLibU
import Derived.Test.YthamojhhiddgaaaAx8
set_option linter.unusedVariables false
set_option linter.unusedSimpArgs false
namespace Go.Proofs.Ythamojhhiddgaaa.LibF0
open Go.RowKit Go.Proofs.Ythamojhhiddgaaa.A Go.Proofs.YthamojhhiddgaaaW.PrintWords Go.Proofs.YthamojhhiddgaaaW.PrintLast Go.Proofs.Ythamojhhiddgaaa.LibU
def okF (a b c : Int) (l : List Int) : Prop := (0 ≤ a ∧ a ≤ 255) ∧ (0 ≤ b ∧ b ≤ 255) ∧ (0 ≤ c ∧ c ≤ 2147483647) ∧ l.length ≤ 1000
instance (a b c : Int) (l : List Int) : Decidable (okF a b c l) := by unfold okF; infer_instance
theorem impl_frameOk (a b c : Int) (l : List Int) : impl_FrameOk.f a b c l = some (decide (okF a b c l)) := by
  unfold impl_FrameOk.f
  simp only [inRange, Option.bind_some, decide_eq_true_eq]
  unfold okF
  by_cases h1 : 0 ≤ a ∧ a ≤ 255 <;> by_cases h2 : 0 ≤ b ∧ b ≤ 255 <;> by_cases h3 : 0 ≤ c ∧ c ≤ 2147483647 <;> simp [h1, h2, h3] <;> omega
end Go.Proofs.Ythamojhhiddgaaa.LibF0
