/- The reference's test of a range. No condition. -/
import Derived.Test.YtlgfcpmihocheaaLibU
import Derived.Test.YtlgfcpmihocheaaAx9
set_option linter.unusedVariables false
set_option linter.unusedSimpArgs false
namespace Go.Proofs.Ytlgfcpmihocheaa.LibU
open Go.RowKit Go.Proofs.Ytlgfcpmihocheaa.A Go.Proofs.YtlgfcpmihocheaaW.PrintWords Go.Proofs.YtlgfcpmihocheaaW.PrintLast Go.Proofs.YtlgfcpmihocheaaW.PrintMore
theorem l1In (a b c : Int) : spec_l1In.f a b c = some (decide (b ≤ a ∧ a ≤ c)) := by
  unfold spec_l1In.f
  by_cases h : a ≥ b
  · rw [if_pos h]; congr 1; simp only [decide_eq_decide]; omega
  · rw [if_neg h]; congr 1; symm; simp only [decide_eq_false_iff_not]; omega
end Go.Proofs.Ytlgfcpmihocheaa.LibU
