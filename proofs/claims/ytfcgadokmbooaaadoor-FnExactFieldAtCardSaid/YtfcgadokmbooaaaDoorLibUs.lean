/- The reference's test of a range. No condition. -/
import Derived.Test.YtfcgadokmbooaaaDoorLibU
import Derived.Test.YtfcgadokmbooaaaDoorAx1
set_option linter.unusedVariables false
set_option linter.unusedSimpArgs false
namespace Go.Proofs.YtfcgadokmbooaaaDoor.LibU
open Go.RowKit Go.Proofs.YtfcgadokmbooaaaDoor.A Go.Proofs.YtfcgadokmbooaaaDoorW.PrintWords Go.Proofs.YtfcgadokmbooaaaDoorW.PrintLast Go.Proofs.YtfcgadokmbooaaaDoorW.PrintMore
theorem l1In (a b c : Int) : spec_l1In.f a b c = some (decide (b ≤ a ∧ a ≤ c)) := by
  unfold spec_l1In.f
  by_cases h : a ≥ b
  · rw [if_pos h]; congr 1; simp only [decide_eq_decide]; omega
  · rw [if_neg h]; congr 1; symm; simp only [decide_eq_false_iff_not]; omega
end Go.Proofs.YtfcgadokmbooaaaDoor.LibU
