/- For every input: FnExactFirstField answers true: the program's FirstField returns what the reference's returns. No condition. -/
import Derived.Test.YtfcgadokmbooaaaDoorLibFF
import Derived.Test.YtfcgadokmbooaaaDoorAx3
import Derived.Test.YtfcgadokmbooaaaDoorAx4
set_option linter.unusedVariables false
set_option linter.unusedSimpArgs false
namespace Go.Proofs.YtfcgadokmbooaaaDoor.Pure
open Go Go.RowKit Go.Proofs.YtfcgadokmbooaaaDoor.A Go.Proofs.YtfcgadokmbooaaaDoorW.PrintWords Go.Proofs.YtfcgadokmbooaaaDoorW.PrintLast Go.Proofs.YtfcgadokmbooaaaDoor.LibU Go.Proofs.YtfcgadokmbooaaaDoor.LibFF
theorem FnExactFirstField : laws_FnExactFirstField.Pure := by
  intro n hn
  obtain ⟨a, b, c, h1, h2⟩ := first_both n (wf64 hn)
  refine ⟨70, ?_⟩
  unfold laws_FnExactFirstField.f
  refine bs h1 (bs (h2 70 (by omega)) ?_)
  have he : laws_eqField.f a b a b = some true := by
    unfold laws_eqField.f
    rw [if_pos rfl, if_pos rfl]
  refine bs he ?_
  rw [if_pos rfl, if_neg (by simp)]
end Go.Proofs.YtfcgadokmbooaaaDoor.Pure
