/- A frame's marks: those of its bytes. Condition: each theorem's own. -/
import Derived.Test.YtkhcnmjgojkkoaaLibU
import Derived.Test.YtkhcnmjgojkkoaaAx9
import Derived.Test.YtkhcnmjgojkkoaaAx56
set_option linter.unusedVariables false
set_option linter.unusedSimpArgs false
namespace Go.Proofs.Ytkhcnmjgojkkoaa.LibF
open Go.RowKit Go.Proofs.Ytkhcnmjgojkkoaa.A Go.Proofs.YtkhcnmjgojkkoaaW.PrintWords Go.Proofs.YtkhcnmjgojkkoaaW.PrintLast Go.Proofs.Ytkhcnmjgojkkoaa.LibU
theorem markFrame (a b c : Int) {l y : List Int} {m r : Int} {k : Nat} (h : laws_markByteS.f k l m = some (r, y)) : laws_markFrame.f k a b c l m = some (r, y) := by
  unfold laws_markFrame.f
  exact bs h rfl
end Go.Proofs.Ytkhcnmjgojkkoaa.LibF
