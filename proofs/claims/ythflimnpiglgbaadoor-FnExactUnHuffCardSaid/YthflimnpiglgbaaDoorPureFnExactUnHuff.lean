/- For every input: FnExactUnHuff answers true: the program's UnHuff returns what the reference's returns. No condition. -/
import Derived.Test.YthflimnpiglgbaaDoorLibUx
import Derived.Test.YthflimnpiglgbaaDoorLibE
import Derived.Test.YthflimnpiglgbaaDoorAx18
import Derived.Test.YthflimnpiglgbaaDoorAx23
set_option linter.unusedVariables false
set_option linter.unusedSimpArgs false
namespace Go.Proofs.YthflimnpiglgbaaDoor.Pure
open Go.RowKit Go.Proofs.YthflimnpiglgbaaDoor.A Go.Proofs.YthflimnpiglgbaaDoorW.PrintWords Go.Proofs.YthflimnpiglgbaaDoorW.PrintLast Go.Proofs.YthflimnpiglgbaaDoorW.PrintMore Go.Proofs.YthflimnpiglgbaaDoor.LibU Go.Proofs.YthflimnpiglgbaaDoor.LibE
theorem FnExactUnHuff : laws_FnExactUnHuff.Pure := by
  intro l _ hl hw
  by_cases h : (l.length : Int) > 1048576
  · exact ⟨0, by unfold laws_FnExactUnHuff.f; rw [if_pos h]⟩
  obtain ⟨K1, h1⟩ := toByteS (l := l) (by omega)
  obtain ⟨K2, r, js, rest, _, _, _, _, _, h2, h3⟩ := LibUx.both l (by omega) (fun x hx => wf8 (hw x hx))
  obtain ⟨K4, h4⟩ := eqByteS (l := l) (by omega)
  have h3' : ∀ k, K2 ≤ k → impl_UnHuff.f k l = some r := h3
  refine ⟨K1 + K2 + K4 + 1, ?_⟩
  unfold laws_FnExactUnHuff.f
  rw [if_neg h]
  have hbb : (r.2 != r.2) = false := by simp
  repeat (first | refine bs (h1 _ (by omega)) ?_ | refine bs (h2 _ (by omega)) ?_ | refine bs (h3' _ (by omega)) ?_ | refine bs (h4 _ (by omega)) ?_ | refine ifp rfl ?_ | refine ifn (by first | exact Bool.false_ne_true | simp) ?_ | rw [laws_FnExactUnHuff.j0] | rw [hbb])
  all_goals rfl
end Go.Proofs.YthflimnpiglgbaaDoor.Pure
