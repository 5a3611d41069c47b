/- For every input: FnExactHuff answers true: the program's Huff returns what the reference's returns. No condition. -/
import Derived.Test.YthflimnpiglgbaaDoorLibSh
import Derived.Test.YthflimnpiglgbaaDoorLibE
import Derived.Test.YthflimnpiglgbaaDoorAx14
set_option linter.unusedVariables false
set_option linter.unusedSimpArgs false
namespace Go.Proofs.YthflimnpiglgbaaDoor.Pure
open Go.RowKit Go.Proofs.YthflimnpiglgbaaDoor.A Go.Proofs.YthflimnpiglgbaaDoorW.PrintWords Go.Proofs.YthflimnpiglgbaaDoorW.PrintLast Go.Proofs.YthflimnpiglgbaaDoorW.PrintMore Go.Proofs.YthflimnpiglgbaaDoor.LibU Go.Proofs.YthflimnpiglgbaaDoor.LibE
theorem FnExactHuff : laws_FnExactHuff.Pure := by
  intro s hs
  by_cases h : (s.size : Int) > 1048576
  · exact ⟨0, by unfold laws_FnExactHuff.f; rw [if_pos h]⟩
  obtain ⟨K1, r, _, _, hr, h1, h2, _⟩ := LibSh.spec_huff s (by omega)
  obtain ⟨K2, h3⟩ := eqByteS (l := r) (by omega)
  obtain ⟨K3, y, h4, h5⟩ := markHeld (x := r) (by omega)
  refine ⟨K1 + K2 + K3 + 1, ?_⟩
  unfold laws_FnExactHuff.f
  rw [if_neg h]
  repeat (first | refine bs (h1 _ (by omega)) ?_ | refine bs (h2 _ (by omega)) ?_ | refine bs (h3 _ (by omega)) ?_ | refine bs (h4 _ (by omega)) ?_ | refine bs (h5 _ (by omega)) ?_ | refine ifp rfl ?_ | refine ifn (by first | exact Bool.false_ne_true | omega) ?_)
  all_goals rfl
end Go.Proofs.YthflimnpiglgbaaDoor.Pure
