/- For every input: FnExactCodeLen answers true: the program's CodeLen returns what the reference's returns. No condition. -/
import Derived.Test.YthflimnpiglgbaaDoorLibHc
import Derived.Test.YthflimnpiglgbaaDoorAx1
import Derived.Test.YthflimnpiglgbaaDoorAx2
set_option linter.unusedVariables false
set_option linter.unusedSimpArgs false
namespace Go.Proofs.YthflimnpiglgbaaDoor.Pure
open Go.RowKit Go.Proofs.YthflimnpiglgbaaDoor.A Go.Proofs.YthflimnpiglgbaaDoorW.PrintWords Go.Proofs.YthflimnpiglgbaaDoorW.PrintLast Go.Proofs.YthflimnpiglgbaaDoorW.PrintMore Go.Proofs.YthflimnpiglgbaaDoor.LibU Go.Proofs.YthflimnpiglgbaaDoor.LibHuff Go.Proofs.YthflimnpiglgbaaDoor.LibWrap Go.Proofs.YthflimnpiglgbaaDoor.LibHc
theorem FnExactCodeLen : laws_FnExactCodeLen.Pure := by
  intro a h
  have hl := lensI_len
  have hs : spec_CodeLen.f a = some (codeLenF a) := by
    unfold spec_CodeLen.f codeLenF
    refine bs (l1In a 0 256) ?_
    by_cases h : 0 ≤ a ∧ a ≤ 256
    · rw [if_pos h, if_pos (by simpa using h)]
      refine bs lens ?_
      rw [if_pos h.1, if_pos (by omega)]
    · rw [if_neg h, if_neg (by simpa using h)]
  unfold laws_FnExactCodeLen.f
  refine bs hs ?_
  refine bs (show impl_CodeLen.f a = some (codeLenF a) from rfl) ?_
  rw [if_pos rfl]
end Go.Proofs.YthflimnpiglgbaaDoor.Pure
