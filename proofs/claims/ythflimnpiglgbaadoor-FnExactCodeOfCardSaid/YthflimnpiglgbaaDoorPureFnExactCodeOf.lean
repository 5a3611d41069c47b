/- For every input: FnExactCodeOf answers true: the program's CodeOf returns what the reference's returns. No condition. -/
import Derived.Test.YthflimnpiglgbaaDoorLibHc
import Derived.Test.YthflimnpiglgbaaDoorAx6
set_option linter.unusedVariables false
set_option linter.unusedSimpArgs false
namespace Go.Proofs.YthflimnpiglgbaaDoor.Pure
open Go.RowKit Go.Proofs.YthflimnpiglgbaaDoor.A Go.Proofs.YthflimnpiglgbaaDoorW.PrintWords Go.Proofs.YthflimnpiglgbaaDoorW.PrintLast Go.Proofs.YthflimnpiglgbaaDoorW.PrintMore Go.Proofs.YthflimnpiglgbaaDoor.LibU Go.Proofs.YthflimnpiglgbaaDoor.LibHuff Go.Proofs.YthflimnpiglgbaaDoor.LibWrap Go.Proofs.YthflimnpiglgbaaDoor.LibHc
theorem FnExactCodeOf : laws_FnExactCodeOf.Pure := by
  intro a h
  have hl := bitsI_len
  have hs : spec_CodeOf.f 8100 a = some (codeOfF a) := by
    unfold spec_CodeOf.f codeOfF
    refine bs (l1In a 0 256) ?_
    by_cases h : 0 ≤ a ∧ a ≤ 256
    · rw [if_pos h, if_pos (by simpa using h)]
      refine bs (codes 8100 (Nat.le_refl _)) ?_
      rw [if_pos h.1, if_pos (by omega)]
    · rw [if_neg h, if_neg (by simpa using h)]
  refine ⟨8100, ?_⟩
  unfold laws_FnExactCodeOf.f
  refine bs hs ?_
  refine bs (show impl_CodeOf.f a = some (codeOfF a) from rfl) ?_
  rw [if_pos rfl]
end Go.Proofs.YthflimnpiglgbaaDoor.Pure
