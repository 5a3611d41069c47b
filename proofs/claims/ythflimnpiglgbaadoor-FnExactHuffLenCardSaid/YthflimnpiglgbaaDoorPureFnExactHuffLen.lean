/- For every input: FnExactHuffLen answers true: the program's HuffLen returns what the reference's returns. No condition. -/
import Derived.Test.YthflimnpiglgbaaDoorLibHl
import Derived.Test.YthflimnpiglgbaaDoorAx3
import Derived.Test.YthflimnpiglgbaaDoorAx4
set_option linter.unusedVariables false
set_option linter.unusedSimpArgs false
namespace Go.Proofs.YthflimnpiglgbaaDoor.Pure
open Go.RowKit Go.Proofs.YthflimnpiglgbaaDoor.A Go.Proofs.YthflimnpiglgbaaDoorW.PrintWords Go.Proofs.YthflimnpiglgbaaDoorW.PrintLast Go.Proofs.YthflimnpiglgbaaDoorW.PrintMore Go.Proofs.YthflimnpiglgbaaDoor.LibU Go.Proofs.YthflimnpiglgbaaDoor.LibHuff Go.Proofs.YthflimnpiglgbaaDoor.LibWrap Go.Proofs.YthflimnpiglgbaaDoor.LibHc Go.Proofs.YthflimnpiglgbaaDoor.LibHl
theorem FnExactHuffLen : laws_FnExactHuffLen.Pure := by
  intro s hs
  refine ⟨s.size + 1, ?_⟩
  unfold laws_FnExactHuffLen.f
  by_cases h : (s.size : Int) > 1048576
  · rw [if_pos h]
  · rw [if_neg h]
    refine bs (spec_hl hs _ (by omega)) ?_
    refine bs (show impl_HuffLen.f s = some (hlen s) from if_pos (by omega)) ?_
    rw [if_pos rfl]
end Go.Proofs.YthflimnpiglgbaaDoor.Pure
