/- For every input: FnHuffman answers true: a drawn text comes back of its code, which has as many bytes as are told. No condition. -/
import Derived.Test.YthflimnpiglgbaaDoorLibSh
import Derived.Test.YthflimnpiglgbaaDoorLibDs
import Derived.Test.YthflimnpiglgbaaDoorAx3
import Derived.Test.YthflimnpiglgbaaDoorAx6
import Derived.Test.YthflimnpiglgbaaDoorAx18
import Derived.Test.YthflimnpiglgbaaDoorAx19
set_option linter.unusedVariables false
set_option linter.unusedSimpArgs false
namespace Go.Proofs.YthflimnpiglgbaaDoor.Pure
open Go.RowKit Go.Proofs.YthflimnpiglgbaaDoor.A Go.Proofs.YthflimnpiglgbaaDoorW.PrintWords Go.Proofs.YthflimnpiglgbaaDoorW.PrintLast Go.Proofs.YthflimnpiglgbaaDoorW.PrintMore Go.Proofs.YthflimnpiglgbaaDoor.LibU
theorem FnHuffman : laws_FnHuffman.Pure := by
  intro l _ hl hw
  by_cases hbig : (l.length : Int) > 1048576
  · refine ⟨0, ?_⟩
    unfold laws_FnHuffman.f
    refine bs (show laws_big.f l = some true from by unfold laws_big.f; rw [decide_eq_true hbig]) ?_
    rw [if_pos rfl]
  obtain ⟨K0, s, h0, hs⟩ := LibDs.drawHuff l (by omega)
  obtain ⟨K1, r, _, hr, _, _, h2, h3⟩ := LibSh.spec_huff s (by omega)
  refine ⟨K0 + K1, ?_⟩
  unfold laws_FnHuffman.f
  refine bs (show laws_big.f l = some false from by unfold laws_big.f; rw [decide_eq_false hbig]) ?_
  rw [if_neg (by decide)]
  refine bs (h0 _ (by omega)) ?_
  refine bs (h2 _ (by omega)) ?_
  refine bs (show impl_UnHuff.f (K0 + K1) r = some (s, true) from h3 _ (by omega)) ?_
  rw [if_pos rfl, if_pos rfl]
  refine bs (show impl_HuffLen.f s = some (LibHuff.hlen s) from if_pos (by omega)) ?_
  rw [← hr]
  simp
end Go.Proofs.YthflimnpiglgbaaDoor.Pure
