/- Huffman's code: the reference's tables are the program's. No condition. -/
import Derived.Test.YthflimnpiglgbaaDoorLibU
import Derived.Test.YthflimnpiglgbaaDoorLibK
import Derived.Test.YthflimnpiglgbaaDoorAx1
import Derived.Test.YthflimnpiglgbaaDoorAx5
set_option linter.unusedVariables false
set_option linter.unusedSimpArgs false
namespace Go.Proofs.YthflimnpiglgbaaDoor.LibHc
open Go Go.RowKit Go.Proofs.YthflimnpiglgbaaDoor.A Go.Proofs.YthflimnpiglgbaaDoorW.PrintWords Go.Proofs.YthflimnpiglgbaaDoorW.PrintLast Go.Proofs.YthflimnpiglgbaaDoorW.PrintMore Go.Proofs.YthflimnpiglgbaaDoor.LibU Go.Proofs.YthflimnpiglgbaaDoor.LibLens Go.Proofs.YthflimnpiglgbaaDoor.LibHuff Go.Proofs.YthflimnpiglgbaaDoor.LibHuffB Go.Proofs.YthflimnpiglgbaaDoor.LibWrap
theorem l1In (a b c : Int) : spec_l1In.f a b c = some (decide (b ≤ a ∧ a ≤ c)) := by
  unfold spec_l1In.f
  by_cases h : a ≥ b
  · rw [if_pos h]; congr 1; simp only [decide_eq_decide]; omega
  · rw [if_neg h]; congr 1; symm; simp only [decide_eq_false_iff_not]; omega
theorem lens : spec_l3Lens.f = some lensI := rfl
set_option maxRecDepth 100000 in
theorem codes0 : spec_l3Codes.f 8100 = some bitsI := by decide +kernel
theorem codes (k : Nat) (hk : 8100 ≤ k) : spec_l3Codes.f k = some bitsI := at_rounds spec_l3Codes.mono hk codes0
end Go.Proofs.YthflimnpiglgbaaDoor.LibHc
