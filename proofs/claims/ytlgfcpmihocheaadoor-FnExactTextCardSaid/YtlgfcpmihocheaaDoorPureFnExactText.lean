/- For every input: FnExactText answers true: the program's Text returns what the reference's returns. No condition. -/
import Derived.Test.YtlgfcpmihocheaaDoorLibTx
import Derived.Test.YtlgfcpmihocheaaDoorAx3
import Derived.Test.YtlgfcpmihocheaaDoorAx4
set_option linter.unusedVariables false
set_option linter.unusedSimpArgs false
namespace Go.Proofs.YtlgfcpmihocheaaDoor.Pure
open Go.RowKit Go.Proofs.YtlgfcpmihocheaaDoor.A Go.Proofs.YtlgfcpmihocheaaDoorW.PrintWords Go.Proofs.YtlgfcpmihocheaaDoorW.PrintLast Go.Proofs.YtlgfcpmihocheaaDoor.LibU Go.Proofs.YtlgfcpmihocheaaDoor.LibTx
theorem FnExactText : laws_FnExactText.Pure := by
  intro n hn
  have hs : ∀ k, 11 ≤ k → spec_Text.f k n = some (text n) := by
    intro k hk
    unfold spec_Text.f text
    refine bs (l1In n 0 1000000000) ?_
    by_cases h : 0 ≤ n ∧ n ≤ 1000000000
    · rw [if_pos (by simpa using h), if_pos h]
      obtain ⟨u, rfl⟩ := Int.eq_ofNat_of_zero_le h.1
      refine bs (l1Text u (by omega) k ?_) (by simp)
      have := nDigits_le u 10 (by omega) (by omega)
      omega
    · rw [if_neg (by simpa using h), if_neg h]
  refine ⟨11, ?_⟩
  unfold laws_FnExactText.f
  refine bs (hs 11 (by omega)) (bs (impl_text n) ?_)
  rw [if_pos rfl]
end Go.Proofs.YtlgfcpmihocheaaDoor.Pure
