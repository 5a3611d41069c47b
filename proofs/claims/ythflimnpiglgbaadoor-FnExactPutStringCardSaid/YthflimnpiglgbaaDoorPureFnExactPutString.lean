/- For every input: FnExactPutString answers true: the program's PutString returns what the reference's returns, in memory of its own. No condition. -/
import Derived.Test.YthflimnpiglgbaaDoorLibZ2
import Derived.Test.YthflimnpiglgbaaDoorAx33
import Derived.Test.YthflimnpiglgbaaDoorAx34
set_option linter.unusedVariables false
set_option linter.unusedSimpArgs false
namespace Go.Proofs.YthflimnpiglgbaaDoor.Pure
open Go.RowKit Go.Proofs.YthflimnpiglgbaaDoor.A Go.Proofs.YthflimnpiglgbaaDoorW.PrintWords Go.Proofs.YthflimnpiglgbaaDoorW.PrintLast Go.Proofs.YthflimnpiglgbaaDoorW.PrintMore Go.Proofs.YthflimnpiglgbaaDoor.LibU Go.Proofs.YthflimnpiglgbaaDoor.LibE
theorem FnExactPutString : laws_FnExactPutString.Pure := by
  intro l s _ hl2 hw hs
  by_cases h : (l.length : Int) > 1048576
  · exact ⟨0, by unfold laws_FnExactPutString.f; rw [if_pos h]⟩
  by_cases h' : (s.size : Int) > 1048576
  · exact ⟨0, by unfold laws_FnExactPutString.f; rw [if_neg h, if_pos h']⟩
  obtain ⟨K1, h1⟩ := toByteS (l := l) (by omega)
  obtain ⟨K2, r, h2, h3, hr, _⟩ := LibPt.ps l s (by omega) (fun x hx => wf8 (hw x hx)) (by omega)
  have h3' : ∀ k, K2 ≤ k → impl_PutString.f k l s = some r := fun k hk => LibPt.impl_ps (by omega) (h3 k hk)
  obtain ⟨K4, h4⟩ := eqByteS (l := l) (by omega)
  obtain ⟨K5, h5⟩ := eqByteS (l := r) (by omega)
  obtain ⟨K6, y6, h6, h6'⟩ := markHeld (x := l) (by omega)
  obtain ⟨K7, y7, h7, h7'⟩ := markHeld (x := r) (by omega)
  refine ⟨K1 + K2 + K4 + K5 + K6 + K7 + 12 + 1, ?_⟩
  unfold laws_FnExactPutString.f
  rw [if_neg h, if_neg h']
  repeat (first | (with_reducible refine bs (h1 _ (by omega)) ?_) | (with_reducible refine bs (h2 _ (by omega)) ?_) | (with_reducible refine bs (h3' _ (by omega)) ?_) | (with_reducible refine bs (h4 _ (by omega)) ?_) | (with_reducible refine bs (h5 _ (by omega)) ?_) | (with_reducible refine bs (h6 _ (by omega)) ?_) | (with_reducible refine bs (h6' _ (by omega)) ?_) | (with_reducible refine bs (h7 _ (by omega)) ?_) | (with_reducible refine bs (h7' _ (by omega)) ?_) | refine ifp rfl ?_ | refine ifn (by first | exact Bool.false_ne_true | omega | simp) ?_ | rw [laws_FnExactPutString.j0])
  rfl
end Go.Proofs.YthflimnpiglgbaaDoor.Pure
