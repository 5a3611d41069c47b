/- For every input: FnExactPutPrefix answers true: the program's PutPrefix returns what the reference's returns, in memory of its own. No condition. -/
import Derived.Test.YtkhcnmjgojkkoaaLibPs
import Derived.Test.YtkhcnmjgojkkoaaLibE
import Derived.Test.YtkhcnmjgojkkoaaAx11
set_option linter.unusedVariables false
set_option linter.unusedSimpArgs false
namespace Go.Proofs.Ytkhcnmjgojkkoaa.Pure
open Go.RowKit Go.Proofs.Ytkhcnmjgojkkoaa.A Go.Proofs.YtkhcnmjgojkkoaaW.PrintWords Go.Proofs.YtkhcnmjgojkkoaaW.PrintLast Go.Proofs.Ytkhcnmjgojkkoaa.LibU Go.Proofs.Ytkhcnmjgojkkoaa.LibP Go.Proofs.Ytkhcnmjgojkkoaa.LibE
theorem FnExactPutPrefix : laws_FnExactPutPrefix.Pure := by
  intro l b f n _ hl2 hw hb hf hn
  by_cases h : (l.length : Int) > 1048576
  · exact ⟨0, by unfold laws_FnExactPutPrefix.f; rw [if_pos h]⟩
  have hg := putPrefix_length l b f n
  obtain ⟨K1, h1⟩ := toByteS (l := l) (by omega)
  have h2 := spec_PutPrefix (l := l) (b := b) (first := f) (n := n) (by omega)
  have h3 := impl_PutPrefix (l := l) (b := b) (first := f) (n := n) (by omega)
  obtain ⟨K4, h4⟩ := eqByteS (l := l) (by omega)
  obtain ⟨K5, h5⟩ := eqByteS (l := putPrefix l b f n) (by omega)
  obtain ⟨K6, y6, h6, h6'⟩ := markHeld (x := l) (by omega)
  obtain ⟨K7, y7, h7, h7'⟩ := markHeld (x := putPrefix l b f n) (by omega)
  refine ⟨K1 + K4 + K5 + K6 + K7 + 12 + 1, ?_⟩
  unfold laws_FnExactPutPrefix.f
  rw [if_neg h]
  repeat (first | refine bs (h1 _ (by omega)) ?_ | refine bs (h2 _ (by omega)) ?_ | refine bs (h3 _ (by omega)) ?_ | refine bs (h4 _ (by omega)) ?_ | refine bs (h5 _ (by omega)) ?_ | refine bs (h6 _ (by omega)) ?_ | refine bs (h6' _ (by omega)) ?_ | refine bs (h7 _ (by omega)) ?_ | refine bs (h7' _ (by omega)) ?_ | refine ifp rfl ?_ | refine ifn (by first | exact Bool.false_ne_true | omega | simp) ?_ | rw [laws_FnExactPutPrefix.j0])
  rfl
end Go.Proofs.Ytkhcnmjgojkkoaa.Pure
