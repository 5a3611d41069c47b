/- For every input: FnExactSizeOf answers true: the program's SizeOf returns what the reference's returns. No condition. -/
import Derived.Test.YtkhcnmjgojkkoaaLibT
import Derived.Test.YtkhcnmjgojkkoaaAx22
set_option linter.unusedVariables false
set_option linter.unusedSimpArgs false
namespace Go.Proofs.Ytkhcnmjgojkkoaa.Pure
open Go.RowKit Go.Proofs.Ytkhcnmjgojkkoaa.A Go.Proofs.YtkhcnmjgojkkoaaW.PrintWords Go.Proofs.YtkhcnmjgojkkoaaW.PrintLast Go.Proofs.Ytkhcnmjgojkkoaa.LibU Go.Proofs.Ytkhcnmjgojkkoaa.LibT
theorem FnExactSizeOf : laws_FnExactSizeOf.Pure := by
  intro m l hm hl hw
  obtain ⟨K, r, hz, hr⟩ := szTable m l 1048576 (by omega) (by omega) hl hw
  have hb := bulk_nonneg l
  rcases hr with rfl | ⟨hr, hr2⟩
  · refine ⟨K, ?_⟩
    unfold laws_FnExactSizeOf.f
    exact bs (hz _ (Nat.le_refl _)) rfl
  · have hlen : (l.map conv).length = l.length := by simp
    have ht := toTable m (l := l) (by omega)
    obtain ⟨q, h1, h2⟩ := size_both m (l.map conv) (by omega)
    have he := eqTable m (l := l.map conv) (by omega)
    refine ⟨K + l.length + 12, ?_⟩
    unfold laws_FnExactSizeOf.f
    repeat (first | refine bs (hz _ (by omega)) ?_ | refine bs (ht _ (by omega)) ?_ | refine bs (h1 _ (by omega)) ?_ | refine bs (h2 _ (by omega)) ?_ | refine bs (he _ (by omega)) ?_ | refine ifp rfl ?_ | refine ifn (by first | exact Bool.false_ne_true | omega | simp) ?_)
    rfl
end Go.Proofs.Ytkhcnmjgojkkoaa.Pure
