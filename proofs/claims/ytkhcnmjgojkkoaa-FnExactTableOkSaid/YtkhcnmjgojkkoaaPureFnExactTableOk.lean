/- For every input: FnExactTableOk answers true: the program's TableOk returns what the reference's returns. No condition. -/
import Derived.Test.YtkhcnmjgojkkoaaLibT
import Derived.Test.YtkhcnmjgojkkoaaAx38
import Derived.Test.YtkhcnmjgojkkoaaAx39
import Derived.Test.YtkhcnmjgojkkoaaAx40
set_option linter.unusedVariables false
set_option linter.unusedSimpArgs false
namespace Go.Proofs.Ytkhcnmjgojkkoaa.Pure
open Go.RowKit Go.Proofs.Ytkhcnmjgojkkoaa.A Go.Proofs.YtkhcnmjgojkkoaaW.PrintWords Go.Proofs.YtkhcnmjgojkkoaaW.PrintLast Go.Proofs.Ytkhcnmjgojkkoaa.LibU Go.Proofs.Ytkhcnmjgojkkoaa.LibT
theorem tableOk_both (m : Int) (l : List S88) (hl : l.length ≤ 1048576) : ∃ r, (∀ k, l.length < k → spec_TableOk.f k m l = some r) ∧ (∀ k, l.length < k → impl_TableOk.f k m l = some r) := by
  obtain ⟨q, h1, h2⟩ := size_both m l hl
  by_cases h : 0 ≤ m ∧ m ≤ 4096
  · refine ⟨decide (q ≤ m), fun k hk => ?_, fun k hk => ?_⟩
    · unfold spec_TableOk.f
      refine bs (l1In _ _ _) ?_
      rw [if_pos (by simpa using h)]
      exact bs (h1 k hk) rfl
    · unfold impl_TableOk.f
      refine bs (inRange _ _ _) ?_
      rw [if_pos (by simpa using h)]
      exact bs (h2 k hk) rfl
  · refine ⟨false, fun k hk => ?_, fun k hk => ?_⟩
    · unfold spec_TableOk.f
      refine bs (l1In _ _ _) ?_
      rw [if_neg (by simpa using h)]
    · unfold impl_TableOk.f
      refine bs (inRange _ _ _) ?_
      rw [if_neg (by simpa using h)]
theorem FnExactTableOk : laws_FnExactTableOk.Pure := by
  intro m l hm hl hw
  obtain ⟨K, r, hz, hr⟩ := szTable m l 1048576 (by omega) (by omega) hl hw
  have hb := bulk_nonneg l
  rcases hr with rfl | ⟨hr, hr2⟩
  · refine ⟨K, ?_⟩
    unfold laws_FnExactTableOk.f
    exact bs (hz _ (Nat.le_refl _)) rfl
  · have hlen : (l.map conv).length = l.length := by simp
    have ht := toTable m (l := l) (by omega)
    obtain ⟨q, h1, h2⟩ := tableOk_both m (l.map conv) (by omega)
    have he := eqTable m (l := l.map conv) (by omega)
    refine ⟨K + l.length + 12, ?_⟩
    unfold laws_FnExactTableOk.f
    repeat (first | refine bs (hz _ (by omega)) ?_ | refine bs (ht _ (by omega)) ?_ | refine bs (h1 _ (by omega)) ?_ | refine bs (h2 _ (by omega)) ?_ | refine bs (he _ (by omega)) ?_ | refine ifp rfl ?_ | refine ifn (by first | exact Bool.false_ne_true | omega | simp) ?_)
    rfl
end Go.Proofs.Ytkhcnmjgojkkoaa.Pure
