/- For every input: FnExactPutFrame answers true: the program's PutFrame returns what the reference's returns, in memory of its own. No condition. -/
import Derived.Test.YtkhcnmjgojkkoaaLibE
import Derived.Test.YtkhcnmjgojkkoaaLibF
import Derived.Test.YtkhcnmjgojkkoaaLibFm
import Derived.Test.YtkhcnmjgojkkoaaLibBs
import Derived.Test.YtkhcnmjgojkkoaaAx60
import Derived.Test.YtkhcnmjgojkkoaaAx62
import Derived.Test.YtkhcnmjgojkkoaaAx63
import Derived.Test.YtkhcnmjgojkkoaaAx64
set_option linter.unusedVariables false
set_option linter.unusedSimpArgs false
namespace Go.Proofs.Ytkhcnmjgojkkoaa.Pure
open Go.RowKit Go.Proofs.Ytkhcnmjgojkkoaa.A Go.Proofs.YtkhcnmjgojkkoaaW.PrintWords Go.Proofs.YtkhcnmjgojkkoaaW.PrintLast Go.Proofs.Ytkhcnmjgojkkoaa.LibU Go.Proofs.Ytkhcnmjgojkkoaa.LibE Go.Proofs.Ytkhcnmjgojkkoaa.LibF Go.Proofs.Ytkhcnmjgojkkoaa.LibB
theorem putFrame_both (a b c : Int) (l : List Int) : ∃ r : List Int, (∀ k, 12 ≤ k → spec_PutFrame.f k a b c l = some r) ∧ (∀ k, 12 ≤ k → impl_PutFrame.f k a b c l = some r) ∧ r.length ≤ 2000 := by
  by_cases h : okF a b c l
  · have hl : l.length ≤ 1000 := h.2.2.2
    have g1 := putBig_length [] (l.length : Int) 3
    have g2 := putBig_length (putBig [] (l.length : Int) 3 ++ [a % 256, b % 256]) c 4
    simp only [List.length_append, List.length_cons, List.length_nil] at g1 g2
    refine ⟨putBig (putBig [] (l.length : Int) 3 ++ [a % 256, b % 256]) c 4 ++ l, fun k hk => ?_, fun k hk => ?_, by simp only [List.length_append]; omega⟩
    · unfold spec_PutFrame.f
      refine bs (spec_frameOk a b c l) ?_
      rw [if_pos (by simpa using h)]
      refine bs (spec_putBig (by simp) k hk) ?_
      simp only [Option.bind_some]
      rw [if_pos (by simp only [List.length_cons, List.length_nil]; omega)]
      refine bs (spec_putBig (by simp only [List.length_append, List.length_cons, List.length_nil]; omega) k hk) ?_
      rw [if_pos (by omega)]
    · unfold impl_PutFrame.f impl_putFrame.f
      refine bs (impl_frameOk a b c l) ?_
      rw [if_pos (by simpa using h)]
      refine bs (bs (impl_putBig_l (by simp) (by omega) k hk) ?_) rfl
      simp only [Option.bind_some]
      rw [if_pos (by simp only [List.length_cons, List.length_nil]; omega)]
      refine bs (impl_putBig_l (by simp only [List.length_append, List.length_cons, List.length_nil]; omega) (by omega) k hk) ?_
      rw [if_pos (by omega)]
  · refine ⟨[], fun k hk => ?_, fun k hk => ?_, by simp⟩
    · unfold spec_PutFrame.f
      refine bs (spec_frameOk a b c l) ?_
      rw [if_neg (by simpa using h)]
    · unfold impl_PutFrame.f
      refine bs (impl_frameOk a b c l) ?_
      rw [if_neg (by simpa using h)]
theorem FnExactPutFrame : laws_FnExactPutFrame.Pure := by
  intro a b c l ha hb hc hl hw
  by_cases h : (l.length : Int) ≤ 1048576
  · obtain ⟨K1, h1⟩ := toByteS (l := l) (by omega)
    obtain ⟨r, h2, h3, hr⟩ := putFrame_both a b c l
    obtain ⟨K4, h4⟩ := eqByteS (l := l) (by omega)
    obtain ⟨K5, h5⟩ := eqByteS (l := r) (by omega)
    have hz := szFrame_yes a b c l h
    have ht := fun k hk => toFrame a b c (h1 k hk)
    have he := fun k hk => eqFrame a b c (h4 k hk)
    obtain ⟨K6, y6, h6, h6'⟩ := markHeld (x := l) (by omega)
    obtain ⟨K7, y7, h7, h7'⟩ := markHeld (x := r) (by omega)
    have hm := fun k hk => markFrame a b c (h6 k hk)
    refine ⟨K1 + K4 + K5 + K6 + K7 + 12 + 1, ?_⟩
    unfold laws_FnExactPutFrame.f
    repeat (first | refine bs hz ?_ | refine bs (ht _ (by omega)) ?_ | refine bs (h2 _ (by omega)) ?_ | refine bs (h3 _ (by omega)) ?_ | refine bs (he _ (by omega)) ?_ | refine bs (h5 _ (by omega)) ?_ | refine bs (hm _ (by omega)) ?_ | refine bs (h7 _ (by omega)) ?_ | refine bs (h7' _ (by omega)) ?_ | refine ifp rfl ?_ | refine ifn (by first | exact Bool.false_ne_true | omega | simp) ?_ | rw [laws_FnExactPutFrame.j0])
    rfl
  · have hz := szFrame_no a b c l h hl
    refine ⟨0, ?_⟩
    unfold laws_FnExactPutFrame.f
    refine bs hz ?_
    rfl
end Go.Proofs.Ytkhcnmjgojkkoaa.Pure
