/- For every input: FnExactWindowOf answers true: the program's WindowOf returns what the reference's returns. No condition. -/
import Derived.Test.YtfjjnccfiepjcaaLibA3
import Derived.Test.YtfjjnccfiepjcaaAx21
set_option linter.unusedVariables false
set_option linter.unusedSimpArgs false
namespace Go.Proofs.Ytfjjnccfiepjcaa.Pure
open Go.RowKit Go.Proofs.Ytfjjnccfiepjcaa.A Go.Proofs.YtfjjnccfiepjcaaW.PrintWords Go.Proofs.YtfjjnccfiepjcaaW.PrintLast Go.Proofs.Ytfjjnccfiepjcaa.LibA
theorem FnExactWindowOf : laws_FnExactWindowOf.Pure := by
  intro l _ hl2 hw
  by_cases h : (l.length : Int) > 1048576
  · exact ⟨0, by unfold laws_FnExactWindowOf.f; rw [if_pos h]⟩
  obtain ⟨K1, h1⟩ := toByteS (l := l) (by omega)
  obtain ⟨K2, r, h2, h3⟩ := window_both (l := l) (by omega)
  obtain ⟨K4, h4⟩ := eqByteS (l := l) (by omega)
  refine ⟨K1 + K2 + K4 + 1, ?_⟩
  unfold laws_FnExactWindowOf.f
  rw [if_neg h]
  simp (disch := omega) only [h1, h2, h3, h4, Option.bind_some, laws_FnExactWindowOf.j0, bne_self_eq_false, Bool.false_eq_true, if_true, if_false]
end Go.Proofs.Ytfjjnccfiepjcaa.Pure
