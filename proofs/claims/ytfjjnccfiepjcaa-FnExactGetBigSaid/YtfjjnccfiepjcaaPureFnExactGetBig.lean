/- For every input: FnExactGetBig answers true: the program's GetBig returns what the reference's returns. No condition. -/
import Derived.Test.YtfjjnccfiepjcaaLibA2
import Derived.Test.YtfjjnccfiepjcaaAx7
set_option linter.unusedVariables false
set_option linter.unusedSimpArgs false
namespace Go.Proofs.Ytfjjnccfiepjcaa.Pure
open Go.RowKit Go.Proofs.Ytfjjnccfiepjcaa.A Go.Proofs.YtfjjnccfiepjcaaW.PrintWords Go.Proofs.YtfjjnccfiepjcaaW.PrintLast Go.Proofs.Ytfjjnccfiepjcaa.LibA
theorem FnExactGetBig : laws_FnExactGetBig.Pure := by
  intro l a b _ hl2 hw ha hb
  by_cases h : (l.length : Int) > 1048576
  · exact ⟨0, by unfold laws_FnExactGetBig.f; rw [if_pos h]⟩
  obtain ⟨K1, h1⟩ := toByteS (l := l) (by omega)
  obtain ⟨K2, h2⟩ := spec_gb (l := l) (a := a) (b := b) (by omega) (wf64 ha) (wf64 hb)
  obtain ⟨K3, h3⟩ := impl_gb (l := l) (a := a) (b := b) (by omega) (wf64 ha) (wf64 hb)
  obtain ⟨K4, h4⟩ := eqByteS (l := l) (by omega)
  refine ⟨K1 + K2 + K3 + K4 + 1, ?_⟩
  unfold laws_FnExactGetBig.f
  rw [if_neg h]
  simp (disch := omega) only [h1, h2, h3, h4, Option.bind_some, laws_FnExactGetBig.j0, bne_self_eq_false, Bool.false_eq_true, if_true, if_false]
end Go.Proofs.Ytfjjnccfiepjcaa.Pure
