/- For every input: FnExactPutBig answers true: the program's PutBig returns what the reference's returns, in memory of its own. No condition. -/
import Derived.Test.YtfjjnccfiepjcaaLibA4
import Derived.Test.YtfjjnccfiepjcaaAx34
set_option linter.unusedVariables false
set_option linter.unusedSimpArgs false
namespace Go.Proofs.Ytfjjnccfiepjcaa.Pure
open Go.RowKit Go.Proofs.Ytfjjnccfiepjcaa.A Go.Proofs.YtfjjnccfiepjcaaW.PrintWords Go.Proofs.YtfjjnccfiepjcaaW.PrintLast Go.Proofs.Ytfjjnccfiepjcaa.LibA
theorem FnExactPutBig : laws_FnExactPutBig.Pure := by
  intro l n m _ hl2 hw hn hm
  by_cases h : (l.length : Int) > 1048576
  · exact ⟨0, by unfold laws_FnExactPutBig.f; rw [if_pos h]⟩
  have hg := putBig_length l n m
  obtain ⟨K1, h1⟩ := toByteS (l := l) (by omega)
  have h2 := spec_putBig (l := l) (n := n) (k := m) (by omega)
  have h3 := impl_PutBig (l := l) (n := n) (k := m) (by omega)
  obtain ⟨K4, h4⟩ := eqByteS (l := l) (by omega)
  obtain ⟨K5, h5⟩ := eqByteS (l := putBig l n m) (by omega)
  obtain ⟨K6, y6, h6, h6'⟩ := markHeld (x := l) (by omega)
  obtain ⟨K7, y7, h7, h7'⟩ := markHeld (x := putBig l n m) (by omega)
  refine ⟨K1 + K4 + K5 + K6 + K7 + 12 + 1, ?_⟩
  have c1 : ¬ ((l.length : Int) + 1 < 0) := by omega
  have c2 : ¬ (((putBig l n m).length : Int) + 1 < 0) := by omega
  unfold laws_FnExactPutBig.f
  rw [if_neg h]
  repeat (first | refine bs (h1 _ (by omega)) ?_ | refine bs (h2 _ (by omega)) ?_ | refine bs (h3 _ (by omega)) ?_ | refine bs (h4 _ (by omega)) ?_ | refine bs (h5 _ (by omega)) ?_ | refine bs (h6 _ (by omega)) ?_ | refine bs (h6' _ (by omega)) ?_ | refine bs (h7 _ (by omega)) ?_ | refine bs (h7' _ (by omega)) ?_ | refine ifp rfl ?_ | refine ifn (by first | exact Bool.false_ne_true | omega | simp) ?_ | rw [laws_FnExactPutBig.j0])
  rfl
end Go.Proofs.Ytfjjnccfiepjcaa.Pure
