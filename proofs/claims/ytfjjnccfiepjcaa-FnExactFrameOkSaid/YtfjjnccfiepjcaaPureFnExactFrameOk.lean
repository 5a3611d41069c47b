/- For every input: FnExactFrameOk answers true: the program's FrameOk returns what the reference's returns. No condition. -/
import Derived.Test.YtfjjnccfiepjcaaLibA3
import Derived.Test.YtfjjnccfiepjcaaAx22
import Derived.Test.YtfjjnccfiepjcaaAx23
import Derived.Test.YtfjjnccfiepjcaaAx24
import Derived.Test.YtfjjnccfiepjcaaAx25
set_option linter.unusedVariables false
set_option linter.unusedSimpArgs false
namespace Go.Proofs.Ytfjjnccfiepjcaa.Pure
open Go.RowKit Go.Proofs.Ytfjjnccfiepjcaa.A Go.Proofs.YtfjjnccfiepjcaaW.PrintWords Go.Proofs.YtfjjnccfiepjcaaW.PrintLast Go.Proofs.Ytfjjnccfiepjcaa.LibA
theorem frameOk (a b c : Int) (l : List Int) : ∃ r, spec_FrameOk.f a b c l = some r ∧ impl_FrameOk.f a b c l = some r := by
  unfold spec_FrameOk.f impl_FrameOk.f
  simp only [l1In, inRange, Option.bind_some]
  repeat' split
  all_goals exact ⟨_, rfl, rfl⟩
theorem FnExactFrameOk : laws_FnExactFrameOk.Pure := by
  intro a b c l ha hb hc hl hw
  by_cases h : (l.length : Int) ≤ 1048576
  · obtain ⟨K1, h1⟩ := toByteS (l := l) (by omega)
    obtain ⟨r, h2, h3⟩ := frameOk a b c l
    obtain ⟨K4, h4⟩ := eqByteS (l := l) (by omega)
    refine ⟨K1 + K4 + 1, ?_⟩
    unfold laws_FnExactFrameOk.f laws_szFrame.f
    simp (disch := omega) only [szByteS, if_pos h, Option.bind_some]
    rw [if_neg (show ¬ ((1048576 : Int) - l.length < 0) by omega)]
    simp only [Option.bind_some]
    rw [if_neg (show ¬ ((1048576 : Int) - l.length < 0) by omega)]
    simp (disch := omega) only [laws_toFrame.f, laws_eqFrame.f, h1, h2, h3, h4, Option.bind_some, bne_self_eq_false, Bool.false_eq_true, if_true, if_false]
  · refine ⟨0, ?_⟩
    unfold laws_FnExactFrameOk.f laws_szFrame.f
    simp (disch := omega) only [szByteS, if_neg h, Option.bind_some]
    rfl
end Go.Proofs.Ytfjjnccfiepjcaa.Pure
