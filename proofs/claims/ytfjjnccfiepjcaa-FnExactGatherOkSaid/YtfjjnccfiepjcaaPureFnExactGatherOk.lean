/- For every input: FnExactGatherOk answers true: the program's GatherOk returns what the reference's returns. No condition. -/
import Derived.Test.YtfjjnccfiepjcaaLibA3
import Derived.Test.YtfjjnccfiepjcaaAx29
import Derived.Test.YtfjjnccfiepjcaaAx30
import Derived.Test.YtfjjnccfiepjcaaAx31
import Derived.Test.YtfjjnccfiepjcaaAx32
set_option linter.unusedVariables false
set_option linter.unusedSimpArgs false
namespace Go.Proofs.Ytfjjnccfiepjcaa.Pure
open Go.RowKit Go.Proofs.Ytfjjnccfiepjcaa.A Go.Proofs.YtfjjnccfiepjcaaW.PrintWords Go.Proofs.YtfjjnccfiepjcaaW.PrintLast Go.Proofs.Ytfjjnccfiepjcaa.LibA
theorem gatherOk (a : Int) (b : Bool) (l : List Int) : ∃ r, spec_GatherOk.f a b l = some r ∧ impl_GatherOk.f a b l = some r := by
  unfold spec_GatherOk.f impl_GatherOk.f
  simp only [l1In, inRange, Option.bind_some]
  repeat' split
  all_goals exact ⟨_, rfl, rfl⟩
theorem FnExactGatherOk : laws_FnExactGatherOk.Pure := by
  intro a b l ha hl hw
  by_cases h : (l.length : Int) ≤ 1048576
  · obtain ⟨K1, h1⟩ := toByteS (l := l) (by omega)
    obtain ⟨r, h2, h3⟩ := gatherOk a b l
    obtain ⟨K4, h4⟩ := eqByteS (l := l) (by omega)
    refine ⟨K1 + K4 + 1, ?_⟩
    unfold laws_FnExactGatherOk.f laws_szGather.f
    simp (disch := omega) only [szByteS, if_pos h, Option.bind_some]
    rw [if_neg (show ¬ ((1048576 : Int) - l.length < 0) by omega)]
    simp only [Option.bind_some]
    rw [if_neg (show ¬ ((1048576 : Int) - l.length < 0) by omega)]
    simp (disch := omega) only [laws_toGather.f, laws_eqGather.f, h1, h2, h3, h4, Option.bind_some, bne_self_eq_false, Bool.false_eq_true, if_true, if_false]
  · refine ⟨0, ?_⟩
    unfold laws_FnExactGatherOk.f laws_szGather.f
    simp (disch := omega) only [szByteS, if_neg h, Option.bind_some]
    rfl
end Go.Proofs.Ytfjjnccfiepjcaa.Pure
