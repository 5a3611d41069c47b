/- For every input: FnExactPad answers true: the program's Pad returns what the reference's returns, in memory of its own. No condition. -/
import Derived.Test.YtfjjnccfiepjcaaLibA
import Derived.Test.YtfjjnccfiepjcaaAx8
import Derived.Test.YtfjjnccfiepjcaaAx9
import Derived.Test.YtfjjnccfiepjcaaAx12
set_option linter.unusedVariables false
set_option linter.unusedSimpArgs false
namespace Go.Proofs.Ytfjjnccfiepjcaa.Pure
open Go.RowKit Go.Proofs.Ytfjjnccfiepjcaa.A Go.Proofs.YtfjjnccfiepjcaaW.PrintWords Go.Proofs.YtfjjnccfiepjcaaW.PrintLast Go.Proofs.YtfjjnccfiepjcaaW.PrintMore Go.Proofs.Ytfjjnccfiepjcaa.LibA
theorem pad_both (l : List Int) (n : Int) (hl : l.length ≤ 1048576) : ∃ r : List Int, spec_Pad.f l n = some r ∧ impl_Pad.f l n = some r ∧ r.length ≤ 2000000 := by
  unfold spec_Pad.f impl_Pad.f
  simp only [Option.bind_some, List.length_append, List.length_cons, List.length_nil]
  have e : mx 0 (mn n 255) = if n < 0 then 0 else if n > 255 then 255 else n := by
    unfold mx mn
    repeat' split
    all_goals omega
  rw [e]
  by_cases h0 : n < 0
  · simp only [if_pos h0]
    rw [if_pos (by omega), if_pos (by omega), if_pos (by omega), if_pos (by omega), if_pos (by omega)]
    exact ⟨_, rfl, rfl, by rw [List.length_append, List.length_append, List.length_replicate, List.length_singleton]; omega⟩
  · simp only [if_neg h0]
    by_cases h1 : n > 255
    · simp only [if_pos h1]
      rw [if_pos (by omega), if_pos (by omega), if_pos (by omega), if_pos (by omega), if_pos (by omega)]
      exact ⟨_, rfl, rfl, by rw [List.length_append, List.length_append, List.length_replicate, List.length_singleton]; omega⟩
    · simp only [if_neg h1]
      rw [if_pos (by omega), if_pos (by omega), if_pos (by omega), if_pos (by omega), if_pos (by omega), if_pos (by omega), Int.emod_eq_of_lt (by omega) (by omega)]
      exact ⟨_, rfl, rfl, by rw [List.length_append, List.length_append, List.length_replicate, List.length_singleton]; omega⟩
theorem FnExactPad : laws_FnExactPad.Pure := by
  intro l n _ hl2 hw hn
  by_cases h : (l.length : Int) > 1048576
  · exact ⟨0, by unfold laws_FnExactPad.f; rw [if_pos h]⟩
  obtain ⟨K1, h1⟩ := toByteS (l := l) (by omega)
  obtain ⟨r, h2, h3, hr⟩ := pad_both l n (by omega)
  obtain ⟨K4, h4⟩ := eqByteS (l := l) (by omega)
  obtain ⟨K5, h5⟩ := eqByteS (l := r) (by omega)
  obtain ⟨K6, y6, h6, h6'⟩ := markHeld (x := l) (by omega)
  obtain ⟨K7, y7, h7, h7'⟩ := markHeld (x := r) (by omega)
  refine ⟨K1 + K4 + K5 + K6 + K7 + 12 + 1, ?_⟩
  have c1 : ¬ ((l.length : Int) + 1 < 0) := by omega
  have c2 : ¬ ((r.length : Int) + 1 < 0) := by omega
  unfold laws_FnExactPad.f
  rw [if_neg h]
  repeat (first | refine bs (h1 _ (by omega)) ?_ | refine bs (h4 _ (by omega)) ?_ | refine bs (h5 _ (by omega)) ?_ | refine bs (h6 _ (by omega)) ?_ | refine bs (h6' _ (by omega)) ?_ | refine bs (h7 _ (by omega)) ?_ | refine bs (h7' _ (by omega)) ?_ | refine bs h2 ?_ | refine bs h3 ?_ | refine ifp rfl ?_ | refine ifn (by first | exact Bool.false_ne_true | omega | simp) ?_ | rw [laws_FnExactPad.j0])
  rfl
end Go.Proofs.Ytfjjnccfiepjcaa.Pure
