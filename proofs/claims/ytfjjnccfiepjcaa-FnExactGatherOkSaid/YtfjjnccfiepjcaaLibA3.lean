/- GetGoAway, WindowOf, FrameOk, GatherOk, toFrame, eqFrame, toGather, eqGather: what they come to. Condition: each theorem's own bounds. -/
import Derived.Test.YtfjjnccfiepjcaaLibA2
import Derived.Test.YtfjjnccfiepjcaaAx17
import Derived.Test.YtfjjnccfiepjcaaAx19
import Derived.Test.YtfjjnccfiepjcaaAx20
import Derived.Test.YtfjjnccfiepjcaaAx22
set_option linter.unusedVariables false
set_option linter.unusedSimpArgs false
namespace Go.Proofs.Ytfjjnccfiepjcaa.LibA
open Go.RowKit Go.Proofs.Ytfjjnccfiepjcaa.A Go.Proofs.YtfjjnccfiepjcaaW.PrintWords Go.Proofs.YtfjjnccfiepjcaaW.PrintLast Go.Proofs.YtfjjnccfiepjcaaW.PrintMore
theorem gb_snd (l : List Int) (a b : Int) : (gb l a b).2 = decide (gbOk l a b) := by unfold gb; split <;> simp_all
theorem goAway_both {l : List Int} (hl : l.length ≤ 140737488351232) : ∃ K r, (∀ k, K ≤ k → spec_GetGoAway.f k l = some r) ∧ (∀ k, K ≤ k → impl_GetGoAway.f k l = some r) := by
  obtain ⟨K1, h1⟩ := spec_gb (l := l) (a := 0) (b := 4) hl (by omega) (by omega)
  obtain ⟨K2, h2⟩ := spec_gb (l := l) (a := 4) (b := 4) hl (by omega) (by omega)
  obtain ⟨K3, h3⟩ := impl_gb (l := l) (a := 0) (b := 4) hl (by omega) (by omega)
  obtain ⟨K4, h4⟩ := impl_gb (l := l) (a := 4) (b := 4) hl (by omega) (by omega)
  have hok : (gb l 4 4).2 = true → (gb l 0 4).2 = true := by
    rw [gb_snd, gb_snd]; simp only [decide_eq_true_eq]; unfold gbOk; omega
  by_cases h : (gb l 4 4).2 = true
  · refine ⟨K1 + K2 + K3 + K4, (Go.bits .and .i64 (gb l 0 4).1 2147483647, (gb l 4 4).1, true), fun k hk => ?_, fun k hk => ?_⟩
    · unfold spec_GetGoAway.f
      simp (disch := omega) only [h1, h2, Option.bind_some]
      rw [if_pos (hok h), if_pos h]
    · unfold impl_GetGoAway.f
      simp (disch := omega) only [h3, h4, Option.bind_some]
      rw [if_pos h]
  · refine ⟨K1 + K2 + K3 + K4, (0, 0, false), fun k hk => ?_, fun k hk => ?_⟩
    · unfold spec_GetGoAway.f
      simp (disch := omega) only [h1, h2, Option.bind_some]
      rw [if_neg h]
      exact ite_self _
    · unfold impl_GetGoAway.f
      simp (disch := omega) only [h3, h4, Option.bind_some]
      rw [if_neg h]
theorem window_both {l : List Int} (hl : l.length ≤ 140737488351232) : ∃ K r, (∀ k, K ≤ k → spec_WindowOf.f k l = some r) ∧ (∀ k, K ≤ k → impl_WindowOf.f k l = some r) := by
  obtain ⟨K1, h1⟩ := spec_gb (l := l) (a := 0) (b := 4) hl (by omega) (by omega)
  obtain ⟨K3, h3⟩ := impl_gb (l := l) (a := 0) (b := 4) hl (by omega) (by omega)
  have : ∃ r, impl_WindowOf.f (K1 + K3) l = some r := by
    unfold impl_WindowOf.f
    simp (disch := omega) only [h3, Option.bind_some]
    repeat' split
    all_goals exact ⟨_, rfl⟩
  obtain ⟨r, hr⟩ := this
  refine ⟨K1 + K3, r, fun k hk => ?_, fun k hk => ?_⟩
  · unfold spec_WindowOf.f
    unfold impl_WindowOf.f at hr
    simp (disch := omega) only [h1, h3, Option.bind_some] at hr ⊢
    exact hr
  · unfold impl_WindowOf.f at hr ⊢
    simp (disch := omega) only [h1, h3, Option.bind_some] at hr ⊢
    exact hr
theorem szByteS (l : List Int) (a : Int) (h0 : 0 ≤ a) (h1 : a ≤ 1048576) (hl : l.length ≤ 9223372036854775807) : laws_szByteS.f l a = some (if (l.length : Int) ≤ a then a - l.length else -1) := by
  unfold laws_szByteS.f
  rw [w64 (by omega) (by omega)]
  by_cases h : (l.length : Int) ≤ a
  · rw [if_neg (by omega), if_pos h]
  · rw [if_pos (by omega), if_neg h]
end Go.Proofs.Ytfjjnccfiepjcaa.LibA
