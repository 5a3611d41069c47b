/- For every input: FnExactFrameCode answers true: the program's FrameCode returns what the reference's returns. No condition. -/
import Derived.Test.YtkhcnmjgojkkoaaLibE
import Derived.Test.YtkhcnmjgojkkoaaLibUs
import Derived.Test.YtkhcnmjgojkkoaaLibF
import Derived.Test.YtkhcnmjgojkkoaaAx41
import Derived.Test.YtkhcnmjgojkkoaaAx69
import Derived.Test.YtkhcnmjgojkkoaaAx70
import Derived.Test.YtkhcnmjgojkkoaaAx71
import Derived.Test.YtkhcnmjgojkkoaaAx72
import Derived.Test.YtkhcnmjgojkkoaaAx73
set_option linter.unusedVariables false
set_option linter.unusedSimpArgs false
namespace Go.Proofs.Ytkhcnmjgojkkoaa.Pure
open Go.RowKit Go.Proofs.Ytkhcnmjgojkkoaa.A Go.Proofs.YtkhcnmjgojkkoaaW.PrintWords Go.Proofs.YtkhcnmjgojkkoaaW.PrintLast Go.Proofs.Ytkhcnmjgojkkoaa.LibU Go.Proofs.Ytkhcnmjgojkkoaa.LibE Go.Proofs.Ytkhcnmjgojkkoaa.LibF
theorem bodyOk (a b c : Int) (l : List Int) : ∃ r, (∀ k, 2 ≤ k → spec_l6Size.f k a b c l = some r) ∧ (∀ k, 2 ≤ k → impl_bodyOk.f k a b c l = some r) := by
  have h : ∀ k, spec_l6Size.f (k + 1) a b c l = impl_bodyOk.f (k + 1) a b c l ∧ spec_l6Size.f (k + 1) a b c l = spec_l6Size.f 1 a b c l ∧ ∃ r, spec_l6Size.f 1 a b c l = some r := by
    intro k
    unfold spec_l6Size.f impl_bodyOk.f
    simp only [spec_l6Size.j0, impl_bodyOk.j0, impl_Frame_has.f, Option.bind_some]
    by_cases h2 : a = 2
    · simp only [if_pos h2]; exact ⟨trivial, trivial, _, rfl⟩
    · simp only [if_neg h2]
      by_cases h3 : a = 3
      · subst h3; exact ⟨by first | trivial | rfl, by first | trivial | rfl, _, rfl⟩
      · simp only [if_neg h3]
        by_cases h8 : a = 8
        · subst h8; exact ⟨by first | trivial | rfl, by first | trivial | rfl, _, rfl⟩
        · have e8 : (a == 8) = false := beq_eq_false_iff_ne.2 h8
          simp only [e8, Bool.false_eq_true, if_false]
          by_cases h6 : a = 6
          · subst h6; exact ⟨by first | trivial | rfl, by first | trivial | rfl, _, rfl⟩
          · simp only [if_neg h6]
            by_cases h7 : a = 7
            · subst h7; exact ⟨by first | trivial | rfl, by first | trivial | rfl, _, rfl⟩
            · simp only [if_neg h7]
              by_cases h4 : a = 4
              · simp only [if_pos h4]
                by_cases hm : Int.tmod (l.length : Int) 6 = 0
                · simp only [if_pos hm]
                  by_cases ha : Go.bits .and .i64 b 1 = 0
                  · simp only [if_pos ha]
                    by_cases hl : (l.length : Int) = 0
                    · simp only [if_pos hl]; exact ⟨trivial, trivial, _, rfl⟩
                    · simp only [if_neg hl]; exact ⟨by rw [ha]; rfl, trivial, _, rfl⟩
                  · simp only [if_neg ha]
                    by_cases hl : (l.length : Int) = 0
                    · simp only [if_pos hl]; exact ⟨by rw [hl]; rfl, trivial, _, rfl⟩
                    · simp only [if_neg hl]
                      refine ⟨?_, trivial, _, rfl⟩
                      have e1 : ((l.length : Int) == 0) = false := beq_eq_false_iff_ne.2 hl
                      have e2 : (Go.bits .and .i64 b 1 != 0) = true := bne_iff_ne.2 ha
                      rw [e1, e2]; rfl
                · simp only [if_neg hm]; exact ⟨trivial, trivial, _, rfl⟩
              · simp only [if_neg h4]; exact ⟨trivial, trivial, _, rfl⟩
  obtain ⟨_, _, r, hr⟩ := h 0
  refine ⟨r, fun k hk => ?_, fun k hk => ?_⟩
  · obtain ⟨k, rfl⟩ := ix (show 0 < k by omega)
    rw [(h k).2.1, hr]
  · obtain ⟨k, rfl⟩ := ix (show 0 < k by omega)
    rw [← (h k).1, (h k).2.1, hr]
theorem j2_eq (k : Nat) (x : Bool) (a b c : Int) (l : List Int) : impl_FrameCode.j2 k x a b c l = spec_FrameCode.j2 k x a b c l := by cases k <;> rfl
theorem j1_eq (k : Nat) (x : Int) (y : Bool) (a b c : Int) (l : List Int) : impl_FrameCode.j1 k x y a b c l = spec_FrameCode.j1 k x y a b c l := by
  cases k with
  | zero => rfl
  | succ k => simp only [impl_FrameCode.j1, spec_FrameCode.j1, j2_eq]
theorem j0_eq (k : Nat) (y : Bool) (a b c : Int) (l : List Int) : impl_FrameCode.j0 k y a b c l = spec_FrameCode.j0 k y a b c l := by
  cases k with
  | zero => rfl
  | succ k => simp only [impl_FrameCode.j0, spec_FrameCode.j0, j1_eq]
theorem j2_some (k : Nat) (x : Bool) (a b c : Int) (l : List Int) : ∃ r, spec_FrameCode.j2 (k + 1) x a b c l = some r := by
  simp only [spec_FrameCode.j2]
  repeat' split
  all_goals exact ⟨_, rfl⟩
theorem j1_some (k : Nat) (x : Int) (y : Bool) (a b c : Int) (l : List Int) : ∃ r, spec_FrameCode.j1 (k + 1 + 1) x y a b c l = some r := by
  simp only [spec_FrameCode.j1]
  repeat' split
  all_goals first | exact j2_some _ _ _ _ _ _ | exact ⟨_, rfl⟩
theorem j0_some (k : Nat) (y : Bool) (a b c : Int) (l : List Int) : ∃ r, spec_FrameCode.j0 (k + 1 + 1 + 1) y a b c l = some r := by
  simp only [spec_FrameCode.j0]
  repeat' split
  all_goals first | exact j1_some _ _ _ _ _ _ _ | exact ⟨_, rfl⟩
theorem frameCode_both (a b c : Int) (l : List Int) : ∃ r, (∀ k, 4 ≤ k → spec_FrameCode.f k a b c l = some r) ∧ (∀ k, 4 ≤ k → impl_FrameCode.f k a b c l = some r) := by
  obtain ⟨q, hq, hq'⟩ := frameOk a b c l
  obtain ⟨s, hs, hs'⟩ := bodyOk a b c l
  have hi : ∀ k, 4 ≤ k → impl_FrameCode.f k a b c l = spec_FrameCode.f k a b c l := by
    intro k hk
    unfold spec_FrameCode.f impl_FrameCode.f
    rw [hq, hq', hs k (by omega), hs' k (by omega)]
    simp only [Option.bind_some, j0_eq]
  have h4 : ∃ r, spec_FrameCode.f 4 a b c l = some r := by
    unfold spec_FrameCode.f
    rw [hq, hs 4 (by omega)]
    simp only [Option.bind_some]
    split
    · exact j0_some 1 _ _ _ _ _
    · exact j0_some 1 _ _ _ _ _
  obtain ⟨r, hr⟩ := h4
  have hm : ∀ k, 4 ≤ k → spec_FrameCode.f k a b c l = some r := fun k hk => at_rounds (g := fun k => spec_FrameCode.f k a b c l) (fun k => spec_FrameCode.mono _ _ _ _ k) hk hr
  exact ⟨r, hm, fun k hk => (hi k hk).trans (hm k hk)⟩
theorem FnExactFrameCode : laws_FnExactFrameCode.Pure := by
  intro a b c l ha hb hc hl hw
  by_cases h : (l.length : Int) ≤ 1048576
  · obtain ⟨K1, h1⟩ := toByteS (l := l) (by omega)
    obtain ⟨r, h2, h3⟩ := frameCode_both a b c l
    obtain ⟨K4, h4⟩ := eqByteS (l := l) (by omega)
    have hz := szFrame_yes a b c l h
    have ht := fun k hk => toFrame a b c (h1 k hk)
    have he := fun k hk => eqFrame a b c (h4 k hk)
    refine ⟨K1 + K4 + 12 + 1, ?_⟩
    unfold laws_FnExactFrameCode.f
    repeat (first | refine bs hz ?_ | refine bs (ht _ (by omega)) ?_ | refine bs (h2 _ (by omega)) ?_ | refine bs (h3 _ (by omega)) ?_ | refine bs (he _ (by omega)) ?_ | refine ifp rfl ?_ | refine ifn (by first | exact Bool.false_ne_true | omega | simp) ?_)
    rfl
  · have hz := szFrame_no a b c l h hl
    refine ⟨0, ?_⟩
    unfold laws_FnExactFrameCode.f
    refine bs hz ?_
    rfl
end Go.Proofs.Ytkhcnmjgojkkoaa.Pure
