/- For every input: FnExactUnpad answers true: the program's Unpad returns what the reference's returns, in memory of its own. No condition. -/
import Derived.Test.YtkhcnmjgojkkoaaLibE
import Derived.Test.YtkhcnmjgojkkoaaLibF
import Derived.Test.YtkhcnmjgojkkoaaLibFm
import Derived.Test.YtkhcnmjgojkkoaaLibUn
import Derived.Test.YtkhcnmjgojkkoaaAx54
import Derived.Test.YtkhcnmjgojkkoaaAx57
set_option linter.unusedVariables false
set_option linter.unusedSimpArgs false
namespace Go.Proofs.Ytkhcnmjgojkkoaa.Pure
open Go.RowKit Go.Proofs.Ytkhcnmjgojkkoaa.A Go.Proofs.YtkhcnmjgojkkoaaW.PrintWords Go.Proofs.YtkhcnmjgojkkoaaW.PrintLast Go.Proofs.Ytkhcnmjgojkkoaa.LibU Go.Proofs.Ytkhcnmjgojkkoaa.LibE Go.Proofs.Ytkhcnmjgojkkoaa.LibF Go.Proofs.Ytkhcnmjgojkkoaa.LibUn
theorem spec_j0 (k : Nat) (x : List Int) (a b c : Int) (l : List Int) (hx : x.length ≤ 1048576) : spec_Unpad.j0 (k + 1 + 1) x a b c l = some (if (x.length : Int) < stAhead a b then ([], false) else (x.drop (stAhead a b).toNat, true)) := by
  have h1 : ∀ t : Bool, (t = true ↔ a = 1 ∧ Go.bits .and .i64 b 32 ≠ 0) → spec_Unpad.j1 (k + 1) x t = some (if (x.length : Int) < stAhead a b then ([], false) else (x.drop (stAhead a b).toNat, true)) := by
    intro t ht
    simp only [spec_Unpad.j1, Option.bind_some, List.nil_append, List.length_nil, Nat.zero_add]
    cases t with
    | true =>
      have e : stAhead a b = 5 := by unfold stAhead; rw [if_pos (ht.1 rfl)]
      rw [if_pos rfl, e]
      by_cases c5 : (x.length : Int) < 5
      · rw [if_pos c5, if_pos c5]
      · rw [if_neg c5, if_neg c5, if_pos (by omega), if_pos (by simp; omega)]
        rfl
    | false =>
      have e : stAhead a b = 0 := by unfold stAhead; rw [if_neg (fun h => Bool.false_ne_true (ht.2 h))]
      rw [if_neg (by decide), e, if_pos (by omega), if_neg (by omega)]
      rfl
  simp only [spec_Unpad.j0]
  by_cases ha : a = 1
  · rw [if_pos ha]
    exact h1 _ (by simp [ha])
  · rw [if_neg ha]
    exact h1 false (by simp [ha])
theorem spec_unpad {a b c : Int} {l : List Int} (hl : l.length ≤ 1048576) (hb : ∀ x ∈ l, 0 ≤ x ∧ x ≤ 255) : ∀ k, 3 ≤ k → spec_Unpad.f k a b c l = some (unpad a b l) := by
  intro k hk
  obtain ⟨k, rfl⟩ : ∃ m, k = m + 1 + 1 + 1 := ⟨k - 3, by omega⟩
  have hah := stAhead_range a b
  unfold spec_Unpad.f unpad
  by_cases h : Go.bits .and .i64 b 8 = 0
  · rw [if_pos h, if_pos h, spec_j0 (k + 1) l a b c l hl]
    unfold unpadB
    congr 1
    by_cases c5 : (l.length : Int) < stAhead a b
    · rw [if_pos c5, if_pos (by omega)]
    · rw [if_neg c5, if_neg (by omega), List.take_of_length_le (by omega)]
  · rw [if_neg h, if_neg h]
    by_cases h0 : l.length = 0
    · rw [if_pos (by omega), if_pos h0]
    · have hr : 0 ≤ rd l 0 ∧ rd l 0 ≤ 255 := by
        have e : rd l 0 = l.getD 0 0 := rd_nat l 0
        rw [e, List.getD_eq_getElem?_getD, List.getElem?_eq_getElem (show 0 < l.length by omega)]
        exact hb _ (List.getElem_mem _)
      rw [if_neg (by omega), if_neg h0, if_pos (by omega), w64 (x := rd l 0) (by omega) (by omega), w64 (x := (l.length : Int) - 1) (by omega) (by omega), w64 (x := (l.length : Int) - rd l 0) (by omega) (by omega)]
      unfold unpadB
      by_cases c1 : rd l 0 > (l.length : Int) - 1
      · rw [if_pos c1, if_pos (by simp; omega)]
      · rw [if_neg c1, if_pos (by omega), if_pos (by omega), spec_j0 (k + 1) _ a b c l (by simp; omega)]
        have hlen : ((l.take ((l.length : Int) - rd l 0).toNat).drop 1).length = (l.length - (rd l 0).toNat) - 1 := by simp; omega
        congr 1
        by_cases c5 : ((l.take ((l.length : Int) - rd l 0).toNat).drop 1).length < stAhead a b
        · rw [if_pos c5, if_pos (by simp; omega)]
        · rw [if_neg c5, if_neg (by simp; omega)]
          have e : ((((l.drop 1).length : Nat) : Int) - rd l 0).toNat = ((l.length : Int) - rd l 0).toNat - 1 := by simp; omega
          rw [e, List.drop_take]
theorem FnExactUnpad : laws_FnExactUnpad.Pure := by
  intro a b c l ha hb hc hl hw
  by_cases h : (l.length : Int) ≤ 1048576
  · have hy : ∀ x ∈ l, 0 ≤ x ∧ x ≤ 255 := fun x hx => wf8 (hw x hx)
    obtain ⟨K1, h1⟩ := toByteS (l := l) (by omega)
    have h2 := spec_unpad (a := a) (b := b) (c := c) (l := l) (by omega) hy
    have h3 := impl_unpad (a := a) (b := b) (c := c) (l := l) (by omega) hy
    have hu := unpad_length a b l
    generalize unpad a b l = r at *
    obtain ⟨r1, r2⟩ := r
    simp only at hu
    obtain ⟨K4, h4⟩ := eqByteS (l := l) (by omega)
    obtain ⟨K5, h5⟩ := eqByteS (l := r1) (by omega)
    have hz := szFrame_yes a b c l h
    have ht := fun k hk => toFrame a b c (h1 k hk)
    have he := fun k hk => eqFrame a b c (h4 k hk)
    obtain ⟨K6, y6, h6, h6'⟩ := markHeld (x := l) (by omega)
    obtain ⟨K7, y7, h7, h7'⟩ := markHeld (x := r1) (by omega)
    have hm := fun k hk => markFrame a b c (h6 k hk)
    refine ⟨K1 + K4 + K5 + K6 + K7 + 12 + 1 + 1 + 1, ?_⟩
    unfold laws_FnExactUnpad.f
    repeat (first | refine bs hz ?_ | refine bs (ht _ (by omega)) ?_ | refine bs (h2 _ (by omega)) ?_ | refine bs (h3 _ (by omega)) ?_ | refine bs (he _ (by omega)) ?_ | refine bs (h5 _ (by omega)) ?_ | refine bs (hm _ (by omega)) ?_ | refine bs (h7 _ (by omega)) ?_ | refine bs (h7' _ (by omega)) ?_ | refine ifp rfl ?_ | refine ifn (by first | exact Bool.false_ne_true | omega | simp) ?_ | rw [laws_FnExactUnpad.j0] | rw [laws_FnExactUnpad.j1] | rw [laws_FnExactUnpad.j2])
    rfl
  · have hz := szFrame_no a b c l h hl
    refine ⟨0, ?_⟩
    unfold laws_FnExactUnpad.f
    refine bs hz ?_
    rfl
end Go.Proofs.Ytkhcnmjgojkkoaa.Pure
