/- For every input: FnExactGetPrefix answers true: the program's GetPrefix returns what the reference's returns. No condition. -/
import Derived.Test.YtfjjnccfiepjcaaLibA2
import Derived.Test.YtfjjnccfiepjcaaAx26
import Derived.Test.YtfjjnccfiepjcaaAx27
import Derived.Test.YtfjjnccfiepjcaaAx28
set_option linter.unusedVariables false
set_option linter.unusedSimpArgs false
namespace Go.Proofs.Ytfjjnccfiepjcaa.Pure
open Go.RowKit Go.Proofs.Ytfjjnccfiepjcaa.A Go.Proofs.YtfjjnccfiepjcaaW.PrintWords Go.Proofs.YtfjjnccfiepjcaaW.PrintLast Go.Proofs.YtfjjnccfiepjcaaW.PrintMore Go.Proofs.Ytfjjnccfiepjcaa.LibA
/-- From the i-th further byte on both loops say the same. -/
theorem prefix_l (l : List Int) (a : Nat) (hl : l.length ≤ 1048576) (ha : a < l.length) (d : Nat) : ∀ (i : Nat) (n : Int), i ≤ 4 → 4 - i = d → a + 1 + i ≤ l.length →
    ∃ r, (∀ k, 2 * d + 2 ≤ k → spec_GetPrefix.l0 k l (a : Int) n (i : Int) = some r) ∧ (∀ k, 2 * d + 2 ≤ k → impl_GetPrefix.l0 k l ((a : Int) + 1 + i) n (i : Int) = some r) := by
  induction d with
  | zero =>
    intro i n hi hd hlen
    refine ⟨(0, 0, false), fun k hk => ?_, fun k hk => ?_⟩
    · obtain ⟨k, rfl⟩ : ∃ m, k = m + 1 + 1 := ⟨k - 2, by omega⟩
      simp only [spec_GetPrefix.l0, spec_GetPrefix.j2]
      rw [if_neg (by omega), if_neg (by decide)]
    · obtain ⟨k, rfl⟩ : ∃ m, k = m + 1 + 1 := ⟨k - 2, by omega⟩
      simp only [impl_GetPrefix.l0, impl_GetPrefix.j2]
      rw [if_neg (by omega), if_neg (by decide)]
  | succ d ih =>
    intro i n hi hd hlen
    have e1 : wrap64 (wrap64 ((a : Int) + 1) + (i : Int)) = (a : Int) + 1 + i := by rw [w64 (x := (a : Int) + 1) (by omega) (by omega), w64 (by omega) (by omega)]
    have e2 : wrap64 (wrap64 ((a : Int) + 2) + (i : Int)) = (a : Int) + 2 + i := by rw [w64 (x := (a : Int) + 2) (by omega) (by omega), w64 (by omega) (by omega)]
    have e3 : wrap64 ((a : Int) + 1 + i + 1) = (a : Int) + 2 + i := by rw [w64 (by omega) (by omega)]; omega
    have e4 : wrap64 ((i : Int) + 1) = ((i + 1 : Nat) : Int) := by rw [w64 (by omega) (by omega)]; rfl
    have e5 : (a : Int) + 2 + i = (a : Int) + 1 + ((i + 1 : Nat) : Int) := by omega
    by_cases hb : a + 1 + i < l.length
    · by_cases h1 : wrap64 (rd l ((a : Int) + 1 + i)) < 128
      · by_cases h2 : wrap64 (n + shl .i64 (Go.bits .and .i64 (wrap64 (rd l ((a : Int) + 1 + i))) 127) (IntKind.u64.wrap (wrap64 (7 * (i : Int))))) > 16777216
        · refine ⟨(0, 0, false), fun k hk => ?_, fun k hk => ?_⟩
          · obtain ⟨k, rfl⟩ : ∃ m, k = m + 1 + 1 := ⟨k - 2, by omega⟩
            simp only [spec_GetPrefix.l0, spec_GetPrefix.j2, e1, e2, e3]
            rw [if_pos (by omega), if_pos (decide_eq_true (by omega)), if_pos (by omega), if_pos (by omega), if_pos (u64_nn _), if_pos h1, if_pos h2]
          · obtain ⟨k, rfl⟩ : ∃ m, k = m + 1 + 1 := ⟨k - 2, by omega⟩
            simp only [impl_GetPrefix.l0, impl_GetPrefix.j2, e1, e2, e3]
            rw [if_pos (by omega), if_pos (decide_eq_true (by omega)), if_pos (by omega), if_pos (by omega), if_pos (u64_nn _), if_pos h1, if_pos h2]
        · refine ⟨(wrap64 (n + shl .i64 (Go.bits .and .i64 (wrap64 (rd l ((a : Int) + 1 + i))) 127) (IntKind.u64.wrap (wrap64 (7 * (i : Int))))), (a : Int) + 2 + i, true), fun k hk => ?_, fun k hk => ?_⟩
          · obtain ⟨k, rfl⟩ : ∃ m, k = m + 1 + 1 := ⟨k - 2, by omega⟩
            simp only [spec_GetPrefix.l0, spec_GetPrefix.j2, e1, e2, e3]
            rw [if_pos (by omega), if_pos (decide_eq_true (by omega)), if_pos (by omega), if_pos (by omega), if_pos (u64_nn _), if_pos h1, if_neg h2]
          · obtain ⟨k, rfl⟩ : ∃ m, k = m + 1 + 1 := ⟨k - 2, by omega⟩
            simp only [impl_GetPrefix.l0, impl_GetPrefix.j2, e1, e2, e3]
            rw [if_pos (by omega), if_pos (decide_eq_true (by omega)), if_pos (by omega), if_pos (by omega), if_pos (u64_nn _), if_pos h1, if_neg h2]
      · obtain ⟨r, g1, g2⟩ := ih (i + 1) (wrap64 (n + shl .i64 (Go.bits .and .i64 (wrap64 (rd l ((a : Int) + 1 + i))) 127) (IntKind.u64.wrap (wrap64 (7 * (i : Int)))))) (by omega) (by omega) (by omega)
        refine ⟨r, fun k hk => ?_, fun k hk => ?_⟩
        · obtain ⟨k, rfl⟩ : ∃ m, k = m + 1 + 1 := ⟨k - 2, by omega⟩
          simp only [spec_GetPrefix.l0, spec_GetPrefix.j2, e1, e2, e3, e4]
          rw [if_pos (by omega), if_pos (decide_eq_true (by omega)), if_pos (by omega), if_pos (by omega), if_pos (u64_nn _), if_neg h1]
          exact g1 k (by omega)
        · obtain ⟨k, rfl⟩ : ∃ m, k = m + 1 + 1 := ⟨k - 2, by omega⟩
          simp only [impl_GetPrefix.l0, impl_GetPrefix.j2, e1, e2, e3, e4, e5]
          rw [if_pos (by omega), if_pos (decide_eq_true (by omega)), if_pos (by omega), if_pos (by omega), if_pos (u64_nn _), if_neg h1]
          exact g2 k (by omega)
    · refine ⟨(0, 0, false), fun k hk => ?_, fun k hk => ?_⟩
      · obtain ⟨k, rfl⟩ : ∃ m, k = m + 1 + 1 := ⟨k - 2, by omega⟩
        simp only [spec_GetPrefix.l0, spec_GetPrefix.j2, e1]
        rw [if_pos (by omega), if_neg (by simp; omega)]
      · obtain ⟨k, rfl⟩ : ∃ m, k = m + 1 + 1 := ⟨k - 2, by omega⟩
        simp only [impl_GetPrefix.l0, impl_GetPrefix.j2, e1]
        rw [if_pos (by omega), if_neg (by simp; omega)]
theorem prefix_both (l : List Int) (a b : Int) (hl : l.length ≤ 1048576) : ∃ r, (∀ k, 12 ≤ k → spec_GetPrefix.f k l a b = some r) ∧ (∀ k, 12 ≤ k → impl_GetPrefix.f k l a b = some r) := by
  have ew : wrap64 ((l.length : Int) - 1) = (l.length : Int) - 1 := w64 (by omega) (by omega)
  by_cases h1 : 1 ≤ b ∧ b ≤ 8
  · by_cases h2 : 0 ≤ a ∧ a ≤ (l.length : Int) - 1
    · obtain ⟨a, rfl⟩ := Int.eq_ofNat_of_zero_le h2.1
      obtain ⟨r, g1, g2⟩ := prefix_l l a hl (by omega) 4 0 (Go.bits .and .i64 (wrap64 (rd l (a : Int))) (wrap64 ((shl .i64 1 (IntKind.u64.wrap (b))) - 1))) (by omega) (by omega) (by omega)
      have ea : wrap64 ((a : Int) + 1) = (a : Int) + 1 + ((0 : Nat) : Int) := by rw [w64 (by omega) (by omega)]; omega
      by_cases h3 : Go.bits .and .i64 (wrap64 (rd l (a : Int))) (wrap64 ((shl .i64 1 (IntKind.u64.wrap (b))) - 1)) < wrap64 ((shl .i64 1 (IntKind.u64.wrap (b))) - 1)
      · refine ⟨(Go.bits .and .i64 (wrap64 (rd l (a : Int))) (wrap64 ((shl .i64 1 (IntKind.u64.wrap (b))) - 1)), wrap64 ((a : Int) + 1), true), fun k hk => ?_, fun k hk => ?_⟩
        · obtain ⟨k, rfl⟩ := ix (show 0 < k by omega)
          simp only [spec_GetPrefix.f, l1In, Option.bind_some, ew, spec_GetPrefix.j0]
          rw [if_pos (by simpa using h1), if_neg (by simp; omega), if_pos (u64_nn _), if_pos (by omega), if_pos (by omega), if_pos h3]
        · obtain ⟨k, rfl⟩ := ix (show 0 < k by omega)
          simp only [impl_GetPrefix.f, inRange, Option.bind_some, ew, impl_GetPrefix.j0]
          rw [if_pos (by simpa using h1), if_neg (by simp; omega), if_pos (u64_nn _), if_pos (by omega), if_pos (by omega), if_pos h3]
      · refine ⟨r, fun k hk => ?_, fun k hk => ?_⟩
        · obtain ⟨k, rfl⟩ := ix (show 0 < k by omega)
          simp only [spec_GetPrefix.f, l1In, Option.bind_some, ew, spec_GetPrefix.j0]
          rw [if_pos (by simpa using h1), if_neg (by simp; omega), if_pos (u64_nn _), if_pos (by omega), if_pos (by omega), if_neg h3]
          exact g1 k (by omega)
        · obtain ⟨k, rfl⟩ := ix (show 0 < k by omega)
          simp only [impl_GetPrefix.f, inRange, Option.bind_some, ew, impl_GetPrefix.j0]
          rw [if_pos (by simpa using h1), if_neg (by simp; omega), if_pos (u64_nn _), if_pos (by omega), if_pos (by omega), if_neg h3, ea]
          exact g2 k (by omega)
    · refine ⟨(0, 0, false), fun k hk => ?_, fun k hk => ?_⟩
      · obtain ⟨k, rfl⟩ := ix (show 0 < k by omega)
        simp only [spec_GetPrefix.f, l1In, Option.bind_some, ew, spec_GetPrefix.j0]
        rw [if_pos (by simpa using h1), if_pos (by simp; omega)]
      · obtain ⟨k, rfl⟩ := ix (show 0 < k by omega)
        simp only [impl_GetPrefix.f, inRange, Option.bind_some, ew, impl_GetPrefix.j0]
        rw [if_pos (by simpa using h1), if_pos (by simp; omega)]
  · refine ⟨(0, 0, false), fun k hk => ?_, fun k hk => ?_⟩
    · obtain ⟨k, rfl⟩ := ix (show 0 < k by omega)
      simp only [spec_GetPrefix.f, l1In, Option.bind_some, ew, spec_GetPrefix.j0]
      rw [if_neg (by simpa using h1), if_pos trivial]
    · obtain ⟨k, rfl⟩ := ix (show 0 < k by omega)
      simp only [impl_GetPrefix.f, inRange, Option.bind_some, ew, impl_GetPrefix.j0]
      rw [if_neg (by simpa using h1), if_pos trivial]
theorem FnExactGetPrefix : laws_FnExactGetPrefix.Pure := by
  intro l a b _ hl2 hw ha hb
  by_cases h : (l.length : Int) > 1048576
  · exact ⟨0, by unfold laws_FnExactGetPrefix.f; rw [if_pos h]⟩
  obtain ⟨K1, h1⟩ := toByteS (l := l) (by omega)
  obtain ⟨r, h2, h3⟩ := prefix_both l a b (by omega)
  obtain ⟨K4, h4⟩ := eqByteS (l := l) (by omega)
  refine ⟨K1 + K4 + 12 + 1, ?_⟩
  unfold laws_FnExactGetPrefix.f
  rw [if_neg h]
  repeat (first | refine bs (h1 _ (by omega)) ?_ | refine bs (h2 _ (by omega)) ?_ | refine bs (h3 _ (by omega)) ?_ | refine bs (h4 _ (by omega)) ?_ | refine ifp rfl ?_ | refine ifn (by first | exact Bool.false_ne_true | simp) ?_ | rw [laws_FnExactGetPrefix.j0])
  rfl
end Go.Proofs.Ytfjjnccfiepjcaa.Pure
