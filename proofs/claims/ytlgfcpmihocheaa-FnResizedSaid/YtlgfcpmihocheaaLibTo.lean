/- Both tests of a table, and how great it is. Condition: each theorem's own bounds. -/
import Derived.Test.YtlgfcpmihocheaaLibRs
import Derived.Test.YtlgfcpmihocheaaAx5
import Derived.Test.YtlgfcpmihocheaaAx6
import Derived.Test.YtlgfcpmihocheaaAx12
import Derived.Test.YtlgfcpmihocheaaAx13
import Derived.Test.YtlgfcpmihocheaaAx14
import Derived.Test.YtlgfcpmihocheaaAx19
set_option linter.unusedVariables false
set_option linter.unusedSimpArgs false
namespace Go.Proofs.Ytlgfcpmihocheaa.LibRz
open Go.RowKit Go.Proofs.Ytlgfcpmihocheaa.A Go.Proofs.YtlgfcpmihocheaaW.PrintWords Go.Proofs.YtlgfcpmihocheaaW.PrintLast Go.Proofs.YtlgfcpmihocheaaW.PrintMore Go.Proofs.Ytlgfcpmihocheaa.LibU
theorem szl (l : List S33) (m : Int) (hl : l.length ≤ 1048580) (d : Nat) : ∀ (i : Nat) (x : Int), i ≤ l.length → l.length - i = d →
    ∃ r, (∀ k, d < k → spec_SizeOf.l0 k x (i : Int) m l = some r) ∧ (∀ k, d < k → impl_SizeOf.l0 k x l (l.length : Int) (i : Int) = some r) := by
  induction d with
  | zero =>
    intro i x hi hd
    refine ⟨x, fun k hk => ?_, fun k hk => ?_⟩
    · obtain ⟨k, rfl⟩ := ix (show 0 < k by omega)
      simp only [spec_SizeOf.l0]
      rw [if_neg (by omega)]
    · obtain ⟨k, rfl⟩ := ix (show 0 < k by omega)
      simp only [impl_SizeOf.l0]
      rw [if_neg (by omega)]
  | succ d ih =>
    intro i x hi hd
    obtain ⟨r, h1, h2⟩ := ih (i + 1) (wrap64 (x + wrap64 (wrap64 (((rd_T33 l i).f0.size : Int) + ((rd_T33 l i).f1.size : Int)) + 32))) (by omega) (by omega)
    have e4 : wrap64 ((i : Int) + 1) = ((i + 1 : Nat) : Int) := by rw [w64 (by omega) (by omega)]; rfl
    refine ⟨r, fun k hk => ?_, fun k hk => ?_⟩
    · obtain ⟨k, rfl⟩ := ix (show 0 < k by omega)
      simp only [spec_SizeOf.l0, spec_l4Of.f, Option.bind_some, e4]
      rw [if_pos (by omega), if_pos (by omega)]
      exact h1 k (by omega)
    · obtain ⟨k, rfl⟩ := ix (show 0 < k by omega)
      simp only [impl_SizeOf.l0, impl_sizeOf.f, Option.bind_some, e4]
      rw [if_pos (by omega), if_pos (by omega), if_pos (by omega)]
      exact h2 k (by omega)
theorem size_both (m : Int) (l : List S33) (hl : l.length ≤ 1048580) : ∃ r, (∀ k, l.length < k → spec_SizeOf.f k m l = some r) ∧ (∀ k, l.length < k → impl_SizeOf.f k m l = some r) := szl l m hl l.length 0 0 (by omega) (by omega)
theorem tableOk_both (m : Int) (l : List S33) (hl : l.length ≤ 1048580) : ∃ r, (∀ k, l.length < k → spec_TableOk.f k m l = some r) ∧ (∀ k, l.length < k → impl_TableOk.f k m l = some r) := by
  obtain ⟨q, h1, h2⟩ := size_both m l hl
  by_cases h : 0 ≤ m ∧ m ≤ 4096
  · refine ⟨decide (q ≤ m), fun k hk => ?_, fun k hk => ?_⟩
    · unfold spec_TableOk.f
      refine bs (l1In _ _ _) ?_
      rw [if_pos (by simpa using h)]
      exact bs (h1 k hk) rfl
    · unfold impl_TableOk.f
      refine bs (inRange _ _ _) ?_
      rw [if_pos (by simpa using h)]
      exact bs (h2 k hk) rfl
  · refine ⟨false, fun k hk => ?_, fun k hk => ?_⟩
    · unfold spec_TableOk.f
      refine bs (l1In _ _ _) ?_
      rw [if_neg (by simpa using h)]
    · unfold impl_TableOk.f
      refine bs (inRange _ _ _) ?_
      rw [if_neg (by simpa using h)]
theorem isize (l : List S33) (m : Int) (hl : l.length ≤ 1048580) (hS : S l ≤ 1000000000) : ∀ k, l.length < k → impl_SizeOf.f k m l = some (S l) := by
  obtain ⟨r, h1, h2⟩ := size_both m l hl
  intro k hk
  have := h1 k hk
  rw [size l m hl hS k hk] at this
  rw [h2 k hk, ← this]
theorem sTok (l : List S33) (m : Int) (hl : l.length ≤ 1048580) (hS : S l ≤ 1000000000) : ∀ k, l.length < k → spec_TableOk.f k m l = some (decide (0 ≤ m ∧ m ≤ 4096 ∧ S l ≤ m)) := by
  intro k hk
  unfold spec_TableOk.f
  refine bs (l1In _ _ _) ?_
  by_cases h : 0 ≤ m ∧ m ≤ 4096
  · rw [if_pos (by simpa using h)]
    refine bs (size l m hl hS k hk) ?_
    congr 1
    simp only [decide_eq_decide]
    omega
  · rw [if_neg (by simpa using h)]
    congr 1
    symm
    simp only [decide_eq_false_iff_not]
    omega
theorem iTok (l : List S33) (m : Int) (hl : l.length ≤ 1048580) (hS : S l ≤ 1000000000) : ∀ k, l.length < k → impl_TableOk.f k m l = some (decide (0 ≤ m ∧ m ≤ 4096 ∧ S l ≤ m)) := by
  intro k hk
  unfold impl_TableOk.f
  refine bs (inRange _ _ _) ?_
  by_cases h : 0 ≤ m ∧ m ≤ 4096
  · rw [if_pos (by simpa using h)]
    refine bs (isize l m hl hS k hk) ?_
    congr 1
    simp only [decide_eq_decide]
    omega
  · rw [if_neg (by simpa using h)]
    congr 1
    symm
    simp only [decide_eq_false_iff_not]
    omega
end Go.Proofs.Ytlgfcpmihocheaa.LibRz
