/- Settings: what GetSettings comes to; the marks of settings. Condition: each theorem's own bounds. -/
import Derived.Test.YtkhcnmjgojkkoaaLibG
import Derived.Test.YtkhcnmjgojkkoaaAx33
set_option linter.unusedVariables false
set_option linter.unusedSimpArgs false
namespace Go.Proofs.Ytkhcnmjgojkkoaa.LibS
open Go.RowKit Go.Proofs.Ytkhcnmjgojkkoaa.A Go.Proofs.YtkhcnmjgojkkoaaW.PrintWords Go.Proofs.YtkhcnmjgojkkoaaW.PrintLast Go.Proofs.Ytkhcnmjgojkkoaa.LibU Go.Proofs.Ytkhcnmjgojkkoaa.LibG
/-- The settings that d times six bytes say, from a place on. -/
def gs (l : List Int) : Nat → Nat → List S51
  | 0, _ => []
  | d + 1, i => ⟨(gb l i 2).1, (gb l ((i : Int) + 2) 4).1⟩ :: gs l d (i + 6)
theorem gs_length (l : List Int) (d : Nat) : ∀ i, (gs l d i).length = d := by
  induction d with
  | zero => intro i; rfl
  | succ d ih => intro i; simp [gs, ih]
theorem impl_gs_l (l : List Int) (hl : l.length ≤ 1048576) (d : Nat) : ∀ (i : Nat) (x : List S51), i + 6 * d = l.length → x.length ≤ i → ∃ K, ∀ k, K ≤ k → impl_GetSettings.l0 k l x (i : Int) = some (x ++ gs l d i, true) := by
  induction d with
  | zero =>
    intro i x hi hx
    refine ⟨1, fun k hk => ?_⟩
    obtain ⟨k, rfl⟩ := ix (show 0 < k by omega)
    simp only [impl_GetSettings.l0]
    rw [if_neg (by omega)]
    simp [gs]
  | succ d ih =>
    intro i x hi hx
    obtain ⟨K1, h1⟩ := impl_gb (l := l) (a := i) (b := 2) (by omega) (by omega) (by omega)
    obtain ⟨K2, h2⟩ := impl_gb (l := l) (a := (i : Int) + 2) (b := 4) (by omega) (by omega) (by omega)
    obtain ⟨K3, h3⟩ := ih (i + 6) (x ++ [⟨(gb l i 2).1, (gb l ((i : Int) + 2) 4).1⟩]) (by omega) (by simp; omega)
    refine ⟨K1 + K2 + K3 + 1, fun k hk => ?_⟩
    obtain ⟨k, rfl⟩ := ix (show 0 < k by omega)
    simp only [impl_GetSettings.l0]
    rw [if_pos (by omega)]
    refine bs (h1 k (by omega)) ?_
    rw [w64 (x := (i : Int) + 2) (by omega) (by omega)]
    refine bs (h2 k (by omega)) ?_
    rw [if_pos (by omega), w64 (x := (i : Int) + 6) (by omega) (by omega)]
    have := h3 k (by omega)
    simpa [gs] using this
def getSettings (l : List Int) : List S51 × Bool := if l.length % 6 = 0 then (gs l (l.length / 6) 0, true) else ([], false)
theorem getSettings_length (l : List Int) : (getSettings l).1.length ≤ l.length := by
  unfold getSettings
  split
  · simp only [gs_length]; omega
  · simp
theorem impl_getSettings {l : List Int} (hl : l.length ≤ 1048576) : ∃ K, ∀ k, K ≤ k → impl_GetSettings.f k l = some (getSettings l) := by
  by_cases h : l.length % 6 = 0
  · obtain ⟨K, hK⟩ := impl_gs_l l hl (l.length / 6) 0 [] (by omega) (by simp)
    refine ⟨K, fun k hk => ?_⟩
    unfold impl_GetSettings.f getSettings
    rw [if_pos (by omega), if_pos h]
    exact hK k hk
  · refine ⟨0, fun k hk => ?_⟩
    unfold impl_GetSettings.f getSettings
    rw [if_neg (by omega), if_neg h]
end Go.Proofs.Ytkhcnmjgojkkoaa.LibS
