/- The reference's GetFrame comes to the same. Condition: each theorem's own bounds. -/
import Derived.Test.YtlgfcpmihocheaaLibGF
import Derived.Test.YtlgfcpmihocheaaLibGs
import Derived.Test.YtlgfcpmihocheaaAx11
set_option linter.unusedVariables false
set_option linter.unusedSimpArgs false
namespace Go.Proofs.Ytlgfcpmihocheaa.LibGF
open Go.RowKit Go.Proofs.Ytlgfcpmihocheaa.A Go.Proofs.YtlgfcpmihocheaaW.PrintWords Go.Proofs.YtlgfcpmihocheaaW.PrintLast Go.Proofs.Ytlgfcpmihocheaa.LibU Go.Proofs.Ytlgfcpmihocheaa.LibG
theorem gb_snd (l : List Int) (a b : Int) : (gb l a b).2 = decide (gbOk l a b) := by unfold gb; split <;> simp_all
theorem spec_gf {l : List Int} {a : Int} (hl : l.length ≤ 140737488351232) (hb : BytesL l) (ha : -9223372036854775808 ≤ a ∧ a ≤ 9223372036854775807) : ∃ K, ∀ k, K ≤ k → spec_GetFrame.f k l a = some (gf l a) := by
  obtain ⟨K1, h1⟩ := spec_gb (l := l) (a := a) (b := 3) hl ha (by omega)
  obtain ⟨K2, h2⟩ := spec_gb (l := l) (a := wrap64 (a + 5)) (b := 4) hl (by unfold wrap64; omega) (by omega)
  refine ⟨K1 + K2 + 1, fun k hk => ?_⟩
  obtain ⟨k, rfl⟩ := ix (show 0 < k by omega)
  have g3 := gb_bounds (l := l) (a := a) (b := 3) hb (by omega)
  unfold spec_GetFrame.f
  refine bs (h1 _ (by omega)) (bs (h2 _ (by omega)) ?_)
  rw [gb_snd, gb_snd]
  by_cases hr : a < 0 ∨ a > (l.length : Int) - 9
  · have e : gf l a = (0, 0, 0, [], a, 1) := by unfold gf; rw [if_pos hr]
    rw [e]
    by_cases h3 : gbOk l a 3
    · rw [if_pos (decide_eq_true h3)]
      have h4 : ¬ gbOk l (wrap64 (a + 5)) 4 := by
        unfold gbOk at h3 ⊢
        rw [w64 (x := a + 5) (by omega) (by omega)]
        omega
      simp only [spec_GetFrame.j0]
      rw [decide_eq_false h4]
      exact ifp rfl rfl
    · rw [if_neg (by simpa using h3)]
      simp only [spec_GetFrame.j0]
      rw [if_pos trivial]
  · have h5 : wrap64 (a + 5) = a + 5 := w64 (by omega) (by omega)
    have h3 : gbOk l a 3 := by unfold gbOk; omega
    have h4 : gbOk l (a + 5) 4 := by unfold gbOk; omega
    rw [if_pos (decide_eq_true h3), h5, decide_eq_true h4]
    simp only [spec_GetFrame.j0]
    unfold gf
    rw [if_neg hr, if_neg (by simp)]
    by_cases c1 : (gb l a 3).1 > 1000
    · rw [if_pos c1, if_pos c1]
    · rw [if_neg c1, if_neg c1, w64 (x := (l.length : Int) - a) (by omega) (by omega), w64 (x := (l.length : Int) - a - 9) (by omega) (by omega)]
      by_cases c2 : (gb l a 3).1 > (l.length : Int) - a - 9
      · rw [if_pos c2, if_pos c2]
      · rw [if_neg c2, if_neg c2, w64 (x := a + 9) (by omega) (by omega), w64 (x := a + 3) (by omega) (by omega), w64 (x := a + 4) (by omega) (by omega), w64 (x := a + 9 + (gb l a 3).1) (by omega) (by omega), if_pos (by omega), if_pos (by omega), if_pos (by omega), if_pos (by omega)]
        simp only [Option.bind_some]
        rw [if_pos (by omega), if_pos (by omega), if_pos (by omega), if_pos (by simp; omega)]
        rfl
end Go.Proofs.Ytlgfcpmihocheaa.LibGF
