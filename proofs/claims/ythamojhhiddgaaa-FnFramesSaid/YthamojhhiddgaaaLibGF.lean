/- GetFrame: what it comes to. Condition: each theorem's own bounds. -/
import Derived.Test.YthamojhhiddgaaaLibGv
import Derived.Test.YthamojhhiddgaaaAx13
import Derived.Test.YthamojhhiddgaaaAx14
set_option linter.unusedVariables false
set_option linter.unusedSimpArgs false
namespace Go.Proofs.Ythamojhhiddgaaa.LibGF
open Go.RowKit Go.Proofs.Ythamojhhiddgaaa.A Go.Proofs.YthamojhhiddgaaaW.PrintWords Go.Proofs.YthamojhhiddgaaaW.PrintLast Go.Proofs.Ythamojhhiddgaaa.LibU Go.Proofs.Ythamojhhiddgaaa.LibG
def gf (l : List Int) (a : Int) : Int × Int × Int × List Int × Int × Int :=
  if a < 0 ∨ a > (l.length : Int) - 9 then (0, 0, 0, [], a, 1)
  else if (gb l a 3).1 > 1000 then (0, 0, 0, [], a, 2)
  else if (gb l a 3).1 > (l.length : Int) - a - 9 then (0, 0, 0, [], a, 1)
  else (wrap64 (rd l (a + 3)), wrap64 (rd l (a + 4)), Go.bits .and .i64 (gb l (a + 5) 4).1 2147483647, (l.take (a + 9 + (gb l a 3).1).toNat).drop (a + 9).toNat, a + 9 + (gb l a 3).1, 0)
theorem cloneF {l : List Int} (hl : l.length ≤ 140737488351232) : slices_Clone_byte_byte.f l = some l := by
  unfold slices_Clone_byte_byte.f
  simp only [Option.bind_some, List.nil_append, List.length_nil, Nat.zero_add]
  rw [if_pos (by omega)]
theorem impl_gf {l : List Int} {a : Int} (hl : l.length ≤ 140737488351232) (hb : BytesL l) (ha : -9223372036854775808 ≤ a ∧ a ≤ 9223372036854775807) : ∃ K, ∀ k, K ≤ k → impl_GetFrame.f k l a = some (gf l a) := by
  obtain ⟨K1, h1⟩ := impl_gb (l := l) (a := a) (b := 3) hl ha (by omega)
  by_cases hr : a < 0 ∨ a > (l.length : Int) - 9
  · refine ⟨1, fun k hk => ?_⟩
    obtain ⟨k, rfl⟩ := ix (show 0 < k by omega)
    unfold impl_GetFrame.f gf
    rw [if_pos hr, w64 (x := (l.length : Int) - 9) (by omega) (by omega)]
    by_cases h0 : a < 0
    · rw [if_pos h0]; simp only [impl_GetFrame.j0]; rw [if_pos trivial]
    · rw [if_neg h0]; simp only [impl_GetFrame.j0]; rw [if_pos (decide_eq_true (by omega))]
  · obtain ⟨K2, h2⟩ := impl_gb (l := l) (a := a + 5) (b := 4) hl (by omega) (by omega)
    refine ⟨K1 + K2 + 1, fun k hk => ?_⟩
    obtain ⟨k, rfl⟩ := ix (show 0 < k by omega)
    have g3 := gb_bounds (l := l) (a := a) (b := 3) hb (by omega)
    unfold impl_GetFrame.f gf
    rw [if_neg hr, w64 (x := (l.length : Int) - 9) (by omega) (by omega), if_neg (by omega)]
    simp only [impl_GetFrame.j0]
    rw [if_neg (by simp; omega)]
    refine bs (h1 k (by omega)) ?_
    rw [w64 (x := a + 5) (by omega) (by omega)]
    refine bs (h2 k (by omega)) ?_
    by_cases c1 : (gb l a 3).1 > 1000
    · rw [if_pos c1, if_pos c1]
    · rw [if_neg c1, if_neg c1, w64 (x := a + 9) (by omega) (by omega), w64 (x := (l.length : Int) - (a + 9)) (by omega) (by omega)]
      by_cases c2 : (gb l a 3).1 > (l.length : Int) - a - 9
      · rw [if_pos (by omega), if_pos c2]
      · rw [if_neg (by omega), if_neg c2, w64 (x := a + 3) (by omega) (by omega), w64 (x := a + 4) (by omega) (by omega), w64 (x := a + 9 + (gb l a 3).1) (by omega) (by omega), if_pos (by omega), if_pos (by omega), if_pos (by omega), if_pos (by omega), if_pos (by omega), if_pos (by omega), if_pos (by omega)]
        exact bs (cloneF (by simp; omega)) rfl
end Go.Proofs.Ythamojhhiddgaaa.LibGF
