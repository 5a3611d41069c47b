/- GetBig, the reference's and the program's: both come to one value, told by a fold over the bytes. Condition: each theorem's own bounds. -/
import Derived.Test.YtlgfcpmihocheaaLibG
import Derived.Test.YtlgfcpmihocheaaLibUs
import Derived.Test.YtlgfcpmihocheaaAx10
set_option linter.unusedVariables false
set_option linter.unusedSimpArgs false
namespace Go.Proofs.Ytlgfcpmihocheaa.LibG
open Go.RowKit Go.Proofs.Ytlgfcpmihocheaa.A Go.Proofs.YtlgfcpmihocheaaW.PrintWords Go.Proofs.YtlgfcpmihocheaaW.PrintLast Go.Proofs.YtlgfcpmihocheaaW.PrintMore Go.Proofs.Ytlgfcpmihocheaa.LibU
theorem spec_gb_l (l : List Int) (hl : l.length ≤ 140737488351232) (a b : Nat) (hab : a + b ≤ l.length) (d : Nat) : ∀ (k i : Nat) (n : Int), i ≤ b → b - i = d → d < k →
    spec_GetBig.l0 k l (a : Int) (b : Int) n (i : Int) = some (gbFold n (((l.take (a + b)).drop a).drop i), true) := by
  induction d with
  | zero =>
    intro k i n hi hd hk
    obtain ⟨k, rfl⟩ := ix (show 0 < k by omega)
    have hlen : ((l.take (a + b)).drop a).length = b := by simp; omega
    simp only [spec_GetBig.l0]
    rw [if_neg (by omega), List.drop_of_length_le (by omega)]
    rfl
  | succ d ih =>
    intro k i n hi hd hk
    obtain ⟨k, rfl⟩ := ix (show 0 < k by omega)
    simp only [spec_GetBig.l0]
    rw [w64 (x := (a : Int) + i) (by omega) (by omega), w64 (x := (i : Int) + 1) (by omega) (by omega), if_pos (by omega), if_pos (by omega), if_pos (by omega), cut_drop l a b i (by omega) hab]
    have e : rd l ((a : Int) + i) = l.getD (a + i) 0 := rd_nat l (a + i)
    rw [e]
    exact ih k (i + 1) _ (by omega) (by omega) (by omega)
theorem spec_gb {l : List Int} {a b : Int} (hl : l.length ≤ 140737488351232) (ha : -9223372036854775808 ≤ a ∧ a ≤ 9223372036854775807) (hb : -9223372036854775808 ≤ b ∧ b ≤ 9223372036854775807) :
    ∃ K, ∀ k, K ≤ k → spec_GetBig.f k l a b = some (gb l a b) := by
  refine ⟨12, fun k hk => ?_⟩
  obtain ⟨k, rfl⟩ := ix (show 0 < k by omega)
  unfold spec_GetBig.f gb
  rw [l1In]
  simp only [Option.bind_some]
  by_cases h1 : 1 ≤ b ∧ b ≤ 7
  · rw [if_pos (by simpa using h1)]
    rw [w64 (x := (l.length : Int) - b) (by omega) (by omega)]
    by_cases h2 : a < 0
    · rw [if_pos h2, if_neg (by unfold gbOk; omega)]
      simp [spec_GetBig.j0]
    · rw [if_neg h2]
      by_cases h3 : a > (l.length : Int) - b
      · rw [if_neg (by unfold gbOk; omega)]
        simp only [spec_GetBig.j0]
        rw [if_pos (by simpa using h3)]
      · rw [if_pos (by unfold gbOk; omega)]
        simp only [spec_GetBig.j0]
        rw [if_neg (by simpa using h3)]
        obtain ⟨a, rfl⟩ := Int.eq_ofNat_of_zero_le (show 0 ≤ a by omega)
        obtain ⟨b, rfl⟩ := Int.eq_ofNat_of_zero_le (show 0 ≤ b by omega)
        have := spec_gb_l l hl a b (by omega) b k 0 0 (by omega) (by omega) (by omega)
        have e : ((a : Int) + (b : Int)).toNat = a + b := by omega
        rw [e]
        simpa using this
  · rw [if_neg (by simpa using h1), if_neg (by unfold gbOk; omega)]
    simp [spec_GetBig.j0]
end Go.Proofs.Ytlgfcpmihocheaa.LibG
