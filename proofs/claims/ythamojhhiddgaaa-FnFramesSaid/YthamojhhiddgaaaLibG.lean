/- GetBig, the reference's and the program's: both come to one value, told by a fold over the bytes. Condition: each theorem's own bounds. -/
import Derived.Test.YthamojhhiddgaaaLibU
import Derived.Test.YthamojhhiddgaaaAx12
set_option linter.unusedVariables false
set_option linter.unusedSimpArgs false
namespace Go.Proofs.Ythamojhhiddgaaa.LibG
open Go.RowKit Go.Proofs.Ythamojhhiddgaaa.A Go.Proofs.YthamojhhiddgaaaW.PrintWords Go.Proofs.YthamojhhiddgaaaW.PrintLast Go.Proofs.YthamojhhiddgaaaW.PrintMore Go.Proofs.Ythamojhhiddgaaa.LibU
def gbStep (n x : Int) : Int := Go.bits .or .i64 (wrap64 (n * 256)) (wrap64 x)
def gbFold (n : Int) (ys : List Int) : Int := ys.foldl gbStep n
def gbOk (l : List Int) (a b : Int) : Prop := 1 ≤ b ∧ b ≤ 7 ∧ 0 ≤ a ∧ a ≤ (l.length : Int) - b
instance (l : List Int) (a b : Int) : Decidable (gbOk l a b) := by unfold gbOk; infer_instance
def gb (l : List Int) (a b : Int) : Int × Bool := if gbOk l a b then (gbFold 0 ((l.take (a + b).toNat).drop a.toNat), true) else (0, false)

theorem cut_get (l : List Int) (a b i : Nat) (hi : i < b) (hl : a + b ≤ l.length) : ((l.take (a + b)).drop a).getD i 0 = l.getD (a + i) 0 := by
  simp only [List.getD_eq_getElem?_getD, List.getElem?_drop, List.getElem?_take]
  rw [if_pos (by omega)]
theorem cut_drop (l : List Int) (a b i : Nat) (hi : i < b) (hl : a + b ≤ l.length) : ((l.take (a + b)).drop a).drop i = l.getD (a + i) 0 :: ((l.take (a + b)).drop a).drop (i + 1) := by
  have hlen : ((l.take (a + b)).drop a).length = b := by simp; omega
  rw [List.drop_eq_getElem_cons (by omega)]
  congr 1
  have := cut_get l a b i hi hl
  rw [List.getD_eq_getElem?_getD, List.getElem?_eq_getElem (by omega)] at this
  exact this

theorem impl_gb_l (y : List Int) (hl : y.length ≤ 140737488351232) (d : Nat) : ∀ (k i : Nat) (n : Int), i ≤ y.length → y.length - i = d → d < k →
    impl_GetBig.l0 k n y (y.length : Int) (i : Int) = some (gbFold n (y.drop i), true) := by
  induction d with
  | zero =>
    intro k i n hi hd hk
    obtain ⟨k, rfl⟩ := ix (show 0 < k by omega)
    simp only [impl_GetBig.l0]
    rw [if_neg (by omega), List.drop_of_length_le (by omega)]
    rfl
  | succ d ih =>
    intro k i n hi hd hk
    obtain ⟨k, rfl⟩ := ix (show 0 < k by omega)
    simp only [impl_GetBig.l0]
    rw [w64 (x := (i : Int) + 1) (by omega) (by omega), if_pos (by omega), if_pos (by omega), if_pos (by omega), List.drop_eq_getElem_cons (by omega)]
    have e : rd y (i : Int) = y[i]'(by omega) := by rw [rd_nat, List.getD_eq_getElem?_getD, List.getElem?_eq_getElem (by omega)]; rfl
    rw [e]
    exact ih k (i + 1) _ (by omega) (by omega) (by omega)

theorem impl_gb {l : List Int} {a b : Int} (hl : l.length ≤ 140737488351232) (ha : -9223372036854775808 ≤ a ∧ a ≤ 9223372036854775807) (hb : -9223372036854775808 ≤ b ∧ b ≤ 9223372036854775807) :
    ∃ K, ∀ k, K ≤ k → impl_GetBig.f k l a b = some (gb l a b) := by
  refine ⟨12, fun k hk => ?_⟩
  obtain ⟨k, rfl⟩ := ix (show 0 < k by omega)
  unfold impl_GetBig.f gb
  rw [inRange]
  simp only [Option.bind_some]
  by_cases h1 : 1 ≤ b ∧ b ≤ 7
  · rw [if_pos (by simpa using h1)]
    rw [w64 (x := (l.length : Int) - b) (by omega) (by omega)]
    by_cases h2 : a < 0
    · rw [if_pos h2, if_neg (by unfold gbOk; omega)]
      simp [impl_GetBig.j0]
    · rw [if_neg h2]
      by_cases h3 : a > (l.length : Int) - b
      · rw [if_neg (by unfold gbOk; omega)]
        simp only [impl_GetBig.j0]
        rw [if_pos (by simpa using h3)]
      · rw [if_pos (by unfold gbOk; omega)]
        simp only [impl_GetBig.j0]
        rw [if_neg (by simpa using h3)]
        obtain ⟨a, rfl⟩ := Int.eq_ofNat_of_zero_le (show 0 ≤ a by omega)
        obtain ⟨b, rfl⟩ := Int.eq_ofNat_of_zero_le (show 0 ≤ b by omega)
        have e : ((a : Int) + (b : Int)).toNat = a + b := by omega
        rw [w64 (x := (a : Int) + (b : Int)) (by omega) (by omega), if_pos (by omega), if_pos (by omega), if_pos (by omega), e]
        simp only [Option.bind_some]
        have hlen : ((l.take (a + b)).drop a).length = b := by simp; omega
        have := impl_gb_l ((l.take (a + b)).drop a) (by omega) b k 0 0 (by omega) (by omega) (by omega)
        simpa using this
  · rw [if_neg (by simpa using h1), if_neg (by unfold gbOk; omega)]
    simp [impl_GetBig.j0]
end Go.Proofs.Ythamojhhiddgaaa.LibG
