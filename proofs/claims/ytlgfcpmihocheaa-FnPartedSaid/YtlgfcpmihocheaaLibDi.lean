/- Drawn numbers out of a list, and drawn bytes, without a drawn number of them. Condition: each theorem's own bounds. -/
import Derived.Test.YtlgfcpmihocheaaLibD
import Derived.Test.YtlgfcpmihocheaaAx17
set_option linter.unusedVariables false
set_option linter.unusedSimpArgs false
namespace Go.Proofs.Ytlgfcpmihocheaa.LibD
open Go.RowKit Go.Proofs.Ytlgfcpmihocheaa.A Go.Proofs.YtlgfcpmihocheaaW.PrintWords Go.Proofs.YtlgfcpmihocheaaW.PrintLast Go.Proofs.YtlgfcpmihocheaaW.PrintMore Go.Proofs.Ytlgfcpmihocheaa.LibU Go.Proofs.Ytlgfcpmihocheaa.LibBits
theorem l1Int (b : List Int) (i h : Int) (l : List Int) (hl : 0 < l.length ∧ l.length ≤ 1000) (hi : CI b i) : ∃ x i' h', spec_l1Int.f b i h l = some (x, i', h') ∧ x ∈ l ∧ CI b i' := by
  unfold spec_l1Int.f
  obtain ⟨x, i', h', e, hx0, hx1, _, hi'⟩ := l1Below b i h l.length (by omega) hi
  rw [e]
  simp only [Option.bind_some]
  have hx := hx1 (by omega)
  rw [if_pos hx0, if_pos hx]
  refine ⟨_, _, _, rfl, ?_, hi'⟩
  unfold rd
  rw [List.getD_eq_getElem?_getD, List.getElem?_eq_getElem (show x.toNat < l.length by omega)]
  exact List.getElem_mem _
def Bytes (l : List Int) : Prop := ∀ x ∈ l, 0 ≤ x ∧ x ≤ 255
theorem l1Bytes (b : List Int) (i h n : Int) (hn : n ≤ 1000000) (hi : CI b i) : ∃ K l i' h', (∀ k, K ≤ k → spec_l1Bytes.f k b i h n = some (l, i', h')) ∧ Bytes l ∧ (l.length : Int) = max n 0 ∧ CI b i' := by
  have key : ∀ (d : Nat) (j : Nat) (x : List Int) (i h : Int), CI b i → Bytes x → x.length = j → n.toNat - j = d → (j : Int) ≤ max n 0 → ∃ l i' h', (∀ k, d < k → spec_l1Bytes.l0 k n x (j : Int) b i h = some (l, i', h')) ∧ Bytes l ∧ (l.length : Int) = max n 0 ∧ CI b i' := by
    intro d
    induction d with
    | zero =>
      intro j x i h hi hx hj hd hjn
      refine ⟨x, i, h, fun k hk => ?_, hx, by omega, hi⟩
      obtain ⟨k, rfl⟩ := ix (show 0 < k by omega)
      simp only [spec_l1Bytes.l0]
      rw [if_neg (by omega)]
    | succ d ih =>
      intro j x i h hi hx hj hd hjn
      obtain ⟨y, i1, q1, e1, hy0, hy1, hi1⟩ := l1Byte b i h hi
      obtain ⟨l, i', h', e, hl, hln, hi'⟩ := ih (j + 1) (x ++ [y % 256]) i1 q1 hi1 (by
        intro z hz
        rcases List.mem_append.1 hz with hz | hz
        · exact hx z hz
        · rw [List.mem_singleton.1 hz]; omega) (by simp [hj]) (by omega) (by omega)
      refine ⟨l, i', h', fun k hk => ?_, hl, hln, hi'⟩
      obtain ⟨k, rfl⟩ := ix (show 0 < k by omega)
      simp only [spec_l1Bytes.l0]
      rw [if_pos (by omega), e1]
      simp only [Option.bind_some]
      rw [if_pos (by omega), w64 (x := (j : Int) + 1) (by omega) (by omega)]
      exact e k (by omega)
  obtain ⟨l, i', h', e, h1, h2, h3⟩ := key n.toNat 0 [] i h hi (by intro x hx; cases hx) rfl (by omega) (by omega)
  exact ⟨n.toNat + 1, l, i', h', fun k hk => e k (by omega), h1, h2, h3⟩
end Go.Proofs.Ytlgfcpmihocheaa.LibD
