/- Huff: the reference's loops are the program's. Condition: each theorem's own bounds. -/
import Derived.Test.YthflimnpiglgbaaDoorLibUx
import Derived.Test.YthflimnpiglgbaaDoorAx9
import Derived.Test.YthflimnpiglgbaaDoorAx10
set_option linter.unusedVariables false
set_option linter.unusedSimpArgs false
namespace Go.Proofs.YthflimnpiglgbaaDoor.LibSh
open Go Go.RowKit Go.Proofs.YthflimnpiglgbaaDoor.A Go.Proofs.YthflimnpiglgbaaDoorW.PrintWords Go.Proofs.YthflimnpiglgbaaDoorW.PrintLast Go.Proofs.YthflimnpiglgbaaDoorW.PrintMore Go.Proofs.YthflimnpiglgbaaDoor.LibHuff Go.Proofs.YthflimnpiglgbaaDoor.LibHuffB
theorem same (k : Nat) : (∀ s a b l x y z, spec_Huff.l0 k s a b l x y z = hf0 k s a b l x y z) ∧ (∀ s a b l x y z, spec_Huff.l1 k s a b l x y z = hf1 k s a b l x y z) := by
  induction k with
  | zero => exact ⟨fun _ _ _ _ _ _ _ => rfl, fun _ _ _ _ _ _ _ => rfl⟩
  | succ k ih =>
    refine ⟨fun s a b l x y z => ?_, fun s a b l x y z => ?_⟩
    · simp only [spec_Huff.l0, hf0, ih.2]
    · simp only [spec_Huff.l1, hf1, ih.1, ih.2]
theorem spec_huff (s : ByteArray) (hs : s.size ≤ 10000000) : ∃ (K : Nat) (r : List Int), LibHb.Bytes r ∧ (r.length : Int) = hlen s ∧ r.length ≤ 5 * s.size + 1 ∧ (∀ k, K ≤ k → spec_Huff.f k s = some r) ∧ (∀ k, K ≤ k → impl_Huff.f k s = some r) ∧ (∀ k, K ≤ k → LibWrap2.unF k r = some (s, true)) := by
  obtain ⟨K, r, h1, h2, h3, h4⟩ := LibUx.back s hs
  obtain ⟨K2, r2, p, f1, f2, f3, f4, f5⟩ := LibHf.huff_bits s (by omega) [] (by intro x hx; cases hx) (by simp)
  have e : r = r2 := by
    have a := h3 (K + K2) (by omega)
    have b := f5 (K + K2) (by omega)
    rw [a] at b
    exact Option.some.inj b
  refine ⟨K + 9000, r, h1, h2, by rw [e]; simpa using f4, fun k hk => ?_, fun k hk => h3 k (by omega), fun k hk => h4 k (by omega)⟩
  unfold spec_Huff.f
  refine LibUh.bs LibHc.lens ?_
  refine LibUh.bs (LibHc.codes k (by omega)) ?_
  rw [(same k).1]
  exact h3 k (by omega)
end Go.Proofs.YthflimnpiglgbaaDoor.LibSh
