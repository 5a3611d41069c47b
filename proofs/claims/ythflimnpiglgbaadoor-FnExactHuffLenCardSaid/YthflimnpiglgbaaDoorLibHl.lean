/- HuffLen: the reference's sum is the program's. Condition: each theorem's own bounds. -/
import Derived.Test.YthflimnpiglgbaaDoorLibHc
import Derived.Test.YthflimnpiglgbaaDoorAx3
set_option linter.unusedVariables false
set_option linter.unusedSimpArgs false
namespace Go.Proofs.YthflimnpiglgbaaDoor.LibHl
open Go Go.RowKit Go.Proofs.YthflimnpiglgbaaDoor.A Go.Proofs.YthflimnpiglgbaaDoorW.PrintWords Go.Proofs.YthflimnpiglgbaaDoorW.PrintLast Go.Proofs.YthflimnpiglgbaaDoorW.PrintMore Go.Proofs.YthflimnpiglgbaaDoor.LibU Go.Proofs.YthflimnpiglgbaaDoor.LibHuff Go.Proofs.YthflimnpiglgbaaDoor.LibWrap Go.Proofs.YthflimnpiglgbaaDoor.LibHc
theorem loop (s : ByteArray) (hs : s.size ≤ 140737488351232) (d : Nat) : ∀ (k i : Nat), i ≤ s.size → s.size - i = d → d < k → spec_HuffLen.l0 k s lensI (hsum s i) (i : Int) = some (hlen s) := by
  have hl := lensI_len
  induction d with
  | zero =>
    intro k i hi hd hk
    obtain ⟨k, rfl⟩ := ix (show 0 < k by omega)
    simp only [spec_HuffLen.l0]
    have : i = s.size := by omega
    subst this
    rw [if_neg (by omega)]
    rfl
  | succ d ih =>
    intro k i hi hd hk
    obtain ⟨k, rfl⟩ := ix (show 0 < k by omega)
    have hb := bt_range s (i : Int)
    simp only [spec_HuffLen.l0]
    rw [if_pos (by omega), if_pos (by omega), if_pos hb.1, if_pos (by omega), w64 (x := (i : Int) + 1) (by omega) (by omega)]
    exact ih k (i + 1) (by omega) (by omega) (by omega)
theorem spec_hl {s : ByteArray} (hs : s.size ≤ 140737488351232) : ∀ k, s.size < k → spec_HuffLen.f k s = some (hlen s) := by
  intro k hk
  unfold spec_HuffLen.f
  refine bs lens ?_
  exact loop s hs s.size k 0 (by omega) (by omega) (by omega)
end Go.Proofs.YthflimnpiglgbaaDoor.LibHl
