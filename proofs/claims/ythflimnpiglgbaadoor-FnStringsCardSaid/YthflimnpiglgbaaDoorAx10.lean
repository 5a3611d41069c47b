/- Written by a program of this session, out of the translation: functions as plain Lean functions, and that the machine's calls answer as they do. Condition: none beyond each theorem's own. -/
import Derived.Test.YthflimnpiglgbaaDoorAx0
import Derived.Test.YthflimnpiglgbaaDoorAx1
import Derived.Test.YthflimnpiglgbaaDoorLibK
namespace Go.Proofs.YthflimnpiglgbaaDoor.A
open Go.RowKit Go.Proofs.YthflimnpiglgbaaDoorW.PrintWords Go.Proofs.YthflimnpiglgbaaDoorW.PrintLast Go.Proofs.YthflimnpiglgbaaDoorW.PrintMore
attribute [local go_sem] max2_int min2_int max_two min_two max_three min_three max_four min_four   -- for this text's walks alone
set_option linter.unusedVariables false
set_option linter.unusedSimpArgs false

-- NOT PRINTED: function 44 (impl_huff)

/-! ### impl_Huff: function 23 (by hand: the shelf's contract) -/
def impl_Huff.f (k : Nat) (a0 : ByteArray) : Option (List Int) := Go.Proofs.YthflimnpiglgbaaDoor.LibHuffB.hf0 k a0 Go.Proofs.YthflimnpiglgbaaDoor.LibHuff.lensI Go.Proofs.YthflimnpiglgbaaDoor.LibHuff.bitsI ([] : List Int) 0 0 0
theorem impl_Huff.mono : ∀ a0 k, LeO (impl_Huff.f k a0) (impl_Huff.f (k + 1) a0) := fun a0 k => Go.Proofs.YthflimnpiglgbaaDoor.LibHuffB.hf_mono k a0 _ _ _ _ _ _
theorem impl_Huff.calls (k : Nat) (a0 : ByteArray) (r : List Int) (w : World) (ht : TB w) (h : impl_Huff.f k a0 = some r) : Calls Tryd.prog 23 #[.string a0] w fun e w' => ∃ v0_ : Value, e = .returned (v0_) ∧ Kd.R (Kd.int .u8) 5 w' w.heap.size (fun _ => True) v0_ r ∧ Below w.heap.size w w' :=
 Go.Proofs.YthflimnpiglgbaaDoor.LibWrap.Huff_calls k a0 r w ht h

end Go.Proofs.YthflimnpiglgbaaDoor.A
