/- A number's text: the reference's digits are those of strconv.Itoa. Condition: each theorem's own bounds. -/
import Derived.Test.YtlgfcpmihocheaaDoorLibU
import Derived.Test.YtlgfcpmihocheaaDoorAx1
import Derived.Test.YtlgfcpmihocheaaDoorAx2
import Derived.Test.YtlgfcpmihocheaaDoorAx3
import Derived.Test.YtlgfcpmihocheaaDoorAx4
set_option linter.unusedVariables false
set_option linter.unusedSimpArgs false
namespace Go.Proofs.YtlgfcpmihocheaaDoor.LibTx
open Go.RowKit Go.Proofs.YtlgfcpmihocheaaDoor.A Go.Proofs.YtlgfcpmihocheaaDoorW.PrintWords Go.Proofs.YtlgfcpmihocheaaDoorW.PrintLast Go.Proofs.YtlgfcpmihocheaaDoorW.PrintMore Go.Proofs.YtlgfcpmihocheaaDoor.LibU
theorem strOne (n : Nat) : strOfNums [(n : Int)] = ⟨#[UInt8.ofNat n]⟩ := by
  simp [strOfNums]
theorem decDigits_pos (u : Nat) : 1 ≤ Lib.nDigits u := by
  rw [Lib.nDigits]; split <;> omega
theorem nDigits_le (u : Nat) : ∀ k, 1 ≤ k → u < 10 ^ k → Lib.nDigits u ≤ k := by
  intro k
  induction k generalizing u with
  | zero => intro h; omega
  | succ k ih =>
    intro _ h
    by_cases h10 : u < 10
    · rw [Lib.nDigits_small h10]; omega
    · rw [Lib.nDigits_big h10]
      have hk : 1 ≤ k := by
        rcases k with _ | k
        · simp at h; omega
        · omega
      have := ih (u / 10) hk (by rw [Nat.pow_succ] at h; omega)
      omega
theorem bytes_ext {a b : ByteArray} (h : a.data.toList = b.data.toList) : a = b := by
  cases a; cases b; simp at h; rw [h]
theorem l1Text (u : Nat) : u ≤ 1000000000 → ∀ k, Lib.nDigits u ≤ k → spec_l1Text.f k (u : Int) = some ⟨(Lib.decDigits u).toArray⟩ := by
  induction u using Nat.strongRecOn with
  | _ u ih =>
    intro hu k hk
    have := decDigits_pos u
    obtain ⟨k, rfl⟩ := ix (show 0 < k by omega)
    simp only [spec_l1Text.f]
    by_cases h : u < 10
    · rw [if_pos (by omega), Lib.decDigits_one h, w64 (by omega) (by omega), show (48 + (u : Int)) % 256 = ((48 + u : Nat) : Int) by omega, strOne]
    · rw [Lib.nDigits_big h] at hk
      rw [if_neg (by omega), show Int.tdiv (u : Int) 10 = ((u / 10 : Nat) : Int) by rw [Int.tdiv_eq_ediv_of_nonneg (by omega)]; omega, w64 (by omega) (by omega)]
      have hn : Lib.nDigits (u / 10) ≤ 10 := nDigits_le (u / 10) 10 (by omega) (by omega)
      refine bs (ih (u / 10) (by omega) (by omega) k (by omega)) ?_
      simp only [Option.bind_some]
      rw [show Int.tmod (u : Int) 10 = ((u % 10 : Nat) : Int) by rw [Int.tmod_eq_emod_of_nonneg (by omega)]; omega, w64 (by omega) (by omega), show (48 + ((u % 10 : Nat) : Int)) % 256 = ((48 + u % 10 : Nat) : Int) by omega, strOne]
      rw [if_pos (by
        show (Lib.decDigits (u / 10)).toArray.size + 1 ≤ _
        rw [List.size_toArray, Lib.decDigits_length]
        omega)]
      congr 1
      apply bytes_ext
      rw [ByteArray.toList_data_append]
      conv => rhs; rw [show Lib.decDigits u = Lib.decDigits (u / 10) ++ [UInt8.ofNat (48 + u % 10)] by rw [Lib.decDigits, dif_neg h]]
theorem l1In (a b c : Int) : spec_l1In.f a b c = some (decide (b ≤ a ∧ a ≤ c)) := by
  unfold spec_l1In.f
  by_cases h : a ≥ b
  · rw [if_pos h]; congr 1; simp only [decide_eq_decide]; omega
  · rw [if_neg h]; congr 1; symm; simp only [decide_eq_false_iff_not]; omega
/-- The text of a number. -/
def text (n : Int) : ByteArray := if 0 ≤ n ∧ n ≤ 1000000000 then ⟨(Lib.decDigits n.toNat).toArray⟩ else ⟨#[]⟩
theorem impl_text (n : Int) : impl_Text.f n = some (text n) := by
  unfold impl_Text.f text
  refine bs (inRange n 0 1000000000) ?_
  by_cases h : 0 ≤ n ∧ n ≤ 1000000000
  · rw [if_pos (by simpa using h), if_pos h]
    unfold strconv_Itoa_18.f
    rw [if_pos (by omega)]
    simp only [Option.bind_some]
    unfold Lib.itoa
    rw [if_neg (by omega)]
  · rw [if_neg (by simpa using h), if_neg h]
end Go.Proofs.YtlgfcpmihocheaaDoor.LibTx
