/- putBig: the bytes of a number. Condition: each theorem's own bounds. -/
import Derived.Test.YtkhcnmjgojkkoaaLibB
import Derived.Test.YtkhcnmjgojkkoaaLibUs
import Derived.Test.YtkhcnmjgojkkoaaAx59
set_option linter.unusedVariables false
set_option linter.unusedSimpArgs false
namespace Go.Proofs.Ytkhcnmjgojkkoaa.LibB
open Go.RowKit Go.Proofs.Ytkhcnmjgojkkoaa.A Go.Proofs.YtkhcnmjgojkkoaaW.PrintWords Go.Proofs.YtkhcnmjgojkkoaaW.PrintLast Go.Proofs.YtkhcnmjgojkkoaaW.PrintMore Go.Proofs.Ytkhcnmjgojkkoaa.LibU
theorem spec_pb_l (n : Int) (d : Nat) : ∀ (k : Nat) (x : List Int), d ≤ 8 → d < k → x.length + d ≤ 140737488355328 → spec_PutBig.l0 k n x ((d : Int) - 1) = some (x ++ pb n d) := by
  induction d with
  | zero =>
    intro k x _ hk _
    obtain ⟨k, rfl⟩ := ix (show 0 < k by omega)
    simp only [spec_PutBig.l0]
    rw [if_neg (by omega)]
    simp [pb]
  | succ d ih =>
    intro k x hd hk hx
    obtain ⟨k, rfl⟩ := ix (show 0 < k by omega)
    have e : (((d + 1 : Nat) : Int) - 1) = (d : Int) := by omega
    rw [e]
    simp only [spec_PutBig.l0]
    rw [if_pos (by omega), if_pos (u64_nn _), if_pos (by omega), sh8 n d (by omega), w64 (by omega) (by omega), ih k _ (by omega) (by omega) (by simp; omega)]
    simp [pb]
theorem spec_putBig {l : List Int} {n k : Int} (hl : l.length ≤ 140737488351232) : ∀ j, 12 ≤ j → spec_PutBig.f j l n k = some (putBig l n k) := by
  intro j hj
  obtain ⟨j, rfl⟩ := ix (show 0 < j by omega)
  have h : ∀ m : Int, spec_PutBig.j0 (j + 1) m k l = some (if 1 ≤ k ∧ k ≤ 8 then l ++ pb m k.toNat else l) := by
    intro m
    simp only [spec_PutBig.j0]
    rw [l1In]
    simp only [Option.bind_some]
    by_cases h1 : 1 ≤ k ∧ k ≤ 8
    · rw [if_pos (by simpa using h1), if_pos h1]
      obtain ⟨k, rfl⟩ := Int.eq_ofNat_of_zero_le (show 0 ≤ k by omega)
      rw [w64 (by omega) (by omega)]
      exact spec_pb_l m k j l (by omega) (by omega) (by omega)
    · rw [if_neg (by simpa using h1), if_neg h1]
  unfold spec_PutBig.f putBig
  simp only [Option.bind_some, List.nil_append, List.length_nil, Nat.zero_add]
  rw [if_pos (by omega)]
  by_cases h0 : n < 0
  · rw [if_pos h0, if_pos h0, h]
  · rw [if_neg h0, if_neg h0, h]
end Go.Proofs.Ytkhcnmjgojkkoaa.LibB
