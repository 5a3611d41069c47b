/- PutBig, putBig, Pad, PutGoAway: what they come to. Condition: each theorem's own bounds. -/
import Derived.Test.YtfjjnccfiepjcaaLibA2
import Derived.Test.YtfjjnccfiepjcaaAx13
import Derived.Test.YtfjjnccfiepjcaaAx14
import Derived.Test.YtfjjnccfiepjcaaAx33
set_option linter.unusedVariables false
set_option linter.unusedSimpArgs false
namespace Go.Proofs.Ytfjjnccfiepjcaa.LibA
open Go.RowKit Go.Proofs.Ytfjjnccfiepjcaa.A Go.Proofs.YtfjjnccfiepjcaaW.PrintWords Go.Proofs.YtfjjnccfiepjcaaW.PrintLast Go.Proofs.YtfjjnccfiepjcaaW.PrintMore
/-- The bytes of n: k of them, the highest first. -/
def pb (n : Int) : Nat → List Int
  | 0 => []
  | k + 1 => (n / 2 ^ (8 * k)) % 256 :: pb n k
theorem pb_length (n : Int) (k : Nat) : (pb n k).length = k := by induction k with
  | zero => rfl
  | succ k ih => simp [pb, ih]
theorem sh8 (n : Int) (i : Nat) (hi : i ≤ 7) : shr .i64 n (IntKind.u64.wrap (wrap64 (8 * (i : Int)))) = n / 2 ^ (8 * i) := by
  have e : IntKind.u64.wrap (wrap64 (8 * (i : Int))) = ((8 * i : Nat) : Int) := by
    rw [w64 (by omega) (by omega)]
    unfold IntKind.wrap
    simp only [IntKind.signed, IntKind.bits, Bool.false_and, Bool.false_eq_true, if_false]
    omega
  rw [e]
  unfold shr
  have e2 : min ((8 * i : Nat) : Int).toNat IntKind.i64.bits = 8 * i := by
    simp only [IntKind.bits, Int.toNat_natCast]
    omega
  rw [e2]
theorem spec_pb_l (n : Int) (d : Nat) : ∀ (k : Nat) (x : List Int), d ≤ 8 → d < k → x.length + d ≤ 140737488355328 → spec_PutBig.l0 k n x ((d : Int) - 1) = some (x ++ pb n d) := by
  induction d with
  | zero =>
    intro k x _ hk _
    obtain ⟨k, rfl⟩ := ix (show 0 < k by omega)
    simp only [spec_PutBig.l0]
    rw [if_neg (by omega)]
    simp [pb]
  | succ d ih =>
    intro k x hd hk hx
    obtain ⟨k, rfl⟩ := ix (show 0 < k by omega)
    have e : (((d + 1 : Nat) : Int) - 1) = (d : Int) := by omega
    rw [e]
    simp only [spec_PutBig.l0]
    rw [if_pos (by omega), if_pos (u64_nn _), if_pos (by omega), sh8 n d (by omega), w64 (by omega) (by omega), ih k _ (by omega) (by omega) (by simp; omega)]
    simp [pb]
theorem impl_pb_l (n : Int) (d : Nat) : ∀ (k : Nat) (x : List Int), d ≤ 8 → d < k → x.length + d ≤ 140737488355328 → impl_putBig.l0 k x n ((d : Int) - 1) = some (x ++ pb n d) := by
  induction d with
  | zero =>
    intro k x _ hk _
    obtain ⟨k, rfl⟩ := ix (show 0 < k by omega)
    simp only [impl_putBig.l0]
    rw [if_neg (by omega)]
    simp [pb]
  | succ d ih =>
    intro k x hd hk hx
    obtain ⟨k, rfl⟩ := ix (show 0 < k by omega)
    have e : (((d + 1 : Nat) : Int) - 1) = (d : Int) := by omega
    rw [e]
    simp only [impl_putBig.l0]
    rw [if_pos (by omega), if_pos (u64_nn _), if_pos (by omega), sh8 n d (by omega), w64 (by omega) (by omega), ih k _ (by omega) (by omega) (by simp; omega)]
    simp [pb]
def putBig (l : List Int) (n k : Int) : List Int := if 1 ≤ k ∧ k ≤ 8 then l ++ pb (if n < 0 then 0 else n) k.toNat else l
theorem putBig_length (l : List Int) (n k : Int) : (putBig l n k).length ≤ l.length + 8 := by
  unfold putBig; split
  · rw [List.length_append, pb_length]; omega
  · omega
theorem spec_putBig {l : List Int} {n k : Int} (hl : l.length ≤ 140737488351232) : ∀ j, 12 ≤ j → spec_PutBig.f j l n k = some (putBig l n k) := by
  intro j hj
  obtain ⟨j, rfl⟩ := ix (show 0 < j by omega)
  have h : ∀ m : Int, spec_PutBig.j0 (j + 1) m k l = some (if 1 ≤ k ∧ k ≤ 8 then l ++ pb m k.toNat else l) := by
    intro m
    simp only [spec_PutBig.j0]
    rw [l1In]
    simp only [Option.bind_some]
    by_cases h1 : 1 ≤ k ∧ k ≤ 8
    · rw [if_pos (by simpa using h1), if_pos h1]
      obtain ⟨k, rfl⟩ := Int.eq_ofNat_of_zero_le (show 0 ≤ k by omega)
      rw [w64 (by omega) (by omega)]
      exact spec_pb_l m k j l (by omega) (by omega) (by omega)
    · rw [if_neg (by simpa using h1), if_neg h1]
  unfold spec_PutBig.f putBig
  simp only [Option.bind_some, List.nil_append, List.length_nil, Nat.zero_add]
  rw [if_pos (by omega)]
  by_cases h0 : n < 0
  · rw [if_pos h0, if_pos h0, h]
  · rw [if_neg h0, if_neg h0, h]
theorem impl_putBig_l {l : List Int} {n k : Int} (hl : l.length ≤ 140737488351232) (hk : 1 ≤ k ∧ k ≤ 8) : ∀ j, 12 ≤ j → impl_putBig.f j l n k = some (putBig l n k) := by
  intro j hj
  unfold impl_putBig.f putBig
  rw [if_pos hk]
  obtain ⟨k, rfl⟩ := Int.eq_ofNat_of_zero_le (show 0 ≤ k by omega)
  have e : mx n 0 = if n < 0 then 0 else n := by unfold mx; rfl
  rw [e, w64 (by omega) (by omega)]
  exact impl_pb_l _ k j l (by omega) (by omega) (by omega)
theorem clone {l : List Int} (hl : l.length ≤ 140737488351232) : slices_Clone_byte_byte.f l = some l := by
  unfold slices_Clone_byte_byte.f
  simp only [Option.bind_some, List.nil_append, List.length_nil, Nat.zero_add]
  rw [if_pos (by omega)]
theorem impl_PutBig {l : List Int} {n k : Int} (hl : l.length ≤ 140737488351232) : ∀ j, 12 ≤ j → impl_PutBig.f j l n k = some (putBig l n k) := by
  intro j hj
  unfold impl_PutBig.f
  rw [clone hl]
  simp only [Option.bind_some, inRange]
  by_cases h1 : 1 ≤ k ∧ k ≤ 8
  · rw [if_pos (by simpa using h1), impl_putBig_l hl h1 j hj]
    rfl
  · rw [if_neg (by simpa using h1)]
    unfold putBig
    rw [if_neg h1]
end Go.Proofs.Ytfjjnccfiepjcaa.LibA
