/- putBig: the bytes of a number. Condition: each theorem's own bounds. -/
import Derived.Test.YthamojhhiddgaaaLibU
import Derived.Test.YthamojhhiddgaaaAx9
set_option linter.unusedVariables false
set_option linter.unusedSimpArgs false
namespace Go.Proofs.Ythamojhhiddgaaa.LibB
open Go.RowKit Go.Proofs.Ythamojhhiddgaaa.A Go.Proofs.YthamojhhiddgaaaW.PrintWords Go.Proofs.YthamojhhiddgaaaW.PrintLast Go.Proofs.YthamojhhiddgaaaW.PrintMore Go.Proofs.Ythamojhhiddgaaa.LibU
/-- The bytes of n: k of them, the highest first. -/
def pb (n : Int) : Nat → List Int
  | 0 => []
  | k + 1 => (n / 2 ^ (8 * k)) % 256 :: pb n k
theorem pb_length (n : Int) (k : Nat) : (pb n k).length = k := by induction k with
  | zero => rfl
  | succ k ih => simp [pb, ih]
theorem sh8 (n : Int) (i : Nat) (hi : i ≤ 7) : shr .i64 n (IntKind.u64.wrap (wrap64 (8 * (i : Int)))) = n / 2 ^ (8 * i) := by
  have e : IntKind.u64.wrap (wrap64 (8 * (i : Int))) = ((8 * i : Nat) : Int) := by
    rw [w64 (by omega) (by omega)]
    unfold IntKind.wrap
    simp only [IntKind.signed, IntKind.bits, Bool.false_and, Bool.false_eq_true, if_false]
    omega
  rw [e]
  unfold shr
  have e2 : min ((8 * i : Nat) : Int).toNat IntKind.i64.bits = 8 * i := by
    simp only [IntKind.bits, Int.toNat_natCast]
    omega
  rw [e2]
theorem impl_pb_l (n : Int) (d : Nat) : ∀ (k : Nat) (x : List Int), d ≤ 8 → d < k → x.length + d ≤ 140737488355328 → impl_putBig.l0 k x n ((d : Int) - 1) = some (x ++ pb n d) := by
  induction d with
  | zero =>
    intro k x _ hk _
    obtain ⟨k, rfl⟩ := ix (show 0 < k by omega)
    simp only [impl_putBig.l0]
    rw [if_neg (by omega)]
    simp [pb]
  | succ d ih =>
    intro k x hd hk hx
    obtain ⟨k, rfl⟩ := ix (show 0 < k by omega)
    have e : (((d + 1 : Nat) : Int) - 1) = (d : Int) := by omega
    rw [e]
    simp only [impl_putBig.l0]
    rw [if_pos (by omega), if_pos (u64_nn _), if_pos (by omega), sh8 n d (by omega), w64 (by omega) (by omega), ih k _ (by omega) (by omega) (by simp; omega)]
    simp [pb]
def putBig (l : List Int) (n k : Int) : List Int := if 1 ≤ k ∧ k ≤ 8 then l ++ pb (if n < 0 then 0 else n) k.toNat else l
theorem putBig_length (l : List Int) (n k : Int) : (putBig l n k).length ≤ l.length + 8 := by
  unfold putBig; split
  · rw [List.length_append, pb_length]; omega
  · omega
theorem impl_putBig_l {l : List Int} {n k : Int} (hl : l.length ≤ 140737488351232) (hk : 1 ≤ k ∧ k ≤ 8) : ∀ j, 12 ≤ j → impl_putBig.f j l n k = some (putBig l n k) := by
  intro j hj
  unfold impl_putBig.f putBig
  rw [if_pos hk]
  obtain ⟨k, rfl⟩ := Int.eq_ofNat_of_zero_le (show 0 ≤ k by omega)
  have e : mx n 0 = if n < 0 then 0 else n := by unfold mx; rfl
  rw [e, w64 (by omega) (by omega)]
  exact impl_pb_l _ k j l (by omega) (by omega) (by omega)
end Go.Proofs.Ythamojhhiddgaaa.LibB
