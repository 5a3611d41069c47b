/- PutPrefix, the reference's and the program's: the first byte, and the further ones as a list. Condition: each theorem's own bounds. -/
import Derived.Test.YtkhcnmjgojkkoaaLibU
import Derived.Test.YtkhcnmjgojkkoaaLibBits
import Derived.Test.YtkhcnmjgojkkoaaAx5
import Derived.Test.YtkhcnmjgojkkoaaAx6
import Derived.Test.YtkhcnmjgojkkoaaAx7
set_option linter.unusedVariables false
set_option linter.unusedSimpArgs false
namespace Go.Proofs.Ytkhcnmjgojkkoaa.LibP
open Go.RowKit Go.Proofs.Ytkhcnmjgojkkoaa.A Go.Proofs.YtkhcnmjgojkkoaaW.PrintWords Go.Proofs.YtkhcnmjgojkkoaaW.PrintLast Go.Proofs.YtkhcnmjgojkkoaaW.PrintMore Go.Proofs.Ytkhcnmjgojkkoaa.LibU Go.Proofs.Ytkhcnmjgojkkoaa.LibBits
/-- A number's further bytes, the lowest seven bits first. -/
def vi (x : Nat) : List Int := if x > 127 then ((x % 128 + 128 : Nat) : Int) :: vi (x / 128) else [(x : Int)]
termination_by x
decreasing_by omega
theorem and127 (x : Nat) (hx : x < 2 ^ 63) : Go.bits .and .i64 (x : Int) 127 = ((x % 128 : Nat) : Int) := by
  have := i64_mask (x : Int) 7 (by omega) (by omega) (by omega)
  have e : ((2 : Int) ^ 7 - 1) = 127 := by decide
  rw [e] at this
  rw [this]
  omega
theorem or128 (y : Nat) (hy : y < 128) : Go.bits .or .i64 128 (y : Int) = ((y + 128 : Nat) : Int) := by
  have e7 : (2 : Int) ^ 7 = 128 := by decide
  have h := i64_join 7 128 (y : Int) (by omega) (by decide) (by decide) (by omega) (by rw [e7]; omega) (by omega)
  rw [h]
  omega
theorem or128' (y : Nat) (hy : y < 128) : Go.bits .or .i64 (y : Int) 128 = ((y + 128 : Nat) : Int) := by
  have h1 := i64_or y 128 (by omega) (by omega)
  have h2 := i64_or 128 y (by omega) (by omega)
  rw [Nat.or_comm] at h1
  have h3 := or128 y hy
  exact h1.trans (h2.symm.trans h3)
theorem impl_vi (d : Nat) : ∀ (x k : Nat) (acc : List Int), x < 128 ^ (d + 1) → d < k → x < 16777217 → acc.length + d + 1 ≤ 140737488355327 → impl_putPrefix.l0 k acc (x : Int) = some (acc ++ vi x) := by
  induction d with
  | zero =>
    intro x k acc hx hk hx2 ha
    obtain ⟨k, rfl⟩ := ix (show 0 < k by omega)
    simp only [impl_putPrefix.l0]
    rw [vi, if_neg (by omega), if_pos (by omega), if_neg (by omega), Int.emod_eq_of_lt (by omega) (by omega)]
  | succ d ih =>
    intro x k acc hx hk hx2 ha
    obtain ⟨k, rfl⟩ := ix (show 0 < k by omega)
    simp only [impl_putPrefix.l0]
    by_cases h : x > 127
    · have hp : x < 128 ^ (d + 1) * 128 := by rw [← Nat.pow_succ]; exact hx
      have hd : x / 128 < 128 ^ (d + 1) := Nat.div_lt_of_lt_mul (by rw [Nat.mul_comm]; exact hp)
      rw [vi, if_pos (by omega), if_pos (by omega), if_pos h, and127 x (by omega), or128 _ (by omega)]
      have e : (((x % 128 + 128 : Nat) : Int) % 256) = ((x % 128 + 128 : Nat) : Int) := Int.emod_eq_of_lt (by omega) (by omega)
      have e2 : (x : Int) / 128 = ((x / 128 : Nat) : Int) := by omega
      rw [e, e2, ih (x / 128) k _ hd (by omega) (by omega) (by simp; omega)]
      simp
    · rw [vi, if_neg (by omega), if_pos (by omega), if_neg (by omega), Int.emod_eq_of_lt (by omega) (by omega)]
theorem pow4 : (128 : Nat) ^ (3 + 1) = 268435456 := by decide
theorem impl_vi4 (x : Nat) (hx : x < 16777217) (acc : List Int) (ha : acc.length ≤ 140737488355000) : ∀ k, 4 ≤ k → impl_putPrefix.l0 k acc (x : Int) = some (acc ++ vi x) := fun k hk => impl_vi 3 x k acc (by rw [pow4]; omega) (by omega) hx (by omega)
/-- The first byte and, if the number doesn't fit there, the further ones. -/
def pfxTail (b n : Nat) (first : Int) : List Int :=
  if n < 2 ^ b - 1 then [(Go.bits .or .i64 (Go.bits .and .i64 first (Go.bits .andNot .i64 255 ((2 ^ b - 1 : Nat) : Int))) (n : Int)) % 256]
  else (Go.bits .or .i64 (Go.bits .and .i64 first (Go.bits .andNot .i64 255 ((2 ^ b - 1 : Nat) : Int))) ((2 ^ b - 1 : Nat) : Int)) % 256 :: vi (n - (2 ^ b - 1))
/-- The number as it is put: within its bounds. -/
def clampN (n : Int) : Nat := (mx 0 (mn n 16777216)).toNat
theorem clampN_le (n : Int) : clampN n ≤ 16777216 := by unfold clampN mx mn; repeat' split
                                                        all_goals omega
theorem clampN_eq (n : Int) : mx 0 (mn n 16777216) = (clampN n : Int) := by unfold clampN mx mn; repeat' split
                                                                            all_goals omega
theorem vi_length (d : Nat) : ∀ x, x < 128 ^ (d + 1) → (vi x).length ≤ d + 1 ∧ 1 ≤ (vi x).length := by
  induction d with
  | zero => intro x hx; rw [vi, if_neg (by omega)]; simp
  | succ d ih =>
    intro x hx
    rw [vi]
    by_cases h : x > 127
    · have hp : x < 128 ^ (d + 1) * 128 := by rw [← Nat.pow_succ]; exact hx
      have hd : x / 128 < 128 ^ (d + 1) := Nat.div_lt_of_lt_mul (by rw [Nat.mul_comm]; exact hp)
      have := ih (x / 128) hd
      rw [if_pos h]; simp; omega
    · rw [if_neg h]; simp
theorem pfxTail_length (b n : Nat) (first : Int) (hn : n ≤ 16777216) : (pfxTail b n first).length ≤ 5 ∧ 1 ≤ (pfxTail b n first).length := by
  unfold pfxTail
  have h4 : (128 : Nat) ^ (3 + 1) = 268435456 := by decide
  have := vi_length 3 (n - (2 ^ b - 1)) (by omega)
  split <;> simp <;> omega
theorem shl1 (b : Nat) (hb : 1 ≤ b ∧ b ≤ 8) : wrap64 (shl .i64 1 (IntKind.u64.wrap (b : Int)) - 1) = ((2 ^ b - 1 : Nat) : Int) := by
  obtain ⟨h1, h2⟩ := hb
  rcases (show b = 1 ∨ b = 2 ∨ b = 3 ∨ b = 4 ∨ b = 5 ∨ b = 6 ∨ b = 7 ∨ b = 8 by omega) with rfl | rfl | rfl | rfl | rfl | rfl | rfl | rfl <;> decide +kernel
theorem pow_le (b : Nat) (hb : 1 ≤ b ∧ b ≤ 8) : 1 ≤ 2 ^ b - 1 ∧ 2 ^ b - 1 ≤ 255 := by
  obtain ⟨h1, h2⟩ := hb
  rcases (show b = 1 ∨ b = 2 ∨ b = 3 ∨ b = 4 ∨ b = 5 ∨ b = 6 ∨ b = 7 ∨ b = 8 by omega) with rfl | rfl | rfl | rfl | rfl | rfl | rfl | rfl <;> decide
theorem impl_putPrefix_eq {l : List Int} {b : Nat} {first n : Int} (hb : 1 ≤ b ∧ b ≤ 8) (hl : l.length ≤ 140737488351232) : ∀ k, 4 ≤ k → impl_putPrefix.f k l (b : Int) first n = some (l ++ pfxTail b (clampN n) first) := by
  intro k hk
  have hc := clampN_le n
  have hp := pow_le b hb
  unfold impl_putPrefix.f pfxTail
  rw [if_pos (u64_nn _), shl1 b hb, clampN_eq]
  by_cases h : clampN n < 2 ^ b - 1
  · rw [if_pos (by omega), if_pos (by omega), if_pos h]
  · rw [if_neg (by omega), if_pos (by omega), if_neg h]
    have e : wrap64 ((clampN n : Int) - ((2 ^ b - 1 : Nat) : Int)) = ((clampN n - (2 ^ b - 1) : Nat) : Int) := by rw [w64 (by omega) (by omega)]; omega
    rw [e, impl_vi4 _ (by omega) _ (by simp; omega) k hk]
    simp
theorem clone {l : List Int} (hl : l.length ≤ 140737488351232) : slices_Clone_byte_byte.f l = some l := by
  unfold slices_Clone_byte_byte.f
  simp only [Option.bind_some, List.nil_append, List.length_nil, Nat.zero_add]
  rw [if_pos (by omega)]
def putPrefix (l : List Int) (b first n : Int) : List Int := if (1 ≤ b ∧ b ≤ 8) ∧ (0 ≤ first ∧ first ≤ 255) then l ++ pfxTail b.toNat (clampN n) first else l
theorem putPrefix_length (l : List Int) (b first n : Int) : (putPrefix l b first n).length ≤ l.length + 5 := by
  unfold putPrefix
  have := pfxTail_length b.toNat (clampN n) first (clampN_le n)
  split
  · simp; omega
  · omega
theorem impl_PutPrefix {l : List Int} {b first n : Int} (hl : l.length ≤ 140737488351232) : ∀ k, 4 ≤ k → impl_PutPrefix.f k l b first n = some (putPrefix l b first n) := by
  intro k hk
  unfold impl_PutPrefix.f putPrefix
  rw [clone hl]
  simp only [Option.bind_some, inRange]
  by_cases h1 : 1 ≤ b ∧ b ≤ 8
  · rw [if_pos (by simpa using h1)]
    by_cases h2 : 0 ≤ first ∧ first ≤ 255
    · rw [if_pos (by simpa using h2), if_pos ⟨h1, h2⟩]
      obtain ⟨b, rfl⟩ := Int.eq_ofNat_of_zero_le (show 0 ≤ b by omega)
      rw [impl_putPrefix_eq (by omega) hl k hk]
      rfl
    · rw [if_neg (by simpa using h2), if_neg (fun h => h2 h.2)]
  · rw [if_neg (by simpa using h1), if_neg (fun h => h1 h.1)]
end Go.Proofs.Ytkhcnmjgojkkoaa.LibP
