/- The draws: what a cursor gives lies in its range, and it stays a cursor. Condition: each theorem's own bounds. -/
import Derived.Test.YtlgfcpmihocheaaLibU
import Derived.Test.YtlgfcpmihocheaaLibBits
import Derived.Test.YtlgfcpmihocheaaAx15
import Derived.Test.YtlgfcpmihocheaaAx16
set_option linter.unusedVariables false
set_option linter.unusedSimpArgs false
namespace Go.Proofs.Ytlgfcpmihocheaa.LibD
open Go.RowKit Go.Proofs.Ytlgfcpmihocheaa.A Go.Proofs.YtlgfcpmihocheaaW.PrintWords Go.Proofs.YtlgfcpmihocheaaW.PrintLast Go.Proofs.YtlgfcpmihocheaaW.PrintMore Go.Proofs.Ytlgfcpmihocheaa.LibU Go.Proofs.Ytlgfcpmihocheaa.LibBits
/-- A cursor's place. -/
def CI (b : List Int) (i : Int) : Prop := 0 ≤ i ∧ i ≤ b.length ∧ b.length ≤ 140737488351232
theorem and255 (y : Int) : 0 ≤ Go.bits .and .i64 y 255 ∧ Go.bits .and .i64 y 255 ≤ 255 := by
  have e : ((BitVec.ofInt IntKind.i64.bits y &&& BitVec.ofInt IntKind.i64.bits 255).toNat : Nat) ≤ 255 := by
    rw [BitVec.toNat_and]
    have h : (BitVec.ofInt IntKind.i64.bits 255).toNat = 255 := by decide
    rw [h]
    exact Nat.and_le_right
  have h2 : Go.bits .and .i64 y 255 = (((BitVec.ofInt IntKind.i64.bits y &&& BitVec.ofInt IntKind.i64.bits 255).toNat : Nat) : Int) := by
    have e2 : ((BitVec.ofInt IntKind.i64.bits y &&& BitVec.ofInt IntKind.i64.bits 255).toNat : Int) < 2 ^ 63 := by
      have e63 : (2 : Int) ^ 63 = 9223372036854775808 := by decide
      rw [e63]
      omega
    exact wraps_i64 _ (Int.natCast_nonneg _) e2
  rw [h2]
  omega
theorem l1Byte (b : List Int) (i h : Int) (hi : CI b i) : ∃ x i' h', spec_l1Byte.f b i h = some (x, i', h') ∧ 0 ≤ x ∧ x ≤ 255 ∧ CI b i' := by
  unfold CI at *
  unfold spec_l1Byte.f
  by_cases h1 : i < (b.length : Int)
  · rw [if_pos h1, if_pos hi.1]
    refine ⟨_, _, _, rfl, (and255 _).1, (and255 _).2, ?_⟩
    rw [w64 (by omega) (by omega)]
    omega
  · rw [if_neg h1]
    exact ⟨_, _, _, rfl, (and255 _).1, (and255 _).2, hi⟩
theorem l1Below (b : List Int) (i h n : Int) (hn : n ≤ 1000000) (hi : CI b i) : ∃ x i' h', spec_l1Below.f b i h n = some (x, i', h') ∧ 0 ≤ x ∧ (0 < n → x < n) ∧ (n ≤ 0 → x = 0) ∧ CI b i' := by
  unfold spec_l1Below.f
  by_cases h0 : n ≤ 0
  · rw [if_pos h0]
    exact ⟨_, _, _, rfl, by omega, by omega, fun _ => rfl, hi⟩
  · rw [if_neg h0]
    by_cases h1 : n ≤ 256
    · rw [if_pos h1]
      obtain ⟨x, i', h', e, hx0, hx1, hi'⟩ := l1Byte b i h hi
      rw [e]
      simp only [Option.bind_some]
      rw [if_neg (by omega)]
      refine ⟨_, _, _, rfl, ?_, ?_, by omega, hi'⟩
      · rw [Int.tmod_eq_emod_of_nonneg hx0]; exact Int.emod_nonneg _ (by omega)
      · intro _; rw [Int.tmod_eq_emod_of_nonneg hx0]; exact Int.emod_lt_of_pos _ (by omega)
    · rw [if_neg h1]
      obtain ⟨x, i1, q1, e1, hx0, hx1, hi1⟩ := l1Byte b i h hi
      rw [e1]
      simp only [Option.bind_some]
      obtain ⟨y, i2, q2, e2, hy0, hy1, hi2⟩ := l1Byte b i1 q1 hi1
      rw [e2]
      simp only [Option.bind_some]
      obtain ⟨z, i3, q3, e3, hz0, hz1, hi3⟩ := l1Byte b i2 q2 hi2
      rw [e3]
      simp only [Option.bind_some]
      rw [if_neg (by omega), w64 (x := x * 65536) (by omega) (by omega), w64 (x := y * 256) (by omega) (by omega), w64 (x := x * 65536 + y * 256) (by omega) (by omega), w64 (by omega) (by omega)]
      refine ⟨_, _, _, rfl, ?_, ?_, by omega, hi3⟩
      · rw [Int.tmod_eq_emod_of_nonneg (by omega)]; exact Int.emod_nonneg _ (by omega)
      · intro _; rw [Int.tmod_eq_emod_of_nonneg (by omega)]; exact Int.emod_lt_of_pos _ (by omega)
theorem l1New (b : List Int) (hl : b.length ≤ 140737488351232) : ∃ K q, (∀ k, K ≤ k → spec_l1New.f k b = some (b, 0, q)) ∧ CI b 0 := by
  have key : ∀ (d : Nat) (i : Nat) (x : Int), i ≤ b.length → b.length - i = d → ∃ q, ∀ k, d < k → spec_l1New.l0 k b x (i : Int) = some (b, 0, q) := by
    intro d
    induction d with
    | zero =>
      intro i x hi hd
      refine ⟨x, fun k hk => ?_⟩
      obtain ⟨k, rfl⟩ := ix (show 0 < k by omega)
      simp only [spec_l1New.l0]
      rw [if_neg (by omega)]
    | succ d ih =>
      intro i x hi hd
      by_cases h : (i : Int) < 4000
      · obtain ⟨q, hq⟩ := ih (i + 1) (Go.bits .and .i64 (wrap64 ((wrap64 ((wrap64 (x * 137)) + (wrap64 (rd b i)))) + 11)) 1073741823) (by omega) (by omega)
        refine ⟨q, fun k hk => ?_⟩
        obtain ⟨k, rfl⟩ := ix (show 0 < k by omega)
        simp only [spec_l1New.l0]
        rw [if_pos (by omega), if_pos h, if_pos (by omega), w64 (x := (i : Int) + 1) (by omega) (by omega)]
        exact hq k (by omega)
      · refine ⟨x, fun k hk => ?_⟩
        obtain ⟨k, rfl⟩ := ix (show 0 < k by omega)
        simp only [spec_l1New.l0]
        rw [if_pos (by omega), if_neg h]
  obtain ⟨q, hq⟩ := key b.length 0 (wrap64 (369369 + (b.length : Int))) (by omega) (by omega)
  exact ⟨b.length + 1, q, fun k hk => hq k (by omega), by unfold CI; omega⟩
end Go.Proofs.Ytlgfcpmihocheaa.LibD
