/- The reference's PutPrefix comes to the same bytes as the program's. Condition: each theorem's own bounds. -/
import Derived.Test.YtkhcnmjgojkkoaaLibP
import Derived.Test.YtkhcnmjgojkkoaaLibUs
import Derived.Test.YtkhcnmjgojkkoaaAx3
set_option linter.unusedVariables false
set_option linter.unusedSimpArgs false
namespace Go.Proofs.Ytkhcnmjgojkkoaa.LibP
open Go.RowKit Go.Proofs.Ytkhcnmjgojkkoaa.A Go.Proofs.YtkhcnmjgojkkoaaW.PrintWords Go.Proofs.YtkhcnmjgojkkoaaW.PrintLast Go.Proofs.YtkhcnmjgojkkoaaW.PrintMore Go.Proofs.Ytkhcnmjgojkkoaa.LibU Go.Proofs.Ytkhcnmjgojkkoaa.LibBits
theorem spec_vi (d : Nat) : ∀ (x k : Nat) (acc : List Int), x < 128 ^ (d + 1) → d < k → x < 16777217 → acc.length + d + 1 ≤ 140737488355327 → spec_PutPrefix.l0 k (x : Int) acc = some (acc ++ vi x) := by
  induction d with
  | zero =>
    intro x k acc hx hk hx2 ha
    obtain ⟨k, rfl⟩ := ix (show 0 < k by omega)
    simp only [spec_PutPrefix.l0]
    rw [vi, if_neg (by omega), if_pos (by omega), if_neg (by omega), Int.emod_eq_of_lt (by omega) (by omega)]
  | succ d ih =>
    intro x k acc hx hk hx2 ha
    obtain ⟨k, rfl⟩ := ix (show 0 < k by omega)
    simp only [spec_PutPrefix.l0]
    by_cases h : x > 127
    · have hp : x < 128 ^ (d + 1) * 128 := by rw [← Nat.pow_succ]; exact hx
      have hd : x / 128 < 128 ^ (d + 1) := Nat.div_lt_of_lt_mul (by rw [Nat.mul_comm]; exact hp)
      rw [vi, if_pos (by omega), if_pos (by omega), if_pos h, and127 x (by omega), or128' _ (by omega)]
      have e : (((x % 128 + 128 : Nat) : Int) % 256) = ((x % 128 + 128 : Nat) : Int) := Int.emod_eq_of_lt (by omega) (by omega)
      have e2 : (x : Int) / 128 = ((x / 128 : Nat) : Int) := by omega
      rw [e, e2, ih (x / 128) k _ hd (by omega) (by omega) (by simp; omega)]
      simp
    · rw [vi, if_neg (by omega), if_pos (by omega), if_neg (by omega), Int.emod_eq_of_lt (by omega) (by omega)]
theorem spec_vi4 (x : Nat) (hx : x < 16777217) (acc : List Int) (ha : acc.length ≤ 140737488355000) : ∀ k, 4 ≤ k → spec_PutPrefix.l0 k (x : Int) acc = some (acc ++ vi x) := fun k hk => spec_vi 3 x k acc (by rw [pow4]; omega) (by omega) hx (by omega)
set_option maxRecDepth 100000 in
theorem mask_tab : ∀ b : Fin 8, ∀ f : Fin 256, Go.bits .andNot .i64 (f.val : Int) ((2 ^ (b.val + 1) - 1 : Nat) : Int) = Go.bits .and .i64 (f.val : Int) (Go.bits .andNot .i64 255 ((2 ^ (b.val + 1) - 1 : Nat) : Int)) := by decide +kernel
theorem mask_eq {b : Nat} {f : Int} (hb : 1 ≤ b ∧ b ≤ 8) (hf : 0 ≤ f ∧ f ≤ 255) : Go.bits .andNot .i64 f ((2 ^ b - 1 : Nat) : Int) = Go.bits .and .i64 f (Go.bits .andNot .i64 255 ((2 ^ b - 1 : Nat) : Int)) := by
  obtain ⟨f, rfl⟩ := Int.eq_ofNat_of_zero_le hf.1
  have := mask_tab ⟨b - 1, by omega⟩ ⟨f, by omega⟩
  simpa [show b - 1 + 1 = b by omega] using this
theorem spec_PutPrefix {l : List Int} {b first n : Int} (hl : l.length ≤ 140737488351232) : ∀ k, 8 ≤ k → spec_PutPrefix.f k l b first n = some (putPrefix l b first n) := by
  intro k hk
  obtain ⟨k, rfl⟩ : ∃ m, k = m + 1 + 1 + 1 := ⟨k - 3, by omega⟩
  unfold spec_PutPrefix.f putPrefix
  simp only [Option.bind_some, List.nil_append, List.length_nil, Nat.zero_add, l1In]
  rw [if_pos (by omega)]
  by_cases h1 : 1 ≤ b ∧ b ≤ 8
  · rw [if_pos (by simpa using h1)]
    by_cases h2 : 0 ≤ first ∧ first ≤ 255
    · rw [if_pos ⟨h1, h2⟩]
      obtain ⟨b, rfl⟩ := Int.eq_ofNat_of_zero_le (show 0 ≤ b by omega)
      have hb : 1 ≤ b ∧ b ≤ 8 := by omega
      have hc := clampN_le n
      have hp := pow_le b hb
      have h2j : ∀ m : Nat, m ≤ 16777216 → spec_PutPrefix.j2 (k + 1) (b : Int) first (m : Int) l = some (l ++ pfxTail b m first) := by
        intro m hm
        simp only [spec_PutPrefix.j2]
        unfold pfxTail
        rw [if_pos (u64_nn _), shl1 b hb, mask_eq hb h2]
        by_cases h : m < 2 ^ b - 1
        · rw [if_pos (by omega), if_pos (by omega), if_pos h]
        · rw [if_neg (by omega), if_pos (by omega), if_neg h]
          have e : wrap64 ((m : Int) - ((2 ^ b - 1 : Nat) : Int)) = ((m - (2 ^ b - 1) : Nat) : Int) := by rw [w64 (by omega) (by omega)]; omega
          rw [e, spec_vi4 _ (by omega) _ (by simp; omega) k (by omega)]
          simp
      have h1j : ∀ x : Int, x ≤ 16777216 → spec_PutPrefix.j1 (k + 1 + 1) (b : Int) first x l = some (l ++ pfxTail b (clampN x) first) := by
        intro x hx
        simp only [spec_PutPrefix.j1]
        by_cases h : x < 0
        · rw [if_pos h]
          have e : clampN x = 0 := by unfold clampN mx mn; repeat' split
                                      all_goals omega
          rw [e]
          exact h2j 0 (by omega)
        · rw [if_neg h]
          have e : x = (clampN x : Int) := by unfold clampN mx mn; repeat' split
                                              all_goals omega
          have := h2j (clampN x) (clampN_le x)
          rw [← e] at this
          exact this
      simp only [spec_PutPrefix.j0]
      rw [if_neg (by simp; omega)]
      by_cases h3 : n > 16777216
      · rw [if_pos h3]
        have e : clampN n = clampN 16777216 := by unfold clampN mx mn; repeat' split
                                                  all_goals omega
        have := h1j 16777216 (by omega)
        rw [← e] at this
        exact this
      · rw [if_neg h3]
        exact h1j n (by omega)
    · rw [if_neg (fun h => h2 h.2)]
      simp only [spec_PutPrefix.j0]
      rw [if_pos (by simp; omega)]
  · rw [if_neg (by simpa using h1), if_neg (fun h => h1 h.1)]
    simp only [spec_PutPrefix.j0]
    rw [if_pos trivial]
end Go.Proofs.Ytkhcnmjgojkkoaa.LibP
