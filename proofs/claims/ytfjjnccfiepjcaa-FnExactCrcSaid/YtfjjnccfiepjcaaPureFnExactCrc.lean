/- For every input: FnExactCrc answers true: the program's Crc returns what the reference's returns. No condition. -/
import Derived.Test.YtfjjnccfiepjcaaLibA2
import Derived.Test.YtfjjnccfiepjcaaLibBits
import Derived.Test.YtfjjnccfiepjcaaAx44
import Derived.Test.YtfjjnccfiepjcaaAx45
import Derived.Test.YtfjjnccfiepjcaaAx46
set_option linter.unusedVariables false
set_option linter.unusedSimpArgs false
namespace Go.Proofs.Ytfjjnccfiepjcaa.Pure
open Go.RowKit Go.Proofs.Ytfjjnccfiepjcaa.A Go.Proofs.YtfjjnccfiepjcaaW.PrintWords Go.Proofs.YtfjjnccfiepjcaaW.PrintLast Go.Proofs.Ytfjjnccfiepjcaa.LibA Go.Proofs.Ytfjjnccfiepjcaa.LibBits
theorem crc_bits (l : List Int) (i : Nat) (hl : l.length ≤ 1048576) (d : Nat) : ∀ (x : Nat), d ≤ 8 → x < 4294967296 → ∃ y : Nat, y < 4294967296 ∧
    (∀ k, spec_Crc.l1 (k + d + 1) l (x : Int) (i : Int) ((8 - d : Nat) : Int) = spec_Crc.l0 k l (y : Int) (wrap64 ((i : Int) + 1))) ∧
    (∀ k, impl_Crc.l1 (k + d + 1) (x : Int) l (l.length : Int) (i : Int) ((8 - d : Nat) : Int) = impl_Crc.l0 k (y : Int) l (l.length : Int) (wrap64 ((i : Int) + 1))) := by
  induction d with
  | zero =>
    intro x _ hx
    refine ⟨x, hx, fun k => ?_, fun k => ?_⟩
    · simp only [spec_Crc.l1]; rw [if_neg (by omega)]
    · simp only [impl_Crc.l1]; rw [if_neg (by omega)]
  | succ d ih =>
    intro x hd hx
    have hh : (x : Int) / 2 = ((x / 2 : Nat) : Int) := by omega
    have ea : Go.bits .and .i64 (x : Int) 1 = ((x &&& 1 : Nat) : Int) := i64_and x 1 (by omega) (by omega)
    have eb : Go.bits .and .u32 (x : Int) 1 = ((x &&& 1 : Nat) : Int) := u32_and_nat x 1 (by omega) (by omega)
    have ec : Go.bits .xor .i64 ((x / 2 : Nat) : Int) 2197175160 = ((x / 2 ^^^ 2197175160 : Nat) : Int) := i64_xor (x / 2) 2197175160 (by omega) (by omega)
    have ed : Go.bits .xor .u32 ((x / 2 : Nat) : Int) 2197175160 = ((x / 2 ^^^ 2197175160 : Nat) : Int) := u32_xor_nat (x / 2) 2197175160 (by omega) (by omega)
    have en : wrap64 (((8 - (d + 1) : Nat) : Int) + 1) = ((8 - d : Nat) : Int) := by rw [w64 (by omega) (by omega)]; omega
    by_cases h : (x &&& 1) = 1
    · have hx2 : x / 2 ^^^ 2197175160 < 2 ^ 32 := Nat.xor_lt_two_pow (by omega) (by omega)
      obtain ⟨y, hy, h1, h2⟩ := ih (x / 2 ^^^ 2197175160) (by omega) (by omega)
      refine ⟨y, hy, fun k => ?_, fun k => ?_⟩
      · simp only [spec_Crc.l1]
        rw [if_pos (by omega), ea, if_pos (by omega), hh, ec, en]
        exact h1 k
      · simp only [impl_Crc.l1]
        rw [if_pos (by omega), eb, if_pos (by omega), hh, ed, en]
        exact h2 k
    · obtain ⟨y, hy, h1, h2⟩ := ih (x / 2) (by omega) (by omega)
      refine ⟨y, hy, fun k => ?_, fun k => ?_⟩
      · simp only [spec_Crc.l1]
        rw [if_pos (by omega), ea, if_neg (by omega), hh, en]
        exact h1 k
      · simp only [impl_Crc.l1]
        rw [if_pos (by omega), eb, if_neg (by omega), hh, en]
        exact h2 k
theorem crc_l (l : List Int) (hl : l.length ≤ 1048576) (hw : ∀ x ∈ l, (Lit.int .u8 x).wf = true) (d : Nat) : ∀ (x i : Nat), x < 4294967296 → i ≤ l.length → l.length - i = d →
    ∃ r, (∀ k, 10 * d < k → spec_Crc.l0 k l (x : Int) (i : Int) = some r) ∧ (∀ k, 10 * d < k → impl_Crc.l0 k (x : Int) l (l.length : Int) (i : Int) = some r) := by
  induction d with
  | zero =>
    intro x i hx hi hd
    refine ⟨((x ^^^ 4294967295 : Nat) : Int), fun k hk => ?_, fun k hk => ?_⟩
    · obtain ⟨k, rfl⟩ := ix (show 0 < k by omega)
      simp only [spec_Crc.l0]
      rw [if_neg (by omega)]
      exact congrArg some (i64_xor x 4294967295 (by omega) (by omega))
    · obtain ⟨k, rfl⟩ := ix (show 0 < k by omega)
      simp only [impl_Crc.l0]
      have e : Go.bits .xor .u32 4294967295 (x : Int) = ((4294967295 ^^^ x : Nat) : Int) := u32_xor_nat 4294967295 x (by omega) (by omega)
      have hlt : 4294967295 ^^^ x < 2 ^ 32 := Nat.xor_lt_two_pow (by omega) (by omega)
      rw [if_neg (by omega), e, w64 (by omega) (by omega), Nat.xor_comm]
  | succ d ih =>
    intro x i hx hi hd
    have hb : 0 ≤ rd l (i : Int) ∧ rd l (i : Int) ≤ 255 := by
      rw [rd_nat, List.getD_eq_getElem?_getD, List.getElem?_eq_getElem (show i < l.length by omega)]
      exact wf8 (hw _ (List.getElem_mem _))
    obtain ⟨b, hb'⟩ := Int.eq_ofNat_of_zero_le hb.1
    have hx1 : x ^^^ b < 2 ^ 32 := Nat.xor_lt_two_pow (by omega) (by omega)
    obtain ⟨y, hy, h1, h2⟩ := crc_bits l i hl 8 (x ^^^ b) (by omega) (by omega)
    obtain ⟨r, h3, h4⟩ := ih y (i + 1) hy (by omega) (by omega)
    have en : wrap64 ((i : Int) + 1) = ((i + 1 : Nat) : Int) := by rw [w64 (by omega) (by omega)]; rfl
    rw [en] at h1 h2
    refine ⟨r, fun k hk => ?_, fun k hk => ?_⟩
    · obtain ⟨k, rfl⟩ : ∃ m, k = m + 8 + 1 + 1 := ⟨k - 10, by omega⟩
      simp only [spec_Crc.l0]
      have e : Go.bits .xor .i64 (x : Int) (b : Int) = ((x ^^^ b : Nat) : Int) := i64_xor x b (by omega) (by omega)
      rw [if_pos (by omega), if_pos (by omega), hb', w64 (x := (b : Int)) (by omega) (by omega), e]
      exact (h1 k).trans (h3 k (by omega))
    · obtain ⟨k, rfl⟩ : ∃ m, k = m + 8 + 1 + 1 := ⟨k - 10, by omega⟩
      simp only [impl_Crc.l0]
      have e : Go.bits .xor .u32 (x : Int) (b : Int) = ((x ^^^ b : Nat) : Int) := u32_xor_nat x b (by omega) (by omega)
      rw [if_pos (by omega), if_pos (by omega), if_pos (by omega), hb', Int.emod_eq_of_lt (by omega) (by omega), e]
      exact (h2 k).trans (h4 k (by omega))
theorem FnExactCrc : laws_FnExactCrc.Pure := by
  intro l _ hl2 hw
  by_cases h : (l.length : Int) > 1048576
  · exact ⟨0, by unfold laws_FnExactCrc.f; rw [if_pos h]⟩
  obtain ⟨K1, h1⟩ := toByteS (l := l) (by omega)
  obtain ⟨r, h2, h3⟩ := crc_l l (by omega) hw l.length 4294967295 0 (by omega) (by omega) (by omega)
  have h2' : ∀ k, 10 * l.length < k → spec_Crc.f k l = some r := h2
  have h3' : ∀ k, 10 * l.length < k → impl_Crc.f k l = some r := h3
  obtain ⟨K4, h4⟩ := eqByteS (l := l) (by omega)
  refine ⟨K1 + K4 + 10 * l.length + 1, ?_⟩
  unfold laws_FnExactCrc.f
  rw [if_neg h]
  repeat (first | refine bs (h1 _ (by omega)) ?_ | refine bs (h2' _ (by omega)) ?_ | refine bs (h3' _ (by omega)) ?_ | refine bs (h4 _ (by omega)) ?_ | refine ifp rfl ?_)
  rfl
end Go.Proofs.Ytfjjnccfiepjcaa.Pure
