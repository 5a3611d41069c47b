/- Functions of the program and of the reference as plain Lean functions, that the machine's calls answer as they do, and laws of these. Written in part by a program of this session, out of the translation. Condition: each theorem's own. -/
import Derived.Test.YthflimnpiglgbaaGreatDoorPg7
import Derived.Test.YthflimnpiglgbaaGreatDoorPg3
import Derived.Test.YthflimnpiglgbaaGreatDoorPg5
import Derived.KernelRfl
import Derived.Lib.Split
import Derived.Test.YthflimnpiglgbaaGreatDoorPg2
import Derived.Test.YthflimnpiglgbaaGreatDoorPg1
import Derived.Test.YthflimnpiglgbaaGreatDoorPg6
import Derived.Test.YthflimnpiglgbaaGreatDoorPg4
import Derived.Test.YthflimnpiglgbaaGreatDoorRows
import Derived.ProofKit
import Derived.LaidMore
import Derived.Stop.Joined
import Derived.HandedShaped
section
set_option linter.unusedVariables false
set_option linter.unusedSimpArgs false
namespace Go.Proofs.YthflimnpiglgbaaGreatDoor.LibP
open Go.RowKit Go.Proofs.YthflimnpiglgbaaGreatDoor.A Go.Proofs.YthflimnpiglgbaaGreatDoorW.PrintWords Go.Proofs.YthflimnpiglgbaaGreatDoorW.PrintLast Go.Proofs.YthflimnpiglgbaaGreatDoorW.PrintMore Go.Proofs.YthflimnpiglgbaaGreatDoor.LibU Go.Proofs.YthflimnpiglgbaaGreatDoor.LibBits
/-- A number's further bytes, the lowest seven bits first. -/
def vi (x : Nat) : List Int := if x > 127 then ((x % 128 + 128 : Nat) : Int) :: vi (x / 128) else [(x : Int)]
termination_by x
decreasing_by omega
theorem and127 (x : Nat) (hx : x < 2 ^ 63) : Go.bits .and .i64 (x : Int) 127 = ((x % 128 : Nat) : Int) := by
  have := i64_mask (x : Int) 7 (by omega) (by omega) (by omega)
  have e : ((2 : Int) ^ 7 - 1) = 127 := by decide
  rw [e] at this
  rw [this]
  omega
theorem or128 (y : Nat) (hy : y < 128) : Go.bits .or .i64 128 (y : Int) = ((y + 128 : Nat) : Int) := by
  have e7 : (2 : Int) ^ 7 = 128 := by decide
  have h := i64_join 7 128 (y : Int) (by omega) (by decide) (by decide) (by omega) (by rw [e7]; omega) (by omega)
  rw [h]
  omega
theorem or128' (y : Nat) (hy : y < 128) : Go.bits .or .i64 (y : Int) 128 = ((y + 128 : Nat) : Int) := by
  have h1 := i64_or y 128 (by omega) (by omega)
  have h2 := i64_or 128 y (by omega) (by omega)
  rw [Nat.or_comm] at h1
  have h3 := or128 y hy
  exact h1.trans (h2.symm.trans h3)
theorem impl_vi (d : Nat) : ∀ (x k : Nat) (acc : List Int), x < 128 ^ (d + 1) → d < k → x < 16777217 → acc.length + d + 1 ≤ 140737488355327 → impl_putPrefix.l0 k acc (x : Int) = some (acc ++ vi x) := by
  induction d with
  | zero =>
    intro x k acc hx hk hx2 ha
    obtain ⟨k, rfl⟩ := ix (show 0 < k by omega)
    simp only [impl_putPrefix.l0]
    rw [vi, if_neg (by omega), if_pos (by omega), if_neg (by omega), Int.emod_eq_of_lt (by omega) (by omega)]
  | succ d ih =>
    intro x k acc hx hk hx2 ha
    obtain ⟨k, rfl⟩ := ix (show 0 < k by omega)
    simp only [impl_putPrefix.l0]
    by_cases h : x > 127
    · have hp : x < 128 ^ (d + 1) * 128 := by rw [← Nat.pow_succ]; exact hx
      have hd : x / 128 < 128 ^ (d + 1) := Nat.div_lt_of_lt_mul (by rw [Nat.mul_comm]; exact hp)
      rw [vi, if_pos (by omega), if_pos (by omega), if_pos h, and127 x (by omega), or128 _ (by omega)]
      have e : (((x % 128 + 128 : Nat) : Int) % 256) = ((x % 128 + 128 : Nat) : Int) := Int.emod_eq_of_lt (by omega) (by omega)
      have e2 : (x : Int) / 128 = ((x / 128 : Nat) : Int) := by omega
      rw [e, e2, ih (x / 128) k _ hd (by omega) (by omega) (by simp; omega)]
      simp
    · rw [vi, if_neg (by omega), if_pos (by omega), if_neg (by omega), Int.emod_eq_of_lt (by omega) (by omega)]
theorem pow4 : (128 : Nat) ^ (3 + 1) = 268435456 := by decide
theorem impl_vi4 (x : Nat) (hx : x < 16777217) (acc : List Int) (ha : acc.length ≤ 140737488355000) : ∀ k, 4 ≤ k → impl_putPrefix.l0 k acc (x : Int) = some (acc ++ vi x) := fun k hk => impl_vi 3 x k acc (by rw [pow4]; omega) (by omega) hx (by omega)
/-- The first byte and, if the number doesn't fit there, the further ones. -/
def pfxTail (b n : Nat) (first : Int) : List Int :=
  if n < 2 ^ b - 1 then [(Go.bits .or .i64 (Go.bits .and .i64 first (Go.bits .andNot .i64 255 ((2 ^ b - 1 : Nat) : Int))) (n : Int)) % 256]
  else (Go.bits .or .i64 (Go.bits .and .i64 first (Go.bits .andNot .i64 255 ((2 ^ b - 1 : Nat) : Int))) ((2 ^ b - 1 : Nat) : Int)) % 256 :: vi (n - (2 ^ b - 1))
/-- The number as it is put: within its bounds. -/
def clampN (n : Int) : Nat := (mx 0 (mn n 16777216)).toNat
theorem clampN_le (n : Int) : clampN n ≤ 16777216 := by unfold clampN mx mn; repeat' split
                                                        all_goals omega
theorem clampN_eq (n : Int) : mx 0 (mn n 16777216) = (clampN n : Int) := by unfold clampN mx mn; repeat' split
                                                                            all_goals omega
theorem vi_length (d : Nat) : ∀ x, x < 128 ^ (d + 1) → (vi x).length ≤ d + 1 ∧ 1 ≤ (vi x).length := by
  induction d with
  | zero => intro x hx; rw [vi, if_neg (by omega)]; simp
  | succ d ih =>
    intro x hx
    rw [vi]
    by_cases h : x > 127
    · have hp : x < 128 ^ (d + 1) * 128 := by rw [← Nat.pow_succ]; exact hx
      have hd : x / 128 < 128 ^ (d + 1) := Nat.div_lt_of_lt_mul (by rw [Nat.mul_comm]; exact hp)
      have := ih (x / 128) hd
      rw [if_pos h]; simp; omega
    · rw [if_neg h]; simp
theorem pfxTail_length (b n : Nat) (first : Int) (hn : n ≤ 16777216) : (pfxTail b n first).length ≤ 5 ∧ 1 ≤ (pfxTail b n first).length := by
  unfold pfxTail
  have h4 : (128 : Nat) ^ (3 + 1) = 268435456 := by decide
  have := vi_length 3 (n - (2 ^ b - 1)) (by omega)
  split <;> simp <;> omega
theorem shl1 (b : Nat) (hb : 1 ≤ b ∧ b ≤ 8) : wrap64 (shl .i64 1 (IntKind.u64.wrap (b : Int)) - 1) = ((2 ^ b - 1 : Nat) : Int) := by
  obtain ⟨h1, h2⟩ := hb
  rcases (show b = 1 ∨ b = 2 ∨ b = 3 ∨ b = 4 ∨ b = 5 ∨ b = 6 ∨ b = 7 ∨ b = 8 by omega) with rfl | rfl | rfl | rfl | rfl | rfl | rfl | rfl <;> decide +kernel
theorem pow_le (b : Nat) (hb : 1 ≤ b ∧ b ≤ 8) : 1 ≤ 2 ^ b - 1 ∧ 2 ^ b - 1 ≤ 255 := by
  obtain ⟨h1, h2⟩ := hb
  rcases (show b = 1 ∨ b = 2 ∨ b = 3 ∨ b = 4 ∨ b = 5 ∨ b = 6 ∨ b = 7 ∨ b = 8 by omega) with rfl | rfl | rfl | rfl | rfl | rfl | rfl | rfl <;> decide
theorem impl_putPrefix_eq {l : List Int} {b : Nat} {first n : Int} (hb : 1 ≤ b ∧ b ≤ 8) (hl : l.length ≤ 140737488351232) : ∀ k, 4 ≤ k → impl_putPrefix.f k l (b : Int) first n = some (l ++ pfxTail b (clampN n) first) := by
  intro k hk
  have hc := clampN_le n
  have hp := pow_le b hb
  unfold impl_putPrefix.f pfxTail
  rw [if_pos (u64_nn _), shl1 b hb, clampN_eq]
  by_cases h : clampN n < 2 ^ b - 1
  · rw [if_pos (by omega), if_pos (by omega), if_pos h]
  · rw [if_neg (by omega), if_pos (by omega), if_neg h]
    have e : wrap64 ((clampN n : Int) - ((2 ^ b - 1 : Nat) : Int)) = ((clampN n - (2 ^ b - 1) : Nat) : Int) := by rw [w64 (by omega) (by omega)]; omega
    rw [e, impl_vi4 _ (by omega) _ (by simp; omega) k hk]
    simp
def putPrefix (l : List Int) (b first n : Int) : List Int := if (1 ≤ b ∧ b ≤ 8) ∧ (0 ≤ first ∧ first ≤ 255) then l ++ pfxTail b.toNat (clampN n) first else l
theorem putPrefix_length (l : List Int) (b first n : Int) : (putPrefix l b first n).length ≤ l.length + 5 := by
  unfold putPrefix
  have := pfxTail_length b.toNat (clampN n) first (clampN_le n)
  split
  · simp; omega
  · omega
end Go.Proofs.YthflimnpiglgbaaGreatDoor.LibP
namespace Go.Proofs.YthflimnpiglgbaaGreatDoor.LibP
open Go.RowKit Go.Proofs.YthflimnpiglgbaaGreatDoor.A Go.Proofs.YthflimnpiglgbaaGreatDoorW.PrintWords Go.Proofs.YthflimnpiglgbaaGreatDoorW.PrintLast Go.Proofs.YthflimnpiglgbaaGreatDoorW.PrintMore Go.Proofs.YthflimnpiglgbaaGreatDoor.LibU Go.Proofs.YthflimnpiglgbaaGreatDoor.LibBits
theorem spec_vi (d : Nat) : ∀ (x k : Nat) (acc : List Int), x < 128 ^ (d + 1) → d < k → x < 16777217 → acc.length + d + 1 ≤ 140737488355327 → spec_PutPrefix.l0 k (x : Int) acc = some (acc ++ vi x) := by
  induction d with
  | zero =>
    intro x k acc hx hk hx2 ha
    obtain ⟨k, rfl⟩ := ix (show 0 < k by omega)
    simp only [spec_PutPrefix.l0]
    rw [vi, if_neg (by omega), if_pos (by omega), if_neg (by omega), Int.emod_eq_of_lt (by omega) (by omega)]
  | succ d ih =>
    intro x k acc hx hk hx2 ha
    obtain ⟨k, rfl⟩ := ix (show 0 < k by omega)
    simp only [spec_PutPrefix.l0]
    by_cases h : x > 127
    · have hp : x < 128 ^ (d + 1) * 128 := by rw [← Nat.pow_succ]; exact hx
      have hd : x / 128 < 128 ^ (d + 1) := Nat.div_lt_of_lt_mul (by rw [Nat.mul_comm]; exact hp)
      rw [vi, if_pos (by omega), if_pos (by omega), if_pos h, and127 x (by omega), or128' _ (by omega)]
      have e : (((x % 128 + 128 : Nat) : Int) % 256) = ((x % 128 + 128 : Nat) : Int) := Int.emod_eq_of_lt (by omega) (by omega)
      have e2 : (x : Int) / 128 = ((x / 128 : Nat) : Int) := by omega
      rw [e, e2, ih (x / 128) k _ hd (by omega) (by omega) (by simp; omega)]
      simp
    · rw [vi, if_neg (by omega), if_pos (by omega), if_neg (by omega), Int.emod_eq_of_lt (by omega) (by omega)]
theorem spec_vi4 (x : Nat) (hx : x < 16777217) (acc : List Int) (ha : acc.length ≤ 140737488355000) : ∀ k, 4 ≤ k → spec_PutPrefix.l0 k (x : Int) acc = some (acc ++ vi x) := fun k hk => spec_vi 3 x k acc (by rw [pow4]; omega) (by omega) hx (by omega)
set_option maxRecDepth 100000 in
theorem mask_tab : ∀ b : Fin 8, ∀ f : Fin 256, Go.bits .andNot .i64 (f.val : Int) ((2 ^ (b.val + 1) - 1 : Nat) : Int) = Go.bits .and .i64 (f.val : Int) (Go.bits .andNot .i64 255 ((2 ^ (b.val + 1) - 1 : Nat) : Int)) := by decide +kernel
theorem mask_eq {b : Nat} {f : Int} (hb : 1 ≤ b ∧ b ≤ 8) (hf : 0 ≤ f ∧ f ≤ 255) : Go.bits .andNot .i64 f ((2 ^ b - 1 : Nat) : Int) = Go.bits .and .i64 f (Go.bits .andNot .i64 255 ((2 ^ b - 1 : Nat) : Int)) := by
  obtain ⟨f, rfl⟩ := Int.eq_ofNat_of_zero_le hf.1
  have := mask_tab ⟨b - 1, by omega⟩ ⟨f, by omega⟩
  simpa [show b - 1 + 1 = b by omega] using this
theorem spec_PutPrefix {l : List Int} {b first n : Int} (hl : l.length ≤ 140737488351232) : ∀ k, 8 ≤ k → spec_PutPrefix.f k l b first n = some (putPrefix l b first n) := by
  intro k hk
  obtain ⟨k, rfl⟩ : ∃ m, k = m + 1 + 1 + 1 := ⟨k - 3, by omega⟩
  unfold spec_PutPrefix.f putPrefix
  simp only [Option.bind_some, List.nil_append, List.length_nil, Nat.zero_add, l1In]
  rw [if_pos (by omega)]
  by_cases h1 : 1 ≤ b ∧ b ≤ 8
  · rw [if_pos (by simpa using h1)]
    by_cases h2 : 0 ≤ first ∧ first ≤ 255
    · rw [if_pos ⟨h1, h2⟩]
      obtain ⟨b, rfl⟩ := Int.eq_ofNat_of_zero_le (show 0 ≤ b by omega)
      have hb : 1 ≤ b ∧ b ≤ 8 := by omega
      have hc := clampN_le n
      have hp := pow_le b hb
      have h2j : ∀ m : Nat, m ≤ 16777216 → spec_PutPrefix.j2 (k + 1) (b : Int) first (m : Int) l = some (l ++ pfxTail b m first) := by
        intro m hm
        simp only [spec_PutPrefix.j2]
        unfold pfxTail
        rw [if_pos (u64_nn _), shl1 b hb, mask_eq hb h2]
        by_cases h : m < 2 ^ b - 1
        · rw [if_pos (by omega), if_pos (by omega), if_pos h]
        · rw [if_neg (by omega), if_pos (by omega), if_neg h]
          have e : wrap64 ((m : Int) - ((2 ^ b - 1 : Nat) : Int)) = ((m - (2 ^ b - 1) : Nat) : Int) := by rw [w64 (by omega) (by omega)]; omega
          rw [e, spec_vi4 _ (by omega) _ (by simp; omega) k (by omega)]
          simp
      have h1j : ∀ x : Int, x ≤ 16777216 → spec_PutPrefix.j1 (k + 1 + 1) (b : Int) first x l = some (l ++ pfxTail b (clampN x) first) := by
        intro x hx
        simp only [spec_PutPrefix.j1]
        by_cases h : x < 0
        · rw [if_pos h]
          have e : clampN x = 0 := by unfold clampN mx mn; repeat' split
                                      all_goals omega
          rw [e]
          exact h2j 0 (by omega)
        · rw [if_neg h]
          have e : x = (clampN x : Int) := by unfold clampN mx mn; repeat' split
                                              all_goals omega
          have := h2j (clampN x) (clampN_le x)
          rw [← e] at this
          exact this
      simp only [spec_PutPrefix.j0]
      rw [if_neg (by simp; omega)]
      by_cases h3 : n > 16777216
      · rw [if_pos h3]
        have e : clampN n = clampN 16777216 := by unfold clampN mx mn; repeat' split
                                                  all_goals omega
        have := h1j 16777216 (by omega)
        rw [← e] at this
        exact this
      · rw [if_neg h3]
        exact h1j n (by omega)
    · rw [if_neg (fun h => h2 h.2)]
      simp only [spec_PutPrefix.j0]
      rw [if_pos (by simp; omega)]
  · rw [if_neg (by simpa using h1), if_neg (fun h => h1 h.1)]
    simp only [spec_PutPrefix.j0]
    rw [if_pos trivial]
end Go.Proofs.YthflimnpiglgbaaGreatDoor.LibP
end
section
set_option linter.unusedVariables false
set_option linter.unusedSimpArgs false
namespace Go.Proofs.YthflimnpiglgbaaGreatDoor.LibZs
open Go Go.RowKit Go.Proofs.YthflimnpiglgbaaGreatDoor.A Go.Proofs.YthflimnpiglgbaaGreatDoorW.PrintWords Go.Proofs.YthflimnpiglgbaaGreatDoorW.PrintLast Go.Proofs.YthflimnpiglgbaaGreatDoorW.PrintMore Go.Proofs.YthflimnpiglgbaaGreatDoor.LibU Go.Proofs.YthflimnpiglgbaaGreatDoor.LibP Go.Proofs.YthflimnpiglgbaaGreatDoor.LibLens Go.Proofs.YthflimnpiglgbaaGreatDoor.LibHuff Go.Proofs.YthflimnpiglgbaaGreatDoor.LibHuffB
set_option maxRecDepth 100000 in
theorem codes0 : spec_l3Codes.f 8100 = some bitsI := by decide +kernel
theorem codesI (k : Nat) (hk : 8100 ≤ k) : spec_l3Codes.f k = some bitsI := at_rounds spec_l3Codes.mono hk codes0
theorem same (k : Nat) : (∀ s a b l x y z, spec_Huff.l0 k s a b l x y z = hf0 k s a b l x y z) ∧ (∀ s a b l x y z, spec_Huff.l1 k s a b l x y z = hf1 k s a b l x y z) := by
  induction k with
  | zero => exact ⟨fun _ _ _ _ _ _ _ => rfl, fun _ _ _ _ _ _ _ => rfl⟩
  | succ k ih =>
    refine ⟨fun s a b l x y z => ?_, fun s a b l x y z => ?_⟩
    · simp only [spec_Huff.l0, hf0, ih.2]
    · simp only [spec_Huff.l1, hf1, ih.1, ih.2]
theorem spec_huff (k : Nat) (hk : 8100 ≤ k) (s : ByteArray) : spec_Huff.f k s = hf0 k s lensI bitsI [] 0 0 0 := by
  have hl : spec_l3Lens.f = some lensI := rfl
  unfold spec_Huff.f
  rw [hl, Option.bind_some, codesI k hk, Option.bind_some, (same k).1]
theorem inv {P : Prop} {x : List Int} [Decidable P] {a : Option (List Int)} (h : (if P then a else none) = some x) : P ∧ a = some x := by
  by_cases c : P
  · rw [if_pos c] at h; exact ⟨c, h⟩
  · rw [if_neg c] at h; cases h
/-- What stands in front stays in front. -/
theorem front (t : List Int) (s : ByteArray) (a b : List Int) (k : Nat) :
    (∀ l x y z r, hf0 k s a b l x y z = some r → l.length ≤ r.length ∧ (t.length + r.length ≤ 140737488355328 → hf0 k s a b (t ++ l) x y z = some (t ++ r))) ∧
    (∀ l x y z r, hf1 k s a b l x y z = some r → l.length ≤ r.length ∧ (t.length + r.length ≤ 140737488355328 → hf1 k s a b (t ++ l) x y z = some (t ++ r))) := by
  induction k with
  | zero => exact ⟨fun _ _ _ _ r h => by simp [hf0] at h, fun _ _ _ _ r h => by simp [hf1] at h⟩
  | succ k ih =>
    refine ⟨fun l x y z r h => ?_, fun l x y z r h => ?_⟩
    · simp only [hf0] at h ⊢
      by_cases c : z < (s.size : Int)
      · rw [if_pos c] at h ⊢
        obtain ⟨c1, h⟩ := inv h
        obtain ⟨c2, h⟩ := inv h
        obtain ⟨c3, h⟩ := inv h
        obtain ⟨c4, h⟩ := inv h
        obtain ⟨c5, h⟩ := inv h
        rw [if_pos c1, if_pos c2, if_pos c3, if_pos c4, if_pos c5]
        exact ih.2 _ _ _ _ _ h
      · rw [if_neg c] at h ⊢
        by_cases c1 : y > 0
        · rw [if_pos c1] at h ⊢
          obtain ⟨c2, h⟩ := inv h
          obtain ⟨c3, h⟩ := inv h
          obtain rfl := Option.some.inj h
          refine ⟨by simp, fun hb => ?_⟩
          simp only [List.length_append, List.length_cons, List.length_nil] at hb
          rw [if_pos c2, if_pos (by rw [List.length_append]; omega), List.append_assoc]
        · rw [if_neg c1] at h ⊢
          obtain rfl := Option.some.inj h
          exact ⟨Nat.le_refl _, fun _ => rfl⟩
    · simp only [hf1] at h ⊢
      by_cases c : y ≥ 8
      · rw [if_pos c] at h ⊢
        obtain ⟨c1, h⟩ := inv h
        obtain ⟨c2, h⟩ := inv h
        obtain ⟨g1, g2⟩ := ih.2 _ _ _ _ _ h
        simp only [List.length_append, List.length_cons, List.length_nil] at g1
        refine ⟨by omega, fun hb => ?_⟩
        have := g2 hb
        rw [if_pos c1, if_pos (by rw [List.length_append]; omega)]
        rw [← List.append_assoc] at this
        exact this
      · rw [if_neg c] at h ⊢
        exact ih.1 _ _ _ _ _ h
theorem codes_bd : ∀ p ∈ codes, (5 : Int) ≤ p.2 ∧ p.2 ≤ 30 := by decide +kernel
theorem len_bd (x : Int) (h : 0 ≤ x ∧ x < 257) : 5 ≤ rd lensI x ∧ rd lensI x ≤ 30 := by
  have hl := codes_len
  rw [lensI_at x (by omega), List.getD_eq_getElem?_getD, List.getElem?_eq_getElem (show x.toNat < codes.length by omega), Option.getD_some]
  exact codes_bd _ (List.getElem_mem _)
theorem hsum_bd (s : ByteArray) (k : Nat) (hk : k ≤ 10000000) : 0 ≤ hsum s k ∧ hsum s k ≤ 30 * k ∧ (k < 10000000 → hsum s (k + 1) = hsum s k + rd lensI (bt s k)) := by
  induction k with
  | zero =>
    refine ⟨Int.le_refl _, Int.le_refl _, fun _ => ?_⟩
    have hb := bt_range s ((0 : Nat) : Int)
    have hd := len_bd (bt s ((0 : Nat) : Int)) (by omega)
    have e1 : hsum s (0 + 1) = wrap64 (0 + rd lensI (bt s ((0 : Nat) : Int))) := rfl
    have e0 : hsum s 0 = 0 := rfl
    rw [e1, e0, w64 (by omega) (by omega)]
  | succ k ih =>
    obtain ⟨i1, i2, i3⟩ := ih (by omega)
    have hb := bt_range s (k : Int)
    have hd := len_bd (bt s (k : Int)) (by omega)
    have hb2 := bt_range s ((k + 1 : Nat) : Int)
    have hd2 := len_bd (bt s ((k + 1 : Nat) : Int)) (by omega)
    have e := i3 (by omega)
    refine ⟨by omega, by omega, fun _ => ?_⟩
    have e1 : hsum s (k + 1 + 1) = wrap64 (hsum s (k + 1) + rd lensI (bt s ((k + 1 : Nat) : Int))) := rfl
    rw [e1, w64 (by omega) (by omega)]
/-- Whole bytes are laid. -/
theorem bytes_out (s : ByteArray) (q : Nat) : ∀ (l : List Int) (x y z : Int), 8 * (q : Int) ≤ y → y < 8 * (q : Int) + 8 → y ≤ 1000 → l.length + q ≤ 1000000000000 →
    ∃ (l' : List Int) (x' : Int), l'.length = l.length + q ∧ ∀ k, hf1 (k + q + 1) s lensI bitsI l x y z = hf0 k s lensI bitsI l' x' (y - 8 * q) (wrap64 (z + 1)) := by
  induction q with
  | zero =>
    intro l x y z h1 h2 h3 h4
    refine ⟨l, x, rfl, fun k => ?_⟩
    have e : y - 8 * ((0 : Nat) : Int) = y := by omega
    rw [hf1, if_neg (by omega), e]
  | succ q ih =>
    intro l x y z h1 h2 h3 h4
    obtain ⟨l', x', g1, g2⟩ := ih (l ++ [(shr .i64 x (IntKind.u64.wrap (wrap64 (y - 8)))) % 256]) (Go.bits .and .i64 x (wrap64 ((shl .i64 1 (IntKind.u64.wrap (wrap64 (y - 8)))) - 1))) (y - 8) z (by omega) (by omega) (by omega) (by rw [List.length_append, List.length_singleton]; omega)
    refine ⟨l', x', by rw [g1, List.length_append, List.length_singleton]; omega, fun k => ?_⟩
    have e : wrap64 (y - 8) = y - 8 := w64 (by omega) (by omega)
    have e2 : y - 8 - 8 * (q : Int) = y - 8 * ((q + 1 : Nat) : Int) := by omega
    rw [show k + (q + 1) + 1 = (k + q + 1) + 1 by omega, hf1, if_pos (by omega), if_pos (u64_nn _), if_pos (by omega)]
    rw [e] at g2 ⊢
    rw [g2 k, e2]
/-- The code ends, and is as long as the sum of its codes. -/
theorem ends (s : ByteArray) (hs : s.size ≤ 1048576) (d : Nat) : ∀ (i : Nat) (l : List Int) (x y : Int), i ≤ s.size → s.size - i = d → 0 ≤ y → y < 8 → 8 * (l.length : Int) + y = hsum s i →
    ∃ (K : Nat) (r : List Int), (r.length : Int) = (hsum s s.size + 7) / 8 ∧ ∀ k, K ≤ k → hf0 k s lensI bitsI l x y (i : Int) = some r := by
  induction d with
  | zero =>
    intro i l x y hi hd h0 h8 hsm
    obtain rfl : i = s.size := by omega
    obtain ⟨b1, b2, _⟩ := hsum_bd s s.size (by omega)
    by_cases c : y > 0
    · refine ⟨1, l ++ [(Go.bits .or .i64 (shl .i64 x (IntKind.u64.wrap (wrap64 (8 - y)))) (wrap64 ((shl .i64 1 (IntKind.u64.wrap (wrap64 (8 - y)))) - 1))) % 256], by rw [List.length_append, List.length_singleton]; omega, fun k hk => ?_⟩
      obtain ⟨k, rfl⟩ := LibU.ix (show 0 < k by omega)
      rw [hf0, if_neg (by omega), if_pos c, if_pos (u64_nn _), if_pos (by omega)]
    · refine ⟨1, l, by omega, fun k hk => ?_⟩
      obtain ⟨k, rfl⟩ := LibU.ix (show 0 < k by omega)
      rw [hf0, if_neg (by omega), if_neg c]
  | succ d ih =>
    intro i l x y hi hd h0 h8 hsm
    have q1 : i + 1 ≤ s.size := by omega
    have q2 : s.size - (i + 1) = d := by omega
    have q3 : (i : Int) < (s.size : Int) := by omega
    have q4 : (0 : Int) ≤ (i : Int) := by omega
    obtain ⟨b1, b2, b3⟩ := hsum_bd s i (by omega)
    have hb := bt_range s (i : Int)
    have hld := len_bd (bt s (i : Int)) (by omega)
    have e := b3 (by omega)
    have hll := lensI_len
    have hbl := bitsI_len
    have hb0 := hb.1
    have hb1 : bt s (i : Int) < (lensI.length : Int) := by rw [hll]; omega
    have hb2 : bt s (i : Int) < (bitsI.length : Int) := by rw [hbl]; omega
    obtain ⟨L, hL⟩ : ∃ L, L = rd lensI (bt s (i : Int)) := ⟨_, rfl⟩
    rw [← hL] at hld e
    have ew : wrap64 (y + L) = y + L := w64 (by omega) (by omega)
    have ez : wrap64 ((i : Int) + 1) = ((i + 1 : Nat) : Int) := by rw [w64 (by omega) (by omega)]; rfl
    obtain ⟨q, hq⟩ : ∃ q : Nat, (q : Int) = (y + L) / 8 := ⟨((y + L) / 8).toNat, by omega⟩
    have p1 : 8 * (q : Int) ≤ y + L := by omega
    have p2 : y + L < 8 * (q : Int) + 8 := by omega
    have p3 : y + L ≤ 1000 := by omega
    have p4 : l.length + q ≤ 1000000000000 := by
      clear ih hb e hL ez ew hll hbl
      omega
    obtain ⟨X, hX⟩ : ∃ X, X = Go.bits .or .i64 (shl .i64 x (IntKind.u64.wrap L)) (rd bitsI (bt s (i : Int))) := ⟨_, rfl⟩
    have HX := Aside0.mk hX
    clear hX
    obtain ⟨l', x', g1, g2⟩ := bytes_out s q l X (y + L) (i : Int) p1 p2 p3 p4
    have p5 : 8 * (l'.length : Int) + (y + L - 8 * q) = hsum s (i + 1) := by rw [e, g1]; omega
    obtain ⟨K, r, r1, r2⟩ := ih (i + 1) l' x' (y + L - 8 * q) q1 q2 (by omega) (by omega) p5
    clear g1 p5 hq hb
    refine ⟨K + q + 2, r, r1, fun k hk => ?_⟩
    obtain ⟨k, rfl⟩ : ∃ j, k = (j + q + 1) + 1 := ⟨k - q - 2, by clear ih e hL ez ew hll hbl q1 q2 q3 q4 p1 p2 p3 p4 b1 b2 b3 hld r1 hsm h0 h8 hi hd; omega⟩
    rw [hf0, if_pos q3, if_pos q4, if_pos hb0, if_pos hb1, if_pos (u64_nn _), if_pos hb2, ← hL, ew, ← HX.out, g2 k, ez]
    exact r2 k (by clear ih e hL ez ew hll hbl q1 q2 q3 q4 p1 p2 p3 p4 b1 b2 b3 hld r1 hsm h0 h8 hi hd; omega)
theorem huff (s : ByteArray) (hs : s.size ≤ 1048576) : ∃ (K : Nat) (r : List Int), (r.length : Int) = hlen s ∧ ∀ k, K ≤ k → hf0 k s lensI bitsI [] 0 0 0 = some r := by
  obtain ⟨K, r, h1, h2⟩ := ends s hs s.size 0 [] 0 0 (by omega) (by omega) (by omega) (by omega) rfl
  obtain ⟨b1, b2, _⟩ := hsum_bd s s.size (by omega)
  refine ⟨K, r, ?_, h2⟩
  unfold hlen
  rw [w64 (x := hsum s s.size + 7) (by omega) (by omega), Int.tdiv_eq_ediv_of_nonneg (by omega), w64 (by omega) (by omega), h1]
theorem clamp (n : Nat) (h : n ≤ 16777216) : clampN (n : Int) = n := by
  unfold clampN mx mn
  repeat' split
  all_goals omega
/-- A text's own bytes: the same from both, behind whatever stands in front. -/
theorem ps (s : ByteArray) (hs : s.size ≤ 1048576) : ∃ (K : Nat) (q : List Int), q.length ≤ s.size + 5 ∧ ∀ l : List Int, l.length ≤ 100000000 → (∀ k, K ≤ k → spec_PutString.f k l s = some (l ++ q)) ∧ (∀ k, K ≤ k → impl_putString.f k l s = some (l ++ q)) := by
  obtain ⟨K0, r0, c1, c2⟩ := huff s hs
  have hbs := bytesOf_length s
  have pf : ∀ (l : List Int) (n : Nat) (f : Int), n ≤ 16777216 → 0 ≤ f ∧ f ≤ 255 → putPrefix l 7 f (n : Int) = l ++ pfxTail 7 n f := by
    intro l n f hn hf
    unfold putPrefix
    rw [if_pos ⟨by omega, hf⟩, clamp _ hn]
    rfl
  by_cases hlt : (r0.length : Int) < (s.size : Int)
  · have hpf := pfxTail_length 7 r0.length 128 (by omega)
    refine ⟨K0 + 8110, pfxTail 7 r0.length 128 ++ r0, by rw [List.length_append]; omega, fun l hl => ⟨fun k hk => ?_, fun k hk => ?_⟩⟩
    · unfold spec_PutString.f
      refine bs ((spec_huff k (by omega) s).trans (c2 k (by omega))) ?_
      rw [if_pos hlt]
      refine bs (spec_PutPrefix (l := l) (b := 7) (first := 128) (n := (r0.length : Int)) (by omega) k (by omega)) ?_
      rw [pf l r0.length 128 (by omega) (by omega), if_pos (by rw [List.length_append]; omega), List.append_assoc]
    · unfold impl_putString.f
      rw [if_pos (by omega), ← c1, if_pos hlt]
      refine bs (impl_putPrefix_eq (l := l) (b := 7) (first := 128) (n := (r0.length : Int)) (by omega) (by omega) k (by omega)) ?_
      rw [clamp _ (by omega)]
      have h := ((front (l ++ pfxTail 7 r0.length 128) s lensI bitsI k).1 [] 0 0 0 r0 (c2 k (by omega))).2 (by rw [List.length_append]; omega)
      rw [List.append_nil] at h
      rw [h, List.append_assoc]
  · have hpf := pfxTail_length 7 s.size 0 (by omega)
    refine ⟨K0 + 8110, pfxTail 7 s.size 0 ++ bytesOf s, by rw [List.length_append]; omega, fun l hl => ⟨fun k hk => ?_, fun k hk => ?_⟩⟩
    · unfold spec_PutString.f
      refine bs ((spec_huff k (by omega) s).trans (c2 k (by omega))) ?_
      rw [if_neg hlt]
      refine bs (spec_PutPrefix (l := l) (b := 7) (first := 0) (n := (s.size : Int)) (by omega) k (by omega)) ?_
      rw [pf l s.size 0 (by omega) (by omega), if_pos (by rw [List.length_append]; omega), List.append_assoc]
    · unfold impl_putString.f
      rw [if_pos (by omega), ← c1, if_neg hlt]
      refine bs (impl_putPrefix_eq (l := l) (b := 7) (first := 0) (n := (s.size : Int)) (by omega) (by omega) k (by omega)) ?_
      rw [clamp _ (by omega), if_pos (by rw [List.length_append]; omega), List.append_assoc]
end Go.Proofs.YthflimnpiglgbaaGreatDoor.LibZs
end
section
set_option linter.unusedVariables false
set_option linter.unusedSimpArgs false
namespace Go.Proofs.YthflimnpiglgbaaGreatDoor.LibFF
open Go Go.RowKit Go.Proofs.YthflimnpiglgbaaGreatDoor.A Go.Proofs.YthflimnpiglgbaaGreatDoorW.PrintWords Go.Proofs.YthflimnpiglgbaaGreatDoorW.PrintLast Go.Proofs.YthflimnpiglgbaaGreatDoorW.PrintMore Go.Proofs.YthflimnpiglgbaaGreatDoor.LibU
/-! Cutting at one byte -/
theorem ix_hit (c : UInt8) (p r : List UInt8) (h : c ∉ p) : Lib.index (p ++ c :: r) [c] = p.length := by
  rw [Lib.index_one]
  induction p with
  | nil => simp [Lib.indexByte]
  | cons b p ih =>
    have hb : (b == c) = false := by
      rw [beq_eq_false_iff_ne]
      intro e; exact h (by rw [e]; exact List.mem_cons_self ..)
    have hi := ih (fun e => h (List.mem_cons_of_mem _ e))
    rw [List.cons_append, Lib.indexByte, hb, hi]
    have : (((p.length : Int)) == -1) = false := by rw [beq_eq_false_iff_ne]; omega
    rw [this]
    simp
theorem ix_miss (c : UInt8) (p : List UInt8) (h : c ∉ p) : Lib.index p [c] = -1 := by
  rw [Lib.index_one]
  induction p with
  | nil => rfl
  | cons b p ih =>
    have hb : (b == c) = false := by
      rw [beq_eq_false_iff_ne]
      intro e; exact h (by rw [e]; exact List.mem_cons_self ..)
    rw [Lib.indexByte, hb, ih (fun e => h (List.mem_cons_of_mem _ e))]
    simp
def bar : List (List UInt8) → List UInt8
  | [] => []
  | [p] => p
  | p :: q :: ps => p ++ 124 :: bar (q :: ps)
theorem split_bar (ps : List (List UInt8)) : ∀ p, (∀ q ∈ p :: ps, (124 : UInt8) ∉ q) → Lib.splitK [124] 0 ps.length (bar (p :: ps)) = p :: ps := by
  induction ps with
  | nil => intro p _; rfl
  | cons q ps ih =>
    intro p h
    have hp := h p (List.mem_cons_self ..)
    have e : bar (p :: q :: ps) = p ++ 124 :: bar (q :: ps) := rfl
    have hi := ix_hit 124 p (bar (q :: ps)) hp
    rw [List.length_cons, Lib.splitK, e, hi]
    have hm : (((p.length : Int)) == -1) = false := by rw [beq_eq_false_iff_ne]; omega
    rw [hm, if_neg (by decide), Int.toNat_natCast]
    have e1 : (p ++ 124 :: bar (q :: ps)).take (p.length + 0) = p := by simp
    have e2 : (p ++ 124 :: bar (q :: ps)).drop (p.length + [(124 : UInt8)].length) = bar (q :: ps) := by
      rw [List.drop_append]; simp
    rw [e1, e2, ih q (fun x hx => h x (List.mem_cons_of_mem _ hx))]
theorem count_bar (ps : List (List UInt8)) : ∀ p fuel, (∀ q ∈ p :: ps, (124 : UInt8) ∉ q) → ps.length < fuel → Lib.countFrom [124] fuel (bar (p :: ps)) = ps.length := by
  induction ps with
  | nil =>
    intro p fuel h hf
    obtain ⟨f, rfl⟩ := ix (show 0 < fuel by omega)
    rw [Lib.countFrom, show bar [p] = p from rfl, ix_miss 124 p (h p (List.mem_cons_self ..))]
    rfl
  | cons q ps ih =>
    intro p fuel h hf
    obtain ⟨f, rfl⟩ := ix (show 0 < fuel by omega)
    have hp := h p (List.mem_cons_self ..)
    have e : bar (p :: q :: ps) = p ++ 124 :: bar (q :: ps) := rfl
    have hi := ix_hit 124 p (bar (q :: ps)) hp
    rw [Lib.countFrom, e, hi]
    have hm : (((p.length : Int)) == -1) = false := by rw [beq_eq_false_iff_ne]; omega
    rw [hm, if_neg (by decide), Int.toNat_natCast]
    have e2 : (p ++ 124 :: bar (q :: ps)).drop (p.length + [(124 : UInt8)].length) = bar (q :: ps) := by
      rw [List.drop_append]; simp
    rw [e2, ih q f (fun x hx => h x (List.mem_cons_of_mem _ hx)) (by simp at hf; omega), List.length_cons]
    omega
/-! The fields -/
def fields : List (List UInt8 × Option (List UInt8)) :=
  ([58, 97, 117, 116, 104, 111, 114, 105, 116, 121], none) ::
  ([58, 109, 101, 116, 104, 111, 100], some [71, 69, 84]) ::
  ([58, 109, 101, 116, 104, 111, 100], some [80, 79, 83, 84]) ::
  ([58, 112, 97, 116, 104], some [47]) ::
  ([58, 112, 97, 116, 104], some [47, 105, 110, 100, 101, 120, 46, 104, 116, 109, 108]) ::
  ([58, 115, 99, 104, 101, 109, 101], some [104, 116, 116, 112]) ::
  ([58, 115, 99, 104, 101, 109, 101], some [104, 116, 116, 112, 115]) ::
  ([58, 115, 116, 97, 116, 117, 115], some [50, 48, 48]) ::
  ([58, 115, 116, 97, 116, 117, 115], some [50, 48, 52]) ::
  ([58, 115, 116, 97, 116, 117, 115], some [50, 48, 54]) ::
  ([58, 115, 116, 97, 116, 117, 115], some [51, 48, 52]) ::
  ([58, 115, 116, 97, 116, 117, 115], some [52, 48, 48]) ::
  ([58, 115, 116, 97, 116, 117, 115], some [52, 48, 52]) ::
  ([58, 115, 116, 97, 116, 117, 115], some [53, 48, 48]) ::
  ([97, 99, 99, 101, 112, 116, 45, 99, 104, 97, 114, 115, 101, 116], none) ::
  ([97, 99, 99, 101, 112, 116, 45, 101, 110, 99, 111, 100, 105, 110, 103], some [103, 122, 105, 112, 44, 32, 100, 101, 102, 108, 97, 116, 101]) ::
  ([97, 99, 99, 101, 112, 116, 45, 108, 97, 110, 103, 117, 97, 103, 101], none) ::
  ([97, 99, 99, 101, 112, 116, 45, 114, 97, 110, 103, 101, 115], none) ::
  ([97, 99, 99, 101, 112, 116], none) ::
  ([97, 99, 99, 101, 115, 115, 45, 99, 111, 110, 116, 114, 111, 108, 45, 97, 108, 108, 111, 119, 45, 111, 114, 105, 103, 105, 110], none) ::
  ([97, 103, 101], none) ::
  ([97, 108, 108, 111, 119], none) ::
  ([97, 117, 116, 104, 111, 114, 105, 122, 97, 116, 105, 111, 110], none) ::
  ([99, 97, 99, 104, 101, 45, 99, 111, 110, 116, 114, 111, 108], none) ::
  ([99, 111, 110, 116, 101, 110, 116, 45, 100, 105, 115, 112, 111, 115, 105, 116, 105, 111, 110], none) ::
  ([99, 111, 110, 116, 101, 110, 116, 45, 101, 110, 99, 111, 100, 105, 110, 103], none) ::
  ([99, 111, 110, 116, 101, 110, 116, 45, 108, 97, 110, 103, 117, 97, 103, 101], none) ::
  ([99, 111, 110, 116, 101, 110, 116, 45, 108, 101, 110, 103, 116, 104], none) ::
  ([99, 111, 110, 116, 101, 110, 116, 45, 108, 111, 99, 97, 116, 105, 111, 110], none) ::
  ([99, 111, 110, 116, 101, 110, 116, 45, 114, 97, 110, 103, 101], none) ::
  ([99, 111, 110, 116, 101, 110, 116, 45, 116, 121, 112, 101], none) ::
  ([99, 111, 111, 107, 105, 101], none) ::
  ([100, 97, 116, 101], none) ::
  ([101, 116, 97, 103], none) ::
  ([101, 120, 112, 101, 99, 116], none) ::
  ([101, 120, 112, 105, 114, 101, 115], none) ::
  ([102, 114, 111, 109], none) ::
  ([104, 111, 115, 116], none) ::
  ([105, 102, 45, 109, 97, 116, 99, 104], none) ::
  ([105, 102, 45, 109, 111, 100, 105, 102, 105, 101, 100, 45, 115, 105, 110, 99, 101], none) ::
  ([105, 102, 45, 110, 111, 110, 101, 45, 109, 97, 116, 99, 104], none) ::
  ([105, 102, 45, 114, 97, 110, 103, 101], none) ::
  ([105, 102, 45, 117, 110, 109, 111, 100, 105, 102, 105, 101, 100, 45, 115, 105, 110, 99, 101], none) ::
  ([108, 97, 115, 116, 45, 109, 111, 100, 105, 102, 105, 101, 100], none) ::
  ([108, 105, 110, 107], none) ::
  ([108, 111, 99, 97, 116, 105, 111, 110], none) ::
  ([109, 97, 120, 45, 102, 111, 114, 119, 97, 114, 100, 115], none) ::
  ([112, 114, 111, 120, 121, 45, 97, 117, 116, 104, 101, 110, 116, 105, 99, 97, 116, 101], none) ::
  ([112, 114, 111, 120, 121, 45, 97, 117, 116, 104, 111, 114, 105, 122, 97, 116, 105, 111, 110], none) ::
  ([114, 97, 110, 103, 101], none) ::
  ([114, 101, 102, 101, 114, 101, 114], none) ::
  ([114, 101, 102, 114, 101, 115, 104], none) ::
  ([114, 101, 116, 114, 121, 45, 97, 102, 116, 101, 114], none) ::
  ([115, 101, 114, 118, 101, 114], none) ::
  ([115, 101, 116, 45, 99, 111, 111, 107, 105, 101], none) ::
  ([115, 116, 114, 105, 99, 116, 45, 116, 114, 97, 110, 115, 112, 111, 114, 116, 45, 115, 101, 99, 117, 114, 105, 116, 121], none) ::
  ([116, 114, 97, 110, 115, 102, 101, 114, 45, 101, 110, 99, 111, 100, 105, 110, 103], none) ::
  ([117, 115, 101, 114, 45, 97, 103, 101, 110, 116], none) ::
  ([118, 97, 114, 121], none) ::
  ([118, 105, 97], none) ::
  ([119, 119, 119, 45, 97, 117, 116, 104, 101, 110, 116, 105, 99, 97, 116, 101], none) :: []
def part : List UInt8 × Option (List UInt8) → List UInt8
  | (n, none) => n
  | (n, some v) => n ++ 61 :: v
def fieldOf (x : List UInt8 × Option (List UInt8)) : S36 := ⟨⟨x.1.toArray⟩, ⟨(x.2.getD []).toArray⟩⟩
def parts : List (List UInt8) := fields.map part
theorem parts_bar : ∀ q ∈ parts, (124 : UInt8) ∉ q := by decide +kernel
theorem fields_eq : ∀ x ∈ fields, (61 : UInt8) ∉ x.1 := by decide +kernel
theorem parts_small : ∀ q ∈ parts, q.length < 100 := by decide +kernel
theorem parts_len : parts.length = 61 := by decide +kernel
theorem cut_part (x : List UInt8 × Option (List UInt8)) (h : (61 : UInt8) ∉ x.1) : (Lib.cut (part x) [61]).1 = x.1 ∧ (Lib.cut (part x) [61]).2.1 = x.2.getD [] := by
  obtain ⟨n, v⟩ := x
  cases v with
  | none =>
    have e : part (n, none) = n := rfl
    rw [e, Lib.cut, ix_miss 61 n h, if_neg (by decide)]
    exact ⟨rfl, rfl⟩
  | some v =>
    have e : part (n, some v) = n ++ 61 :: v := rfl
    rw [e, Lib.cut, ix_hit 61 n v h, if_pos (by omega), Int.toNat_natCast]
    refine ⟨by simp, ?_⟩
    show (n ++ 61 :: v).drop (n.length + [(61 : UInt8)].length) = v
    rw [List.drop_append]; simp
theorem bytes_ext {a b : ByteArray} (h : a.data.toList = b.data.toList) : a = b := by
  cases a; cases b; simp at h; rw [h]
/-- The loop over the parts. -/
theorem loop (fs : List (List UInt8 × Option (List UInt8))) (hf : ∀ x ∈ fs, (61 : UInt8) ∉ x.1) (hs : ∀ x ∈ fs, (part x).length < 100) (hl : fs.length ≤ 1000) (d : Nat) : ∀ (i k : Nat) (acc : List S36), acc.length ≤ i → i ≤ fs.length → fs.length - i = d → d < k →
    impl_firstFields.l0 k acc (fs.map fun x => (⟨(part x).toArray⟩ : ByteArray)) (fs.length : Int) (i : Int) = some (acc ++ (fs.drop i).map fieldOf) := by
  induction d with
  | zero =>
    intro i k acc ha hi hd hk
    obtain ⟨k, rfl⟩ := ix (show 0 < k by omega)
    simp only [impl_firstFields.l0]
    rw [if_neg (by omega), List.drop_of_length_le (by omega)]
    simp
  | succ d ih =>
    intro i k acc ha hi hd hk
    obtain ⟨k, rfl⟩ := ix (show 0 < k by omega)
    have hlt : i < fs.length := by omega
    have hx := List.getElem_mem hlt
    have hr : rdOf ByteArray.empty (fs.map fun x => (⟨(part x).toArray⟩ : ByteArray)) (i : Int) = ⟨(part fs[i]).toArray⟩ := by
      simp [rdOf, List.getD_eq_getElem?_getD, List.getElem?_eq_getElem hlt]
    simp only [impl_firstFields.l0]
    rw [if_pos (by omega), if_pos (by omega), if_pos (by simp; omega), hr]
    obtain ⟨c1, c2⟩ := cut_part fs[i] (hf _ hx)
    have hcut : ∃ b, strings_Cut.f (⟨(part fs[i]).toArray⟩ : ByteArray) (⟨#[61]⟩ : ByteArray) = some (⟨fs[i].1.toArray⟩, ⟨(fs[i].2.getD []).toArray⟩, b) := by
      unfold strings_Cut.f
      have hsz : (ByteArray.mk (part fs[i]).toArray).size < 4294967281 := by
        show (part fs[i]).toArray.size < _
        rw [List.size_toArray]
        have := hs _ hx
        omega
      rw [if_pos hsz]
      refine ⟨(Lib.cut (part fs[i]) [61]).2.2, ?_⟩
      have e1 : (ByteArray.mk (part fs[i]).toArray).data.toList = part fs[i] := rfl
      have e2 : (ByteArray.mk #[61]).data.toList = [61] := rfl
      rw [e1, e2, c1, c2]
    obtain ⟨b, hb⟩ := hcut
    refine bs hb ?_
    rw [if_pos (by omega), w64 (by omega) (by omega)]
    have := ih (i + 1) k (acc ++ [fieldOf fs[i]]) (by simp; omega) (by omega) (by omega) (by omega)
    rw [List.drop_eq_getElem_cons hlt, List.map_cons]
    simpa [fieldOf] using this
theorem bar_length (ps : List (List UInt8)) : ∀ p, ps.length ≤ (bar (p :: ps)).length := by
  induction ps with
  | nil => intro p; simp
  | cons q ps ih =>
    intro p
    have e : bar (p :: q :: ps) = p ++ 124 :: bar (q :: ps) := rfl
    have := ih q
    rw [e, List.length_append, List.length_cons, List.length_cons]
    omega
theorem split_text (s : ByteArray) (hs : s.data.toList = bar parts) (hz : s.size < 4294967281) : strings_Split.f s (⟨#[124]⟩ : ByteArray) = some (fields.map fun x => (⟨(part x).toArray⟩ : ByteArray)) := by
  obtain ⟨p, ps, hp⟩ : ∃ p ps, parts = p :: ps := ⟨_, _, rfl⟩
  have hall : ∀ q ∈ p :: ps, (124 : UInt8) ∉ q := by rw [← hp]; exact parts_bar
  have htl : ps.length = 60 := by
    have := parts_len
    rw [hp, List.length_cons] at this
    omega
  have e2 : (ByteArray.mk #[124]).data.toList = [124] := rfl
  have hc : Lib.countB s (⟨#[124]⟩ : ByteArray) = 60 := by
    show Lib.count s.data.toList [124] = 60
    rw [hs, hp]
    unfold Lib.count
    have := bar_length ps p
    rw [count_bar _ _ _ hall (by omega), htl]
  have hd := Lib.splitB_data (⟨#[124]⟩ : ByteArray) 0 60 s
  rw [e2, hs, hp] at hd
  have hk := split_bar ps p hall
  rw [htl] at hk
  rw [hk, ← hp] at hd
  have hL : Lib.splitB (⟨#[124]⟩ : ByteArray) 0 60 s = parts.map fun q => (⟨q.toArray⟩ : ByteArray) := by
    rw [← hd, List.map_map]
    conv => lhs; rw [← List.map_id (Lib.splitB (⟨#[124]⟩ : ByteArray) 0 60 s)]
    apply List.map_congr_left
    intro x _
    apply bytes_ext
    simp
  unfold strings_Split.f
  rw [hc, hL]
  have hm : (60 : Nat) + 1 ≤ maxLen := by unfold maxLen; omega
  rw [if_pos ⟨⟨hz, by decide⟩, hm, by rw [List.length_map, parts_len]⟩]
  unfold parts
  rw [List.map_map]
  rfl
theorem firsts (k : Nat) (hk : 70 ≤ k) : impl_firstFields.f k = some (fields.map fieldOf) := by
  unfold impl_firstFields.f
  refine bs (split_text _ (by kernel_rfl) (by decide +kernel)) ?_
  have hl : fields.length = 61 := by have := parts_len; unfold parts at this; rw [List.length_map] at this; exact this
  have := loop fields fields_eq (fun x hx => parts_small _ (List.mem_map_of_mem hx)) (by omega) 61 0 k [] (by simp) (by omega) (by omega) (by omega)
  rw [List.length_map]
  simpa using this
theorem spec_firsts : spec_l4First.f = some (fields.map fieldOf) := by kernel_rfl
theorem concat (a b : List S36) (h : a.length + b.length ≤ 2000000) : ∀ k, 10 ≤ k → impl_Field_53.f k [a, b] = some (a ++ b) := by
  intro k hk
  obtain ⟨k, rfl⟩ : ∃ m, k = m + 10 := ⟨k - 10, by omega⟩
  have r0 : rd_L5 [a, b] 0 = a := rfl
  have r1 : rd_L5 [a, b] 1 = b := rfl
  have hl : ((([a, b] : List (List S36)).length : Nat) : Int) = 2 := rfl
  have w1 : wrap64 ((0 : Int) + (a.length : Int)) = (a.length : Int) := by rw [w64 (by omega) (by omega)]; omega
  have w2 : wrap64 ((a.length : Int) + (b.length : Int)) = (a.length : Int) + (b.length : Int) := w64 (by omega) (by omega)
  have w3 : wrap64 ((0 : Int) + 1) = 1 := by unfold wrap64; omega
  have w4 : wrap64 ((1 : Int) + 1) = 2 := by unfold wrap64; omega
  have hg : impl_Field_60.f ([] : List S36) ((a.length : Int) + (b.length : Int)) = some [] := by
    unfold impl_Field_60.f
    rw [if_pos ⟨rfl, by omega, by omega⟩]
  unfold impl_Field_53.f
  rw [hl, impl_Field_53.l0, if_pos (by decide), if_pos (by decide), hl, if_pos (by decide), r0, w1, if_neg (by omega), w3]
  rw [impl_Field_53.l0, if_pos (by decide), if_pos (by decide), hl, if_pos (by decide), r1, w2, if_neg (by omega), w4]
  rw [impl_Field_53.l0, if_neg (by decide)]
  refine bs hg ?_
  rw [hl]
  rw [impl_Field_53.l1, if_pos (by decide), if_pos (by decide), hl, if_pos (by decide), r0, if_pos (by simp; omega), w3]
  rw [impl_Field_53.l1, if_pos (by decide), if_pos (by decide), hl, if_pos (by decide), r1, if_pos (by simp; omega), w4]
  rw [impl_Field_53.l1, if_neg (by decide), List.nil_append]
theorem rd_left (F l : List S36) (i : Nat) (h : i < F.length) : rd_T36 (F ++ l) (i : Int) = rd_T36 F (i : Int) := by
  unfold rd_T36
  rw [Int.toNat_natCast, List.getD_eq_getElem?_getD, List.getD_eq_getElem?_getD, List.getElem?_append_left h]
theorem rd_right (F l : List S36) (i j : Nat) (h : i = F.length + j) : rd_T36 (F ++ l) (i : Int) = rd_T36 l (j : Int) := by
  unfold rd_T36
  rw [Int.toNat_natCast, Int.toNat_natCast, List.getD_eq_getElem?_getD, List.getD_eq_getElem?_getD, List.getElem?_append_right (by omega), show i - F.length = j by omega]
theorem find_both (F l : List S36) (hF : F.length = 61) (hl : l.length ≤ 1048576) (m : Int) (n v : ByteArray) (d : Nat) : ∀ (i : Nat) (nm : Int), i ≤ 61 + l.length → 61 + l.length - i = d →
    ∃ r : Int × Bool, (∀ k, 2 * d + 3 ≤ k → spec_FindField.l0 k F nm ((i + 1 : Nat) : Int) m l n v = some r) ∧ (∀ k, d + 2 ≤ k → impl_FindField.l0 k nm (F ++ l) ((F ++ l).length : Int) (i : Int) n v = some r) := by
  have hL : ((F ++ l).length : Int) = 61 + (l.length : Int) := by rw [List.length_append, hF]; omega
  have hw : wrap64 (61 + (l.length : Int)) = 61 + (l.length : Int) := w64 (by omega) (by omega)
  induction d with
  | zero =>
    intro i nm hi hd
    refine ⟨(nm, false), fun k hk => ?_, fun k hk => ?_⟩
    · obtain ⟨k, rfl⟩ := ix (show 0 < k by omega)
      rw [spec_FindField.l0, hw, if_neg (by omega)]
    · obtain ⟨k, rfl⟩ := ix (show 0 < k by omega)
      rw [impl_FindField.l0, if_neg (by omega)]
  | succ d ih =>
    intro i nm hi hd
    obtain ⟨x, hx⟩ : ∃ x, x = rd_T36 (F ++ l) (i : Int) := ⟨_, rfl⟩
    have e1 : wrap64 ((i : Int) + 1) = ((i + 1 : Nat) : Int) := by rw [w64 (by omega) (by omega)]; omega
    have e2 : wrap64 (((i + 1 : Nat) : Int) + 1) = ((i + 1 + 1 : Nat) : Int) := by rw [w64 (by omega) (by omega)]; omega
    have hs : ∀ k, spec_FindField.l0 (k + 1) F nm ((i + 1 : Nat) : Int) m l n v = spec_FindField.j1 k F nm ((i + 1 : Nat) : Int) m l n v x.f0 x.f1 := by
      intro k
      rw [spec_FindField.l0, hw, if_pos (by omega)]
      by_cases h : i < 61
      · have e3 : wrap64 (((i + 1 : Nat) : Int) - 1) = (i : Int) := by rw [w64 (by omega) (by omega)]; omega
        rw [if_pos (by omega), e3, if_pos (by omega), if_pos (by omega), hx, rd_left F l i (by omega)]
      · have e3 : wrap64 (((i + 1 : Nat) : Int) - 62) = ((i - 61 : Nat) : Int) := by rw [w64 (by omega) (by omega)]; omega
        rw [if_neg (by omega), e3, if_pos (by omega), if_pos (by omega), hx, rd_right F l i (i - 61) (by omega)]
    obtain ⟨c, hc⟩ : ∃ c, c = (x.f0.toList == n.toList && (x.f1.toList == v.toList)) := ⟨_, rfl⟩
    have hi2 : ∀ k, impl_FindField.l0 (k + 1) nm (F ++ l) ((F ++ l).length : Int) (i : Int) n v = (if c = true then (some (((i + 1 : Nat) : Int), true)) else (if nm = 0 then (if x.f0.toList = n.toList then (impl_FindField.l0 k ((i + 1 : Nat) : Int) (F ++ l) ((F ++ l).length : Int) ((i + 1 : Nat) : Int) n v) else (impl_FindField.l0 k nm (F ++ l) ((F ++ l).length : Int) ((i + 1 : Nat) : Int) n v)) else (impl_FindField.l0 k nm (F ++ l) ((F ++ l).length : Int) ((i + 1 : Nat) : Int) n v))) := by
      intro k
      rw [impl_FindField.l0, if_pos (by omega), if_pos (by omega), if_pos (by omega), ← hx, e1, hc]
    have hj : ∀ k, spec_FindField.j1 (k + 1) F nm ((i + 1 : Nat) : Int) m l n v x.f0 x.f1 = (if c = true then (some (((i + 1 : Nat) : Int), true)) else (if nm = 0 then (if x.f0.toList = n.toList then (spec_FindField.l0 k F ((i + 1 : Nat) : Int) ((i + 1 + 1 : Nat) : Int) m l n v) else (spec_FindField.l0 k F nm ((i + 1 + 1 : Nat) : Int) m l n v)) else (spec_FindField.l0 k F nm ((i + 1 + 1 : Nat) : Int) m l n v))) := by
      intro k
      rw [spec_FindField.j1, e2, hc]
    have fin : ∀ (r : Int × Bool) (nm' : Int), ((∀ k, 2 * d + 3 ≤ k → spec_FindField.l0 k F nm' ((i + 1 + 1 : Nat) : Int) m l n v = some r) ∧ (∀ k, d + 2 ≤ k → impl_FindField.l0 k nm' (F ++ l) ((F ++ l).length : Int) ((i + 1 : Nat) : Int) n v = some r)) →
        (∀ k, (if c = true then (some (((i + 1 : Nat) : Int), true)) else (if nm = 0 then (if x.f0.toList = n.toList then (spec_FindField.l0 k F ((i + 1 : Nat) : Int) ((i + 1 + 1 : Nat) : Int) m l n v) else (spec_FindField.l0 k F nm ((i + 1 + 1 : Nat) : Int) m l n v)) else (spec_FindField.l0 k F nm ((i + 1 + 1 : Nat) : Int) m l n v))) = spec_FindField.l0 k F nm' ((i + 1 + 1 : Nat) : Int) m l n v) →
        (∀ k, (if c = true then (some (((i + 1 : Nat) : Int), true)) else (if nm = 0 then (if x.f0.toList = n.toList then (impl_FindField.l0 k ((i + 1 : Nat) : Int) (F ++ l) ((F ++ l).length : Int) ((i + 1 : Nat) : Int) n v) else (impl_FindField.l0 k nm (F ++ l) ((F ++ l).length : Int) ((i + 1 : Nat) : Int) n v)) else (impl_FindField.l0 k nm (F ++ l) ((F ++ l).length : Int) ((i + 1 : Nat) : Int) n v))) = impl_FindField.l0 k nm' (F ++ l) ((F ++ l).length : Int) ((i + 1 : Nat) : Int) n v) →
        ∃ r : Int × Bool, (∀ k, 2 * (d + 1) + 3 ≤ k → spec_FindField.l0 k F nm ((i + 1 : Nat) : Int) m l n v = some r) ∧ (∀ k, d + 1 + 2 ≤ k → impl_FindField.l0 k nm (F ++ l) ((F ++ l).length : Int) (i : Int) n v = some r) := by
      rintro r nm' ⟨h1, h2⟩ g1 g2
      refine ⟨r, fun k hk => ?_, fun k hk => ?_⟩
      · obtain ⟨k, rfl⟩ : ∃ q, k = q + 1 + 1 := ⟨k - 2, by omega⟩
        rw [hs, hj, g1]
        exact h1 k (by omega)
      · obtain ⟨k, rfl⟩ := ix (show 0 < k by omega)
        rw [hi2, g2]
        exact h2 k (by omega)
    by_cases h1 : c = true
    · refine ⟨(((i + 1 : Nat) : Int), true), fun k hk => ?_, fun k hk => ?_⟩
      · obtain ⟨k, rfl⟩ : ∃ q, k = q + 1 + 1 := ⟨k - 2, by omega⟩
        rw [hs, hj, if_pos h1]
      · obtain ⟨k, rfl⟩ := ix (show 0 < k by omega)
        rw [hi2, if_pos h1]
    · obtain ⟨r1, hr1⟩ := ih (i + 1) ((i + 1 : Nat) : Int) (by omega) (by omega)
      obtain ⟨r2, hr2⟩ := ih (i + 1) nm (by omega) (by omega)
      by_cases h2 : nm = 0
      · by_cases h3 : x.f0.toList = n.toList
        · exact fin r1 _ hr1 (fun k => by rw [if_neg h1, if_pos h2, if_pos h3]) (fun k => by rw [if_neg h1, if_pos h2, if_pos h3])
        · exact fin r2 _ hr2 (fun k => by rw [if_neg h1, if_pos h2, if_neg h3]) (fun k => by rw [if_neg h1, if_pos h2, if_neg h3])
      · exact fin r2 _ hr2 (fun k => by rw [if_neg h1, if_neg h2]) (fun k => by rw [if_neg h1, if_neg h2])
theorem fields_len : (fields.map fieldOf).length = 61 := by decide +kernel
theorem findField (m : Int) (l : List S36) (n v : ByteArray) (hl : l.length ≤ 1048576) : ∃ r : Int × Bool, (∀ k, 2 * l.length + 300 ≤ k → spec_FindField.f k m l n v = some r) ∧ (∀ k, 2 * l.length + 300 ≤ k → impl_FindField.f k m l n v = some r) := by
  obtain ⟨F, hFe⟩ : ∃ F, F = fields.map fieldOf := ⟨_, rfl⟩
  have hF : F.length = 61 := by rw [hFe]; exact fields_len
  have hf := firsts
  have hsf := spec_firsts
  rw [← hFe] at hsf
  obtain ⟨r, h1, h2⟩ := find_both F l hF hl m n v (61 + l.length) 0 0 (by omega) (by omega)
  refine ⟨r, fun k hk => ?_, fun k hk => ?_⟩
  · unfold spec_FindField.f
    refine bs hsf ?_
    exact h1 k (by omega)
  · unfold impl_FindField.f
    have hfk := hf k (by omega)
    rw [← hFe] at hfk
    refine bs hfk ?_
    refine bs (concat F l (by omega) k (by omega)) ?_
    exact h2 k (by omega)
end Go.Proofs.YthflimnpiglgbaaGreatDoor.LibFF
end
section
set_option linter.unusedVariables false
set_option linter.unusedSimpArgs false
namespace Go.Proofs.YthflimnpiglgbaaGreatDoor.LibRz
open Go.RowKit Go.Proofs.YthflimnpiglgbaaGreatDoor.A Go.Proofs.YthflimnpiglgbaaGreatDoorW.PrintWords Go.Proofs.YthflimnpiglgbaaGreatDoorW.PrintLast Go.Proofs.YthflimnpiglgbaaGreatDoorW.PrintMore Go.Proofs.YthflimnpiglgbaaGreatDoor.LibU
def sz (x : S36) : Int := (x.f0.size : Int) + x.f1.size + 32
def S : List S36 → Int
  | [] => 0
  | x :: l => sz x + S l
theorem sz_pos (x : S36) : 32 ≤ sz x := by unfold sz; omega
theorem S_nonneg : ∀ l, 0 ≤ S l
  | [] => by simp [S]
  | x :: l => by have := S_nonneg l; have := sz_pos x; simp only [S]; omega
theorem S_snoc : ∀ (l : List S36) (x : S36), S (l ++ [x]) = S l + sz x
  | [], x => by simp [S]
  | y :: l, x => by have := S_snoc l x; simp only [List.cons_append, S]; omega
theorem take_snoc (l : List S36) (i : Nat) (h : i < l.length) : l.take (i + 1) = l.take i ++ [l.getD i z36] := by
  rw [List.take_add_one, List.getElem?_eq_getElem h, Option.toList_some, List.getD_eq_getElem?_getD, List.getElem?_eq_getElem h, Option.getD_some]
theorem S_take (l : List S36) (i : Nat) (h : i < l.length) : S (l.take (i + 1)) = S (l.take i) + sz (l.getD i z36) := by
  rw [take_snoc l i h, S_snoc]
theorem S_mono (l : List S36) (i j : Nat) (h : i ≤ j) (hj : j ≤ l.length) : S (l.take i) ≤ S (l.take j) := by
  induction j with
  | zero => rw [show i = 0 by omega]; omega
  | succ j ih =>
    by_cases c : i = j + 1
    · rw [c]; omega
    · have := ih (by omega) (by omega)
      rw [S_take l j (by omega)]
      have := sz_pos (l.getD j z36)
      omega
theorem of_val (x : S36) (h : sz x ≤ 1000000000) : spec_l4Of.f x.f0 x.f1 = some (sz x) := by
  unfold sz at h
  unfold spec_l4Of.f sz
  rw [w64 (x := (x.f0.size : Int) + (x.f1.size : Int)) (by omega) (by omega), w64 (by omega) (by omega)]
theorem size_l (l : List S36) (m : Int) (hl : l.length ≤ 1048580) (hS : S l ≤ 1000000000) (d : Nat) : ∀ (i : Nat), i ≤ l.length → l.length - i = d → ∀ k, d < k → spec_SizeOf.l0 k (S (l.take i)) (i : Int) m l = some (S l) := by
  induction d with
  | zero =>
    intro i hi hd k hk
    obtain ⟨k, rfl⟩ := ix (show 0 < k by omega)
    rw [spec_SizeOf.l0, if_neg (by omega), List.take_of_length_le (by omega)]
  | succ d ih =>
    intro i hi hd k hk
    obtain ⟨k, rfl⟩ := ix (show 0 < k by omega)
    have h1 := S_take l i (by omega)
    have h2 := S_mono l (i + 1) l.length (by omega) (Nat.le_refl _)
    rw [List.take_length] at h2
    have h3 := S_nonneg (l.take i)
    have h4 := sz_pos (l.getD i z36)
    have hrd : rd_T36 l (i : Int) = l.getD i z36 := by unfold rd_T36; rw [Int.toNat_natCast]
    rw [spec_SizeOf.l0, if_pos (by omega), if_pos (by omega), hrd]
    refine bs (of_val _ (by omega)) ?_
    rw [w64 (x := S (l.take i) + sz (l.getD i z36)) (by omega) (by omega), ← h1, w64 (x := (i : Int) + 1) (by omega) (by omega)]
    exact ih (i + 1) (by omega) (by omega) k (by omega)
theorem size (l : List S36) (m : Int) (hl : l.length ≤ 1048580) (hS : S l ≤ 1000000000) : ∀ k, l.length < k → spec_SizeOf.f k m l = some (S l) := by
  intro k hk
  unfold spec_SizeOf.f
  have := size_l l m hl hS l.length 0 (by omega) (by omega) k hk
  exact this
/-- The reference: from the end. -/
theorem fit_l (l : List S36) (m : Int) (hl : l.length ≤ 1048580) (hS : S l ≤ 1000000000) (i : Nat) (hi : i ≤ l.length) (h1 : S (l.take i) ≤ m) (h2 : i < l.length → m < S (l.take (i + 1))) (d : Nat) :
    ∀ (n : Nat), i ≤ n → n ≤ l.length → n - i = d → ∀ k, l.length + d + 1 < k → spec_l4Fit.l0 k m (l.take n) = some (m, l.take i) := by
  induction d with
  | zero =>
    intro n hn hn2 hd k hk
    obtain rfl : n = i := by omega
    obtain ⟨k, rfl⟩ := ix (show 0 < k by omega)
    have hll : (l.take n).length = n := by rw [List.length_take]; omega
    have h3 := S_mono l n l.length hn2 (Nat.le_refl _)
    rw [List.take_length] at h3
    rw [spec_l4Fit.l0]
    refine bs (size (l.take n) m (by omega) (by omega) k (by omega)) ?_
    rw [if_neg (by omega)]
  | succ d ih =>
    intro n hn hn2 hd k hk
    obtain ⟨k, rfl⟩ := ix (show 0 < k by omega)
    have hll : (l.take n).length = n := by rw [List.length_take]; omega
    have h3 := S_mono l n l.length hn2 (Nat.le_refl _)
    rw [List.take_length] at h3
    have h4 := S_mono l (i + 1) n (by omega) hn2
    have h5 := h2 (by omega)
    rw [spec_l4Fit.l0]
    refine bs (size (l.take n) m (by omega) (by omega) k (by omega)) ?_
    have hw : wrap64 (((l.take n).length : Int) - 1) = ((n - 1 : Nat) : Int) := by rw [hll, w64 (by omega) (by omega)]; omega
    rw [if_pos (by omega), hw, if_pos (by omega), if_pos (by rw [hll]; omega), Int.toNat_natCast, List.take_take, show min (n - 1) n = n - 1 by omega]
    exact ih (n - 1) (by omega) (by omega) (by omega) k (by omega)
/-- How many of the first fields fit. -/
theorem fit_at (l : List S36) (m : Int) (hm : 0 ≤ m) (d : Nat) : ∀ (i : Nat), i ≤ l.length → l.length - i = d → S (l.take i) ≤ m →
    ∃ j, j ≤ l.length ∧ S (l.take j) ≤ m ∧ (j < l.length → m < S (l.take (j + 1))) := by
  induction d with
  | zero => intro i hi hd h; exact ⟨i, hi, h, fun h => by omega⟩
  | succ d ih =>
    intro i hi hd h
    by_cases c : S (l.take (i + 1)) ≤ m
    · exact ih (i + 1) (by omega) (by omega) c
    · exact ⟨i, hi, h, fun _ => by omega⟩
theorem fit_any (l : List S36) (m : Int) (hl : l.length ≤ 1048580) (hS : S l ≤ 1000000000) (hm : 0 ≤ m) : ∃ j, j ≤ l.length ∧ S (l.take j) ≤ m ∧ (j < l.length → m < S (l.take (j + 1))) ∧ ∀ k, 2 * l.length + 1 < k → spec_l4Fit.f k m l = some (m, l.take j) := by
  obtain ⟨j, h1, h2, h3⟩ := fit_at l m hm l.length 0 (by omega) (by omega) (by show (0 : Int) ≤ m; omega)
  refine ⟨j, h1, h2, h3, fun k hk => ?_⟩
  have := fit_l l m hl hS j h1 h2 h3 (l.length - j) l.length h1 (Nat.le_refl _) rfl k (by omega)
  rw [List.take_length] at this
  unfold spec_l4Fit.f
  exact this
end Go.Proofs.YthflimnpiglgbaaGreatDoor.LibRz
end
section
set_option linter.unusedVariables false
set_option linter.unusedSimpArgs false
namespace Go.Proofs.YthflimnpiglgbaaGreatDoor.LibRz
open Go.RowKit Go.Proofs.YthflimnpiglgbaaGreatDoor.A Go.Proofs.YthflimnpiglgbaaGreatDoorW.PrintWords Go.Proofs.YthflimnpiglgbaaGreatDoorW.PrintLast Go.Proofs.YthflimnpiglgbaaGreatDoorW.PrintMore Go.Proofs.YthflimnpiglgbaaGreatDoor.LibU
/-- The room, as impl_Table_put.f counts it. -/
theorem nx_val (room : Int) (x : S36) (h : sz x ≤ 1000000000) (hr : -2000000000 ≤ room ∧ room ≤ 2000000000) : impl_Table_put.nx room x = room - sz x := by
  have := sz_pos x
  unfold sz at h this
  unfold impl_Table_put.nx sz
  rw [w64 (x := (x.f0.size : Int) + (x.f1.size : Int)) (by omega) (by omega), w64 (x := (x.f0.size : Int) + (x.f1.size : Int) + 32) (by omega) (by omega), w64 (by omega) (by omega)]
/-- The program: from the front. -/
theorem tr_l (l : List S36) (m : Int) (hm : 0 ≤ m ∧ m ≤ 1000000000) (hS : S l ≤ 1000000000) (d : Nat) : ∀ (i : Nat), i ≤ l.length → l.length - i = d → S (l.take i) ≤ m →
    (impl_Table_put.tr d (m - S (l.take i)) l i = none ∧ S l ≤ m) ∨ ∃ j, impl_Table_put.tr d (m - S (l.take i)) l i = some j ∧ j < l.length ∧ S (l.take j) ≤ m ∧ m < S (l.take (j + 1)) := by
  induction d with
  | zero =>
    intro i hi hd h
    rw [List.take_of_length_le (by omega)] at h
    exact .inl ⟨rfl, h⟩
  | succ d ih =>
    intro i hi hd h
    have h1 := S_take l i (by omega)
    have h2 := S_mono l (i + 1) l.length (by omega) (Nat.le_refl _)
    rw [List.take_length] at h2
    have h3 := S_nonneg (l.take i)
    have h4 := sz_pos (l.getD i z36)
    have hn := nx_val (m - S (l.take i)) (l.getD i z36) (by omega) (by omega)
    have e : m - S (l.take i) - sz (l.getD i z36) = m - S (l.take (i + 1)) := by omega
    rw [impl_Table_put.tr, hn, e]
    by_cases c : m - S (l.take (i + 1)) < 0
    · rw [if_pos c]
      exact .inr ⟨i, rfl, by omega, h, by omega⟩
    · rw [if_neg c]
      exact ih (i + 1) (by omega) (by omega) (by omega)
theorem fit_cut (l : List S36) (m : Int) (hl : l.length ≤ 1048580) (hm : 0 ≤ m ∧ m ≤ 1000000000) (hS : S l ≤ 1000000000) : ∀ k, 2 * l.length + 1 < k → spec_l4Fit.f k m l = some (m, impl_Table_put.cut m l) := by
  intro k hk
  have h0 := tr_l l m hm hS l.length 0 (by omega) (by omega) (by show (0 : Int) ≤ m; omega)
  have e0 : m - S (l.take 0) = m := by show m - 0 = m; omega
  rw [e0] at h0
  have et : l.take l.length = l := List.take_length
  unfold spec_l4Fit.f impl_Table_put.cut
  rcases h0 with ⟨h, hle⟩ | ⟨j, h, hj, h1, h2⟩
  · rw [h]
    have := fit_l l m hl hS l.length (Nat.le_refl _) (by rw [et]; exact hle) (fun h => by omega) 0 l.length (Nat.le_refl _) (Nat.le_refl _) (by omega) k (by omega)
    rw [et] at this
    exact this
  · rw [h]
    have := fit_l l m hl hS j (by omega) h1 (fun _ => h2) (l.length - j) l.length (by omega) (Nat.le_refl _) rfl k (by omega)
    rw [et] at this
    exact this
/-- What the program's cut is. -/
theorem cut_is (l : List S36) (m : Int) (hm : 0 ≤ m ∧ m ≤ 1000000000) (hS : S l ≤ 1000000000) : ∃ j, j ≤ l.length ∧ impl_Table_put.cut m l = l.take j ∧ S (l.take j) ≤ m ∧ (j < l.length → m < S (l.take (j + 1))) := by
  have h0 := tr_l l m hm hS l.length 0 (by omega) (by omega) (by show (0 : Int) ≤ m; omega)
  have e0 : m - S (l.take 0) = m := by show m - 0 = m; omega
  rw [e0] at h0
  unfold impl_Table_put.cut
  rcases h0 with ⟨h, hle⟩ | ⟨j, h, hj, h1, h2⟩
  · rw [h]
    exact ⟨l.length, Nat.le_refl _, (List.take_length).symm, by rw [List.take_length]; exact hle, fun h => by omega⟩
  · rw [h]
    exact ⟨j, by omega, rfl, h1, fun _ => h2⟩
end Go.Proofs.YthflimnpiglgbaaGreatDoor.LibRz
end
section
set_option linter.unusedVariables false
set_option linter.unusedSimpArgs false
namespace Go.Proofs.YthflimnpiglgbaaGreatDoor.LibRz
open Go.RowKit Go.Proofs.YthflimnpiglgbaaGreatDoor.A Go.Proofs.YthflimnpiglgbaaGreatDoorW.PrintWords Go.Proofs.YthflimnpiglgbaaGreatDoorW.PrintLast Go.Proofs.YthflimnpiglgbaaGreatDoorW.PrintMore Go.Proofs.YthflimnpiglgbaaGreatDoor.LibU
theorem szl (l : List S36) (m : Int) (hl : l.length ≤ 1048580) (d : Nat) : ∀ (i : Nat) (x : Int), i ≤ l.length → l.length - i = d →
    ∃ r, (∀ k, d < k → spec_SizeOf.l0 k x (i : Int) m l = some r) ∧ (∀ k, d < k → impl_SizeOf.l0 k x l (l.length : Int) (i : Int) = some r) := by
  induction d with
  | zero =>
    intro i x hi hd
    refine ⟨x, fun k hk => ?_, fun k hk => ?_⟩
    · obtain ⟨k, rfl⟩ := ix (show 0 < k by omega)
      simp only [spec_SizeOf.l0]
      rw [if_neg (by omega)]
    · obtain ⟨k, rfl⟩ := ix (show 0 < k by omega)
      simp only [impl_SizeOf.l0]
      rw [if_neg (by omega)]
  | succ d ih =>
    intro i x hi hd
    obtain ⟨r, h1, h2⟩ := ih (i + 1) (wrap64 (x + wrap64 (wrap64 (((rd_T36 l i).f0.size : Int) + ((rd_T36 l i).f1.size : Int)) + 32))) (by omega) (by omega)
    have e4 : wrap64 ((i : Int) + 1) = ((i + 1 : Nat) : Int) := by rw [w64 (by omega) (by omega)]; rfl
    refine ⟨r, fun k hk => ?_, fun k hk => ?_⟩
    · obtain ⟨k, rfl⟩ := ix (show 0 < k by omega)
      simp only [spec_SizeOf.l0, spec_l4Of.f, Option.bind_some, e4]
      rw [if_pos (by omega), if_pos (by omega)]
      exact h1 k (by omega)
    · obtain ⟨k, rfl⟩ := ix (show 0 < k by omega)
      simp only [impl_SizeOf.l0, impl_sizeOf.f, Option.bind_some, e4]
      rw [if_pos (by omega), if_pos (by omega), if_pos (by omega)]
      exact h2 k (by omega)
theorem size_both (m : Int) (l : List S36) (hl : l.length ≤ 1048580) : ∃ r, (∀ k, l.length < k → spec_SizeOf.f k m l = some r) ∧ (∀ k, l.length < k → impl_SizeOf.f k m l = some r) := szl l m hl l.length 0 0 (by omega) (by omega)
theorem tableOk_both (m : Int) (l : List S36) (hl : l.length ≤ 1048580) : ∃ r, (∀ k, l.length < k → spec_TableOk.f k m l = some r) ∧ (∀ k, l.length < k → impl_TableOk.f k m l = some r) := by
  obtain ⟨q, h1, h2⟩ := size_both m l hl
  by_cases h : 0 ≤ m ∧ m ≤ 4096
  · refine ⟨decide (q ≤ m), fun k hk => ?_, fun k hk => ?_⟩
    · unfold spec_TableOk.f
      refine bs (l1In _ _ _) ?_
      rw [if_pos (by simpa using h)]
      exact bs (h1 k hk) rfl
    · unfold impl_TableOk.f
      refine bs (inRange _ _ _) ?_
      rw [if_pos (by simpa using h)]
      exact bs (h2 k hk) rfl
  · refine ⟨false, fun k hk => ?_, fun k hk => ?_⟩
    · unfold spec_TableOk.f
      refine bs (l1In _ _ _) ?_
      rw [if_neg (by simpa using h)]
    · unfold impl_TableOk.f
      refine bs (inRange _ _ _) ?_
      rw [if_neg (by simpa using h)]
theorem isize (l : List S36) (m : Int) (hl : l.length ≤ 1048580) (hS : S l ≤ 1000000000) : ∀ k, l.length < k → impl_SizeOf.f k m l = some (S l) := by
  obtain ⟨r, h1, h2⟩ := size_both m l hl
  intro k hk
  have := h1 k hk
  rw [size l m hl hS k hk] at this
  rw [h2 k hk, ← this]
theorem sTok (l : List S36) (m : Int) (hl : l.length ≤ 1048580) (hS : S l ≤ 1000000000) : ∀ k, l.length < k → spec_TableOk.f k m l = some (decide (0 ≤ m ∧ m ≤ 4096 ∧ S l ≤ m)) := by
  intro k hk
  unfold spec_TableOk.f
  refine bs (l1In _ _ _) ?_
  by_cases h : 0 ≤ m ∧ m ≤ 4096
  · rw [if_pos (by simpa using h)]
    refine bs (size l m hl hS k hk) ?_
    congr 1
    simp only [decide_eq_decide]
    omega
  · rw [if_neg (by simpa using h)]
    congr 1
    symm
    simp only [decide_eq_false_iff_not]
    omega
theorem iTok (l : List S36) (m : Int) (hl : l.length ≤ 1048580) (hS : S l ≤ 1000000000) : ∀ k, l.length < k → impl_TableOk.f k m l = some (decide (0 ≤ m ∧ m ≤ 4096 ∧ S l ≤ m)) := by
  intro k hk
  unfold impl_TableOk.f
  refine bs (inRange _ _ _) ?_
  by_cases h : 0 ≤ m ∧ m ≤ 4096
  · rw [if_pos (by simpa using h)]
    refine bs (isize l m hl hS k hk) ?_
    congr 1
    simp only [decide_eq_decide]
    omega
  · rw [if_neg (by simpa using h)]
    congr 1
    symm
    simp only [decide_eq_false_iff_not]
    omega
end Go.Proofs.YthflimnpiglgbaaGreatDoor.LibRz
end
section
namespace Go.Proofs.YthflimnpiglgbaaGreatDoor.A
open Go.RowKit Go.Proofs.YthflimnpiglgbaaGreatDoorW.PrintWords Go.Proofs.YthflimnpiglgbaaGreatDoorW.PrintLast Go.Proofs.YthflimnpiglgbaaGreatDoorW.PrintMore
attribute [local go_sem] max2_int min2_int max_two min_two max_three min_three max_four min_four   -- for this text's walks alone
set_option linter.unusedVariables false
set_option linter.unusedSimpArgs false

def impl_PutField.f (k : Nat) (a0_0 : Int) (l0_1 : List (S36)) (a1_0 a1_1 : ByteArray) (a2 : Int) : Option (List Int × Int × (List (S36))):=if l0_1.length + 1 < 4398046511104 then ((impl_inRange.f a2 1 3).bind fun c => (if c = true then ((impl_TableOk.f k a0_0 l0_1).bind fun d => (if d = true then ((impl_Table_put.f k a0_0 l0_1 [] a1_0 a1_1 a2).bind fun r => some (r.1,a0_0,r.2)) else (some ([],a0_0,l0_1)))) else (some ([],a0_0,l0_1)))) else none
theorem impl_PutField.mono : ∀ a0 a1 a2 a3 a4 k,LeO (impl_PutField.f k a0 a1 a2 a3 a4) (impl_PutField.f (k + 1) a0 a1 a2 a3 a4):=by
 intro a0 a1 a2 a3 a4 k
 unfold impl_PutField.f
 exact LeO.ite (LeO.bind (LeO.refl _) (fun _ => LeO.ite (LeO.bind (impl_TableOk.mono _ _ _) (fun _ => LeO.ite (LeO.bind (impl_Table_put.mono _ _ _ _ _ _ _) (fun _ => LeO.refl _)) (LeO.refl _))) (LeO.refl _))) (LeO.none _)
set_option maxHeartbeats 8000000 in
set_option maxRecDepth 100000 in
theorem impl_PutField.calls (k : Nat) (a0_0 : Int) (A0_1 : Option Addr) (c0_1 : Nat) (l0_1 : List (S36)) (a1_0 : ByteArray) (a1_1 : ByteArray) (a2 : Int) (r1 : List Int) (r2 : Int) (r3 : List (S36)) (w : World) (hr0_1 : Kd.C k36 w A0_1 l0_1.length l0_1) (hc0_1 : l0_1.length ≤ c0_1) (ht : TB w) (h : impl_PutField.f k a0_0 l0_1 a1_0 a1_1 a2 = some (r1,r2,r3)) :
 Calls Tryz.prog 10 #[.agg #[.int .i64 a0_0,.slice A0_1 l0_1.length c0_1],.agg #[.string a1_0,.string a1_1],.int .i64 a2] w fun e w' => ∃ v0_ v2_ : Value,e = .returned (.tuple #[v0_,.agg #[.int .i64 r2,v2_]]) ∧ Kd.R (Kd.int .u8) 5 w' w.heap.size (fun _ => True) v0_ r1 ∧ Kd.R k36 36 w' w.heap.size (fun _ => True) v2_ r3 ∧ Below w.heap.size w w':=by
 have hu32:=Tryz.underlying32
 have hu36:=Tryz.underlying36
 have HR0_1:=zm0_ hr0_1
 have HC0_1:=zm0_ hc0_1
 have HTB:=zm0_ ht
 clear hr0_1 hc0_1 ht
 unfold impl_PutField.f at h
 by_cases hl : l0_1.length + 1 < 4398046511104
 ·
  rw [if_pos hl] at h
  have hcp : impl_copyTable.f a0_0 l0_1 = some (a0_0,l0_1):=by
   unfold impl_copyTable.f impl_Field_42.f
   rw [Option.bind_some,if_pos (by rw [List.length_nil];omega),List.nil_append,Option.bind_some]
  have HCP:=zm0_ hcp
  clear hcp hl
  obtain ⟨c,hc1,h⟩:=zq1_ h
  have HIR:=zm0_ hc1
  clear hc1
  cases c with
  | false =>
   rw [if_neg Bool.false_ne_true] at h
   simp only [Option.some.injEq,Prod.mk.injEq] at h
   obtain ⟨rfl,rfl,rfl⟩:=h
   go_enter Tryz.func10,Tryz.ntmps10
   go_wp2_with (first|((with_reducible refine gate_dst (N:=3) rfl ?_);refine box_event ?hg (N:=3) ?hd (cs:=#[.int .i64 a0_0,.slice A0_1 l0_1.length c0_1]) (t:=32) ?hr ?_;(case hd => rfl);(case hg => rfl);(case hr => first|(go_simp;done)|(go_simp;rfl));intro g2 hg w2 hbox hb;have BKw2:=zm0_ hbox;have GE2:=zm0_ ((by rw [hg];exact Nat.le_refl _) : w.heap.size ≤ g2);have HBw2:=zm0_ hb;clear hg hb hbox)|((with_reducible refine gate_dst (N:=4) rfl ?_);refine box_event ?hg (N:=4) ?hd (cs:=#[.string a1_0,.string a1_1]) (t:=36) ?hr ?_;(case hd => rfl);(case hg => rfl);(case hr => first|(go_simp;done)|(go_simp;rfl));intro g3 hg w3 hbox hb;have BKw3:=zm0_ hbox;have N23:=zm0_ ((by rw [hg];exact Nat.ne_of_lt (zo3_ BKw2.out)) : g2 ≠ g3);have B2w3:=zm0_ (zm5_ BKw2.out hb);have HBw3:=zm0_ (zn8_ HBw2.out hb);clear hg hb hbox)|((with_reducible refine gate_dst (N:=7) rfl ?_);refine box_event ?hg (N:=7) ?hd (cs:=#[.int .i64 0,.slice none 0 0]) (t:=32) ?hr ?_;(case hd => rfl);(case hg => rfl);(case hr => first|(go_simp;done)|(go_simp;rfl));intro g4 hg w4 hbox hb;have BKw4:=zm0_ hbox;have GE4:=zm0_ ((by rw [hg];exact zn9_ HBw3.out) : w.heap.size ≤ g4);have N34:=zm0_ ((by rw [hg];exact Nat.ne_of_lt (zo3_ BKw3.out)) : g3 ≠ g4);have N24:=zm0_ ((by rw [hg];exact Nat.ne_of_lt (zo3_ B2w3.out)) : g2 ≠ g4);have B2w4:=zm0_ (zm5_ B2w3.out hb);have B3w4:=zm0_ (zm5_ BKw3.out hb);have HBw4:=zm0_ (zn8_ HBw3.out hb);have hcz2_0 : w4.cell? ⟨g2,0,none⟩ = some (.int .i64 a0_0):=(zm6_ B2w4.out 0).trans rfl;have hcz2_1 : w4.cell? ⟨g2,1,none⟩ = some (.slice A0_1 l0_1.length c0_1):=(zm6_ B2w4.out 1).trans rfl;clear hg hb hbox)|((with_reducible refine gate_callee (f:=31) rfl ?_);refine goesL_ (some 11) rfl rfl Tryz.func31 (by kernel_rfl) rfl #[.agg #[.int .i64 a0_0,.slice A0_1 l0_1.length c0_1]] rfl (by (try simp only [zp1_,zp2_,zp3_]);first|done|rfl) ?_;(with_reducible refine (impl_copyTable.calls a0_0 _ _ l0_1 a0_0 l0_1 _ ?side1 ?side2 HCP.out).mono ?_);(case side1 => exact (Kd.C_below HR0_1.out HBw4.out));(case side2 => exact HC0_1.out);rintro e w7 ⟨v7,rfl,ho,hb⟩;obtain ⟨A7,c7,ev⟩:=Kd.R_slice ho;subst ev;refine ⟨_,rfl,?_⟩;have HO7:=zm0_ (zo1_ ho (zn9_ HBw4.out));have B2w7:=zm0_ (zm5_ B2w4.out hb);have B3w7:=zm0_ (zm5_ B3w4.out hb);have B4w7:=zm0_ (zm5_ BKw4.out hb);have HBw7:=zm0_ (zn8_ HBw4.out hb);clear hb ho)|((with_reducible refine gate_dst (N:=8) rfl ?_);refine box_event ?hg (N:=8) ?hd (cs:=#[.int .i64 0,.slice none 0 0]) (t:=32) ?hr ?_;(case hd => rfl);(case hg => rfl);(case hr => first|(go_simp;done)|(go_simp;rfl));intro g5 hg w8 hbox hb;have BKw8:=zm0_ hbox;have HO8:=zm0_ (zm8_ HO7.out hb);have B2w8:=zm0_ (zm5_ B2w7.out hb);have B3w8:=zm0_ (zm5_ B3w7.out hb);have B4w8:=zm0_ (zm5_ B4w7.out hb);have GE5:=zm0_ ((by rw [hg];exact zn9_ HBw7.out) : w.heap.size ≤ g5);have N25:=zm0_ ((by rw [hg];exact Nat.ne_of_lt (zo3_ B2w7.out)) : g2 ≠ g5);have N35:=zm0_ ((by rw [hg];exact Nat.ne_of_lt (zo3_ B3w7.out)) : g3 ≠ g5);have N45:=zm0_ ((by rw [hg];exact Nat.ne_of_lt (zo3_ B4w7.out)) : g4 ≠ g5);have HBw8:=zm0_ (zn8_ HBw7.out hb);have hcz2d_0 : w8.cell? ⟨g2,0,none⟩ = some (.int .i64 a0_0):=(zm6_ B2w8.out 0).trans rfl;have hcz2d_1 : w8.cell? ⟨g2,1,none⟩ = some (.slice A0_1 l0_1.length c0_1):=(zm6_ B2w8.out 1).trans rfl;have hfz2d_0:=zm7_ B2w8.out 0;have hfz2d_1:=zm7_ B2w8.out 1;have hcz5d_0 : w8.cell? ⟨g5,0,none⟩ = some (.int .i64 0):=(zm6_ BKw8.out 0).trans rfl;have hcz5d_1 : w8.cell? ⟨g5,1,none⟩ = some (.slice none 0 0):=(zm6_ BKw8.out 1).trans rfl;have hfz5d_0:=zm7_ BKw8.out 0;have hfz5d_1:=zm7_ BKw8.out 1;have hnb25:=N25.out;have hnb52:=N25.out.symm;clear hg hb hbox)|(go_at_call 32;(with_reducible refine (impl_inRange.calls a2 1 3 false _ HIR.out).mono ?_);rintro e w10 ⟨rfl,hD⟩;have hb:=impl_Table_put.drawn_below hD;have HO10 : Aside0 (Kd.R k36 36 w10 w.heap.size (fun _ => True) (.slice A7 l0_1.length c7) l0_1):=⟨zm8_ (zo2_ (ok:=fun k_ => True ∧ k_ ≠ g5) (by (with_reducible repeat (first|apply k2_|apply k3_|apply k1_|refine k4_ (p:=⟨g5,1,none⟩) ?_ (fun _ hk => hk.2) _|refine k4_ (p:=⟨g5,0,none⟩) ?_ (fun _ hk => hk.2) _));exact Kd.R_types (zo2_ HO8.out (fun _ _ => trivial)) BKw8.out (by decide)) (fun _ _ => trivial)) hb⟩;have B2x:=zm0_ (zm5_ (g:=g2) (o:=.cells #[.int .i64 a0_0,.slice A0_1 l0_1.length c0_1] 32 (0,0)) (by (with_reducible repeat (first|refine k6_ ?_ _|refine k7_ ?_|refine k5_ ?_ _|refine blk_far ?_ N25.out _));exact B2w8.out) hb);have B3x:=zm0_ (zm5_ (g:=g3) (o:=.cells #[.string a1_0,.string a1_1] 36 (0,0)) (by (with_reducible repeat (first|refine k6_ ?_ _|refine k7_ ?_|refine k5_ ?_ _|refine blk_far ?_ N35.out _));exact B3w8.out) hb);have B4x:=zm0_ (zm5_ (g:=g4) (o:=.cells #[.int .i64 0,.slice none 0 0] 32 (0,0)) (by (with_reducible repeat (first|refine k6_ ?_ _|refine k7_ ?_|refine k5_ ?_ _|refine blk_far ?_ N45.out _));exact B4w8.out) hb);have B5x:=zm0_ (zm5_ (g:=g5) (o:=.cells #[.int .i64 a0_0,.slice A7 l0_1.length c7] 32 (0,0)) (by (with_reducible repeat (first|refine k6_ ?_ _|refine k7_ ?_|refine k5_ ?_ _));refine blk_put (cs:=#[.int .i64 a0_0,.slice none 0 0]) ?_ 1 _ rfl;(with_reducible repeat (first|refine k6_ ?_ _|refine k7_ ?_|refine k5_ ?_ _));refine blk_put (cs:=#[.int .i64 0,.slice none 0 0]) ?_ 0 _ rfl;(with_reducible repeat (first|refine k6_ ?_ _|refine k7_ ?_|refine k5_ ?_ _));exact BKw8.out) hb);have HBw10:=zm0_ (zn8_ (zl1 HBw8 GE5) hb);clear hb hD;have hcz2x_0 : w10.cell? ⟨g2,0,none⟩ = some (.int .i64 a0_0):=(zm6_ B2x.out 0).trans rfl;have hcz2x_1 : w10.cell? ⟨g2,1,none⟩ = some (.slice A0_1 l0_1.length c0_1):=(zm6_ B2x.out 1).trans rfl))
   have B4z:=zm0_ (k7_ B4x.out)
   have B5z:=zm0_ (k7_ B5x.out)
   have HOz:=zm0_ (k3_ HO10.out)
   have HYz:=zm0_ (k3_ (Kd.R_nil (Kd.int .u8) 5 w10 w.heap.size (fun _ => True)))
   have HBz:=zm0_ (zm4_ HBw10.out)
   refine start_ (n:=3) (S:=fun w' => w'.cell? ⟨g5,0,none⟩ = some (.int .i64 a0_0) ∧ w'.cell? ⟨g5,1,none⟩ = some (.slice A7 l0_1.length c7)) (ds:=[2]) #[Z,Z,Z] (by kernel_rfl) rfl rfl ⟨(zm6_ B5z.out 0).trans rfl,(zm6_ B5z.out 1).trans rfl⟩ (fun hHeld => ?_)
   generalize hwd : w10.drew = w14 at B4z B5z HOz HYz HBz hHeld ⊢
   clear hwd
   refine take_ (i:=0) (N:=some 20) (v:=?_) (a':=?_) #[Y,Z,Z] rfl rfl (by kernel_rfl) (fun _ _ _ h => h) (Or.inl ⟨by rfl,?_⟩) hHeld ?_ ?_
   rotate_left
   ·
    rintro w' ⟨s0,s1⟩
    go_simp
    with_reducible rfl
   rotate_left
   ·
    simp only [Act.put,lA_,lB_,lC_,i64_w,i32_w]
    rfl
   refine pure_ (i:=1) (N:=some 6) (v:=?_) (a':=?_) #[Y,Y,Z] rfl rfl (by kernel_rfl) (fun _ _ _ h => h) (Or.inl ⟨by rfl,?_⟩) ?_ ?_
   rotate_left
   ·
    intro w'
    go_simp
    with_reducible rfl
   rotate_left
   ·
    simp only [Act.put,lA_,lB_,lC_,i64_w,i32_w]
    rfl
   refine last_ (i:=2) (N:=none) #[Y,Y,Y] rfl rfl (by kernel_rfl) (by decide) (fun K hK => ?_)
   have hcz4_0 : w14.cell? ⟨g4,0,none⟩ = some (.int .i64 0):=(zm6_ B4z.out 0).trans rfl
   have hcz4_1 : w14.cell? ⟨g4,1,none⟩ = some (.slice none 0 0):=(zm6_ B4z.out 1).trans rfl
   have hfz4_0:=zm7_ B4z.out 0
   have hfz4_1:=zm7_ B4z.out 1
   refine skip_ (w1:=?_) (by rfl) rfl ?_ ?_
   rotate_left
   ·
    go_simp
    rfl
   refine hK.out _ _ ?_
   clear hK K
   refine done_ (by kernel_rfl) ?_
   try go_wp2
   refine bodyPost_ret (results_tc rfl _ _ g4 32 #[.int .i64 a0_0,.slice A7 l0_1.length c7] (0,0) _ rfl (by (with_reducible repeat (first|refine k6_ ?_ _|refine k7_ ?_|refine k5_ ?_ _));refine blk_put (cs:=#[.int .i64 a0_0,.slice none 0 0]) ?_ 1 _ rfl;(with_reducible repeat (first|refine k6_ ?_ _|refine k7_ ?_|refine k5_ ?_ _));refine blk_put (cs:=#[.int .i64 0,.slice none 0 0]) ?_ 0 _ rfl;(with_reducible repeat (first|refine k6_ ?_ _|refine k7_ ?_|refine k5_ ?_ _));exact B4z.out) Tryz.underlying32 rfl (by kernel_rfl)) rfl ?_
   exact ⟨_,_,rfl,zo2_ (k4_ (p:=⟨g4,1,none⟩) (k4_ (p:=⟨g4,0,none⟩) (Kd.R_types HYz.out B4z.out (by decide)) (fun _ hk => hk.2) (.int .i64 a0_0)) (fun _ hk => hk.2) (.slice A7 l0_1.length c7)) (fun _ _ => trivial),zo2_ (k4_ (p:=⟨g4,1,none⟩) (k4_ (p:=⟨g4,0,none⟩) (Kd.R_types HOz.out B4z.out (by decide)) (fun _ hk => hk.2) (.int .i64 a0_0)) (fun _ hk => hk.2) (.slice A7 l0_1.length c7)) (fun _ _ => trivial),zm1_ (zm1_ HBz.out GE4.out) GE4.out⟩
  | true =>
   rw [if_pos rfl] at h
   obtain ⟨d,hc2,h⟩:=zq1_ h
   have HTK:=zm0_ hc2
   clear hc2
   cases d with
   | false =>
   rw [if_neg Bool.false_ne_true] at h
   simp only [Option.some.injEq,Prod.mk.injEq] at h
   obtain ⟨rfl,rfl,rfl⟩:=h
   go_enter Tryz.func10,Tryz.ntmps10
   go_wp2_with (first|((with_reducible refine gate_dst (N:=3) rfl ?_);refine box_event ?hg (N:=3) ?hd (cs:=#[.int .i64 a0_0,.slice A0_1 l0_1.length c0_1]) (t:=32) ?hr ?_;(case hd => rfl);(case hg => rfl);(case hr => first|(go_simp;done)|(go_simp;rfl));intro g2 hg w2 hbox hb;have BKw2:=zm0_ hbox;have GE2:=zm0_ ((by rw [hg];exact Nat.le_refl _) : w.heap.size ≤ g2);have HBw2:=zm0_ hb;clear hg hb hbox)|((with_reducible refine gate_dst (N:=4) rfl ?_);refine box_event ?hg (N:=4) ?hd (cs:=#[.string a1_0,.string a1_1]) (t:=36) ?hr ?_;(case hd => rfl);(case hg => rfl);(case hr => first|(go_simp;done)|(go_simp;rfl));intro g3 hg w3 hbox hb;have BKw3:=zm0_ hbox;have N23:=zm0_ ((by rw [hg];exact Nat.ne_of_lt (zo3_ BKw2.out)) : g2 ≠ g3);have B2w3:=zm0_ (zm5_ BKw2.out hb);have HBw3:=zm0_ (zn8_ HBw2.out hb);clear hg hb hbox)|((with_reducible refine gate_dst (N:=7) rfl ?_);refine box_event ?hg (N:=7) ?hd (cs:=#[.int .i64 0,.slice none 0 0]) (t:=32) ?hr ?_;(case hd => rfl);(case hg => rfl);(case hr => first|(go_simp;done)|(go_simp;rfl));intro g4 hg w4 hbox hb;have BKw4:=zm0_ hbox;have GE4:=zm0_ ((by rw [hg];exact zn9_ HBw3.out) : w.heap.size ≤ g4);have N34:=zm0_ ((by rw [hg];exact Nat.ne_of_lt (zo3_ BKw3.out)) : g3 ≠ g4);have N24:=zm0_ ((by rw [hg];exact Nat.ne_of_lt (zo3_ B2w3.out)) : g2 ≠ g4);have B2w4:=zm0_ (zm5_ B2w3.out hb);have B3w4:=zm0_ (zm5_ BKw3.out hb);have HBw4:=zm0_ (zn8_ HBw3.out hb);have hcz2_0 : w4.cell? ⟨g2,0,none⟩ = some (.int .i64 a0_0):=(zm6_ B2w4.out 0).trans rfl;have hcz2_1 : w4.cell? ⟨g2,1,none⟩ = some (.slice A0_1 l0_1.length c0_1):=(zm6_ B2w4.out 1).trans rfl;clear hg hb hbox)|((with_reducible refine gate_callee (f:=31) rfl ?_);refine goesL_ (some 11) rfl rfl Tryz.func31 (by kernel_rfl) rfl #[.agg #[.int .i64 a0_0,.slice A0_1 l0_1.length c0_1]] rfl (by (try simp only [zp1_,zp2_,zp3_]);first|done|rfl) ?_;(with_reducible refine (impl_copyTable.calls a0_0 _ _ l0_1 a0_0 l0_1 _ ?side1 ?side2 HCP.out).mono ?_);(case side1 => exact (Kd.C_below HR0_1.out HBw4.out));(case side2 => exact HC0_1.out);rintro e w7 ⟨v7,rfl,ho,hb⟩;obtain ⟨A7,c7,ev⟩:=Kd.R_slice ho;subst ev;refine ⟨_,rfl,?_⟩;have HO7:=zm0_ (zo1_ ho (zn9_ HBw4.out));have B2w7:=zm0_ (zm5_ B2w4.out hb);have B3w7:=zm0_ (zm5_ B3w4.out hb);have B4w7:=zm0_ (zm5_ BKw4.out hb);have HBw7:=zm0_ (zn8_ HBw4.out hb);clear hb ho)|((with_reducible refine gate_dst (N:=8) rfl ?_);refine box_event ?hg (N:=8) ?hd (cs:=#[.int .i64 0,.slice none 0 0]) (t:=32) ?hr ?_;(case hd => rfl);(case hg => rfl);(case hr => first|(go_simp;done)|(go_simp;rfl));intro g5 hg w8 hbox hb;have BKw8:=zm0_ hbox;have HO8:=zm0_ (zm8_ HO7.out hb);have B2w8:=zm0_ (zm5_ B2w7.out hb);have B3w8:=zm0_ (zm5_ B3w7.out hb);have B4w8:=zm0_ (zm5_ B4w7.out hb);have GE5:=zm0_ ((by rw [hg];exact zn9_ HBw7.out) : w.heap.size ≤ g5);have N25:=zm0_ ((by rw [hg];exact Nat.ne_of_lt (zo3_ B2w7.out)) : g2 ≠ g5);have N35:=zm0_ ((by rw [hg];exact Nat.ne_of_lt (zo3_ B3w7.out)) : g3 ≠ g5);have N45:=zm0_ ((by rw [hg];exact Nat.ne_of_lt (zo3_ B4w7.out)) : g4 ≠ g5);have HBw8:=zm0_ (zn8_ HBw7.out hb);have hcz2d_0 : w8.cell? ⟨g2,0,none⟩ = some (.int .i64 a0_0):=(zm6_ B2w8.out 0).trans rfl;have hcz2d_1 : w8.cell? ⟨g2,1,none⟩ = some (.slice A0_1 l0_1.length c0_1):=(zm6_ B2w8.out 1).trans rfl;have hfz2d_0:=zm7_ B2w8.out 0;have hfz2d_1:=zm7_ B2w8.out 1;have hcz5d_0 : w8.cell? ⟨g5,0,none⟩ = some (.int .i64 0):=(zm6_ BKw8.out 0).trans rfl;have hcz5d_1 : w8.cell? ⟨g5,1,none⟩ = some (.slice none 0 0):=(zm6_ BKw8.out 1).trans rfl;have hfz5d_0:=zm7_ BKw8.out 0;have hfz5d_1:=zm7_ BKw8.out 1;have hnb25:=N25.out;have hnb52:=N25.out.symm;clear hg hb hbox)|(go_at_call 32;(with_reducible refine (impl_inRange.calls a2 1 3 true _ HIR.out).mono ?_);rintro e w10 ⟨rfl,hD⟩;have hb:=impl_Table_put.drawn_below hD;have HO10 : Aside0 (Kd.R k36 36 w10 w.heap.size (fun _ => True) (.slice A7 l0_1.length c7) l0_1):=⟨zm8_ (zo2_ (ok:=fun k_ => True ∧ k_ ≠ g5) (by (with_reducible repeat (first|apply k2_|apply k3_|apply k1_|refine k4_ (p:=⟨g5,1,none⟩) ?_ (fun _ hk => hk.2) _|refine k4_ (p:=⟨g5,0,none⟩) ?_ (fun _ hk => hk.2) _));exact Kd.R_types (zo2_ HO8.out (fun _ _ => trivial)) BKw8.out (by decide)) (fun _ _ => trivial)) hb⟩;have B2x:=zm0_ (zm5_ (g:=g2) (o:=.cells #[.int .i64 a0_0,.slice A0_1 l0_1.length c0_1] 32 (0,0)) (by (with_reducible repeat (first|refine k6_ ?_ _|refine k7_ ?_|refine k5_ ?_ _|refine blk_far ?_ N25.out _));exact B2w8.out) hb);have B3x:=zm0_ (zm5_ (g:=g3) (o:=.cells #[.string a1_0,.string a1_1] 36 (0,0)) (by (with_reducible repeat (first|refine k6_ ?_ _|refine k7_ ?_|refine k5_ ?_ _|refine blk_far ?_ N35.out _));exact B3w8.out) hb);have B4x:=zm0_ (zm5_ (g:=g4) (o:=.cells #[.int .i64 0,.slice none 0 0] 32 (0,0)) (by (with_reducible repeat (first|refine k6_ ?_ _|refine k7_ ?_|refine k5_ ?_ _|refine blk_far ?_ N45.out _));exact B4w8.out) hb);have B5x:=zm0_ (zm5_ (g:=g5) (o:=.cells #[.int .i64 a0_0,.slice A7 l0_1.length c7] 32 (0,0)) (by (with_reducible repeat (first|refine k6_ ?_ _|refine k7_ ?_|refine k5_ ?_ _));refine blk_put (cs:=#[.int .i64 a0_0,.slice none 0 0]) ?_ 1 _ rfl;(with_reducible repeat (first|refine k6_ ?_ _|refine k7_ ?_|refine k5_ ?_ _));refine blk_put (cs:=#[.int .i64 0,.slice none 0 0]) ?_ 0 _ rfl;(with_reducible repeat (first|refine k6_ ?_ _|refine k7_ ?_|refine k5_ ?_ _));exact BKw8.out) hb);have HBw10:=zm0_ (zn8_ (zl1 HBw8 GE5) hb);clear hb hD;have hcz2x_0 : w10.cell? ⟨g2,0,none⟩ = some (.int .i64 a0_0):=(zm6_ B2x.out 0).trans rfl;have hcz2x_1 : w10.cell? ⟨g2,1,none⟩ = some (.slice A0_1 l0_1.length c0_1):=(zm6_ B2x.out 1).trans rfl)|(go_at_call 33;(with_reducible refine (impl_TableOk.calls k a0_0 _ _ l0_1 false _ ?side1 ?side2 HTK.out).mono ?_);(case side1 => exact (Kd.C_below HR0_1.out HBw10.out));(case side2 => exact HC0_1.out);rintro e w11 ⟨rfl,hb⟩;have HO11:=zm0_ (zm8_ HO10.out hb);have B3e:=zm0_ (zm5_ B3x.out hb);have B4e:=zm0_ (zm5_ B4x.out hb);have B5e:=zm0_ (zm5_ B5x.out hb);have HBw11:=zm0_ (zn8_ HBw10.out hb);clear hb;have hcz3e_0 : w11.cell? ⟨g3,0,none⟩ = some (.string a1_0):=(zm6_ B3e.out 0).trans rfl;have hcz3e_1 : w11.cell? ⟨g3,1,none⟩ = some (.string a1_1):=(zm6_ B3e.out 1).trans rfl;have hcz5e_0 : w11.cell? ⟨g5,0,none⟩ = some (.int .i64 a0_0):=(zm6_ B5e.out 0).trans rfl;have hcz5e_1 : w11.cell? ⟨g5,1,none⟩ = some (.slice A7 l0_1.length c7):=(zm6_ B5e.out 1).trans rfl))
   have B4z:=zm0_ (k7_ B4e.out)
   have B5z:=zm0_ (k7_ B5e.out)
   have HOz:=zm0_ (k3_ HO11.out)
   have HYz:=zm0_ (k3_ (Kd.R_nil (Kd.int .u8) 5 w11 w.heap.size (fun _ => True)))
   have HBz:=zm0_ (zm4_ HBw11.out)
   refine start_ (n:=3) (S:=fun w' => w'.cell? ⟨g5,0,none⟩ = some (.int .i64 a0_0) ∧ w'.cell? ⟨g5,1,none⟩ = some (.slice A7 l0_1.length c7)) (ds:=[2]) #[Z,Z,Z] (by kernel_rfl) rfl rfl ⟨(zm6_ B5z.out 0).trans rfl,(zm6_ B5z.out 1).trans rfl⟩ (fun hHeld => ?_)
   generalize hwd : w11.drew = w14 at B4z B5z HOz HYz HBz hHeld ⊢
   clear hwd
   refine take_ (i:=0) (N:=some 20) (v:=?_) (a':=?_) #[Y,Z,Z] rfl rfl (by kernel_rfl) (fun _ _ _ h => h) (Or.inl ⟨by rfl,?_⟩) hHeld ?_ ?_
   rotate_left
   ·
    rintro w' ⟨s0,s1⟩
    go_simp
    with_reducible rfl
   rotate_left
   ·
    simp only [Act.put,lA_,lB_,lC_,i64_w,i32_w]
    rfl
   refine pure_ (i:=1) (N:=some 6) (v:=?_) (a':=?_) #[Y,Y,Z] rfl rfl (by kernel_rfl) (fun _ _ _ h => h) (Or.inl ⟨by rfl,?_⟩) ?_ ?_
   rotate_left
   ·
    intro w'
    go_simp
    with_reducible rfl
   rotate_left
   ·
    simp only [Act.put,lA_,lB_,lC_,i64_w,i32_w]
    rfl
   refine last_ (i:=2) (N:=none) #[Y,Y,Y] rfl rfl (by kernel_rfl) (by decide) (fun K hK => ?_)
   have hcz4_0 : w14.cell? ⟨g4,0,none⟩ = some (.int .i64 0):=(zm6_ B4z.out 0).trans rfl
   have hcz4_1 : w14.cell? ⟨g4,1,none⟩ = some (.slice none 0 0):=(zm6_ B4z.out 1).trans rfl
   have hfz4_0:=zm7_ B4z.out 0
   have hfz4_1:=zm7_ B4z.out 1
   refine skip_ (w1:=?_) (by rfl) rfl ?_ ?_
   rotate_left
   ·
    go_simp
    rfl
   refine hK.out _ _ ?_
   clear hK K
   refine done_ (by kernel_rfl) ?_
   try go_wp2
   refine bodyPost_ret (results_tc rfl _ _ g4 32 #[.int .i64 a0_0,.slice A7 l0_1.length c7] (0,0) _ rfl (by (with_reducible repeat (first|refine k6_ ?_ _|refine k7_ ?_|refine k5_ ?_ _));refine blk_put (cs:=#[.int .i64 a0_0,.slice none 0 0]) ?_ 1 _ rfl;(with_reducible repeat (first|refine k6_ ?_ _|refine k7_ ?_|refine k5_ ?_ _));refine blk_put (cs:=#[.int .i64 0,.slice none 0 0]) ?_ 0 _ rfl;(with_reducible repeat (first|refine k6_ ?_ _|refine k7_ ?_|refine k5_ ?_ _));exact B4z.out) Tryz.underlying32 rfl (by kernel_rfl)) rfl ?_
   exact ⟨_,_,rfl,zo2_ (k4_ (p:=⟨g4,1,none⟩) (k4_ (p:=⟨g4,0,none⟩) (Kd.R_types HYz.out B4z.out (by decide)) (fun _ hk => hk.2) (.int .i64 a0_0)) (fun _ hk => hk.2) (.slice A7 l0_1.length c7)) (fun _ _ => trivial),zo2_ (k4_ (p:=⟨g4,1,none⟩) (k4_ (p:=⟨g4,0,none⟩) (Kd.R_types HOz.out B4z.out (by decide)) (fun _ hk => hk.2) (.int .i64 a0_0)) (fun _ hk => hk.2) (.slice A7 l0_1.length c7)) (fun _ _ => trivial),zm1_ (zm1_ HBz.out GE4.out) GE4.out⟩
   | true =>
   rw [if_pos rfl] at h
   obtain ⟨⟨q1,q2⟩,hc3,h⟩:=zq1_ h
   simp only [Option.some.injEq,Prod.mk.injEq] at h
   obtain ⟨rfl,rfl,rfl⟩:=h
   have HPU:=zm0_ hc3
   clear hc3
   go_enter Tryz.func10,Tryz.ntmps10
   go_wp2_with (first|((with_reducible refine gate_dst (N:=3) rfl ?_);refine box_event ?hg (N:=3) ?hd (cs:=#[.int .i64 a0_0,.slice A0_1 l0_1.length c0_1]) (t:=32) ?hr ?_;(case hd => rfl);(case hg => rfl);(case hr => first|(go_simp;done)|(go_simp;rfl));intro g2 hg w2 hbox hb;have BKw2:=zm0_ hbox;have GE2:=zm0_ ((by rw [hg];exact Nat.le_refl _) : w.heap.size ≤ g2);have HBw2:=zm0_ hb;clear hg hb hbox)|((with_reducible refine gate_dst (N:=4) rfl ?_);refine box_event ?hg (N:=4) ?hd (cs:=#[.string a1_0,.string a1_1]) (t:=36) ?hr ?_;(case hd => rfl);(case hg => rfl);(case hr => first|(go_simp;done)|(go_simp;rfl));intro g3 hg w3 hbox hb;have BKw3:=zm0_ hbox;have N23:=zm0_ ((by rw [hg];exact Nat.ne_of_lt (zo3_ BKw2.out)) : g2 ≠ g3);have B2w3:=zm0_ (zm5_ BKw2.out hb);have HBw3:=zm0_ (zn8_ HBw2.out hb);clear hg hb hbox)|((with_reducible refine gate_dst (N:=7) rfl ?_);refine box_event ?hg (N:=7) ?hd (cs:=#[.int .i64 0,.slice none 0 0]) (t:=32) ?hr ?_;(case hd => rfl);(case hg => rfl);(case hr => first|(go_simp;done)|(go_simp;rfl));intro g4 hg w4 hbox hb;have BKw4:=zm0_ hbox;have GE4:=zm0_ ((by rw [hg];exact zn9_ HBw3.out) : w.heap.size ≤ g4);have N34:=zm0_ ((by rw [hg];exact Nat.ne_of_lt (zo3_ BKw3.out)) : g3 ≠ g4);have N24:=zm0_ ((by rw [hg];exact Nat.ne_of_lt (zo3_ B2w3.out)) : g2 ≠ g4);have B2w4:=zm0_ (zm5_ B2w3.out hb);have B3w4:=zm0_ (zm5_ BKw3.out hb);have HBw4:=zm0_ (zn8_ HBw3.out hb);have hcz2_0 : w4.cell? ⟨g2,0,none⟩ = some (.int .i64 a0_0):=(zm6_ B2w4.out 0).trans rfl;have hcz2_1 : w4.cell? ⟨g2,1,none⟩ = some (.slice A0_1 l0_1.length c0_1):=(zm6_ B2w4.out 1).trans rfl;clear hg hb hbox)|((with_reducible refine gate_callee (f:=31) rfl ?_);refine goesL_ (some 11) rfl rfl Tryz.func31 (by kernel_rfl) rfl #[.agg #[.int .i64 a0_0,.slice A0_1 l0_1.length c0_1]] rfl (by (try simp only [zp1_,zp2_,zp3_]);first|done|rfl) ?_;(with_reducible refine (impl_copyTable.calls a0_0 _ _ l0_1 a0_0 l0_1 _ ?side1 ?side2 HCP.out).mono ?_);(case side1 => exact (Kd.C_below HR0_1.out HBw4.out));(case side2 => exact HC0_1.out);rintro e w7 ⟨v7,rfl,ho,hb⟩;obtain ⟨A7,c7,ev⟩:=Kd.R_slice ho;subst ev;refine ⟨_,rfl,?_⟩;have HO7:=zm0_ (zo1_ ho (zn9_ HBw4.out));have B2w7:=zm0_ (zm5_ B2w4.out hb);have B3w7:=zm0_ (zm5_ B3w4.out hb);have B4w7:=zm0_ (zm5_ BKw4.out hb);have HBw7:=zm0_ (zn8_ HBw4.out hb);clear hb ho)|((with_reducible refine gate_dst (N:=8) rfl ?_);refine box_event ?hg (N:=8) ?hd (cs:=#[.int .i64 0,.slice none 0 0]) (t:=32) ?hr ?_;(case hd => rfl);(case hg => rfl);(case hr => first|(go_simp;done)|(go_simp;rfl));intro g5 hg w8 hbox hb;have BKw8:=zm0_ hbox;have HO8:=zm0_ (zm8_ HO7.out hb);have B2w8:=zm0_ (zm5_ B2w7.out hb);have B3w8:=zm0_ (zm5_ B3w7.out hb);have B4w8:=zm0_ (zm5_ B4w7.out hb);have GE5:=zm0_ ((by rw [hg];exact zn9_ HBw7.out) : w.heap.size ≤ g5);have N25:=zm0_ ((by rw [hg];exact Nat.ne_of_lt (zo3_ B2w7.out)) : g2 ≠ g5);have N35:=zm0_ ((by rw [hg];exact Nat.ne_of_lt (zo3_ B3w7.out)) : g3 ≠ g5);have N45:=zm0_ ((by rw [hg];exact Nat.ne_of_lt (zo3_ B4w7.out)) : g4 ≠ g5);have HBw8:=zm0_ (zn8_ HBw7.out hb);have hcz2d_0 : w8.cell? ⟨g2,0,none⟩ = some (.int .i64 a0_0):=(zm6_ B2w8.out 0).trans rfl;have hcz2d_1 : w8.cell? ⟨g2,1,none⟩ = some (.slice A0_1 l0_1.length c0_1):=(zm6_ B2w8.out 1).trans rfl;have hfz2d_0:=zm7_ B2w8.out 0;have hfz2d_1:=zm7_ B2w8.out 1;have hcz5d_0 : w8.cell? ⟨g5,0,none⟩ = some (.int .i64 0):=(zm6_ BKw8.out 0).trans rfl;have hcz5d_1 : w8.cell? ⟨g5,1,none⟩ = some (.slice none 0 0):=(zm6_ BKw8.out 1).trans rfl;have hfz5d_0:=zm7_ BKw8.out 0;have hfz5d_1:=zm7_ BKw8.out 1;have hnb25:=N25.out;have hnb52:=N25.out.symm;clear hg hb hbox)|(go_at_call 32;(with_reducible refine (impl_inRange.calls a2 1 3 true _ HIR.out).mono ?_);rintro e w10 ⟨rfl,hD⟩;have hb:=impl_Table_put.drawn_below hD;have HO10 : Aside0 (Kd.R k36 36 w10 w.heap.size (fun _ => True) (.slice A7 l0_1.length c7) l0_1):=⟨zm8_ (zo2_ (ok:=fun k_ => True ∧ k_ ≠ g5) (by (with_reducible repeat (first|apply k2_|apply k3_|apply k1_|refine k4_ (p:=⟨g5,1,none⟩) ?_ (fun _ hk => hk.2) _|refine k4_ (p:=⟨g5,0,none⟩) ?_ (fun _ hk => hk.2) _));exact Kd.R_types (zo2_ HO8.out (fun _ _ => trivial)) BKw8.out (by decide)) (fun _ _ => trivial)) hb⟩;have B2x:=zm0_ (zm5_ (g:=g2) (o:=.cells #[.int .i64 a0_0,.slice A0_1 l0_1.length c0_1] 32 (0,0)) (by (with_reducible repeat (first|refine k6_ ?_ _|refine k7_ ?_|refine k5_ ?_ _|refine blk_far ?_ N25.out _));exact B2w8.out) hb);have B3x:=zm0_ (zm5_ (g:=g3) (o:=.cells #[.string a1_0,.string a1_1] 36 (0,0)) (by (with_reducible repeat (first|refine k6_ ?_ _|refine k7_ ?_|refine k5_ ?_ _|refine blk_far ?_ N35.out _));exact B3w8.out) hb);have B4x:=zm0_ (zm5_ (g:=g4) (o:=.cells #[.int .i64 0,.slice none 0 0] 32 (0,0)) (by (with_reducible repeat (first|refine k6_ ?_ _|refine k7_ ?_|refine k5_ ?_ _|refine blk_far ?_ N45.out _));exact B4w8.out) hb);have B5x:=zm0_ (zm5_ (g:=g5) (o:=.cells #[.int .i64 a0_0,.slice A7 l0_1.length c7] 32 (0,0)) (by (with_reducible repeat (first|refine k6_ ?_ _|refine k7_ ?_|refine k5_ ?_ _));refine blk_put (cs:=#[.int .i64 a0_0,.slice none 0 0]) ?_ 1 _ rfl;(with_reducible repeat (first|refine k6_ ?_ _|refine k7_ ?_|refine k5_ ?_ _));refine blk_put (cs:=#[.int .i64 0,.slice none 0 0]) ?_ 0 _ rfl;(with_reducible repeat (first|refine k6_ ?_ _|refine k7_ ?_|refine k5_ ?_ _));exact BKw8.out) hb);have HBw10:=zm0_ (zn8_ (zl1 HBw8 GE5) hb);clear hb hD;have hcz2x_0 : w10.cell? ⟨g2,0,none⟩ = some (.int .i64 a0_0):=(zm6_ B2x.out 0).trans rfl;have hcz2x_1 : w10.cell? ⟨g2,1,none⟩ = some (.slice A0_1 l0_1.length c0_1):=(zm6_ B2x.out 1).trans rfl)|(go_at_call 33;(with_reducible refine (impl_TableOk.calls k a0_0 _ _ l0_1 true _ ?side1 ?side2 HTK.out).mono ?_);(case side1 => exact (Kd.C_below HR0_1.out HBw10.out));(case side2 => exact HC0_1.out);rintro e w11 ⟨rfl,hb⟩;have HO11:=zm0_ (zm8_ HO10.out hb);have B3e:=zm0_ (zm5_ B3x.out hb);have B4e:=zm0_ (zm5_ B4x.out hb);have B5e:=zm0_ (zm5_ B5x.out hb);have HBw11:=zm0_ (zn8_ HBw10.out hb);clear hb;have hcz3e_0 : w11.cell? ⟨g3,0,none⟩ = some (.string a1_0):=(zm6_ B3e.out 0).trans rfl;have hcz3e_1 : w11.cell? ⟨g3,1,none⟩ = some (.string a1_1):=(zm6_ B3e.out 1).trans rfl;have hcz5e_0 : w11.cell? ⟨g5,0,none⟩ = some (.int .i64 a0_0):=(zm6_ B5e.out 0).trans rfl;have hcz5e_1 : w11.cell? ⟨g5,1,none⟩ = some (.slice A7 l0_1.length c7):=(zm6_ B5e.out 1).trans rfl)|(go_at_call 34;(with_reducible refine (impl_Table_put.calls k g5 a0_0 A7 c7 l0_1 (.slice none 0 0) [] a1_0 a1_1 a2 q1 q2 w _ (fun _ => True) (fun _ => True) HBw11.out GE5.out B5e.out HO11.out (Kd.R_nil _ _ _ _ _) HTB.out HPU.out).mono ?_);rintro e w13 ⟨v0,rfl,hF⟩;obtain ⟨⟨v13,h5,hR⟩,hY,hB,hK⟩:=hF;obtain ⟨A13,c13,ev⟩:=Kd.R_slice hR;subst ev;have HO13:=zm0_ (zo2_ (ok':=fun _ => True) hR (fun _ _ => trivial));have HY13:=zm0_ (zo2_ (ok':=fun _ => True) hY (fun _ _ => trivial));have B5f:=zm0_ h5;have B4f:=zm0_ (blk_kept B4e.out hK (fun hq => hq.elim N45.out (fun hq => hq.elim (Kd.R_ne HO11.out B4e.out (by decide)) (fun hq => by simp [Value.ownBlock] at hq))));have HBw13:=zm0_ hB;clear h5 hR hY hB hK))
   have B4z:=zm0_ (k7_ B4f.out)
   have B5z:=zm0_ (k7_ B5f.out)
   have HOz:=zm0_ (k3_ HO13.out)
   have HYz:=zm0_ (k3_ (HY13.out))
   have HBz:=zm0_ (zm4_ HBw13.out)
   refine start_ (n:=4) (S:=fun w' => w'.cell? ⟨g5,0,none⟩ = some (.int .i64 a0_0) ∧ w'.cell? ⟨g5,1,none⟩ = some (.slice A13 q2.length c13)) (ds:=[3]) #[Z,Z,Z,Z] (by kernel_rfl) rfl rfl ⟨(zm6_ B5z.out 0).trans rfl,(zm6_ B5z.out 1).trans rfl⟩ (fun hHeld => ?_)
   generalize hwd : w13.drew = w14 at B4z B5z HOz HYz HBz hHeld ⊢
   clear hwd
   refine pure_ (i:=0) (N:=some 24) (v:=?_) (a':=?_) #[Y,Z,Z,Z] rfl rfl (by kernel_rfl) (fun _ _ _ h => h) (Or.inl ⟨by rfl,?_⟩) ?_ ?_
   rotate_left
   ·
    intro w'
    go_simp
    with_reducible rfl
   rotate_left
   ·
    simp only [Act.put,lA_,lB_,lC_,i64_w,i32_w]
    rfl
   refine take_ (i:=1) (N:=some 25) (v:=?_) (a':=?_) #[Y,Y,Z,Z] rfl rfl (by kernel_rfl) (fun _ _ _ h => h) (Or.inl ⟨by rfl,?_⟩) hHeld ?_ ?_
   rotate_left
   ·
    rintro w' ⟨s0,s1⟩
    go_simp
    with_reducible rfl
   rotate_left
   ·
    simp only [Act.put,lA_,lB_,lC_,i64_w,i32_w]
    rfl
   refine pure_ (i:=2) (N:=some 6) (v:=?_) (a':=?_) #[Y,Y,Y,Z] rfl rfl (by kernel_rfl) (fun _ _ _ h => h) (Or.inl ⟨by rfl,?_⟩) ?_ ?_
   rotate_left
   ·
    intro w'
    go_simp
    with_reducible rfl
   rotate_left
   ·
    simp only [Act.put,lA_,lB_,lC_,i64_w,i32_w]
    rfl
   refine last_ (i:=3) (N:=none) #[Y,Y,Y,Y] rfl rfl (by kernel_rfl) (by decide) (fun K hK => ?_)
   have hcz4_0 : w14.cell? ⟨g4,0,none⟩ = some (.int .i64 0):=(zm6_ B4z.out 0).trans rfl
   have hcz4_1 : w14.cell? ⟨g4,1,none⟩ = some (.slice none 0 0):=(zm6_ B4z.out 1).trans rfl
   have hfz4_0:=zm7_ B4z.out 0
   have hfz4_1:=zm7_ B4z.out 1
   refine skip_ (w1:=?_) (by rfl) rfl ?_ ?_
   rotate_left
   ·
    go_simp
    rfl
   refine hK.out _ _ ?_
   clear hK K
   refine done_ (by kernel_rfl) ?_
   try go_wp2
   refine bodyPost_ret (results_tc rfl _ _ g4 32 #[.int .i64 a0_0,.slice A13 q2.length c13] (0,0) _ rfl (by (with_reducible repeat (first|refine k6_ ?_ _|refine k7_ ?_|refine k5_ ?_ _));refine blk_put (cs:=#[.int .i64 a0_0,.slice none 0 0]) ?_ 1 _ rfl;(with_reducible repeat (first|refine k6_ ?_ _|refine k7_ ?_|refine k5_ ?_ _));refine blk_put (cs:=#[.int .i64 0,.slice none 0 0]) ?_ 0 _ rfl;(with_reducible repeat (first|refine k6_ ?_ _|refine k7_ ?_|refine k5_ ?_ _));exact B4z.out) Tryz.underlying32 rfl (by kernel_rfl)) rfl ?_
   exact ⟨_,_,rfl,zo2_ (k4_ (p:=⟨g4,1,none⟩) (k4_ (p:=⟨g4,0,none⟩) (Kd.R_types HYz.out B4z.out (by decide)) (fun _ hk => hk.2) (.int .i64 a0_0)) (fun _ hk => hk.2) (.slice A13 q2.length c13)) (fun _ _ => trivial),zo2_ (k4_ (p:=⟨g4,1,none⟩) (k4_ (p:=⟨g4,0,none⟩) (Kd.R_types HOz.out B4z.out (by decide)) (fun _ hk => hk.2) (.int .i64 a0_0)) (fun _ hk => hk.2) (.slice A13 q2.length c13)) (fun _ _ => trivial),zm1_ (zm1_ HBz.out GE4.out) GE4.out⟩
 ·
  rw [if_neg hl] at h
  cases h
end Go.Proofs.YthflimnpiglgbaaGreatDoor.A
end
section
set_option linter.unusedVariables false
set_option linter.unusedSimpArgs false
namespace Go.Proofs.YthflimnpiglgbaaGreatDoor.LibPf
open Go Go.RowKit Go.Proofs.YthflimnpiglgbaaGreatDoor.A Go.Proofs.YthflimnpiglgbaaGreatDoorW.PrintWords Go.Proofs.YthflimnpiglgbaaGreatDoorW.PrintLast Go.Proofs.YthflimnpiglgbaaGreatDoorW.PrintMore Go.Proofs.YthflimnpiglgbaaGreatDoor.LibU Go.Proofs.YthflimnpiglgbaaGreatDoor.LibRz
open Go.Proofs.YthflimnpiglgbaaGreatDoor.LibP (pfxTail clampN clampN_le pfxTail_length impl_putPrefix_eq spec_PutPrefix putPrefix)
theorem S_len : ∀ l : List S36, 32 * (l.length : Int) ≤ S l
  | [] => by simp [S]
  | x :: l => by have := S_len l; have := sz_pos x; simp only [S, List.length_cons]; omega
theorem ipp (l : List Int) (b : Nat) (f n : Int) (hb : 1 ≤ b ∧ b ≤ 8) (hl : l.length ≤ 100000000) (k : Nat) (hk : 8 ≤ k) : impl_putPrefix.f k l (b : Int) f n = some (l ++ pfxTail b (clampN n) f) := impl_putPrefix_eq hb (by omega) k (by omega)
theorem spp (b : Nat) (f n : Int) (hb : 1 ≤ b ∧ b ≤ 8) (hf : 0 ≤ f ∧ f ≤ 255) (k : Nat) (hk : 8 ≤ k) : spec_PutPrefix.f k [] (b : Int) f n = some (pfxTail b (clampN n) f) := by
  rw [spec_PutPrefix (l := []) (by simp) k hk]
  unfold putPrefix
  rw [if_pos ⟨by omega, hf⟩, Int.toNat_natCast, List.nil_append]
theorem forms (mode : Int) (h : 1 ≤ mode ∧ mode ≤ 3) : ∃ (b : Nat) (f : Int), (1 ≤ b ∧ b ≤ 8) ∧ (0 ≤ f ∧ f ≤ 255) ∧ impl_formOf.f mode = some ((b : Int), f) ∧ spec_l5Mode.f mode = some ((b : Int), f) := by
  obtain rfl | rfl | rfl : mode = 1 ∨ mode = 2 ∨ mode = 3 := by omega
  · exact ⟨6, 64, by omega, by omega, rfl, rfl⟩
  · exact ⟨4, 0, by omega, by omega, rfl, rfl⟩
  · exact ⟨4, 16, by omega, by omega, rfl, rfl⟩
theorem copy (m : Int) (l : List S36) (hl : l.length ≤ 1048580) : spec_l4Copy.f m l = some (m, l) := by
  unfold spec_l4Copy.f
  rw [Option.bind_some, if_pos (by rw [List.length_nil]; omega), List.nil_append]
theorem add (m : Int) (l : List S36) (x : S36) (hm : 0 ≤ m ∧ m ≤ 4096) (hl : l.length ≤ 1048576) (hS : S (x :: l) ≤ 1000000000) (k : Nat) (hk : 4000000 < k) : spec_l4Add.f k m l x.f0 x.f1 = some (m, impl_Table_put.cut m (x :: l)) := by
  unfold spec_l4Add.f
  rw [Option.bind_some, if_pos (by simp only [List.length_cons, List.length_nil]; omega)]
  exact bs (fit_cut (x :: l) m (by simp only [List.length_cons]; omega) (by omega) hS k (by simp only [List.length_cons]; omega)) rfl
/-- The reference's PutField from its second join on. -/
theorem spec_j1 (m : Int) (l : List S36) (x : S36) (mode i : Int) (b : Nat) (f : Int) (Kn Kv : Nat) (qn qv : List Int) (l' : List S36) (hb : 1 ≤ b ∧ b ≤ 8) (hf : 0 ≤ f ∧ f ≤ 255) (h5 : spec_l5Mode.f mode = some ((b : Int), f))
    (hn : ∀ l : List Int, l.length ≤ 100000000 → ∀ k, Kn ≤ k → spec_PutString.f k l x.f0 = some (l ++ qn)) (hv : ∀ l : List Int, l.length ≤ 100000000 → ∀ k, Kv ≤ k → spec_PutString.f k l x.f1 = some (l ++ qv)) (hq : qn.length ≤ 2000000)
    (ha : (mode = 1 ∧ ∀ k, 4000000 < k → spec_l4Add.f k m l x.f0 x.f1 = some (m, l')) ∨ (¬ mode = 1 ∧ l' = l)) :
    ∀ k, Kn + Kv + 5000000 ≤ k → spec_PutField.j1 k mode i false m l x.f0 x.f1 m l = some (pfxTail b (clampN i) f ++ (if i = 0 then qn else []) ++ qv, m, l') := by
  intro k hk
  obtain ⟨k, rfl⟩ : ∃ q, k = q + 1 + 1 := ⟨k - 2, by omega⟩
  have hc := clampN_le i
  have hp := pfxTail_length b (clampN i) f (by omega)
  have tail : ∀ t : List Int, t.length ≤ 3000000 → spec_PutField.j2 (k + 1) mode t m l x.f0 x.f1 m l = some (t ++ qv, m, l') := by
    intro t ht
    rw [spec_PutField.j2]
    refine bs (hv t (by omega) k (by omega)) ?_
    rcases ha with ⟨h1, h2⟩ | ⟨h1, rfl⟩
    · rw [if_pos h1]
      exact bs (h2 k (by omega)) rfl
    · rw [if_neg h1]
  rw [spec_PutField.j1, if_neg (by decide)]
  refine bs h5 ?_
  refine bs (spp b f i hb hf (k + 1) (by omega)) ?_
  by_cases hi : i = 0
  · rw [if_pos hi, if_pos hi]
    refine bs (hn _ (by omega) (k + 1) (by omega)) ?_
    exact tail _ (by rw [List.length_append]; omega)
  · rw [if_neg hi, if_neg hi, List.append_nil]
    exact tail _ (by omega)
theorem put (m : Int) (l : List S36) (x : S36) (mode : Int) (hmo : 1 ≤ mode ∧ mode ≤ 3) (ht : 0 ≤ m ∧ m ≤ 4096 ∧ S l ≤ m) (h0 : x.f0.size ≤ 1048576) (h1 : x.f1.size ≤ 1048576) :
    ∃ (K : Nat) (q : List Int) (l' : List S36), q.length ≤ x.f0.size + x.f1.size + 15 ∧ (0 ≤ m ∧ m ≤ 4096 ∧ S l' ≤ m) ∧ (∀ k, K ≤ k → spec_PutField.f k m l x.f0 x.f1 mode = some (q, m, l')) ∧
      (∀ lb : List Int, lb.length ≤ 50000000 → ∀ k, K ≤ k → impl_Table_put.f k m l lb x.f0 x.f1 mode = some (lb ++ q, l')) := by
  have hSl := S_len l
  have hl : l.length ≤ 200 := by omega
  have hS : S (x :: l) ≤ 1000000000 := by simp only [S, sz]; omega
  obtain ⟨⟨i, both⟩, f1, f2⟩ := LibFF.findField m l x.f0 x.f1 (by omega)
  obtain ⟨Kn, qn, n1, n2⟩ := LibZs.ps x.f0 h0
  obtain ⟨Kv, qv, v1, v2⟩ := LibZs.ps x.f1 h1
  obtain ⟨b, f, hb, hf, g1, g2⟩ := forms mode hmo
  have hc := clampN_le i
  have hp := pfxTail_length b (clampN i) f (by omega)
  have hp7 := pfxTail_length 7 (clampN i) 128 (by omega)
  have hok : decide (0 ≤ m ∧ m ≤ 4096 ∧ S l ≤ m) = true := decide_eq_true ht
  have hin : decide (1 ≤ mode ∧ mode ≤ 3) = true := decide_eq_true hmo
  have ent : ∀ k, 4000000 < k → spec_PutField.f k m l x.f0 x.f1 mode = spec_PutField.j0 k mode false m l x.f0 x.f1 m l := by
    intro k hk
    unfold spec_PutField.f
    rw [copy m l (by omega), Option.bind_some, sTok l m (by omega) (by omega) k (by omega), Option.bind_some, hok, if_pos rfl, l1In, Option.bind_some, hin]
    rfl
  by_cases hc7 : both = true ∧ mode ≠ 3
  · obtain ⟨rfl, hm3⟩ := hc7
    refine ⟨5000000, pfxTail 7 (clampN i) 128, l, by omega, ht, fun k hk => ?_, fun lb hlb k hk => ?_⟩
    · rw [ent k (by omega)]
      obtain ⟨k, rfl⟩ : ∃ q, k = q + 1 + 1 := ⟨k - 2, by omega⟩
      rw [spec_PutField.j0, if_neg (by decide)]
      refine bs (f1 (k + 1) (by omega)) ?_
      have e : (mode != 3) = true := by simpa using hm3
      rw [if_pos rfl, e, spec_PutField.j1, if_pos rfl]
      exact bs (spp 7 128 i (by omega) (by omega) k (by omega)) rfl
    · unfold impl_Table_put.f
      rw [if_pos (by omega)]
      refine bs (f2 k (by omega)) ?_
      rw [if_pos ⟨rfl, hm3⟩]
      exact bs (ipp lb 7 128 i (by omega) (by omega) k (by omega)) rfl
  · have ha : ∃ l', S l' ≤ m ∧ (if mode = 1 then impl_Table_put.cut m (x :: l) else l) = l' ∧ ((mode = 1 ∧ ∀ k, 4000000 < k → spec_l4Add.f k m l x.f0 x.f1 = some (m, l')) ∨ (¬ mode = 1 ∧ l' = l)) := by
      by_cases h : mode = 1
      · obtain ⟨j, _, j2, j3, _⟩ := cut_is (x :: l) m (by omega) hS
        exact ⟨_, by rw [j2]; exact j3, if_pos h, .inl ⟨h, fun k hk => add m l x (by omega) (by omega) hS k hk⟩⟩
      · exact ⟨l, ht.2.2, if_neg h, .inr ⟨h, rfl⟩⟩
    obtain ⟨l', a1, a2, a3⟩ := ha
    refine ⟨Kn + Kv + 5000010, pfxTail b (clampN i) f ++ (if i = 0 then qn else []) ++ qv, l', ?_, ⟨ht.1, ht.2.1, a1⟩, fun k hk => ?_, fun lb hlb k hk => ?_⟩
    · split
      · simp only [List.length_append]; omega
      · simp only [List.length_append, List.length_nil]; omega
    · rw [ent k (by omega)]
      obtain ⟨k, rfl⟩ : ∃ q, k = q + 1 := ⟨k - 1, by omega⟩
      rw [spec_PutField.j0, if_neg (by decide)]
      refine bs (f1 k (by omega)) ?_
      have hj := spec_j1 m l x mode i b f Kn Kv qn qv l' hb hf g2 (fun l hl => (n2 l hl).1) (fun l hl => (v2 l hl).1) (by omega) a3 k (by omega)
      cases both with
      | false => rw [if_neg Bool.false_ne_true]; exact hj
      | true =>
        have e : (mode != 3) = false := by
          by_cases h3 : mode = 3
          · rw [h3]; rfl
          · exact absurd ⟨rfl, h3⟩ hc7
        rw [if_pos rfl, e]
        exact hj
    · unfold impl_Table_put.f
      rw [if_pos (by omega)]
      refine bs (f2 k (by omega)) ?_
      rw [if_neg hc7]
      refine bs g1 ?_
      refine bs (ipp lb b f i hb (by omega) k (by omega)) ?_
      rw [a2]
      by_cases hi : i = 0
      · rw [if_pos hi, if_pos hi]
        refine bs ((n2 _ (by rw [List.length_append]; omega)).2 k (by omega)) ?_
        refine bs ((v2 _ (by simp only [List.length_append]; omega)).2 k (by omega)) ?_
        simp only [List.append_assoc]
      · rw [if_neg hi, if_neg hi, List.append_nil]
        refine bs rfl ?_
        refine bs ((v2 _ (by rw [List.length_append]; omega)).2 k (by omega)) ?_
        simp only [List.append_assoc]
theorem putField (m : Int) (l : List S36) (x : S36) (mode : Int) (hl : l.length ≤ 1048576) (hS : S l ≤ 1000000000) (h0 : x.f0.size ≤ 1048576) (h1 : x.f1.size ≤ 1048576) :
    ∃ (K : Nat) (q : List Int) (l' : List S36), q.length ≤ 2097200 ∧ l'.length ≤ 1048576 ∧ (∀ k, K ≤ k → spec_PutField.f k m l x.f0 x.f1 mode = some (q, m, l')) ∧ (∀ k, K ≤ k → impl_PutField.f k m l x.f0 x.f1 mode = some (q, m, l')) := by
  by_cases ht : 0 ≤ m ∧ m ≤ 4096 ∧ S l ≤ m
  · have hok : decide (0 ≤ m ∧ m ≤ 4096 ∧ S l ≤ m) = true := decide_eq_true ht
    by_cases hmo : 1 ≤ mode ∧ mode ≤ 3
    · have hin : decide (1 ≤ mode ∧ mode ≤ 3) = true := decide_eq_true hmo
      obtain ⟨K, q, l', a1, a2, a3, a4⟩ := put m l x mode hmo ht h0 h1
      have hs' := S_len l'
      refine ⟨K + 2000000, q, l', by omega, by omega, fun k hk => a3 k (by omega), fun k hk => ?_⟩
      unfold impl_PutField.f
      rw [if_pos (by omega), inRange, Option.bind_some, hin, if_pos rfl, iTok l m (by omega) hS k (by omega), Option.bind_some, hok, if_pos rfl]
      exact bs (a4 [] (by simp) k (by omega)) rfl
    · have hin : decide (1 ≤ mode ∧ mode ≤ 3) = false := decide_eq_false hmo
      refine ⟨2000000, [], l, by simp, hl, fun k hk => ?_, fun k hk => ?_⟩
      · unfold spec_PutField.f
        obtain ⟨k, rfl⟩ := ix (show 0 < k by omega)
        rw [copy m l (by omega), Option.bind_some, sTok l m (by omega) hS (k + 1) (by omega), Option.bind_some, hok, if_pos rfl, l1In, Option.bind_some, hin, spec_PutField.j0]
        exact if_pos rfl
      · unfold impl_PutField.f
        rw [if_pos (by omega), inRange, Option.bind_some, hin, if_neg (by decide)]
  · have hok : decide (0 ≤ m ∧ m ≤ 4096 ∧ S l ≤ m) = false := decide_eq_false ht
    refine ⟨2000000, [], l, by simp, hl, fun k hk => ?_, fun k hk => ?_⟩
    · unfold spec_PutField.f
      obtain ⟨k, rfl⟩ := ix (show 0 < k by omega)
      rw [copy m l (by omega), Option.bind_some, sTok l m (by omega) hS (k + 1) (by omega), Option.bind_some, hok, if_neg (by decide), spec_PutField.j0, if_pos rfl]
    · unfold impl_PutField.f
      rw [if_pos (by omega), inRange, Option.bind_some]
      by_cases hmo : decide (1 ≤ mode ∧ mode ≤ 3) = true
      · rw [if_pos hmo, iTok l m (by omega) hS k (by omega), Option.bind_some, hok, if_neg (by decide)]
      · rw [if_neg hmo]
end Go.Proofs.YthflimnpiglgbaaGreatDoor.LibPf
end
section
set_option linter.unusedVariables false
set_option linter.unusedSimpArgs false
namespace Go.Proofs.YthflimnpiglgbaaGreatDoor.LibPfs
open Go Go.RowKit Go.Proofs.YthflimnpiglgbaaGreatDoor.A Go.Proofs.YthflimnpiglgbaaGreatDoorW.PrintWords Go.Proofs.YthflimnpiglgbaaGreatDoorW.PrintLast Go.Proofs.YthflimnpiglgbaaGreatDoorW.PrintMore Go.Proofs.YthflimnpiglgbaaGreatDoor.LibU Go.Proofs.YthflimnpiglgbaaGreatDoor.LibRz Go.Proofs.YthflimnpiglgbaaGreatDoor.LibPf
def W : List S36 → Nat
  | [] => 0
  | x :: l => x.f0.size + x.f1.size + 15 + W l
theorem putBad (m : Int) (l : List S36) (n v : ByteArray) (mode : Int) (hl : l.length ≤ 1048576) (hS : S l ≤ 1000000000) (ht : ¬ (0 ≤ m ∧ m ≤ 4096 ∧ S l ≤ m)) (k : Nat) (hk : 2000000 ≤ k) : spec_PutField.f k m l n v mode = some ([], m, l) := by
  unfold spec_PutField.f
  obtain ⟨k, rfl⟩ := ix (show 0 < k by omega)
  rw [copy m l (by omega), Option.bind_some, sTok l m (by omega) hS (k + 1) (by omega), Option.bind_some, decide_eq_false ht, if_neg (by decide), spec_PutField.j0, if_pos rfl]
theorem bad (xs : List S36) (hx : xs.length ≤ 1048576) (m : Int) (l : List S36) (hl : l.length ≤ 1048576) (hS : S l ≤ 1000000000) (ht : ¬ (0 ≤ m ∧ m ≤ 4096 ∧ S l ≤ m)) (d : Nat) : ∀ (i : Nat), i ≤ xs.length → xs.length - i = d →
    ∀ k, d + 2000000 < k → spec_PutFields.l0 k xs [] (i : Int) m l = some ([], m, l) := by
  induction d with
  | zero =>
    intro i hi hd k hk
    obtain ⟨k, rfl⟩ := ix (show 0 < k by omega)
    rw [spec_PutFields.l0, if_neg (by omega)]
  | succ d ih =>
    intro i hi hd k hk
    obtain ⟨k, rfl⟩ := ix (show 0 < k by omega)
    have h := ih (i + 1) (by omega) (by omega) k (by omega)
    have e : wrap64 ((i : Int) + 1) = ((i + 1 : Nat) : Int) := by rw [w64 (by omega) (by omega)]; rfl
    rw [spec_PutFields.l0, if_pos (by omega), if_pos (by omega), e]
    split
    · refine bs (putBad m l _ _ 3 hl hS ht k (by omega)) (ifp (by show (0 : Nat) + 0 < _; omega) h)
    · refine bs (putBad m l _ _ 1 hl hS ht k (by omega)) (ifp (by show (0 : Nat) + 0 < _; omega) h)
theorem loop (xs : List S36) (hn : xs.length ≤ 1048576) (hx : ∀ x ∈ xs, x.f0.size ≤ 1048576 ∧ x.f1.size ≤ 1048576) (m : Int) (d : Nat) : ∀ (i : Nat) (l : List S36) (b : List Int), i ≤ xs.length → xs.length - i = d → (0 ≤ m ∧ m ≤ 4096 ∧ S l ≤ m) → b.length + W (xs.drop i) ≤ 29999999 →
    ∃ (K : Nat) (b' : List Int) (l' : List S36), b'.length ≤ 29999999 ∧ l'.length ≤ 1048576 ∧ (∀ k, K ≤ k → spec_PutFields.l0 k xs b (i : Int) m l = some (b', m, l')) ∧ (∀ q k, K ≤ q → K ≤ k → impl_PutFields.l0 q k m xs l b (i : Int) = some (b', l')) := by
  induction d with
  | zero =>
    intro i l b hi hd ht hb
    have hs := S_len l
    refine ⟨1, b, l, by omega, by omega, fun k hk => ?_, fun q k hq hk => ?_⟩
    · obtain ⟨k, rfl⟩ := ix (show 0 < k by omega)
      rw [spec_PutFields.l0, if_neg (by omega)]
    · obtain ⟨q, rfl⟩ := ix (show 0 < q by omega)
      rw [impl_PutFields.l0, if_neg (by omega)]
  | succ d ih =>
    intro i l b hi hd ht hb
    have hlt : i < xs.length := by omega
    have hd1 : xs.length - (i + 1) = d := by omega
    have g0 : (i : Int) < (xs.length : Int) := by omega
    have g1 : (0 : Int) ≤ (i : Int) := by omega
    have hrd : rd_T36 xs (i : Int) = xs[i] := by
      unfold rd_T36
      rw [Int.toNat_natCast, List.getD_eq_getElem?_getD, List.getElem?_eq_getElem hlt, Option.getD_some]
    obtain ⟨x, hxx⟩ : ∃ x, x = xs[i] := ⟨_, rfl⟩
    have hsz := hx xs[i] (List.getElem_mem hlt)
    have hW : W (xs.drop i) = x.f0.size + x.f1.size + 15 + W (xs.drop (i + 1)) := by rw [List.drop_eq_getElem_cons hlt, hxx]; rfl
    rw [← hxx] at hsz hrd
    have e : wrap64 ((i : Int) + 1) = ((i + 1 : Nat) : Int) := by rw [w64 (by omega) (by omega)]; rfl
    obtain ⟨mode, hmode⟩ : ∃ mode : Int, mode = (if x.f0.toList = ([97, 117, 116, 104, 111, 114, 105, 122, 97, 116, 105, 111, 110] : List UInt8) then 3 else 1) := ⟨_, rfl⟩
    have hm13 : 1 ≤ mode ∧ mode ≤ 3 := by rw [hmode]; split <;> omega
    obtain ⟨K1, q1, l1, p1, p2, p3, p4⟩ := put m l x mode hm13 ht hsz.1 hsz.2
    have hb3 : (b ++ q1).length + W (xs.drop (i + 1)) ≤ 29999999 := by
      rw [List.length_append]
      clear hxx
      clear ih hd hd1 g0 g1 hi hlt p2 p3 p4 hm13 hmode e hrd ht hsz hx hn
      omega
    have hb1 : b.length ≤ 50000000 := by
      clear hxx
      clear ih hd hd1 g0 g1 hi hlt p2 p3 p4 hm13 hmode e hrd ht hsz hx hn hW
      omega
    have hb2 : b.length + q1.length < 140737488355328 := by
      clear hxx
      clear ih hd hd1 g0 g1 hi hlt p2 p3 p4 hm13 hmode e hrd ht hsz hx hn
      omega
    obtain ⟨K2, b', l', r1, r2, r3, r4⟩ := ih (i + 1) l1 (b ++ q1) hlt hd1 p2 hb3
    clear hb hW hd hi p1 hb3 ht hsz hm13 p2 hd1 hn hx
    refine ⟨K1 + K2 + 1, b', l', r1, r2, fun k hk => ?_, fun q k hq hk => ?_⟩
    · obtain ⟨k, rfl⟩ := ix (show 0 < k by omega)
      rw [spec_PutFields.l0, if_pos g0, if_pos g1, hrd, e]
      have hp := p3 k (by omega)
      rw [hmode] at hp
      split
      · rename_i h
        rw [if_pos h] at hp
        exact bs hp (ifp hb2 (r3 k (by omega)))
      · rename_i h
        rw [if_neg h] at hp
        exact bs hp (ifp hb2 (r3 k (by omega)))
    · obtain ⟨q, rfl⟩ := ix (show 0 < q by omega)
      rw [impl_PutFields.l0, if_pos g0, if_pos g1, hrd, e, ← hmode]
      exact bs (p4 b hb1 k (by omega)) (r4 q k (by omega) (by omega))
theorem putFields (m : Int) (l xs : List S36) (hl : l.length ≤ 1048576) (hS : S l ≤ 1000000000) (hn : xs.length ≤ 1048576) (hx : ∀ x ∈ xs, x.f0.size ≤ 1048576 ∧ x.f1.size ≤ 1048576) (hW : W xs ≤ 20000000) :
    ∃ (K : Nat) (b : List Int) (l' : List S36), b.length ≤ 29999999 ∧ l'.length ≤ 1048576 ∧ (∀ k, K ≤ k → spec_PutFields.f k m l xs = some (b, m, l')) ∧ (∀ k, K ≤ k → impl_PutFields.f k m l xs = some (b, m, l')) := by
  by_cases ht : 0 ≤ m ∧ m ≤ 4096 ∧ S l ≤ m
  · obtain ⟨K, b, l', h1, h2, h3, h4⟩ := loop xs hn hx m xs.length 0 l [] (by omega) (by omega) ht (by rw [List.drop_zero, List.length_nil]; omega)
    refine ⟨K + 2000000, b, l', h1, h2, fun k hk => ?_, fun k hk => ?_⟩
    · unfold spec_PutFields.f
      exact bs (copy m l (by omega)) (h3 k (by omega))
    · unfold impl_PutFields.f
      rw [if_pos (by omega), iTok l m (by omega) hS k (by omega), Option.bind_some, decide_eq_true ht, if_pos rfl]
      exact bs (h4 k k (by omega) (by omega)) rfl
  · refine ⟨4000000, [], l, by simp, hl, fun k hk => ?_, fun k hk => ?_⟩
    · unfold spec_PutFields.f
      exact bs (copy m l (by omega)) (bad xs hn m l hl hS ht xs.length 0 (by omega) (by omega) k (by omega))
    · unfold impl_PutFields.f
      rw [if_pos (by omega), iTok l m (by omega) hS k (by omega), Option.bind_some, decide_eq_false ht, if_neg (by decide)]
end Go.Proofs.YthflimnpiglgbaaGreatDoor.LibPfs
end
section
set_option linter.unusedVariables false
set_option linter.unusedSimpArgs false
namespace Go.Proofs.YthflimnpiglgbaaGreatDoor.LibT1
open Go.RowKit Go.Proofs.YthflimnpiglgbaaGreatDoor.A Go.Proofs.YthflimnpiglgbaaGreatDoorW.PrintWords Go.Proofs.YthflimnpiglgbaaGreatDoorW.PrintLast Go.Proofs.YthflimnpiglgbaaGreatDoor.LibU
def conv (x : S26) : S36 := ⟨x.f0, x.f1⟩
/-- How many letters and fields. -/
def bulk (l : List S26) : Int := (l.map fun x => (x.f0.size : Int) + x.f1.size).sum
theorem bulk_nonneg (l : List S26) : 0 ≤ bulk l := by
  unfold bulk
  induction l with
  | nil => simp
  | cons x l ih => simp only [List.map_cons, List.sum_cons]; omega
theorem szFieldS_l (l : List S26) (hl : l.length ≤ 1048576) (hw : ∀ x ∈ l, x.f0.size ≤ 9223372036854775807 ∧ x.f1.size ≤ 9223372036854775807) (d : Nat) : ∀ (i : Nat) (left : Int), 0 ≤ left → left ≤ 1048576 → i ≤ l.length → l.length - i = d →
    ∃ r, (∀ k, d < k → laws_szFieldS.l0 k l left (i : Int) = some r) ∧ ((r = -1 ∧ left < bulk (l.drop i)) ∨ (r = left - bulk (l.drop i) ∧ bulk (l.drop i) ≤ left)) := by
  induction d with
  | zero =>
    intro i left h0 h1 hi hd
    refine ⟨left, fun k hk => ?_, ?_⟩
    · obtain ⟨k, rfl⟩ := ix (show 0 < k by omega)
      simp only [laws_szFieldS.l0]
      rw [if_neg (by omega)]
    · rw [List.drop_of_length_le (by omega)]
      exact .inr ⟨by simp [bulk], by simp [bulk]; omega⟩
  | succ d ih =>
    intro i left h0 h1 hi hd
    have hlt : i < l.length := by omega
    have hx := hw _ (List.getElem_mem hlt)
    have hr : rd_T26 l (i : Int) = l[i] := by simp [rd_T26, List.getD_eq_getElem?_getD, List.getElem?_eq_getElem hlt]
    have hb : bulk (l.drop i) = ((l[i].f0.size : Int) + l[i].f1.size) + bulk (l.drop (i + 1)) := by
      unfold bulk
      rw [List.drop_eq_getElem_cons hlt, List.map_cons, List.sum_cons]
    have hb0 := bulk_nonneg (l.drop (i + 1))
    have hf : laws_szField.f l[i].f0 l[i].f1 left = some (if (l[i].f0.size : Int) + l[i].f1.size ≤ left then left - ((l[i].f0.size : Int) + l[i].f1.size) else -1) := by
      unfold laws_szField.f
      rw [w64 (x := left - (l[i].f0.size : Int)) (by omega) (by omega)]
      by_cases c1 : left - (l[i].f0.size : Int) < 0
      · rw [if_pos c1, if_neg (by omega)]
      · rw [if_neg c1, w64 (by omega) (by omega)]
        by_cases c2 : left - (l[i].f0.size : Int) - l[i].f1.size < 0
        · rw [if_pos c2, if_neg (by omega)]
        · rw [if_neg c2, if_pos (by omega)]
          congr 1
          omega
    by_cases c : (l[i].f0.size : Int) + l[i].f1.size ≤ left
    · rw [if_pos c] at hf
      obtain ⟨r, hr1, hr2⟩ := ih (i + 1) (left - ((l[i].f0.size : Int) + l[i].f1.size)) (by omega) (by omega) (by omega) (by omega)
      refine ⟨r, fun k hk => ?_, ?_⟩
      · obtain ⟨k, rfl⟩ := ix (show 0 < k by omega)
        simp only [laws_szFieldS.l0]
        rw [if_pos (by omega), if_pos (by omega), hr, hf]
        simp only [Option.bind_some]
        rw [if_neg (by omega), w64 (x := (i : Int) + 1) (by omega) (by omega)]
        exact hr1 k (by omega)
      · rcases hr2 with ⟨h2, h3⟩ | ⟨h2, h3⟩
        · exact .inl ⟨h2, by omega⟩
        · exact .inr ⟨by omega, by omega⟩
    · rw [if_neg c] at hf
      refine ⟨-1, fun k hk => ?_, .inl ⟨rfl, by omega⟩⟩
      obtain ⟨k, rfl⟩ := ix (show 0 < k by omega)
      simp only [laws_szFieldS.l0]
      rw [if_pos (by omega), if_pos (by omega), hr, hf]
      rfl
theorem szFieldS (l : List S26) (left : Int) (h0 : 0 ≤ left) (h1 : left ≤ 1048576) (hl : l.length ≤ 9223372036854775807) (hw : ∀ x ∈ l, x.f0.size ≤ 9223372036854775807 ∧ x.f1.size ≤ 9223372036854775807) :
    ∃ K r, (∀ k, K ≤ k → laws_szFieldS.f k l left = some r) ∧ (r = -1 ∨ (0 ≤ r ∧ r = left - l.length - bulk l)) := by
  by_cases c : (l.length : Int) ≤ left
  · obtain ⟨r, hr1, hr2⟩ := szFieldS_l l (by omega) hw l.length 0 (left - l.length) (by omega) (by omega) (by omega) (by omega)
    have hb0 := bulk_nonneg l
    refine ⟨l.length + 1, r, fun k hk => ?_, ?_⟩
    · unfold laws_szFieldS.f
      rw [w64 (by omega) (by omega), if_neg (by omega)]
      exact hr1 k (by omega)
    · simp only [List.drop_zero] at hr2
      omega
  · refine ⟨0, -1, fun k hk => ?_, .inl rfl⟩
    unfold laws_szFieldS.f
    rw [w64 (by omega) (by omega), if_pos (by omega)]
theorem szTable (m : Int) (l : List S26) (left : Int) (h0 : 0 ≤ left) (h1 : left ≤ 1048576) (hl : l.length ≤ 9223372036854775807) (hw : ∀ x ∈ l, x.f0.size ≤ 9223372036854775807 ∧ x.f1.size ≤ 9223372036854775807) :
    ∃ K r, (∀ k, K ≤ k → laws_szTable.f k m l left = some r) ∧ (r = -1 ∨ (0 ≤ r ∧ r = left - l.length - bulk l)) := by
  obtain ⟨K, r, h, hr⟩ := szFieldS l left h0 h1 hl hw
  refine ⟨K, r, fun k hk => ?_, hr⟩
  unfold laws_szTable.f
  rw [h k hk]
  simp only [Option.bind_some]
  rcases hr with rfl | ⟨hr, _⟩
  · rfl
  · rw [if_neg (by omega)]
theorem toFieldS_l (l : List S26) (hl : l.length ≤ 1048576) (d : Nat) : ∀ (k : Nat) (i : Nat) (x : List S36), x.length = l.length → x.take i = (l.map conv).take i → i ≤ l.length → l.length - i = d → d < k → laws_toFieldS.l0 k l x (i : Int) = some (l.map conv) := by
  induction d with
  | zero =>
    intro k i x hx ht hi hd hk
    obtain ⟨k, rfl⟩ := ix (show 0 < k by omega)
    simp only [laws_toFieldS.l0]
    rw [if_neg (by omega)]
    have h : i = l.length := by omega
    subst h
    rw [← hx, List.take_length, hx] at ht
    rw [ht, List.take_of_length_le (by simp)]
  | succ d ih =>
    intro k i x hx ht hi hd hk
    obtain ⟨k, rfl⟩ := ix (show 0 < k by omega)
    simp only [laws_toFieldS.l0, laws_toField.f, Option.bind_some]
    rw [if_pos (by omega), if_pos (by omega), if_pos (by omega), w64 (by omega) (by omega)]
    have := ih k (i + 1) (x.set i (conv (rd_T26 l i))) (by simp [hx]) ?_ (by omega) (by omega) (by omega)
    · simpa [conv] using this
    · rw [List.take_succ_eq_append_getElem (by simp [hx]; omega), List.take_succ_eq_append_getElem (by simp; omega)]
      rw [List.take_set_of_le (Nat.le_refl _), ht]
      simp [rd_T26, List.getD_eq_getElem?_getD, List.getElem?_eq_getElem (show i < l.length by omega)]
theorem toTable (m : Int) {l : List S26} (hl : l.length ≤ 1048576) : ∀ k, l.length < k → laws_toTable.f k m l = some (m, l.map conv) := by
  intro k hk
  unfold laws_toTable.f laws_toFieldS.f
  rw [if_pos (by omega), if_pos (by omega)]
  exact bs (toFieldS_l l hl l.length k 0 _ (by simp) (by simp) (by omega) (by omega) (by omega)) rfl
theorem eqFieldS_l (l : List S36) (hl : l.length ≤ 1048580) (d : Nat) : ∀ (k : Nat) (i : Nat), i ≤ l.length → l.length - i = d → d < k → laws_eqFieldS.l0 k l l (i : Int) = some true := by
  induction d with
  | zero =>
    intro k i hi hd hk
    obtain ⟨k, rfl⟩ := ix (show 0 < k by omega)
    simp only [laws_eqFieldS.l0]
    rw [if_neg (by omega)]
  | succ d ih =>
    intro k i hi hd hk
    obtain ⟨k, rfl⟩ := ix (show 0 < k by omega)
    simp only [laws_eqFieldS.l0, laws_eqField.f]
    rw [if_pos (by omega), if_pos (by omega), if_pos (by omega), if_pos trivial, if_pos trivial, w64 (by omega) (by omega)]
    simp only [Option.bind_some, if_true]
    exact ih k (i + 1) (by omega) (by omega) (by omega)
theorem eqTable (m : Int) {l : List S36} (hl : l.length ≤ 1048580) : ∀ k, l.length < k → laws_eqTable.f k m l m l = some true := by
  intro k hk
  unfold laws_eqTable.f laws_eqFieldS.f
  rw [if_pos rfl, if_pos rfl]
  exact bs (eqFieldS_l l hl l.length k 0 (by omega) (by omega) (by omega)) rfl
end Go.Proofs.YthflimnpiglgbaaGreatDoor.LibT1
end
section
set_option linter.unusedVariables false
set_option linter.unusedSimpArgs false
namespace Go.Proofs.YthflimnpiglgbaaGreatDoor.LibMz
open Go Go.RowKit Go.Proofs.YthflimnpiglgbaaGreatDoor.A Go.Proofs.YthflimnpiglgbaaGreatDoorW.PrintWords Go.Proofs.YthflimnpiglgbaaGreatDoorW.PrintLast Go.Proofs.YthflimnpiglgbaaGreatDoorW.PrintMore Go.Proofs.YthflimnpiglgbaaGreatDoor.LibU Go.Proofs.YthflimnpiglgbaaGreatDoor.LibT1 Go.Proofs.YthflimnpiglgbaaGreatDoor.LibRz
theorem one (c : Int) : (strOfNums [c]).size = 1 := by
  show (strOfNums [c]).data.size = 1
  rw [← Array.length_toList, strOfNums_data]
  simp
theorem mt_l (n : Nat) : ∀ (x3 : ByteArray), x3.size + n ≤ 4000000000000 → ∃ t, ∀ k, n < k → laws_markText.l0 k (n : Int) x3 = some t := by
  induction n using Nat.strongRecOn with
  | ind n ih =>
    intro x3 hs
    by_cases h : n = 0
    · subst h
      refine ⟨(⟨#[109]⟩ : ByteArray) ++ x3, fun k hk => ?_⟩
      obtain ⟨k, rfl⟩ := ix (show 0 < k by omega)
      rw [laws_markText.l0, if_neg (by omega), if_pos (by omega)]
    · obtain ⟨t, ht⟩ := ih (n / 10) (by omega) ((strOfNums [(wrap64 (48 + (Int.tmod (n : Int) 10))) % 256]) ++ x3) (by rw [ByteArray.size_append, one]; omega)
      have e0 : Int.tdiv (n : Int) 10 = ((n / 10 : Nat) : Int) := rfl
      have e : wrap64 (Int.tdiv (n : Int) 10) = ((n / 10 : Nat) : Int) := by rw [e0, w64 (by omega) (by omega)]
      refine ⟨t, fun k hk => ?_⟩
      obtain ⟨k, rfl⟩ := ix (show 0 < k by omega)
      rw [laws_markText.l0, if_pos (by omega)]
      refine bs rfl ?_
      rw [if_pos (by rw [one]; omega), e]
      exact ht k (by omega)
theorem mt (c : Nat) : ∃ t, 1 ≤ c → c ≤ 40000000 → ∀ k, 40000002 < k → laws_markText.f k (c : Int) = some t := by
  by_cases h : 1 ≤ c ∧ c ≤ 40000000
  · obtain ⟨t, ht⟩ := mt_l c (⟨#[]⟩ : ByteArray) (by show 0 + c ≤ _; omega)
    refine ⟨t, fun _ _ k hk => ?_⟩
    unfold laws_markText.f
    rw [if_neg (by omega)]
    exact ht k (by omega)
  · exact ⟨ByteArray.empty, fun h1 h2 => absurd ⟨h1, h2⟩ h⟩
noncomputable def T (c : Nat) : ByteArray := Classical.choose (mt c)
theorem T_at (c : Nat) (h1 : 1 ≤ c) (h2 : c ≤ 40000000) : ∀ k, 40000002 < k → laws_markText.f k (c : Int) = some (T c) := Classical.choose_spec (mt c) h1 h2
noncomputable def E (c j : Nat) : S36 := ⟨T (2 * j + c), T (2 * j + c + 1)⟩
theorem mark_l (c n : Nat) (hc : 1 ≤ c ∧ c ≤ 30000000) (hn : n ≤ 1048580) (d : Nat) : ∀ (i : Nat) (x : List S36), x.length = n → i ≤ n → n - i = d → (∀ j, j < i → x.getD j z36 = E c j) →
    ∃ y : List S36, y.length = n ∧ (∀ j, j < n → y.getD j z36 = E c j) ∧ ∀ k, 40000003 + d < k → laws_markFieldS.l0 k x ((2 * i + c : Nat) : Int) (i : Int) = some (((2 * n + c : Nat) : Int), y) := by
  induction d with
  | zero =>
    intro i x hx hi hd hj
    obtain rfl : i = n := by omega
    refine ⟨x, hx, hj, fun k hk => ?_⟩
    obtain ⟨k, rfl⟩ := ix (show 0 < k by omega)
    rw [laws_markFieldS.l0, if_neg (by omega)]
  | succ d ih =>
    intro i x hx hi hd hj
    obtain ⟨a, ha⟩ : ∃ a : S36, a = ⟨T (2 * i + c), (rd_T36 x (i : Int)).f1⟩ := ⟨_, rfl⟩
    have h1 : (rd_T36 (x.set i a) (i : Int)).f0 = T (2 * i + c) := by
      unfold rd_T36
      rw [Int.toNat_natCast, List.getD_eq_getElem?_getD, List.getElem?_set_self (by omega), Option.getD_some, ha]
    obtain ⟨y, hy, hyj, h⟩ := ih (i + 1) ((x.set i a).set i (E c i)) (by simp [hx]) (by omega) (by omega) (by
      intro j hj2
      by_cases cj : j = i
      · subst cj
        rw [List.getD_eq_getElem?_getD, List.getElem?_set_self (by simp; omega), Option.getD_some]
      · have := hj j (by omega)
        rw [List.getD_eq_getElem?_getD] at this ⊢
        rw [List.getElem?_set_ne (by omega), List.getElem?_set_ne (by omega)]
        exact this)
    refine ⟨y, hy, hyj, fun k hk => ?_⟩
    obtain ⟨k, rfl⟩ := ix (show 0 < k by omega)
    have g1 : 1 ≤ 2 * i + c := by omega
    have g2 : 2 * i + c ≤ 40000000 := by omega
    have g3 : 1 ≤ 2 * i + c + 1 := by omega
    have g4 : 2 * i + c + 1 ≤ 40000000 := by omega
    have gk : 40000002 < k := by omega
    have gd : 40000003 + d < k := by omega
    have gi : (i : Int) < (x.length : Int) := by omega
    have g0 : (0 : Int) ≤ (i : Int) := by omega
    have w1 : wrap64 (((2 * i + c : Nat) : Int) + 1) = ((2 * i + c + 1 : Nat) : Int) := by rw [w64 (by omega) (by omega)]; omega
    have w2 : wrap64 (((2 * i + c + 1 : Nat) : Int) + 1) = ((2 * (i + 1) + c : Nat) : Int) := by rw [w64 (by omega) (by omega)]; omega
    have w3 : wrap64 ((i : Int) + 1) = ((i + 1 : Nat) : Int) := by rw [w64 (by omega) (by omega)]; omega
    rw [laws_markFieldS.l0, if_pos gi]
    refine bs (T_at (2 * i + c) g1 g2 k gk) ?_
    rw [if_pos g0, Int.toNat_natCast, ← ha]
    refine bs rfl ?_
    rw [w1]
    refine bs (T_at (2 * i + c + 1) g3 g4 k gk) ?_
    rw [h1, w2, w3]
    exact h k gd
theorem held_l (c : Nat) (hc : 1 ≤ c ∧ c ≤ 30000000) (y : List S36) (hn : y.length ≤ 1048580) (hy : ∀ j, j < y.length → y.getD j z36 = E c j) (d : Nat) : ∀ (i : Nat), i ≤ y.length → y.length - i = d →
    ∀ k, 40000003 + d < k → laws_heldFieldS.l0 k y ((2 * i + c : Nat) : Int) (i : Int) = some ((2 * y.length + c : Nat) : Int) := by
  induction d with
  | zero =>
    intro i hi hd k hk
    obtain ⟨k, rfl⟩ := ix (show 0 < k by omega)
    rw [laws_heldFieldS.l0, if_neg (by omega), show i = y.length by omega]
  | succ d ih =>
    intro i hi hd k hk
    obtain ⟨k, rfl⟩ := ix (show 0 < k by omega)
    have gj1 : i + 1 ≤ y.length := by omega
    have gj2 : y.length - (i + 1) = d := by omega
    have g1 : 1 ≤ 2 * i + c := by omega
    have g2 : 2 * i + c ≤ 40000000 := by omega
    have g3 : 1 ≤ 2 * i + c + 1 := by omega
    have g4 : 2 * i + c + 1 ≤ 40000000 := by omega
    have gk : 40000002 < k := by omega
    have gd : 40000003 + d < k := by omega
    have gi : (i : Int) < (y.length : Int) := by omega
    have g0 : (0 : Int) ≤ (i : Int) := by omega
    have w1 : wrap64 (((2 * i + c : Nat) : Int) + 1) = ((2 * i + c + 1 : Nat) : Int) := by rw [w64 (by omega) (by omega)]; omega
    have w2 : wrap64 (((2 * i + c + 1 : Nat) : Int) + 1) = ((2 * (i + 1) + c : Nat) : Int) := by rw [w64 (by omega) (by omega)]; omega
    have w3 : wrap64 ((i : Int) + 1) = ((i + 1 : Nat) : Int) := by rw [w64 (by omega) (by omega)]; omega
    have hrd : rd_T36 y (i : Int) = E c i := by unfold rd_T36; rw [Int.toNat_natCast]; exact hy i (by omega)
    rw [laws_heldFieldS.l0, if_pos gi, if_pos g0]
    refine bs (T_at (2 * i + c) g1 g2 k gk) ?_
    have q1 : (E c i).f0 = T (2 * i + c) := rfl
    have q2 : (E c i).f1 = T (2 * i + c + 1) := rfl
    rw [hrd, q1, if_pos rfl, w1]
    refine bs (T_at (2 * i + c + 1) g3 g4 k gk) ?_
    rw [q2, if_pos rfl, w2, w3]
    exact ih (i + 1) gj1 gj2 k gd
theorem markHeld (c : Nat) (hc : 1 ≤ c ∧ c ≤ 30000000) (x : List S36) (hn : x.length ≤ 1048580) : ∃ y : List S36, (∀ k, 50000000 < k → laws_markFieldS.f k x (c : Int) = some (((2 * x.length + c : Nat) : Int), y)) ∧ (∀ k, 50000000 < k → laws_heldFieldS.f k y (c : Int) = some ((2 * x.length + c : Nat) : Int)) := by
  obtain ⟨y, h1, h2, h3⟩ := mark_l c x.length hc hn x.length 0 x rfl (by omega) (by omega) (fun j hj => by omega)
  have e0 : ((2 * 0 + c : Nat) : Int) = (c : Int) := by omega
  rw [e0] at h3
  refine ⟨y, fun k hk => ?_, fun k hk => ?_⟩
  · unfold laws_markFieldS.f
    exact h3 k (by omega)
  · unfold laws_heldFieldS.f
    have := held_l c hc y (by omega) (fun j hj => h2 j (by omega)) y.length 0 (by omega) (by omega) k (by omega)
    rw [e0, h1] at this
    exact this
theorem markTable (c : Nat) (hc : 1 ≤ c ∧ c ≤ 30000000) (m : Int) (x : List S36) (hn : x.length ≤ 1048580) : ∃ y : List S36, (∀ k, 50000000 < k → laws_markTable.f k m x (c : Int) = some (((2 * x.length + c : Nat) : Int), y)) ∧ (∀ k, 50000000 < k → ∀ m', laws_heldTable.f k m' y (c : Int) = some ((2 * x.length + c : Nat) : Int)) := by
  obtain ⟨y, h1, h2⟩ := markHeld c hc x hn
  refine ⟨y, fun k hk => ?_, fun k hk m' => ?_⟩
  · unfold laws_markTable.f
    exact bs (h1 k hk) rfl
  · unfold laws_heldTable.f
    exact bs (h2 k hk) (ifn (by omega) rfl)
theorem S_conv : ∀ l : List S26, S (l.map conv) = bulk l + 32 * l.length
  | [] => by simp [S, bulk]
  | x :: l => by
    have := S_conv l
    unfold bulk at this ⊢
    simp only [List.map_cons, List.sum_cons, S, sz, conv, List.length_cons]
    omega
end Go.Proofs.YthflimnpiglgbaaGreatDoor.LibMz
end
section
set_option linter.unusedVariables false
set_option linter.unusedSimpArgs false
namespace Go.Proofs.YthflimnpiglgbaaGreatDoor.LibE
open Go.RowKit Go.Proofs.YthflimnpiglgbaaGreatDoor.A Go.Proofs.YthflimnpiglgbaaGreatDoorW.PrintWords Go.Proofs.YthflimnpiglgbaaGreatDoorW.PrintLast Go.Proofs.YthflimnpiglgbaaGreatDoorW.PrintMore Go.Proofs.YthflimnpiglgbaaGreatDoor.LibU

/-! toByteS -/
theorem eqByteS_l (l : List Int) (hl : l.length ≤ 9223372036854775806) (d : Nat) : ∀ (k : Nat) (i : Nat), i ≤ l.length → l.length - i = d → d < k → laws_eqByteS.l0 k l l (i : Int) = some true := by
  induction d with
  | zero =>
    intro k i hi hd hk
    obtain ⟨k, rfl⟩ := ix (show 0 < k by omega)
    simp only [laws_eqByteS.l0]
    rw [if_neg (by omega)]
  | succ d ih =>
    intro k i hi hd hk
    obtain ⟨k, rfl⟩ := ix (show 0 < k by omega)
    simp only [laws_eqByteS.l0]
    rw [if_pos (by omega), if_pos (by omega), if_pos (by omega), if_pos trivial, w64 (by omega) (by omega)]
    exact ih k (i + 1) (by omega) (by omega) (by omega)
theorem eqByteS {l : List Int} (hl : l.length ≤ 9223372036854775806) : ∃ K, ∀ k, K ≤ k → laws_eqByteS.f k l l = some true := by
  refine ⟨l.length + 1, fun k hk => ?_⟩
  unfold laws_eqByteS.f
  rw [if_pos rfl]
  exact eqByteS_l l hl l.length k 0 (by omega) (by omega) (by omega)

/-! markByteS, heldByteS -/
theorem markByteS_l (n : Nat) (hn : n ≤ 140737488355328) (d : Nat) : ∀ (k : Nat) (i : Nat) (x : List Int), x.length = n → i ≤ n → n - i = d → d < k → (∀ j, j < i → x.getD j 0 = ((j : Int) + 1) % 256) →
    ∃ y : List Int, laws_markByteS.l0 k x ((i : Int) + 1) (i : Int) = some ((n : Int) + 1, y) ∧ y.length = n ∧ ∀ j, j < n → y.getD j 0 = ((j : Int) + 1) % 256 := by
  induction d with
  | zero =>
    intro k i x hx hi hd hk h
    obtain ⟨k, rfl⟩ := ix (show 0 < k by omega)
    have e : i = n := by omega
    subst e
    refine ⟨x, ?_, hx, h⟩
    simp only [laws_markByteS.l0]
    rw [if_neg (by omega)]
  | succ d ih =>
    intro k i x hx hi hd hk h
    obtain ⟨k, rfl⟩ := ix (show 0 < k by omega)
    obtain ⟨y, hy, hyl, hyv⟩ := ih k (i + 1) (x.set i (((i : Int) + 1) % 256)) (by simp [hx]) (by omega) (by omega) (by omega) (by
      intro j hj
      rw [List.getD_eq_getElem?_getD, List.getElem?_set]
      by_cases e : i = j
      · subst e
        rw [if_pos rfl, if_pos (by omega)]
        rfl
      · rw [if_neg e, ← List.getD_eq_getElem?_getD]
        exact h j (by omega))
    refine ⟨y, ?_, hyl, hyv⟩
    simp only [laws_markByteS.l0]
    rw [if_pos (by omega), if_pos (by omega), w64 (by omega) (by omega), w64 (by omega) (by omega)]
    simpa using hy
theorem heldByteS_l (y : List Int) (hn : y.length ≤ 140737488355328) (hy : ∀ j, j < y.length → y.getD j 0 = ((j : Int) + 1) % 256) (d : Nat) : ∀ (k : Nat) (i : Nat), i ≤ y.length → y.length - i = d → d < k → laws_heldByteS.l0 k y ((i : Int) + 1) (i : Int) = some ((y.length : Int) + 1) := by
  induction d with
  | zero =>
    intro k i hi hd hk
    obtain ⟨k, rfl⟩ := ix (show 0 < k by omega)
    have e : i = y.length := by omega
    subst e
    simp only [laws_heldByteS.l0]
    rw [if_neg (by omega)]
  | succ d ih =>
    intro k i hi hd hk
    obtain ⟨k, rfl⟩ := ix (show 0 < k by omega)
    simp only [laws_heldByteS.l0]
    rw [if_pos (by omega), if_pos (by omega), rd_nat, hy i (by omega), if_pos rfl, w64 (by omega) (by omega), w64 (by omega) (by omega)]
    exact ih k (i + 1) (by omega) (by omega) (by omega)
/-- Marked, a row holds its marks. -/
theorem markHeld {x : List Int} (hn : x.length ≤ 140737488355328) : ∃ K y, (∀ k, K ≤ k → laws_markByteS.f k x 1 = some ((x.length : Int) + 1, y)) ∧ (∀ k, K ≤ k → laws_heldByteS.f k y 1 = some ((x.length : Int) + 1)) := by
  obtain ⟨y, h1, h2, h3⟩ := markByteS_l x.length hn x.length (x.length + 1) 0 x rfl (by omega) (by omega) (by omega) (by intro j hj; omega)
  refine ⟨x.length + 1, y, fun k hk => ?_, fun k hk => ?_⟩
  · exact at_rounds (g := fun k => laws_markByteS.f k x 1) (fun k => laws_markByteS.mono _ _ k) hk h1
  · have := heldByteS_l y (by omega) (by rw [h2]; exact h3) y.length k 0 (by omega) (by omega) (by omega)
    rw [h2] at this
    exact this
end Go.Proofs.YthflimnpiglgbaaGreatDoor.LibE
end
section
set_option linter.unusedVariables false
set_option linter.unusedSimpArgs false
namespace Go.Proofs.YthflimnpiglgbaaGreatDoor.Pure
open Go Go.RowKit Go.Proofs.YthflimnpiglgbaaGreatDoor.A Go.Proofs.YthflimnpiglgbaaGreatDoorW.PrintWords Go.Proofs.YthflimnpiglgbaaGreatDoorW.PrintLast Go.Proofs.YthflimnpiglgbaaGreatDoorW.PrintMore Go.Proofs.YthflimnpiglgbaaGreatDoor.LibU Go.Proofs.YthflimnpiglgbaaGreatDoor.LibT1 Go.Proofs.YthflimnpiglgbaaGreatDoor.LibRz
theorem W_conv : ∀ l : List S26, ((LibPfs.W (l.map conv) : Nat) : Int) = bulk l + 15 * l.length
  | [] => by simp [LibPfs.W, bulk]
  | x :: l => by
    have := W_conv l
    unfold bulk at this ⊢
    simp only [List.map_cons, List.sum_cons, LibPfs.W, conv, List.length_cons]
    omega
theorem bulk_mem : ∀ (l : List S26) (x : S26), x ∈ l → (x.f0.size : Int) + x.f1.size ≤ bulk l
  | [], x, h => by cases h
  | y :: l, x, h => by
    have hb := bulk_nonneg l
    have hc : bulk (y :: l) = ((y.f0.size : Int) + y.f1.size) + bulk l := by unfold bulk; rw [List.map_cons, List.sum_cons]
    rw [hc]
    rcases List.mem_cons.1 h with rfl | h
    · omega
    · have := bulk_mem l x h; omega
theorem FnExactPutFields : laws_FnExactPutFields.Pure := by
  intro m l xs hm hl hw hxl hxw
  obtain ⟨K, r, hz, hr⟩ := szTable m l 1048576 (by omega) (by omega) hl hw
  have hb := bulk_nonneg l
  rcases hr with rfl | ⟨hr, hr2⟩
  · refine ⟨K, ?_⟩
    unfold laws_FnExactPutFields.f
    exact bs (hz _ (Nat.le_refl _)) rfl
  · obtain ⟨K0, r2, hz2, hr3⟩ := szFieldS xs r (by omega) (by omega) hxl hxw
    rcases hr3 with rfl | ⟨hr3, hr4⟩
    · refine ⟨K + K0, ?_⟩
      unfold laws_FnExactPutFields.f
      exact bs (hz _ (by omega)) (ifn (by omega) (bs (hz2 _ (by omega)) rfl))
    · have hbx := bulk_nonneg xs
      have hlen : (l.map conv).length = l.length := by simp
      have hxlen : (xs.map conv).length = xs.length := by simp
      have hll : l.length ≤ 1048576 := by omega
      have hxll : xs.length ≤ 1048576 := by omega
      have hS : S (l.map conv) ≤ 1000000000 := by rw [LibMz.S_conv]; omega
      have ht := toTable m (l := l) hll
      have htf : ∀ k, xs.length < k → laws_toFieldS.f k xs = some (xs.map conv) := by
        intro k hk
        unfold laws_toFieldS.f
        rw [if_pos (by omega), if_pos (by omega)]
        exact toFieldS_l xs hxll xs.length k 0 _ (by simp) (by simp) (by omega) (by omega) (by omega)
      have hW := W_conv xs
      have hxs : ∀ x ∈ xs.map conv, x.f0.size ≤ 1048576 ∧ x.f1.size ≤ 1048576 := by
        intro x hx
        obtain ⟨y, hy, rfl⟩ := List.mem_map.1 hx
        have := bulk_mem xs y hy
        show y.f0.size ≤ _ ∧ y.f1.size ≤ _
        omega
      obtain ⟨K1, q, l', hq, hl', h1, h2⟩ := LibPfs.putFields m (l.map conv) (xs.map conv) (by omega) hS (by omega) hxs (by omega)
      have he := eqTable m (l := l.map conv) (by omega)
      have hf := eqTable m (l := l') (by omega)
      have hex : ∀ k, (xs.map conv).length < k → laws_eqFieldS.f k (xs.map conv) (xs.map conv) = some true := by
        intro k hk
        unfold laws_eqFieldS.f
        rw [if_pos rfl]
        exact eqFieldS_l (xs.map conv) (by omega) (xs.map conv).length k 0 (by omega) (by omega) (by omega)
      obtain ⟨K4, h4⟩ := LibE.eqByteS (l := q) (by omega)
      obtain ⟨y1, hy1, _⟩ := LibMz.markTable 1 (by omega) m (l.map conv) (by omega)
      obtain ⟨y4, hy4, _⟩ := LibMz.markHeld (2 * (l.map conv).length + 1) (by omega) (xs.map conv) (by omega)
      obtain ⟨K6, y2, h6, h6'⟩ := LibE.markHeld (x := q) (by omega)
      obtain ⟨y3, hy3, hy3'⟩ := LibMz.markTable (q.length + 1) (by omega) m l' (by omega)
      have ec : ((q.length : Int) + 1) = ((q.length + 1 : Nat) : Int) := rfl
      rw [ec] at h6 h6'
      have hnb : (!true) = false := rfl
      have e1 : ∀ k, 50000000 < k → laws_markTable.f k m (l.map conv) 1 = some (((2 * (l.map conv).length + 1 : Nat) : Int), y1) := hy1
      obtain ⟨n, hn⟩ : ∃ n, n = K + K0 + K1 + K4 + K6 + l.length + xs.length + l'.length + 60000000 := ⟨_, rfl⟩
      have b1 : K ≤ n := by omega
      have b0 : K0 ≤ n := by omega
      have b2 : l.length < n := by omega
      have b3 : K1 ≤ n := by omega
      have b4 : K4 ≤ n := by omega
      have b5 : K6 ≤ n := by omega
      have b6 : l'.length < n := by omega
      have b7 : 50000000 < n := by omega
      have b8 : (l.map conv).length < n := by omega
      have b9 : xs.length < n := by omega
      have b10 : (xs.map conv).length < n := by omega
      have c1 : ¬ r < 0 := by omega
      have c2 : ¬ r2 < 0 := by omega
      have c3 : ¬ ((2 * (xs.map conv).length + (2 * (l.map conv).length + 1) : Nat) : Int) < 0 := by omega
      have c4 : ¬ ((q.length + 1 : Nat) : Int) < 0 := by omega
      have c5 : ¬ ((2 * l'.length + (q.length + 1) : Nat) : Int) < 0 := by omega
      clear hn hm hl hw hxl hxw hr hr2 hr3 hr4 hb hbx hq hl' hS hy1 hlen hxlen hll hxll hW hxs
      refine ⟨n + 1 + 1 + 1, ?_⟩
      unfold laws_FnExactPutFields.f
      refine bs (hz _ (by omega)) (ifn c1 (bs (hz2 _ (by omega)) (ifn c2 (bs (ht _ (by omega)) (bs (htf _ (by omega)) (bs (h1 _ (by omega)) (bs (ht _ (by omega)) (bs (htf _ (by omega)) (bs (h2 _ (by omega)) (bs (h4 _ (by omega)) (ifp rfl (bs (hf _ (by omega)) ?_))))))))))))
      rw [hnb, laws_FnExactPutFields.j0, if_neg (by decide)]
      refine bs (ht _ (by omega)) (bs (he _ (by omega)) (ifp rfl (bs (htf _ (by omega)) (bs (hex _ (by omega)) (ifp rfl (bs (e1 _ (by omega)) (bs (hy4 _ (by omega)) (ifn c3 (bs (h4 _ (by omega)) (ifp rfl (bs (hf _ (by omega)) ?_)))))))))))
      rw [hnb, laws_FnExactPutFields.j1, if_neg (by decide)]
      refine bs (h6 _ (by omega)) (bs (hy3 _ (by omega)) (bs (h6' _ (by omega)) (ifn c4 (bs (hy3' _ (by omega) _) (ifn c5 (ifp rfl (bs (ht _ (by omega)) (bs (htf _ (by omega)) (bs (h2 _ (by omega)) (bs (h4 _ (by omega)) (ifp rfl (bs (hf _ (by omega)) ?_))))))))))))
      rw [hnb, laws_FnExactPutFields.j2, if_neg (by decide)]
      exact bs (h6' _ (by omega)) (ifn c4 (bs (hy3' _ (by omega) _) (ifn c5 (ifp rfl rfl))))
end Go.Proofs.YthflimnpiglgbaaGreatDoor.Pure
end
section
set_option linter.unusedVariables false
namespace Go.Proofs.YthflimnpiglgbaaGreatDoor.LibShaped
open Go Go.ChangeShapes Go.WideShapes Go.ChangeAt Go.RowKit
theorem returnsInHanded_and_shaped {H : Type} {enc : TypeId × Value → H} {a : Assume} {C : Checked} {os : Os} {f : FuncId} {fn : Func} {s : ChangeSpec} {conds : List PathCond} {apart fresh handsOn again : Bool} {X : World → Array Value → Prop}
    (hX : ∀ (w w' : World) (args : Array Value), w.heap = w'.heap → X w args → X w' args)
    (own : ownKnob C.prog.godebug = none) (started : os.Started) (noInit : C.prog.inits.idxOf? f = none) (hfn : C.prog.funcs[f]? = some fn)
    (witness : ∃ (w : World) (tape : Tape) (i : Input), w.os = os ∧ (w.forCall tape i).Shaped C.prog ∧ i.vars = [] ∧ Input.okWide C.prog (w.forCall tape i) .any w.heap.size f i ∧
      ((s.pre enc C.prog fn conds apart (w.forCall tape i).memory i.args ∧ X (w.forCall tape i).memory i.args) ∧ sizedMet enc C.prog fn (OpenSpec.ofChange s) apart (w.forCall tape i).memory i.args) ∧ a.holds C.prog (lone (Frame.enter C.prog f i.args .normal) [] (w.forCall tape i)))
    (contract : ∀ (W : World) (base : Nat) (args : Array Value) (ds gs : List (DataW H)) (before : List MemPlace),
      (∀ (j : Nat) t v, fn.params[j]? = some t → args[j]? = some v → Value.okWide C.prog W .any base t v) →
      DataW.Whole enc C.prog fn.params.toList s.vars apart W args.toList ds gs before →
      conds.all (PathCond.test C.prog ⟨fn.params.toList, ds, s.plain.varTypes C.prog, gs⟩) = true →
      (DataW.weightsEach C.prog (fn.params.toList ++ s.plain.varTypes C.prog) (ds ++ gs)).all (· ≤ reachBytes) = true → X W args ∧ W.ShapedOpen C.prog →
      a.holds C.prog (lone (Frame.enter C.prog f args .normal) [] W) →
      Calls C.prog f args W fun e W' => ∃ v, e = .returned v ∧ s.post enc C.prog fn apart fresh handsOn again W args v W') :
    ReturnsInHanded a C os f .any (fun w args => (s.pre enc C.prog fn conds apart w args ∧ X w args) ∧ sizedMet enc C.prog fn (OpenSpec.ofChange s) apart w args) (s.post enc C.prog fn apart fresh handsOn again) := by
  refine returnsInHanded_of_calls own started noInit witness ?_
  intro w tape i _ hsh _ hok hpre hholds
  obtain ⟨_, _, _, fn', hfn', _, _, _, _, hval⟩ := hok
  have e : fn' = fn := Option.some.inj (hfn'.symm.trans hfn)
  subst e
  obtain ⟨⟨⟨ds, gs, before, hw, hc⟩, hx⟩, hz⟩ := hpre
  have hw' := DataW.Whole.of_heap (w' := w.forCall tape i) (by rfl) hw
  refine (contract (w.forCall tape i) w.heap.size i.args ds gs before hval hw' hc (hz.weights hw) ⟨hX _ _ _ (by rfl) hx, hsh⟩ hholds).mono fun e W' ⟨v, he, hp⟩ => ?_
  subst he
  exact ChangeSpec.post_blind hp
/-- A datum's cells: numbers, one or two deep. -/
def flat1 : DataW Unit → List Value
  | .lit (.int k n) => [.int k n]
  | _ => []
def flat2 : DataW Unit → List Value
  | .agg l => l.flatMap fun x => match x with
    | .agg m => m.flatMap flat1
    | y => flat1 y
  | y => flat1 y
/-- One variable's cells laid. -/
def lay1 (h : Array Obj) (x : Nat × DataW Unit) : Array Obj := h.modify x.1 fun o => match o with
  | .cells _ t fz => .cells (flat2 x.2).toArray t fz
  | o => o
/-- The settled world, its listed variables holding what their initialisers lay. -/
noncomputable def laidWorld (P : Program) (os : Os) (l : List (Nat × DataW Unit)) : World :=
  { World.holding P os ⟨#[], #[], []⟩ with heap := l.foldl lay1 (World.holding P os ⟨#[], #[], []⟩).heap }
/-- A world, some of its variables laid besides. -/
noncomputable def laidOver (W : World) (l : List (Nat × DataW Unit)) : World := { W with heap := l.foldl lay1 W.heap }
end Go.Proofs.YthflimnpiglgbaaGreatDoor.LibShaped
end
