/- What the fold over bytes is worth: the number that they write. Condition: each theorem's own bounds. -/
import Derived.Test.YthamojhhiddgaaaLibG
import Derived.Test.YthamojhhiddgaaaLibBits
set_option linter.unusedVariables false
set_option linter.unusedSimpArgs false
namespace Go.Proofs.Ythamojhhiddgaaa.LibG
open Go.RowKit Go.Proofs.YthamojhhiddgaaaW.PrintWords Go.Proofs.YthamojhhiddgaaaW.PrintLast Go.Proofs.Ythamojhhiddgaaa.LibU Go.Proofs.Ythamojhhiddgaaa.LibBits
def BytesL (l : List Int) : Prop := ∀ x ∈ l, 0 ≤ x ∧ x ≤ 255
theorem gbStep_eq (n x : Int) (h0 : 0 ≤ n) (h1 : n < 36028797018963968) (hx : 0 ≤ x ∧ x ≤ 255) : gbStep n x = n * 256 + x := by
  unfold gbStep
  have e8 : (2 : Int) ^ 8 = 256 := by decide
  have e63 : (2 : Int) ^ 63 = 9223372036854775808 := by decide
  rw [w64 (x := n * 256) (by omega) (by omega), w64 (x := x) (by omega) (by omega)]
  exact i64_join 8 (n * 256) x (by omega) (by rw [e8]; omega) (by rw [e63]; omega) (by omega) (by rw [e8]; omega) (by rw [e63]; omega)
def val (n : Int) (ys : List Int) : Int := ys.foldl (fun n x => n * 256 + x) n
theorem val_lt (ys : List Int) : ∀ (n : Int), BytesL ys → 0 ≤ n → 0 ≤ val n ys ∧ val n ys < (n + 1) * 256 ^ ys.length := by
  induction ys with
  | nil => intro n _ h; simp [val]; omega
  | cons x ys ih =>
    intro n hb h
    have hx := hb x (List.mem_cons_self)
    obtain ⟨h1, h2⟩ := ih (n * 256 + x) (fun z hz => hb z (List.mem_cons_of_mem _ hz)) (by omega)
    refine ⟨h1, Int.lt_of_lt_of_le h2 ?_⟩
    rw [List.length_cons, Int.pow_succ, Int.mul_comm (256 ^ ys.length) 256, ← Int.mul_assoc]
    exact Int.mul_le_mul_of_nonneg_right (by omega) (Int.pow_nonneg (by omega))
theorem gbFold_eq (ys : List Int) : ∀ (n : Int), BytesL ys → 0 ≤ n → (n + 1) * 256 ^ ys.length ≤ 72057594037927936 → gbFold n ys = val n ys := by
  induction ys with
  | nil => intro n _ _ _; rfl
  | cons x ys ih =>
    intro n hb h0 h1
    have hx := hb x (List.mem_cons_self)
    have hp : (1 : Int) ≤ 256 ^ ys.length := by
      have : (0 : Int) < 256 ^ ys.length := Int.pow_pos (by omega)
      omega
    rw [List.length_cons, Int.pow_succ, Int.mul_comm (256 ^ ys.length) 256, ← Int.mul_assoc] at h1
    have hn : (n + 1) * 256 ≤ 72057594037927936 := by
      have := Int.mul_le_mul_of_nonneg_left hp (show 0 ≤ (n + 1) * 256 by omega)
      omega
    have hs : gbStep n x = n * 256 + x := gbStep_eq n x h0 (by omega) hx
    show gbFold (gbStep n x) ys = val (n * 256 + x) ys
    rw [hs]
    refine ih _ (fun z hz => hb z (List.mem_cons_of_mem _ hz)) (by omega) (Int.le_trans (Int.mul_le_mul_of_nonneg_right (by omega) (by omega)) h1)
theorem bytes_cut {l : List Int} (h : BytesL l) (a b : Nat) : BytesL ((l.take a).drop b) := fun x hx => h x (List.mem_of_mem_take (List.mem_of_mem_drop hx))
/-- A number of three or four bytes lies in its bounds. -/
theorem gb_bounds {l : List Int} {a b : Int} (h : BytesL l) (hb : 1 ≤ b ∧ b ≤ 4) : 0 ≤ (gb l a b).1 ∧ (gb l a b).1 < 4294967296 := by
  unfold gb
  split
  · rename_i hok
    unfold gbOk at hok
    have hlen : ((l.take (a + b).toNat).drop a.toNat).length = b.toNat := by simp; omega
    have hc := bytes_cut h (a + b).toNat a.toNat
    have hp : (256 : Int) ^ ((l.take (a + b).toNat).drop a.toNat).length ≤ 4294967296 := by
      rw [hlen]
      rcases (show b = 1 ∨ b = 2 ∨ b = 3 ∨ b = 4 by omega) with rfl | rfl | rfl | rfl <;> decide
    rw [gbFold_eq _ 0 hc (by omega) (by omega)]
    have := val_lt _ 0 hc (by omega)
    omega
  · simp
end Go.Proofs.Ythamojhhiddgaaa.LibG
