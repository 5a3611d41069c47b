/- How great a table is, and the reference's cut of it. Condition: each theorem's own bounds. -/
import Derived.Test.YtlgfcpmihocheaaLibUs
import Derived.Test.YtlgfcpmihocheaaAx5
import Derived.Test.YtlgfcpmihocheaaAx6
import Derived.Test.YtlgfcpmihocheaaAx7
set_option linter.unusedVariables false
set_option linter.unusedSimpArgs false
namespace Go.Proofs.Ytlgfcpmihocheaa.LibRz
open Go.RowKit Go.Proofs.Ytlgfcpmihocheaa.A Go.Proofs.YtlgfcpmihocheaaW.PrintWords Go.Proofs.YtlgfcpmihocheaaW.PrintLast Go.Proofs.YtlgfcpmihocheaaW.PrintMore Go.Proofs.Ytlgfcpmihocheaa.LibU
def sz (x : S33) : Int := (x.f0.size : Int) + x.f1.size + 32
def S : List S33 → Int
  | [] => 0
  | x :: l => sz x + S l
theorem sz_pos (x : S33) : 32 ≤ sz x := by unfold sz; omega
theorem S_nonneg : ∀ l, 0 ≤ S l
  | [] => by simp [S]
  | x :: l => by have := S_nonneg l; have := sz_pos x; simp only [S]; omega
theorem S_snoc : ∀ (l : List S33) (x : S33), S (l ++ [x]) = S l + sz x
  | [], x => by simp [S]
  | y :: l, x => by have := S_snoc l x; simp only [List.cons_append, S]; omega
theorem take_snoc (l : List S33) (i : Nat) (h : i < l.length) : l.take (i + 1) = l.take i ++ [l.getD i z33] := by
  rw [List.take_add_one, List.getElem?_eq_getElem h, Option.toList_some, List.getD_eq_getElem?_getD, List.getElem?_eq_getElem h, Option.getD_some]
theorem S_take (l : List S33) (i : Nat) (h : i < l.length) : S (l.take (i + 1)) = S (l.take i) + sz (l.getD i z33) := by
  rw [take_snoc l i h, S_snoc]
theorem S_mono (l : List S33) (i j : Nat) (h : i ≤ j) (hj : j ≤ l.length) : S (l.take i) ≤ S (l.take j) := by
  induction j with
  | zero => rw [show i = 0 by omega]; omega
  | succ j ih =>
    by_cases c : i = j + 1
    · rw [c]; omega
    · have := ih (by omega) (by omega)
      rw [S_take l j (by omega)]
      have := sz_pos (l.getD j z33)
      omega
theorem of_val (x : S33) (h : sz x ≤ 1000000000) : spec_l4Of.f x.f0 x.f1 = some (sz x) := by
  unfold sz at h
  unfold spec_l4Of.f sz
  rw [w64 (x := (x.f0.size : Int) + (x.f1.size : Int)) (by omega) (by omega), w64 (by omega) (by omega)]
theorem size_l (l : List S33) (m : Int) (hl : l.length ≤ 1048580) (hS : S l ≤ 1000000000) (d : Nat) : ∀ (i : Nat), i ≤ l.length → l.length - i = d → ∀ k, d < k → spec_SizeOf.l0 k (S (l.take i)) (i : Int) m l = some (S l) := by
  induction d with
  | zero =>
    intro i hi hd k hk
    obtain ⟨k, rfl⟩ := ix (show 0 < k by omega)
    rw [spec_SizeOf.l0, if_neg (by omega), List.take_of_length_le (by omega)]
  | succ d ih =>
    intro i hi hd k hk
    obtain ⟨k, rfl⟩ := ix (show 0 < k by omega)
    have h1 := S_take l i (by omega)
    have h2 := S_mono l (i + 1) l.length (by omega) (Nat.le_refl _)
    rw [List.take_length] at h2
    have h3 := S_nonneg (l.take i)
    have h4 := sz_pos (l.getD i z33)
    have hrd : rd_T33 l (i : Int) = l.getD i z33 := by unfold rd_T33; rw [Int.toNat_natCast]
    rw [spec_SizeOf.l0, if_pos (by omega), if_pos (by omega), hrd]
    refine bs (of_val _ (by omega)) ?_
    rw [w64 (x := S (l.take i) + sz (l.getD i z33)) (by omega) (by omega), ← h1, w64 (x := (i : Int) + 1) (by omega) (by omega)]
    exact ih (i + 1) (by omega) (by omega) k (by omega)
theorem size (l : List S33) (m : Int) (hl : l.length ≤ 1048580) (hS : S l ≤ 1000000000) : ∀ k, l.length < k → spec_SizeOf.f k m l = some (S l) := by
  intro k hk
  unfold spec_SizeOf.f
  have := size_l l m hl hS l.length 0 (by omega) (by omega) k hk
  exact this
/-- The reference: from the end. -/
theorem fit_l (l : List S33) (m : Int) (hl : l.length ≤ 1048580) (hS : S l ≤ 1000000000) (i : Nat) (hi : i ≤ l.length) (h1 : S (l.take i) ≤ m) (h2 : i < l.length → m < S (l.take (i + 1))) (d : Nat) :
    ∀ (n : Nat), i ≤ n → n ≤ l.length → n - i = d → ∀ k, l.length + d + 1 < k → spec_l4Fit.l0 k m (l.take n) = some (m, l.take i) := by
  induction d with
  | zero =>
    intro n hn hn2 hd k hk
    obtain rfl : n = i := by omega
    obtain ⟨k, rfl⟩ := ix (show 0 < k by omega)
    have hll : (l.take n).length = n := by rw [List.length_take]; omega
    have h3 := S_mono l n l.length hn2 (Nat.le_refl _)
    rw [List.take_length] at h3
    rw [spec_l4Fit.l0]
    refine bs (size (l.take n) m (by omega) (by omega) k (by omega)) ?_
    rw [if_neg (by omega)]
  | succ d ih =>
    intro n hn hn2 hd k hk
    obtain ⟨k, rfl⟩ := ix (show 0 < k by omega)
    have hll : (l.take n).length = n := by rw [List.length_take]; omega
    have h3 := S_mono l n l.length hn2 (Nat.le_refl _)
    rw [List.take_length] at h3
    have h4 := S_mono l (i + 1) n (by omega) hn2
    have h5 := h2 (by omega)
    rw [spec_l4Fit.l0]
    refine bs (size (l.take n) m (by omega) (by omega) k (by omega)) ?_
    have hw : wrap64 (((l.take n).length : Int) - 1) = ((n - 1 : Nat) : Int) := by rw [hll, w64 (by omega) (by omega)]; omega
    rw [if_pos (by omega), hw, if_pos (by omega), if_pos (by rw [hll]; omega), Int.toNat_natCast, List.take_take, show min (n - 1) n = n - 1 by omega]
    exact ih (n - 1) (by omega) (by omega) (by omega) k (by omega)
/-- How many of the first fields fit. -/
theorem fit_at (l : List S33) (m : Int) (hm : 0 ≤ m) (d : Nat) : ∀ (i : Nat), i ≤ l.length → l.length - i = d → S (l.take i) ≤ m →
    ∃ j, j ≤ l.length ∧ S (l.take j) ≤ m ∧ (j < l.length → m < S (l.take (j + 1))) := by
  induction d with
  | zero => intro i hi hd h; exact ⟨i, hi, h, fun h => by omega⟩
  | succ d ih =>
    intro i hi hd h
    by_cases c : S (l.take (i + 1)) ≤ m
    · exact ih (i + 1) (by omega) (by omega) c
    · exact ⟨i, hi, h, fun _ => by omega⟩
theorem fit_any (l : List S33) (m : Int) (hl : l.length ≤ 1048580) (hS : S l ≤ 1000000000) (hm : 0 ≤ m) : ∃ j, j ≤ l.length ∧ S (l.take j) ≤ m ∧ (j < l.length → m < S (l.take (j + 1))) ∧ ∀ k, 2 * l.length + 1 < k → spec_l4Fit.f k m l = some (m, l.take j) := by
  obtain ⟨j, h1, h2, h3⟩ := fit_at l m hm l.length 0 (by omega) (by omega) (by show (0 : Int) ≤ m; omega)
  refine ⟨j, h1, h2, h3, fun k hk => ?_⟩
  have := fit_l l m hl hS j h1 h2 h3 (l.length - j) l.length h1 (Nat.le_refl _) rfl k (by omega)
  rw [List.take_length] at this
  unfold spec_l4Fit.f
  exact this
end Go.Proofs.Ytlgfcpmihocheaa.LibRz
