/- Plain facts on the printed functions of this seat (namespace A): what they come to, as lists and numbers, and from how many rounds on. Condition: each theorem's own bounds. -/
import Derived.Test.YtlgfcpmihocheaaLibU
import Derived.Test.YtlgfcpmihocheaaAx3
import Derived.Test.YtlgfcpmihocheaaAx6
import Derived.Test.YtlgfcpmihocheaaAx9
import Derived.Test.YtlgfcpmihocheaaAx11
set_option linter.unusedVariables false
set_option linter.unusedSimpArgs false
namespace Go.Proofs.Ytlgfcpmihocheaa.LibE
open Go.RowKit Go.Proofs.Ytlgfcpmihocheaa.A Go.Proofs.YtlgfcpmihocheaaW.PrintWords Go.Proofs.YtlgfcpmihocheaaW.PrintLast Go.Proofs.YtlgfcpmihocheaaW.PrintMore Go.Proofs.Ytlgfcpmihocheaa.LibU

/-! toByteS -/
theorem toByteS_l (l : List Int) (hl : l.length ≤ 140737488351232) (d : Nat) : ∀ (k : Nat) (i : Nat) (x : List Int), x.length = l.length → x.take i = l.take i → i ≤ l.length → l.length - i = d → d < k → laws_toByteS.l0 k l x (i : Int) = some l := by
  induction d with
  | zero =>
    intro k i x hx ht hi hd hk
    obtain ⟨k, rfl⟩ := ix (show 0 < k by omega)
    simp only [laws_toByteS.l0]
    rw [if_neg (by omega)]
    have h : i = l.length := by omega
    subst h
    rw [List.take_length, ← hx, List.take_length] at ht
    rw [ht]
  | succ d ih =>
    intro k i x hx ht hi hd hk
    obtain ⟨k, rfl⟩ := ix (show 0 < k by omega)
    simp only [laws_toByteS.l0]
    rw [if_pos (by omega), if_pos (by omega), if_pos (by omega), w64 (by omega) (by omega)]
    have := ih k (i + 1) (x.set i (rd l i)) (by simp [hx]) ?_ (by omega) (by omega) (by omega)
    · simpa using this
    · rw [List.take_succ_eq_append_getElem (by simp [hx]; omega), List.take_succ_eq_append_getElem (by omega)]
      rw [List.take_set_of_le (Nat.le_refl _), ht]
      simp [rd_nat, List.getD_eq_getElem?_getD, List.getElem?_eq_getElem (show i < l.length by omega)]
theorem toByteS {l : List Int} (hl : l.length ≤ 140737488351232) : ∃ K, ∀ k, K ≤ k → laws_toByteS.f k l = some l := by
  refine ⟨l.length + 1, fun k hk => ?_⟩
  unfold laws_toByteS.f
  rw [if_pos (by omega), if_pos (by omega)]
  exact toByteS_l l hl l.length k 0 _ (by simp) (by simp) (by omega) (by omega) (by omega)

/-! eqByteS -/
theorem eqByteS_l (l : List Int) (hl : l.length ≤ 9223372036854775806) (d : Nat) : ∀ (k : Nat) (i : Nat), i ≤ l.length → l.length - i = d → d < k → laws_eqByteS.l0 k l l (i : Int) = some true := by
  induction d with
  | zero =>
    intro k i hi hd hk
    obtain ⟨k, rfl⟩ := ix (show 0 < k by omega)
    simp only [laws_eqByteS.l0]
    rw [if_neg (by omega)]
  | succ d ih =>
    intro k i hi hd hk
    obtain ⟨k, rfl⟩ := ix (show 0 < k by omega)
    simp only [laws_eqByteS.l0]
    rw [if_pos (by omega), if_pos (by omega), if_pos (by omega), if_pos trivial, w64 (by omega) (by omega)]
    exact ih k (i + 1) (by omega) (by omega) (by omega)
theorem eqByteS {l : List Int} (hl : l.length ≤ 9223372036854775806) : ∃ K, ∀ k, K ≤ k → laws_eqByteS.f k l l = some true := by
  refine ⟨l.length + 1, fun k hk => ?_⟩
  unfold laws_eqByteS.f
  rw [if_pos rfl]
  exact eqByteS_l l hl l.length k 0 (by omega) (by omega) (by omega)

/-! markByteS, heldByteS -/
theorem markByteS_l (n : Nat) (hn : n ≤ 140737488355328) (d : Nat) : ∀ (k : Nat) (i : Nat) (x : List Int), x.length = n → i ≤ n → n - i = d → d < k → (∀ j, j < i → x.getD j 0 = ((j : Int) + 1) % 256) →
    ∃ y : List Int, laws_markByteS.l0 k x ((i : Int) + 1) (i : Int) = some ((n : Int) + 1, y) ∧ y.length = n ∧ ∀ j, j < n → y.getD j 0 = ((j : Int) + 1) % 256 := by
  induction d with
  | zero =>
    intro k i x hx hi hd hk h
    obtain ⟨k, rfl⟩ := ix (show 0 < k by omega)
    have e : i = n := by omega
    subst e
    refine ⟨x, ?_, hx, h⟩
    simp only [laws_markByteS.l0]
    rw [if_neg (by omega)]
  | succ d ih =>
    intro k i x hx hi hd hk h
    obtain ⟨k, rfl⟩ := ix (show 0 < k by omega)
    obtain ⟨y, hy, hyl, hyv⟩ := ih k (i + 1) (x.set i (((i : Int) + 1) % 256)) (by simp [hx]) (by omega) (by omega) (by omega) (by
      intro j hj
      rw [List.getD_eq_getElem?_getD, List.getElem?_set]
      by_cases e : i = j
      · subst e
        rw [if_pos rfl, if_pos (by omega)]
        rfl
      · rw [if_neg e, ← List.getD_eq_getElem?_getD]
        exact h j (by omega))
    refine ⟨y, ?_, hyl, hyv⟩
    simp only [laws_markByteS.l0]
    rw [if_pos (by omega), if_pos (by omega), w64 (by omega) (by omega), w64 (by omega) (by omega)]
    simpa using hy
theorem heldByteS_l (y : List Int) (hn : y.length ≤ 140737488355328) (hy : ∀ j, j < y.length → y.getD j 0 = ((j : Int) + 1) % 256) (d : Nat) : ∀ (k : Nat) (i : Nat), i ≤ y.length → y.length - i = d → d < k → laws_heldByteS.l0 k y ((i : Int) + 1) (i : Int) = some ((y.length : Int) + 1) := by
  induction d with
  | zero =>
    intro k i hi hd hk
    obtain ⟨k, rfl⟩ := ix (show 0 < k by omega)
    have e : i = y.length := by omega
    subst e
    simp only [laws_heldByteS.l0]
    rw [if_neg (by omega)]
  | succ d ih =>
    intro k i hi hd hk
    obtain ⟨k, rfl⟩ := ix (show 0 < k by omega)
    simp only [laws_heldByteS.l0]
    rw [if_pos (by omega), if_pos (by omega), rd_nat, hy i (by omega), if_pos rfl, w64 (by omega) (by omega), w64 (by omega) (by omega)]
    exact ih k (i + 1) (by omega) (by omega) (by omega)
/-- Marked, a row holds its marks. -/
theorem markHeld {x : List Int} (hn : x.length ≤ 140737488355328) : ∃ K y, (∀ k, K ≤ k → laws_markByteS.f k x 1 = some ((x.length : Int) + 1, y)) ∧ (∀ k, K ≤ k → laws_heldByteS.f k y 1 = some ((x.length : Int) + 1)) := by
  obtain ⟨y, h1, h2, h3⟩ := markByteS_l x.length hn x.length (x.length + 1) 0 x rfl (by omega) (by omega) (by omega) (by intro j hj; omega)
  refine ⟨x.length + 1, y, fun k hk => ?_, fun k hk => ?_⟩
  · exact at_rounds (g := fun k => laws_markByteS.f k x 1) (fun k => laws_markByteS.mono _ _ k) hk h1
  · have := heldByteS_l y (by omega) (by rw [h2]; exact h3) y.length k 0 (by omega) (by omega) (by omega)
    rw [h2] at this
    exact this
end Go.Proofs.Ytlgfcpmihocheaa.LibE
