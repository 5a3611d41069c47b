/- For tables: a table that is cut from its end until it fits (the reference) is the one that is cut from its front where the room ends (the program). Condition: each theorem's own bounds. -/
import Derived.Test.YtlgfcpmihocheaaLibRs
import Derived.Test.YtlgfcpmihocheaaAx7
import Derived.Test.YtlgfcpmihocheaaAx17
set_option linter.unusedVariables false
set_option linter.unusedSimpArgs false
namespace Go.Proofs.Ytlgfcpmihocheaa.LibRz
open Go.RowKit Go.Proofs.Ytlgfcpmihocheaa.A Go.Proofs.YtlgfcpmihocheaaW.PrintWords Go.Proofs.YtlgfcpmihocheaaW.PrintLast Go.Proofs.YtlgfcpmihocheaaW.PrintMore Go.Proofs.Ytlgfcpmihocheaa.LibU
/-- The room, as impl_Resize.f counts it. -/
theorem nx_val (room : Int) (x : S33) (h : sz x ≤ 1000000000) (hr : -2000000000 ≤ room ∧ room ≤ 2000000000) : impl_Resize.nx room x = room - sz x := by
  have := sz_pos x
  unfold sz at h this
  unfold impl_Resize.nx sz
  rw [w64 (x := (x.f0.size : Int) + (x.f1.size : Int)) (by omega) (by omega), w64 (x := (x.f0.size : Int) + (x.f1.size : Int) + 32) (by omega) (by omega), w64 (by omega) (by omega)]
/-- The program: from the front. -/
theorem tr_l (l : List S33) (m : Int) (hm : 0 ≤ m ∧ m ≤ 1000000000) (hS : S l ≤ 1000000000) (d : Nat) : ∀ (i : Nat), i ≤ l.length → l.length - i = d → S (l.take i) ≤ m →
    (impl_Resize.tr d (m - S (l.take i)) l i = none ∧ S l ≤ m) ∨ ∃ j, impl_Resize.tr d (m - S (l.take i)) l i = some j ∧ j < l.length ∧ S (l.take j) ≤ m ∧ m < S (l.take (j + 1)) := by
  induction d with
  | zero =>
    intro i hi hd h
    rw [List.take_of_length_le (by omega)] at h
    exact .inl ⟨rfl, h⟩
  | succ d ih =>
    intro i hi hd h
    have h1 := S_take l i (by omega)
    have h2 := S_mono l (i + 1) l.length (by omega) (Nat.le_refl _)
    rw [List.take_length] at h2
    have h3 := S_nonneg (l.take i)
    have h4 := sz_pos (l.getD i z33)
    have hn := nx_val (m - S (l.take i)) (l.getD i z33) (by omega) (by omega)
    have e : m - S (l.take i) - sz (l.getD i z33) = m - S (l.take (i + 1)) := by omega
    rw [impl_Resize.tr, hn, e]
    by_cases c : m - S (l.take (i + 1)) < 0
    · rw [if_pos c]
      exact .inr ⟨i, rfl, by omega, h, by omega⟩
    · rw [if_neg c]
      exact ih (i + 1) (by omega) (by omega) (by omega)
theorem fit_cut (l : List S33) (m : Int) (hl : l.length ≤ 1048580) (hm : 0 ≤ m ∧ m ≤ 1000000000) (hS : S l ≤ 1000000000) : ∀ k, 2 * l.length + 1 < k → spec_l4Fit.f k m l = some (m, impl_Resize.cut m l) := by
  intro k hk
  have h0 := tr_l l m hm hS l.length 0 (by omega) (by omega) (by show (0 : Int) ≤ m; omega)
  have e0 : m - S (l.take 0) = m := by show m - 0 = m; omega
  rw [e0] at h0
  have et : l.take l.length = l := List.take_length
  unfold spec_l4Fit.f impl_Resize.cut
  rcases h0 with ⟨h, hle⟩ | ⟨j, h, hj, h1, h2⟩
  · rw [h]
    have := fit_l l m hl hS l.length (Nat.le_refl _) (by rw [et]; exact hle) (fun h => by omega) 0 l.length (Nat.le_refl _) (Nat.le_refl _) (by omega) k (by omega)
    rw [et] at this
    exact this
  · rw [h]
    have := fit_l l m hl hS j (by omega) h1 (fun _ => h2) (l.length - j) l.length (by omega) (Nat.le_refl _) rfl k (by omega)
    rw [et] at this
    exact this
/-- What the program's cut is. -/
theorem cut_is (l : List S33) (m : Int) (hm : 0 ≤ m ∧ m ≤ 1000000000) (hS : S l ≤ 1000000000) : ∃ j, j ≤ l.length ∧ impl_Resize.cut m l = l.take j ∧ S (l.take j) ≤ m ∧ (j < l.length → m < S (l.take (j + 1))) := by
  have h0 := tr_l l m hm hS l.length 0 (by omega) (by omega) (by show (0 : Int) ≤ m; omega)
  have e0 : m - S (l.take 0) = m := by show m - 0 = m; omega
  rw [e0] at h0
  unfold impl_Resize.cut
  rcases h0 with ⟨h, hle⟩ | ⟨j, h, hj, h1, h2⟩
  · rw [h]
    exact ⟨l.length, Nat.le_refl _, (List.take_length).symm, by rw [List.take_length]; exact hle, fun h => by omega⟩
  · rw [h]
    exact ⟨j, by omega, rfl, h1, fun _ => h2⟩
end Go.Proofs.Ytlgfcpmihocheaa.LibRz
