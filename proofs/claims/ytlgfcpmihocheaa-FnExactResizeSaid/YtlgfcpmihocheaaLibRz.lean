/- For tables: a table that is cut from its end until it fits (the reference) is the one that is cut from its front where the room ends (the program). -/
import Derived.Test.YtlgfcpmihocheaaLibT1
import Derived.Test.YtlgfcpmihocheaaAx5
import Derived.Test.YtlgfcpmihocheaaAx8
import Derived.Test.YtlgfcpmihocheaaAx9
import Derived.Test.YtlgfcpmihocheaaAx12
set_option linter.unusedVariables false
set_option linter.unusedSimpArgs false
namespace Go.Proofs.Ytlgfcpmihocheaa.LibRz
open Go.RowKit Go.Proofs.Ytlgfcpmihocheaa.A Go.Proofs.YtlgfcpmihocheaaW.PrintWords Go.Proofs.YtlgfcpmihocheaaW.PrintLast Go.Proofs.YtlgfcpmihocheaaW.PrintMore Go.Proofs.Ytlgfcpmihocheaa.LibU Go.Proofs.Ytlgfcpmihocheaa.LibT1
def sz (x : S33) : Int := (x.f0.size : Int) + x.f1.size + 32
def S : List S33 → Int
  | [] => 0
  | x :: l => sz x + S l
theorem sz_pos (x : S33) : 32 ≤ sz x := by unfold sz; omega
theorem S_nonneg : ∀ l, 0 ≤ S l
  | [] => by simp [S]
  | x :: l => by have := S_nonneg l; have := sz_pos x; simp only [S]; omega
theorem S_snoc : ∀ (l : List S33) (x : S33), S (l ++ [x]) = S l + sz x
  | [], x => by simp [S]
  | y :: l, x => by have := S_snoc l x; simp only [List.cons_append, S]; omega
theorem take_snoc (l : List S33) (i : Nat) (h : i < l.length) : l.take (i + 1) = l.take i ++ [l.getD i z33] := by
  rw [List.take_add_one, List.getElem?_eq_getElem h, Option.toList_some, List.getD_eq_getElem?_getD, List.getElem?_eq_getElem h, Option.getD_some]
theorem S_take (l : List S33) (i : Nat) (h : i < l.length) : S (l.take (i + 1)) = S (l.take i) + sz (l.getD i z33) := by
  rw [take_snoc l i h, S_snoc]
theorem S_mono (l : List S33) (i j : Nat) (h : i ≤ j) (hj : j ≤ l.length) : S (l.take i) ≤ S (l.take j) := by
  induction j with
  | zero => rw [show i = 0 by omega]; omega
  | succ j ih =>
    by_cases c : i = j + 1
    · rw [c]; omega
    · have := ih (by omega) (by omega)
      rw [S_take l j (by omega)]
      have := sz_pos (l.getD j z33)
      omega
theorem of_val (x : S33) (h : sz x ≤ 1000000000) : spec_l4Of.f x.f0 x.f1 = some (sz x) := by
  unfold sz at h
  unfold spec_l4Of.f sz
  rw [w64 (x := (x.f0.size : Int) + (x.f1.size : Int)) (by omega) (by omega), w64 (by omega) (by omega)]
theorem size_l (l : List S33) (m : Int) (hl : l.length ≤ 1048576) (hS : S l ≤ 1000000000) (d : Nat) : ∀ (i : Nat), i ≤ l.length → l.length - i = d → ∀ k, d < k → spec_SizeOf.l0 k (S (l.take i)) (i : Int) m l = some (S l) := by
  induction d with
  | zero =>
    intro i hi hd k hk
    obtain ⟨k, rfl⟩ := ix (show 0 < k by omega)
    rw [spec_SizeOf.l0, if_neg (by omega), List.take_of_length_le (by omega)]
  | succ d ih =>
    intro i hi hd k hk
    obtain ⟨k, rfl⟩ := ix (show 0 < k by omega)
    have h1 := S_take l i (by omega)
    have h2 := S_mono l (i + 1) l.length (by omega) (Nat.le_refl _)
    rw [List.take_length] at h2
    have h3 := S_nonneg (l.take i)
    have h4 := sz_pos (l.getD i z33)
    have hrd : rd_T33 l (i : Int) = l.getD i z33 := by unfold rd_T33; rw [Int.toNat_natCast]
    rw [spec_SizeOf.l0, if_pos (by omega), if_pos (by omega), hrd]
    refine bs (of_val _ (by omega)) ?_
    rw [w64 (x := S (l.take i) + sz (l.getD i z33)) (by omega) (by omega), ← h1, w64 (x := (i : Int) + 1) (by omega) (by omega)]
    exact ih (i + 1) (by omega) (by omega) k (by omega)
theorem size (l : List S33) (m : Int) (hl : l.length ≤ 1048576) (hS : S l ≤ 1000000000) : ∀ k, l.length < k → spec_SizeOf.f k m l = some (S l) := by
  intro k hk
  unfold spec_SizeOf.f
  have := size_l l m hl hS l.length 0 (by omega) (by omega) k hk
  exact this
/-- The reference: from the end. -/
theorem fit_l (l : List S33) (m : Int) (hl : l.length ≤ 1048576) (hS : S l ≤ 1000000000) (i : Nat) (hi : i ≤ l.length) (h1 : S (l.take i) ≤ m) (h2 : i < l.length → m < S (l.take (i + 1))) (d : Nat) :
    ∀ (n : Nat), i ≤ n → n ≤ l.length → n - i = d → ∀ k, l.length + d + 1 < k → spec_l4Fit.l0 k m (l.take n) = some (m, l.take i) := by
  induction d with
  | zero =>
    intro n hn hn2 hd k hk
    obtain rfl : n = i := by omega
    obtain ⟨k, rfl⟩ := ix (show 0 < k by omega)
    have hll : (l.take n).length = n := by rw [List.length_take]; omega
    have h3 := S_mono l n l.length hn2 (Nat.le_refl _)
    rw [List.take_length] at h3
    rw [spec_l4Fit.l0]
    refine bs (size (l.take n) m (by omega) (by omega) k (by omega)) ?_
    rw [if_neg (by omega)]
  | succ d ih =>
    intro n hn hn2 hd k hk
    obtain ⟨k, rfl⟩ := ix (show 0 < k by omega)
    have hll : (l.take n).length = n := by rw [List.length_take]; omega
    have h3 := S_mono l n l.length hn2 (Nat.le_refl _)
    rw [List.take_length] at h3
    have h4 := S_mono l (i + 1) n (by omega) hn2
    have h5 := h2 (by omega)
    rw [spec_l4Fit.l0]
    refine bs (size (l.take n) m (by omega) (by omega) k (by omega)) ?_
    have hw : wrap64 (((l.take n).length : Int) - 1) = ((n - 1 : Nat) : Int) := by rw [hll, w64 (by omega) (by omega)]; omega
    rw [if_pos (by omega), hw, if_pos (by omega), if_pos (by rw [hll]; omega), Int.toNat_natCast, List.take_take, show min (n - 1) n = n - 1 by omega]
    exact ih (n - 1) (by omega) (by omega) (by omega) k (by omega)
/-- The room, as impl_Resize.f counts it. -/
theorem nx_val (room : Int) (x : S33) (h : sz x ≤ 1000000000) (hr : -2000000000 ≤ room ∧ room ≤ 2000000000) : impl_Resize.nx room x = room - sz x := by
  have := sz_pos x
  unfold sz at h this
  unfold impl_Resize.nx sz
  rw [w64 (x := (x.f0.size : Int) + (x.f1.size : Int)) (by omega) (by omega), w64 (x := (x.f0.size : Int) + (x.f1.size : Int) + 32) (by omega) (by omega), w64 (by omega) (by omega)]
/-- The program: from the front. -/
theorem tr_l (l : List S33) (m : Int) (hm : 0 ≤ m ∧ m ≤ 1000000000) (hS : S l ≤ 1000000000) (d : Nat) : ∀ (i : Nat), i ≤ l.length → l.length - i = d → S (l.take i) ≤ m →
    (impl_Resize.tr d (m - S (l.take i)) l i = none ∧ S l ≤ m) ∨ ∃ j, impl_Resize.tr d (m - S (l.take i)) l i = some j ∧ j < l.length ∧ S (l.take j) ≤ m ∧ m < S (l.take (j + 1)) := by
  induction d with
  | zero =>
    intro i hi hd h
    rw [List.take_of_length_le (by omega)] at h
    exact .inl ⟨rfl, h⟩
  | succ d ih =>
    intro i hi hd h
    have h1 := S_take l i (by omega)
    have h2 := S_mono l (i + 1) l.length (by omega) (Nat.le_refl _)
    rw [List.take_length] at h2
    have h3 := S_nonneg (l.take i)
    have h4 := sz_pos (l.getD i z33)
    have hn := nx_val (m - S (l.take i)) (l.getD i z33) (by omega) (by omega)
    have e : m - S (l.take i) - sz (l.getD i z33) = m - S (l.take (i + 1)) := by omega
    rw [impl_Resize.tr, hn, e]
    by_cases c : m - S (l.take (i + 1)) < 0
    · rw [if_pos c]
      exact .inr ⟨i, rfl, by omega, h, by omega⟩
    · rw [if_neg c]
      exact ih (i + 1) (by omega) (by omega) (by omega)
theorem fit_cut (l : List S33) (m : Int) (hl : l.length ≤ 1048576) (hm : 0 ≤ m ∧ m ≤ 1000000000) (hS : S l ≤ 1000000000) : ∀ k, 2 * l.length + 1 < k → spec_l4Fit.f k m l = some (m, impl_Resize.cut m l) := by
  intro k hk
  have h0 := tr_l l m hm hS l.length 0 (by omega) (by omega) (by show (0 : Int) ≤ m; omega)
  have e0 : m - S (l.take 0) = m := by show m - 0 = m; omega
  rw [e0] at h0
  have et : l.take l.length = l := List.take_length
  unfold spec_l4Fit.f impl_Resize.cut
  rcases h0 with ⟨h, hle⟩ | ⟨j, h, hj, h1, h2⟩
  · rw [h]
    have := fit_l l m hl hS l.length (Nat.le_refl _) (by rw [et]; exact hle) (fun h => by omega) 0 l.length (Nat.le_refl _) (Nat.le_refl _) (by omega) k (by omega)
    rw [et] at this
    exact this
  · rw [h]
    have := fit_l l m hl hS j (by omega) h1 (fun _ => h2) (l.length - j) l.length (by omega) (Nat.le_refl _) rfl k (by omega)
    rw [et] at this
    exact this
end Go.Proofs.Ytlgfcpmihocheaa.LibRz
