/- Tables: both tests of a table; what the law writes into a table's fields, and that it is held. Condition: each theorem's own bounds. -/
import Derived.Test.YtlgfcpmihocheaaLibRz
import Derived.Test.YtlgfcpmihocheaaLibT1
import Derived.Test.YtlgfcpmihocheaaAx8
import Derived.Test.YtlgfcpmihocheaaAx9
import Derived.Test.YtlgfcpmihocheaaAx10
import Derived.Test.YtlgfcpmihocheaaAx11
import Derived.Test.YtlgfcpmihocheaaAx12
import Derived.Test.YtlgfcpmihocheaaAx13
import Derived.Test.YtlgfcpmihocheaaAx14
import Derived.Test.YtlgfcpmihocheaaAx18
import Derived.Test.YtlgfcpmihocheaaAx19
import Derived.Test.YtlgfcpmihocheaaAx20
set_option linter.unusedVariables false
set_option linter.unusedSimpArgs false
namespace Go.Proofs.Ytlgfcpmihocheaa.LibMt
open Go Go.RowKit Go.Proofs.Ytlgfcpmihocheaa.A Go.Proofs.YtlgfcpmihocheaaW.PrintWords Go.Proofs.YtlgfcpmihocheaaW.PrintLast Go.Proofs.YtlgfcpmihocheaaW.PrintMore Go.Proofs.Ytlgfcpmihocheaa.LibU Go.Proofs.Ytlgfcpmihocheaa.LibT1 Go.Proofs.Ytlgfcpmihocheaa.LibRz
theorem szl (l : List S33) (m : Int) (hl : l.length ≤ 1048580) (d : Nat) : ∀ (i : Nat) (x : Int), i ≤ l.length → l.length - i = d →
    ∃ r, (∀ k, d < k → spec_SizeOf.l0 k x (i : Int) m l = some r) ∧ (∀ k, d < k → impl_SizeOf.l0 k x l (l.length : Int) (i : Int) = some r) := by
  induction d with
  | zero =>
    intro i x hi hd
    refine ⟨x, fun k hk => ?_, fun k hk => ?_⟩
    · obtain ⟨k, rfl⟩ := ix (show 0 < k by omega)
      simp only [spec_SizeOf.l0]
      rw [if_neg (by omega)]
    · obtain ⟨k, rfl⟩ := ix (show 0 < k by omega)
      simp only [impl_SizeOf.l0]
      rw [if_neg (by omega)]
  | succ d ih =>
    intro i x hi hd
    obtain ⟨r, h1, h2⟩ := ih (i + 1) (wrap64 (x + wrap64 (wrap64 (((rd_T33 l i).f0.size : Int) + ((rd_T33 l i).f1.size : Int)) + 32))) (by omega) (by omega)
    have e4 : wrap64 ((i : Int) + 1) = ((i + 1 : Nat) : Int) := by rw [w64 (by omega) (by omega)]; rfl
    refine ⟨r, fun k hk => ?_, fun k hk => ?_⟩
    · obtain ⟨k, rfl⟩ := ix (show 0 < k by omega)
      simp only [spec_SizeOf.l0, spec_l4Of.f, Option.bind_some, e4]
      rw [if_pos (by omega), if_pos (by omega)]
      exact h1 k (by omega)
    · obtain ⟨k, rfl⟩ := ix (show 0 < k by omega)
      simp only [impl_SizeOf.l0, impl_sizeOf.f, Option.bind_some, e4]
      rw [if_pos (by omega), if_pos (by omega), if_pos (by omega)]
      exact h2 k (by omega)
theorem size_both (m : Int) (l : List S33) (hl : l.length ≤ 1048580) : ∃ r, (∀ k, l.length < k → spec_SizeOf.f k m l = some r) ∧ (∀ k, l.length < k → impl_SizeOf.f k m l = some r) := szl l m hl l.length 0 0 (by omega) (by omega)
theorem tableOk_both (m : Int) (l : List S33) (hl : l.length ≤ 1048580) : ∃ r, (∀ k, l.length < k → spec_TableOk.f k m l = some r) ∧ (∀ k, l.length < k → impl_TableOk.f k m l = some r) := by
  obtain ⟨q, h1, h2⟩ := size_both m l hl
  by_cases h : 0 ≤ m ∧ m ≤ 4096
  · refine ⟨decide (q ≤ m), fun k hk => ?_, fun k hk => ?_⟩
    · unfold spec_TableOk.f
      refine bs (l1In _ _ _) ?_
      rw [if_pos (by simpa using h)]
      exact bs (h1 k hk) rfl
    · unfold impl_TableOk.f
      refine bs (inRange _ _ _) ?_
      rw [if_pos (by simpa using h)]
      exact bs (h2 k hk) rfl
  · refine ⟨false, fun k hk => ?_, fun k hk => ?_⟩
    · unfold spec_TableOk.f
      refine bs (l1In _ _ _) ?_
      rw [if_neg (by simpa using h)]
    · unfold impl_TableOk.f
      refine bs (inRange _ _ _) ?_
      rw [if_neg (by simpa using h)]
theorem one (c : Int) : (strOfNums [c]).size = 1 := by
  show (strOfNums [c]).data.size = 1
  rw [← Array.length_toList, strOfNums_data]
  simp
theorem mt_l (n : Nat) : ∀ (x3 : ByteArray), x3.size + n ≤ 1000000000000 → ∃ t, ∀ k, n < k → laws_markText.l0 k (n : Int) x3 = some t := by
  induction n using Nat.strongRecOn with
  | ind n ih =>
    intro x3 hs
    by_cases h : n = 0
    · subst h
      refine ⟨(⟨#[109]⟩ : ByteArray) ++ x3, fun k hk => ?_⟩
      obtain ⟨k, rfl⟩ := ix (show 0 < k by omega)
      rw [laws_markText.l0, if_neg (by omega), if_pos (by omega)]
    · obtain ⟨t, ht⟩ := ih (n / 10) (by omega) ((strOfNums [(wrap64 (48 + (Int.tmod (n : Int) 10))) % 256]) ++ x3) (by rw [ByteArray.size_append, one]; omega)
      have e0 : Int.tdiv (n : Int) 10 = ((n / 10 : Nat) : Int) := rfl
      have e : wrap64 (Int.tdiv (n : Int) 10) = ((n / 10 : Nat) : Int) := by rw [e0, w64 (by omega) (by omega)]
      refine ⟨t, fun k hk => ?_⟩
      obtain ⟨k, rfl⟩ := ix (show 0 < k by omega)
      rw [laws_markText.l0, if_pos (by omega)]
      refine bs rfl ?_
      rw [if_pos (by rw [one]; omega), e]
      exact ht k (by omega)
theorem mt (c : Nat) : ∃ t, 1 ≤ c → c ≤ 10000000 → ∀ k, 10000002 < k → laws_markText.f k (c : Int) = some t := by
  by_cases h : 1 ≤ c ∧ c ≤ 10000000
  · obtain ⟨t, ht⟩ := mt_l c (⟨#[]⟩ : ByteArray) (by show 0 + c ≤ _; omega)
    refine ⟨t, fun _ _ k hk => ?_⟩
    unfold laws_markText.f
    rw [if_neg (by omega)]
    exact ht k (by omega)
  · exact ⟨ByteArray.empty, fun h1 h2 => absurd ⟨h1, h2⟩ h⟩
noncomputable def T (c : Nat) : ByteArray := Classical.choose (mt c)
theorem T_at (c : Nat) (h1 : 1 ≤ c) (h2 : c ≤ 10000000) : ∀ k, 10000002 < k → laws_markText.f k (c : Int) = some (T c) := Classical.choose_spec (mt c) h1 h2
noncomputable def E (j : Nat) : S33 := ⟨T (2 * j + 1), T (2 * j + 2)⟩
theorem mark_l (n : Nat) (hn : n ≤ 1048580) (d : Nat) : ∀ (i : Nat) (x : List S33), x.length = n → i ≤ n → n - i = d → (∀ j, j < i → x.getD j z33 = E j) →
    ∃ y : List S33, y.length = n ∧ (∀ j, j < n → y.getD j z33 = E j) ∧ ∀ k, 10000003 + d < k → laws_markFieldS.l0 k x ((2 * i + 1 : Nat) : Int) (i : Int) = some (((2 * n + 1 : Nat) : Int), y) := by
  induction d with
  | zero =>
    intro i x hx hi hd hj
    obtain rfl : i = n := by omega
    refine ⟨x, hx, hj, fun k hk => ?_⟩
    obtain ⟨k, rfl⟩ := ix (show 0 < k by omega)
    rw [laws_markFieldS.l0, if_neg (by omega)]
  | succ d ih =>
    intro i x hx hi hd hj
    obtain ⟨a, ha⟩ : ∃ a : S33, a = ⟨T (2 * i + 1), (rd_T33 x (i : Int)).f1⟩ := ⟨_, rfl⟩
    have h1 : (rd_T33 (x.set i a) (i : Int)).f0 = T (2 * i + 1) := by
      unfold rd_T33
      rw [Int.toNat_natCast, List.getD_eq_getElem?_getD, List.getElem?_set_self (by omega), Option.getD_some, ha]
    obtain ⟨y, hy, hyj, h⟩ := ih (i + 1) ((x.set i a).set i (E i)) (by simp [hx]) (by omega) (by omega) (by
      intro j hj2
      by_cases c : j = i
      · subst c
        rw [List.getD_eq_getElem?_getD, List.getElem?_set_self (by simp; omega), Option.getD_some]
      · have := hj j (by omega)
        rw [List.getD_eq_getElem?_getD] at this ⊢
        rw [List.getElem?_set_ne (by omega), List.getElem?_set_ne (by omega)]
        exact this)
    refine ⟨y, hy, hyj, fun k hk => ?_⟩
    obtain ⟨k, rfl⟩ := ix (show 0 < k by omega)
    have w1 : wrap64 (((2 * i + 1 : Nat) : Int) + 1) = ((2 * i + 2 : Nat) : Int) := by rw [w64 (by omega) (by omega)]; omega
    have w2 : wrap64 (((2 * i + 2 : Nat) : Int) + 1) = ((2 * (i + 1) + 1 : Nat) : Int) := by rw [w64 (by omega) (by omega)]; omega
    have w3 : wrap64 ((i : Int) + 1) = ((i + 1 : Nat) : Int) := by rw [w64 (by omega) (by omega)]; omega
    rw [laws_markFieldS.l0, if_pos (by omega)]
    refine bs (T_at (2 * i + 1) (by omega) (by omega) k (by omega)) ?_
    rw [if_pos (by omega), Int.toNat_natCast, ← ha]
    refine bs rfl ?_
    rw [w1]
    refine bs (T_at (2 * i + 2) (by omega) (by omega) k (by omega)) ?_
    rw [h1, w2, w3]
    exact h k (by omega)
theorem held_l (y : List S33) (hn : y.length ≤ 1048580) (hy : ∀ j, j < y.length → y.getD j z33 = E j) (d : Nat) : ∀ (i : Nat), i ≤ y.length → y.length - i = d →
    ∀ k, 10000003 + d < k → laws_heldFieldS.l0 k y ((2 * i + 1 : Nat) : Int) (i : Int) = some ((2 * y.length + 1 : Nat) : Int) := by
  induction d with
  | zero =>
    intro i hi hd k hk
    obtain ⟨k, rfl⟩ := ix (show 0 < k by omega)
    rw [laws_heldFieldS.l0, if_neg (by omega), show i = y.length by omega]
  | succ d ih =>
    intro i hi hd k hk
    obtain ⟨k, rfl⟩ := ix (show 0 < k by omega)
    have w1 : wrap64 (((2 * i + 1 : Nat) : Int) + 1) = ((2 * i + 2 : Nat) : Int) := by rw [w64 (by omega) (by omega)]; omega
    have w2 : wrap64 (((2 * i + 2 : Nat) : Int) + 1) = ((2 * (i + 1) + 1 : Nat) : Int) := by rw [w64 (by omega) (by omega)]; omega
    have w3 : wrap64 ((i : Int) + 1) = ((i + 1 : Nat) : Int) := by rw [w64 (by omega) (by omega)]; omega
    have hrd : rd_T33 y (i : Int) = E i := by unfold rd_T33; rw [Int.toNat_natCast]; exact hy i (by omega)
    rw [laws_heldFieldS.l0, if_pos (by omega), if_pos (by omega)]
    refine bs (T_at (2 * i + 1) (by omega) (by omega) k (by omega)) ?_
    have q1 : (E i).f0 = T (2 * i + 1) := rfl
    have q2 : (E i).f1 = T (2 * i + 2) := rfl
    rw [hrd, q1, if_pos rfl, w1]
    refine bs (T_at (2 * i + 2) (by omega) (by omega) k (by omega)) ?_
    rw [q2, if_pos rfl, w2, w3]
    exact ih (i + 1) (by omega) (by omega) k (by omega)
theorem markHeld (m : Int) (x : List S33) (hn : x.length ≤ 1048580) : ∃ y : List S33, (∀ k, 12000000 < k → laws_markTable.f k m x 1 = some (((2 * x.length + 1 : Nat) : Int), y)) ∧ (∀ k, 12000000 < k → ∀ m', laws_heldTable.f k m' y 1 = some ((2 * x.length + 1 : Nat) : Int)) := by
  obtain ⟨y, h1, h2, h3⟩ := mark_l x.length hn x.length 0 x rfl (by omega) (by omega) (fun j hj => by omega)
  refine ⟨y, fun k hk => ?_, fun k hk m' => ?_⟩
  · unfold laws_markTable.f laws_markFieldS.f
    refine bs (h3 k (by omega)) rfl
  · unfold laws_heldTable.f laws_heldFieldS.f
    refine bs (held_l y (by omega) (fun j hj => h2 j (by omega)) y.length 0 (by omega) (by omega) k (by omega)) ?_
    rw [if_neg (by omega), h1]
theorem S_conv : ∀ l : List S69, S (l.map conv) = bulk l + 32 * l.length
  | [] => by simp [S, bulk]
  | x :: l => by
    have := S_conv l
    unfold bulk at this ⊢
    simp only [List.map_cons, List.sum_cons, S, sz, conv, List.length_cons]
    omega
end Go.Proofs.Ytlgfcpmihocheaa.LibMt
