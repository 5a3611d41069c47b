/- For every input: FnExactNumber answers true: the program's Number returns what the reference's returns. No condition. -/
import Derived.Test.YtlgfcpmihocheaaDoorLibNum
import Derived.Test.YtlgfcpmihocheaaDoorAx5
import Derived.Test.YtlgfcpmihocheaaDoorAx7
set_option linter.unusedVariables false
set_option linter.unusedSimpArgs false
namespace Go.Proofs.YtlgfcpmihocheaaDoor.Pure
open Go Go.RowKit Go.Proofs.YtlgfcpmihocheaaDoor.A Go.Proofs.YtlgfcpmihocheaaDoorW.PrintWords Go.Proofs.YtlgfcpmihocheaaDoorW.PrintLast Go.Proofs.YtlgfcpmihocheaaDoor.LibU Go.Proofs.YtlgfcpmihocheaaDoor.LibTx Go.Proofs.YtlgfcpmihocheaaDoor.LibNum
theorem spec_l0 (s : ByteArray) (hs : s.size ≤ 10) (d : Nat) : ∀ (i acc k : Nat), i + d = s.size → acc < 10 ^ i → d < k →
    spec_Number.l0 k s (acc : Int) (i : Int) = some (match scan acc (s.data.toList.drop i) with
      | none => (0, false)
      | some n => if n > 1000000000 then (0, false) else ((n : Int), true)) := by
  induction d with
  | zero =>
    intro i acc k hi ha hk
    obtain ⟨k, rfl⟩ := ix (show 0 < k by omega)
    simp only [spec_Number.l0]
    rw [if_neg (by omega), List.drop_of_length_le (by rw [data_length]; omega)]
    simp only [scan]
    by_cases c : acc > 1000000000
    · rw [if_pos (by omega), if_pos c]
    · rw [if_neg (by omega), if_neg c]
  | succ d ih =>
    intro i acc k hi ha hk
    obtain ⟨k, rfl⟩ := ix (show 0 < k by omega)
    have hlt : i < s.size := by omega
    have hl : i < s.data.toList.length := by rw [data_length]; exact hlt
    have hp : 10 ^ i ≤ 10 ^ 10 := Nat.pow_le_pow_right (by omega) (by omega)
    simp only [spec_Number.l0]
    rw [if_pos (by omega), if_pos (by omega), bt_nat s i hlt, List.drop_eq_getElem_cons hl, scan]
    generalize hx : s.data.toList[i] = x
    have hx255 : x.toNat < 256 := x.toNat_lt
    rw [w64 (x := (x.toNat : Int)) (by omega) (by omega)]
    refine bs (l1In _ 48 57) ?_
    by_cases c : dig x
    · have c' := c
      unfold dig at c'
      rw [if_pos (by simp; omega), if_pos c]
      have e1 : wrap64 (wrap64 ((acc : Int) * 10) + ((x.toNat : Int) - 48) % 256) = ((acc * 10 + (x.toNat - 48) : Nat) : Int) := by
        rw [w64 (x := (acc : Int) * 10) (by omega) (by omega), w64 (by omega) (by omega)]
        omega
      rw [e1, w64 (x := (i : Int) + 1) (by omega) (by omega)]
      have := ih (i + 1) (acc * 10 + (x.toNat - 48)) k (by omega) (by rw [Nat.pow_succ]; omega) (by omega)
      rw [show ((i : Int) + 1) = ((i + 1 : Nat) : Int) by omega]
      exact this
    · have c' := c
      unfold dig at c'
      rw [if_neg (by simp; omega), if_neg c]
theorem zero_head (L : List UInt8) (h : 0 < L.length) (h2 : 2 ≤ L.length) (hz : L[0].toNat = 48) (g : ∀ d ∈ L, dig d) : Lib.decDigits (dval 0 L) ≠ L := by
  cases L with
  | nil => simp at h
  | cons d l => exact digits_zero l d g hz (by intro e; rw [e] at h2; simp at h2)
theorem spec_number (s : ByteArray) (hs : s.size ≤ 1048576) : ∀ k, 12 < k → spec_Number.f k s = some (num s) := by
  intro k hk
  obtain ⟨k, rfl⟩ := ix (show 0 < k by omega)
  have hlen : s.data.toList.length = s.size := data_length s
  unfold spec_Number.f num
  refine bs (l1In _ 1 10) ?_
  by_cases h : 1 ≤ s.size ∧ s.size ≤ 10
  · rw [if_pos (by simp; omega), if_pos h]
    have hl0 : 0 < s.data.toList.length := by omega
    have hloop := spec_l0 s h.2 s.size 0 0 k (by omega) (by simp) (by omega)
    rw [List.drop_zero] at hloop
    have hloop' : spec_Number.j0 (k + 1) s 0 false = some (match scan 0 s.data.toList with
      | none => (0, false)
      | some n => if n > 1000000000 then (0, false) else ((n : Int), true)) := by
      rw [spec_Number.j0, if_neg (by decide)]
      exact hloop
    have hb0 : bt s 0 = (s.data.toList[0].toNat : Int) := bt_nat s 0 (by omega)
    have good : (s.data.toList.length = 1 ∨ ∀ d, s.data.toList.head? = some d → d.toNat ≠ 48) → (match scan 0 s.data.toList with
      | none => ((0 : Int), false)
      | some n => if n > 1000000000 then (0, false) else ((n : Int), true)) = (match scan 0 s.data.toList with
      | none => ((0 : Int), false)
      | some n => if n > 1000000000 then (0, false) else if Lib.decDigits n = s.data.toList then ((n : Int), true) else (0, false)) := by
      intro hz
      cases e : scan 0 s.data.toList with
      | none => rfl
      | some n =>
        obtain ⟨h1, h2⟩ := scan_some _ _ _ e
        simp only
        by_cases c : n > 1000000000
        · rw [if_pos c, if_pos c]
        · rw [if_neg c, if_neg c, if_pos (by rw [h2]; exact digits_back _ h1 (by intro e; rw [e] at hl0; simp at hl0) hz)]
    by_cases h1 : (s.size : Int) > 1
    · rw [if_pos h1, if_pos (by omega), hb0]
      by_cases hz : s.data.toList[0].toNat = 48
      · rw [hz]
        rw [show (((48 : Nat) : Int) == 48) = true by decide, spec_Number.j0, if_pos rfl]
        congr 1
        cases e : scan 0 s.data.toList with
        | none => rfl
        | some n =>
          obtain ⟨g1, g2⟩ := scan_some _ _ _ e
          simp only
          by_cases c : n > 1000000000
          · rw [if_pos c]
          · rw [if_neg c, if_neg]
            rw [g2]
            exact zero_head _ hl0 (by omega) hz g1
      · have hne : ((s.data.toList[0].toNat : Int) == 48) = false := by
          rw [beq_eq_false_iff_ne]; omega
        rw [hne, hloop']
        congr 1
        apply good
        right
        intro d hd
        rw [List.head?_eq_getElem?, List.getElem?_eq_getElem hl0] at hd
        have := Option.some.inj hd
        rw [← this]; exact hz
    · rw [if_neg h1, hloop']
      congr 1
      apply good
      left
      omega
  · rw [if_neg (by simp; omega), if_neg h, spec_Number.j0, if_pos rfl]
theorem FnExactNumber : laws_FnExactNumber.Pure := by
  intro s hs
  by_cases h : (s.size : Int) > 1048576
  · exact ⟨0, by unfold laws_FnExactNumber.f; rw [if_pos h]⟩
  refine ⟨13, ?_⟩
  unfold laws_FnExactNumber.f
  rw [if_neg h]
  refine bs (spec_number s (by omega) 13 (by omega)) (bs (impl_number s (by omega) 13 (by omega)) ?_)
  rw [if_pos rfl, if_neg (by simp)]
end Go.Proofs.YtlgfcpmihocheaaDoor.Pure
