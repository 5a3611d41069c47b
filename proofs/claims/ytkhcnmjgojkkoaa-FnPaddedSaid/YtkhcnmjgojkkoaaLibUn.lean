/- Unpad, the program's: what it comes to. Condition: each theorem's own bounds. -/
import Derived.Test.YtkhcnmjgojkkoaaLibU
import Derived.Test.YtkhcnmjgojkkoaaAx5
import Derived.Test.YtkhcnmjgojkkoaaAx41
import Derived.Test.YtkhcnmjgojkkoaaAx42
set_option linter.unusedVariables false
set_option linter.unusedSimpArgs false
namespace Go.Proofs.Ytkhcnmjgojkkoaa.LibUn
open Go.RowKit Go.Proofs.Ytkhcnmjgojkkoaa.A Go.Proofs.YtkhcnmjgojkkoaaW.PrintWords Go.Proofs.YtkhcnmjgojkkoaaW.PrintLast Go.Proofs.Ytkhcnmjgojkkoaa.LibU
/-- What stands ahead: five bytes, of a frame of headers with the flag. -/
def stAhead (a b : Int) : Int := if a = 1 ∧ Go.bits .and .i64 b 32 ≠ 0 then 5 else 0
def unpadB (a b : Int) (body : List Int) (more : Int) : List Int × Bool := if stAhead a b + more > (body.length : Int) then ([], false) else ((body.take ((body.length : Int) - more).toNat).drop (stAhead a b).toNat, true)
def unpad (a b : Int) (l : List Int) : List Int × Bool :=
  if Go.bits .and .i64 b 8 = 0 then unpadB a b l 0 else if l.length = 0 then ([], false) else unpadB a b (l.drop 1) (rd l 0)
theorem cloneU {l : List Int} (hl : l.length ≤ 140737488351232) : slices_Clone_byte_byte.f l = some l := by
  unfold slices_Clone_byte_byte.f
  simp only [Option.bind_some, List.nil_append, List.length_nil, Nat.zero_add]
  rw [if_pos (by omega)]
theorem stAhead_range (a b : Int) : stAhead a b = 0 ∨ stAhead a b = 5 := by unfold stAhead; split <;> omega
theorem j2_eq (k : Nat) (body : List Int) (more h : Int) (hl : body.length ≤ 1048576) (hm : 0 ≤ more ∧ more ≤ 255) (hh : h = 0 ∨ h = 5) :
    impl_Unpad.j2 (k + 1) body more h = some (if h + more > (body.length : Int) then ([], false) else ((body.take ((body.length : Int) - more).toNat).drop h.toNat, true)) := by
  simp only [impl_Unpad.j2]
  rw [w64 (x := h + more) (by omega) (by omega), w64 (x := (body.length : Int) - more) (by omega) (by omega)]
  by_cases c : h + more > (body.length : Int)
  · rw [if_pos c, if_pos c]
  · rw [if_neg c, if_neg c, if_pos (by omega), if_pos (by omega), if_pos (by omega)]
    exact bs (cloneU (by simp; omega)) rfl
theorem j0_eq (k : Nat) (body : List Int) (more a b c : Int) (l : List Int) (hl : body.length ≤ 1048576) (hm : 0 ≤ more ∧ more ≤ 255) : impl_Unpad.j0 (k + 1 + 1 + 1) body more a b c l = some (unpadB a b body more) := by
  simp only [impl_Unpad.j0, impl_Unpad.j1, impl_Frame_has.f, Option.bind_some]
  unfold unpadB
  by_cases h1 : a = 1
  · rw [if_pos h1]
    by_cases h2 : Go.bits .and .i64 b 32 = 0
    · have e : stAhead a b = 0 := by unfold stAhead; rw [if_neg (fun h => h.2 h2)]
      rw [if_neg (by simpa using h2), e]
      exact j2_eq k body more 0 hl hm (.inl rfl)
    · have e : stAhead a b = 5 := by unfold stAhead; rw [if_pos ⟨h1, h2⟩]
      rw [if_pos (by simpa using h2), e]
      exact j2_eq k body more 5 hl hm (.inr rfl)
  · have e : stAhead a b = 0 := by unfold stAhead; rw [if_neg (fun h => h1 h.1)]
    rw [if_neg h1, if_neg (by decide), e]
    exact j2_eq k body more 0 hl hm (.inl rfl)
theorem impl_unpad {a b c : Int} {l : List Int} (hl : l.length ≤ 1048576) (hb : ∀ x ∈ l, 0 ≤ x ∧ x ≤ 255) : ∀ k, 3 ≤ k → impl_Unpad.f k a b c l = some (unpad a b l) := by
  intro k hk
  obtain ⟨k, rfl⟩ : ∃ m, k = m + 1 + 1 + 1 := ⟨k - 3, by omega⟩
  unfold impl_Unpad.f unpad
  simp only [impl_Frame_has.f, Option.bind_some]
  by_cases h : Go.bits .and .i64 b 8 = 0
  · rw [if_neg (by simpa using h), if_pos h]
    exact j0_eq k l 0 a b c l hl (by omega)
  · rw [if_pos (by simpa using h), if_neg h]
    by_cases h0 : l.length = 0
    · rw [if_pos (by omega), if_pos h0]
    · have hr : 0 ≤ rd l 0 ∧ rd l 0 ≤ 255 := by
        have e : rd l 0 = l.getD 0 0 := rd_nat l 0
        rw [e, List.getD_eq_getElem?_getD, List.getElem?_eq_getElem (show 0 < l.length by omega)]
        exact hb _ (List.getElem_mem _)
      rw [if_neg (by omega), if_neg h0, if_pos (by omega), if_pos (by omega), w64 (x := rd l 0) (by omega) (by omega)]
      exact j0_eq k (l.drop 1) (rd l 0) a b c l (by simp; omega) hr
theorem unpad_length (a b : Int) (l : List Int) : (unpad a b l).1.length ≤ l.length := by
  unfold unpad unpadB
  repeat' split
  all_goals simp
  all_goals omega
end Go.Proofs.Ytkhcnmjgojkkoaa.LibUn
