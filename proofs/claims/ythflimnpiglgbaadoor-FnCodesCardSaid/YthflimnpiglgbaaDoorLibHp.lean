/- The codes as numbers: their sizes, their bounds, and that none is the beginning of another one. Condition: each theorem's own bounds. -/
import Derived.Test.YthflimnpiglgbaaDoorLibMap
set_option linter.unusedVariables false
set_option linter.unusedSimpArgs false
namespace Go.Proofs.YthflimnpiglgbaaDoor.LibHp
open Go Go.RowKit Go.Proofs.YthflimnpiglgbaaDoorW.PrintWords Go.Proofs.YthflimnpiglgbaaDoor.LibLens Go.Proofs.YthflimnpiglgbaaDoor.LibHuff Go.Proofs.YthflimnpiglgbaaDoor.LibMap
def codesN : List (Nat × Nat) := codes.map fun p => (p.1.toNat, p.2.toNat)
def okp (p q : Nat × Nat) : Bool := if q.2 < p.2 then p.1 / 2 ^ (p.2 - q.2) != q.1 else q.1 / 2 ^ (q.2 - p.2) != p.1
def pw : List (Nat × Nat) → Bool
  | [] => true
  | p :: l => l.all (okp p) && pw l
set_option maxRecDepth 100000 in
theorem pw_codes : pw codesN = true := by decide +kernel
def bnd (p : Nat × Nat) : Bool := decide (5 ≤ p.2) && decide (p.2 ≤ 30) && decide (p.1 < 2 ^ p.2)
set_option maxRecDepth 100000 in
theorem bnd_codes : codesN.all bnd = true := by decide +kernel
set_option maxRecDepth 100000 in
theorem codesN_len : codesN.length = 257 := by decide +kernel
set_option maxRecDepth 100000 in
theorem codes_nn : codes = codesN.map fun p => ((p.1 : Int), (p.2 : Int)) := by decide +kernel
/-- The code of a byte: its bits as a number, how many. -/
def cb (i : Nat) : Nat := (codesN.getD i (0, 0)).1
def cs (i : Nat) : Nat := (codesN.getD i (0, 0)).2
theorem cN_at {i : Nat} (h : i < 257) : codesN.getD i (0, 0) = codesN[i]'(by rw [codesN_len]; exact h) := by
  simp [List.getD_eq_getElem?_getD, List.getElem?_eq_getElem (show i < codesN.length by rw [codesN_len]; exact h)]
theorem code_at (i : Nat) : codes.getD i (0, 0) = ((cb i : Int), (cs i : Int)) := by
  unfold cb cs
  rw [codes_nn]
  by_cases h : i < codesN.length
  · simp [List.getD_eq_getElem?_getD, List.getElem?_eq_getElem h]
  · simp [List.getD_eq_getElem?_getD, List.getElem?_eq_none (show codesN.length ≤ i by omega)]
theorem bnds {i : Nat} (h : i < 257) : 5 ≤ cs i ∧ cs i ≤ 30 ∧ cb i < 2 ^ cs i := by
  have hl := codesN_len
  have := List.all_eq_true.1 bnd_codes (codesN[i]'(by omega)) (List.getElem_mem _)
  unfold bnd at this
  simp only [Bool.and_eq_true, decide_eq_true_eq] at this
  unfold cb cs
  rw [cN_at h]
  exact ⟨this.1.1, this.1.2, this.2⟩
theorem okp_comm (p q : Nat × Nat) : okp p q = okp q p := by
  unfold okp
  by_cases h : q.2 < p.2
  · rw [if_pos h, if_neg (by omega)]
  · by_cases h2 : p.2 < q.2
    · rw [if_neg h, if_pos h2]
    · have e : p.2 = q.2 := by omega
      rw [if_neg h, if_neg h2, e, Nat.sub_self]
      simp only [Nat.pow_zero, Nat.div_one]
      by_cases h3 : p.1 = q.1
      · simp [h3]
      · have h4 : ¬ q.1 = p.1 := fun e => h3 e.symm
        rw [bne_iff_ne.2 h3, bne_iff_ne.2 h4]
theorem pw_at : ∀ (l : List (Nat × Nat)), pw l = true → ∀ (i j : Nat) (hi : i < l.length) (hj : j < l.length), i < j → okp l[i] l[j] = true
  | [], _, i, _, hi, _, _ => by simp at hi
  | p :: l, h, i, j, hi, hj, hij => by
    simp only [pw, Bool.and_eq_true, List.all_eq_true] at h
    cases j with
    | zero => omega
    | succ j =>
      cases i with
      | zero => simp only [List.getElem_cons_zero, List.getElem_cons_succ]; exact h.1 _ (List.getElem_mem _)
      | succ i => simp only [List.getElem_cons_succ]; exact pw_at l h.2 i j (by simp at hi; omega) (by simp at hj; omega) (by omega)
theorem pf {i j : Nat} (hi : i < 257) (hj : j < 257) (hij : i ≠ j) : okp (cb i, cs i) (cb j, cs j) = true := by
  have hl := codesN_len
  have ei : (cb i, cs i) = codesN[i]'(by omega) := by unfold cb cs; rw [cN_at hi]
  have ej : (cb j, cs j) = codesN[j]'(by omega) := by unfold cb cs; rw [cN_at hj]
  rw [ei, ej]
  by_cases h : i < j
  · exact pw_at _ pw_codes i j _ _ h
  · rw [okp_comm]; exact pw_at _ pw_codes j i _ _ (by omega)
/-- A code's beginning is no other one's code. -/
theorem pre_ne {i j : Nat} (hi : i < 257) (hj : j < 257) (hs : cs j < cs i) : cb i / 2 ^ (cs i - cs j) ≠ cb j := by
  have h := pf hi hj (fun e => by subst e; omega)
  unfold okp at h
  simp only at h
  rw [if_pos hs] at h
  exact bne_iff_ne.1 h
theorem same_ne {i j : Nat} (hi : i < 257) (hj : j < 257) (hij : i ≠ j) (hs : cs j = cs i) : cb i ≠ cb j := by
  have h := pf hi hj hij
  unfold okp at h
  simp only at h
  rw [if_neg (by omega), hs, Nat.sub_self, Nat.pow_zero, Nat.div_one] at h
  exact fun e => bne_iff_ne.1 h e.symm
theorem eos : cb 256 = 2 ^ 30 - 1 ∧ cs 256 = 30 := by unfold cb cs; decide +kernel
/-! Look-ups -/
theorem look_none {q : Int × Int} (h : ∀ i, i < 257 → ((cb i : Int), (cs i : Int)) ≠ q) : lookC q = none := by
  unfold lookC
  have : ∀ k, k ≤ 257 → lookN q k = none := by
    intro k
    induction k with
    | zero => intro _; rfl
    | succ k ih => intro hk; unfold lookN; rw [code_at, if_neg (h k (by omega)), ih (by omega)]
  exact this 257 (Nat.le_refl _)
theorem lookN_some {q : Int × Int} : ∀ k j, lookN q k = some j → j < k ∧ ((cb j : Int), (cs j : Int)) = q := by
  intro k
  induction k with
  | zero => intro j h; cases h
  | succ k ih =>
    intro j h
    unfold lookN at h
    rw [code_at] at h
    by_cases e : ((cb k : Int), (cs k : Int)) = q
    · rw [if_pos e] at h; cases h; exact ⟨by omega, e⟩
    · rw [if_neg e] at h; have := ih j h; exact ⟨by omega, this.2⟩
theorem look_some {q : Int × Int} {j : Nat} (h : lookC q = some j) : j < 257 ∧ q = ((cb j : Int), (cs j : Int)) := by
  have := lookN_some 257 j h
  exact ⟨this.1, this.2.symm⟩
theorem look_code {j : Nat} (hj : j < 257) : lookC ((cb j : Int), (cs j : Int)) = some j := by
  cases h : lookC ((cb j : Int), (cs j : Int)) with
  | none =>
    exfalso
    have : ∀ k, j < k → lookN ((cb j : Int), (cs j : Int)) k ≠ none := by
      intro k
      induction k with
      | zero => intro h; omega
      | succ k ih =>
        intro hk
        unfold lookN
        rw [code_at]
        by_cases e : ((cb k : Int), (cs k : Int)) = ((cb j : Int), (cs j : Int))
        · rw [if_pos e]; exact fun h => by cases h
        · rw [if_neg e]; exact ih (by by_cases hkj : k = j
                                      · subst hkj; exact absurd rfl e
                                      · omega)
    exact this 257 hj h
  | some i =>
    obtain ⟨hi, e⟩ := look_some h
    simp only [Prod.mk.injEq] at e
    by_cases hij : j = i
    · rw [hij]
    · exact absurd (by omega : cb j = cb i) (same_ne hj hi hij (by omega))
theorem look_pre {j p : Nat} (hj : j < 257) (hp : p < cs j) : lookC (((cb j / 2 ^ (cs j - p) : Nat) : Int), (p : Int)) = none := by
  refine look_none fun i hi e => ?_
  simp only [Prod.mk.injEq] at e
  have e1 : cb i = cb j / 2 ^ (cs j - p) := by omega
  have e2 : cs i = p := by omega
  exact pre_ne hj hi (by omega) (by rw [e2]; exact e1.symm)
theorem look_ones {p : Nat} (hp : p < 30) : lookC (((2 ^ p - 1 : Nat) : Int), (p : Int)) = none := by
  have h := look_pre (j := 256) (p := p) (by omega) (by rw [eos.2]; exact hp)
  rw [eos.1, eos.2] at h
  have e : (2 ^ 30 - 1) / 2 ^ (30 - p) = 2 ^ p - 1 := by
    have h1 : (2 : Nat) ^ 30 = 2 ^ p * 2 ^ (30 - p) := by rw [← Nat.pow_add]; congr 1; omega
    have hpos : 0 < 2 ^ (30 - p) := Nat.pow_pos (by omega)
    have hpp : 0 < 2 ^ p := Nat.pow_pos (by omega)
    rw [h1]
    have h2 : 2 ^ p * 2 ^ (30 - p) - 1 = (2 ^ (30 - p) - 1) + (2 ^ p - 1) * 2 ^ (30 - p) := by
      rw [Nat.sub_mul, Nat.one_mul]
      have : 2 ^ (30 - p) ≤ 2 ^ p * 2 ^ (30 - p) := Nat.le_mul_of_pos_left _ hpp
      omega
    rw [h2, Nat.add_mul_div_right _ _ hpos, Nat.div_eq_of_lt (by omega), Nat.zero_add]
  rw [e] at h
  exact h
theorem lens_at {i : Int} (h0 : 0 ≤ i) (h : i < 257) : rd lensI i = (cs i.toNat : Int) ∧ rd bitsI i = (cb i.toNat : Int) := by
  rw [lensI_at i (by omega), bitsI_at i (by omega), code_at]
  exact ⟨rfl, rfl⟩
end Go.Proofs.YthflimnpiglgbaaDoor.LibHp
