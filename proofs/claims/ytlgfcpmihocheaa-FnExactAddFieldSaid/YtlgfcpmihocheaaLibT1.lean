/- Tables: the law's own words on fields and tables; how great a table is. Condition: each theorem's own bounds. -/
import Derived.Test.YtlgfcpmihocheaaLibUs
import Derived.Test.YtlgfcpmihocheaaAx1
import Derived.Test.YtlgfcpmihocheaaAx2
import Derived.Test.YtlgfcpmihocheaaAx3
import Derived.Test.YtlgfcpmihocheaaAx4
import Derived.Test.YtlgfcpmihocheaaAx5
import Derived.Test.YtlgfcpmihocheaaAx6
import Derived.Test.YtlgfcpmihocheaaAx7
set_option linter.unusedVariables false
set_option linter.unusedSimpArgs false
namespace Go.Proofs.Ytlgfcpmihocheaa.LibT1
open Go.RowKit Go.Proofs.Ytlgfcpmihocheaa.A Go.Proofs.YtlgfcpmihocheaaW.PrintWords Go.Proofs.YtlgfcpmihocheaaW.PrintLast Go.Proofs.Ytlgfcpmihocheaa.LibU
def conv (x : S69) : S33 := ⟨x.f0, x.f1⟩
/-- How many letters and fields. -/
def bulk (l : List S69) : Int := (l.map fun x => (x.f0.size : Int) + x.f1.size).sum
theorem bulk_nonneg (l : List S69) : 0 ≤ bulk l := by
  unfold bulk
  induction l with
  | nil => simp
  | cons x l ih => simp only [List.map_cons, List.sum_cons]; omega
theorem szFieldS_l (l : List S69) (hl : l.length ≤ 1048576) (hw : ∀ x ∈ l, x.f0.size ≤ 9223372036854775807 ∧ x.f1.size ≤ 9223372036854775807) (d : Nat) : ∀ (i : Nat) (left : Int), 0 ≤ left → left ≤ 1048576 → i ≤ l.length → l.length - i = d →
    ∃ r, (∀ k, d < k → laws_szFieldS.l0 k l left (i : Int) = some r) ∧ ((r = -1 ∧ left < bulk (l.drop i)) ∨ (r = left - bulk (l.drop i) ∧ bulk (l.drop i) ≤ left)) := by
  induction d with
  | zero =>
    intro i left h0 h1 hi hd
    refine ⟨left, fun k hk => ?_, ?_⟩
    · obtain ⟨k, rfl⟩ := ix (show 0 < k by omega)
      simp only [laws_szFieldS.l0]
      rw [if_neg (by omega)]
    · rw [List.drop_of_length_le (by omega)]
      exact .inr ⟨by simp [bulk], by simp [bulk]; omega⟩
  | succ d ih =>
    intro i left h0 h1 hi hd
    have hlt : i < l.length := by omega
    have hx := hw _ (List.getElem_mem hlt)
    have hr : rd_T69 l (i : Int) = l[i] := by simp [rd_T69, List.getD_eq_getElem?_getD, List.getElem?_eq_getElem hlt]
    have hb : bulk (l.drop i) = ((l[i].f0.size : Int) + l[i].f1.size) + bulk (l.drop (i + 1)) := by
      unfold bulk
      rw [List.drop_eq_getElem_cons hlt, List.map_cons, List.sum_cons]
    have hb0 := bulk_nonneg (l.drop (i + 1))
    have hf : laws_szField.f l[i].f0 l[i].f1 left = some (if (l[i].f0.size : Int) + l[i].f1.size ≤ left then left - ((l[i].f0.size : Int) + l[i].f1.size) else -1) := by
      unfold laws_szField.f
      rw [w64 (x := left - (l[i].f0.size : Int)) (by omega) (by omega)]
      by_cases c1 : left - (l[i].f0.size : Int) < 0
      · rw [if_pos c1, if_neg (by omega)]
      · rw [if_neg c1, w64 (by omega) (by omega)]
        by_cases c2 : left - (l[i].f0.size : Int) - l[i].f1.size < 0
        · rw [if_pos c2, if_neg (by omega)]
        · rw [if_neg c2, if_pos (by omega)]
          congr 1
          omega
    by_cases c : (l[i].f0.size : Int) + l[i].f1.size ≤ left
    · rw [if_pos c] at hf
      obtain ⟨r, hr1, hr2⟩ := ih (i + 1) (left - ((l[i].f0.size : Int) + l[i].f1.size)) (by omega) (by omega) (by omega) (by omega)
      refine ⟨r, fun k hk => ?_, ?_⟩
      · obtain ⟨k, rfl⟩ := ix (show 0 < k by omega)
        simp only [laws_szFieldS.l0]
        rw [if_pos (by omega), if_pos (by omega), hr, hf]
        simp only [Option.bind_some]
        rw [if_neg (by omega), w64 (x := (i : Int) + 1) (by omega) (by omega)]
        exact hr1 k (by omega)
      · rcases hr2 with ⟨h2, h3⟩ | ⟨h2, h3⟩
        · exact .inl ⟨h2, by omega⟩
        · exact .inr ⟨by omega, by omega⟩
    · rw [if_neg c] at hf
      refine ⟨-1, fun k hk => ?_, .inl ⟨rfl, by omega⟩⟩
      obtain ⟨k, rfl⟩ := ix (show 0 < k by omega)
      simp only [laws_szFieldS.l0]
      rw [if_pos (by omega), if_pos (by omega), hr, hf]
      rfl
theorem szFieldS (l : List S69) (left : Int) (h0 : 0 ≤ left) (h1 : left ≤ 1048576) (hl : l.length ≤ 9223372036854775807) (hw : ∀ x ∈ l, x.f0.size ≤ 9223372036854775807 ∧ x.f1.size ≤ 9223372036854775807) :
    ∃ K r, (∀ k, K ≤ k → laws_szFieldS.f k l left = some r) ∧ (r = -1 ∨ (0 ≤ r ∧ r = left - l.length - bulk l)) := by
  by_cases c : (l.length : Int) ≤ left
  · obtain ⟨r, hr1, hr2⟩ := szFieldS_l l (by omega) hw l.length 0 (left - l.length) (by omega) (by omega) (by omega) (by omega)
    have hb0 := bulk_nonneg l
    refine ⟨l.length + 1, r, fun k hk => ?_, ?_⟩
    · unfold laws_szFieldS.f
      rw [w64 (by omega) (by omega), if_neg (by omega)]
      exact hr1 k (by omega)
    · simp only [List.drop_zero] at hr2
      omega
  · refine ⟨0, -1, fun k hk => ?_, .inl rfl⟩
    unfold laws_szFieldS.f
    rw [w64 (by omega) (by omega), if_pos (by omega)]
theorem szTable (m : Int) (l : List S69) (left : Int) (h0 : 0 ≤ left) (h1 : left ≤ 1048576) (hl : l.length ≤ 9223372036854775807) (hw : ∀ x ∈ l, x.f0.size ≤ 9223372036854775807 ∧ x.f1.size ≤ 9223372036854775807) :
    ∃ K r, (∀ k, K ≤ k → laws_szTable.f k m l left = some r) ∧ (r = -1 ∨ (0 ≤ r ∧ r = left - l.length - bulk l)) := by
  obtain ⟨K, r, h, hr⟩ := szFieldS l left h0 h1 hl hw
  refine ⟨K, r, fun k hk => ?_, hr⟩
  unfold laws_szTable.f
  rw [h k hk]
  simp only [Option.bind_some]
  rcases hr with rfl | ⟨hr, _⟩
  · rfl
  · rw [if_neg (by omega)]
theorem toFieldS_l (l : List S69) (hl : l.length ≤ 1048576) (d : Nat) : ∀ (k : Nat) (i : Nat) (x : List S33), x.length = l.length → x.take i = (l.map conv).take i → i ≤ l.length → l.length - i = d → d < k → laws_toFieldS.l0 k l x (i : Int) = some (l.map conv) := by
  induction d with
  | zero =>
    intro k i x hx ht hi hd hk
    obtain ⟨k, rfl⟩ := ix (show 0 < k by omega)
    simp only [laws_toFieldS.l0]
    rw [if_neg (by omega)]
    have h : i = l.length := by omega
    subst h
    rw [← hx, List.take_length, hx] at ht
    rw [ht, List.take_of_length_le (by simp)]
  | succ d ih =>
    intro k i x hx ht hi hd hk
    obtain ⟨k, rfl⟩ := ix (show 0 < k by omega)
    simp only [laws_toFieldS.l0, laws_toField.f, Option.bind_some]
    rw [if_pos (by omega), if_pos (by omega), if_pos (by omega), w64 (by omega) (by omega)]
    have := ih k (i + 1) (x.set i (conv (rd_T69 l i))) (by simp [hx]) ?_ (by omega) (by omega) (by omega)
    · simpa [conv] using this
    · rw [List.take_succ_eq_append_getElem (by simp [hx]; omega), List.take_succ_eq_append_getElem (by simp; omega)]
      rw [List.take_set_of_le (Nat.le_refl _), ht]
      simp [rd_T69, List.getD_eq_getElem?_getD, List.getElem?_eq_getElem (show i < l.length by omega)]
theorem toTable (m : Int) {l : List S69} (hl : l.length ≤ 1048576) : ∀ k, l.length < k → laws_toTable.f k m l = some (m, l.map conv) := by
  intro k hk
  unfold laws_toTable.f laws_toFieldS.f
  rw [if_pos (by omega), if_pos (by omega)]
  exact bs (toFieldS_l l hl l.length k 0 _ (by simp) (by simp) (by omega) (by omega) (by omega)) rfl
theorem eqFieldS_l (l : List S33) (hl : l.length ≤ 1048580) (d : Nat) : ∀ (k : Nat) (i : Nat), i ≤ l.length → l.length - i = d → d < k → laws_eqFieldS.l0 k l l (i : Int) = some true := by
  induction d with
  | zero =>
    intro k i hi hd hk
    obtain ⟨k, rfl⟩ := ix (show 0 < k by omega)
    simp only [laws_eqFieldS.l0]
    rw [if_neg (by omega)]
  | succ d ih =>
    intro k i hi hd hk
    obtain ⟨k, rfl⟩ := ix (show 0 < k by omega)
    simp only [laws_eqFieldS.l0, laws_eqField.f]
    rw [if_pos (by omega), if_pos (by omega), if_pos (by omega), if_pos trivial, if_pos trivial, w64 (by omega) (by omega)]
    simp only [Option.bind_some, if_true]
    exact ih k (i + 1) (by omega) (by omega) (by omega)
theorem eqTable (m : Int) {l : List S33} (hl : l.length ≤ 1048580) : ∀ k, l.length < k → laws_eqTable.f k m l m l = some true := by
  intro k hk
  unfold laws_eqTable.f laws_eqFieldS.f
  rw [if_pos rfl, if_pos rfl]
  exact bs (eqFieldS_l l hl l.length k 0 (by omega) (by omega) (by omega)) rfl
end Go.Proofs.Ytlgfcpmihocheaa.LibT1
