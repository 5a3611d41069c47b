/- For every input: FnExactGetSettings answers true: the program's GetSettings returns what the reference's returns, in memory of its own. No condition. -/
import Derived.Test.YtkhcnmjgojkkoaaLibE
import Derived.Test.YtkhcnmjgojkkoaaLibS
import Derived.Test.YtkhcnmjgojkkoaaLibGs
import Derived.Test.YtkhcnmjgojkkoaaAx47
import Derived.Test.YtkhcnmjgojkkoaaAx48
import Derived.Test.YtkhcnmjgojkkoaaAx49
import Derived.Test.YtkhcnmjgojkkoaaAx50
import Derived.Test.YtkhcnmjgojkkoaaAx51
import Derived.Test.YtkhcnmjgojkkoaaAx52
set_option linter.unusedVariables false
set_option linter.unusedSimpArgs false
namespace Go.Proofs.Ytkhcnmjgojkkoaa.Pure
open Go.RowKit Go.Proofs.Ytkhcnmjgojkkoaa.A Go.Proofs.YtkhcnmjgojkkoaaW.PrintWords Go.Proofs.YtkhcnmjgojkkoaaW.PrintLast Go.Proofs.Ytkhcnmjgojkkoaa.LibU Go.Proofs.Ytkhcnmjgojkkoaa.LibE Go.Proofs.Ytkhcnmjgojkkoaa.LibS Go.Proofs.Ytkhcnmjgojkkoaa.LibG
theorem spec_gs_l (l : List Int) (hl : l.length ≤ 1048576) (d : Nat) : ∀ (i : Nat) (x : List S51), i + 6 * d = l.length → x.length ≤ i → ∃ K, ∀ k, K ≤ k → spec_GetSettings.l0 k l x (i : Int) = some (x ++ gs l d i, true) := by
  induction d with
  | zero =>
    intro i x hi hx
    refine ⟨1, fun k hk => ?_⟩
    obtain ⟨k, rfl⟩ := ix (show 0 < k by omega)
    simp only [spec_GetSettings.l0]
    rw [if_neg (by omega)]
    simp [gs]
  | succ d ih =>
    intro i x hi hx
    obtain ⟨K1, h1⟩ := spec_gb (l := l) (a := i) (b := 2) (by omega) (by omega) (by omega)
    obtain ⟨K2, h2⟩ := spec_gb (l := l) (a := (i : Int) + 2) (b := 4) (by omega) (by omega) (by omega)
    obtain ⟨K3, h3⟩ := ih (i + 6) (x ++ [⟨(gb l i 2).1, (gb l ((i : Int) + 2) 4).1⟩]) (by omega) (by simp; omega)
    refine ⟨K1 + K2 + K3 + 1, fun k hk => ?_⟩
    obtain ⟨k, rfl⟩ := ix (show 0 < k by omega)
    simp only [spec_GetSettings.l0]
    rw [if_pos (by omega)]
    refine bs (h1 k (by omega)) ?_
    rw [w64 (x := (i : Int) + 2) (by omega) (by omega)]
    refine bs (h2 k (by omega)) ?_
    rw [if_pos (by omega), w64 (x := (i : Int) + 6) (by omega) (by omega)]
    have := h3 k (by omega)
    simpa [gs] using this
theorem spec_getSettings {l : List Int} (hl : l.length ≤ 1048576) : ∃ K, ∀ k, K ≤ k → spec_GetSettings.f k l = some (getSettings l) := by
  by_cases h : l.length % 6 = 0
  · obtain ⟨K, hK⟩ := spec_gs_l l hl (l.length / 6) 0 [] (by omega) (by simp)
    refine ⟨K, fun k hk => ?_⟩
    unfold spec_GetSettings.f getSettings
    simp only [Option.bind_some]
    rw [if_pos (by omega), if_pos h]
    exact hK k hk
  · refine ⟨0, fun k hk => ?_⟩
    unfold spec_GetSettings.f getSettings
    simp only [Option.bind_some]
    rw [if_neg (by omega), if_neg h]
theorem eqSettingS_l (l : List S51) (hl : l.length ≤ 1048576) (d : Nat) : ∀ (k : Nat) (i : Nat), i ≤ l.length → l.length - i = d → d < k → laws_eqSettingS.l0 k l l (i : Int) = some true := by
  induction d with
  | zero =>
    intro k i hi hd hk
    obtain ⟨k, rfl⟩ := ix (show 0 < k by omega)
    simp only [laws_eqSettingS.l0]
    rw [if_neg (by omega)]
  | succ d ih =>
    intro k i hi hd hk
    obtain ⟨k, rfl⟩ := ix (show 0 < k by omega)
    simp only [laws_eqSettingS.l0, laws_eqSetting.f]
    rw [if_pos (by omega), if_pos (by omega), if_pos (by omega), if_pos trivial, if_pos trivial, w64 (by omega) (by omega)]
    simp only [Option.bind_some, if_true]
    exact ih k (i + 1) (by omega) (by omega) (by omega)
theorem eqSettingS {l : List S51} (hl : l.length ≤ 1048576) : ∀ k, l.length < k → laws_eqSettingS.f k l l = some true := by
  intro k hk
  unfold laws_eqSettingS.f
  rw [if_pos rfl]
  exact eqSettingS_l l hl l.length k 0 (by omega) (by omega) (by omega)
theorem rdT (l : List S51) (i : Nat) : rd_T51 l (i : Int) = l.getD i z51 := by simp [rd_T51]
theorem markSettingS_l (n : Nat) (hn : n ≤ 1048576) (d : Nat) : ∀ (k : Nat) (i : Nat) (x : List S51), x.length = n → i ≤ n → n - i = d → d < k → (∀ j, j < i → (x.getD j z51).f0 = 2 * (j : Int) + 1 ∧ (x.getD j z51).f1 = 2 * (j : Int) + 2) →
    ∃ y : List S51, laws_markSettingS.l0 k x (2 * (i : Int) + 1) (i : Int) = some (2 * (n : Int) + 1, y) ∧ y.length = n ∧ ∀ j, j < n → (y.getD j z51).f0 = 2 * (j : Int) + 1 ∧ (y.getD j z51).f1 = 2 * (j : Int) + 2 := by
  induction d with
  | zero =>
    intro k i x hx hi hd hk h
    obtain ⟨k, rfl⟩ := ix (show 0 < k by omega)
    have e : i = n := by omega
    subst e
    refine ⟨x, ?_, hx, h⟩
    simp only [laws_markSettingS.l0]
    rw [if_neg (by omega)]
  | succ d ih =>
    intro k i x hx hi hd hk h
    obtain ⟨k, rfl⟩ := ix (show 0 < k by omega)
    obtain ⟨y, hy, hyl, hyv⟩ := ih k (i + 1) (x.set i ⟨2 * (i : Int) + 1, 2 * (i : Int) + 2⟩) (by simp [hx]) (by omega) (by omega) (by omega) (by
      intro j hj
      rw [List.getD_eq_getElem?_getD, List.getElem?_set]
      by_cases e : i = j
      · subst e
        rw [if_pos rfl, if_pos (by omega)]
        exact ⟨rfl, rfl⟩
      · rw [if_neg e, ← List.getD_eq_getElem?_getD]
        exact h j (by omega))
    refine ⟨y, ?_, hyl, hyv⟩
    simp only [laws_markSettingS.l0, Option.bind_some]
    rw [if_pos (by omega), if_pos (by omega), w64 (x := 2 * (i : Int) + 1 + 1) (by omega) (by omega), w64 (x := 2 * (i : Int) + 1 + 1 + 1) (by omega) (by omega), w64 (x := (i : Int) + 1) (by omega) (by omega)]
    have e1 : (rd_T51 (x.set (i : Int).toNat ⟨2 * (i : Int) + 1, (rd_T51 x i).f1⟩) (i : Int)).f0 = 2 * (i : Int) + 1 := by
      rw [rdT, List.getD_eq_getElem?_getD, Int.toNat_natCast, List.getElem?_set_self (by omega)]
      rfl
    rw [e1, Int.toNat_natCast, List.set_set]
    have e2 : 2 * (i : Int) + 1 + 1 + 1 = 2 * ((i + 1 : Nat) : Int) + 1 := by omega
    have e3 : 2 * (i : Int) + 1 + 1 = 2 * (i : Int) + 2 := by omega
    rw [e2, e3]
    exact hy
theorem heldSettingS_l (y : List S51) (hn : y.length ≤ 1048576) (hy : ∀ j, j < y.length → (y.getD j z51).f0 = 2 * (j : Int) + 1 ∧ (y.getD j z51).f1 = 2 * (j : Int) + 2) (d : Nat) : ∀ (k : Nat) (i : Nat), i ≤ y.length → y.length - i = d → d < k → laws_heldSettingS.l0 k y (2 * (i : Int) + 1) (i : Int) = some (2 * (y.length : Int) + 1) := by
  induction d with
  | zero =>
    intro k i hi hd hk
    obtain ⟨k, rfl⟩ := ix (show 0 < k by omega)
    have e : i = y.length := by omega
    subst e
    simp only [laws_heldSettingS.l0]
    rw [if_neg (by omega)]
  | succ d ih =>
    intro k i hi hd hk
    obtain ⟨k, rfl⟩ := ix (show 0 < k by omega)
    simp only [laws_heldSettingS.l0]
    have h := hy i (by omega)
    rw [if_pos (by omega), if_pos (by omega), rdT, h.1, h.2, if_pos rfl, w64 (x := 2 * (i : Int) + 1 + 1) (by omega) (by omega), if_pos (by omega), w64 (x := 2 * (i : Int) + 1 + 1 + 1) (by omega) (by omega), w64 (x := (i : Int) + 1) (by omega) (by omega)]
    have e2 : 2 * (i : Int) + 1 + 1 + 1 = 2 * ((i + 1 : Nat) : Int) + 1 := by omega
    rw [e2]
    exact ih k (i + 1) (by omega) (by omega) (by omega)
theorem markHeldS {x : List S51} (hn : x.length ≤ 1048576) : ∃ K y, (∀ k, K ≤ k → laws_markSettingS.f k x 1 = some (2 * (x.length : Int) + 1, y)) ∧ (∀ k, K ≤ k → laws_heldSettingS.f k y 1 = some (2 * (x.length : Int) + 1)) := by
  obtain ⟨y, h1, h2, h3⟩ := markSettingS_l x.length hn x.length (x.length + 1) 0 x rfl (by omega) (by omega) (by omega) (by intro j hj; omega)
  refine ⟨x.length + 1, y, fun k hk => ?_, fun k hk => ?_⟩
  · exact at_rounds (g := fun k => laws_markSettingS.f k x 1) (fun k => laws_markSettingS.mono _ _ k) hk h1
  · have := heldSettingS_l y (by omega) (by rw [h2]; exact h3) y.length k 0 (by omega) (by omega) (by omega)
    rw [h2] at this
    exact this
theorem FnExactGetSettings : laws_FnExactGetSettings.Pure := by
  intro l _ hl2 hw
  by_cases h : (l.length : Int) > 1048576
  · exact ⟨0, by unfold laws_FnExactGetSettings.f; rw [if_pos h]⟩
  have hg := getSettings_length l
  obtain ⟨K1, h1⟩ := toByteS (l := l) (by omega)
  obtain ⟨K2, h2⟩ := spec_getSettings (l := l) (by omega)
  obtain ⟨K3, h3⟩ := impl_getSettings (l := l) (by omega)
  generalize getSettings l = r at *
  obtain ⟨r1, r2⟩ := r
  simp only at hg
  obtain ⟨K4, h4⟩ := eqByteS (l := l) (by omega)
  have h5 := eqSettingS (l := r1) (by omega)
  obtain ⟨K6, y6, h6, h6'⟩ := markHeld (x := l) (by omega)
  obtain ⟨K7, y7, h7, h7'⟩ := markHeldS (x := r1) (by omega)
  refine ⟨K1 + K2 + K3 + K4 + r1.length + K6 + K7 + 12 + 1 + 1 + 1, ?_⟩
  unfold laws_FnExactGetSettings.f
  rw [if_neg h]
  repeat (first | refine bs (h1 _ (by omega)) ?_ | refine bs (h2 _ (by omega)) ?_ | refine bs (h3 _ (by omega)) ?_ | refine bs (h4 _ (by omega)) ?_ | refine bs (h5 _ (by omega)) ?_ | refine bs (h6 _ (by omega)) ?_ | refine bs (h7 _ (by omega)) ?_ | refine bs (h7' _ (by omega)) ?_ | refine ifp rfl ?_ | refine ifn (by first | exact Bool.false_ne_true | omega | simp) ?_ | rw [laws_FnExactGetSettings.j0] | rw [laws_FnExactGetSettings.j1] | rw [laws_FnExactGetSettings.j2])
  rfl
end Go.Proofs.Ytkhcnmjgojkkoaa.Pure
