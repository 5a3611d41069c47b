/- For every input: FnExactPutSettings answers true: the program's PutSettings returns what the reference's returns, in memory of its own. No condition. -/
import Derived.Test.YtfjjnccfiepjcaaLibA
import Derived.Test.YtfjjnccfiepjcaaAx35
import Derived.Test.YtfjjnccfiepjcaaAx36
import Derived.Test.YtfjjnccfiepjcaaAx37
import Derived.Test.YtfjjnccfiepjcaaAx38
import Derived.Test.YtfjjnccfiepjcaaAx39
import Derived.Test.YtfjjnccfiepjcaaAx40
import Derived.Test.YtfjjnccfiepjcaaAx41
import Derived.Test.YtfjjnccfiepjcaaAx42
import Derived.Test.YtfjjnccfiepjcaaAx43
set_option linter.unusedVariables false
set_option linter.unusedSimpArgs false
namespace Go.Proofs.Ytfjjnccfiepjcaa.Pure
open Go.RowKit Go.Proofs.Ytfjjnccfiepjcaa.A Go.Proofs.YtfjjnccfiepjcaaW.PrintWords Go.Proofs.YtfjjnccfiepjcaaW.PrintLast Go.Proofs.YtfjjnccfiepjcaaW.PrintMore Go.Proofs.Ytfjjnccfiepjcaa.LibA
def conv (x : S71) : S69 := ⟨x.f0, x.f1⟩
theorem toSettingS_l (l : List S71) (hl : l.length ≤ 1048576) (d : Nat) : ∀ (k : Nat) (i : Nat) (x : List S69), x.length = l.length → x.take i = (l.map conv).take i → i ≤ l.length → l.length - i = d → d < k → laws_toSettingS.l0 k l x (i : Int) = some (l.map conv) := by
  induction d with
  | zero =>
    intro k i x hx ht hi hd hk
    obtain ⟨k, rfl⟩ := ix (show 0 < k by omega)
    simp only [laws_toSettingS.l0]
    rw [if_neg (by omega)]
    have h : i = l.length := by omega
    subst h
    rw [← hx, List.take_length, hx] at ht
    rw [ht, List.take_of_length_le (by simp)]
  | succ d ih =>
    intro k i x hx ht hi hd hk
    obtain ⟨k, rfl⟩ := ix (show 0 < k by omega)
    simp only [laws_toSettingS.l0, laws_toSetting.f, Option.bind_some]
    rw [if_pos (by omega), if_pos (by omega), if_pos (by omega), w64 (by omega) (by omega)]
    have := ih k (i + 1) (x.set i (conv (rd_T71 l i))) (by simp [hx]) ?_ (by omega) (by omega) (by omega)
    · simpa [conv] using this
    · rw [List.take_succ_eq_append_getElem (by simp [hx]; omega), List.take_succ_eq_append_getElem (by simp; omega)]
      rw [List.take_set_of_le (Nat.le_refl _), ht]
      simp [rd_T71, List.getD_eq_getElem?_getD, List.getElem?_eq_getElem (show i < l.length by omega)]
theorem toSettingS {l : List S71} (hl : l.length ≤ 1048576) : ∀ k, l.length < k → laws_toSettingS.f k l = some (l.map conv) := by
  intro k hk
  unfold laws_toSettingS.f
  rw [if_pos (by omega), if_pos (by omega)]
  exact toSettingS_l l hl l.length k 0 _ (by simp) (by simp) (by omega) (by omega) (by omega)
theorem eqSettingS_l (l : List S69) (hl : l.length ≤ 1048576) (d : Nat) : ∀ (k : Nat) (i : Nat), i ≤ l.length → l.length - i = d → d < k → laws_eqSettingS.l0 k l l (i : Int) = some true := by
  induction d with
  | zero =>
    intro k i hi hd hk
    obtain ⟨k, rfl⟩ := ix (show 0 < k by omega)
    simp only [laws_eqSettingS.l0]
    rw [if_neg (by omega)]
  | succ d ih =>
    intro k i hi hd hk
    obtain ⟨k, rfl⟩ := ix (show 0 < k by omega)
    simp only [laws_eqSettingS.l0, laws_eqSetting.f]
    rw [if_pos (by omega), if_pos (by omega), if_pos (by omega), if_pos trivial, if_pos trivial, w64 (by omega) (by omega)]
    simp only [Option.bind_some, if_true]
    exact ih k (i + 1) (by omega) (by omega) (by omega)
theorem eqSettingS {l : List S69} (hl : l.length ≤ 1048576) : ∀ k, l.length < k → laws_eqSettingS.f k l l = some true := by
  intro k hk
  unfold laws_eqSettingS.f
  rw [if_pos rfl]
  exact eqSettingS_l l hl l.length k 0 (by omega) (by omega) (by omega)
theorem markSettingS_l (n : Nat) (hn : n ≤ 1048576) (d : Nat) : ∀ (k : Nat) (i : Nat) (m : Int) (x : List S69), x.length = n → 1 ≤ m → m ≤ 2 * i + 1 → i ≤ n → n - i = d → d < k → ∃ r y, laws_markSettingS.l0 k x m (i : Int) = some (r, y) ∧ 1 ≤ r := by
  induction d with
  | zero =>
    intro k i m x hx h1 h2 hi hd hk
    obtain ⟨k, rfl⟩ := ix (show 0 < k by omega)
    simp only [laws_markSettingS.l0]
    rw [if_neg (by omega)]
    exact ⟨_, _, rfl, h1⟩
  | succ d ih =>
    intro k i m x hx h1 h2 hi hd hk
    obtain ⟨k, rfl⟩ := ix (show 0 < k by omega)
    simp only [laws_markSettingS.l0, Option.bind_some]
    rw [if_pos (by omega), if_pos (by omega), w64 (x := m + 1) (by omega) (by omega), w64 (x := m + 1 + 1) (by omega) (by omega), w64 (by omega) (by omega)]
    exact ih k (i + 1) (m + 1 + 1) _ (by simp [hx]) (by omega) (by omega) (by omega) (by omega) (by omega)
theorem markSettingS {l : List S69} (hl : l.length ≤ 1048576) : ∃ r y, (∀ k, l.length < k → laws_markSettingS.f k l 1 = some (r, y)) ∧ 1 ≤ r := by
  obtain ⟨r, y, h, h1⟩ := markSettingS_l l.length hl l.length (l.length + 1) 0 1 l rfl (by omega) (by omega) (by omega) (by omega) (by omega)
  exact ⟨r, y, fun k hk => at_rounds (g := fun k => laws_markSettingS.f k l 1) (fun k => laws_markSettingS.mono _ _ k) hk h, h1⟩
theorem putSettings_l (l : List S69) (hl : l.length ≤ 1048576) (d : Nat) : ∀ (i : Nat) (x : List Int), x.length = 6 * i → i ≤ l.length → l.length - i = d →
    ∃ r : List Int, (∀ k, d < k → spec_PutSettings.l0 k l x (i : Int) = some r) ∧ (∀ k, d < k → impl_PutSettings.l0 k x l (l.length : Int) (i : Int) = some r) ∧ r.length = 6 * l.length := by
  induction d with
  | zero =>
    intro i x hx hi hd
    refine ⟨x, fun k hk => ?_, fun k hk => ?_, by omega⟩
    · obtain ⟨k, rfl⟩ := ix (show 0 < k by omega)
      simp only [spec_PutSettings.l0]
      rw [if_neg (by omega)]
    · obtain ⟨k, rfl⟩ := ix (show 0 < k by omega)
      simp only [impl_PutSettings.l0]
      rw [if_neg (by omega)]
  | succ d ih =>
    intro i x hx hi hd
    obtain ⟨r, h1, h2, h3⟩ := ih (i + 1) (x ++ [((rd_T69 l i).f0 / 256) % 256, ((rd_T69 l i).f0) % 256] ++ [((rd_T69 l i).f1 / 16777216) % 256, ((rd_T69 l i).f1 / 65536) % 256, ((rd_T69 l i).f1 / 256) % 256, ((rd_T69 l i).f1) % 256]) (by simp [hx]; omega) (by omega) (by omega)
    have e4 : wrap64 ((i : Int) + 1) = ((i + 1 : Nat) : Int) := by rw [w64 (by omega) (by omega)]; rfl
    refine ⟨r, fun k hk => ?_, fun k hk => ?_, h3⟩
    · obtain ⟨k, rfl⟩ := ix (show 0 < k by omega)
      simp only [spec_PutSettings.l0, Option.bind_some, e4]
      rw [if_pos (by omega), if_pos (by omega), if_pos (by simp [hx]; omega), if_pos (by simp [hx]; omega)]
      exact h1 k (by omega)
    · obtain ⟨k, rfl⟩ := ix (show 0 < k by omega)
      simp only [impl_PutSettings.l0, Option.bind_some, e4]
      rw [if_pos (by omega), if_pos (by omega), if_pos (by omega), if_pos (by simp [hx]; omega), if_pos (by simp [hx]; omega)]
      exact h2 k (by omega)
theorem FnExactPutSettings : laws_FnExactPutSettings.Pure := by
  intro l hl hw
  have hz : laws_szSettingS.f l 1048576 = some (if (l.length : Int) ≤ 1048576 then 1048576 - (l.length : Int) else -1) := by
    unfold laws_szSettingS.f
    rw [w64 (by omega) (by omega)]
    by_cases h : (l.length : Int) ≤ 1048576
    · rw [if_neg (by omega), if_pos h]
    · rw [if_pos (by omega), if_neg h]
  by_cases h : (l.length : Int) ≤ 1048576
  · rw [if_pos h] at hz
    have hm : (l.map conv).length = l.length := by simp
    have h1 := toSettingS (l := l) (by omega)
    obtain ⟨r, h2, h3, hr⟩ := putSettings_l (l.map conv) (by omega) l.length 0 [] rfl (by omega) (by omega)
    have h2' : ∀ k, l.length < k → spec_PutSettings.f k (l.map conv) = some r := h2
    have h3' : ∀ k, l.length < k → impl_PutSettings.f k (l.map conv) = some r := h3
    have h4 := eqSettingS (l := l.map conv) (by omega)
    obtain ⟨K5, h5⟩ := eqByteS (l := r) (by omega)
    obtain ⟨m6, y6, h6, g6⟩ := markSettingS (l := l.map conv) (by omega)
    obtain ⟨K7, y7, h7, h7'⟩ := markHeld (x := r) (by omega)
    refine ⟨l.length + K5 + K7 + 12 + 1, ?_⟩
    unfold laws_FnExactPutSettings.f
    repeat (first | refine bs hz ?_ | refine bs (h1 _ (by omega)) ?_ | refine bs (h2' _ (by omega)) ?_ | refine bs (h3' _ (by omega)) ?_ | refine bs (h4 _ (by omega)) ?_ | refine bs (h5 _ (by omega)) ?_ | refine bs (h6 _ (by omega)) ?_ | refine bs (h7 _ (by omega)) ?_ | refine bs (h7' _ (by omega)) ?_ | refine ifp rfl ?_ | refine ifn (by first | exact Bool.false_ne_true | omega | simp) ?_ | rw [laws_FnExactPutSettings.j0])
    rfl
  · rw [if_neg h] at hz
    refine ⟨0, ?_⟩
    unfold laws_FnExactPutSettings.f
    refine bs hz ?_
    rfl
end Go.Proofs.Ytfjjnccfiepjcaa.Pure
