/- For every input: FnSettings answers true: drawn settings come back of their bytes where both numbers lie in range, and so do a GOAWAY's two numbers. No condition. -/
import Derived.Test.YtkhcnmjgojkkoaaLibE
import Derived.Test.YtkhcnmjgojkkoaaLibS
import Derived.Test.YtkhcnmjgojkkoaaLibGv
import Derived.Test.YtkhcnmjgojkkoaaLibB
import Derived.Test.YtkhcnmjgojkkoaaLibD2
import Derived.Test.YtkhcnmjgojkkoaaAx23
import Derived.Test.YtkhcnmjgojkkoaaAx30
import Derived.Test.YtkhcnmjgojkkoaaAx31
import Derived.Test.YtkhcnmjgojkkoaaAx34
import Derived.Test.YtkhcnmjgojkkoaaAx35
import Derived.Test.YtkhcnmjgojkkoaaAx36
import Derived.Test.YtkhcnmjgojkkoaaAx37
set_option linter.unusedVariables false
set_option linter.unusedSimpArgs false
namespace Go.Proofs.Ytkhcnmjgojkkoaa.Pure
open Go.RowKit Go.Proofs.Ytkhcnmjgojkkoaa.A Go.Proofs.YtkhcnmjgojkkoaaW.PrintWords Go.Proofs.YtkhcnmjgojkkoaaW.PrintLast Go.Proofs.YtkhcnmjgojkkoaaW.PrintMore Go.Proofs.Ytkhcnmjgojkkoaa.LibU Go.Proofs.Ytkhcnmjgojkkoaa.LibE Go.Proofs.Ytkhcnmjgojkkoaa.LibG Go.Proofs.Ytkhcnmjgojkkoaa.LibD Go.Proofs.Ytkhcnmjgojkkoaa.LibS Go.Proofs.Ytkhcnmjgojkkoaa.LibB
/-! The draws -/
theorem l7Settings_l (b : List Int) (d : Nat) : ∀ (x : List S51) (i h : Int), CI b i → x.length + d ≤ 1000 → d ≤ 1000 → ∃ r i' h', (∀ k, d < k → spec_l7Settings.l0 k x (d : Int) b i h = some (r, i', h')) ∧ r.length = x.length + d ∧ CI b i' := by
  induction d with
  | zero =>
    intro x i h hi hx hd
    refine ⟨x, i, h, fun k hk => ?_, by omega, hi⟩
    obtain ⟨k, rfl⟩ := ix (show 0 < k by omega)
    simp only [spec_l7Settings.l0]
    rw [if_neg (by omega)]
  | succ d ih =>
    intro x i h hi hx hd
    obtain ⟨v, i1, q1, e1, _, hi1⟩ := l1Int b i h [1, 3, 4, 5, 65535] (by decide) hi
    obtain ⟨w, i2, q2, e2, _, hi2⟩ := l1Int b i1 q1 [0, 100, 4294967295, 65535] (by decide) hi1
    obtain ⟨r, i3, q3, e3, hr, hi3⟩ := ih (x ++ [⟨v, w⟩]) i2 q2 hi2 (by simp; omega) (by omega)
    refine ⟨r, i3, q3, fun k hk => ?_, by simp at hr; omega, hi3⟩
    obtain ⟨k, rfl⟩ := ix (show 0 < k by omega)
    simp only [spec_l7Settings.l0]
    rw [if_pos (by omega)]
    refine bs e1 (bs e2 ?_)
    rw [if_pos (by omega), w64 (by omega) (by omega), show (((d + 1 : Nat) : Int) - 1) = (d : Int) by omega]
    exact e3 k (by omega)
theorem drawPutSettings (l : List Int) (hl : l.length ≤ 1048576) : ∃ K s, (∀ k, K ≤ k → spec_DrawPutSettings.f k l = some s) ∧ s.length ≤ 4 := by
  obtain ⟨K1, q, e1, hi⟩ := l1New l (by omega)
  obtain ⟨n, i2, q2, e2, hn0, hn1, _, hi2⟩ := l1Below l 0 q 4 (by omega) hi
  have hn := hn1 (by omega)
  obtain ⟨d, rfl⟩ := Int.eq_ofNat_of_zero_le hn0
  obtain ⟨s, i3, q3, e3, hs, hi3⟩ := l7Settings_l l d [] i2 q2 hi2 (by simp; omega) (by omega)
  simp only [List.length_nil] at hs
  obtain ⟨o, i4, q4, e4, _, _, _, hi4⟩ := l1Below l i3 q3 6 (by omega) hi3
  obtain ⟨v, i5, q5, e5, _, hi5⟩ := l1Int l i4 q4 [(-1), 65536] (by decide) hi4
  obtain ⟨w, i6, q6, e6, _, hi6⟩ := l1Int l i5 q5 [(-1), 4294967296] (by decide) hi5
  have e7 : ∀ k, d < k → spec_l7Settings.f k l 0 q = some (s, i3, q3) := by
    intro k hk
    unfold spec_l7Settings.f
    exact bs e2 (e3 k hk)
  have e8 : spec_l1Once.f l i3 q3 6 = some (o == 0, i4, q4) := by
    unfold spec_l1Once.f
    exact bs e4 rfl
  by_cases ho : (o == 0) = true
  · refine ⟨K1 + d + 1, s ++ [⟨v, w⟩], fun k hk => ?_, by simp; omega⟩
    unfold spec_DrawPutSettings.f
    refine bs (e1 k (by omega)) (bs (e7 k (by omega)) (bs e8 ?_))
    rw [if_pos ho]
    refine bs e5 (bs e6 ?_)
    rw [if_pos (by simp only; omega)]
  · refine ⟨K1 + d + 1, s, fun k hk => ?_, by omega⟩
    unfold spec_DrawPutSettings.f
    refine bs (e1 k (by omega)) (bs (e7 k (by omega)) (bs e8 ?_))
    rw [if_neg ho]
theorem drawGoAway (l : List Int) (hl : l.length ≤ 1048576) : ∃ K a b, (∀ k, K ≤ k → spec_DrawPutGoAway.f k l = some (a, b)) ∧ a ∈ [(0 : Int), 1, 2147483647, (-1), 4294967296] ∧ b ∈ [(0 : Int), 1, 11, 4294967295, (-1)] := by
  obtain ⟨K1, q, e1, hi⟩ := l1New l (by omega)
  obtain ⟨a, i2, q2, e2, h2, hi2⟩ := l1Int l 0 q [0, 1, 2147483647, (-1), 4294967296] (by decide) hi
  obtain ⟨b, i3, q3, e3, h3, hi3⟩ := l1Int l i2 q2 [0, 1, 11, 4294967295, (-1)] (by decide) hi2
  refine ⟨K1, a, b, fun k hk => ?_, h2, h3⟩
  unfold spec_DrawPutGoAway.f
  exact bs (e1 k hk) (bs e2 (bs e3 rfl))
/-! What PutSettings writes -/
def row (s : S51) : List Int := [(s.f0 / 256) % 256, s.f0 % 256, (s.f1 / 16777216) % 256, (s.f1 / 65536) % 256, (s.f1 / 256) % 256, s.f1 % 256]
def norm (s : S51) : S51 := ⟨s.f0 % 65536, s.f1 % 4294967296⟩
theorem rdS (l : List S51) (i : Nat) (h : i < l.length) : rd_T51 l (i : Int) = l[i] := by
  simp [rd_T51, List.getD_eq_getElem?_getD, List.getElem?_eq_getElem h]
theorem putSettings_l (l : List S51) (hl : l.length ≤ 1048576) (d : Nat) : ∀ (i : Nat) (x : List Int), x.length = 6 * i → i ≤ l.length → l.length - i = d → ∀ k, d < k → impl_PutSettings.l0 k x l (l.length : Int) (i : Int) = some (x ++ (l.drop i).flatMap row) := by
  induction d with
  | zero =>
    intro i x hx hi hd k hk
    obtain ⟨k, rfl⟩ := ix (show 0 < k by omega)
    simp only [impl_PutSettings.l0]
    rw [if_neg (by omega), List.drop_of_length_le (by omega)]
    simp
  | succ d ih =>
    intro i x hx hi hd k hk
    obtain ⟨k, rfl⟩ := ix (show 0 < k by omega)
    have hlt : i < l.length := by omega
    simp only [impl_PutSettings.l0, Option.bind_some, rdS l i hlt]
    rw [if_pos (by omega), if_pos (by omega), if_pos (by omega), if_pos (by simp; omega), if_pos (by simp; omega), w64 (by omega) (by omega)]
    have := ih (i + 1) (x ++ row l[i]) (by simp [row]; omega) (by omega) (by omega) k (by omega)
    rw [List.drop_eq_getElem_cons hlt, List.flatMap_cons]
    simpa [row] using this
theorem impl_putSettings (l : List S51) (hl : l.length ≤ 1048576) : ∀ k, l.length < k → impl_PutSettings.f k l = some (l.flatMap row) := by
  intro k hk
  unfold impl_PutSettings.f
  have := putSettings_l l hl l.length 0 [] (by simp) (by omega) (by omega) k hk
  simpa using this
theorem rows_length (l : List S51) : (l.flatMap row).length = 6 * l.length := by
  induction l with
  | nil => rfl
  | cons s l ih => rw [List.flatMap_cons, List.length_append, ih]; simp [row]; omega
/-! What GetSettings reads -/
theorem gb_at (a ys c : List Int) (hb : BytesL ys) (hl : 1 ≤ ys.length ∧ ys.length ≤ 4) : gb (a ++ (ys ++ c)) (a.length : Int) (ys.length : Int) = (val 0 ys, true) := by
  unfold gb
  have hlen : (a ++ (ys ++ c)).length = a.length + (ys.length + c.length) := by simp
  rw [if_pos (by unfold gbOk; omega)]
  have e1 : ((a.length : Int) + (ys.length : Int)).toNat = a.length + ys.length := by omega
  rw [e1, Int.toNat_natCast, List.take_length_add_append, List.drop_left, List.take_left]
  have h256 : ((0 : Int) + 1) * 256 ^ ys.length ≤ 72057594037927936 := by
    obtain ⟨h1, h2⟩ := hl
    have : ys.length = 1 ∨ ys.length = 2 ∨ ys.length = 3 ∨ ys.length = 4 := by omega
    rcases this with e | e | e | e <;> rw [e] <;> decide
  rw [gbFold_eq ys 0 hb (by omega) h256]
theorem gs_rows (ls : List S51) : ∀ pre : List Int, gs (pre ++ ls.flatMap row) ls.length pre.length = ls.map norm := by
  induction ls with
  | nil => intro pre; rfl
  | cons s ls ih =>
    intro pre
    have h2 := gb_at pre [(s.f0 / 256) % 256, s.f0 % 256] ([(s.f1 / 16777216) % 256, (s.f1 / 65536) % 256, (s.f1 / 256) % 256, s.f1 % 256] ++ ls.flatMap row) (by intro x hx; simp at hx; omega) (by simp)
    have h4 := gb_at (pre ++ [(s.f0 / 256) % 256, s.f0 % 256]) [(s.f1 / 16777216) % 256, (s.f1 / 65536) % 256, (s.f1 / 256) % 256, s.f1 % 256] (ls.flatMap row) (by intro x hx; simp at hx; omega) (by simp)
    have e : pre ++ (s :: ls).flatMap row = pre ++ ([(s.f0 / 256) % 256, s.f0 % 256] ++ ([(s.f1 / 16777216) % 256, (s.f1 / 65536) % 256, (s.f1 / 256) % 256, s.f1 % 256] ++ ls.flatMap row)) := by
      rw [List.flatMap_cons]; simp [row]
    have e' : pre ++ (s :: ls).flatMap row = (pre ++ [(s.f0 / 256) % 256, s.f0 % 256]) ++ ([(s.f1 / 16777216) % 256, (s.f1 / 65536) % 256, (s.f1 / 256) % 256, s.f1 % 256] ++ ls.flatMap row) := by
      rw [e]; simp
    have e'' : pre ++ (s :: ls).flatMap row = (pre ++ row s) ++ ls.flatMap row := by
      rw [List.flatMap_cons]; simp
    rw [← e] at h2
    rw [← e'] at h4
    have hi := ih (pre ++ row s)
    rw [← e''] at hi
    have hp1 : (pre ++ [(s.f0 / 256) % 256, s.f0 % 256]).length = pre.length + 2 := by simp
    have hp2 : (pre ++ row s).length = pre.length + 6 := by simp [row]
    rw [hp2] at hi
    rw [hp1] at h4
    simp only [List.length_cons, List.length_nil, Nat.zero_add] at h2 h4
    rw [List.length_cons, gs, List.map_cons, hi]
    congr 1
    rw [show ((2 : Int)) = ((0 + 1 + 1 : Nat) : Int) by rfl] at *
    have a2 : gb (pre ++ (s :: ls).flatMap row) (pre.length : Int) 2 = (val 0 [(s.f0 / 256) % 256, s.f0 % 256], true) := h2
    have a4 : gb (pre ++ (s :: ls).flatMap row) ((pre.length : Int) + 2) 4 = (val 0 [(s.f1 / 16777216) % 256, (s.f1 / 65536) % 256, (s.f1 / 256) % 256, s.f1 % 256], true) := h4
    rw [show (((0 + 1 + 1 : Nat)) : Int) = 2 by rfl, a2, a4]
    simp only [norm, val, List.foldl_cons, List.foldl_nil]
    congr 1 <;> omega
theorem get_rows (ls : List S51) : getSettings (ls.flatMap row) = (ls.map norm, true) := by
  unfold getSettings
  rw [rows_length, if_pos (by omega), show 6 * ls.length / 6 = ls.length by omega]
  have := gs_rows ls []
  simp only [List.nil_append, List.length_nil] at this
  rw [this]
/-! GOAWAY -/
theorem pb4 (n : Int) : pb n 4 = [(n / 16777216) % 256, (n / 65536) % 256, (n / 256) % 256, n % 256] := by
  simp [pb]
theorem goAway (a b : Int) (hb : b ∈ [(0 : Int), 1, 11, 4294967295, (-1)]) (ha : a ∈ [(0 : Int), 1, 2147483647, (-1), 4294967296]) : ∃ K p v w, (∀ k, K ≤ k → impl_PutGoAway.f k a b = some p) ∧ (∀ k, K ≤ k → impl_GetGoAway.f k p = some (v, w, true)) ∧ (0 ≤ a → a ≤ 2147483647 → v = a) ∧ (0 ≤ b → b ≤ 4294967295 → w = b) := by
  have h3 := impl_putBig_l (l := []) (n := a) (k := 4) (by simp) (by omega)
  have h4 := impl_putBig_l (l := putBig [] a 4) (n := b) (k := 4) (by have := putBig_length [] a 4; simp at this; omega) (by omega)
  have e1 : ∀ n : Int, ∀ x : List Int, putBig x n 4 = x ++ pb (if n < 0 then 0 else n) 4 := by
    intro n x; unfold putBig; rw [if_pos (by omega)]; rfl
  obtain ⟨a', ha'⟩ : ∃ a', a' = if a < 0 then 0 else a := ⟨_, rfl⟩
  obtain ⟨b', hb'⟩ : ∃ b', b' = if b < 0 then 0 else b := ⟨_, rfl⟩
  rw [e1, e1, ← ha', ← hb', List.nil_append] at h4
  rw [e1, ← ha', List.nil_append] at h3
  have hA : BytesL (pb a' 4) := by rw [pb4]; intro x hx; simp at hx; omega
  have hB : BytesL (pb b' 4) := by rw [pb4]; intro x hx; simp at hx; omega
  have g1 := gb_at [] (pb a' 4) (pb b' 4) hA (by rw [pb_length]; omega)
  have g2 := gb_at (pb a' 4) (pb b' 4) [] hB (by rw [pb_length]; omega)
  simp only [List.nil_append, List.append_nil, pb_length, List.length_nil] at g1 g2
  obtain ⟨K1, i1⟩ := impl_gb (l := pb a' 4 ++ pb b' 4) (a := 0) (b := 4) (by simp [pb_length]) (by omega) (by omega)
  obtain ⟨K2, i2⟩ := impl_gb (l := pb a' 4 ++ pb b' 4) (a := 4) (b := 4) (by simp [pb_length]) (by omega) (by omega)
  have g1' : gb (pb a' 4 ++ pb b' 4) 0 4 = (val 0 (pb a' 4), true) := g1
  have g2' : gb (pb a' 4 ++ pb b' 4) 4 4 = (val 0 (pb b' 4), true) := g2
  have hv : ∀ n : Int, val 0 (pb n 4) = n % 4294967296 := by
    intro n; rw [pb4]; simp only [val, List.foldl_cons, List.foldl_nil]; omega
  rw [hv] at g1' g2'
  rw [g1'] at i1
  rw [g2'] at i2
  refine ⟨K1 + K2 + 12, pb a' 4 ++ pb b' 4, Go.bits .and .i64 (a' % 4294967296) 2147483647, b' % 4294967296, fun k hk => ?_, fun k hk => ?_, ?_, ?_⟩
  · unfold impl_PutGoAway.f
    exact bs (h3 k (by omega)) (bs (h4 k (by omega)) rfl)
  · unfold impl_GetGoAway.f
    refine bs (i1 k (by omega)) (bs (i2 k (by omega)) ?_)
    rw [if_pos rfl]
  · intro h0 h1
    have : a = 0 ∨ a = 1 ∨ a = 2147483647 ∨ a = -1 ∨ a = 4294967296 := by simpa using ha
    rcases this with h | h | h | h | h
    · rw [ha', h]; decide
    · rw [ha', h]; decide
    · rw [ha', h]; decide
    · omega
    · omega
  · intro h0 h1
    rw [hb', if_neg (by omega)]
    omega
/-! The law -/
theorem FnSettings : laws_FnSettings.Pure := by
  intro l _ hl2 hw
  have hbig : laws_big.f l = some (decide ((l.length : Int) > 1048576)) := rfl
  by_cases h : (l.length : Int) > 1048576
  · refine ⟨0, ?_⟩
    unfold laws_FnSettings.f
    refine bs hbig ?_
    rw [if_pos (decide_eq_true h)]
  obtain ⟨K1, s, hd, hs⟩ := drawPutSettings l (by omega)
  obtain ⟨K2, a, b, hg, ha, hb⟩ := drawGoAway l (by omega)
  obtain ⟨K3, p, v, w, p1, p2, p3, p4⟩ := goAway a b hb ha
  obtain ⟨K4, hget⟩ := impl_getSettings (l := s.flatMap row) (by rw [rows_length]; omega)
  rw [get_rows] at hget
  have hm : (s.map norm).length = s.length := by simp
  have key : ∀ (d i : Nat), i ≤ s.length → s.length - i = d → ∀ k, K2 + K3 + 2 * d < k → laws_FnSettings.l0 k l s (s.map norm) (i : Int) = some true := by
    intro d
    induction d with
    | zero =>
      intro i hi hdd k hk
      obtain ⟨k, rfl⟩ := ix (show 0 < k by omega)
      rw [laws_FnSettings.l0, if_neg (by omega)]
      refine bs (hg k (by omega)) (bs (p1 k (by omega)) (bs (p2 k (by omega)) ?_))
      rw [if_pos rfl]
      simp only
      by_cases c1 : b < 0
      · repeat' split
        all_goals first | rfl | (exfalso; omega) | skip
        all_goals (have := p3 (by omega) (by omega); omega)
      · by_cases c2 : b > 4294967295
        · repeat' split
          all_goals first | rfl | (exfalso; omega) | skip
          all_goals (have := p3 (by omega) (by omega); omega)
        · have hw := p4 (by omega) (by omega)
          rw [hw]
          repeat' split
          all_goals first | rfl | (exfalso; omega) | (simp; done) | skip
          all_goals (have := p3 (by omega) (by omega); omega)
    | succ d ih =>
      intro i hi hdd k hk
      obtain ⟨k, rfl⟩ : ∃ m, k = m + 1 + 1 := ⟨k - 2, by omega⟩
      have hlt : i < s.length := by omega
      have hnext := ih (i + 1) (by omega) (by omega) k (by omega)
      have hj2 : laws_FnSettings.j2 (k + 1) l s (s.map norm) (i : Int) false = some true := by
        rw [laws_FnSettings.j2, if_neg (by decide), w64 (by omega) (by omega)]
        exact hnext
      rw [laws_FnSettings.l0, if_pos (by omega), if_pos (by omega), rdS s i hlt, rdS (s.map norm) i (by omega)]
      have en : (s.map norm)[i] = norm s[i] := by simp
      rw [en]
      by_cases c1 : s[i].f0 ≥ 0
      · rw [if_pos c1]
        by_cases c2 : s[i].f0 ≤ 65535
        · rw [if_pos c2]
          by_cases c3 : s[i].f1 ≥ 0
          · rw [if_pos c3]
            by_cases c4 : s[i].f1 ≤ 4294967295
            · rw [if_pos c4, if_pos (by omega)]
              have f0 : (norm s[i]).f0 = s[i].f0 := by show s[i].f0 % 65536 = _; omega
              have f1 : (norm s[i]).f1 = s[i].f1 := by show s[i].f1 % 4294967296 = _; omega
              rw [f0, f1]
              simp only [beq_self_eq_true, Bool.not_true, Bool.or_self]
              exact hj2
            · rw [if_neg c4]; exact hj2
          · rw [if_neg c3]; exact hj2
        · rw [if_neg c2]; exact hj2
      · rw [if_neg c1]; exact hj2
  refine ⟨K1 + K2 + K3 + K4 + 12 + 1, ?_⟩
  unfold laws_FnSettings.f
  refine bs hbig ?_
  rw [if_neg (by simpa using h)]
  refine bs (hd _ (by omega)) (bs (impl_putSettings s (by omega) _ (by omega)) (bs (hget _ (by omega)) ?_))
  rw [if_pos rfl]
  simp only
  rw [laws_FnSettings.j0, if_neg (by simp)]
  exact key s.length 0 (by omega) (by omega) _ (by omega)
end Go.Proofs.Ytkhcnmjgojkkoaa.Pure
