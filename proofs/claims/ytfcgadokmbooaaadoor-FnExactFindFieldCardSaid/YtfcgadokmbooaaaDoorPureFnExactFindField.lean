/- For every input: FnExactFindField answers true: the program's FindField returns what the reference's returns, and leaves its table. No condition. -/
import Derived.Test.YtfcgadokmbooaaaDoorLibZf
import Derived.Test.YtfcgadokmbooaaaDoorAx2
import Derived.Test.YtfcgadokmbooaaaDoorAx4
import Derived.Test.YtfcgadokmbooaaaDoorAx9
import Derived.Test.YtfcgadokmbooaaaDoorAx12
import Derived.Test.YtfcgadokmbooaaaDoorAx13
import Derived.Test.YtfcgadokmbooaaaDoorAx14
import Derived.Test.YtfcgadokmbooaaaDoorAx15
set_option linter.unusedVariables false
set_option linter.unusedSimpArgs false
namespace Go.Proofs.YtfcgadokmbooaaaDoor.Pure
open Go Go.RowKit Go.Proofs.YtfcgadokmbooaaaDoor.A Go.Proofs.YtfcgadokmbooaaaDoorW.PrintWords Go.Proofs.YtfcgadokmbooaaaDoorW.PrintLast Go.Proofs.YtfcgadokmbooaaaDoor.LibU Go.Proofs.YtfcgadokmbooaaaDoor.LibT1 Go.Proofs.YtfcgadokmbooaaaDoor.LibFF
theorem concat (a b : List S23) (h : a.length + b.length ≤ 2000000) : ∀ k, 10 ≤ k → impl_Field_36.f k [a, b] = some (a ++ b) := by
  intro k hk
  obtain ⟨k, rfl⟩ : ∃ m, k = m + 10 := ⟨k - 10, by omega⟩
  have r0 : rd_L3 [a, b] 0 = a := rfl
  have r1 : rd_L3 [a, b] 1 = b := rfl
  have hl : ((([a, b] : List (List S23)).length : Nat) : Int) = 2 := rfl
  have w1 : wrap64 ((0 : Int) + (a.length : Int)) = (a.length : Int) := by rw [w64 (by omega) (by omega)]; omega
  have w2 : wrap64 ((a.length : Int) + (b.length : Int)) = (a.length : Int) + (b.length : Int) := w64 (by omega) (by omega)
  have w3 : wrap64 ((0 : Int) + 1) = 1 := by unfold wrap64; omega
  have w4 : wrap64 ((1 : Int) + 1) = 2 := by unfold wrap64; omega
  have hg : impl_Field_48.f ([] : List S23) ((a.length : Int) + (b.length : Int)) = some [] := by
    unfold impl_Field_48.f
    rw [if_pos ⟨rfl, by omega, by omega⟩]
  unfold impl_Field_36.f
  rw [hl, impl_Field_36.l0, if_pos (by decide), if_pos (by decide), hl, if_pos (by decide), r0, w1, if_neg (by omega), w3]
  rw [impl_Field_36.l0, if_pos (by decide), if_pos (by decide), hl, if_pos (by decide), r1, w2, if_neg (by omega), w4]
  rw [impl_Field_36.l0, if_neg (by decide)]
  refine bs hg ?_
  rw [hl]
  rw [impl_Field_36.l1, if_pos (by decide), if_pos (by decide), hl, if_pos (by decide), r0, if_pos (by simp; omega), w3]
  rw [impl_Field_36.l1, if_pos (by decide), if_pos (by decide), hl, if_pos (by decide), r1, if_pos (by simp; omega), w4]
  rw [impl_Field_36.l1, if_neg (by decide), List.nil_append]
theorem rd_left (F l : List S23) (i : Nat) (h : i < F.length) : rd_T23 (F ++ l) (i : Int) = rd_T23 F (i : Int) := by
  unfold rd_T23
  rw [Int.toNat_natCast, List.getD_eq_getElem?_getD, List.getD_eq_getElem?_getD, List.getElem?_append_left h]
theorem rd_right (F l : List S23) (i j : Nat) (h : i = F.length + j) : rd_T23 (F ++ l) (i : Int) = rd_T23 l (j : Int) := by
  unfold rd_T23
  rw [Int.toNat_natCast, Int.toNat_natCast, List.getD_eq_getElem?_getD, List.getD_eq_getElem?_getD, List.getElem?_append_right (by omega), show i - F.length = j by omega]
theorem find_both (F l : List S23) (hF : F.length = 61) (hl : l.length ≤ 1048576) (m : Int) (n v : ByteArray) (d : Nat) : ∀ (i : Nat) (nm : Int), i ≤ 61 + l.length → 61 + l.length - i = d →
    ∃ r : Int × Bool, (∀ k, 2 * d + 3 ≤ k → spec_FindField.l0 k F nm ((i + 1 : Nat) : Int) m l n v = some r) ∧ (∀ k, d + 2 ≤ k → impl_FindField.l0 k nm (F ++ l) ((F ++ l).length : Int) (i : Int) n v = some r) := by
  have hL : ((F ++ l).length : Int) = 61 + (l.length : Int) := by rw [List.length_append, hF]; omega
  have hw : wrap64 (61 + (l.length : Int)) = 61 + (l.length : Int) := w64 (by omega) (by omega)
  induction d with
  | zero =>
    intro i nm hi hd
    refine ⟨(nm, false), fun k hk => ?_, fun k hk => ?_⟩
    · obtain ⟨k, rfl⟩ := ix (show 0 < k by omega)
      rw [spec_FindField.l0, hw, if_neg (by omega)]
    · obtain ⟨k, rfl⟩ := ix (show 0 < k by omega)
      rw [impl_FindField.l0, if_neg (by omega)]
  | succ d ih =>
    intro i nm hi hd
    obtain ⟨x, hx⟩ : ∃ x, x = rd_T23 (F ++ l) (i : Int) := ⟨_, rfl⟩
    have e1 : wrap64 ((i : Int) + 1) = ((i + 1 : Nat) : Int) := by rw [w64 (by omega) (by omega)]; omega
    have e2 : wrap64 (((i + 1 : Nat) : Int) + 1) = ((i + 1 + 1 : Nat) : Int) := by rw [w64 (by omega) (by omega)]; omega
    have hs : ∀ k, spec_FindField.l0 (k + 1) F nm ((i + 1 : Nat) : Int) m l n v = spec_FindField.j1 k F nm ((i + 1 : Nat) : Int) m l n v x.f0 x.f1 := by
      intro k
      rw [spec_FindField.l0, hw, if_pos (by omega)]
      by_cases h : i < 61
      · have e3 : wrap64 (((i + 1 : Nat) : Int) - 1) = (i : Int) := by rw [w64 (by omega) (by omega)]; omega
        rw [if_pos (by omega), e3, if_pos (by omega), if_pos (by omega), hx, rd_left F l i (by omega)]
      · have e3 : wrap64 (((i + 1 : Nat) : Int) - 62) = ((i - 61 : Nat) : Int) := by rw [w64 (by omega) (by omega)]; omega
        rw [if_neg (by omega), e3, if_pos (by omega), if_pos (by omega), hx, rd_right F l i (i - 61) (by omega)]
    obtain ⟨c, hc⟩ : ∃ c, c = (x.f0.toList == n.toList && (x.f1.toList == v.toList)) := ⟨_, rfl⟩
    have hi2 : ∀ k, impl_FindField.l0 (k + 1) nm (F ++ l) ((F ++ l).length : Int) (i : Int) n v = (if c = true then (some (((i + 1 : Nat) : Int), true)) else (if nm = 0 then (if x.f0.toList = n.toList then (impl_FindField.l0 k ((i + 1 : Nat) : Int) (F ++ l) ((F ++ l).length : Int) ((i + 1 : Nat) : Int) n v) else (impl_FindField.l0 k nm (F ++ l) ((F ++ l).length : Int) ((i + 1 : Nat) : Int) n v)) else (impl_FindField.l0 k nm (F ++ l) ((F ++ l).length : Int) ((i + 1 : Nat) : Int) n v))) := by
      intro k
      rw [impl_FindField.l0, if_pos (by omega), if_pos (by omega), if_pos (by omega), ← hx, e1, hc]
    have hj : ∀ k, spec_FindField.j1 (k + 1) F nm ((i + 1 : Nat) : Int) m l n v x.f0 x.f1 = (if c = true then (some (((i + 1 : Nat) : Int), true)) else (if nm = 0 then (if x.f0.toList = n.toList then (spec_FindField.l0 k F ((i + 1 : Nat) : Int) ((i + 1 + 1 : Nat) : Int) m l n v) else (spec_FindField.l0 k F nm ((i + 1 + 1 : Nat) : Int) m l n v)) else (spec_FindField.l0 k F nm ((i + 1 + 1 : Nat) : Int) m l n v))) := by
      intro k
      rw [spec_FindField.j1, e2, hc]
    have fin : ∀ (r : Int × Bool) (nm' : Int), ((∀ k, 2 * d + 3 ≤ k → spec_FindField.l0 k F nm' ((i + 1 + 1 : Nat) : Int) m l n v = some r) ∧ (∀ k, d + 2 ≤ k → impl_FindField.l0 k nm' (F ++ l) ((F ++ l).length : Int) ((i + 1 : Nat) : Int) n v = some r)) →
        (∀ k, (if c = true then (some (((i + 1 : Nat) : Int), true)) else (if nm = 0 then (if x.f0.toList = n.toList then (spec_FindField.l0 k F ((i + 1 : Nat) : Int) ((i + 1 + 1 : Nat) : Int) m l n v) else (spec_FindField.l0 k F nm ((i + 1 + 1 : Nat) : Int) m l n v)) else (spec_FindField.l0 k F nm ((i + 1 + 1 : Nat) : Int) m l n v))) = spec_FindField.l0 k F nm' ((i + 1 + 1 : Nat) : Int) m l n v) →
        (∀ k, (if c = true then (some (((i + 1 : Nat) : Int), true)) else (if nm = 0 then (if x.f0.toList = n.toList then (impl_FindField.l0 k ((i + 1 : Nat) : Int) (F ++ l) ((F ++ l).length : Int) ((i + 1 : Nat) : Int) n v) else (impl_FindField.l0 k nm (F ++ l) ((F ++ l).length : Int) ((i + 1 : Nat) : Int) n v)) else (impl_FindField.l0 k nm (F ++ l) ((F ++ l).length : Int) ((i + 1 : Nat) : Int) n v))) = impl_FindField.l0 k nm' (F ++ l) ((F ++ l).length : Int) ((i + 1 : Nat) : Int) n v) →
        ∃ r : Int × Bool, (∀ k, 2 * (d + 1) + 3 ≤ k → spec_FindField.l0 k F nm ((i + 1 : Nat) : Int) m l n v = some r) ∧ (∀ k, d + 1 + 2 ≤ k → impl_FindField.l0 k nm (F ++ l) ((F ++ l).length : Int) (i : Int) n v = some r) := by
      rintro r nm' ⟨h1, h2⟩ g1 g2
      refine ⟨r, fun k hk => ?_, fun k hk => ?_⟩
      · obtain ⟨k, rfl⟩ : ∃ q, k = q + 1 + 1 := ⟨k - 2, by omega⟩
        rw [hs, hj, g1]
        exact h1 k (by omega)
      · obtain ⟨k, rfl⟩ := ix (show 0 < k by omega)
        rw [hi2, g2]
        exact h2 k (by omega)
    by_cases h1 : c = true
    · refine ⟨(((i + 1 : Nat) : Int), true), fun k hk => ?_, fun k hk => ?_⟩
      · obtain ⟨k, rfl⟩ : ∃ q, k = q + 1 + 1 := ⟨k - 2, by omega⟩
        rw [hs, hj, if_pos h1]
      · obtain ⟨k, rfl⟩ := ix (show 0 < k by omega)
        rw [hi2, if_pos h1]
    · obtain ⟨r1, hr1⟩ := ih (i + 1) ((i + 1 : Nat) : Int) (by omega) (by omega)
      obtain ⟨r2, hr2⟩ := ih (i + 1) nm (by omega) (by omega)
      by_cases h2 : nm = 0
      · by_cases h3 : x.f0.toList = n.toList
        · exact fin r1 _ hr1 (fun k => by rw [if_neg h1, if_pos h2, if_pos h3]) (fun k => by rw [if_neg h1, if_pos h2, if_pos h3])
        · exact fin r2 _ hr2 (fun k => by rw [if_neg h1, if_pos h2, if_neg h3]) (fun k => by rw [if_neg h1, if_pos h2, if_neg h3])
      · exact fin r2 _ hr2 (fun k => by rw [if_neg h1, if_neg h2]) (fun k => by rw [if_neg h1, if_neg h2])
theorem fields_len : (fields.map fieldOf).length = 61 := by decide +kernel
theorem findField (m : Int) (l : List S23) (n v : ByteArray) (hl : l.length ≤ 1048576) : ∃ r : Int × Bool, (∀ k, 2 * l.length + 300 ≤ k → spec_FindField.f k m l n v = some r) ∧ (∀ k, 2 * l.length + 300 ≤ k → impl_FindField.f k m l n v = some r) := by
  obtain ⟨F, hFe⟩ : ∃ F, F = fields.map fieldOf := ⟨_, rfl⟩
  have hF : F.length = 61 := by rw [hFe]; exact fields_len
  have hf := firsts
  have hsf := spec_firsts
  rw [← hFe] at hsf
  obtain ⟨r, h1, h2⟩ := find_both F l hF hl m n v (61 + l.length) 0 0 (by omega) (by omega)
  refine ⟨r, fun k hk => ?_, fun k hk => ?_⟩
  · unfold spec_FindField.f
    refine bs hsf ?_
    exact h1 k (by omega)
  · unfold impl_FindField.f
    have hfk := hf k (by omega)
    rw [← hFe] at hfk
    refine bs hfk ?_
    refine bs (concat F l (by omega) k (by omega)) ?_
    exact h2 k (by omega)
theorem szField (n v : ByteArray) (left : Int) (h0 : 0 ≤ left) (h1 : left ≤ 1048576) (hn : n.size ≤ 9223372036854775807) (hv : v.size ≤ 9223372036854775807) : ∃ q, laws_szField.f n v left = some q := by
  unfold laws_szField.f
  split
  · exact ⟨_, rfl⟩
  · split
    · exact ⟨_, rfl⟩
    · exact ⟨_, rfl⟩
theorem FnExactFindField : laws_FnExactFindField.Pure := by
  intro m l n v hm hl hw hn hv
  obtain ⟨K, r, hz, hr⟩ := szTable m l 1048576 (by omega) (by omega) hl hw
  have hb := bulk_nonneg l
  rcases hr with rfl | ⟨hr, hr2⟩
  · refine ⟨K, ?_⟩
    unfold laws_FnExactFindField.f
    exact bs (hz _ (Nat.le_refl _)) rfl
  · obtain ⟨q, hq⟩ := szField n v r (by omega) (by omega) hn hv
    by_cases hq0 : q < 0
    · refine ⟨K, ?_⟩
      unfold laws_FnExactFindField.f
      exact bs (hz _ (Nat.le_refl _)) (ifn (by omega) (bs hq (ifp hq0 rfl)))
    · have hlen : (l.map conv).length = l.length := by simp
      have ht := toTable m (l := l) (by omega)
      have hfd : laws_toField.f n v = some (n, v) := rfl
      obtain ⟨p, h1, h2⟩ := findField m (l.map conv) n v (by omega)
      have he := eqTable m (l := l.map conv) (by omega)
      refine ⟨K + 2 * l.length + 400 + 1, ?_⟩
      unfold laws_FnExactFindField.f
      refine bs (hz _ (by omega)) (ifn (by omega) (bs hq (ifn hq0 (bs (ht _ (by omega)) (bs hfd (bs (h1 _ (by omega)) (bs (ht _ (by omega)) (bs hfd (bs (h2 _ (by omega)) (ifp rfl ?_))))))))))
      have hbb : (p.2 != p.2) = false := by simp
      rw [hbb, laws_FnExactFindField.j0, if_neg (by decide)]
      exact bs (ht _ (by omega)) (bs (he _ (by omega)) rfl)
end Go.Proofs.YtfcgadokmbooaaaDoor.Pure
