/- For every input: FnResized answers true: a drawn table that is made smaller has its newest fields, as many as fit. No condition. -/
import Derived.Test.YtlgfcpmihocheaaLibRz
import Derived.Test.YtlgfcpmihocheaaLibTo
import Derived.Test.YtlgfcpmihocheaaLibDt
import Derived.Test.YtlgfcpmihocheaaAx2
import Derived.Test.YtlgfcpmihocheaaAx12
import Derived.Test.YtlgfcpmihocheaaAx17
import Derived.Test.YtlgfcpmihocheaaAx20
import Derived.Test.YtlgfcpmihocheaaAx21
set_option linter.unusedVariables false
set_option linter.unusedSimpArgs false
namespace Go.Proofs.Ytlgfcpmihocheaa.Pure
open Go Go.RowKit Go.Proofs.Ytlgfcpmihocheaa.A Go.Proofs.YtlgfcpmihocheaaW.PrintWords Go.Proofs.YtlgfcpmihocheaaW.PrintLast Go.Proofs.YtlgfcpmihocheaaW.PrintMore Go.Proofs.Ytlgfcpmihocheaa.LibU Go.Proofs.Ytlgfcpmihocheaa.LibD Go.Proofs.Ytlgfcpmihocheaa.LibRz Go.Proofs.Ytlgfcpmihocheaa.LibDt
theorem same_l (l : List S33) (hl : l.length ≤ 1048580) (d : Nat) : ∀ (k : Nat) (i : Nat), i ≤ l.length → l.length - i = d → d < k → laws_sameFields.l0 k l l (i : Int) = some true := by
  induction d with
  | zero =>
    intro k i hi hd hk
    obtain ⟨k, rfl⟩ := ix (show 0 < k by omega)
    simp only [laws_sameFields.l0]
    rw [if_neg (by omega)]
  | succ d ih =>
    intro k i hi hd hk
    obtain ⟨k, rfl⟩ := ix (show 0 < k by omega)
    simp only [laws_sameFields.l0]
    rw [if_pos (by omega), if_pos (by omega), if_pos (by omega), w64 (by omega) (by omega)]
    simp only [beq_self_eq_true, Bool.not_true, Bool.or_self, Bool.false_eq_true, if_false]
    exact ih k (i + 1) (by omega) (by omega) (by omega)
theorem same (l : List S33) (hl : l.length ≤ 1048580) : ∀ k, l.length < k → laws_sameFields.f k l l = some true := by
  intro k hk
  unfold laws_sameFields.f
  rw [if_pos rfl]
  exact same_l l hl l.length k 0 (by omega) (by omega) hk
theorem drawResize (l : List Int) (hl : l.length ≤ 140737488351232) : ∃ K m t n, (∀ k, K ≤ k → spec_DrawResize.f k l = some (m, t, n)) ∧ t.length ≤ 8 ∧ (∀ x ∈ t, Small x) ∧ -1 ≤ m ∧ m ≤ 4097 ∧ -1 ≤ n ∧ n ≤ 4097 := by
  obtain ⟨K, q, h1, h2⟩ := l1New l hl
  obtain ⟨m, t, i1, q1, e1, a1, a2, a3, a4, hi1⟩ := l4Any l 0 q h2
  obtain ⟨n, i2, q2, e2, m2, hi2⟩ := l1Int l i1 q1 [0, 50, 100, 4096, 4097, (-1)] (by decide) hi1
  have hn : -1 ≤ n ∧ n ≤ 4097 := by
    simp only [List.mem_cons, List.mem_nil_iff, or_false] at m2
    omega
  refine ⟨K + 2000, m, t, n, fun k hk => ?_, a1, a2, a3, a4, hn.1, hn.2⟩
  unfold spec_DrawResize.f
  exact bs (h1 k (by omega)) (bs (e1 k (by omega)) (bs e2 rfl))
theorem FnResized : laws_FnResized.Pure := by
  intro l h1 h2 hw
  obtain ⟨K, m, t, n, hd, ht, hs, hm0, hm1, hn0, hn1⟩ := drawResize l (by omega)
  have hS0 := S_small t hs
  have hS1 := S_nonneg t
  have hS : S t ≤ 1000000000 := by omega
  have hto := sTok t m (by omega) hS
  have hti := iTok t m (by omega) hS
  refine ⟨K + 5002, ?_⟩
  unfold laws_FnResized.f
  obtain ⟨b, hb⟩ : ∃ b, laws_big.f l = some b := by unfold laws_big.f; exact ⟨_, rfl⟩
  refine bs hb ?_
  cases b with
  | true => exact ifp rfl rfl
  | false =>
  refine ifn (by decide) (bs (hd _ (by omega)) ?_)
  by_cases c : 0 ≤ n ∧ n ≤ 4096
  · by_cases ok : 0 ≤ m ∧ m ≤ 4096 ∧ S t ≤ m
    · rw [decide_eq_true ok] at hto hti
      have hr : ∀ k, 100 ≤ k → impl_Resize.f k m t n = some (n, impl_Resize.cut n t) := fun k hk => by
        unfold impl_Resize.f
        rw [if_pos (by omega)]
        refine bs (inRange n 0 4096) ?_
        rw [decide_eq_true c]
        exact ifp rfl (bs (hti k (by omega)) (ifp rfl rfl))
      obtain ⟨j, hj, hcut, hS2, hS3⟩ := cut_is t n (by omega) hS
      have hjl : (t.take j).length = j := by rw [List.length_take]; omega
      have hSt := S_mono t j t.length hj (Nat.le_refl _)
      rw [List.take_length] at hSt
      refine bs (hr _ (by omega)) ?_
      refine bs (hto _ (by omega)) ?_
      dsimp only
      rw [if_pos rfl, if_neg (by omega), hcut, decide_eq_false (by omega : ¬ n > 4096)]
      rw [laws_FnResized.j0, if_neg (by decide), if_pos rfl]
      have hto2 := iTok (t.take j) n (by omega) (by omega)
      rw [decide_eq_true (by omega : 0 ≤ n ∧ n ≤ 4096 ∧ S (t.take j) ≤ n)] at hto2
      refine bs (hto2 _ (by omega)) ?_
      rw [if_pos rfl, if_neg (by omega), if_pos (by omega), if_pos (by omega), hjl, Int.toNat_natCast]
      refine bs (same (t.take j) (by omega) _ (by omega)) ?_
      rw [laws_FnResized.j1, if_neg (by decide), hjl]
      by_cases cj : (j : Int) < (t.length : Int)
      · have hrd : rd_T33 t (j : Int) = t.getD j z33 := by unfold rd_T33; rw [Int.toNat_natCast]
        have h3 := hS3 (by omega)
        have h4 := S_take t j (by omega)
        have h5 := S_mono t (j + 1) t.length (by omega) (Nat.le_refl _)
        rw [List.take_length] at h5
        have h6 := S_nonneg (t.take j)
        have h7 := sz_pos (t.getD j z33)
        rw [if_pos cj, if_pos (by omega)]
        refine bs (isize (t.take j) n (by omega) (by omega) _ (by omega)) ?_
        rw [hrd]
        unfold sz at h4 h7
        congr 1
        rw [decide_eq_true_eq, w64 (x := S (t.take j) + _) (by omega) (by omega), w64 (x := S (t.take j) + _ + _) (by omega) (by omega), w64 (by omega) (by omega)]
        omega
      · rw [if_neg cj]
    · rw [decide_eq_false ok] at hto hti
      have hr : ∀ k, 100 ≤ k → impl_Resize.f k m t n = some (m, t) := fun k hk => by
        unfold impl_Resize.f
        rw [if_pos (by omega)]
        refine bs (inRange n 0 4096) ?_
        rw [decide_eq_true c]
        exact ifp rfl (bs (hti k (by omega)) (ifn (by decide) rfl))
      refine bs (hr _ (by omega)) (bs (hto _ (by omega)) ?_)
      rw [if_neg (by decide), laws_FnResized.j0, if_pos rfl, if_pos rfl]
      exact bs (same t (by omega) _ (by omega)) rfl
  · have hr : ∀ k, 100 ≤ k → impl_Resize.f k m t n = some (m, t) := fun k hk => by
      unfold impl_Resize.f
      rw [if_pos (by omega)]
      refine bs (inRange n 0 4096) ?_
      rw [decide_eq_false c]
      exact ifn (by decide) rfl
    have hend : laws_FnResized.j0 (K + 5002) n true m t m t = some true := by
      rw [laws_FnResized.j0, if_pos rfl, if_pos rfl]
      exact bs (same t (by omega) _ (by omega)) rfl
    refine bs (hr _ (by omega)) (bs (hto _ (by omega)) ?_)
    dsimp only
    by_cases ok : 0 ≤ m ∧ m ≤ 4096 ∧ S t ≤ m
    · rw [decide_eq_true ok, if_pos rfl]
      by_cases cn : n < 0
      · rw [if_pos cn]
        exact hend
      · rw [if_neg cn, decide_eq_true (by omega : n > 4096)]
        exact hend
    · rw [decide_eq_false ok, if_neg (by decide)]
      exact hend
end Go.Proofs.Ytlgfcpmihocheaa.Pure
