/- For every input: FnExactReadFrames answers true: the program's ReadFrames returns what the reference's returns, in memory of its own. No condition. -/
import Derived.Test.YtlgfcpmihocheaaLibE
import Derived.Test.YtlgfcpmihocheaaLibGFs
import Derived.Test.YtlgfcpmihocheaaLibFk
import Derived.Test.YtlgfcpmihocheaaAx12
import Derived.Test.YtlgfcpmihocheaaAx16
import Derived.Test.YtlgfcpmihocheaaAx17
set_option linter.unusedVariables false
set_option linter.unusedSimpArgs false
namespace Go.Proofs.Ytlgfcpmihocheaa.Pure
open Go.RowKit Go.Proofs.Ytlgfcpmihocheaa.A Go.Proofs.YtlgfcpmihocheaaW.PrintWords Go.Proofs.YtlgfcpmihocheaaW.PrintLast Go.Proofs.Ytlgfcpmihocheaa.LibU Go.Proofs.Ytlgfcpmihocheaa.LibE Go.Proofs.Ytlgfcpmihocheaa.LibG Go.Proofs.Ytlgfcpmihocheaa.LibGF Go.Proofs.Ytlgfcpmihocheaa.LibFk
theorem gf_next (l : List Int) (a : Int) (ha : 0 ≤ a) (hb : BytesL l) (h : (gf l a).2.2.2.2.2 = 0) : a + 9 ≤ (gf l a).2.2.2.2.1 ∧ (gf l a).2.2.2.2.1 ≤ l.length ∧ ((gf l a).2.2.2.1.length : Int) + a + 9 ≤ (gf l a).2.2.2.2.1 := by
  unfold gf at h ⊢
  split
  · rename_i c
    rw [if_pos c] at h
    dsimp only at h
    omega
  rename_i c1
  rw [if_neg c1] at h
  split
  · rename_i c
    rw [if_pos c] at h
    dsimp only at h
    omega
  rename_i c2
  rw [if_neg c2] at h
  split
  · rename_i c
    rw [if_pos c] at h
    dsimp only at h
    omega
  rename_i c3
  have hg := gb_bounds (l := l) (a := a) (b := 3) hb (by omega)
  dsimp only
  refine ⟨by omega, by omega, ?_⟩
  rw [List.length_drop, List.length_take]
  omega
theorem both (l : List Int) (hl : l.length ≤ 1048576) (hb : BytesL l) (d : Nat) : ∀ (a : Nat) (x : List S59), a ≤ l.length → l.length - a ≤ d → tot x ≤ a →
    ∃ r K, (∀ k, K ≤ k → spec_ReadFrames.l0 k l x (a : Int) = some r) ∧ (∀ k, K ≤ k → impl_ReadFrames.l0 k l x (a : Int) = some r) ∧ tot r.1 ≤ 1048576 := by
  induction d with
  | zero =>
    intro a x ha hd hx
    obtain ⟨K1, g1⟩ := spec_gf (l := l) (a := (a : Int)) (by omega) hb (by omega)
    obtain ⟨K2, g2⟩ := impl_gf (l := l) (a := (a : Int)) (by omega) hb (by omega)
    by_cases c : (gf l a).2.2.2.2.2 = 0
    · have := gf_next l a (by omega) hb c
      omega
    · refine ⟨(x, (a : Int), (gf l a).2.2.2.2.2), K1 + K2 + 1, fun k hk => ?_, fun k hk => ?_, by dsimp only; omega⟩
      · obtain ⟨k, rfl⟩ := ix (show 0 < k by omega)
        rw [spec_ReadFrames.l0]
        exact bs (g1 k (by omega)) (ifn c rfl)
      · obtain ⟨k, rfl⟩ := ix (show 0 < k by omega)
        rw [impl_ReadFrames.l0]
        exact bs (g2 k (by omega)) (ifn c rfl)
  | succ d ih =>
    intro a x ha hd hx
    obtain ⟨K1, g1⟩ := spec_gf (l := l) (a := (a : Int)) (by omega) hb (by omega)
    obtain ⟨K2, g2⟩ := impl_gf (l := l) (a := (a : Int)) (by omega) hb (by omega)
    by_cases c : (gf l a).2.2.2.2.2 = 0
    · have h := gf_next l a (by omega) hb c
      obtain ⟨n, hn⟩ : ∃ n : Nat, (n : Int) = (gf l a).2.2.2.2.1 := ⟨((gf l a).2.2.2.2.1).toNat, by omega⟩
      have hxl := tot_len x
      obtain ⟨r, K, h1, h2, h3⟩ := ih n (x ++ [⟨(gf l a).1, (gf l a).2.1, (gf l a).2.2.1, (gf l a).2.2.2.1⟩]) (by omega) (by omega) (by rw [tot_snoc]; dsimp only; omega)
      rw [hn] at h1 h2
      refine ⟨r, K1 + K2 + K + 1, fun k hk => ?_, fun k hk => ?_, h3⟩
      · obtain ⟨k, rfl⟩ := ix (show 0 < k by omega)
        rw [spec_ReadFrames.l0]
        exact bs (g1 k (by omega)) (ifp c (ifp (by omega) (h1 k (by omega))))
      · obtain ⟨k, rfl⟩ := ix (show 0 < k by omega)
        rw [impl_ReadFrames.l0]
        exact bs (g2 k (by omega)) (ifp c (ifp (by omega) (h2 k (by omega))))
    · refine ⟨(x, (a : Int), (gf l a).2.2.2.2.2), K1 + K2 + 1, fun k hk => ?_, fun k hk => ?_, by dsimp only; omega⟩
      · obtain ⟨k, rfl⟩ := ix (show 0 < k by omega)
        rw [spec_ReadFrames.l0]
        exact bs (g1 k (by omega)) (ifn c rfl)
      · obtain ⟨k, rfl⟩ := ix (show 0 < k by omega)
        rw [impl_ReadFrames.l0]
        exact bs (g2 k (by omega)) (ifn c rfl)
theorem FnExactReadFrames : laws_FnExactReadFrames.Pure := by
  intro l _ hl2 hw
  by_cases h : (l.length : Int) > 1048576
  · exact ⟨0, by unfold laws_FnExactReadFrames.f; rw [if_pos h]⟩
  have hb : BytesL l := fun x hx => wf8 (hw x hx)
  obtain ⟨K1, h1⟩ := toByteS (l := l) (by omega)
  obtain ⟨⟨F, p, c⟩, K2, h2, h3, h4⟩ := both l (by omega) hb l.length 0 [] (by omega) (by omega) (by simp [tot])
  dsimp only at h4
  have hT := tot_nonneg F
  have hs : ∀ k, K2 ≤ k → spec_ReadFrames.f k l = some (F, p, c) := fun k hk => h2 k hk
  have hi : ∀ k, K2 ≤ k → impl_ReadFrames.f k l = some (F, p, c) := fun k hk => h3 k hk
  obtain ⟨m1, m2⟩ := markHeldF F (by omega)
  have e1 := eqF F (by omega)
  have e2 := eqB l (by omega)
  have mb := markBf l (by omega)
  have hc : (c != c) = false := by simp
  refine ⟨K1 + K2 + 3000000 + 1 + 1 + 1, ?_⟩
  unfold laws_FnExactReadFrames.f
  refine ifn h (bs (h1 _ (by omega)) (bs (hs _ (by omega)) (bs (h1 _ (by omega)) (bs (hi _ (by omega)) (bs (e1 _ (by omega)) (ifp rfl (ifp rfl ?_)))))))
  dsimp only
  rw [hc, laws_FnExactReadFrames.j0, if_neg (by decide)]
  refine bs (h1 _ (by omega)) (bs (e2 _ (by omega)) (ifp rfl (bs (mb _ (by omega)) (ifn (by dsimp only; omega) (bs (e1 _ (by omega)) (ifp rfl (ifp rfl ?_)))))))
  rw [hc, laws_FnExactReadFrames.j1, if_neg (by decide)]
  refine bs (m1 _ (by omega)) (bs (m2 _ (by omega)) (ifn (by omega) (ifp rfl (bs (h1 _ (by omega)) (bs (hi _ (by omega)) (bs (e1 _ (by omega)) (ifp rfl (ifp rfl ?_))))))))
  dsimp only
  rw [hc, laws_FnExactReadFrames.j2, if_neg (by decide)]
  exact bs (m2 _ (by omega)) (ifn (by omega) (ifp rfl rfl))
end Go.Proofs.Ytlgfcpmihocheaa.Pure
