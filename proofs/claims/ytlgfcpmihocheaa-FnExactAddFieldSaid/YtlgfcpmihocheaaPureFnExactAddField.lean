/- For every input: FnExactAddField answers true: the program's AddField returns what the reference's returns, in memory of its own. No condition. -/
import Derived.Test.YtlgfcpmihocheaaLibMt
import Derived.Test.YtlgfcpmihocheaaAx1
import Derived.Test.YtlgfcpmihocheaaAx3
import Derived.Test.YtlgfcpmihocheaaAx15
import Derived.Test.YtlgfcpmihocheaaAx17
import Derived.Test.YtlgfcpmihocheaaAx18
import Derived.Test.YtlgfcpmihocheaaAx20
import Derived.Test.YtlgfcpmihocheaaAx25
import Derived.Test.YtlgfcpmihocheaaAx26
set_option linter.unusedVariables false
set_option linter.unusedSimpArgs false
namespace Go.Proofs.Ytlgfcpmihocheaa.Pure
open Go Go.RowKit Go.Proofs.Ytlgfcpmihocheaa.A Go.Proofs.YtlgfcpmihocheaaW.PrintWords Go.Proofs.YtlgfcpmihocheaaW.PrintLast Go.Proofs.YtlgfcpmihocheaaW.PrintMore Go.Proofs.Ytlgfcpmihocheaa.LibU Go.Proofs.Ytlgfcpmihocheaa.LibT1 Go.Proofs.Ytlgfcpmihocheaa.LibRz Go.Proofs.Ytlgfcpmihocheaa.LibMt
theorem addField (m : Int) (l : List S33) (x : S33) (hl : l.length + 1 ≤ 1048577) (hS : S (x :: l) ≤ 1000000000) : ∃ a b, b.length ≤ l.length + 1 ∧ (∀ k, 4000000 < k → spec_AddField.f k m l x.f0 x.f1 = some (a, b)) ∧ (∀ k, 4000000 < k → impl_AddField.f k m l x.f0 x.f1 = some (a, b)) := by
  obtain ⟨r, h1, h2⟩ := tableOk_both m l (by omega)
  have hcp : spec_l4Copy.f m l = some (m, l) := by
    unfold spec_l4Copy.f
    rw [Option.bind_some, if_pos (by rw [List.length_nil]; omega), List.nil_append]
  cases r with
  | true =>
    have hm : 0 ≤ m ∧ m ≤ 4096 := by
      have h := h2 4000001 (by omega)
      unfold impl_TableOk.f at h
      rw [inRange, Option.bind_some] at h
      by_cases c : (0 : Int) ≤ m ∧ m ≤ 4096
      · exact c
      · rw [decide_eq_false c, if_neg (by decide)] at h
        cases h
    have hf := fit_cut (x :: l) m (by simp only [List.length_cons]; omega) (by omega) hS
    have hb : (impl_AddField.cut m (x :: l)).length ≤ l.length + 1 := by
      unfold impl_AddField.cut
      split
      · simp
      · rw [List.length_take]; simp only [List.length_cons]; omega
    refine ⟨m, impl_AddField.cut m (x :: l), hb, fun k hk => ?_, fun k hk => ?_⟩
    · unfold spec_AddField.f
      refine bs (h1 k (by omega)) (ifp rfl ?_)
      have ha : spec_l4Add.f k m l x.f0 x.f1 = some (m, impl_AddField.cut m (x :: l)) := by
        unfold spec_l4Add.f
        rw [Option.bind_some, if_pos (by simp only [List.length_cons, List.length_nil]; omega)]
        exact bs (hf k (by simp only [List.length_cons]; omega)) rfl
      exact bs ha rfl
    · unfold impl_AddField.f
      rw [if_pos (by omega)]
      exact bs (h2 k (by omega)) (ifp rfl rfl)
  | false =>
    refine ⟨m, l, by omega, fun k hk => ?_, fun k hk => ?_⟩
    · unfold spec_AddField.f
      exact bs (h1 k (by omega)) (ifn (by decide) (bs hcp rfl))
    · unfold impl_AddField.f
      rw [if_pos (by omega)]
      exact bs (h2 k (by omega)) (ifn (by decide) rfl)
theorem szField (f0 f1 : ByteArray) (left : Int) (h0 : 0 ≤ left) (h1 : left ≤ 1048576) (w0 : f0.size ≤ 9223372036854775807) (w1 : f1.size ≤ 9223372036854775807) : ∃ r, laws_szField.f f0 f1 left = some r ∧ (r < 0 ∨ (r = left - (f0.size : Int) - f1.size ∧ 0 ≤ r)) := by
  unfold laws_szField.f
  rw [w64 (x := left - (f0.size : Int)) (by omega) (by omega)]
  by_cases c1 : left - (f0.size : Int) < 0
  · exact ⟨-1, by rw [if_pos c1], .inl (by omega)⟩
  · rw [if_neg c1, w64 (by omega) (by omega)]
    by_cases c2 : left - (f0.size : Int) - f1.size < 0
    · exact ⟨-1, by rw [if_pos c2], .inl (by omega)⟩
    · exact ⟨_, by rw [if_neg c2], .inr ⟨rfl, by omega⟩⟩
theorem FnExactAddField : laws_FnExactAddField.Pure := by
  intro m l f0 f1 hm hl hw w0 w1
  obtain ⟨K, r, hz, hr⟩ := szTable m l 1048576 (by omega) (by omega) hl hw
  have hb := bulk_nonneg l
  rcases hr with rfl | ⟨hr, hr2⟩
  · refine ⟨K, ?_⟩
    unfold laws_FnExactAddField.f
    exact bs (hz _ (Nat.le_refl _)) rfl
  · obtain ⟨r2, hz2, hr3⟩ := szField f0 f1 r (by omega) (by omega) w0 w1
    rcases hr3 with hr3 | ⟨hr3, hr4⟩
    · refine ⟨K, ?_⟩
      unfold laws_FnExactAddField.f
      exact bs (hz _ (Nat.le_refl _)) (ifn (by omega) (bs hz2 (ifp hr3 rfl)))
    · have hlen : (l.map conv).length = l.length := by simp
      have hS : S ((⟨f0, f1⟩ : S33) :: l.map conv) ≤ 1000000000 := by
        simp only [S, sz]
        rw [S_conv]
        omega
      have ht := toTable m (l := l) (by omega)
      have htf : laws_toField.f f0 f1 = some (f0, f1) := rfl
      obtain ⟨a, b, hbl, h1, h2⟩ := addField m (l.map conv) ⟨f0, f1⟩ (by omega) hS
      have he := eqTable m (l := l.map conv) (by omega)
      have hf := eqTable a (l := b) (by omega)
      obtain ⟨y1, hy1, _⟩ := markHeld m (l.map conv) (by omega)
      obtain ⟨y2, hy2, hy3⟩ := markHeld a b (by omega)
      have hnb : (!true) = false := rfl
      refine ⟨K + l.length + 20000000 + 1, ?_⟩
      unfold laws_FnExactAddField.f
      refine bs (hz _ (by omega)) (ifn (by omega) (bs hz2 (ifn (by omega) (bs (ht _ (by omega)) (bs htf (bs (h1 _ (by omega)) (bs (ht _ (by omega)) (bs htf (bs (h2 _ (by omega)) (bs (hf _ (by omega)) (ifp rfl (bs (ht _ (by omega)) (bs (he _ (by omega)) (ifp rfl (bs (hy1 _ (by omega)) (ifn (by omega) (bs (hf _ (by omega)) ?_)))))))))))))))))
      rw [hnb, laws_FnExactAddField.j0, if_neg (by decide)]
      refine bs (hy2 _ (by omega)) (bs (hy3 _ (by omega) _) (ifn (by omega) (ifp rfl (bs (ht _ (by omega)) (bs htf (bs (h2 _ (by omega)) (bs (hf _ (by omega)) (ifp rfl (bs (hy3 _ (by omega) _) (ifn (by omega) (ifp rfl rfl)))))))))))
end Go.Proofs.Ytlgfcpmihocheaa.Pure
