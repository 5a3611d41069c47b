/- For every input: FnExactFieldAt answers true: the program's FieldAt returns what the reference's returns, and leaves its table. No condition. -/
import Derived.Test.YtfcgadokmbooaaaDoorLibT1
import Derived.Test.YtfcgadokmbooaaaDoorLibFF
import Derived.Test.YtfcgadokmbooaaaDoorAx3
import Derived.Test.YtfcgadokmbooaaaDoorAx6
import Derived.Test.YtfcgadokmbooaaaDoorAx8
import Derived.Test.YtfcgadokmbooaaaDoorAx11
set_option linter.unusedVariables false
set_option linter.unusedSimpArgs false
namespace Go.Proofs.YtfcgadokmbooaaaDoor.Pure
open Go Go.RowKit Go.Proofs.YtfcgadokmbooaaaDoor.A Go.Proofs.YtfcgadokmbooaaaDoorW.PrintWords Go.Proofs.YtfcgadokmbooaaaDoorW.PrintLast Go.Proofs.YtfcgadokmbooaaaDoor.LibU Go.Proofs.YtfcgadokmbooaaaDoor.LibT1 Go.Proofs.YtfcgadokmbooaaaDoor.LibFF
theorem fieldAt_both (m : Int) (l : List S23) (n : Int) (hn : -9223372036854775808 ≤ n ∧ n ≤ 9223372036854775807) (hl : l.length ≤ 1048576) : ∃ a b c, spec_FieldAt.f m l n = some (a, b, c) ∧ ∀ k, 70 ≤ k → impl_FieldAt.f k m l n = some (a, b, c) := by
  by_cases h : n ≤ 61
  · obtain ⟨a, b, c, h1, h2⟩ := first_both n hn
    refine ⟨a, b, c, ?_, fun k hk => ?_⟩
    · unfold spec_FieldAt.f
      rw [if_pos h]
      exact bs h1 rfl
    · unfold impl_FieldAt.f
      rw [if_pos h]
      exact bs (h2 k hk) rfl
  · by_cases h2 : n - 62 ≥ (l.length : Int)
    · refine ⟨⟨#[]⟩, ⟨#[]⟩, false, ?_, fun k hk => ?_⟩
      · unfold spec_FieldAt.f
        rw [if_neg h, w64 (x := n - 62) (by omega) (by omega), if_pos h2]
      · unfold impl_FieldAt.f
        rw [if_neg h, w64 (x := n - 61) (by omega) (by omega), if_pos (by omega)]
    · refine ⟨(rd_T23 l (n - 62)).f0, (rd_T23 l (n - 62)).f1, true, ?_, fun k hk => ?_⟩
      · unfold spec_FieldAt.f
        rw [if_neg h, w64 (x := n - 62) (by omega) (by omega), if_neg h2, if_pos (by omega), if_pos (by omega)]
      · unfold impl_FieldAt.f
        rw [if_neg h, w64 (x := n - 61) (by omega) (by omega), if_neg (by omega), w64 (x := n - 61 - 1) (by omega) (by omega), if_pos (by omega), if_pos (by omega), show n - 61 - 1 = n - 62 by omega]
theorem FnExactFieldAt : laws_FnExactFieldAt.Pure := by
  intro m l n hm hl hw hn
  obtain ⟨K, r, hz, hr⟩ := szTable m l 1048576 (by omega) (by omega) hl hw
  have hb := bulk_nonneg l
  rcases hr with rfl | ⟨hr, hr2⟩
  · refine ⟨K, ?_⟩
    unfold laws_FnExactFieldAt.f
    exact bs (hz _ (Nat.le_refl _)) rfl
  · have hlen : (l.map conv).length = l.length := by simp
    have ht := toTable m (l := l) (by omega)
    obtain ⟨a, b, c, h1, h2⟩ := fieldAt_both m (l.map conv) n (wf64 hn) (by omega)
    have he := eqTable m (l := l.map conv) (by omega)
    have hf : laws_eqField.f a b a b = some true := by
      unfold laws_eqField.f
      rw [if_pos rfl, if_pos rfl]
    refine ⟨K + l.length + 80 + 1, ?_⟩
    unfold laws_FnExactFieldAt.f
    refine bs (hz _ (by omega)) (ifn (by omega) (bs (ht _ (by omega)) (bs h1 (bs (ht _ (by omega)) (bs (h2 _ (by omega)) (bs hf (ifp rfl ?_)))))))
    rw [laws_FnExactFieldAt.j0, if_neg (by simp)]
    exact bs (ht _ (by omega)) (bs (he _ (by omega)) rfl)
end Go.Proofs.YtfcgadokmbooaaaDoor.Pure
