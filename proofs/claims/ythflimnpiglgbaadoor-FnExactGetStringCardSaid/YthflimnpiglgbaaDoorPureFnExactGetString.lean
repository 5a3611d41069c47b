/- For every input: FnExactGetString answers true: the program's GetString returns what the reference's returns. No condition. -/
import Derived.Test.YthflimnpiglgbaaDoorLibZ3
import Derived.Test.YthflimnpiglgbaaDoorAx18
import Derived.Test.YthflimnpiglgbaaDoorAx37
import Derived.Test.YthflimnpiglgbaaDoorAx40
import Derived.Test.YthflimnpiglgbaaDoorAx41
set_option linter.unusedVariables false
set_option linter.unusedSimpArgs false
namespace Go.Proofs.YthflimnpiglgbaaDoor.Pure
open Go.RowKit Go.Proofs.YthflimnpiglgbaaDoor.A Go.Proofs.YthflimnpiglgbaaDoorW.PrintWords Go.Proofs.YthflimnpiglgbaaDoorW.PrintLast Go.Proofs.YthflimnpiglgbaaDoorW.PrintMore Go.Proofs.YthflimnpiglgbaaDoor.LibU Go.Proofs.YthflimnpiglgbaaDoor.LibE
theorem gs_j0 (l : List Int) (hl : l.length ≤ 1048576) (hb : LibHb.Bytes l) (a n next : Int) (hn : 0 ≤ n ∧ n ≤ 4000) (hnx : 0 ≤ next ∧ next + n ≤ l.length) (ha : 0 ≤ a ∧ a < l.length) :
    ∃ K r, (∀ k, K ≤ k → impl_GetString.j0 k l a n next false = some r) ∧ (∀ k, K ≤ k → spec_GetString.j0 k l a n next false = some r) := by
  have hw : wrap64 (next + n) = next + n := w64 (by omega) (by omega)
  have hyb : LibHb.Bytes ((l.take (next + n).toNat).drop next.toNat) := fun x hx => hb x (List.mem_of_mem_take (List.mem_of_mem_drop hx))
  have hyl : ((l.take (next + n).toNat).drop next.toNat).length ≤ 100000000 := by simp; omega
  obtain ⟨K1, r, js, rest, _, _, _, _, _, h2, h3⟩ := LibUx.both _ hyl hyb
  obtain ⟨y, hy⟩ : ∃ y, y = (l.take (next + n).toNat).drop next.toNat := ⟨_, rfl⟩
  rw [← hy] at h2 h3
  have h3' : ∀ k, K1 ≤ k → impl_UnHuff.f k y = some r := h3
  by_cases hc : rd l a < 128
  · refine ⟨1, (strOfNums y, next + n, true), fun k hk => ?_, fun k hk => ?_⟩
    · obtain ⟨k, rfl⟩ := ix (show 0 < k by omega)
      simp only [impl_GetString.j0]
      rw [if_neg (by decide), if_pos (by omega), hw, if_pos (by omega), if_pos (by omega)]
      refine bs rfl ?_
      rw [if_pos (by omega), if_pos (by omega), if_pos hc, hy]
    · obtain ⟨k, rfl⟩ := ix (show 0 < k by omega)
      simp only [spec_GetString.j0]
      rw [if_neg (by decide), if_pos (by omega), if_pos (by omega), if_pos hc, if_pos (by omega), hw, if_pos (by omega), if_pos (by omega), hy]
  · have key : ∀ r2 : ByteArray × Bool, ∃ q : ByteArray × Int × Bool, (if r2.2 = true then (if (r2.1.size : Int) > 4000 then (some ((⟨#[]⟩ : ByteArray), (0 : Int), false)) else (some (r2.1, next + n, true))) else (some ((⟨#[]⟩ : ByteArray), (0 : Int), false))) = some q := by
      intro r2
      split
      · split
        · exact ⟨_, rfl⟩
        · exact ⟨_, rfl⟩
      · exact ⟨_, rfl⟩
    obtain ⟨q, hq⟩ := key r
    refine ⟨K1 + 1, q, fun k hk => ?_, fun k hk => ?_⟩
    · obtain ⟨k, rfl⟩ := ix (show 0 < k by omega)
      simp only [impl_GetString.j0]
      rw [if_neg (by decide), if_pos (by omega), hw, if_pos (by omega), if_pos (by omega)]
      refine bs rfl ?_
      rw [if_pos (by omega), if_pos (by omega), if_neg hc, ← hy]
      refine bs (h3' k (by omega)) ?_
      exact hq
    · obtain ⟨k, rfl⟩ := ix (show 0 < k by omega)
      simp only [spec_GetString.j0]
      rw [if_neg (by decide), if_pos (by omega), if_pos (by omega), if_neg hc, if_pos (by omega), hw, if_pos (by omega), if_pos (by omega), ← hy]
      refine bs (h2 k (by omega)) ?_
      exact hq
theorem gs_no (l : List Int) (a n next : Int) : (∀ k, 1 ≤ k → impl_GetString.j0 k l a n next true = some (⟨#[]⟩, 0, false)) ∧ (∀ k, 1 ≤ k → spec_GetString.j0 k l a n next true = some (⟨#[]⟩, 0, false)) := by
  refine ⟨fun k hk => ?_, fun k hk => ?_⟩
  · obtain ⟨k, rfl⟩ := ix (show 0 < k by omega)
    simp only [impl_GetString.j0]
    rw [if_pos trivial]
  · obtain ⟨k, rfl⟩ := ix (show 0 < k by omega)
    simp only [spec_GetString.j0]
    rw [if_pos trivial]
theorem gs (l : List Int) (hl : l.length ≤ 1048576) (hb : LibHb.Bytes l) (a : Int) : ∃ K r, (∀ k, K ≤ k → spec_GetString.f k l a = some r) ∧ (∀ k, K ≤ k → impl_GetString.f k l a = some r) := by
  obtain ⟨r, h1, h2, h3⟩ := LibGb.prefix_in l a hl hb
  obtain ⟨g1, g2⟩ := gs_no l a r.1 r.2.1
  by_cases hr : r.2.2 = true
  · obtain ⟨b1, b2, b3⟩ := h3 hr
    by_cases c1 : r.1 > 4000
    · refine ⟨13, ((⟨#[]⟩ : ByteArray), 0, false), fun k hk => ?_, fun k hk => ?_⟩
      · unfold spec_GetString.f
        refine bs (h1 k (by omega)) ?_
        rw [if_pos hr, if_pos c1]
        exact g2 k (by omega)
      · unfold impl_GetString.f
        refine bs (h2 k (by omega)) ?_
        rw [if_pos hr, if_pos c1]
        exact g1 k (by omega)
    · have hw : wrap64 ((l.length : Int) - r.2.1) = (l.length : Int) - r.2.1 := w64 (by omega) (by omega)
      by_cases c2 : r.1 > (l.length : Int) - r.2.1
      · refine ⟨13, ((⟨#[]⟩ : ByteArray), 0, false), fun k hk => ?_, fun k hk => ?_⟩
        · unfold spec_GetString.f
          refine bs (h1 k (by omega)) ?_
          rw [if_pos hr, if_neg c1, hw, decide_eq_true c2]
          exact g2 k (by omega)
        · unfold impl_GetString.f
          refine bs (h2 k (by omega)) ?_
          rw [if_pos hr, if_neg c1, hw, decide_eq_true c2]
          exact g1 k (by omega)
      · obtain ⟨K, q, q1, q2⟩ := gs_j0 l hl hb a r.1 r.2.1 (by omega) (by omega) b3
        refine ⟨K + 13, q, fun k hk => ?_, fun k hk => ?_⟩
        · unfold spec_GetString.f
          refine bs (h1 k (by omega)) ?_
          rw [if_pos hr, if_neg c1, hw, decide_eq_false c2]
          exact q2 k (by omega)
        · unfold impl_GetString.f
          refine bs (h2 k (by omega)) ?_
          rw [if_pos hr, if_neg c1, hw, decide_eq_false c2]
          exact q1 k (by omega)
  · refine ⟨13, ((⟨#[]⟩ : ByteArray), 0, false), fun k hk => ?_, fun k hk => ?_⟩
    · unfold spec_GetString.f
      refine bs (h1 k (by omega)) ?_
      rw [if_neg hr]
      exact g2 k (by omega)
    · unfold impl_GetString.f
      refine bs (h2 k (by omega)) ?_
      rw [if_neg hr]
      exact g1 k (by omega)
theorem FnExactGetString : laws_FnExactGetString.Pure := by
  intro l a _ hl2 hw ha
  by_cases h : (l.length : Int) > 1048576
  · exact ⟨0, by unfold laws_FnExactGetString.f; rw [if_pos h]⟩
  obtain ⟨K1, h1⟩ := toByteS (l := l) (by omega)
  obtain ⟨K2, r, h2, h3⟩ := gs l (by omega) (fun x hx => wf8 (hw x hx)) a
  obtain ⟨K4, h4⟩ := eqByteS (l := l) (by omega)
  refine ⟨K1 + K2 + K4 + 1, ?_⟩
  unfold laws_FnExactGetString.f
  rw [if_neg h]
  have hbb : (r.2.2 != r.2.2) = false := by simp
  repeat (first | (with_reducible refine bs (h1 _ (by omega)) ?_) | (with_reducible refine bs (h2 _ (by omega)) ?_) | (with_reducible refine bs (h3 _ (by omega)) ?_) | (with_reducible refine bs (h4 _ (by omega)) ?_) | refine ifp rfl ?_ | refine ifn (by first | exact Bool.false_ne_true | simp) ?_ | rw [laws_FnExactGetString.j0] | rw [hbb])
  all_goals rfl
end Go.Proofs.YthflimnpiglgbaaDoor.Pure
