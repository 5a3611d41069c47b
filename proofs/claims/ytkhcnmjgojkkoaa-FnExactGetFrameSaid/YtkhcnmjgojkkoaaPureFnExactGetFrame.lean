/- For every input: FnExactGetFrame answers true: the program's GetFrame returns what the reference's returns, in memory of its own. No condition. -/
import Derived.Test.YtkhcnmjgojkkoaaLibE
import Derived.Test.YtkhcnmjgojkkoaaLibF
import Derived.Test.YtkhcnmjgojkkoaaLibFm
import Derived.Test.YtkhcnmjgojkkoaaLibGFs
import Derived.Test.YtkhcnmjgojkkoaaAx10
import Derived.Test.YtkhcnmjgojkkoaaAx67
import Derived.Test.YtkhcnmjgojkkoaaAx68
set_option linter.unusedVariables false
set_option linter.unusedSimpArgs false
namespace Go.Proofs.Ytkhcnmjgojkkoaa.Pure
open Go.RowKit Go.Proofs.Ytkhcnmjgojkkoaa.A Go.Proofs.YtkhcnmjgojkkoaaW.PrintWords Go.Proofs.YtkhcnmjgojkkoaaW.PrintLast Go.Proofs.Ytkhcnmjgojkkoaa.LibU Go.Proofs.Ytkhcnmjgojkkoaa.LibE Go.Proofs.Ytkhcnmjgojkkoaa.LibF Go.Proofs.Ytkhcnmjgojkkoaa.LibG Go.Proofs.Ytkhcnmjgojkkoaa.LibGF
theorem heldFrame (a b c : Int) {l : List Int} {m r : Int} {k : Nat} (h : laws_heldByteS.f k l m = some r) (hr : ¬ r < 0) : laws_heldFrame.f k a b c l m = some r := by
  unfold laws_heldFrame.f
  refine bs h ?_
  rw [if_neg hr]
theorem FnExactGetFrame : laws_FnExactGetFrame.Pure := by
  intro l a _ hl2 hw ha
  by_cases h : (l.length : Int) > 1048576
  · exact ⟨0, by unfold laws_FnExactGetFrame.f; rw [if_pos h]⟩
  have hb : BytesL l := fun x hx => wf8 (hw x hx)
  obtain ⟨K1, h1⟩ := toByteS (l := l) (by omega)
  obtain ⟨K2, h2⟩ := spec_gf (l := l) (a := a) (by omega) hb (wf64 ha)
  obtain ⟨K3, h3⟩ := impl_gf (l := l) (a := a) (by omega) hb (wf64 ha)
  have hg : (gf l a).2.2.2.1.length ≤ l.length := by
    unfold gf
    repeat' split
    all_goals simp
    omega
  generalize gf l a = r at *
  obtain ⟨r1, r2, r3, r4, r5, r6⟩ := r
  simp only at hg
  obtain ⟨K4, h4⟩ := eqByteS (l := l) (by omega)
  obtain ⟨K5, h5⟩ := eqByteS (l := r4) (by omega)
  obtain ⟨K6, y6, h6, h6'⟩ := markHeld (x := l) (by omega)
  obtain ⟨K7, y7, h7, h7'⟩ := markHeld (x := r4) (by omega)
  have he := fun k hk => eqFrame r1 r2 r3 (h5 k hk)
  have hm := fun k hk => markFrame r1 r2 r3 (h7 k hk)
  have hh := fun k hk => heldFrame r1 r2 r3 (h7' k hk) (by omega)
  refine ⟨K1 + K2 + K3 + K4 + K5 + K6 + K7 + 12 + 1 + 1 + 1, ?_⟩
  unfold laws_FnExactGetFrame.f
  rw [if_neg h]
  repeat (first | refine bs (h1 _ (by omega)) ?_ | refine bs (h2 _ (by omega)) ?_ | refine bs (h3 _ (by omega)) ?_ | refine bs (he _ (by omega)) ?_ | refine bs (h4 _ (by omega)) ?_ | refine bs (h6 _ (by omega)) ?_ | refine bs (hm _ (by omega)) ?_ | refine bs (hh _ (by omega)) ?_ | refine ifp rfl ?_ | refine ifn (by first | exact Bool.false_ne_true | omega | simp) ?_ | rw [laws_FnExactGetFrame.j0] | rw [laws_FnExactGetFrame.j1] | rw [laws_FnExactGetFrame.j2])
  rfl
end Go.Proofs.Ytkhcnmjgojkkoaa.Pure
