/- For every input: FnExactPutGoAway answers true: the program's PutGoAway returns what the reference's returns, in memory of its own. No condition. -/
import Derived.Test.YtfjjnccfiepjcaaLibA4
import Derived.Test.YtfjjnccfiepjcaaAx14
import Derived.Test.YtfjjnccfiepjcaaAx15
import Derived.Test.YtfjjnccfiepjcaaAx16
set_option linter.unusedVariables false
set_option linter.unusedSimpArgs false
namespace Go.Proofs.Ytfjjnccfiepjcaa.Pure
open Go.RowKit Go.Proofs.Ytfjjnccfiepjcaa.A Go.Proofs.YtfjjnccfiepjcaaW.PrintWords Go.Proofs.YtfjjnccfiepjcaaW.PrintLast Go.Proofs.Ytfjjnccfiepjcaa.LibA
theorem FnExactPutGoAway : laws_FnExactPutGoAway.Pure := by
  intro a b ha hb
  have g1 := putBig_length [] a 4
  have g2 := putBig_length (putBig [] a 4) b 4
  simp only [List.length_nil] at g1
  have h1 := spec_putBig (l := []) (n := a) (k := 4) (by simp)
  have h2 := spec_putBig (l := putBig [] a 4) (n := b) (k := 4) (by omega)
  have h3 := impl_putBig_l (l := []) (n := a) (k := 4) (by simp) (by omega)
  have h4 := impl_putBig_l (l := putBig [] a 4) (n := b) (k := 4) (by omega) (by omega)
  generalize hr : putBig (putBig [] a 4) b 4 = r at *
  obtain ⟨K5, h5⟩ := eqByteS (l := r) (by omega)
  obtain ⟨K7, y7, h7, h7'⟩ := markHeld (x := r) (by omega)
  refine ⟨K5 + K7 + 12 + 1, ?_⟩
  have c2 : ¬ ((r.length : Int) + 1 < 0) := by omega
  unfold laws_FnExactPutGoAway.f
  simp (disch := omega) only [spec_PutGoAway.f, impl_PutGoAway.f, h1, h2, h3, h4, h5, h7, h7', if_neg c2, Option.bind_some, if_true]
end Go.Proofs.Ytfjjnccfiepjcaa.Pure
