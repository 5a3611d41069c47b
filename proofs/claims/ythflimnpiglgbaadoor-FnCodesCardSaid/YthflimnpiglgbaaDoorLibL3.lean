/- spec.l3Lens: the literal's row. No condition. -/
import Derived.Test.YthflimnpiglgbaaDoorLibHuff
set_option linter.unusedVariables false
set_option linter.unusedSimpArgs false
namespace Go.Proofs.YthflimnpiglgbaaDoor.LibL3
open Go Go.RowKit Go.Proofs.YthflimnpiglgbaaDoorW.PrintWords Go.Proofs.YthflimnpiglgbaaDoorW.PrintLast Go.Proofs.YthflimnpiglgbaaDoorW.PrintMore Go.Proofs.YthflimnpiglgbaaDoor.LibLens Go.Proofs.YthflimnpiglgbaaDoor.LibHuff Go.Proofs.YthflimnpiglgbaaDoor.A
set_option maxHeartbeats 1600000 in
set_option maxRecDepth 100000 in
theorem l3Lens_calls (w : World) : Calls Tryd.prog 39 #[] w fun e w' => ∃ v0_ : Value, e = .returned (v0_) ∧ Kd.R (Kd.int .i64) 3 w' w.heap.size (fun _ => True) v0_ lensI ∧ Below w.heap.size w w' := by
  have HB := Aside0.mk (Below.refl w.heap.size w)
  obtain ⟨xs, hxs⟩ : ∃ xs, xs = lensI := ⟨_, rfl⟩
  have HX := Aside0.mk hxs
  rw [← hxs]
  clear hxs
  go_enter Tryd.func39, Tryd.ntmps39
  go_wp2_with ((with_reducible refine gate_dst (N := 1) rfl ?_); refine Kd.R_lit (Kd.int .i64) (w0 := w) w.heap.size 3 rfl (N := 1) rfl (xs := xs) (inner := xs.map (Value.int .i64)) (ok := fun _ => True) (okp := fun _ => True) ?hr (Kd.reps_scalar _) (fun _ _ => trivial) trivial HB.out (Nat.le_refl _) (by rw [HX.out, lensI_len]; decide) ?_; (case hr => rw [HX.out]; kernel_rfl); intro v1 w1 ho hb hg hx; have HO := Aside0.mk ho; have HW := Aside0.mk hb; clear ho hb hg hx)
  go_ret
  exact ⟨_, rfl, HO.out, HW.out⟩
end Go.Proofs.YthflimnpiglgbaaDoor.LibL3
