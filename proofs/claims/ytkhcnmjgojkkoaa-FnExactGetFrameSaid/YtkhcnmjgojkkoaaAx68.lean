/- Written by a program of this session, out of the translation: functions as plain Lean functions, and that the machine's calls answer as they do. Condition: none beyond each theorem's own. -/
import Derived.Test.YtkhcnmjgojkkoaaAx0
import Derived.Test.YtkhcnmjgojkkoaaAx4
import Derived.Test.YtkhcnmjgojkkoaaAx8
import Derived.Test.YtkhcnmjgojkkoaaAx9
import Derived.Test.YtkhcnmjgojkkoaaAx55
import Derived.Test.YtkhcnmjgojkkoaaAx56
import Derived.Test.YtkhcnmjgojkkoaaAx65
import Derived.Test.YtkhcnmjgojkkoaaAx66
import Derived.Test.YtkhcnmjgojkkoaaAx67
namespace Go.Proofs.Ytkhcnmjgojkkoaa.A
open Go.RowKit Go.Proofs.YtkhcnmjgojkkoaaW.PrintWords Go.Proofs.YtkhcnmjgojkkoaaW.PrintLast Go.Proofs.YtkhcnmjgojkkoaaW.PrintMore
attribute [local go_sem] max2_int min2_int max_two min_two max_three min_three max_four min_four   -- for this text's walks alone
set_option linter.unusedVariables false
set_option linter.unusedSimpArgs false

/-! ### laws_FnExactGetFrame: function 12 -/
mutual
def laws_FnExactGetFrame.j0 : Nat → List Int → Int → Int → Int → List Int → Int → Int → Bool → Int → Int → Int → List Int → Int → Int → Int → List Int → Option (Bool)
 | 0, _, _, _, _, _, _, _, _, _, _, _, _, _, _, _, _ => none
 | k + 1, x0, x1, x6, x7, x8, x10, x11, x51, x875000, x875001, x875002, x875003, x887000, x887001, x887002, x887003 => if x51 = true then (some false) else ((laws_toByteS.f k x0).bind fun t888 => ((laws_eqByteS.f k x8 t888).bind fun t891 => (if t891 = true then ((laws_markByteS.f k x8 1).bind fun bt892 => (if bt892.1 < 0 then (laws_FnExactGetFrame.j1 k x0 x1 x6 x7 true x875000 x875001 x875002 x875003 x887000 x887001 x887002 x887003) else ((laws_eqFrame.f k x887000 x887001 x887002 x887003 x875000 x875001 x875002 x875003).bind fun t894 => (if t894 = true then (if x10 = x6 then (laws_FnExactGetFrame.j1 k x0 x1 x6 x7 (x11 != x7) x875000 x875001 x875002 x875003 x887000 x887001 x887002 x887003) else (laws_FnExactGetFrame.j1 k x0 x1 x6 x7 true x875000 x875001 x875002 x875003 x887000 x887001 x887002 x887003)) else (laws_FnExactGetFrame.j1 k x0 x1 x6 x7 true x875000 x875001 x875002 x875003 x887000 x887001 x887002 x887003))))) else (some false))))
def laws_FnExactGetFrame.j1 : Nat → List Int → Int → Int → Int → Bool → Int → Int → Int → List Int → Int → Int → Int → List Int → Option (Bool)
 | 0, _, _, _, _, _, _, _, _, _, _, _, _, _ => none
 | k + 1, x0, x1, x6, x7, x77, x875000, x875001, x875002, x875003, x887000, x887001, x887002, x887003 => if x77 = true then (some false) else ((laws_markFrame.f k x887000 x887001 x887002 x887003 1).bind fun bt895 => ((laws_heldFrame.f k x887000 x887001 x887002 bt895.2 1).bind fun t897 => (if t897 < 0 then (some false) else (if t897 = bt895.1 then ((laws_toByteS.f k x0).bind fun t898 => ((impl_GetFrame.f k t898 x1).bind fun bt901 => ((laws_eqFrame.f k bt901.1 bt901.2.1 bt901.2.2.1 bt901.2.2.2.1 x875000 x875001 x875002 x875003).bind fun t910 => (if t910 = true then (if bt901.2.2.2.2.1 = x6 then (laws_FnExactGetFrame.j2 k bt895.1 (bt901.2.2.2.2.2 != x7) x887000 x887001 x887002 bt895.2) else (laws_FnExactGetFrame.j2 k bt895.1 true x887000 x887001 x887002 bt895.2)) else (laws_FnExactGetFrame.j2 k bt895.1 true x887000 x887001 x887002 bt895.2))))) else (some false)))))
def laws_FnExactGetFrame.j2 : Nat → Int → Bool → Int → Int → Int → List Int → Option (Bool)
 | 0, _, _, _, _, _, _ => none
 | k + 1, x13, x110, x887000, x887001, x887002, x887003 => if x110 = true then (some false) else ((laws_heldFrame.f k x887000 x887001 x887002 x887003 1).bind fun t911 => (if t911 < 0 then (some false) else (if t911 = x13 then (some true) else (some false))))
end
def laws_FnExactGetFrame.f (k : Nat) (l0 : List Int) (a1 : Int) : Option (Bool) := if (l0.length : Int) > 1048576 then (some true) else ((laws_toByteS.f k l0).bind fun t863 => ((spec_GetFrame.f k t863 a1).bind fun bt866 => ((laws_toByteS.f k l0).bind fun t875 => ((impl_GetFrame.f k t875 a1).bind fun bt878 => ((laws_eqFrame.f k bt878.1 bt878.2.1 bt878.2.2.1 bt878.2.2.2.1 bt866.1 bt866.2.1 bt866.2.2.1 bt866.2.2.2.1).bind fun t887 => (if t887 = true then (if bt878.2.2.2.2.1 = bt866.2.2.2.2.1 then (laws_FnExactGetFrame.j0 k l0 a1 bt866.2.2.2.2.1 bt866.2.2.2.2.2 t875 bt878.2.2.2.2.1 bt878.2.2.2.2.2 (bt878.2.2.2.2.2 != bt866.2.2.2.2.2) bt866.1 bt866.2.1 bt866.2.2.1 bt866.2.2.2.1 bt878.1 bt878.2.1 bt878.2.2.1 bt878.2.2.2.1) else (laws_FnExactGetFrame.j0 k l0 a1 bt866.2.2.2.2.1 bt866.2.2.2.2.2 t875 bt878.2.2.2.2.1 bt878.2.2.2.2.2 true bt866.1 bt866.2.1 bt866.2.2.1 bt866.2.2.2.1 bt878.1 bt878.2.1 bt878.2.2.1 bt878.2.2.2.1)) else (laws_FnExactGetFrame.j0 k l0 a1 bt866.2.2.2.2.1 bt866.2.2.2.2.2 t875 bt878.2.2.2.2.1 bt878.2.2.2.2.2 true bt866.1 bt866.2.1 bt866.2.2.1 bt866.2.2.2.1 bt878.1 bt878.2.1 bt878.2.2.1 bt878.2.2.2.1)))))))
theorem laws_FnExactGetFrame.mono_l : ∀ k, (∀ y0 y1 y2 y3 y4 y5 y6 y7 y8 y9 y10 y11 y12 y13 y14 y15, LeO (laws_FnExactGetFrame.j0 k y0 y1 y2 y3 y4 y5 y6 y7 y8 y9 y10 y11 y12 y13 y14 y15) (laws_FnExactGetFrame.j0 (k + 1) y0 y1 y2 y3 y4 y5 y6 y7 y8 y9 y10 y11 y12 y13 y14 y15)) ∧ (∀ y0 y1 y2 y3 y4 y5 y6 y7 y8 y9 y10 y11 y12, LeO (laws_FnExactGetFrame.j1 k y0 y1 y2 y3 y4 y5 y6 y7 y8 y9 y10 y11 y12) (laws_FnExactGetFrame.j1 (k + 1) y0 y1 y2 y3 y4 y5 y6 y7 y8 y9 y10 y11 y12)) ∧ (∀ y0 y1 y2 y3 y4 y5, LeO (laws_FnExactGetFrame.j2 k y0 y1 y2 y3 y4 y5) (laws_FnExactGetFrame.j2 (k + 1) y0 y1 y2 y3 y4 y5))
 | 0 => ⟨fun _ _ _ _ _ _ _ _ _ _ _ _ _ _ _ _ r h => by simp [laws_FnExactGetFrame.j0] at h, fun _ _ _ _ _ _ _ _ _ _ _ _ _ r h => by simp [laws_FnExactGetFrame.j1] at h, fun _ _ _ _ _ _ r h => by simp [laws_FnExactGetFrame.j2] at h⟩
 | k + 1 => by
  obtain ⟨ih0, ih1, ih2⟩ := laws_FnExactGetFrame.mono_l k
  refine ⟨?_, ?_, ?_⟩
  ·
   intro y0 y1 y2 y3 y4 y5 y6 y7 y8 y9 y10 y11 y12 y13 y14 y15
   unfold laws_FnExactGetFrame.j0
   repeat' first
   | (with_reducible exact ih0 _ _ _ _ _ _ _ _ _ _ _ _ _ _ _ _)
   | (with_reducible exact ih1 _ _ _ _ _ _ _ _ _ _ _ _ _)
   | (with_reducible exact ih2 _ _ _ _ _ _)
   | (with_reducible exact impl_GetFrame.mono _ _ _)
   | (with_reducible exact laws_eqByteS.mono _ _ _)
   | (with_reducible exact laws_eqFrame.mono _ _ _ _ _ _ _ _ _)
   | (with_reducible exact laws_heldFrame.mono _ _ _ _ _ _)
   | (with_reducible exact laws_markByteS.mono _ _ _)
   | (with_reducible exact laws_markFrame.mono _ _ _ _ _ _)
   | (with_reducible exact laws_toByteS.mono _ _)
   | (with_reducible exact spec_GetFrame.mono _ _ _)
   | (with_reducible exact LeO.refl _)
   | (with_reducible exact LeO.none _)
   | (with_reducible refine LeO.ite ?_ ?_)
   | (with_reducible refine LeO.bind ?_ (fun _ => ?_))
   | exact ih0 _ _ _ _ _ _ _ _ _ _ _ _ _ _ _ _
   | exact ih1 _ _ _ _ _ _ _ _ _ _ _ _ _
   | exact ih2 _ _ _ _ _ _
   | exact impl_GetFrame.mono _ _ _
   | exact laws_eqByteS.mono _ _ _
   | exact laws_eqFrame.mono _ _ _ _ _ _ _ _ _
   | exact laws_heldFrame.mono _ _ _ _ _ _
   | exact laws_markByteS.mono _ _ _
   | exact laws_markFrame.mono _ _ _ _ _ _
   | exact laws_toByteS.mono _ _
   | exact spec_GetFrame.mono _ _ _
   | exact LeO.none _
   | refine LeO.ite ?_ ?_
   | refine LeO.bind ?_ (fun _ => ?_)
  ·
   intro y0 y1 y2 y3 y4 y5 y6 y7 y8 y9 y10 y11 y12
   unfold laws_FnExactGetFrame.j1
   repeat' first
   | (with_reducible exact ih0 _ _ _ _ _ _ _ _ _ _ _ _ _ _ _ _)
   | (with_reducible exact ih1 _ _ _ _ _ _ _ _ _ _ _ _ _)
   | (with_reducible exact ih2 _ _ _ _ _ _)
   | (with_reducible exact impl_GetFrame.mono _ _ _)
   | (with_reducible exact laws_eqByteS.mono _ _ _)
   | (with_reducible exact laws_eqFrame.mono _ _ _ _ _ _ _ _ _)
   | (with_reducible exact laws_heldFrame.mono _ _ _ _ _ _)
   | (with_reducible exact laws_markByteS.mono _ _ _)
   | (with_reducible exact laws_markFrame.mono _ _ _ _ _ _)
   | (with_reducible exact laws_toByteS.mono _ _)
   | (with_reducible exact spec_GetFrame.mono _ _ _)
   | (with_reducible exact LeO.refl _)
   | (with_reducible exact LeO.none _)
   | (with_reducible refine LeO.ite ?_ ?_)
   | (with_reducible refine LeO.bind ?_ (fun _ => ?_))
   | exact ih0 _ _ _ _ _ _ _ _ _ _ _ _ _ _ _ _
   | exact ih1 _ _ _ _ _ _ _ _ _ _ _ _ _
   | exact ih2 _ _ _ _ _ _
   | exact impl_GetFrame.mono _ _ _
   | exact laws_eqByteS.mono _ _ _
   | exact laws_eqFrame.mono _ _ _ _ _ _ _ _ _
   | exact laws_heldFrame.mono _ _ _ _ _ _
   | exact laws_markByteS.mono _ _ _
   | exact laws_markFrame.mono _ _ _ _ _ _
   | exact laws_toByteS.mono _ _
   | exact spec_GetFrame.mono _ _ _
   | exact LeO.none _
   | refine LeO.ite ?_ ?_
   | refine LeO.bind ?_ (fun _ => ?_)
  ·
   intro y0 y1 y2 y3 y4 y5
   unfold laws_FnExactGetFrame.j2
   repeat' first
   | (with_reducible exact ih0 _ _ _ _ _ _ _ _ _ _ _ _ _ _ _ _)
   | (with_reducible exact ih1 _ _ _ _ _ _ _ _ _ _ _ _ _)
   | (with_reducible exact ih2 _ _ _ _ _ _)
   | (with_reducible exact impl_GetFrame.mono _ _ _)
   | (with_reducible exact laws_eqByteS.mono _ _ _)
   | (with_reducible exact laws_eqFrame.mono _ _ _ _ _ _ _ _ _)
   | (with_reducible exact laws_heldFrame.mono _ _ _ _ _ _)
   | (with_reducible exact laws_markByteS.mono _ _ _)
   | (with_reducible exact laws_markFrame.mono _ _ _ _ _ _)
   | (with_reducible exact laws_toByteS.mono _ _)
   | (with_reducible exact spec_GetFrame.mono _ _ _)
   | (with_reducible exact LeO.refl _)
   | (with_reducible exact LeO.none _)
   | (with_reducible refine LeO.ite ?_ ?_)
   | (with_reducible refine LeO.bind ?_ (fun _ => ?_))
   | exact ih0 _ _ _ _ _ _ _ _ _ _ _ _ _ _ _ _
   | exact ih1 _ _ _ _ _ _ _ _ _ _ _ _ _
   | exact ih2 _ _ _ _ _ _
   | exact impl_GetFrame.mono _ _ _
   | exact laws_eqByteS.mono _ _ _
   | exact laws_eqFrame.mono _ _ _ _ _ _ _ _ _
   | exact laws_heldFrame.mono _ _ _ _ _ _
   | exact laws_markByteS.mono _ _ _
   | exact laws_markFrame.mono _ _ _ _ _ _
   | exact laws_toByteS.mono _ _
   | exact spec_GetFrame.mono _ _ _
   | exact LeO.none _
   | refine LeO.ite ?_ ?_
   | refine LeO.bind ?_ (fun _ => ?_)
theorem laws_FnExactGetFrame.mono : ∀ a0 a1 k, LeO (laws_FnExactGetFrame.f k a0 a1) (laws_FnExactGetFrame.f (k + 1) a0 a1) := by
 intro a0 a1 k
 obtain ⟨ih0, ih1, ih2⟩ := laws_FnExactGetFrame.mono_l k
 unfold laws_FnExactGetFrame.f
 repeat' first
   | (with_reducible exact ih0 _ _ _ _ _ _ _ _ _ _ _ _ _ _ _ _)
   | (with_reducible exact ih1 _ _ _ _ _ _ _ _ _ _ _ _ _)
   | (with_reducible exact ih2 _ _ _ _ _ _)
   | (with_reducible exact impl_GetFrame.mono _ _ _)
   | (with_reducible exact laws_eqByteS.mono _ _ _)
   | (with_reducible exact laws_eqFrame.mono _ _ _ _ _ _ _ _ _)
   | (with_reducible exact laws_heldFrame.mono _ _ _ _ _ _)
   | (with_reducible exact laws_markByteS.mono _ _ _)
   | (with_reducible exact laws_markFrame.mono _ _ _ _ _ _)
   | (with_reducible exact laws_toByteS.mono _ _)
   | (with_reducible exact spec_GetFrame.mono _ _ _)
   | (with_reducible exact LeO.refl _)
   | (with_reducible exact LeO.none _)
   | (with_reducible refine LeO.ite ?_ ?_)
   | (with_reducible refine LeO.bind ?_ (fun _ => ?_))
   | exact ih0 _ _ _ _ _ _ _ _ _ _ _ _ _ _ _ _
   | exact ih1 _ _ _ _ _ _ _ _ _ _ _ _ _
   | exact ih2 _ _ _ _ _ _
   | exact impl_GetFrame.mono _ _ _
   | exact laws_eqByteS.mono _ _ _
   | exact laws_eqFrame.mono _ _ _ _ _ _ _ _ _
   | exact laws_heldFrame.mono _ _ _ _ _ _
   | exact laws_markByteS.mono _ _ _
   | exact laws_markFrame.mono _ _ _ _ _ _
   | exact laws_toByteS.mono _ _
   | exact spec_GetFrame.mono _ _ _
   | exact LeO.none _
   | refine LeO.ite ?_ ?_
   | refine LeO.bind ?_ (fun _ => ?_)
set_option maxHeartbeats 8000000 in
set_option maxRecDepth 100000 in
theorem laws_FnExactGetFrame.calls (k : Nat) (A0 : Option Addr) (c0 : Nat) (l0 : List Int) (a1 : Int) (r : Bool) (w : World) (hr0 : Kd.C (Kd.int .u8) w A0 l0.length l0) (hc0 : l0.length ≤ c0) (h : laws_FnExactGetFrame.f k l0 a1 = some r) :
  Calls Try.prog 12 #[.slice A0 l0.length c0, .int .i64 a1] w fun e w' => e = .returned (.bool r) ∧ Below w.heap.size w w' := by
 have hu63 := Try.underlying63
 have HR0 := Aside0.mk hr0
 have HC0 := Aside0.mk hc0
 clear hr0 hc0
 have HB := Aside0.mk (Below.refl w.heap.size w)
 have H : (if (l0.length : Int) > 1048576 then (some true) else ((laws_toByteS.f k l0).bind fun t863 => ((spec_GetFrame.f k t863 a1).bind fun bt866 => ((laws_toByteS.f k l0).bind fun t875 => ((impl_GetFrame.f k t875 a1).bind fun bt878 => ((laws_eqFrame.f k bt878.1 bt878.2.1 bt878.2.2.1 bt878.2.2.2.1 bt866.1 bt866.2.1 bt866.2.2.1 bt866.2.2.2.1).bind fun t887 => (if t887 = true then (if bt878.2.2.2.2.1 = bt866.2.2.2.2.1 then (laws_FnExactGetFrame.j0 k l0 a1 bt866.2.2.2.2.1 bt866.2.2.2.2.2 t875 bt878.2.2.2.2.1 bt878.2.2.2.2.2 (bt878.2.2.2.2.2 != bt866.2.2.2.2.2) bt866.1 bt866.2.1 bt866.2.2.1 bt866.2.2.2.1 bt878.1 bt878.2.1 bt878.2.2.1 bt878.2.2.2.1) else (laws_FnExactGetFrame.j0 k l0 a1 bt866.2.2.2.2.1 bt866.2.2.2.2.2 t875 bt878.2.2.2.2.1 bt878.2.2.2.2.2 true bt866.1 bt866.2.1 bt866.2.2.1 bt866.2.2.2.1 bt878.1 bt878.2.1 bt878.2.2.1 bt878.2.2.2.1)) else (laws_FnExactGetFrame.j0 k l0 a1 bt866.2.2.2.2.1 bt866.2.2.2.2.2 t875 bt878.2.2.2.2.1 bt878.2.2.2.2.2 true bt866.1 bt866.2.1 bt866.2.2.1 bt866.2.2.2.1 bt878.1 bt878.2.1 bt878.2.2.1 bt878.2.2.2.1)))))))) = some r := h
 clear h
 by_cases c3 : (l0.length : Int) > 1048576
 ·
  rw [if_pos c3] at H
  have c3b0 : decide (1048576 < (l0.length : Int)) = true := decide_eq_true c3
  have c3b1 : decide (1048576 < l0.length) = true := decide_eq_true (by omega)
  clear c3
  obtain rfl := Option.some.inj H
  go_enter Try.func12, Try.ntmps12
  go_wp2
  go_ret
  exact ⟨by first | rfl | (simp [errW_none, errW_some] <;> rfl) | (simp [*, errW_none, errW_some] <;> rfl), by repeat (first | (with_reducible first | exact HB.out | apply below_alloc | apply pw_below_drewN | apply below_drew1) | exact HB.out)⟩
 ·
  rw [if_neg c3] at H
  have c3b0 : decide (1048576 < (l0.length : Int)) = false := decide_eq_false c3
  have c3b1 : decide (1048576 < l0.length) = false := decide_eq_false (by omega)
  clear c3
  replace H := Option.bind_eq_some_iff.mp H
  obtain ⟨t863, A40, H⟩ := H
  replace H : ((spec_GetFrame.f k t863 a1).bind fun bt866 => ((laws_toByteS.f k l0).bind fun t875 => ((impl_GetFrame.f k t875 a1).bind fun bt878 => ((laws_eqFrame.f k bt878.1 bt878.2.1 bt878.2.2.1 bt878.2.2.2.1 bt866.1 bt866.2.1 bt866.2.2.1 bt866.2.2.2.1).bind fun t887 => (if t887 = true then (if bt878.2.2.2.2.1 = bt866.2.2.2.2.1 then (laws_FnExactGetFrame.j0 k l0 a1 bt866.2.2.2.2.1 bt866.2.2.2.2.2 t875 bt878.2.2.2.2.1 bt878.2.2.2.2.2 (bt878.2.2.2.2.2 != bt866.2.2.2.2.2) bt866.1 bt866.2.1 bt866.2.2.1 bt866.2.2.2.1 bt878.1 bt878.2.1 bt878.2.2.1 bt878.2.2.2.1) else (laws_FnExactGetFrame.j0 k l0 a1 bt866.2.2.2.2.1 bt866.2.2.2.2.2 t875 bt878.2.2.2.2.1 bt878.2.2.2.2.2 true bt866.1 bt866.2.1 bt866.2.2.1 bt866.2.2.2.1 bt878.1 bt878.2.1 bt878.2.2.1 bt878.2.2.2.1)) else (laws_FnExactGetFrame.j0 k l0 a1 bt866.2.2.2.2.1 bt866.2.2.2.2.2 t875 bt878.2.2.2.2.1 bt878.2.2.2.2.2 true bt866.1 bt866.2.1 bt866.2.2.1 bt866.2.2.2.1 bt878.1 bt878.2.1 bt878.2.2.1 bt878.2.2.2.1)))))) = some r := H
  have A4 := Aside0.mk A40
  clear A40
  replace H := Option.bind_eq_some_iff.mp H
  obtain ⟨⟨t866, t867, t868, t869, t872, t873⟩, A50, H⟩ := H
  replace H : ((laws_toByteS.f k l0).bind fun t875 => ((impl_GetFrame.f k t875 a1).bind fun bt878 => ((laws_eqFrame.f k bt878.1 bt878.2.1 bt878.2.2.1 bt878.2.2.2.1 t866 t867 t868 t869).bind fun t887 => (if t887 = true then (if bt878.2.2.2.2.1 = t872 then (laws_FnExactGetFrame.j0 k l0 a1 t872 t873 t875 bt878.2.2.2.2.1 bt878.2.2.2.2.2 (bt878.2.2.2.2.2 != t873) t866 t867 t868 t869 bt878.1 bt878.2.1 bt878.2.2.1 bt878.2.2.2.1) else (laws_FnExactGetFrame.j0 k l0 a1 t872 t873 t875 bt878.2.2.2.2.1 bt878.2.2.2.2.2 true t866 t867 t868 t869 bt878.1 bt878.2.1 bt878.2.2.1 bt878.2.2.2.1)) else (laws_FnExactGetFrame.j0 k l0 a1 t872 t873 t875 bt878.2.2.2.2.1 bt878.2.2.2.2.2 true t866 t867 t868 t869 bt878.1 bt878.2.1 bt878.2.2.1 bt878.2.2.2.1))))) = some r := H
  have A5 := Aside0.mk A50
  clear A50
  replace H := Option.bind_eq_some_iff.mp H
  obtain ⟨t875, A60, H⟩ := H
  replace H : ((impl_GetFrame.f k t875 a1).bind fun bt878 => ((laws_eqFrame.f k bt878.1 bt878.2.1 bt878.2.2.1 bt878.2.2.2.1 t866 t867 t868 t869).bind fun t887 => (if t887 = true then (if bt878.2.2.2.2.1 = t872 then (laws_FnExactGetFrame.j0 k l0 a1 t872 t873 t875 bt878.2.2.2.2.1 bt878.2.2.2.2.2 (bt878.2.2.2.2.2 != t873) t866 t867 t868 t869 bt878.1 bt878.2.1 bt878.2.2.1 bt878.2.2.2.1) else (laws_FnExactGetFrame.j0 k l0 a1 t872 t873 t875 bt878.2.2.2.2.1 bt878.2.2.2.2.2 true t866 t867 t868 t869 bt878.1 bt878.2.1 bt878.2.2.1 bt878.2.2.2.1)) else (laws_FnExactGetFrame.j0 k l0 a1 t872 t873 t875 bt878.2.2.2.2.1 bt878.2.2.2.2.2 true t866 t867 t868 t869 bt878.1 bt878.2.1 bt878.2.2.1 bt878.2.2.2.1)))) = some r := H
  have A6 := Aside0.mk A60
  clear A60
  replace H := Option.bind_eq_some_iff.mp H
  obtain ⟨⟨t878, t879, t880, t881, t884, t885⟩, A70, H⟩ := H
  replace H : ((laws_eqFrame.f k t878 t879 t880 t881 t866 t867 t868 t869).bind fun t887 => (if t887 = true then (if t884 = t872 then (laws_FnExactGetFrame.j0 k l0 a1 t872 t873 t875 t884 t885 (t885 != t873) t866 t867 t868 t869 t878 t879 t880 t881) else (laws_FnExactGetFrame.j0 k l0 a1 t872 t873 t875 t884 t885 true t866 t867 t868 t869 t878 t879 t880 t881)) else (laws_FnExactGetFrame.j0 k l0 a1 t872 t873 t875 t884 t885 true t866 t867 t868 t869 t878 t879 t880 t881))) = some r := H
  have A7 := Aside0.mk A70
  clear A70
  have HC8 := Aside0.mk H
  clear H
  go_enter Try.func12, Try.ntmps12
  go_upto_region 6 with (first | ((with_reducible refine gate_callee (f := 16) rfl ?_); refine goesL_ (some 23) rfl rfl Try.func16 (by kernel_rfl) rfl #[.slice A0 l0.length c0] rfl (by (try simp only [List.map_toArray, List.map_cons, List.map_nil]); first | done | rfl | (simp only [List.length_drop, List.length_take]; rfl)) ?_; (with_reducible refine (laws_toByteS.calls k _ _ l0 t863 _ ?side1 ?side2 A4.out).mono ?_); (case side1 => repeat (first | exact HR0.out | (with_reducible refine Kd.C_alloc ?_ _) | (with_reducible refine Kd.C_drewN ?_ _) | (with_reducible refine Kd.C_drew ?_))); (case side2 => exact HC0.out); rintro e w9 ⟨v864, rfl, ho0, hb⟩; refine ⟨_, rfl, ?_⟩; have n0_ := Aside0.mk (Kd.R_lower ho0 (below_size (by repeat (first | (with_reducible first | exact HB.out | apply below_alloc | apply pw_below_drewN | apply below_drew1) | exact HB.out)))); have n1_ := Aside0.mk (below_step (by repeat (first | (with_reducible first | exact HB.out | apply below_alloc | apply pw_below_drewN | apply below_drew1) | exact HB.out)) hb); clear HB; have HO865 := n0_; have HB := n1_; clear n0_ n1_; (try clear hb); (try clear hb2); (try clear hk); (try clear hi); (try clear ho0); obtain ⟨Ao10, co10, eo10⟩ := Kd.R_slice HO865.out; subst eo10) | ((with_reducible refine gate_callee (f := 53) rfl ?_); refine goesL_ (some 25) rfl rfl Try.func53 (by kernel_rfl) rfl #[.slice Ao10 t863.length co10, .int .i64 a1] rfl (by (try simp only [List.map_toArray, List.map_cons, List.map_nil]); first | done | rfl | (simp only [List.length_drop, List.length_take]; rfl)) ?_; (with_reducible refine (spec_GetFrame.calls k _ _ t863 a1 t866 t867 t868 t869 t872 t873 _ ?side1 ?side2 A5.out).mono ?_); (case side1 => repeat (first | exact (Kd.R_reads' HO865.out).2.2 | (with_reducible refine Kd.C_alloc ?_ _) | (with_reducible refine Kd.C_drewN ?_ _) | (with_reducible refine Kd.C_drew ?_))); (case side2 => exact (Kd.R_reads' HO865.out).2.1); rintro e w11 ⟨v870, rfl, ho0, hb⟩; refine ⟨_, rfl, ?_⟩; have n0_ := Aside0.mk (Kd.R_elder' (by (with_reducible repeat (first | apply Kd.R_alloc | apply Kd.R_drewN | apply Kd.R_drew)); exact HO865.out) (Kd.R_base ho0) hb); have n1_ := Aside0.mk (Kd.R_lower (Kd.R_new' ho0 (Kd.R_lt (by (with_reducible repeat (first | apply Kd.R_alloc | apply Kd.R_drewN | apply Kd.R_drew)); exact HO865.out))) (below_size (by repeat (first | (with_reducible first | exact HB.out | apply below_alloc | apply pw_below_drewN | apply below_drew1) | exact HB.out)))); have n2_ := Aside0.mk (below_step (by repeat (first | (with_reducible first | exact HB.out | apply below_alloc | apply pw_below_drewN | apply below_drew1) | exact HB.out)) hb); clear HO865; clear HB; have HO865 := n0_; have HO871 := n1_; have HB := n2_; clear n0_ n1_ n2_; (try clear hb); (try clear hb2); (try clear hk); (try clear hi); (try clear ho0)) | ((with_reducible refine gate_dst (N := 5) rfl ?_); refine box_event ?hg (N := 5) ?hd (cs := #[.int .i64 0, .int .i64 0, .int .i64 0, .slice none 0 0]) (t := 63) ?hr ?_; (case hd => rfl); (case hg => rfl); (case hr => first | (go_simp; done) | (go_simp; rfl)); intro gb874 hg w12 hbox hb; have n0_ := Aside0.mk (Kd.R_below (by (with_reducible repeat (first | apply Kd.R_alloc | apply Kd.R_drewN | apply Kd.R_drew)); exact HO865.out) hb); have n1_ := Aside0.mk (Kd.R_below (by (with_reducible repeat (first | apply Kd.R_alloc | apply Kd.R_drewN | apply Kd.R_drew)); exact HO871.out) hb); have n2_ := Aside0.mk (below_step (by repeat (first | (with_reducible first | exact HB.out | apply below_alloc | apply pw_below_drewN | apply below_drew1) | exact HB.out)) hb); have n3_ := Aside0.mk (hbox); have n4_ := Aside0.mk ((by rw [hg]; exact (below_size (by repeat (first | (with_reducible first | exact HB.out | apply below_alloc | apply pw_below_drewN | apply below_drew1) | exact HB.out))) : w.heap.size ≤ gb874)); have n5_ := Aside0.mk ((by rw [hg]; exact (below_size (by repeat (first | (with_reducible first | exact HB.out | apply below_alloc | apply pw_below_drewN | apply below_drew1) | exact HB.out))) : w.heap.size ≤ gb874)); clear HO865; clear HO871; clear HB; have HO865 := n0_; have HO871 := n1_; have HB := n2_; have BK874 := n3_; have GW874 := n4_; have GE874 := n5_; clear n0_ n1_ n2_ n3_ n4_ n5_; clear hb hbox hg; have hcz13_0 : w12.cell? ⟨gb874, 0, none⟩ = some (.int .i64 0) := (blk_cell BK874.out 0).trans rfl; have hcz13_1 : w12.cell? ⟨gb874, 1, none⟩ = some (.int .i64 0) := (blk_cell BK874.out 1).trans rfl; have hcz13_2 : w12.cell? ⟨gb874, 2, none⟩ = some (.int .i64 0) := (blk_cell BK874.out 2).trans rfl; have hcz13_3 : w12.cell? ⟨gb874, 3, none⟩ = some (.slice none 0 0) := (blk_cell BK874.out 3).trans rfl; have hfz13_0 := blk_frozen BK874.out 0; have hfz13_1 := blk_frozen BK874.out 1; have hfz13_2 := blk_frozen BK874.out 2; have hfz13_3 := blk_frozen BK874.out 3; obtain ⟨Ao14, co14, eo14⟩ := Kd.R_slice HO871.out; subst eo14) | ((with_reducible refine gate_callee (f := 16) rfl ?_); refine goesL_ (some 30) rfl rfl Try.func16 (by kernel_rfl) rfl #[.slice A0 l0.length c0] rfl (by (try simp only [List.map_toArray, List.map_cons, List.map_nil]); first | done | rfl | (simp only [List.length_drop, List.length_take]; rfl)) ?_; (with_reducible refine (laws_toByteS.calls k _ _ l0 t875 _ ?side1 ?side2 A6.out).mono ?_); (case side1 => exact Kd.C_below HR0.out (by repeat (first | (with_reducible first | exact HB.out | apply below_alloc | apply pw_below_drewN | apply below_drew1 | refine below_set ?_ GE874.out) | exact HB.out))); (case side2 => exact HC0.out); rintro e w15 ⟨v876, rfl, ho0, hb⟩; refine ⟨_, rfl, ?_⟩; have n0_ := Aside0.mk (Kd.R_elder' (by (with_reducible repeat (first | apply Kd.R_alloc | apply Kd.R_drewN | apply Kd.R_drew)); exact (Kd.R_mono (Kd.R_far (p := ⟨gb874, 3, none⟩) (Kd.R_far (p := ⟨gb874, 2, none⟩) (Kd.R_far (p := ⟨gb874, 1, none⟩) (Kd.R_far (p := ⟨gb874, 0, none⟩) (Kd.R_types HO865.out BK874.out (by decide)) (fun _ hk => hk.2) (.int .i64 t866)) (fun _ hk => hk.2) (.int .i64 t867)) (fun _ hk => hk.2) (.int .i64 t868)) (fun _ hk => hk.2) (.slice Ao14 t869.length co14)) (fun _ h_ => h_.1))) (Kd.R_base ho0) hb); have n1_ := Aside0.mk (Kd.R_elder' (by (with_reducible repeat (first | apply Kd.R_alloc | apply Kd.R_drewN | apply Kd.R_drew)); exact (Kd.R_mono (Kd.R_far (p := ⟨gb874, 3, none⟩) (Kd.R_far (p := ⟨gb874, 2, none⟩) (Kd.R_far (p := ⟨gb874, 1, none⟩) (Kd.R_far (p := ⟨gb874, 0, none⟩) (Kd.R_types HO871.out BK874.out (by decide)) (fun _ hk => hk.2) (.int .i64 t866)) (fun _ hk => hk.2) (.int .i64 t867)) (fun _ hk => hk.2) (.int .i64 t868)) (fun _ hk => hk.2) (.slice Ao14 t869.length co14)) (fun _ h_ => h_.1))) (Kd.R_base ho0) hb); have n2_ := Aside0.mk (Kd.R_lower (Kd.R_new' (Kd.R_new' ho0 (Kd.R_lt (by (with_reducible repeat (first | apply Kd.R_alloc | apply Kd.R_drewN | apply Kd.R_drew)); exact (Kd.R_mono (Kd.R_far (p := ⟨gb874, 3, none⟩) (Kd.R_far (p := ⟨gb874, 2, none⟩) (Kd.R_far (p := ⟨gb874, 1, none⟩) (Kd.R_far (p := ⟨gb874, 0, none⟩) (Kd.R_types HO865.out BK874.out (by decide)) (fun _ hk => hk.2) (.int .i64 t866)) (fun _ hk => hk.2) (.int .i64 t867)) (fun _ hk => hk.2) (.int .i64 t868)) (fun _ hk => hk.2) (.slice Ao14 t869.length co14)) (fun _ h_ => h_.1))))) (Kd.R_lt (by (with_reducible repeat (first | apply Kd.R_alloc | apply Kd.R_drewN | apply Kd.R_drew)); exact (Kd.R_mono (Kd.R_far (p := ⟨gb874, 3, none⟩) (Kd.R_far (p := ⟨gb874, 2, none⟩) (Kd.R_far (p := ⟨gb874, 1, none⟩) (Kd.R_far (p := ⟨gb874, 0, none⟩) (Kd.R_types HO871.out BK874.out (by decide)) (fun _ hk => hk.2) (.int .i64 t866)) (fun _ hk => hk.2) (.int .i64 t867)) (fun _ hk => hk.2) (.int .i64 t868)) (fun _ hk => hk.2) (.slice Ao14 t869.length co14)) (fun _ h_ => h_.1))))) (below_size (by repeat (first | (with_reducible first | exact HB.out | apply below_alloc | apply pw_below_drewN | apply below_drew1 | refine below_set ?_ GE874.out) | exact HB.out)))); have n3_ := Aside0.mk (blk_below (g := gb874) (o := .cells #[.int .i64 t866, .int .i64 t867, .int .i64 t868, .slice Ao14 t869.length co14] 63 (0, 0)) (by (with_reducible repeat (first | refine blk_drewN ?_ _ | refine blk_drew ?_ | refine blk_alloc ?_ _)); refine blk_put (cs := #[.int .i64 t866, .int .i64 t867, .int .i64 t868, .slice none 0 0]) ?_ 3 _ rfl; (with_reducible repeat (first | refine blk_drewN ?_ _ | refine blk_drew ?_ | refine blk_alloc ?_ _)); refine blk_put (cs := #[.int .i64 t866, .int .i64 t867, .int .i64 0, .slice none 0 0]) ?_ 2 _ rfl; (with_reducible repeat (first | refine blk_drewN ?_ _ | refine blk_drew ?_ | refine blk_alloc ?_ _)); refine blk_put (cs := #[.int .i64 t866, .int .i64 0, .int .i64 0, .slice none 0 0]) ?_ 1 _ rfl; (with_reducible repeat (first | refine blk_drewN ?_ _ | refine blk_drew ?_ | refine blk_alloc ?_ _)); refine blk_put (cs := #[.int .i64 0, .int .i64 0, .int .i64 0, .slice none 0 0]) ?_ 0 _ rfl; (with_reducible repeat (first | refine blk_drewN ?_ _ | refine blk_drew ?_ | refine blk_alloc ?_ _)); exact BK874.out) hb); have n4_ := Aside0.mk (below_step (by repeat (first | (with_reducible first | exact HB.out | apply below_alloc | apply pw_below_drewN | apply below_drew1 | refine below_set ?_ GE874.out) | exact HB.out)) hb); clear HO865; clear HO871; clear BK874; clear HB; have HO865 := n0_; have HO871 := n1_; have HO877 := n2_; have BK874 := n3_; have HB := n4_; clear n0_ n1_ n2_ n3_ n4_; (try clear hb); (try clear hb2); (try clear hk); (try clear hi); (try clear ho0); obtain ⟨Ao16, co16, eo16⟩ := Kd.R_slice HO877.out; subst eo16) | ((with_reducible refine gate_callee (f := 54) rfl ?_); refine goesL_ (some 34) rfl rfl Try.func54 (by kernel_rfl) rfl #[.slice Ao16 t875.length co16, .int .i64 a1] rfl (by (try simp only [List.map_toArray, List.map_cons, List.map_nil]); first | done | rfl | (simp only [List.length_drop, List.length_take]; rfl)) ?_; (with_reducible refine (impl_GetFrame.calls k _ _ t875 a1 t878 t879 t880 t881 t884 t885 _ ?side1 ?side2 A7.out).mono ?_); (case side1 => repeat (first | exact (Kd.R_reads' HO877.out).2.2 | (with_reducible refine Kd.C_alloc ?_ _) | (with_reducible refine Kd.C_drewN ?_ _) | (with_reducible refine Kd.C_drew ?_))); (case side2 => exact (Kd.R_reads' HO877.out).2.1); rintro e w17 ⟨v882, rfl, ho0, hb⟩; refine ⟨_, rfl, ?_⟩; have n0_ := Aside0.mk (Kd.R_elder' (by (with_reducible repeat (first | apply Kd.R_alloc | apply Kd.R_drewN | apply Kd.R_drew)); exact HO865.out) (Kd.R_base ho0) hb); have n1_ := Aside0.mk (Kd.R_elder' (by (with_reducible repeat (first | apply Kd.R_alloc | apply Kd.R_drewN | apply Kd.R_drew)); exact HO871.out) (Kd.R_base ho0) hb); have n2_ := Aside0.mk (Kd.R_elder' (by (with_reducible repeat (first | apply Kd.R_alloc | apply Kd.R_drewN | apply Kd.R_drew)); exact HO877.out) (Kd.R_base ho0) hb); have n3_ := Aside0.mk (Kd.R_lower (Kd.R_new' (Kd.R_new' (Kd.R_new' ho0 (Kd.R_lt (by (with_reducible repeat (first | apply Kd.R_alloc | apply Kd.R_drewN | apply Kd.R_drew)); exact HO865.out))) (Kd.R_lt (by (with_reducible repeat (first | apply Kd.R_alloc | apply Kd.R_drewN | apply Kd.R_drew)); exact HO871.out))) (Kd.R_lt (by (with_reducible repeat (first | apply Kd.R_alloc | apply Kd.R_drewN | apply Kd.R_drew)); exact HO877.out))) (below_size (by repeat (first | (with_reducible first | exact HB.out | apply below_alloc | apply pw_below_drewN | apply below_drew1 | refine below_set ?_ GE874.out) | exact HB.out)))); have n4_ := Aside0.mk (blk_below (g := gb874) (o := .cells #[.int .i64 t866, .int .i64 t867, .int .i64 t868, .slice Ao14 t869.length co14] 63 (0, 0)) (by (with_reducible repeat (first | refine blk_drewN ?_ _ | refine blk_drew ?_ | refine blk_alloc ?_ _)); exact BK874.out) hb); have n5_ := Aside0.mk (below_step (by repeat (first | (with_reducible first | exact HB.out | apply below_alloc | apply pw_below_drewN | apply below_drew1 | refine below_set ?_ GE874.out) | exact HB.out)) hb); clear HO865; clear HO871; clear HO877; clear BK874; clear HB; have HO865 := n0_; have HO871 := n1_; have HO877 := n2_; have HO883 := n3_; have BK874 := n4_; have HB := n5_; clear n0_ n1_ n2_ n3_ n4_ n5_; (try clear hb); (try clear hb2); (try clear hk); (try clear hi); (try clear ho0)) | ((with_reducible refine gate_dst (N := 9) rfl ?_); refine box_event ?hg (N := 9) ?hd (cs := #[.int .i64 0, .int .i64 0, .int .i64 0, .slice none 0 0]) (t := 63) ?hr ?_; (case hd => rfl); (case hg => rfl); (case hr => first | (go_simp; done) | (go_simp; rfl)); intro gb886 hg w18 hbox hb; have n0_ := Aside0.mk (Kd.R_below (by (with_reducible repeat (first | apply Kd.R_alloc | apply Kd.R_drewN | apply Kd.R_drew)); exact HO865.out) hb); have n1_ := Aside0.mk (Kd.R_below (by (with_reducible repeat (first | apply Kd.R_alloc | apply Kd.R_drewN | apply Kd.R_drew)); exact HO871.out) hb); have n2_ := Aside0.mk (Kd.R_below (by (with_reducible repeat (first | apply Kd.R_alloc | apply Kd.R_drewN | apply Kd.R_drew)); exact HO877.out) hb); have n3_ := Aside0.mk (Kd.R_below (by (with_reducible repeat (first | apply Kd.R_alloc | apply Kd.R_drewN | apply Kd.R_drew)); exact HO883.out) hb); have n4_ := Aside0.mk (blk_below (g := gb874) (o := .cells #[.int .i64 t866, .int .i64 t867, .int .i64 t868, .slice Ao14 t869.length co14] 63 (0, 0)) (by (with_reducible repeat (first | refine blk_drewN ?_ _ | refine blk_drew ?_ | refine blk_alloc ?_ _)); exact BK874.out) hb); have n5_ := Aside0.mk (below_step (by repeat (first | (with_reducible first | exact HB.out | apply below_alloc | apply pw_below_drewN | apply below_drew1 | refine below_set ?_ GE874.out) | exact HB.out)) hb); have n6_ := Aside0.mk (hbox); have n7_ := Aside0.mk ((by rw [hg]; exact (below_size (by repeat (first | (with_reducible first | exact HB.out | apply below_alloc | apply pw_below_drewN | apply below_drew1 | refine below_set ?_ GE874.out) | exact HB.out))) : w.heap.size ≤ gb886)); have n8_ := Aside0.mk ((by rw [hg]; exact (below_size (by repeat (first | (with_reducible first | exact HB.out | apply below_alloc | apply pw_below_drewN | apply below_drew1 | refine below_set ?_ GE874.out) | exact HB.out))) : w.heap.size ≤ gb886)); have n9_ := Aside0.mk ((by rw [hg]; exact Nat.ne_of_lt (blk_lt (g := gb874) (o := .cells #[.int .i64 t866, .int .i64 t867, .int .i64 t868, .slice Ao14 t869.length co14] 63 (0, 0)) (by (with_reducible repeat (first | refine blk_drewN ?_ _ | refine blk_drew ?_ | refine blk_alloc ?_ _)); exact BK874.out)) : gb874 ≠ gb886)); have n10_ := Aside0.mk ((by rw [hg]; exact Nat.ne_of_gt (blk_lt (g := gb874) (o := .cells #[.int .i64 t866, .int .i64 t867, .int .i64 t868, .slice Ao14 t869.length co14] 63 (0, 0)) (by (with_reducible repeat (first | refine blk_drewN ?_ _ | refine blk_drew ?_ | refine blk_alloc ?_ _)); exact BK874.out)) : gb886 ≠ gb874)); clear HO865; clear HO871; clear HO877; clear HO883; clear BK874; clear HB; have HO865 := n0_; have HO871 := n1_; have HO877 := n2_; have HO883 := n3_; have BK874 := n4_; have HB := n5_; have BK886 := n6_; have GW886 := n7_; have GE886 := n8_; have NB874_886 := n9_; have NB886_874 := n10_; clear n0_ n1_ n2_ n3_ n4_ n5_ n6_ n7_ n8_ n9_ n10_; clear hb hbox hg; have hnb19 := NB886_874.out; have hnc19 := NB874_886.out; have hcz20_0 : w18.cell? ⟨gb886, 0, none⟩ = some (.int .i64 0) := (blk_cell BK886.out 0).trans rfl; have hcz20_1 : w18.cell? ⟨gb886, 1, none⟩ = some (.int .i64 0) := (blk_cell BK886.out 1).trans rfl; have hcz20_2 : w18.cell? ⟨gb886, 2, none⟩ = some (.int .i64 0) := (blk_cell BK886.out 2).trans rfl; have hcz20_3 : w18.cell? ⟨gb886, 3, none⟩ = some (.slice none 0 0) := (blk_cell BK886.out 3).trans rfl; have hfz20_0 := blk_frozen BK886.out 0; have hfz20_1 := blk_frozen BK886.out 1; have hfz20_2 := blk_frozen BK886.out 2; have hfz20_3 := blk_frozen BK886.out 3; obtain ⟨Ao21, co21, eo21⟩ := Kd.R_slice HO883.out; subst eo21))
  (try simp only [Act.put, List.setIfInBounds_toArray, List.set_cons_zero, List.set_cons_succ])
  go_cut [51] (fun v51 wc => ∃ (kq : Nat) (x51_7 : Bool), v51 = .bool x51_7 ∧ Aside0 (laws_FnExactGetFrame.j0 kq l0 a1 t872 t873 t875 t884 t885 x51_7 t866 t867 t868 t869 t878 t879 t880 t881 = some r) ∧ Aside0 (kq ≤ k) ∧ Aside0 (Kd.R (Kd.int .u8) 5 wc w.heap.size (fun k_ => some k_ ≠ ((.slice Ao14 t869.length co14) : Value).ownBlock ∧ some k_ ≠ ((.slice Ao21 t881.length co21) : Value).ownBlock) (.slice Ao16 t875.length co16) t875) ∧ Aside0 (Kd.R (Kd.int .u8) 5 wc w.heap.size (fun k_ => some k_ ≠ ((.slice Ao16 t875.length co16) : Value).ownBlock ∧ some k_ ≠ ((.slice Ao21 t881.length co21) : Value).ownBlock) (.slice Ao14 t869.length co14) t869) ∧ Aside0 (Kd.R (Kd.int .u8) 5 wc w.heap.size (fun k_ => some k_ ≠ ((.slice Ao16 t875.length co16) : Value).ownBlock ∧ some k_ ≠ ((.slice Ao14 t869.length co14) : Value).ownBlock) (.slice Ao21 t881.length co21) t881) ∧ Aside0 (wc.heap[gb874]? = some (.cells #[.int .i64 t866, .int .i64 t867, .int .i64 t868, (.slice Ao14 t869.length co14)] 63 (0, 0))) ∧ Aside0 (wc.heap[gb886]? = some (.cells #[.int .i64 t878, .int .i64 t879, .int .i64 t880, (.slice Ao21 t881.length co21)] 63 (0, 0))) ∧ Aside0 (Below w.heap.size w wc))
  case first =>
   have H := HC8.out
   clear HC8
   replace H := Option.bind_eq_some_iff.mp H
   obtain ⟨t887, A220, H⟩ := H
   replace H : (if t887 = true then (if t884 = t872 then (laws_FnExactGetFrame.j0 k l0 a1 t872 t873 t875 t884 t885 (t885 != t873) t866 t867 t868 t869 t878 t879 t880 t881) else (laws_FnExactGetFrame.j0 k l0 a1 t872 t873 t875 t884 t885 true t866 t867 t868 t869 t878 t879 t880 t881)) else (laws_FnExactGetFrame.j0 k l0 a1 t872 t873 t875 t884 t885 true t866 t867 t868 t869 t878 t879 t880 t881)) = some r := H
   have A22 := Aside0.mk A220
   clear A220
   by_cases c23 : t887 = true
   ·
    subst c23
    have H1 : (if t884 = t872 then (laws_FnExactGetFrame.j0 k l0 a1 t872 t873 t875 t884 t885 (t885 != t873) t866 t867 t868 t869 t878 t879 t880 t881) else (laws_FnExactGetFrame.j0 k l0 a1 t872 t873 t875 t884 t885 true t866 t867 t868 t869 t878 t879 t880 t881)) = some r := by rw [if_pos rfl] at H; exact H
    clear H
    have H := H1
    clear H1
    by_cases c24 : t884 = t872
    ·
     rw [if_pos c24] at H
     have c24b0 : (t884 == t872) = true := beq_iff_eq.mpr c24
     have c24b1 : (t884 != t872) = false := bne_eq_false_iff_eq.mpr c24
     clear c24
     (first | rw [c24b0] | (simp only [i64_w, i32_w]; rw [c24b0]) | skip)
     have H' := Aside0.mk H
     clear H
     have hnb25 := NB886_874.out
     have hnc25 := NB874_886.out
     have hcz26_0 : w18.cell? ⟨gb886, 0, none⟩ = some (.int .i64 0) := (blk_cell BK886.out 0).trans rfl
     have hcz26_1 : w18.cell? ⟨gb886, 1, none⟩ = some (.int .i64 0) := (blk_cell BK886.out 1).trans rfl
     have hcz26_2 : w18.cell? ⟨gb886, 2, none⟩ = some (.int .i64 0) := (blk_cell BK886.out 2).trans rfl
     have hcz26_3 : w18.cell? ⟨gb886, 3, none⟩ = some (.slice none 0 0) := (blk_cell BK886.out 3).trans rfl
     have hfz26_0 := blk_frozen BK886.out 0
     have hfz26_1 := blk_frozen BK886.out 1
     have hfz26_2 := blk_frozen BK886.out 2
     have hfz26_3 := blk_frozen BK886.out 3
     have hcz27_0 : w18.cell? ⟨gb874, 0, none⟩ = some (.int .i64 t866) := (blk_cell BK874.out 0).trans rfl
     have hcz27_1 : w18.cell? ⟨gb874, 1, none⟩ = some (.int .i64 t867) := (blk_cell BK874.out 1).trans rfl
     have hcz27_2 : w18.cell? ⟨gb874, 2, none⟩ = some (.int .i64 t868) := (blk_cell BK874.out 2).trans rfl
     have hcz27_3 : w18.cell? ⟨gb874, 3, none⟩ = some (.slice Ao14 t869.length co14) := (blk_cell BK874.out 3).trans rfl
     have hfz27_0 := blk_frozen BK874.out 0
     have hfz27_1 := blk_frozen BK874.out 1
     have hfz27_2 := blk_frozen BK874.out 2
     have hfz27_3 := blk_frozen BK874.out 3
     go_wp2_with (first | ((with_reducible refine gate_callee (f := 49) rfl ?_); refine goesL_ (some 40) rfl rfl Try.func49 (by kernel_rfl) rfl #[.agg #[.int .i64 t878, .int .i64 t879, .int .i64 t880, .slice Ao21 t881.length co21], .agg #[.int .i64 t866, .int .i64 t867, .int .i64 t868, .slice Ao14 t869.length co14]] rfl (by (try simp only [List.map_toArray, List.map_cons, List.map_nil]); first | done | rfl | (simp only [List.length_drop, List.length_take]; rfl)) ?_; (with_reducible refine (laws_eqFrame.calls k t878 t879 t880 _ _ t881 t866 t867 t868 _ _ t869 true _ ?side1 ?side2 ?side3 ?side4 A22.out).mono ?_); (case side1 => refine (Kd.R_reads' (e := 5) (base := w.heap.size) (ok := fun k_ => (((True ∧ some k_ ≠ (.slice Ao10 t863.length co10 : Value).ownBlock) ∧ some k_ ≠ (.slice Ao14 t869.length co14 : Value).ownBlock) ∧ some k_ ≠ (.slice Ao16 t875.length co16 : Value).ownBlock)) (n := t881.length) (c := co21) ?_).2.2; exact (by (with_reducible repeat (first | apply Kd.R_alloc | apply Kd.R_drewN | apply Kd.R_drew)); exact (Kd.R_mono (Kd.R_far (p := ⟨gb886, 3, none⟩) (Kd.R_far (p := ⟨gb886, 2, none⟩) (Kd.R_far (p := ⟨gb886, 1, none⟩) (Kd.R_far (p := ⟨gb886, 0, none⟩) (Kd.R_types HO883.out BK886.out (by decide)) (fun _ hk => hk.2) (.int .i64 t878)) (fun _ hk => hk.2) (.int .i64 t879)) (fun _ hk => hk.2) (.int .i64 t880)) (fun _ hk => hk.2) (.slice Ao21 t881.length co21)) (fun _ h_ => h_.1)))); (case side2 => exact (Kd.R_reads' HO883.out).2.1); (case side3 => refine (Kd.R_reads' (e := 5) (base := w.heap.size) (ok := fun k_ => (((True ∧ some k_ ≠ (.slice Ao10 t863.length co10 : Value).ownBlock) ∧ some k_ ≠ (.slice Ao16 t875.length co16 : Value).ownBlock) ∧ some k_ ≠ (.slice Ao21 t881.length co21 : Value).ownBlock)) (n := t869.length) (c := co14) ?_).2.2; exact (by (with_reducible repeat (first | apply Kd.R_alloc | apply Kd.R_drewN | apply Kd.R_drew)); exact (Kd.R_mono (Kd.R_far (p := ⟨gb886, 3, none⟩) (Kd.R_far (p := ⟨gb886, 2, none⟩) (Kd.R_far (p := ⟨gb886, 1, none⟩) (Kd.R_far (p := ⟨gb886, 0, none⟩) (Kd.R_types HO871.out BK886.out (by decide)) (fun _ hk => hk.2) (.int .i64 t878)) (fun _ hk => hk.2) (.int .i64 t879)) (fun _ hk => hk.2) (.int .i64 t880)) (fun _ hk => hk.2) (.slice Ao21 t881.length co21)) (fun _ h_ => h_.1)))); (case side4 => exact (Kd.R_reads' HO871.out).2.1); rintro e w28 ⟨rfl, hb⟩; refine ⟨_, rfl, ?_⟩; have n0_ := Aside0.mk (Kd.R_below (by (with_reducible repeat (first | apply Kd.R_alloc | apply Kd.R_drewN | apply Kd.R_drew)); exact (Kd.R_mono (Kd.R_far (p := ⟨gb886, 3, none⟩) (Kd.R_far (p := ⟨gb886, 2, none⟩) (Kd.R_far (p := ⟨gb886, 1, none⟩) (Kd.R_far (p := ⟨gb886, 0, none⟩) (Kd.R_types HO865.out BK886.out (by decide)) (fun _ hk => hk.2) (.int .i64 t878)) (fun _ hk => hk.2) (.int .i64 t879)) (fun _ hk => hk.2) (.int .i64 t880)) (fun _ hk => hk.2) (.slice Ao21 t881.length co21)) (fun _ h_ => h_.1))) hb); have n1_ := Aside0.mk (Kd.R_below (by (with_reducible repeat (first | apply Kd.R_alloc | apply Kd.R_drewN | apply Kd.R_drew)); exact (Kd.R_mono (Kd.R_far (p := ⟨gb886, 3, none⟩) (Kd.R_far (p := ⟨gb886, 2, none⟩) (Kd.R_far (p := ⟨gb886, 1, none⟩) (Kd.R_far (p := ⟨gb886, 0, none⟩) (Kd.R_types HO871.out BK886.out (by decide)) (fun _ hk => hk.2) (.int .i64 t878)) (fun _ hk => hk.2) (.int .i64 t879)) (fun _ hk => hk.2) (.int .i64 t880)) (fun _ hk => hk.2) (.slice Ao21 t881.length co21)) (fun _ h_ => h_.1))) hb); have n2_ := Aside0.mk (Kd.R_below (by (with_reducible repeat (first | apply Kd.R_alloc | apply Kd.R_drewN | apply Kd.R_drew)); exact (Kd.R_mono (Kd.R_far (p := ⟨gb886, 3, none⟩) (Kd.R_far (p := ⟨gb886, 2, none⟩) (Kd.R_far (p := ⟨gb886, 1, none⟩) (Kd.R_far (p := ⟨gb886, 0, none⟩) (Kd.R_types HO877.out BK886.out (by decide)) (fun _ hk => hk.2) (.int .i64 t878)) (fun _ hk => hk.2) (.int .i64 t879)) (fun _ hk => hk.2) (.int .i64 t880)) (fun _ hk => hk.2) (.slice Ao21 t881.length co21)) (fun _ h_ => h_.1))) hb); have n3_ := Aside0.mk (Kd.R_below (by (with_reducible repeat (first | apply Kd.R_alloc | apply Kd.R_drewN | apply Kd.R_drew)); exact (Kd.R_mono (Kd.R_far (p := ⟨gb886, 3, none⟩) (Kd.R_far (p := ⟨gb886, 2, none⟩) (Kd.R_far (p := ⟨gb886, 1, none⟩) (Kd.R_far (p := ⟨gb886, 0, none⟩) (Kd.R_types HO883.out BK886.out (by decide)) (fun _ hk => hk.2) (.int .i64 t878)) (fun _ hk => hk.2) (.int .i64 t879)) (fun _ hk => hk.2) (.int .i64 t880)) (fun _ hk => hk.2) (.slice Ao21 t881.length co21)) (fun _ h_ => h_.1))) hb); have n4_ := Aside0.mk (blk_below (g := gb874) (o := .cells #[.int .i64 t866, .int .i64 t867, .int .i64 t868, .slice Ao14 t869.length co14] 63 (0, 0)) (by (with_reducible repeat (first | refine blk_drewN ?_ _ | refine blk_drew ?_ | refine blk_alloc ?_ _)); refine blk_far ?_ NB874_886.out _; (with_reducible repeat (first | refine blk_drewN ?_ _ | refine blk_drew ?_ | refine blk_alloc ?_ _)); refine blk_far ?_ NB874_886.out _; (with_reducible repeat (first | refine blk_drewN ?_ _ | refine blk_drew ?_ | refine blk_alloc ?_ _)); refine blk_far ?_ NB874_886.out _; (with_reducible repeat (first | refine blk_drewN ?_ _ | refine blk_drew ?_ | refine blk_alloc ?_ _)); refine blk_far ?_ NB874_886.out _; (with_reducible repeat (first | refine blk_drewN ?_ _ | refine blk_drew ?_ | refine blk_alloc ?_ _)); exact BK874.out) hb); have n5_ := Aside0.mk (blk_below (g := gb886) (o := .cells #[.int .i64 t878, .int .i64 t879, .int .i64 t880, .slice Ao21 t881.length co21] 63 (0, 0)) (by (with_reducible repeat (first | refine blk_drewN ?_ _ | refine blk_drew ?_ | refine blk_alloc ?_ _)); refine blk_put (cs := #[.int .i64 t878, .int .i64 t879, .int .i64 t880, .slice none 0 0]) ?_ 3 _ rfl; (with_reducible repeat (first | refine blk_drewN ?_ _ | refine blk_drew ?_ | refine blk_alloc ?_ _)); refine blk_put (cs := #[.int .i64 t878, .int .i64 t879, .int .i64 0, .slice none 0 0]) ?_ 2 _ rfl; (with_reducible repeat (first | refine blk_drewN ?_ _ | refine blk_drew ?_ | refine blk_alloc ?_ _)); refine blk_put (cs := #[.int .i64 t878, .int .i64 0, .int .i64 0, .slice none 0 0]) ?_ 1 _ rfl; (with_reducible repeat (first | refine blk_drewN ?_ _ | refine blk_drew ?_ | refine blk_alloc ?_ _)); refine blk_put (cs := #[.int .i64 0, .int .i64 0, .int .i64 0, .slice none 0 0]) ?_ 0 _ rfl; (with_reducible repeat (first | refine blk_drewN ?_ _ | refine blk_drew ?_ | refine blk_alloc ?_ _)); exact BK886.out) hb); have n6_ := Aside0.mk (below_step (by repeat (first | (with_reducible first | exact HB.out | apply below_alloc | apply pw_below_drewN | apply below_drew1 | refine below_set ?_ GE874.out | refine below_set ?_ GE886.out) | exact HB.out)) hb); clear HO865; clear HO871; clear HO877; clear HO883; clear BK874; clear BK886; clear HB; have HO865 := n0_; have HO871 := n1_; have HO877 := n2_; have HO883 := n3_; have BK874 := n4_; have BK886 := n5_; have HB := n6_; clear n0_ n1_ n2_ n3_ n4_ n5_ n6_; (try clear hb); (try clear hb2); (try clear hk); (try clear hi)))
     go_meet
     case rel => exact ⟨_, ((t885 != t873)), (by first | rfl | (simp; done) | (simp [*]; done)), H', ⟨by first | omega | exact Nat.le_refl _⟩, ⟨by (with_reducible repeat (first | apply Kd.R_alloc | apply Kd.R_drewN | apply Kd.R_drew)); exact Kd.R_mono HO877.out (fun _ hk => ⟨(by first | exact hk.1.2 | (have hq_ := hk; simp only [ne_eq] at hq_ ⊢; simp only [hq_, not_false_eq_true, and_self])), (by first | exact hk.2 | (have hq_ := hk; simp only [ne_eq] at hq_ ⊢; simp only [hq_, not_false_eq_true, and_self]))⟩)⟩, ⟨by (with_reducible repeat (first | apply Kd.R_alloc | apply Kd.R_drewN | apply Kd.R_drew)); exact Kd.R_mono HO871.out (fun _ hk => ⟨(by first | exact hk.1.2 | (have hq_ := hk; simp only [ne_eq] at hq_ ⊢; simp only [hq_, not_false_eq_true, and_self])), (by first | exact hk.2 | (have hq_ := hk; simp only [ne_eq] at hq_ ⊢; simp only [hq_, not_false_eq_true, and_self]))⟩)⟩, ⟨by (with_reducible repeat (first | apply Kd.R_alloc | apply Kd.R_drewN | apply Kd.R_drew)); exact Kd.R_mono HO883.out (fun _ hk => ⟨(by first | exact hk.2 | (have hq_ := hk; simp only [ne_eq] at hq_ ⊢; simp only [hq_, not_false_eq_true, and_self])), (by first | exact hk.1.2 | (have hq_ := hk; simp only [ne_eq] at hq_ ⊢; simp only [hq_, not_false_eq_true, and_self]))⟩)⟩, ⟨by (with_reducible repeat (first | refine blk_drewN ?_ _ | refine blk_drew ?_ | refine blk_alloc ?_ _)); exact BK874.out⟩, ⟨by (with_reducible repeat (first | refine blk_drewN ?_ _ | refine blk_drew ?_ | refine blk_alloc ?_ _)); exact BK886.out⟩, ⟨by repeat (first | (with_reducible first | exact HB.out | apply below_alloc | apply pw_below_drewN | apply below_drew1 | refine below_set ?_ GE874.out | refine below_set ?_ GE886.out) | exact HB.out)⟩⟩
    ·
     rw [if_neg c24] at H
     have c24b0 : (t884 == t872) = false := beq_eq_false_iff_ne.mpr c24
     have c24b1 : (t884 != t872) = true := bne_iff_ne.mpr c24
     (first | rw [c24b0] | (simp only [i64_w, i32_w]; rw [c24b0]) | skip)
     have H' := Aside0.mk H
     clear H
     have hnb29 := NB886_874.out
     have hnc29 := NB874_886.out
     have hcz30_0 : w18.cell? ⟨gb886, 0, none⟩ = some (.int .i64 0) := (blk_cell BK886.out 0).trans rfl
     have hcz30_1 : w18.cell? ⟨gb886, 1, none⟩ = some (.int .i64 0) := (blk_cell BK886.out 1).trans rfl
     have hcz30_2 : w18.cell? ⟨gb886, 2, none⟩ = some (.int .i64 0) := (blk_cell BK886.out 2).trans rfl
     have hcz30_3 : w18.cell? ⟨gb886, 3, none⟩ = some (.slice none 0 0) := (blk_cell BK886.out 3).trans rfl
     have hfz30_0 := blk_frozen BK886.out 0
     have hfz30_1 := blk_frozen BK886.out 1
     have hfz30_2 := blk_frozen BK886.out 2
     have hfz30_3 := blk_frozen BK886.out 3
     have hcz31_0 : w18.cell? ⟨gb874, 0, none⟩ = some (.int .i64 t866) := (blk_cell BK874.out 0).trans rfl
     have hcz31_1 : w18.cell? ⟨gb874, 1, none⟩ = some (.int .i64 t867) := (blk_cell BK874.out 1).trans rfl
     have hcz31_2 : w18.cell? ⟨gb874, 2, none⟩ = some (.int .i64 t868) := (blk_cell BK874.out 2).trans rfl
     have hcz31_3 : w18.cell? ⟨gb874, 3, none⟩ = some (.slice Ao14 t869.length co14) := (blk_cell BK874.out 3).trans rfl
     have hfz31_0 := blk_frozen BK874.out 0
     have hfz31_1 := blk_frozen BK874.out 1
     have hfz31_2 := blk_frozen BK874.out 2
     have hfz31_3 := blk_frozen BK874.out 3
     go_wp2_with (first | ((with_reducible refine gate_callee (f := 49) rfl ?_); refine goesL_ (some 40) rfl rfl Try.func49 (by kernel_rfl) rfl #[.agg #[.int .i64 t878, .int .i64 t879, .int .i64 t880, .slice Ao21 t881.length co21], .agg #[.int .i64 t866, .int .i64 t867, .int .i64 t868, .slice Ao14 t869.length co14]] rfl (by (try simp only [List.map_toArray, List.map_cons, List.map_nil]); first | done | rfl | (simp only [List.length_drop, List.length_take]; rfl)) ?_; (with_reducible refine (laws_eqFrame.calls k t878 t879 t880 _ _ t881 t866 t867 t868 _ _ t869 true _ ?side1 ?side2 ?side3 ?side4 A22.out).mono ?_); (case side1 => refine (Kd.R_reads' (e := 5) (base := w.heap.size) (ok := fun k_ => (((True ∧ some k_ ≠ (.slice Ao10 t863.length co10 : Value).ownBlock) ∧ some k_ ≠ (.slice Ao14 t869.length co14 : Value).ownBlock) ∧ some k_ ≠ (.slice Ao16 t875.length co16 : Value).ownBlock)) (n := t881.length) (c := co21) ?_).2.2; exact (by (with_reducible repeat (first | apply Kd.R_alloc | apply Kd.R_drewN | apply Kd.R_drew)); exact (Kd.R_mono (Kd.R_far (p := ⟨gb886, 3, none⟩) (Kd.R_far (p := ⟨gb886, 2, none⟩) (Kd.R_far (p := ⟨gb886, 1, none⟩) (Kd.R_far (p := ⟨gb886, 0, none⟩) (Kd.R_types HO883.out BK886.out (by decide)) (fun _ hk => hk.2) (.int .i64 t878)) (fun _ hk => hk.2) (.int .i64 t879)) (fun _ hk => hk.2) (.int .i64 t880)) (fun _ hk => hk.2) (.slice Ao21 t881.length co21)) (fun _ h_ => h_.1)))); (case side2 => exact (Kd.R_reads' HO883.out).2.1); (case side3 => refine (Kd.R_reads' (e := 5) (base := w.heap.size) (ok := fun k_ => (((True ∧ some k_ ≠ (.slice Ao10 t863.length co10 : Value).ownBlock) ∧ some k_ ≠ (.slice Ao16 t875.length co16 : Value).ownBlock) ∧ some k_ ≠ (.slice Ao21 t881.length co21 : Value).ownBlock)) (n := t869.length) (c := co14) ?_).2.2; exact (by (with_reducible repeat (first | apply Kd.R_alloc | apply Kd.R_drewN | apply Kd.R_drew)); exact (Kd.R_mono (Kd.R_far (p := ⟨gb886, 3, none⟩) (Kd.R_far (p := ⟨gb886, 2, none⟩) (Kd.R_far (p := ⟨gb886, 1, none⟩) (Kd.R_far (p := ⟨gb886, 0, none⟩) (Kd.R_types HO871.out BK886.out (by decide)) (fun _ hk => hk.2) (.int .i64 t878)) (fun _ hk => hk.2) (.int .i64 t879)) (fun _ hk => hk.2) (.int .i64 t880)) (fun _ hk => hk.2) (.slice Ao21 t881.length co21)) (fun _ h_ => h_.1)))); (case side4 => exact (Kd.R_reads' HO871.out).2.1); rintro e w32 ⟨rfl, hb⟩; refine ⟨_, rfl, ?_⟩; have n0_ := Aside0.mk (Kd.R_below (by (with_reducible repeat (first | apply Kd.R_alloc | apply Kd.R_drewN | apply Kd.R_drew)); exact (Kd.R_mono (Kd.R_far (p := ⟨gb886, 3, none⟩) (Kd.R_far (p := ⟨gb886, 2, none⟩) (Kd.R_far (p := ⟨gb886, 1, none⟩) (Kd.R_far (p := ⟨gb886, 0, none⟩) (Kd.R_types HO865.out BK886.out (by decide)) (fun _ hk => hk.2) (.int .i64 t878)) (fun _ hk => hk.2) (.int .i64 t879)) (fun _ hk => hk.2) (.int .i64 t880)) (fun _ hk => hk.2) (.slice Ao21 t881.length co21)) (fun _ h_ => h_.1))) hb); have n1_ := Aside0.mk (Kd.R_below (by (with_reducible repeat (first | apply Kd.R_alloc | apply Kd.R_drewN | apply Kd.R_drew)); exact (Kd.R_mono (Kd.R_far (p := ⟨gb886, 3, none⟩) (Kd.R_far (p := ⟨gb886, 2, none⟩) (Kd.R_far (p := ⟨gb886, 1, none⟩) (Kd.R_far (p := ⟨gb886, 0, none⟩) (Kd.R_types HO871.out BK886.out (by decide)) (fun _ hk => hk.2) (.int .i64 t878)) (fun _ hk => hk.2) (.int .i64 t879)) (fun _ hk => hk.2) (.int .i64 t880)) (fun _ hk => hk.2) (.slice Ao21 t881.length co21)) (fun _ h_ => h_.1))) hb); have n2_ := Aside0.mk (Kd.R_below (by (with_reducible repeat (first | apply Kd.R_alloc | apply Kd.R_drewN | apply Kd.R_drew)); exact (Kd.R_mono (Kd.R_far (p := ⟨gb886, 3, none⟩) (Kd.R_far (p := ⟨gb886, 2, none⟩) (Kd.R_far (p := ⟨gb886, 1, none⟩) (Kd.R_far (p := ⟨gb886, 0, none⟩) (Kd.R_types HO877.out BK886.out (by decide)) (fun _ hk => hk.2) (.int .i64 t878)) (fun _ hk => hk.2) (.int .i64 t879)) (fun _ hk => hk.2) (.int .i64 t880)) (fun _ hk => hk.2) (.slice Ao21 t881.length co21)) (fun _ h_ => h_.1))) hb); have n3_ := Aside0.mk (Kd.R_below (by (with_reducible repeat (first | apply Kd.R_alloc | apply Kd.R_drewN | apply Kd.R_drew)); exact (Kd.R_mono (Kd.R_far (p := ⟨gb886, 3, none⟩) (Kd.R_far (p := ⟨gb886, 2, none⟩) (Kd.R_far (p := ⟨gb886, 1, none⟩) (Kd.R_far (p := ⟨gb886, 0, none⟩) (Kd.R_types HO883.out BK886.out (by decide)) (fun _ hk => hk.2) (.int .i64 t878)) (fun _ hk => hk.2) (.int .i64 t879)) (fun _ hk => hk.2) (.int .i64 t880)) (fun _ hk => hk.2) (.slice Ao21 t881.length co21)) (fun _ h_ => h_.1))) hb); have n4_ := Aside0.mk (blk_below (g := gb874) (o := .cells #[.int .i64 t866, .int .i64 t867, .int .i64 t868, .slice Ao14 t869.length co14] 63 (0, 0)) (by (with_reducible repeat (first | refine blk_drewN ?_ _ | refine blk_drew ?_ | refine blk_alloc ?_ _)); refine blk_far ?_ NB874_886.out _; (with_reducible repeat (first | refine blk_drewN ?_ _ | refine blk_drew ?_ | refine blk_alloc ?_ _)); refine blk_far ?_ NB874_886.out _; (with_reducible repeat (first | refine blk_drewN ?_ _ | refine blk_drew ?_ | refine blk_alloc ?_ _)); refine blk_far ?_ NB874_886.out _; (with_reducible repeat (first | refine blk_drewN ?_ _ | refine blk_drew ?_ | refine blk_alloc ?_ _)); refine blk_far ?_ NB874_886.out _; (with_reducible repeat (first | refine blk_drewN ?_ _ | refine blk_drew ?_ | refine blk_alloc ?_ _)); exact BK874.out) hb); have n5_ := Aside0.mk (blk_below (g := gb886) (o := .cells #[.int .i64 t878, .int .i64 t879, .int .i64 t880, .slice Ao21 t881.length co21] 63 (0, 0)) (by (with_reducible repeat (first | refine blk_drewN ?_ _ | refine blk_drew ?_ | refine blk_alloc ?_ _)); refine blk_put (cs := #[.int .i64 t878, .int .i64 t879, .int .i64 t880, .slice none 0 0]) ?_ 3 _ rfl; (with_reducible repeat (first | refine blk_drewN ?_ _ | refine blk_drew ?_ | refine blk_alloc ?_ _)); refine blk_put (cs := #[.int .i64 t878, .int .i64 t879, .int .i64 0, .slice none 0 0]) ?_ 2 _ rfl; (with_reducible repeat (first | refine blk_drewN ?_ _ | refine blk_drew ?_ | refine blk_alloc ?_ _)); refine blk_put (cs := #[.int .i64 t878, .int .i64 0, .int .i64 0, .slice none 0 0]) ?_ 1 _ rfl; (with_reducible repeat (first | refine blk_drewN ?_ _ | refine blk_drew ?_ | refine blk_alloc ?_ _)); refine blk_put (cs := #[.int .i64 0, .int .i64 0, .int .i64 0, .slice none 0 0]) ?_ 0 _ rfl; (with_reducible repeat (first | refine blk_drewN ?_ _ | refine blk_drew ?_ | refine blk_alloc ?_ _)); exact BK886.out) hb); have n6_ := Aside0.mk (below_step (by repeat (first | (with_reducible first | exact HB.out | apply below_alloc | apply pw_below_drewN | apply below_drew1 | refine below_set ?_ GE874.out | refine below_set ?_ GE886.out) | exact HB.out)) hb); clear HO865; clear HO871; clear HO877; clear HO883; clear BK874; clear BK886; clear HB; have HO865 := n0_; have HO871 := n1_; have HO877 := n2_; have HO883 := n3_; have BK874 := n4_; have BK886 := n5_; have HB := n6_; clear n0_ n1_ n2_ n3_ n4_ n5_ n6_; (try clear hb); (try clear hb2); (try clear hk); (try clear hi)))
     go_meet
     case rel => exact ⟨_, (true), (by first | rfl | (simp; done) | (simp [*]; done)), H', ⟨by first | omega | exact Nat.le_refl _⟩, ⟨by (with_reducible repeat (first | apply Kd.R_alloc | apply Kd.R_drewN | apply Kd.R_drew)); exact Kd.R_mono HO877.out (fun _ hk => ⟨(by first | exact hk.1.2 | (have hq_ := hk; simp only [ne_eq] at hq_ ⊢; simp only [hq_, not_false_eq_true, and_self])), (by first | exact hk.2 | (have hq_ := hk; simp only [ne_eq] at hq_ ⊢; simp only [hq_, not_false_eq_true, and_self]))⟩)⟩, ⟨by (with_reducible repeat (first | apply Kd.R_alloc | apply Kd.R_drewN | apply Kd.R_drew)); exact Kd.R_mono HO871.out (fun _ hk => ⟨(by first | exact hk.1.2 | (have hq_ := hk; simp only [ne_eq] at hq_ ⊢; simp only [hq_, not_false_eq_true, and_self])), (by first | exact hk.2 | (have hq_ := hk; simp only [ne_eq] at hq_ ⊢; simp only [hq_, not_false_eq_true, and_self]))⟩)⟩, ⟨by (with_reducible repeat (first | apply Kd.R_alloc | apply Kd.R_drewN | apply Kd.R_drew)); exact Kd.R_mono HO883.out (fun _ hk => ⟨(by first | exact hk.2 | (have hq_ := hk; simp only [ne_eq] at hq_ ⊢; simp only [hq_, not_false_eq_true, and_self])), (by first | exact hk.1.2 | (have hq_ := hk; simp only [ne_eq] at hq_ ⊢; simp only [hq_, not_false_eq_true, and_self]))⟩)⟩, ⟨by (with_reducible repeat (first | refine blk_drewN ?_ _ | refine blk_drew ?_ | refine blk_alloc ?_ _)); exact BK874.out⟩, ⟨by (with_reducible repeat (first | refine blk_drewN ?_ _ | refine blk_drew ?_ | refine blk_alloc ?_ _)); exact BK886.out⟩, ⟨by repeat (first | (with_reducible first | exact HB.out | apply below_alloc | apply pw_below_drewN | apply below_drew1 | refine below_set ?_ GE874.out | refine below_set ?_ GE886.out) | exact HB.out)⟩⟩
   ·
    replace c23 := Bool.eq_false_iff.mpr c23
    subst c23
    have H1 : (laws_FnExactGetFrame.j0 k l0 a1 t872 t873 t875 t884 t885 true t866 t867 t868 t869 t878 t879 t880 t881) = some r := by rw [if_neg (show ¬ (false = true) by decide)] at H; exact H
    clear H
    have H := H1
    clear H1
    have H' := Aside0.mk H
    clear H
    have hnb33 := NB886_874.out
    have hnc33 := NB874_886.out
    have hcz34_0 : w18.cell? ⟨gb886, 0, none⟩ = some (.int .i64 0) := (blk_cell BK886.out 0).trans rfl
    have hcz34_1 : w18.cell? ⟨gb886, 1, none⟩ = some (.int .i64 0) := (blk_cell BK886.out 1).trans rfl
    have hcz34_2 : w18.cell? ⟨gb886, 2, none⟩ = some (.int .i64 0) := (blk_cell BK886.out 2).trans rfl
    have hcz34_3 : w18.cell? ⟨gb886, 3, none⟩ = some (.slice none 0 0) := (blk_cell BK886.out 3).trans rfl
    have hfz34_0 := blk_frozen BK886.out 0
    have hfz34_1 := blk_frozen BK886.out 1
    have hfz34_2 := blk_frozen BK886.out 2
    have hfz34_3 := blk_frozen BK886.out 3
    have hcz35_0 : w18.cell? ⟨gb874, 0, none⟩ = some (.int .i64 t866) := (blk_cell BK874.out 0).trans rfl
    have hcz35_1 : w18.cell? ⟨gb874, 1, none⟩ = some (.int .i64 t867) := (blk_cell BK874.out 1).trans rfl
    have hcz35_2 : w18.cell? ⟨gb874, 2, none⟩ = some (.int .i64 t868) := (blk_cell BK874.out 2).trans rfl
    have hcz35_3 : w18.cell? ⟨gb874, 3, none⟩ = some (.slice Ao14 t869.length co14) := (blk_cell BK874.out 3).trans rfl
    have hfz35_0 := blk_frozen BK874.out 0
    have hfz35_1 := blk_frozen BK874.out 1
    have hfz35_2 := blk_frozen BK874.out 2
    have hfz35_3 := blk_frozen BK874.out 3
    go_wp2_with (first | ((with_reducible refine gate_callee (f := 49) rfl ?_); refine goesL_ (some 40) rfl rfl Try.func49 (by kernel_rfl) rfl #[.agg #[.int .i64 t878, .int .i64 t879, .int .i64 t880, .slice Ao21 t881.length co21], .agg #[.int .i64 t866, .int .i64 t867, .int .i64 t868, .slice Ao14 t869.length co14]] rfl (by (try simp only [List.map_toArray, List.map_cons, List.map_nil]); first | done | rfl | (simp only [List.length_drop, List.length_take]; rfl)) ?_; (with_reducible refine (laws_eqFrame.calls k t878 t879 t880 _ _ t881 t866 t867 t868 _ _ t869 false _ ?side1 ?side2 ?side3 ?side4 A22.out).mono ?_); (case side1 => refine (Kd.R_reads' (e := 5) (base := w.heap.size) (ok := fun k_ => (((True ∧ some k_ ≠ (.slice Ao10 t863.length co10 : Value).ownBlock) ∧ some k_ ≠ (.slice Ao14 t869.length co14 : Value).ownBlock) ∧ some k_ ≠ (.slice Ao16 t875.length co16 : Value).ownBlock)) (n := t881.length) (c := co21) ?_).2.2; exact (by (with_reducible repeat (first | apply Kd.R_alloc | apply Kd.R_drewN | apply Kd.R_drew)); exact (Kd.R_mono (Kd.R_far (p := ⟨gb886, 3, none⟩) (Kd.R_far (p := ⟨gb886, 2, none⟩) (Kd.R_far (p := ⟨gb886, 1, none⟩) (Kd.R_far (p := ⟨gb886, 0, none⟩) (Kd.R_types HO883.out BK886.out (by decide)) (fun _ hk => hk.2) (.int .i64 t878)) (fun _ hk => hk.2) (.int .i64 t879)) (fun _ hk => hk.2) (.int .i64 t880)) (fun _ hk => hk.2) (.slice Ao21 t881.length co21)) (fun _ h_ => h_.1)))); (case side2 => exact (Kd.R_reads' HO883.out).2.1); (case side3 => refine (Kd.R_reads' (e := 5) (base := w.heap.size) (ok := fun k_ => (((True ∧ some k_ ≠ (.slice Ao10 t863.length co10 : Value).ownBlock) ∧ some k_ ≠ (.slice Ao16 t875.length co16 : Value).ownBlock) ∧ some k_ ≠ (.slice Ao21 t881.length co21 : Value).ownBlock)) (n := t869.length) (c := co14) ?_).2.2; exact (by (with_reducible repeat (first | apply Kd.R_alloc | apply Kd.R_drewN | apply Kd.R_drew)); exact (Kd.R_mono (Kd.R_far (p := ⟨gb886, 3, none⟩) (Kd.R_far (p := ⟨gb886, 2, none⟩) (Kd.R_far (p := ⟨gb886, 1, none⟩) (Kd.R_far (p := ⟨gb886, 0, none⟩) (Kd.R_types HO871.out BK886.out (by decide)) (fun _ hk => hk.2) (.int .i64 t878)) (fun _ hk => hk.2) (.int .i64 t879)) (fun _ hk => hk.2) (.int .i64 t880)) (fun _ hk => hk.2) (.slice Ao21 t881.length co21)) (fun _ h_ => h_.1)))); (case side4 => exact (Kd.R_reads' HO871.out).2.1); rintro e w36 ⟨rfl, hb⟩; refine ⟨_, rfl, ?_⟩; have n0_ := Aside0.mk (Kd.R_below (by (with_reducible repeat (first | apply Kd.R_alloc | apply Kd.R_drewN | apply Kd.R_drew)); exact (Kd.R_mono (Kd.R_far (p := ⟨gb886, 3, none⟩) (Kd.R_far (p := ⟨gb886, 2, none⟩) (Kd.R_far (p := ⟨gb886, 1, none⟩) (Kd.R_far (p := ⟨gb886, 0, none⟩) (Kd.R_types HO865.out BK886.out (by decide)) (fun _ hk => hk.2) (.int .i64 t878)) (fun _ hk => hk.2) (.int .i64 t879)) (fun _ hk => hk.2) (.int .i64 t880)) (fun _ hk => hk.2) (.slice Ao21 t881.length co21)) (fun _ h_ => h_.1))) hb); have n1_ := Aside0.mk (Kd.R_below (by (with_reducible repeat (first | apply Kd.R_alloc | apply Kd.R_drewN | apply Kd.R_drew)); exact (Kd.R_mono (Kd.R_far (p := ⟨gb886, 3, none⟩) (Kd.R_far (p := ⟨gb886, 2, none⟩) (Kd.R_far (p := ⟨gb886, 1, none⟩) (Kd.R_far (p := ⟨gb886, 0, none⟩) (Kd.R_types HO871.out BK886.out (by decide)) (fun _ hk => hk.2) (.int .i64 t878)) (fun _ hk => hk.2) (.int .i64 t879)) (fun _ hk => hk.2) (.int .i64 t880)) (fun _ hk => hk.2) (.slice Ao21 t881.length co21)) (fun _ h_ => h_.1))) hb); have n2_ := Aside0.mk (Kd.R_below (by (with_reducible repeat (first | apply Kd.R_alloc | apply Kd.R_drewN | apply Kd.R_drew)); exact (Kd.R_mono (Kd.R_far (p := ⟨gb886, 3, none⟩) (Kd.R_far (p := ⟨gb886, 2, none⟩) (Kd.R_far (p := ⟨gb886, 1, none⟩) (Kd.R_far (p := ⟨gb886, 0, none⟩) (Kd.R_types HO877.out BK886.out (by decide)) (fun _ hk => hk.2) (.int .i64 t878)) (fun _ hk => hk.2) (.int .i64 t879)) (fun _ hk => hk.2) (.int .i64 t880)) (fun _ hk => hk.2) (.slice Ao21 t881.length co21)) (fun _ h_ => h_.1))) hb); have n3_ := Aside0.mk (Kd.R_below (by (with_reducible repeat (first | apply Kd.R_alloc | apply Kd.R_drewN | apply Kd.R_drew)); exact (Kd.R_mono (Kd.R_far (p := ⟨gb886, 3, none⟩) (Kd.R_far (p := ⟨gb886, 2, none⟩) (Kd.R_far (p := ⟨gb886, 1, none⟩) (Kd.R_far (p := ⟨gb886, 0, none⟩) (Kd.R_types HO883.out BK886.out (by decide)) (fun _ hk => hk.2) (.int .i64 t878)) (fun _ hk => hk.2) (.int .i64 t879)) (fun _ hk => hk.2) (.int .i64 t880)) (fun _ hk => hk.2) (.slice Ao21 t881.length co21)) (fun _ h_ => h_.1))) hb); have n4_ := Aside0.mk (blk_below (g := gb874) (o := .cells #[.int .i64 t866, .int .i64 t867, .int .i64 t868, .slice Ao14 t869.length co14] 63 (0, 0)) (by (with_reducible repeat (first | refine blk_drewN ?_ _ | refine blk_drew ?_ | refine blk_alloc ?_ _)); refine blk_far ?_ NB874_886.out _; (with_reducible repeat (first | refine blk_drewN ?_ _ | refine blk_drew ?_ | refine blk_alloc ?_ _)); refine blk_far ?_ NB874_886.out _; (with_reducible repeat (first | refine blk_drewN ?_ _ | refine blk_drew ?_ | refine blk_alloc ?_ _)); refine blk_far ?_ NB874_886.out _; (with_reducible repeat (first | refine blk_drewN ?_ _ | refine blk_drew ?_ | refine blk_alloc ?_ _)); refine blk_far ?_ NB874_886.out _; (with_reducible repeat (first | refine blk_drewN ?_ _ | refine blk_drew ?_ | refine blk_alloc ?_ _)); exact BK874.out) hb); have n5_ := Aside0.mk (blk_below (g := gb886) (o := .cells #[.int .i64 t878, .int .i64 t879, .int .i64 t880, .slice Ao21 t881.length co21] 63 (0, 0)) (by (with_reducible repeat (first | refine blk_drewN ?_ _ | refine blk_drew ?_ | refine blk_alloc ?_ _)); refine blk_put (cs := #[.int .i64 t878, .int .i64 t879, .int .i64 t880, .slice none 0 0]) ?_ 3 _ rfl; (with_reducible repeat (first | refine blk_drewN ?_ _ | refine blk_drew ?_ | refine blk_alloc ?_ _)); refine blk_put (cs := #[.int .i64 t878, .int .i64 t879, .int .i64 0, .slice none 0 0]) ?_ 2 _ rfl; (with_reducible repeat (first | refine blk_drewN ?_ _ | refine blk_drew ?_ | refine blk_alloc ?_ _)); refine blk_put (cs := #[.int .i64 t878, .int .i64 0, .int .i64 0, .slice none 0 0]) ?_ 1 _ rfl; (with_reducible repeat (first | refine blk_drewN ?_ _ | refine blk_drew ?_ | refine blk_alloc ?_ _)); refine blk_put (cs := #[.int .i64 0, .int .i64 0, .int .i64 0, .slice none 0 0]) ?_ 0 _ rfl; (with_reducible repeat (first | refine blk_drewN ?_ _ | refine blk_drew ?_ | refine blk_alloc ?_ _)); exact BK886.out) hb); have n6_ := Aside0.mk (below_step (by repeat (first | (with_reducible first | exact HB.out | apply below_alloc | apply pw_below_drewN | apply below_drew1 | refine below_set ?_ GE874.out | refine below_set ?_ GE886.out) | exact HB.out)) hb); clear HO865; clear HO871; clear HO877; clear HO883; clear BK874; clear BK886; clear HB; have HO865 := n0_; have HO871 := n1_; have HO877 := n2_; have HO883 := n3_; have BK874 := n4_; have BK886 := n5_; have HB := n6_; clear n0_ n1_ n2_ n3_ n4_ n5_ n6_; (try clear hb); (try clear hb2); (try clear hk); (try clear hi)))
    go_meet
    case rel => exact ⟨_, (true), (by first | rfl | (simp; done) | (simp [*]; done)), H', ⟨by first | omega | exact Nat.le_refl _⟩, ⟨by (with_reducible repeat (first | apply Kd.R_alloc | apply Kd.R_drewN | apply Kd.R_drew)); exact Kd.R_mono HO877.out (fun _ hk => ⟨(by first | exact hk.1.2 | (have hq_ := hk; simp only [ne_eq] at hq_ ⊢; simp only [hq_, not_false_eq_true, and_self])), (by first | exact hk.2 | (have hq_ := hk; simp only [ne_eq] at hq_ ⊢; simp only [hq_, not_false_eq_true, and_self]))⟩)⟩, ⟨by (with_reducible repeat (first | apply Kd.R_alloc | apply Kd.R_drewN | apply Kd.R_drew)); exact Kd.R_mono HO871.out (fun _ hk => ⟨(by first | exact hk.1.2 | (have hq_ := hk; simp only [ne_eq] at hq_ ⊢; simp only [hq_, not_false_eq_true, and_self])), (by first | exact hk.2 | (have hq_ := hk; simp only [ne_eq] at hq_ ⊢; simp only [hq_, not_false_eq_true, and_self]))⟩)⟩, ⟨by (with_reducible repeat (first | apply Kd.R_alloc | apply Kd.R_drewN | apply Kd.R_drew)); exact Kd.R_mono HO883.out (fun _ hk => ⟨(by first | exact hk.2 | (have hq_ := hk; simp only [ne_eq] at hq_ ⊢; simp only [hq_, not_false_eq_true, and_self])), (by first | exact hk.1.2 | (have hq_ := hk; simp only [ne_eq] at hq_ ⊢; simp only [hq_, not_false_eq_true, and_self]))⟩)⟩, ⟨by (with_reducible repeat (first | refine blk_drewN ?_ _ | refine blk_drew ?_ | refine blk_alloc ?_ _)); exact BK874.out⟩, ⟨by (with_reducible repeat (first | refine blk_drewN ?_ _ | refine blk_drew ?_ | refine blk_alloc ?_ _)); exact BK886.out⟩, ⟨by repeat (first | (with_reducible first | exact HB.out | apply below_alloc | apply pw_below_drewN | apply below_drew1 | refine below_set ?_ GE874.out | refine below_set ?_ GE886.out) | exact HB.out)⟩⟩
  case rest =>
   clear HC8
   try clear c1
   try clear c2
   try clear p2
   try clear c3
   try clear c3b0
   try clear c3b1
   try clear c4
   try clear c5
   try clear c12
   try clear c16
   try clear c19
   try clear c23
   try clear c24
   try clear c24b0
   try clear c24b1
   try clear c25
   try clear c29
   try clear c33
   try clear hcz13_0
   try clear hcz13_1
   try clear hcz13_2
   try clear hcz13_3
   try clear hcz20_0
   try clear hcz20_1
   try clear hcz20_2
   try clear hcz20_3
   try clear hcz26_0
   try clear hcz26_1
   try clear hcz26_2
   try clear hcz26_3
   try clear hcz27_0
   try clear hcz27_1
   try clear hcz27_2
   try clear hcz27_3
   try clear hcz30_0
   try clear hcz30_1
   try clear hcz30_2
   try clear hcz30_3
   try clear hcz31_0
   try clear hcz31_1
   try clear hcz31_2
   try clear hcz31_3
   try clear hcz34_0
   try clear hcz34_1
   try clear hcz34_2
   try clear hcz34_3
   try clear hcz35_0
   try clear hcz35_1
   try clear hcz35_2
   try clear hcz35_3
   try clear hfz13_0
   try clear hfz13_1
   try clear hfz13_2
   try clear hfz13_3
   try clear hfz20_0
   try clear hfz20_1
   try clear hfz20_2
   try clear hfz20_3
   try clear hfz26_0
   try clear hfz26_1
   try clear hfz26_2
   try clear hfz26_3
   try clear hfz27_0
   try clear hfz27_1
   try clear hfz27_2
   try clear hfz27_3
   try clear hfz30_0
   try clear hfz30_1
   try clear hfz30_2
   try clear hfz30_3
   try clear hfz31_0
   try clear hfz31_1
   try clear hfz31_2
   try clear hfz31_3
   try clear hfz34_0
   try clear hfz34_1
   try clear hfz34_2
   try clear hfz34_3
   try clear hfz35_0
   try clear hfz35_1
   try clear hfz35_2
   try clear hfz35_3
   obtain ⟨kq, x51_7, rfl, HA, HJ7, HO_8, HO_875003, HO_887003, BK874, BK886, HB⟩ := hcut
   cases kq with
   | zero => exact absurd HA.out (by simp [laws_FnExactGetFrame.j0])
   | succ kj7 =>
    have H := HA.out
    clear HA
    simp only [laws_FnExactGetFrame.j0] at H
    by_cases c37 : x51_7 = true
    ·
     subst c37
     have H1 : (some false) = some r := by rw [if_pos rfl] at H; exact H
     clear H
     have H := H1
     clear H1
     obtain rfl := Option.some.inj H
     go_wp2
     go_ret
     exact ⟨by first | rfl | (simp [errW_none, errW_some] <;> rfl) | (simp [*, errW_none, errW_some] <;> rfl), by repeat (first | (with_reducible first | exact HB.out | apply below_alloc | apply pw_below_drewN | apply below_drew1 | refine below_set ?_ GE874.out | refine below_set ?_ GE886.out) | exact HB.out)⟩
    ·
     replace c37 := Bool.eq_false_iff.mpr c37
     subst c37
     have H1 : ((laws_toByteS.f kj7 l0).bind fun t888 => ((laws_eqByteS.f kj7 t875 t888).bind fun t891 => (if t891 = true then ((laws_markByteS.f kj7 t875 1).bind fun bt892 => (if bt892.1 < 0 then (laws_FnExactGetFrame.j1 kj7 l0 a1 t872 t873 true t866 t867 t868 t869 t878 t879 t880 t881) else ((laws_eqFrame.f kj7 t878 t879 t880 t881 t866 t867 t868 t869).bind fun t894 => (if t894 = true then (if t884 = t872 then (laws_FnExactGetFrame.j1 kj7 l0 a1 t872 t873 (t885 != t873) t866 t867 t868 t869 t878 t879 t880 t881) else (laws_FnExactGetFrame.j1 kj7 l0 a1 t872 t873 true t866 t867 t868 t869 t878 t879 t880 t881)) else (laws_FnExactGetFrame.j1 kj7 l0 a1 t872 t873 true t866 t867 t868 t869 t878 t879 t880 t881))))) else (some false)))) = some r := by rw [if_neg (show ¬ (false = true) by decide)] at H; exact H
     clear H
     have H := H1
     clear H1
     replace H := Option.bind_eq_some_iff.mp H
     obtain ⟨t888, A380, H⟩ := H
     replace H : ((laws_eqByteS.f kj7 t875 t888).bind fun t891 => (if t891 = true then ((laws_markByteS.f kj7 t875 1).bind fun bt892 => (if bt892.1 < 0 then (laws_FnExactGetFrame.j1 kj7 l0 a1 t872 t873 true t866 t867 t868 t869 t878 t879 t880 t881) else ((laws_eqFrame.f kj7 t878 t879 t880 t881 t866 t867 t868 t869).bind fun t894 => (if t894 = true then (if t884 = t872 then (laws_FnExactGetFrame.j1 kj7 l0 a1 t872 t873 (t885 != t873) t866 t867 t868 t869 t878 t879 t880 t881) else (laws_FnExactGetFrame.j1 kj7 l0 a1 t872 t873 true t866 t867 t868 t869 t878 t879 t880 t881)) else (laws_FnExactGetFrame.j1 kj7 l0 a1 t872 t873 true t866 t867 t868 t869 t878 t879 t880 t881))))) else (some false))) = some r := H
     have A38 := Aside0.mk A380
     clear A380
     replace H := Option.bind_eq_some_iff.mp H
     obtain ⟨t891, A390, H⟩ := H
     replace H : (if t891 = true then ((laws_markByteS.f kj7 t875 1).bind fun bt892 => (if bt892.1 < 0 then (laws_FnExactGetFrame.j1 kj7 l0 a1 t872 t873 true t866 t867 t868 t869 t878 t879 t880 t881) else ((laws_eqFrame.f kj7 t878 t879 t880 t881 t866 t867 t868 t869).bind fun t894 => (if t894 = true then (if t884 = t872 then (laws_FnExactGetFrame.j1 kj7 l0 a1 t872 t873 (t885 != t873) t866 t867 t868 t869 t878 t879 t880 t881) else (laws_FnExactGetFrame.j1 kj7 l0 a1 t872 t873 true t866 t867 t868 t869 t878 t879 t880 t881)) else (laws_FnExactGetFrame.j1 kj7 l0 a1 t872 t873 true t866 t867 t868 t869 t878 t879 t880 t881))))) else (some false)) = some r := H
     have A39 := Aside0.mk A390
     clear A390
     by_cases c40 : t891 = true
     ·
      subst c40
      have H1 : ((laws_markByteS.f kj7 t875 1).bind fun bt892 => (if bt892.1 < 0 then (laws_FnExactGetFrame.j1 kj7 l0 a1 t872 t873 true t866 t867 t868 t869 t878 t879 t880 t881) else ((laws_eqFrame.f kj7 t878 t879 t880 t881 t866 t867 t868 t869).bind fun t894 => (if t894 = true then (if t884 = t872 then (laws_FnExactGetFrame.j1 kj7 l0 a1 t872 t873 (t885 != t873) t866 t867 t868 t869 t878 t879 t880 t881) else (laws_FnExactGetFrame.j1 kj7 l0 a1 t872 t873 true t866 t867 t868 t869 t878 t879 t880 t881)) else (laws_FnExactGetFrame.j1 kj7 l0 a1 t872 t873 true t866 t867 t868 t869 t878 t879 t880 t881))))) = some r := by rw [if_pos rfl] at H; exact H
      clear H
      have H := H1
      clear H1
      replace H := Option.bind_eq_some_iff.mp H
      obtain ⟨⟨t892, t893⟩, A410, H⟩ := H
      replace H : (if t892 < 0 then (laws_FnExactGetFrame.j1 kj7 l0 a1 t872 t873 true t866 t867 t868 t869 t878 t879 t880 t881) else ((laws_eqFrame.f kj7 t878 t879 t880 t881 t866 t867 t868 t869).bind fun t894 => (if t894 = true then (if t884 = t872 then (laws_FnExactGetFrame.j1 kj7 l0 a1 t872 t873 (t885 != t873) t866 t867 t868 t869 t878 t879 t880 t881) else (laws_FnExactGetFrame.j1 kj7 l0 a1 t872 t873 true t866 t867 t868 t869 t878 t879 t880 t881)) else (laws_FnExactGetFrame.j1 kj7 l0 a1 t872 t873 true t866 t867 t868 t869 t878 t879 t880 t881)))) = some r := H
      have A41 := Aside0.mk A410
      clear A410
      have HC42 := Aside0.mk H
      clear H
      go_upto_region 12 with (first | ((with_reducible refine gate_callee (f := 16) rfl ?_); refine goesL_ (some 54) rfl rfl Try.func16 (by kernel_rfl) rfl #[.slice A0 l0.length c0] rfl (by (try simp only [List.map_toArray, List.map_cons, List.map_nil]); first | done | rfl | (simp only [List.length_drop, List.length_take]; rfl)) ?_; (with_reducible refine (laws_toByteS.calls kj7 _ _ l0 t888 _ ?side1 ?side2 A38.out).mono ?_); (case side1 => repeat (first | exact (Kd.C_below HR0.out HB.out) | (with_reducible refine Kd.C_alloc ?_ _) | (with_reducible refine Kd.C_drewN ?_ _) | (with_reducible refine Kd.C_drew ?_))); (case side2 => exact HC0.out); rintro e w43 ⟨v889, rfl, ho0, hb⟩; refine ⟨_, rfl, ?_⟩; have n0_ := Aside0.mk (Kd.R_elder' (by (with_reducible repeat (first | apply Kd.R_alloc | apply Kd.R_drewN | apply Kd.R_drew)); exact HO_8.out) (Kd.R_base ho0) hb); have n1_ := Aside0.mk (Kd.R_elder' (by (with_reducible repeat (first | apply Kd.R_alloc | apply Kd.R_drewN | apply Kd.R_drew)); exact HO_875003.out) (Kd.R_base ho0) hb); have n2_ := Aside0.mk (Kd.R_elder' (by (with_reducible repeat (first | apply Kd.R_alloc | apply Kd.R_drewN | apply Kd.R_drew)); exact HO_887003.out) (Kd.R_base ho0) hb); have n3_ := Aside0.mk (Kd.R_lower (Kd.R_new' (Kd.R_new' (Kd.R_new' ho0 (Kd.R_lt (by (with_reducible repeat (first | apply Kd.R_alloc | apply Kd.R_drewN | apply Kd.R_drew)); exact HO_8.out))) (Kd.R_lt (by (with_reducible repeat (first | apply Kd.R_alloc | apply Kd.R_drewN | apply Kd.R_drew)); exact HO_875003.out))) (Kd.R_lt (by (with_reducible repeat (first | apply Kd.R_alloc | apply Kd.R_drewN | apply Kd.R_drew)); exact HO_887003.out))) (below_size (by repeat (first | (with_reducible first | exact HB.out | apply below_alloc | apply pw_below_drewN | apply below_drew1 | refine below_set ?_ GE874.out | refine below_set ?_ GE886.out) | exact HB.out)))); have n4_ := Aside0.mk (blk_below (g := gb874) (o := .cells #[.int .i64 t866, .int .i64 t867, .int .i64 t868, .slice Ao14 t869.length co14] 63 (0, 0)) (by (with_reducible repeat (first | refine blk_drewN ?_ _ | refine blk_drew ?_ | refine blk_alloc ?_ _)); exact BK874.out) hb); have n5_ := Aside0.mk (blk_below (g := gb886) (o := .cells #[.int .i64 t878, .int .i64 t879, .int .i64 t880, .slice Ao21 t881.length co21] 63 (0, 0)) (by (with_reducible repeat (first | refine blk_drewN ?_ _ | refine blk_drew ?_ | refine blk_alloc ?_ _)); exact BK886.out) hb); have n6_ := Aside0.mk (below_step (by repeat (first | (with_reducible first | exact HB.out | apply below_alloc | apply pw_below_drewN | apply below_drew1 | refine below_set ?_ GE874.out | refine below_set ?_ GE886.out) | exact HB.out)) hb); clear HO_8; clear HO_875003; clear HO_887003; clear BK874; clear BK886; clear HB; have HO_8 := n0_; have HO_875003 := n1_; have HO_887003 := n2_; have HO890 := n3_; have BK874 := n4_; have BK886 := n5_; have HB := n6_; clear n0_ n1_ n2_ n3_ n4_ n5_ n6_; (try clear hb); (try clear hb2); (try clear hk); (try clear hi); (try clear ho0); obtain ⟨Ao44, co44, eo44⟩ := Kd.R_slice HO890.out; subst eo44) | ((with_reducible refine gate_callee (f := 18) rfl ?_); refine goesL_ (some 55) rfl rfl Try.func18 (by kernel_rfl) rfl #[.slice Ao16 t875.length co16, .slice Ao44 t888.length co44] rfl (by (try simp only [List.map_toArray, List.map_cons, List.map_nil]); first | done | rfl | (simp only [List.length_drop, List.length_take]; rfl)) ?_; (with_reducible refine (laws_eqByteS.calls kj7 _ _ t875 _ _ t888 true _ ?side1 ?side2 ?side3 ?side4 A39.out).mono ?_); (case side1 => repeat (first | exact (Kd.R_reads' HO_8.out).2.2 | (with_reducible refine Kd.C_alloc ?_ _) | (with_reducible refine Kd.C_drewN ?_ _) | (with_reducible refine Kd.C_drew ?_))); (case side2 => exact (Kd.R_reads' HO_8.out).2.1); (case side3 => repeat (first | exact (Kd.R_reads' HO890.out).2.2 | (with_reducible refine Kd.C_alloc ?_ _) | (with_reducible refine Kd.C_drewN ?_ _) | (with_reducible refine Kd.C_drew ?_))); (case side4 => exact (Kd.R_reads' HO890.out).2.1); rintro e w' ⟨rfl, ⟨nd, rfl⟩⟩; refine ⟨_, rfl, ?_⟩) | ((with_reducible refine gate_callee (f := 19) rfl ?_); refine goesL_ (some 59) rfl rfl Try.func19 (by kernel_rfl) rfl #[.slice Ao16 t875.length co16, .int .i64 1] rfl (by (try simp only [List.map_toArray, List.map_cons, List.map_nil]); first | done | rfl | (simp only [List.length_drop, List.length_take]; rfl)) ?_; (with_reducible refine (laws_markByteS.calls kj7 (fun k_ => some k_ = (.slice Ao16 t875.length co16 : Value).ownBlock) (.slice Ao16 t875.length co16) t875 1 t892 t893 w _ ?side1 ?side2 A41.out).mono ?_); (case side1 => repeat (first | (with_reducible first | exact HB.out | apply below_alloc | apply pw_below_drewN | apply below_drew1 | refine below_set ?_ GE874.out | refine below_set ?_ GE886.out) | exact HB.out)); (case side2 => exact Kd.R_tight rfl HO_8.out); rintro e w45 ⟨rfl, hy0, hb, hkp⟩; refine ⟨_, rfl, ?_⟩; have n0_ := Aside0.mk (Kd.R_reok rfl hy0 (fun k_ e_ => HO_8.out.1 k_ e_)); have n1_ := Aside0.mk (Kd.R_mono (ok' := fun k_ => some k_ ≠ (.slice Ao16 t875.length co16 : Value).ownBlock ∧ some k_ ≠ (.slice Ao21 t881.length co21 : Value).ownBlock ∧ some k_ ≠ (.slice Ao44 t888.length co44 : Value).ownBlock) (Kd.R_keptB (HO_875003.out) hkp (fun k_ hk_ hs_ => absurd hs_ ((by first | exact hk_.1.1 | (have hq_ := hk_; simp only [ne_eq] at hq_ ⊢; simp only [hq_, not_false_eq_true, and_self]))))) (fun k_ hk_ => ⟨(by first | exact hk_.1.1.1 | (have hq_ := hk_.1; simp only [ne_eq] at hq_ ⊢; simp only [hq_, not_false_eq_true, and_self])), (by first | exact hk_.1.1.2 | (have hq_ := hk_.1; simp only [ne_eq] at hq_ ⊢; simp only [hq_, not_false_eq_true, and_self])), (by first | exact hk_.1.2 | (have hq_ := hk_.1; simp only [ne_eq] at hq_ ⊢; simp only [hq_, not_false_eq_true, and_self]))⟩)); have n2_ := Aside0.mk (Kd.R_mono (ok' := fun k_ => some k_ ≠ (.slice Ao16 t875.length co16 : Value).ownBlock ∧ some k_ ≠ (.slice Ao14 t869.length co14 : Value).ownBlock ∧ some k_ ≠ (.slice Ao44 t888.length co44 : Value).ownBlock) (Kd.R_keptB (HO_887003.out) hkp (fun k_ hk_ hs_ => absurd hs_ ((by first | exact hk_.1.1 | (have hq_ := hk_; simp only [ne_eq] at hq_ ⊢; simp only [hq_, not_false_eq_true, and_self]))))) (fun k_ hk_ => ⟨(by first | exact hk_.1.1.1 | (have hq_ := hk_.1; simp only [ne_eq] at hq_ ⊢; simp only [hq_, not_false_eq_true, and_self])), (by first | exact hk_.1.1.2 | (have hq_ := hk_.1; simp only [ne_eq] at hq_ ⊢; simp only [hq_, not_false_eq_true, and_self])), (by first | exact hk_.1.2 | (have hq_ := hk_.1; simp only [ne_eq] at hq_ ⊢; simp only [hq_, not_false_eq_true, and_self]))⟩)); have n3_ := Aside0.mk (blk_kept (by (with_reducible repeat (first | refine blk_drewN ?_ _ | refine blk_drew ?_ | refine blk_alloc ?_ _)); exact BK874.out) hkp (fun hs_ => (fun e_ => (Kd.R_ne HO_8.out BK874.out (by decide)) e_) hs_)); have n4_ := Aside0.mk (blk_kept (by (with_reducible repeat (first | refine blk_drewN ?_ _ | refine blk_drew ?_ | refine blk_alloc ?_ _)); exact BK886.out) hkp (fun hs_ => (fun e_ => (Kd.R_ne HO_8.out BK886.out (by decide)) e_) hs_)); have n5_ := Aside0.mk (Kd.R_mono (ok' := fun k_ => some k_ ≠ (.slice Ao16 t875.length co16 : Value).ownBlock ∧ some k_ ≠ (.slice Ao14 t869.length co14 : Value).ownBlock ∧ some k_ ≠ (.slice Ao21 t881.length co21 : Value).ownBlock) (Kd.R_keptB (HO890.out) hkp (fun k_ hk_ hs_ => absurd hs_ ((by first | exact hk_.1.1.2 | (have hq_ := hk_; simp only [ne_eq] at hq_ ⊢; simp only [hq_, not_false_eq_true, and_self]))))) (fun k_ hk_ => ⟨(by first | exact hk_.1.1.1.2 | (have hq_ := hk_.1; simp only [ne_eq] at hq_ ⊢; simp only [hq_, not_false_eq_true, and_self])), (by first | exact hk_.1.1.2 | (have hq_ := hk_.1; simp only [ne_eq] at hq_ ⊢; simp only [hq_, not_false_eq_true, and_self])), (by first | exact hk_.1.2 | (have hq_ := hk_.1; simp only [ne_eq] at hq_ ⊢; simp only [hq_, not_false_eq_true, and_self]))⟩)); have n6_ := Aside0.mk (hb); clear HO_8; clear HO_875003; clear HO_887003; clear BK874; clear BK886; clear HO890; clear HB; have HO_8 := n0_; have HO_875003 := n1_; have HO_887003 := n2_; have BK874 := n3_; have BK886 := n4_; have HO890 := n5_; have HB := n6_; clear n0_ n1_ n2_ n3_ n4_ n5_ n6_; (try clear hb); (try clear hkp); (try clear hy0)))
      (try simp only [Act.put, List.setIfInBounds_toArray, List.set_cons_zero, List.set_cons_succ])
      go_cut [77] (fun v77 wc => ∃ (kq : Nat) (x77_41 : Bool), v77 = .bool x77_41 ∧ Aside0 (laws_FnExactGetFrame.j1 kq l0 a1 t872 t873 x77_41 t866 t867 t868 t869 t878 t879 t880 t881 = some r) ∧ Aside0 (kq ≤ kj7) ∧ Aside0 (Kd.R (Kd.int .u8) 5 wc w.heap.size (fun k_ => some k_ ≠ ((.slice Ao21 t881.length co21) : Value).ownBlock) (.slice Ao14 t869.length co14) t869) ∧ Aside0 (Kd.R (Kd.int .u8) 5 wc w.heap.size (fun k_ => some k_ ≠ ((.slice Ao14 t869.length co14) : Value).ownBlock) (.slice Ao21 t881.length co21) t881) ∧ Aside0 (wc.heap[gb874]? = some (.cells #[.int .i64 t866, .int .i64 t867, .int .i64 t868, (.slice Ao14 t869.length co14)] 63 (0, 0))) ∧ Aside0 (wc.heap[gb886]? = some (.cells #[.int .i64 t878, .int .i64 t879, .int .i64 t880, (.slice Ao21 t881.length co21)] 63 (0, 0))) ∧ Aside0 (Below w.heap.size w wc))
      case first =>
       have H := HC42.out
       clear HC42
       by_cases c46 : t892 < 0
       ·
        rw [if_pos c46] at H
        have c46b0 : decide (t892 < 0) = true := decide_eq_true c46
        clear c46
        (first | rw [c46b0] | (simp only [i64_w, i32_w]; rw [c46b0]) | skip)
        have H' := Aside0.mk H
        clear H
        go_wp2
        go_meet
        case rel => exact ⟨_, (true), (by first | rfl | (simp; done) | (simp [*]; done)), H', ⟨by have := HJ7.out; first | omega | exact Nat.le_refl _⟩, ⟨by (with_reducible repeat (first | apply Kd.R_alloc | apply Kd.R_drewN | apply Kd.R_drew)); exact Kd.R_mono HO_875003.out (fun _ hk => (by first | exact hk.2.1 | (have hq_ := hk; simp only [ne_eq] at hq_ ⊢; simp only [hq_, not_false_eq_true, and_self])))⟩, ⟨by (with_reducible repeat (first | apply Kd.R_alloc | apply Kd.R_drewN | apply Kd.R_drew)); exact Kd.R_mono HO_887003.out (fun _ hk => (by first | exact hk.2.1 | (have hq_ := hk; simp only [ne_eq] at hq_ ⊢; simp only [hq_, not_false_eq_true, and_self])))⟩, ⟨by (with_reducible repeat (first | refine blk_drewN ?_ _ | refine blk_drew ?_ | refine blk_alloc ?_ _)); exact BK874.out⟩, ⟨by (with_reducible repeat (first | refine blk_drewN ?_ _ | refine blk_drew ?_ | refine blk_alloc ?_ _)); exact BK886.out⟩, ⟨by repeat (first | (with_reducible first | exact HB.out | apply below_alloc | apply pw_below_drewN | apply below_drew1 | refine below_set ?_ GE874.out | refine below_set ?_ GE886.out) | exact HB.out)⟩⟩
       ·
        rw [if_neg c46] at H
        have c46b0 : decide (t892 < 0) = false := decide_eq_false c46
        clear c46
        (first | rw [c46b0] | (simp only [i64_w, i32_w]; rw [c46b0]) | skip)
        replace H := Option.bind_eq_some_iff.mp H
        obtain ⟨t894, A470, H⟩ := H
        replace H : (if t894 = true then (if t884 = t872 then (laws_FnExactGetFrame.j1 kj7 l0 a1 t872 t873 (t885 != t873) t866 t867 t868 t869 t878 t879 t880 t881) else (laws_FnExactGetFrame.j1 kj7 l0 a1 t872 t873 true t866 t867 t868 t869 t878 t879 t880 t881)) else (laws_FnExactGetFrame.j1 kj7 l0 a1 t872 t873 true t866 t867 t868 t869 t878 t879 t880 t881)) = some r := H
        have A47 := Aside0.mk A470
        clear A470
        by_cases c48 : t894 = true
        ·
         subst c48
         have H1 : (if t884 = t872 then (laws_FnExactGetFrame.j1 kj7 l0 a1 t872 t873 (t885 != t873) t866 t867 t868 t869 t878 t879 t880 t881) else (laws_FnExactGetFrame.j1 kj7 l0 a1 t872 t873 true t866 t867 t868 t869 t878 t879 t880 t881)) = some r := by rw [if_pos rfl] at H; exact H
         clear H
         have H := H1
         clear H1
         by_cases c49 : t884 = t872
         ·
          rw [if_pos c49] at H
          have c49b0 : (t884 == t872) = true := beq_iff_eq.mpr c49
          have c49b1 : (t884 != t872) = false := bne_eq_false_iff_eq.mpr c49
          clear c49
          have H' := Aside0.mk H
          clear H
          have hnb50 := NB886_874.out
          have hnc50 := NB874_886.out
          have hcz51_0 : w45.cell? ⟨gb886, 0, none⟩ = some (.int .i64 t878) := (blk_cell BK886.out 0).trans rfl
          have hcz51_1 : w45.cell? ⟨gb886, 1, none⟩ = some (.int .i64 t879) := (blk_cell BK886.out 1).trans rfl
          have hcz51_2 : w45.cell? ⟨gb886, 2, none⟩ = some (.int .i64 t880) := (blk_cell BK886.out 2).trans rfl
          have hcz51_3 : w45.cell? ⟨gb886, 3, none⟩ = some (.slice Ao21 t881.length co21) := (blk_cell BK886.out 3).trans rfl
          have hfz51_0 := blk_frozen BK886.out 0
          have hfz51_1 := blk_frozen BK886.out 1
          have hfz51_2 := blk_frozen BK886.out 2
          have hfz51_3 := blk_frozen BK886.out 3
          have hcz52_0 : w45.cell? ⟨gb874, 0, none⟩ = some (.int .i64 t866) := (blk_cell BK874.out 0).trans rfl
          have hcz52_1 : w45.cell? ⟨gb874, 1, none⟩ = some (.int .i64 t867) := (blk_cell BK874.out 1).trans rfl
          have hcz52_2 : w45.cell? ⟨gb874, 2, none⟩ = some (.int .i64 t868) := (blk_cell BK874.out 2).trans rfl
          have hcz52_3 : w45.cell? ⟨gb874, 3, none⟩ = some (.slice Ao14 t869.length co14) := (blk_cell BK874.out 3).trans rfl
          have hfz52_0 := blk_frozen BK874.out 0
          have hfz52_1 := blk_frozen BK874.out 1
          have hfz52_2 := blk_frozen BK874.out 2
          have hfz52_3 := blk_frozen BK874.out 3
          go_wp2_with (first | (go_at_call 49; (with_reducible refine (laws_eqFrame.calls kj7 t878 t879 t880 _ _ t881 t866 t867 t868 _ _ t869 true _ ?side1 ?side2 ?side3 ?side4 A47.out).mono ?_); (case side1 => repeat (first | exact (Kd.R_reads' HO_887003.out).2.2 | (with_reducible refine Kd.C_alloc ?_ _) | (with_reducible refine Kd.C_drewN ?_ _) | (with_reducible refine Kd.C_drew ?_))); (case side2 => exact (Kd.R_reads' HO_887003.out).2.1); (case side3 => repeat (first | exact (Kd.R_reads' HO_875003.out).2.2 | (with_reducible refine Kd.C_alloc ?_ _) | (with_reducible refine Kd.C_drewN ?_ _) | (with_reducible refine Kd.C_drew ?_))); (case side4 => exact (Kd.R_reads' HO_875003.out).2.1); rintro e w53 ⟨rfl, hb⟩; have n0_ := Aside0.mk (Kd.R_below (by (with_reducible repeat (first | apply Kd.R_alloc | apply Kd.R_drewN | apply Kd.R_drew)); exact HO_8.out) hb); have n1_ := Aside0.mk (Kd.R_below (by (with_reducible repeat (first | apply Kd.R_alloc | apply Kd.R_drewN | apply Kd.R_drew)); exact HO_875003.out) hb); have n2_ := Aside0.mk (Kd.R_below (by (with_reducible repeat (first | apply Kd.R_alloc | apply Kd.R_drewN | apply Kd.R_drew)); exact HO_887003.out) hb); have n3_ := Aside0.mk (Kd.R_below (by (with_reducible repeat (first | apply Kd.R_alloc | apply Kd.R_drewN | apply Kd.R_drew)); exact HO890.out) hb); have n4_ := Aside0.mk (blk_below (g := gb874) (o := .cells #[.int .i64 t866, .int .i64 t867, .int .i64 t868, .slice Ao14 t869.length co14] 63 (0, 0)) (by (with_reducible repeat (first | refine blk_drewN ?_ _ | refine blk_drew ?_ | refine blk_alloc ?_ _)); exact BK874.out) hb); have n5_ := Aside0.mk (blk_below (g := gb886) (o := .cells #[.int .i64 t878, .int .i64 t879, .int .i64 t880, .slice Ao21 t881.length co21] 63 (0, 0)) (by (with_reducible repeat (first | refine blk_drewN ?_ _ | refine blk_drew ?_ | refine blk_alloc ?_ _)); exact BK886.out) hb); have n6_ := Aside0.mk (below_step (by repeat (first | (with_reducible first | exact HB.out | apply below_alloc | apply pw_below_drewN | apply below_drew1 | refine below_set ?_ GE874.out | refine below_set ?_ GE886.out) | exact HB.out)) hb); clear HO_8; clear HO_875003; clear HO_887003; clear HO890; clear BK874; clear BK886; clear HB; have HO_8 := n0_; have HO_875003 := n1_; have HO_887003 := n2_; have HO890 := n3_; have BK874 := n4_; have BK886 := n5_; have HB := n6_; clear n0_ n1_ n2_ n3_ n4_ n5_ n6_; (try clear hb); (try clear hb2); (try clear hk); (try clear hi)))
          go_meet
          case rel => exact ⟨_, ((t885 != t873)), (by first | rfl | (simp; done) | (simp [*]; done)), H', ⟨by have := HJ7.out; first | omega | exact Nat.le_refl _⟩, ⟨by (with_reducible repeat (first | apply Kd.R_alloc | apply Kd.R_drewN | apply Kd.R_drew)); exact Kd.R_mono HO_875003.out (fun _ hk => (by first | exact hk.2.1 | (have hq_ := hk; simp only [ne_eq] at hq_ ⊢; simp only [hq_, not_false_eq_true, and_self])))⟩, ⟨by (with_reducible repeat (first | apply Kd.R_alloc | apply Kd.R_drewN | apply Kd.R_drew)); exact Kd.R_mono HO_887003.out (fun _ hk => (by first | exact hk.2.1 | (have hq_ := hk; simp only [ne_eq] at hq_ ⊢; simp only [hq_, not_false_eq_true, and_self])))⟩, ⟨by (with_reducible repeat (first | refine blk_drewN ?_ _ | refine blk_drew ?_ | refine blk_alloc ?_ _)); exact BK874.out⟩, ⟨by (with_reducible repeat (first | refine blk_drewN ?_ _ | refine blk_drew ?_ | refine blk_alloc ?_ _)); exact BK886.out⟩, ⟨by repeat (first | (with_reducible first | exact HB.out | apply below_alloc | apply pw_below_drewN | apply below_drew1 | refine below_set ?_ GE874.out | refine below_set ?_ GE886.out) | exact HB.out)⟩⟩
         ·
          rw [if_neg c49] at H
          have c49b0 : (t884 == t872) = false := beq_eq_false_iff_ne.mpr c49
          have c49b1 : (t884 != t872) = true := bne_iff_ne.mpr c49
          have H' := Aside0.mk H
          clear H
          have hnb54 := NB886_874.out
          have hnc54 := NB874_886.out
          have hcz55_0 : w45.cell? ⟨gb886, 0, none⟩ = some (.int .i64 t878) := (blk_cell BK886.out 0).trans rfl
          have hcz55_1 : w45.cell? ⟨gb886, 1, none⟩ = some (.int .i64 t879) := (blk_cell BK886.out 1).trans rfl
          have hcz55_2 : w45.cell? ⟨gb886, 2, none⟩ = some (.int .i64 t880) := (blk_cell BK886.out 2).trans rfl
          have hcz55_3 : w45.cell? ⟨gb886, 3, none⟩ = some (.slice Ao21 t881.length co21) := (blk_cell BK886.out 3).trans rfl
          have hfz55_0 := blk_frozen BK886.out 0
          have hfz55_1 := blk_frozen BK886.out 1
          have hfz55_2 := blk_frozen BK886.out 2
          have hfz55_3 := blk_frozen BK886.out 3
          have hcz56_0 : w45.cell? ⟨gb874, 0, none⟩ = some (.int .i64 t866) := (blk_cell BK874.out 0).trans rfl
          have hcz56_1 : w45.cell? ⟨gb874, 1, none⟩ = some (.int .i64 t867) := (blk_cell BK874.out 1).trans rfl
          have hcz56_2 : w45.cell? ⟨gb874, 2, none⟩ = some (.int .i64 t868) := (blk_cell BK874.out 2).trans rfl
          have hcz56_3 : w45.cell? ⟨gb874, 3, none⟩ = some (.slice Ao14 t869.length co14) := (blk_cell BK874.out 3).trans rfl
          have hfz56_0 := blk_frozen BK874.out 0
          have hfz56_1 := blk_frozen BK874.out 1
          have hfz56_2 := blk_frozen BK874.out 2
          have hfz56_3 := blk_frozen BK874.out 3
          go_wp2_with (first | (go_at_call 49; (with_reducible refine (laws_eqFrame.calls kj7 t878 t879 t880 _ _ t881 t866 t867 t868 _ _ t869 true _ ?side1 ?side2 ?side3 ?side4 A47.out).mono ?_); (case side1 => repeat (first | exact (Kd.R_reads' HO_887003.out).2.2 | (with_reducible refine Kd.C_alloc ?_ _) | (with_reducible refine Kd.C_drewN ?_ _) | (with_reducible refine Kd.C_drew ?_))); (case side2 => exact (Kd.R_reads' HO_887003.out).2.1); (case side3 => repeat (first | exact (Kd.R_reads' HO_875003.out).2.2 | (with_reducible refine Kd.C_alloc ?_ _) | (with_reducible refine Kd.C_drewN ?_ _) | (with_reducible refine Kd.C_drew ?_))); (case side4 => exact (Kd.R_reads' HO_875003.out).2.1); rintro e w57 ⟨rfl, hb⟩; have n0_ := Aside0.mk (Kd.R_below (by (with_reducible repeat (first | apply Kd.R_alloc | apply Kd.R_drewN | apply Kd.R_drew)); exact HO_8.out) hb); have n1_ := Aside0.mk (Kd.R_below (by (with_reducible repeat (first | apply Kd.R_alloc | apply Kd.R_drewN | apply Kd.R_drew)); exact HO_875003.out) hb); have n2_ := Aside0.mk (Kd.R_below (by (with_reducible repeat (first | apply Kd.R_alloc | apply Kd.R_drewN | apply Kd.R_drew)); exact HO_887003.out) hb); have n3_ := Aside0.mk (Kd.R_below (by (with_reducible repeat (first | apply Kd.R_alloc | apply Kd.R_drewN | apply Kd.R_drew)); exact HO890.out) hb); have n4_ := Aside0.mk (blk_below (g := gb874) (o := .cells #[.int .i64 t866, .int .i64 t867, .int .i64 t868, .slice Ao14 t869.length co14] 63 (0, 0)) (by (with_reducible repeat (first | refine blk_drewN ?_ _ | refine blk_drew ?_ | refine blk_alloc ?_ _)); exact BK874.out) hb); have n5_ := Aside0.mk (blk_below (g := gb886) (o := .cells #[.int .i64 t878, .int .i64 t879, .int .i64 t880, .slice Ao21 t881.length co21] 63 (0, 0)) (by (with_reducible repeat (first | refine blk_drewN ?_ _ | refine blk_drew ?_ | refine blk_alloc ?_ _)); exact BK886.out) hb); have n6_ := Aside0.mk (below_step (by repeat (first | (with_reducible first | exact HB.out | apply below_alloc | apply pw_below_drewN | apply below_drew1 | refine below_set ?_ GE874.out | refine below_set ?_ GE886.out) | exact HB.out)) hb); clear HO_8; clear HO_875003; clear HO_887003; clear HO890; clear BK874; clear BK886; clear HB; have HO_8 := n0_; have HO_875003 := n1_; have HO_887003 := n2_; have HO890 := n3_; have BK874 := n4_; have BK886 := n5_; have HB := n6_; clear n0_ n1_ n2_ n3_ n4_ n5_ n6_; (try clear hb); (try clear hb2); (try clear hk); (try clear hi)))
          go_meet
          case rel => exact ⟨_, (true), (by first | rfl | (simp; done) | (simp [*]; done)), H', ⟨by have := HJ7.out; first | omega | exact Nat.le_refl _⟩, ⟨by (with_reducible repeat (first | apply Kd.R_alloc | apply Kd.R_drewN | apply Kd.R_drew)); exact Kd.R_mono HO_875003.out (fun _ hk => (by first | exact hk.2.1 | (have hq_ := hk; simp only [ne_eq] at hq_ ⊢; simp only [hq_, not_false_eq_true, and_self])))⟩, ⟨by (with_reducible repeat (first | apply Kd.R_alloc | apply Kd.R_drewN | apply Kd.R_drew)); exact Kd.R_mono HO_887003.out (fun _ hk => (by first | exact hk.2.1 | (have hq_ := hk; simp only [ne_eq] at hq_ ⊢; simp only [hq_, not_false_eq_true, and_self])))⟩, ⟨by (with_reducible repeat (first | refine blk_drewN ?_ _ | refine blk_drew ?_ | refine blk_alloc ?_ _)); exact BK874.out⟩, ⟨by (with_reducible repeat (first | refine blk_drewN ?_ _ | refine blk_drew ?_ | refine blk_alloc ?_ _)); exact BK886.out⟩, ⟨by repeat (first | (with_reducible first | exact HB.out | apply below_alloc | apply pw_below_drewN | apply below_drew1 | refine below_set ?_ GE874.out | refine below_set ?_ GE886.out) | exact HB.out)⟩⟩
        ·
         replace c48 := Bool.eq_false_iff.mpr c48
         subst c48
         have H1 : (laws_FnExactGetFrame.j1 kj7 l0 a1 t872 t873 true t866 t867 t868 t869 t878 t879 t880 t881) = some r := by rw [if_neg (show ¬ (false = true) by decide)] at H; exact H
         clear H
         have H := H1
         clear H1
         have H' := Aside0.mk H
         clear H
         have hnb58 := NB886_874.out
         have hnc58 := NB874_886.out
         have hcz59_0 : w45.cell? ⟨gb886, 0, none⟩ = some (.int .i64 t878) := (blk_cell BK886.out 0).trans rfl
         have hcz59_1 : w45.cell? ⟨gb886, 1, none⟩ = some (.int .i64 t879) := (blk_cell BK886.out 1).trans rfl
         have hcz59_2 : w45.cell? ⟨gb886, 2, none⟩ = some (.int .i64 t880) := (blk_cell BK886.out 2).trans rfl
         have hcz59_3 : w45.cell? ⟨gb886, 3, none⟩ = some (.slice Ao21 t881.length co21) := (blk_cell BK886.out 3).trans rfl
         have hfz59_0 := blk_frozen BK886.out 0
         have hfz59_1 := blk_frozen BK886.out 1
         have hfz59_2 := blk_frozen BK886.out 2
         have hfz59_3 := blk_frozen BK886.out 3
         have hcz60_0 : w45.cell? ⟨gb874, 0, none⟩ = some (.int .i64 t866) := (blk_cell BK874.out 0).trans rfl
         have hcz60_1 : w45.cell? ⟨gb874, 1, none⟩ = some (.int .i64 t867) := (blk_cell BK874.out 1).trans rfl
         have hcz60_2 : w45.cell? ⟨gb874, 2, none⟩ = some (.int .i64 t868) := (blk_cell BK874.out 2).trans rfl
         have hcz60_3 : w45.cell? ⟨gb874, 3, none⟩ = some (.slice Ao14 t869.length co14) := (blk_cell BK874.out 3).trans rfl
         have hfz60_0 := blk_frozen BK874.out 0
         have hfz60_1 := blk_frozen BK874.out 1
         have hfz60_2 := blk_frozen BK874.out 2
         have hfz60_3 := blk_frozen BK874.out 3
         go_wp2_with (first | (go_at_call 49; (with_reducible refine (laws_eqFrame.calls kj7 t878 t879 t880 _ _ t881 t866 t867 t868 _ _ t869 false _ ?side1 ?side2 ?side3 ?side4 A47.out).mono ?_); (case side1 => repeat (first | exact (Kd.R_reads' HO_887003.out).2.2 | (with_reducible refine Kd.C_alloc ?_ _) | (with_reducible refine Kd.C_drewN ?_ _) | (with_reducible refine Kd.C_drew ?_))); (case side2 => exact (Kd.R_reads' HO_887003.out).2.1); (case side3 => repeat (first | exact (Kd.R_reads' HO_875003.out).2.2 | (with_reducible refine Kd.C_alloc ?_ _) | (with_reducible refine Kd.C_drewN ?_ _) | (with_reducible refine Kd.C_drew ?_))); (case side4 => exact (Kd.R_reads' HO_875003.out).2.1); rintro e w61 ⟨rfl, hb⟩; have n0_ := Aside0.mk (Kd.R_below (by (with_reducible repeat (first | apply Kd.R_alloc | apply Kd.R_drewN | apply Kd.R_drew)); exact HO_8.out) hb); have n1_ := Aside0.mk (Kd.R_below (by (with_reducible repeat (first | apply Kd.R_alloc | apply Kd.R_drewN | apply Kd.R_drew)); exact HO_875003.out) hb); have n2_ := Aside0.mk (Kd.R_below (by (with_reducible repeat (first | apply Kd.R_alloc | apply Kd.R_drewN | apply Kd.R_drew)); exact HO_887003.out) hb); have n3_ := Aside0.mk (Kd.R_below (by (with_reducible repeat (first | apply Kd.R_alloc | apply Kd.R_drewN | apply Kd.R_drew)); exact HO890.out) hb); have n4_ := Aside0.mk (blk_below (g := gb874) (o := .cells #[.int .i64 t866, .int .i64 t867, .int .i64 t868, .slice Ao14 t869.length co14] 63 (0, 0)) (by (with_reducible repeat (first | refine blk_drewN ?_ _ | refine blk_drew ?_ | refine blk_alloc ?_ _)); exact BK874.out) hb); have n5_ := Aside0.mk (blk_below (g := gb886) (o := .cells #[.int .i64 t878, .int .i64 t879, .int .i64 t880, .slice Ao21 t881.length co21] 63 (0, 0)) (by (with_reducible repeat (first | refine blk_drewN ?_ _ | refine blk_drew ?_ | refine blk_alloc ?_ _)); exact BK886.out) hb); have n6_ := Aside0.mk (below_step (by repeat (first | (with_reducible first | exact HB.out | apply below_alloc | apply pw_below_drewN | apply below_drew1 | refine below_set ?_ GE874.out | refine below_set ?_ GE886.out) | exact HB.out)) hb); clear HO_8; clear HO_875003; clear HO_887003; clear HO890; clear BK874; clear BK886; clear HB; have HO_8 := n0_; have HO_875003 := n1_; have HO_887003 := n2_; have HO890 := n3_; have BK874 := n4_; have BK886 := n5_; have HB := n6_; clear n0_ n1_ n2_ n3_ n4_ n5_ n6_; (try clear hb); (try clear hb2); (try clear hk); (try clear hi)))
         go_meet
         case rel => exact ⟨_, (true), (by first | rfl | (simp; done) | (simp [*]; done)), H', ⟨by have := HJ7.out; first | omega | exact Nat.le_refl _⟩, ⟨by (with_reducible repeat (first | apply Kd.R_alloc | apply Kd.R_drewN | apply Kd.R_drew)); exact Kd.R_mono HO_875003.out (fun _ hk => (by first | exact hk.2.1 | (have hq_ := hk; simp only [ne_eq] at hq_ ⊢; simp only [hq_, not_false_eq_true, and_self])))⟩, ⟨by (with_reducible repeat (first | apply Kd.R_alloc | apply Kd.R_drewN | apply Kd.R_drew)); exact Kd.R_mono HO_887003.out (fun _ hk => (by first | exact hk.2.1 | (have hq_ := hk; simp only [ne_eq] at hq_ ⊢; simp only [hq_, not_false_eq_true, and_self])))⟩, ⟨by (with_reducible repeat (first | refine blk_drewN ?_ _ | refine blk_drew ?_ | refine blk_alloc ?_ _)); exact BK874.out⟩, ⟨by (with_reducible repeat (first | refine blk_drewN ?_ _ | refine blk_drew ?_ | refine blk_alloc ?_ _)); exact BK886.out⟩, ⟨by repeat (first | (with_reducible first | exact HB.out | apply below_alloc | apply pw_below_drewN | apply below_drew1 | refine below_set ?_ GE874.out | refine below_set ?_ GE886.out) | exact HB.out)⟩⟩
      case rest =>
       clear HC42
       try clear c1
       try clear c2
       try clear p2
       try clear c3
       try clear c3b0
       try clear c3b1
       try clear c4
       try clear c5
       try clear c12
       try clear c16
       try clear c18
       try clear c19
       try clear c23
       try clear c24
       try clear c24b0
       try clear c24b1
       try clear c25
       try clear c29
       try clear c33
       try clear c37
       try clear c40
       try clear c46
       try clear c46b0
       try clear c48
       try clear c49
       try clear c49b0
       try clear c49b1
       try clear c50
       try clear c53
       try clear c54
       try clear c58
       try clear hcz13_0
       try clear hcz13_1
       try clear hcz13_2
       try clear hcz13_3
       try clear hcz20_0
       try clear hcz20_1
       try clear hcz20_2
       try clear hcz20_3
       try clear hcz26_0
       try clear hcz26_1
       try clear hcz26_2
       try clear hcz26_3
       try clear hcz27_0
       try clear hcz27_1
       try clear hcz27_2
       try clear hcz27_3
       try clear hcz30_0
       try clear hcz30_1
       try clear hcz30_2
       try clear hcz30_3
       try clear hcz31_0
       try clear hcz31_1
       try clear hcz31_2
       try clear hcz31_3
       try clear hcz34_0
       try clear hcz34_1
       try clear hcz34_2
       try clear hcz34_3
       try clear hcz35_0
       try clear hcz35_1
       try clear hcz35_2
       try clear hcz35_3
       try clear hcz51_0
       try clear hcz51_1
       try clear hcz51_2
       try clear hcz51_3
       try clear hcz52_0
       try clear hcz52_1
       try clear hcz52_2
       try clear hcz52_3
       try clear hcz55_0
       try clear hcz55_1
       try clear hcz55_2
       try clear hcz55_3
       try clear hcz56_0
       try clear hcz56_1
       try clear hcz56_2
       try clear hcz56_3
       try clear hcz59_0
       try clear hcz59_1
       try clear hcz59_2
       try clear hcz59_3
       try clear hcz60_0
       try clear hcz60_1
       try clear hcz60_2
       try clear hcz60_3
       try clear hfz13_0
       try clear hfz13_1
       try clear hfz13_2
       try clear hfz13_3
       try clear hfz20_0
       try clear hfz20_1
       try clear hfz20_2
       try clear hfz20_3
       try clear hfz26_0
       try clear hfz26_1
       try clear hfz26_2
       try clear hfz26_3
       try clear hfz27_0
       try clear hfz27_1
       try clear hfz27_2
       try clear hfz27_3
       try clear hfz30_0
       try clear hfz30_1
       try clear hfz30_2
       try clear hfz30_3
       try clear hfz31_0
       try clear hfz31_1
       try clear hfz31_2
       try clear hfz31_3
       try clear hfz34_0
       try clear hfz34_1
       try clear hfz34_2
       try clear hfz34_3
       try clear hfz35_0
       try clear hfz35_1
       try clear hfz35_2
       try clear hfz35_3
       try clear hfz51_0
       try clear hfz51_1
       try clear hfz51_2
       try clear hfz51_3
       try clear hfz52_0
       try clear hfz52_1
       try clear hfz52_2
       try clear hfz52_3
       try clear hfz55_0
       try clear hfz55_1
       try clear hfz55_2
       try clear hfz55_3
       try clear hfz56_0
       try clear hfz56_1
       try clear hfz56_2
       try clear hfz56_3
       try clear hfz59_0
       try clear hfz59_1
       try clear hfz59_2
       try clear hfz59_3
       try clear hfz60_0
       try clear hfz60_1
       try clear hfz60_2
       try clear hfz60_3
       try clear p2
       obtain ⟨kq, x77_41, rfl, HA, HJ41, HO_875003, HO_887003, BK874, BK886, HB⟩ := hcut
       cases kq with
       | zero => exact absurd HA.out (by simp [laws_FnExactGetFrame.j1])
       | succ kj41 =>
        have H := HA.out
        clear HA
        simp only [laws_FnExactGetFrame.j1] at H
        by_cases c62 : x77_41 = true
        ·
         subst c62
         have H1 : (some false) = some r := by rw [if_pos rfl] at H; exact H
         clear H
         have H := H1
         clear H1
         obtain rfl := Option.some.inj H
         go_wp2
         go_ret
         exact ⟨by first | rfl | (simp [errW_none, errW_some] <;> rfl) | (simp [*, errW_none, errW_some] <;> rfl), by repeat (first | (with_reducible first | exact HB.out | apply below_alloc | apply pw_below_drewN | apply below_drew1 | refine below_set ?_ GE874.out | refine below_set ?_ GE886.out) | exact HB.out)⟩
        ·
         replace c62 := Bool.eq_false_iff.mpr c62
         subst c62
         have H1 : ((laws_markFrame.f kj41 t878 t879 t880 t881 1).bind fun bt895 => ((laws_heldFrame.f kj41 t878 t879 t880 bt895.2 1).bind fun t897 => (if t897 < 0 then (some false) else (if t897 = bt895.1 then ((laws_toByteS.f kj41 l0).bind fun t898 => ((impl_GetFrame.f kj41 t898 a1).bind fun bt901 => ((laws_eqFrame.f kj41 bt901.1 bt901.2.1 bt901.2.2.1 bt901.2.2.2.1 t866 t867 t868 t869).bind fun t910 => (if t910 = true then (if bt901.2.2.2.2.1 = t872 then (laws_FnExactGetFrame.j2 kj41 bt895.1 (bt901.2.2.2.2.2 != t873) t878 t879 t880 bt895.2) else (laws_FnExactGetFrame.j2 kj41 bt895.1 true t878 t879 t880 bt895.2)) else (laws_FnExactGetFrame.j2 kj41 bt895.1 true t878 t879 t880 bt895.2))))) else (some false))))) = some r := by rw [if_neg (show ¬ (false = true) by decide)] at H; exact H
         clear H
         have H := H1
         clear H1
         replace H := Option.bind_eq_some_iff.mp H
         obtain ⟨⟨t895, t896⟩, A630, H⟩ := H
         replace H : ((laws_heldFrame.f kj41 t878 t879 t880 t896 1).bind fun t897 => (if t897 < 0 then (some false) else (if t897 = t895 then ((laws_toByteS.f kj41 l0).bind fun t898 => ((impl_GetFrame.f kj41 t898 a1).bind fun bt901 => ((laws_eqFrame.f kj41 bt901.1 bt901.2.1 bt901.2.2.1 bt901.2.2.2.1 t866 t867 t868 t869).bind fun t910 => (if t910 = true then (if bt901.2.2.2.2.1 = t872 then (laws_FnExactGetFrame.j2 kj41 t895 (bt901.2.2.2.2.2 != t873) t878 t879 t880 t896) else (laws_FnExactGetFrame.j2 kj41 t895 true t878 t879 t880 t896)) else (laws_FnExactGetFrame.j2 kj41 t895 true t878 t879 t880 t896))))) else (some false)))) = some r := H
         have A63 := Aside0.mk A630
         clear A630
         replace H := Option.bind_eq_some_iff.mp H
         obtain ⟨t897, A640, H⟩ := H
         replace H : (if t897 < 0 then (some false) else (if t897 = t895 then ((laws_toByteS.f kj41 l0).bind fun t898 => ((impl_GetFrame.f kj41 t898 a1).bind fun bt901 => ((laws_eqFrame.f kj41 bt901.1 bt901.2.1 bt901.2.2.1 bt901.2.2.2.1 t866 t867 t868 t869).bind fun t910 => (if t910 = true then (if bt901.2.2.2.2.1 = t872 then (laws_FnExactGetFrame.j2 kj41 t895 (bt901.2.2.2.2.2 != t873) t878 t879 t880 t896) else (laws_FnExactGetFrame.j2 kj41 t895 true t878 t879 t880 t896)) else (laws_FnExactGetFrame.j2 kj41 t895 true t878 t879 t880 t896))))) else (some false))) = some r := H
         have A64 := Aside0.mk A640
         clear A640
         by_cases c65 : t897 < 0
         ·
          rw [if_pos c65] at H
          have c65b0 : decide (t897 < 0) = true := decide_eq_true c65
          clear c65
          obtain rfl := Option.some.inj H
          have hnb66 := NB886_874.out
          have hnc66 := NB874_886.out
          have hcz67_0 : wc.cell? ⟨gb886, 0, none⟩ = some (.int .i64 t878) := (blk_cell BK886.out 0).trans rfl
          have hcz67_1 : wc.cell? ⟨gb886, 1, none⟩ = some (.int .i64 t879) := (blk_cell BK886.out 1).trans rfl
          have hcz67_2 : wc.cell? ⟨gb886, 2, none⟩ = some (.int .i64 t880) := (blk_cell BK886.out 2).trans rfl
          have hcz67_3 : wc.cell? ⟨gb886, 3, none⟩ = some (.slice Ao21 t881.length co21) := (blk_cell BK886.out 3).trans rfl
          have hfz67_0 := blk_frozen BK886.out 0
          have hfz67_1 := blk_frozen BK886.out 1
          have hfz67_2 := blk_frozen BK886.out 2
          have hfz67_3 := blk_frozen BK886.out 3
          go_wp2_with (first | ((with_reducible refine gate_callee (f := 50) rfl ?_); refine goesL_ (some 80) rfl rfl Try.func50 (by kernel_rfl) rfl #[.agg #[.int .i64 t878, .int .i64 t879, .int .i64 t880, .slice Ao21 t881.length co21], .int .i64 1] rfl (by (try simp only [List.map_toArray, List.map_cons, List.map_nil]); first | done | rfl | (simp only [List.length_drop, List.length_take]; rfl)) ?_; (with_reducible refine (laws_markFrame.calls kj41 t878 t879 t880 (fun k_ => some k_ = (.slice Ao21 t881.length co21 : Value).ownBlock) (.slice Ao21 t881.length co21) t881 1 t895 t896 w _ ?side1 ?side2 A63.out).mono ?_); (case side1 => repeat (first | (with_reducible first | exact HB.out | apply below_alloc | apply pw_below_drewN | apply below_drew1 | refine below_set ?_ GE874.out | refine below_set ?_ GE886.out) | exact HB.out)); (case side2 => exact Kd.R_tight rfl HO_887003.out); rintro e w68 ⟨rfl, hy0, hb, hkp⟩; refine ⟨_, rfl, ?_⟩; have n0_ := Aside0.mk (Kd.R_mono (ok' := fun k_ => some k_ ≠ (.slice Ao21 t881.length co21 : Value).ownBlock) (Kd.R_keptB (HO_875003.out) hkp (fun k_ hk_ hs_ => absurd hs_ (hk_))) (fun k_ hk_ => hk_.1)); have n1_ := Aside0.mk (Kd.R_reok rfl hy0 (fun k_ e_ => HO_887003.out.1 k_ e_)); have n2_ := Aside0.mk (blk_kept (by (with_reducible repeat (first | refine blk_drewN ?_ _ | refine blk_drew ?_ | refine blk_alloc ?_ _)); exact BK874.out) hkp (fun hs_ => (fun e_ => (Kd.R_ne HO_887003.out BK874.out (by decide)) e_) hs_)); have n3_ := Aside0.mk (blk_kept (by (with_reducible repeat (first | refine blk_drewN ?_ _ | refine blk_drew ?_ | refine blk_alloc ?_ _)); exact BK886.out) hkp (fun hs_ => (fun e_ => (Kd.R_ne HO_887003.out BK886.out (by decide)) e_) hs_)); have n4_ := Aside0.mk (hb); clear HO_875003; clear HO_887003; clear BK874; clear BK886; clear HB; have HO_875003 := n0_; have HO_887003 := n1_; have BK874 := n2_; have BK886 := n3_; have HB := n4_; clear n0_ n1_ n2_ n3_ n4_; (try clear hb); (try clear hkp); (try clear hy0); have hcz69_0 : w68.cell? ⟨gb886, 0, none⟩ = some (.int .i64 t878) := (blk_cell BK886.out 0).trans rfl; have hcz69_1 : w68.cell? ⟨gb886, 1, none⟩ = some (.int .i64 t879) := (blk_cell BK886.out 1).trans rfl; have hcz69_2 : w68.cell? ⟨gb886, 2, none⟩ = some (.int .i64 t880) := (blk_cell BK886.out 2).trans rfl; have hcz69_3 : w68.cell? ⟨gb886, 3, none⟩ = some (.slice Ao21 t881.length co21) := (blk_cell BK886.out 3).trans rfl; have hfz69_0 := blk_frozen BK886.out 0; have hfz69_1 := blk_frozen BK886.out 1; have hfz69_2 := blk_frozen BK886.out 2; have hfz69_3 := blk_frozen BK886.out 3) | ((with_reducible refine gate_callee (f := 55) rfl ?_); refine goesL_ (some 83) rfl rfl Try.func55 (by kernel_rfl) rfl #[.agg #[.int .i64 t878, .int .i64 t879, .int .i64 t880, .slice Ao21 t896.length co21], .int .i64 1] rfl (by (try simp only [List.map_toArray, List.map_cons, List.map_nil]); first | done | (rw [show t896.length = t881.length from (Kd.R_reads' HO_887003.out).1.symm] <;> rfl) | rfl | (simp only [List.length_drop, List.length_take]; rfl)) ?_; (with_reducible refine (laws_heldFrame.calls kj41 t878 t879 t880 _ _ t896 1 t897 _ ?side1 ?side2 A64.out).mono ?_); (case side1 => repeat (first | exact (Kd.R_reads' HO_887003.out).2.2 | (with_reducible refine Kd.C_alloc ?_ _) | (with_reducible refine Kd.C_drewN ?_ _) | (with_reducible refine Kd.C_drew ?_))); (case side2 => rw [show t896.length = t881.length from (Kd.R_reads' HO_887003.out).1.symm]; exact (Kd.R_reads' HO_887003.out).2.1); rintro e w70 ⟨rfl, hb⟩; refine ⟨_, rfl, ?_⟩; have n0_ := Aside0.mk (Kd.R_below (by (with_reducible repeat (first | apply Kd.R_alloc | apply Kd.R_drewN | apply Kd.R_drew)); exact HO_875003.out) hb); have n1_ := Aside0.mk (Kd.R_below (by (with_reducible repeat (first | apply Kd.R_alloc | apply Kd.R_drewN | apply Kd.R_drew)); exact HO_887003.out) hb); have n2_ := Aside0.mk (blk_below (g := gb874) (o := .cells #[.int .i64 t866, .int .i64 t867, .int .i64 t868, .slice Ao14 t869.length co14] 63 (0, 0)) (by (with_reducible repeat (first | refine blk_drewN ?_ _ | refine blk_drew ?_ | refine blk_alloc ?_ _)); exact BK874.out) hb); have n3_ := Aside0.mk (blk_below (g := gb886) (o := .cells #[.int .i64 t878, .int .i64 t879, .int .i64 t880, .slice Ao21 t881.length co21] 63 (0, 0)) (by (with_reducible repeat (first | refine blk_drewN ?_ _ | refine blk_drew ?_ | refine blk_alloc ?_ _)); exact BK886.out) hb); have n4_ := Aside0.mk (below_step (by repeat (first | (with_reducible first | exact HB.out | apply below_alloc | apply pw_below_drewN | apply below_drew1 | refine below_set ?_ GE874.out | refine below_set ?_ GE886.out) | exact HB.out)) hb); clear HO_875003; clear HO_887003; clear BK874; clear BK886; clear HB; have HO_875003 := n0_; have HO_887003 := n1_; have BK874 := n2_; have BK886 := n3_; have HB := n4_; clear n0_ n1_ n2_ n3_ n4_; (try clear hb); (try clear hb2); (try clear hk); (try clear hi)))
          go_ret
          exact ⟨by first | rfl | (simp [errW_none, errW_some] <;> rfl) | (simp [*, errW_none, errW_some] <;> rfl), by repeat (first | (with_reducible first | exact HB.out | apply below_alloc | apply pw_below_drewN | apply below_drew1 | refine below_set ?_ GE874.out | refine below_set ?_ GE886.out) | exact HB.out)⟩
         ·
          rw [if_neg c65] at H
          have c65b0 : decide (t897 < 0) = false := decide_eq_false c65
          clear c65
          by_cases c71 : t897 = t895
          ·
           rw [if_pos c71] at H
           have c71b0 : (t897 == t895) = true := beq_iff_eq.mpr c71
           have c71b1 : (t897 != t895) = false := bne_eq_false_iff_eq.mpr c71
           clear c71
           replace H := Option.bind_eq_some_iff.mp H
           obtain ⟨t898, A720, H⟩ := H
           replace H : ((impl_GetFrame.f kj41 t898 a1).bind fun bt901 => ((laws_eqFrame.f kj41 bt901.1 bt901.2.1 bt901.2.2.1 bt901.2.2.2.1 t866 t867 t868 t869).bind fun t910 => (if t910 = true then (if bt901.2.2.2.2.1 = t872 then (laws_FnExactGetFrame.j2 kj41 t895 (bt901.2.2.2.2.2 != t873) t878 t879 t880 t896) else (laws_FnExactGetFrame.j2 kj41 t895 true t878 t879 t880 t896)) else (laws_FnExactGetFrame.j2 kj41 t895 true t878 t879 t880 t896)))) = some r := H
           have A72 := Aside0.mk A720
           clear A720
           replace H := Option.bind_eq_some_iff.mp H
           obtain ⟨⟨t901, t902, t903, t904, t907, t908⟩, A730, H⟩ := H
           replace H : ((laws_eqFrame.f kj41 t901 t902 t903 t904 t866 t867 t868 t869).bind fun t910 => (if t910 = true then (if t907 = t872 then (laws_FnExactGetFrame.j2 kj41 t895 (t908 != t873) t878 t879 t880 t896) else (laws_FnExactGetFrame.j2 kj41 t895 true t878 t879 t880 t896)) else (laws_FnExactGetFrame.j2 kj41 t895 true t878 t879 t880 t896))) = some r := H
           have A73 := Aside0.mk A730
           clear A730
           have HC74 := Aside0.mk H
           clear H
           have hnb75 := NB886_874.out
           have hnc75 := NB874_886.out
           have hcz76_0 : wc.cell? ⟨gb886, 0, none⟩ = some (.int .i64 t878) := (blk_cell BK886.out 0).trans rfl
           have hcz76_1 : wc.cell? ⟨gb886, 1, none⟩ = some (.int .i64 t879) := (blk_cell BK886.out 1).trans rfl
           have hcz76_2 : wc.cell? ⟨gb886, 2, none⟩ = some (.int .i64 t880) := (blk_cell BK886.out 2).trans rfl
           have hcz76_3 : wc.cell? ⟨gb886, 3, none⟩ = some (.slice Ao21 t881.length co21) := (blk_cell BK886.out 3).trans rfl
           have hfz76_0 := blk_frozen BK886.out 0
           have hfz76_1 := blk_frozen BK886.out 1
           have hfz76_2 := blk_frozen BK886.out 2
           have hfz76_3 := blk_frozen BK886.out 3
           go_upto_region 23 with (first | ((with_reducible refine gate_callee (f := 50) rfl ?_); refine goesL_ (some 80) rfl rfl Try.func50 (by kernel_rfl) rfl #[.agg #[.int .i64 t878, .int .i64 t879, .int .i64 t880, .slice Ao21 t881.length co21], .int .i64 1] rfl (by (try simp only [List.map_toArray, List.map_cons, List.map_nil]); first | done | rfl | (simp only [List.length_drop, List.length_take]; rfl)) ?_; (with_reducible refine (laws_markFrame.calls kj41 t878 t879 t880 (fun k_ => some k_ = (.slice Ao21 t881.length co21 : Value).ownBlock) (.slice Ao21 t881.length co21) t881 1 t895 t896 w _ ?side1 ?side2 A63.out).mono ?_); (case side1 => repeat (first | (with_reducible first | exact HB.out | apply below_alloc | apply pw_below_drewN | apply below_drew1 | refine below_set ?_ GE874.out | refine below_set ?_ GE886.out) | exact HB.out)); (case side2 => exact Kd.R_tight rfl HO_887003.out); rintro e w77 ⟨rfl, hy0, hb, hkp⟩; refine ⟨_, rfl, ?_⟩; have n0_ := Aside0.mk (Kd.R_mono (ok' := fun k_ => some k_ ≠ (.slice Ao21 t881.length co21 : Value).ownBlock) (Kd.R_keptB (HO_875003.out) hkp (fun k_ hk_ hs_ => absurd hs_ (hk_))) (fun k_ hk_ => hk_.1)); have n1_ := Aside0.mk (Kd.R_reok rfl hy0 (fun k_ e_ => HO_887003.out.1 k_ e_)); have n2_ := Aside0.mk (blk_kept (by (with_reducible repeat (first | refine blk_drewN ?_ _ | refine blk_drew ?_ | refine blk_alloc ?_ _)); exact BK874.out) hkp (fun hs_ => (fun e_ => (Kd.R_ne HO_887003.out BK874.out (by decide)) e_) hs_)); have n3_ := Aside0.mk (blk_kept (by (with_reducible repeat (first | refine blk_drewN ?_ _ | refine blk_drew ?_ | refine blk_alloc ?_ _)); exact BK886.out) hkp (fun hs_ => (fun e_ => (Kd.R_ne HO_887003.out BK886.out (by decide)) e_) hs_)); have n4_ := Aside0.mk (hb); clear HO_875003; clear HO_887003; clear BK874; clear BK886; clear HB; have HO_875003 := n0_; have HO_887003 := n1_; have BK874 := n2_; have BK886 := n3_; have HB := n4_; clear n0_ n1_ n2_ n3_ n4_; (try clear hb); (try clear hkp); (try clear hy0); have hcz78_0 : w77.cell? ⟨gb886, 0, none⟩ = some (.int .i64 t878) := (blk_cell BK886.out 0).trans rfl; have hcz78_1 : w77.cell? ⟨gb886, 1, none⟩ = some (.int .i64 t879) := (blk_cell BK886.out 1).trans rfl; have hcz78_2 : w77.cell? ⟨gb886, 2, none⟩ = some (.int .i64 t880) := (blk_cell BK886.out 2).trans rfl; have hcz78_3 : w77.cell? ⟨gb886, 3, none⟩ = some (.slice Ao21 t881.length co21) := (blk_cell BK886.out 3).trans rfl; have hfz78_0 := blk_frozen BK886.out 0; have hfz78_1 := blk_frozen BK886.out 1; have hfz78_2 := blk_frozen BK886.out 2; have hfz78_3 := blk_frozen BK886.out 3) | ((with_reducible refine gate_callee (f := 55) rfl ?_); refine goesL_ (some 83) rfl rfl Try.func55 (by kernel_rfl) rfl #[.agg #[.int .i64 t878, .int .i64 t879, .int .i64 t880, .slice Ao21 t896.length co21], .int .i64 1] rfl (by (try simp only [List.map_toArray, List.map_cons, List.map_nil]); first | done | (rw [show t896.length = t881.length from (Kd.R_reads' HO_887003.out).1.symm] <;> rfl) | rfl | (simp only [List.length_drop, List.length_take]; rfl)) ?_; (with_reducible refine (laws_heldFrame.calls kj41 t878 t879 t880 _ _ t896 1 t897 _ ?side1 ?side2 A64.out).mono ?_); (case side1 => repeat (first | exact (Kd.R_reads' HO_887003.out).2.2 | (with_reducible refine Kd.C_alloc ?_ _) | (with_reducible refine Kd.C_drewN ?_ _) | (with_reducible refine Kd.C_drew ?_))); (case side2 => rw [show t896.length = t881.length from (Kd.R_reads' HO_887003.out).1.symm]; exact (Kd.R_reads' HO_887003.out).2.1); rintro e w79 ⟨rfl, hb⟩; refine ⟨_, rfl, ?_⟩; have n0_ := Aside0.mk (Kd.R_below (by (with_reducible repeat (first | apply Kd.R_alloc | apply Kd.R_drewN | apply Kd.R_drew)); exact HO_875003.out) hb); have n1_ := Aside0.mk (Kd.R_below (by (with_reducible repeat (first | apply Kd.R_alloc | apply Kd.R_drewN | apply Kd.R_drew)); exact HO_887003.out) hb); have n2_ := Aside0.mk (blk_below (g := gb874) (o := .cells #[.int .i64 t866, .int .i64 t867, .int .i64 t868, .slice Ao14 t869.length co14] 63 (0, 0)) (by (with_reducible repeat (first | refine blk_drewN ?_ _ | refine blk_drew ?_ | refine blk_alloc ?_ _)); exact BK874.out) hb); have n3_ := Aside0.mk (blk_below (g := gb886) (o := .cells #[.int .i64 t878, .int .i64 t879, .int .i64 t880, .slice Ao21 t881.length co21] 63 (0, 0)) (by (with_reducible repeat (first | refine blk_drewN ?_ _ | refine blk_drew ?_ | refine blk_alloc ?_ _)); exact BK886.out) hb); have n4_ := Aside0.mk (below_step (by repeat (first | (with_reducible first | exact HB.out | apply below_alloc | apply pw_below_drewN | apply below_drew1 | refine below_set ?_ GE874.out | refine below_set ?_ GE886.out) | exact HB.out)) hb); clear HO_875003; clear HO_887003; clear BK874; clear BK886; clear HB; have HO_875003 := n0_; have HO_887003 := n1_; have BK874 := n2_; have BK886 := n3_; have HB := n4_; clear n0_ n1_ n2_ n3_ n4_; (try clear hb); (try clear hb2); (try clear hk); (try clear hi)) | ((with_reducible refine gate_callee (f := 16) rfl ?_); refine goesL_ (some 91) rfl rfl Try.func16 (by kernel_rfl) rfl #[.slice A0 l0.length c0] rfl (by (try simp only [List.map_toArray, List.map_cons, List.map_nil]); first | done | rfl | (simp only [List.length_drop, List.length_take]; rfl)) ?_; (with_reducible refine (laws_toByteS.calls kj41 _ _ l0 t898 _ ?side1 ?side2 A72.out).mono ?_); (case side1 => repeat (first | exact (Kd.C_below HR0.out HB.out) | (with_reducible refine Kd.C_alloc ?_ _) | (with_reducible refine Kd.C_drewN ?_ _) | (with_reducible refine Kd.C_drew ?_))); (case side2 => exact HC0.out); rintro e w80 ⟨v899, rfl, ho0, hb⟩; refine ⟨_, rfl, ?_⟩; have n0_ := Aside0.mk (Kd.R_elder' (by (with_reducible repeat (first | apply Kd.R_alloc | apply Kd.R_drewN | apply Kd.R_drew)); exact HO_875003.out) (Kd.R_base ho0) hb); have n1_ := Aside0.mk (Kd.R_elder' (by (with_reducible repeat (first | apply Kd.R_alloc | apply Kd.R_drewN | apply Kd.R_drew)); exact HO_887003.out) (Kd.R_base ho0) hb); have n2_ := Aside0.mk (Kd.R_lower (Kd.R_new' (Kd.R_new' ho0 (Kd.R_lt (by (with_reducible repeat (first | apply Kd.R_alloc | apply Kd.R_drewN | apply Kd.R_drew)); exact HO_875003.out))) (Kd.R_lt (by (with_reducible repeat (first | apply Kd.R_alloc | apply Kd.R_drewN | apply Kd.R_drew)); exact HO_887003.out))) (below_size (by repeat (first | (with_reducible first | exact HB.out | apply below_alloc | apply pw_below_drewN | apply below_drew1 | refine below_set ?_ GE874.out | refine below_set ?_ GE886.out) | exact HB.out)))); have n3_ := Aside0.mk (blk_below (g := gb874) (o := .cells #[.int .i64 t866, .int .i64 t867, .int .i64 t868, .slice Ao14 t869.length co14] 63 (0, 0)) (by (with_reducible repeat (first | refine blk_drewN ?_ _ | refine blk_drew ?_ | refine blk_alloc ?_ _)); exact BK874.out) hb); have n4_ := Aside0.mk (blk_below (g := gb886) (o := .cells #[.int .i64 t878, .int .i64 t879, .int .i64 t880, .slice Ao21 t881.length co21] 63 (0, 0)) (by (with_reducible repeat (first | refine blk_drewN ?_ _ | refine blk_drew ?_ | refine blk_alloc ?_ _)); exact BK886.out) hb); have n5_ := Aside0.mk (below_step (by repeat (first | (with_reducible first | exact HB.out | apply below_alloc | apply pw_below_drewN | apply below_drew1 | refine below_set ?_ GE874.out | refine below_set ?_ GE886.out) | exact HB.out)) hb); clear HO_875003; clear HO_887003; clear BK874; clear BK886; clear HB; have HO_875003 := n0_; have HO_887003 := n1_; have HO900 := n2_; have BK874 := n3_; have BK886 := n4_; have HB := n5_; clear n0_ n1_ n2_ n3_ n4_ n5_; (try clear hb); (try clear hb2); (try clear hk); (try clear hi); (try clear ho0); obtain ⟨Ao81, co81, eo81⟩ := Kd.R_slice HO900.out; subst eo81) | ((with_reducible refine gate_callee (f := 54) rfl ?_); refine goesL_ (some 93) rfl rfl Try.func54 (by kernel_rfl) rfl #[.slice Ao81 t898.length co81, .int .i64 a1] rfl (by (try simp only [List.map_toArray, List.map_cons, List.map_nil]); first | done | rfl | (simp only [List.length_drop, List.length_take]; rfl)) ?_; (with_reducible refine (impl_GetFrame.calls kj41 _ _ t898 a1 t901 t902 t903 t904 t907 t908 _ ?side1 ?side2 A73.out).mono ?_); (case side1 => repeat (first | exact (Kd.R_reads' HO900.out).2.2 | (with_reducible refine Kd.C_alloc ?_ _) | (with_reducible refine Kd.C_drewN ?_ _) | (with_reducible refine Kd.C_drew ?_))); (case side2 => exact (Kd.R_reads' HO900.out).2.1); rintro e w82 ⟨v905, rfl, ho0, hb⟩; refine ⟨_, rfl, ?_⟩; have n0_ := Aside0.mk (Kd.R_elder' (by (with_reducible repeat (first | apply Kd.R_alloc | apply Kd.R_drewN | apply Kd.R_drew)); exact HO_875003.out) (Kd.R_base ho0) hb); have n1_ := Aside0.mk (Kd.R_elder' (by (with_reducible repeat (first | apply Kd.R_alloc | apply Kd.R_drewN | apply Kd.R_drew)); exact HO_887003.out) (Kd.R_base ho0) hb); have n2_ := Aside0.mk (Kd.R_elder' (by (with_reducible repeat (first | apply Kd.R_alloc | apply Kd.R_drewN | apply Kd.R_drew)); exact HO900.out) (Kd.R_base ho0) hb); have n3_ := Aside0.mk (Kd.R_lower (Kd.R_new' (Kd.R_new' (Kd.R_new' ho0 (Kd.R_lt (by (with_reducible repeat (first | apply Kd.R_alloc | apply Kd.R_drewN | apply Kd.R_drew)); exact HO_875003.out))) (Kd.R_lt (by (with_reducible repeat (first | apply Kd.R_alloc | apply Kd.R_drewN | apply Kd.R_drew)); exact HO_887003.out))) (Kd.R_lt (by (with_reducible repeat (first | apply Kd.R_alloc | apply Kd.R_drewN | apply Kd.R_drew)); exact HO900.out))) (below_size (by repeat (first | (with_reducible first | exact HB.out | apply below_alloc | apply pw_below_drewN | apply below_drew1 | refine below_set ?_ GE874.out | refine below_set ?_ GE886.out) | exact HB.out)))); have n4_ := Aside0.mk (blk_below (g := gb874) (o := .cells #[.int .i64 t866, .int .i64 t867, .int .i64 t868, .slice Ao14 t869.length co14] 63 (0, 0)) (by (with_reducible repeat (first | refine blk_drewN ?_ _ | refine blk_drew ?_ | refine blk_alloc ?_ _)); exact BK874.out) hb); have n5_ := Aside0.mk (blk_below (g := gb886) (o := .cells #[.int .i64 t878, .int .i64 t879, .int .i64 t880, .slice Ao21 t881.length co21] 63 (0, 0)) (by (with_reducible repeat (first | refine blk_drewN ?_ _ | refine blk_drew ?_ | refine blk_alloc ?_ _)); exact BK886.out) hb); have n6_ := Aside0.mk (below_step (by repeat (first | (with_reducible first | exact HB.out | apply below_alloc | apply pw_below_drewN | apply below_drew1 | refine below_set ?_ GE874.out | refine below_set ?_ GE886.out) | exact HB.out)) hb); clear HO_875003; clear HO_887003; clear HO900; clear BK874; clear BK886; clear HB; have HO_875003 := n0_; have HO_887003 := n1_; have HO900 := n2_; have HO906 := n3_; have BK874 := n4_; have BK886 := n5_; have HB := n6_; clear n0_ n1_ n2_ n3_ n4_ n5_ n6_; (try clear hb); (try clear hb2); (try clear hk); (try clear hi); (try clear ho0)) | ((with_reducible refine gate_dst (N := 15) rfl ?_); refine box_event ?hg (N := 15) ?hd (cs := #[.int .i64 0, .int .i64 0, .int .i64 0, .slice none 0 0]) (t := 63) ?hr ?_; (case hd => rfl); (case hg => rfl); (case hr => first | (go_simp; done) | (go_simp; rfl)); intro gb909 hg w83 hbox hb; have n0_ := Aside0.mk (Kd.R_below (by (with_reducible repeat (first | apply Kd.R_alloc | apply Kd.R_drewN | apply Kd.R_drew)); exact HO_875003.out) hb); have n1_ := Aside0.mk (Kd.R_below (by (with_reducible repeat (first | apply Kd.R_alloc | apply Kd.R_drewN | apply Kd.R_drew)); exact HO_887003.out) hb); have n2_ := Aside0.mk (Kd.R_below (by (with_reducible repeat (first | apply Kd.R_alloc | apply Kd.R_drewN | apply Kd.R_drew)); exact HO900.out) hb); have n3_ := Aside0.mk (Kd.R_below (by (with_reducible repeat (first | apply Kd.R_alloc | apply Kd.R_drewN | apply Kd.R_drew)); exact HO906.out) hb); have n4_ := Aside0.mk (blk_below (g := gb874) (o := .cells #[.int .i64 t866, .int .i64 t867, .int .i64 t868, .slice Ao14 t869.length co14] 63 (0, 0)) (by (with_reducible repeat (first | refine blk_drewN ?_ _ | refine blk_drew ?_ | refine blk_alloc ?_ _)); exact BK874.out) hb); have n5_ := Aside0.mk (blk_below (g := gb886) (o := .cells #[.int .i64 t878, .int .i64 t879, .int .i64 t880, .slice Ao21 t881.length co21] 63 (0, 0)) (by (with_reducible repeat (first | refine blk_drewN ?_ _ | refine blk_drew ?_ | refine blk_alloc ?_ _)); exact BK886.out) hb); have n6_ := Aside0.mk (below_step (by repeat (first | (with_reducible first | exact HB.out | apply below_alloc | apply pw_below_drewN | apply below_drew1 | refine below_set ?_ GE874.out | refine below_set ?_ GE886.out) | exact HB.out)) hb); have n7_ := Aside0.mk (hbox); have n8_ := Aside0.mk ((by rw [hg]; exact (below_size (by repeat (first | (with_reducible first | exact HB.out | apply below_alloc | apply pw_below_drewN | apply below_drew1 | refine below_set ?_ GE874.out | refine below_set ?_ GE886.out) | exact HB.out))) : w.heap.size ≤ gb909)); have n9_ := Aside0.mk ((by rw [hg]; exact (below_size (by repeat (first | (with_reducible first | exact HB.out | apply below_alloc | apply pw_below_drewN | apply below_drew1 | refine below_set ?_ GE874.out | refine below_set ?_ GE886.out) | exact HB.out))) : w.heap.size ≤ gb909)); have n10_ := Aside0.mk ((by rw [hg]; exact Nat.ne_of_lt (blk_lt (g := gb874) (o := .cells #[.int .i64 t866, .int .i64 t867, .int .i64 t868, .slice Ao14 t869.length co14] 63 (0, 0)) (by (with_reducible repeat (first | refine blk_drewN ?_ _ | refine blk_drew ?_ | refine blk_alloc ?_ _)); exact BK874.out)) : gb874 ≠ gb909)); have n11_ := Aside0.mk ((by rw [hg]; exact Nat.ne_of_gt (blk_lt (g := gb874) (o := .cells #[.int .i64 t866, .int .i64 t867, .int .i64 t868, .slice Ao14 t869.length co14] 63 (0, 0)) (by (with_reducible repeat (first | refine blk_drewN ?_ _ | refine blk_drew ?_ | refine blk_alloc ?_ _)); exact BK874.out)) : gb909 ≠ gb874)); have n12_ := Aside0.mk ((by rw [hg]; exact Nat.ne_of_lt (blk_lt (g := gb886) (o := .cells #[.int .i64 t878, .int .i64 t879, .int .i64 t880, .slice Ao21 t881.length co21] 63 (0, 0)) (by (with_reducible repeat (first | refine blk_drewN ?_ _ | refine blk_drew ?_ | refine blk_alloc ?_ _)); exact BK886.out)) : gb886 ≠ gb909)); have n13_ := Aside0.mk ((by rw [hg]; exact Nat.ne_of_gt (blk_lt (g := gb886) (o := .cells #[.int .i64 t878, .int .i64 t879, .int .i64 t880, .slice Ao21 t881.length co21] 63 (0, 0)) (by (with_reducible repeat (first | refine blk_drewN ?_ _ | refine blk_drew ?_ | refine blk_alloc ?_ _)); exact BK886.out)) : gb909 ≠ gb886)); clear HO_875003; clear HO_887003; clear HO900; clear HO906; clear BK874; clear BK886; clear HB; have HO_875003 := n0_; have HO_887003 := n1_; have HO900 := n2_; have HO906 := n3_; have BK874 := n4_; have BK886 := n5_; have HB := n6_; have BK909 := n7_; have GW909 := n8_; have GE909 := n9_; have NB874_909 := n10_; have NB909_874 := n11_; have NB886_909 := n12_; have NB909_886 := n13_; clear n0_ n1_ n2_ n3_ n4_ n5_ n6_ n7_ n8_ n9_ n10_ n11_ n12_ n13_; clear hb hbox hg; have hnb84 := NB909_874.out; have hnc84 := NB874_909.out; have hnb85 := NB909_886.out; have hnc85 := NB886_909.out; have hcz86_0 : w83.cell? ⟨gb909, 0, none⟩ = some (.int .i64 0) := (blk_cell BK909.out 0).trans rfl; have hcz86_1 : w83.cell? ⟨gb909, 1, none⟩ = some (.int .i64 0) := (blk_cell BK909.out 1).trans rfl; have hcz86_2 : w83.cell? ⟨gb909, 2, none⟩ = some (.int .i64 0) := (blk_cell BK909.out 2).trans rfl; have hcz86_3 : w83.cell? ⟨gb909, 3, none⟩ = some (.slice none 0 0) := (blk_cell BK909.out 3).trans rfl; have hfz86_0 := blk_frozen BK909.out 0; have hfz86_1 := blk_frozen BK909.out 1; have hfz86_2 := blk_frozen BK909.out 2; have hfz86_3 := blk_frozen BK909.out 3; obtain ⟨Ao87, co87, eo87⟩ := Kd.R_slice HO906.out; subst eo87))
           (try simp only [Act.put, List.setIfInBounds_toArray, List.set_cons_zero, List.set_cons_succ])
           go_cut [110] (fun v110 wc => ∃ (kq : Nat) (x110_73 : Bool), v110 = .bool x110_73 ∧ Aside0 (laws_FnExactGetFrame.j2 kq t895 x110_73 t878 t879 t880 t896 = some r) ∧ Aside0 (kq ≤ kj41) ∧ Aside0 (Kd.R (Kd.int .u8) 5 wc w.heap.size (fun k_ => some k_ ≠ ((.slice Ao21 t881.length co21) : Value).ownBlock ∧ some k_ ≠ ((.slice Ao87 t904.length co87) : Value).ownBlock) (.slice Ao14 t869.length co14) t869) ∧ Aside0 (Kd.R (Kd.int .u8) 5 wc w.heap.size (fun k_ => some k_ ≠ ((.slice Ao14 t869.length co14) : Value).ownBlock ∧ some k_ ≠ ((.slice Ao87 t904.length co87) : Value).ownBlock) (.slice Ao21 t881.length co21) t896) ∧ Aside0 (Kd.R (Kd.int .u8) 5 wc w.heap.size (fun k_ => some k_ ≠ ((.slice Ao14 t869.length co14) : Value).ownBlock ∧ some k_ ≠ ((.slice Ao21 t881.length co21) : Value).ownBlock) (.slice Ao87 t904.length co87) t904) ∧ Aside0 (wc.heap[gb874]? = some (.cells #[.int .i64 t866, .int .i64 t867, .int .i64 t868, (.slice Ao14 t869.length co14)] 63 (0, 0))) ∧ Aside0 (wc.heap[gb886]? = some (.cells #[.int .i64 t878, .int .i64 t879, .int .i64 t880, (.slice Ao21 t881.length co21)] 63 (0, 0))) ∧ Aside0 (wc.heap[gb909]? = some (.cells #[.int .i64 t901, .int .i64 t902, .int .i64 t903, (.slice Ao87 t904.length co87)] 63 (0, 0))) ∧ Aside0 (Below w.heap.size w wc))
           case first =>
            have H := HC74.out
            clear HC74
            replace H := Option.bind_eq_some_iff.mp H
            obtain ⟨t910, A880, H⟩ := H
            replace H : (if t910 = true then (if t907 = t872 then (laws_FnExactGetFrame.j2 kj41 t895 (t908 != t873) t878 t879 t880 t896) else (laws_FnExactGetFrame.j2 kj41 t895 true t878 t879 t880 t896)) else (laws_FnExactGetFrame.j2 kj41 t895 true t878 t879 t880 t896)) = some r := H
            have A88 := Aside0.mk A880
            clear A880
            by_cases c89 : t910 = true
            ·
             subst c89
             have H1 : (if t907 = t872 then (laws_FnExactGetFrame.j2 kj41 t895 (t908 != t873) t878 t879 t880 t896) else (laws_FnExactGetFrame.j2 kj41 t895 true t878 t879 t880 t896)) = some r := by rw [if_pos rfl] at H; exact H
             clear H
             have H := H1
             clear H1
             by_cases c90 : t907 = t872
             ·
              rw [if_pos c90] at H
              have c90b0 : (t907 == t872) = true := beq_iff_eq.mpr c90
              have c90b1 : (t907 != t872) = false := bne_eq_false_iff_eq.mpr c90
              clear c90
              (first | rw [c90b0] | (simp only [i64_w, i32_w]; rw [c90b0]) | skip)
              have H' := Aside0.mk H
              clear H
              have hnb91 := NB909_874.out
              have hnc91 := NB874_909.out
              have hnb92 := NB909_886.out
              have hnc92 := NB886_909.out
              have hcz93_0 : w83.cell? ⟨gb909, 0, none⟩ = some (.int .i64 0) := (blk_cell BK909.out 0).trans rfl
              have hcz93_1 : w83.cell? ⟨gb909, 1, none⟩ = some (.int .i64 0) := (blk_cell BK909.out 1).trans rfl
              have hcz93_2 : w83.cell? ⟨gb909, 2, none⟩ = some (.int .i64 0) := (blk_cell BK909.out 2).trans rfl
              have hcz93_3 : w83.cell? ⟨gb909, 3, none⟩ = some (.slice none 0 0) := (blk_cell BK909.out 3).trans rfl
              have hfz93_0 := blk_frozen BK909.out 0
              have hfz93_1 := blk_frozen BK909.out 1
              have hfz93_2 := blk_frozen BK909.out 2
              have hfz93_3 := blk_frozen BK909.out 3
              have hnb94 := NB874_886.out
              have hnc94 := NB886_874.out
              have hcz95_0 : w83.cell? ⟨gb874, 0, none⟩ = some (.int .i64 t866) := (blk_cell BK874.out 0).trans rfl
              have hcz95_1 : w83.cell? ⟨gb874, 1, none⟩ = some (.int .i64 t867) := (blk_cell BK874.out 1).trans rfl
              have hcz95_2 : w83.cell? ⟨gb874, 2, none⟩ = some (.int .i64 t868) := (blk_cell BK874.out 2).trans rfl
              have hcz95_3 : w83.cell? ⟨gb874, 3, none⟩ = some (.slice Ao14 t869.length co14) := (blk_cell BK874.out 3).trans rfl
              have hfz95_0 := blk_frozen BK874.out 0
              have hfz95_1 := blk_frozen BK874.out 1
              have hfz95_2 := blk_frozen BK874.out 2
              have hfz95_3 := blk_frozen BK874.out 3
              go_wp2_with (first | ((with_reducible refine gate_callee (f := 49) rfl ?_); refine goesL_ (some 99) rfl rfl Try.func49 (by kernel_rfl) rfl #[.agg #[.int .i64 t901, .int .i64 t902, .int .i64 t903, .slice Ao87 t904.length co87], .agg #[.int .i64 t866, .int .i64 t867, .int .i64 t868, .slice Ao14 t869.length co14]] rfl (by (try simp only [List.map_toArray, List.map_cons, List.map_nil]); first | done | rfl | (simp only [List.length_drop, List.length_take]; rfl)) ?_; (with_reducible refine (laws_eqFrame.calls kj41 t901 t902 t903 _ _ t904 t866 t867 t868 _ _ t869 true _ ?side1 ?side2 ?side3 ?side4 A88.out).mono ?_); (case side1 => refine (Kd.R_reads' (e := 5) (base := w.heap.size) (ok := fun k_ => (((True ∧ some k_ ≠ (.slice Ao14 t869.length co14 : Value).ownBlock) ∧ some k_ ≠ (.slice Ao21 t881.length co21 : Value).ownBlock) ∧ some k_ ≠ (.slice Ao81 t898.length co81 : Value).ownBlock)) (n := t904.length) (c := co87) ?_).2.2; exact (by (with_reducible repeat (first | apply Kd.R_alloc | apply Kd.R_drewN | apply Kd.R_drew)); exact (Kd.R_mono (Kd.R_far (p := ⟨gb909, 3, none⟩) (Kd.R_far (p := ⟨gb909, 2, none⟩) (Kd.R_far (p := ⟨gb909, 1, none⟩) (Kd.R_far (p := ⟨gb909, 0, none⟩) (Kd.R_types HO906.out BK909.out (by decide)) (fun _ hk => hk.2) (.int .i64 t901)) (fun _ hk => hk.2) (.int .i64 t902)) (fun _ hk => hk.2) (.int .i64 t903)) (fun _ hk => hk.2) (.slice Ao87 t904.length co87)) (fun _ h_ => h_.1)))); (case side2 => exact (Kd.R_reads' HO906.out).2.1); (case side3 => refine (Kd.R_reads' (e := 5) (base := w.heap.size) (ok := fun k_ => ((some k_ ≠ (.slice Ao21 t881.length co21 : Value).ownBlock ∧ some k_ ≠ (.slice Ao81 t898.length co81 : Value).ownBlock) ∧ some k_ ≠ (.slice Ao87 t904.length co87 : Value).ownBlock)) (n := t869.length) (c := co14) ?_).2.2; exact (by (with_reducible repeat (first | apply Kd.R_alloc | apply Kd.R_drewN | apply Kd.R_drew)); exact (Kd.R_mono (Kd.R_far (p := ⟨gb909, 3, none⟩) (Kd.R_far (p := ⟨gb909, 2, none⟩) (Kd.R_far (p := ⟨gb909, 1, none⟩) (Kd.R_far (p := ⟨gb909, 0, none⟩) (Kd.R_types HO_875003.out BK909.out (by decide)) (fun _ hk => hk.2) (.int .i64 t901)) (fun _ hk => hk.2) (.int .i64 t902)) (fun _ hk => hk.2) (.int .i64 t903)) (fun _ hk => hk.2) (.slice Ao87 t904.length co87)) (fun _ h_ => h_.1)))); (case side4 => exact (Kd.R_reads' HO_875003.out).2.1); rintro e w96 ⟨rfl, hb⟩; refine ⟨_, rfl, ?_⟩; have n0_ := Aside0.mk (Kd.R_below (by (with_reducible repeat (first | apply Kd.R_alloc | apply Kd.R_drewN | apply Kd.R_drew)); exact (Kd.R_mono (Kd.R_far (p := ⟨gb909, 3, none⟩) (Kd.R_far (p := ⟨gb909, 2, none⟩) (Kd.R_far (p := ⟨gb909, 1, none⟩) (Kd.R_far (p := ⟨gb909, 0, none⟩) (Kd.R_types HO_875003.out BK909.out (by decide)) (fun _ hk => hk.2) (.int .i64 t901)) (fun _ hk => hk.2) (.int .i64 t902)) (fun _ hk => hk.2) (.int .i64 t903)) (fun _ hk => hk.2) (.slice Ao87 t904.length co87)) (fun _ h_ => h_.1))) hb); have n1_ := Aside0.mk (Kd.R_below (by (with_reducible repeat (first | apply Kd.R_alloc | apply Kd.R_drewN | apply Kd.R_drew)); exact (Kd.R_mono (Kd.R_far (p := ⟨gb909, 3, none⟩) (Kd.R_far (p := ⟨gb909, 2, none⟩) (Kd.R_far (p := ⟨gb909, 1, none⟩) (Kd.R_far (p := ⟨gb909, 0, none⟩) (Kd.R_types HO_887003.out BK909.out (by decide)) (fun _ hk => hk.2) (.int .i64 t901)) (fun _ hk => hk.2) (.int .i64 t902)) (fun _ hk => hk.2) (.int .i64 t903)) (fun _ hk => hk.2) (.slice Ao87 t904.length co87)) (fun _ h_ => h_.1))) hb); have n2_ := Aside0.mk (Kd.R_below (by (with_reducible repeat (first | apply Kd.R_alloc | apply Kd.R_drewN | apply Kd.R_drew)); exact (Kd.R_mono (Kd.R_far (p := ⟨gb909, 3, none⟩) (Kd.R_far (p := ⟨gb909, 2, none⟩) (Kd.R_far (p := ⟨gb909, 1, none⟩) (Kd.R_far (p := ⟨gb909, 0, none⟩) (Kd.R_types HO900.out BK909.out (by decide)) (fun _ hk => hk.2) (.int .i64 t901)) (fun _ hk => hk.2) (.int .i64 t902)) (fun _ hk => hk.2) (.int .i64 t903)) (fun _ hk => hk.2) (.slice Ao87 t904.length co87)) (fun _ h_ => h_.1))) hb); have n3_ := Aside0.mk (Kd.R_below (by (with_reducible repeat (first | apply Kd.R_alloc | apply Kd.R_drewN | apply Kd.R_drew)); exact (Kd.R_mono (Kd.R_far (p := ⟨gb909, 3, none⟩) (Kd.R_far (p := ⟨gb909, 2, none⟩) (Kd.R_far (p := ⟨gb909, 1, none⟩) (Kd.R_far (p := ⟨gb909, 0, none⟩) (Kd.R_types HO906.out BK909.out (by decide)) (fun _ hk => hk.2) (.int .i64 t901)) (fun _ hk => hk.2) (.int .i64 t902)) (fun _ hk => hk.2) (.int .i64 t903)) (fun _ hk => hk.2) (.slice Ao87 t904.length co87)) (fun _ h_ => h_.1))) hb); have n4_ := Aside0.mk (blk_below (g := gb874) (o := .cells #[.int .i64 t866, .int .i64 t867, .int .i64 t868, .slice Ao14 t869.length co14] 63 (0, 0)) (by (with_reducible repeat (first | refine blk_drewN ?_ _ | refine blk_drew ?_ | refine blk_alloc ?_ _)); refine blk_far ?_ NB874_909.out _; (with_reducible repeat (first | refine blk_drewN ?_ _ | refine blk_drew ?_ | refine blk_alloc ?_ _)); refine blk_far ?_ NB874_909.out _; (with_reducible repeat (first | refine blk_drewN ?_ _ | refine blk_drew ?_ | refine blk_alloc ?_ _)); refine blk_far ?_ NB874_909.out _; (with_reducible repeat (first | refine blk_drewN ?_ _ | refine blk_drew ?_ | refine blk_alloc ?_ _)); refine blk_far ?_ NB874_909.out _; (with_reducible repeat (first | refine blk_drewN ?_ _ | refine blk_drew ?_ | refine blk_alloc ?_ _)); exact BK874.out) hb); have n5_ := Aside0.mk (blk_below (g := gb886) (o := .cells #[.int .i64 t878, .int .i64 t879, .int .i64 t880, .slice Ao21 t881.length co21] 63 (0, 0)) (by (with_reducible repeat (first | refine blk_drewN ?_ _ | refine blk_drew ?_ | refine blk_alloc ?_ _)); refine blk_far ?_ NB886_909.out _; (with_reducible repeat (first | refine blk_drewN ?_ _ | refine blk_drew ?_ | refine blk_alloc ?_ _)); refine blk_far ?_ NB886_909.out _; (with_reducible repeat (first | refine blk_drewN ?_ _ | refine blk_drew ?_ | refine blk_alloc ?_ _)); refine blk_far ?_ NB886_909.out _; (with_reducible repeat (first | refine blk_drewN ?_ _ | refine blk_drew ?_ | refine blk_alloc ?_ _)); refine blk_far ?_ NB886_909.out _; (with_reducible repeat (first | refine blk_drewN ?_ _ | refine blk_drew ?_ | refine blk_alloc ?_ _)); exact BK886.out) hb); have n6_ := Aside0.mk (blk_below (g := gb909) (o := .cells #[.int .i64 t901, .int .i64 t902, .int .i64 t903, .slice Ao87 t904.length co87] 63 (0, 0)) (by (with_reducible repeat (first | refine blk_drewN ?_ _ | refine blk_drew ?_ | refine blk_alloc ?_ _)); refine blk_put (cs := #[.int .i64 t901, .int .i64 t902, .int .i64 t903, .slice none 0 0]) ?_ 3 _ rfl; (with_reducible repeat (first | refine blk_drewN ?_ _ | refine blk_drew ?_ | refine blk_alloc ?_ _)); refine blk_put (cs := #[.int .i64 t901, .int .i64 t902, .int .i64 0, .slice none 0 0]) ?_ 2 _ rfl; (with_reducible repeat (first | refine blk_drewN ?_ _ | refine blk_drew ?_ | refine blk_alloc ?_ _)); refine blk_put (cs := #[.int .i64 t901, .int .i64 0, .int .i64 0, .slice none 0 0]) ?_ 1 _ rfl; (with_reducible repeat (first | refine blk_drewN ?_ _ | refine blk_drew ?_ | refine blk_alloc ?_ _)); refine blk_put (cs := #[.int .i64 0, .int .i64 0, .int .i64 0, .slice none 0 0]) ?_ 0 _ rfl; (with_reducible repeat (first | refine blk_drewN ?_ _ | refine blk_drew ?_ | refine blk_alloc ?_ _)); exact BK909.out) hb); have n7_ := Aside0.mk (below_step (by repeat (first | (with_reducible first | exact HB.out | apply below_alloc | apply pw_below_drewN | apply below_drew1 | refine below_set ?_ GE874.out | refine below_set ?_ GE886.out | refine below_set ?_ GE909.out) | exact HB.out)) hb); clear HO_875003; clear HO_887003; clear HO900; clear HO906; clear BK874; clear BK886; clear BK909; clear HB; have HO_875003 := n0_; have HO_887003 := n1_; have HO900 := n2_; have HO906 := n3_; have BK874 := n4_; have BK886 := n5_; have BK909 := n6_; have HB := n7_; clear n0_ n1_ n2_ n3_ n4_ n5_ n6_ n7_; (try clear hb); (try clear hb2); (try clear hk); (try clear hi)))
              go_meet
              case rel => exact ⟨_, ((t908 != t873)), (by first | rfl | (simp; done) | (simp [*]; done)), H', ⟨by have := HJ7.out; have := HJ41.out; first | omega | exact Nat.le_refl _⟩, ⟨by (with_reducible repeat (first | apply Kd.R_alloc | apply Kd.R_drewN | apply Kd.R_drew)); exact Kd.R_mono HO_875003.out (fun _ hk => ⟨(by first | exact hk.1.1 | (have hq_ := hk; simp only [ne_eq] at hq_ ⊢; simp only [hq_, not_false_eq_true, and_self])), (by first | exact hk.2 | (have hq_ := hk; simp only [ne_eq] at hq_ ⊢; simp only [hq_, not_false_eq_true, and_self]))⟩)⟩, ⟨by (with_reducible repeat (first | apply Kd.R_alloc | apply Kd.R_drewN | apply Kd.R_drew)); exact Kd.R_mono HO_887003.out (fun _ hk => ⟨(by first | exact hk.1.1 | (have hq_ := hk; simp only [ne_eq] at hq_ ⊢; simp only [hq_, not_false_eq_true, and_self])), (by first | exact hk.2 | (have hq_ := hk; simp only [ne_eq] at hq_ ⊢; simp only [hq_, not_false_eq_true, and_self]))⟩)⟩, ⟨by (with_reducible repeat (first | apply Kd.R_alloc | apply Kd.R_drewN | apply Kd.R_drew)); exact Kd.R_mono HO906.out (fun _ hk => ⟨(by first | exact hk.1.1.2 | (have hq_ := hk; simp only [ne_eq] at hq_ ⊢; simp only [hq_, not_false_eq_true, and_self])), (by first | exact hk.1.2 | (have hq_ := hk; simp only [ne_eq] at hq_ ⊢; simp only [hq_, not_false_eq_true, and_self]))⟩)⟩, ⟨by (with_reducible repeat (first | refine blk_drewN ?_ _ | refine blk_drew ?_ | refine blk_alloc ?_ _)); exact BK874.out⟩, ⟨by (with_reducible repeat (first | refine blk_drewN ?_ _ | refine blk_drew ?_ | refine blk_alloc ?_ _)); exact BK886.out⟩, ⟨by (with_reducible repeat (first | refine blk_drewN ?_ _ | refine blk_drew ?_ | refine blk_alloc ?_ _)); exact BK909.out⟩, ⟨by repeat (first | (with_reducible first | exact HB.out | apply below_alloc | apply pw_below_drewN | apply below_drew1 | refine below_set ?_ GE874.out | refine below_set ?_ GE886.out | refine below_set ?_ GE909.out) | exact HB.out)⟩⟩
             ·
              rw [if_neg c90] at H
              have c90b0 : (t907 == t872) = false := beq_eq_false_iff_ne.mpr c90
              have c90b1 : (t907 != t872) = true := bne_iff_ne.mpr c90
              (first | rw [c90b0] | (simp only [i64_w, i32_w]; rw [c90b0]) | skip)
              have H' := Aside0.mk H
              clear H
              have hnb97 := NB909_874.out
              have hnc97 := NB874_909.out
              have hnb98 := NB909_886.out
              have hnc98 := NB886_909.out
              have hcz99_0 : w83.cell? ⟨gb909, 0, none⟩ = some (.int .i64 0) := (blk_cell BK909.out 0).trans rfl
              have hcz99_1 : w83.cell? ⟨gb909, 1, none⟩ = some (.int .i64 0) := (blk_cell BK909.out 1).trans rfl
              have hcz99_2 : w83.cell? ⟨gb909, 2, none⟩ = some (.int .i64 0) := (blk_cell BK909.out 2).trans rfl
              have hcz99_3 : w83.cell? ⟨gb909, 3, none⟩ = some (.slice none 0 0) := (blk_cell BK909.out 3).trans rfl
              have hfz99_0 := blk_frozen BK909.out 0
              have hfz99_1 := blk_frozen BK909.out 1
              have hfz99_2 := blk_frozen BK909.out 2
              have hfz99_3 := blk_frozen BK909.out 3
              have hnb100 := NB874_886.out
              have hnc100 := NB886_874.out
              have hcz101_0 : w83.cell? ⟨gb874, 0, none⟩ = some (.int .i64 t866) := (blk_cell BK874.out 0).trans rfl
              have hcz101_1 : w83.cell? ⟨gb874, 1, none⟩ = some (.int .i64 t867) := (blk_cell BK874.out 1).trans rfl
              have hcz101_2 : w83.cell? ⟨gb874, 2, none⟩ = some (.int .i64 t868) := (blk_cell BK874.out 2).trans rfl
              have hcz101_3 : w83.cell? ⟨gb874, 3, none⟩ = some (.slice Ao14 t869.length co14) := (blk_cell BK874.out 3).trans rfl
              have hfz101_0 := blk_frozen BK874.out 0
              have hfz101_1 := blk_frozen BK874.out 1
              have hfz101_2 := blk_frozen BK874.out 2
              have hfz101_3 := blk_frozen BK874.out 3
              go_wp2_with (first | ((with_reducible refine gate_callee (f := 49) rfl ?_); refine goesL_ (some 99) rfl rfl Try.func49 (by kernel_rfl) rfl #[.agg #[.int .i64 t901, .int .i64 t902, .int .i64 t903, .slice Ao87 t904.length co87], .agg #[.int .i64 t866, .int .i64 t867, .int .i64 t868, .slice Ao14 t869.length co14]] rfl (by (try simp only [List.map_toArray, List.map_cons, List.map_nil]); first | done | rfl | (simp only [List.length_drop, List.length_take]; rfl)) ?_; (with_reducible refine (laws_eqFrame.calls kj41 t901 t902 t903 _ _ t904 t866 t867 t868 _ _ t869 true _ ?side1 ?side2 ?side3 ?side4 A88.out).mono ?_); (case side1 => refine (Kd.R_reads' (e := 5) (base := w.heap.size) (ok := fun k_ => (((True ∧ some k_ ≠ (.slice Ao14 t869.length co14 : Value).ownBlock) ∧ some k_ ≠ (.slice Ao21 t881.length co21 : Value).ownBlock) ∧ some k_ ≠ (.slice Ao81 t898.length co81 : Value).ownBlock)) (n := t904.length) (c := co87) ?_).2.2; exact (by (with_reducible repeat (first | apply Kd.R_alloc | apply Kd.R_drewN | apply Kd.R_drew)); exact (Kd.R_mono (Kd.R_far (p := ⟨gb909, 3, none⟩) (Kd.R_far (p := ⟨gb909, 2, none⟩) (Kd.R_far (p := ⟨gb909, 1, none⟩) (Kd.R_far (p := ⟨gb909, 0, none⟩) (Kd.R_types HO906.out BK909.out (by decide)) (fun _ hk => hk.2) (.int .i64 t901)) (fun _ hk => hk.2) (.int .i64 t902)) (fun _ hk => hk.2) (.int .i64 t903)) (fun _ hk => hk.2) (.slice Ao87 t904.length co87)) (fun _ h_ => h_.1)))); (case side2 => exact (Kd.R_reads' HO906.out).2.1); (case side3 => refine (Kd.R_reads' (e := 5) (base := w.heap.size) (ok := fun k_ => ((some k_ ≠ (.slice Ao21 t881.length co21 : Value).ownBlock ∧ some k_ ≠ (.slice Ao81 t898.length co81 : Value).ownBlock) ∧ some k_ ≠ (.slice Ao87 t904.length co87 : Value).ownBlock)) (n := t869.length) (c := co14) ?_).2.2; exact (by (with_reducible repeat (first | apply Kd.R_alloc | apply Kd.R_drewN | apply Kd.R_drew)); exact (Kd.R_mono (Kd.R_far (p := ⟨gb909, 3, none⟩) (Kd.R_far (p := ⟨gb909, 2, none⟩) (Kd.R_far (p := ⟨gb909, 1, none⟩) (Kd.R_far (p := ⟨gb909, 0, none⟩) (Kd.R_types HO_875003.out BK909.out (by decide)) (fun _ hk => hk.2) (.int .i64 t901)) (fun _ hk => hk.2) (.int .i64 t902)) (fun _ hk => hk.2) (.int .i64 t903)) (fun _ hk => hk.2) (.slice Ao87 t904.length co87)) (fun _ h_ => h_.1)))); (case side4 => exact (Kd.R_reads' HO_875003.out).2.1); rintro e w102 ⟨rfl, hb⟩; refine ⟨_, rfl, ?_⟩; have n0_ := Aside0.mk (Kd.R_below (by (with_reducible repeat (first | apply Kd.R_alloc | apply Kd.R_drewN | apply Kd.R_drew)); exact (Kd.R_mono (Kd.R_far (p := ⟨gb909, 3, none⟩) (Kd.R_far (p := ⟨gb909, 2, none⟩) (Kd.R_far (p := ⟨gb909, 1, none⟩) (Kd.R_far (p := ⟨gb909, 0, none⟩) (Kd.R_types HO_875003.out BK909.out (by decide)) (fun _ hk => hk.2) (.int .i64 t901)) (fun _ hk => hk.2) (.int .i64 t902)) (fun _ hk => hk.2) (.int .i64 t903)) (fun _ hk => hk.2) (.slice Ao87 t904.length co87)) (fun _ h_ => h_.1))) hb); have n1_ := Aside0.mk (Kd.R_below (by (with_reducible repeat (first | apply Kd.R_alloc | apply Kd.R_drewN | apply Kd.R_drew)); exact (Kd.R_mono (Kd.R_far (p := ⟨gb909, 3, none⟩) (Kd.R_far (p := ⟨gb909, 2, none⟩) (Kd.R_far (p := ⟨gb909, 1, none⟩) (Kd.R_far (p := ⟨gb909, 0, none⟩) (Kd.R_types HO_887003.out BK909.out (by decide)) (fun _ hk => hk.2) (.int .i64 t901)) (fun _ hk => hk.2) (.int .i64 t902)) (fun _ hk => hk.2) (.int .i64 t903)) (fun _ hk => hk.2) (.slice Ao87 t904.length co87)) (fun _ h_ => h_.1))) hb); have n2_ := Aside0.mk (Kd.R_below (by (with_reducible repeat (first | apply Kd.R_alloc | apply Kd.R_drewN | apply Kd.R_drew)); exact (Kd.R_mono (Kd.R_far (p := ⟨gb909, 3, none⟩) (Kd.R_far (p := ⟨gb909, 2, none⟩) (Kd.R_far (p := ⟨gb909, 1, none⟩) (Kd.R_far (p := ⟨gb909, 0, none⟩) (Kd.R_types HO900.out BK909.out (by decide)) (fun _ hk => hk.2) (.int .i64 t901)) (fun _ hk => hk.2) (.int .i64 t902)) (fun _ hk => hk.2) (.int .i64 t903)) (fun _ hk => hk.2) (.slice Ao87 t904.length co87)) (fun _ h_ => h_.1))) hb); have n3_ := Aside0.mk (Kd.R_below (by (with_reducible repeat (first | apply Kd.R_alloc | apply Kd.R_drewN | apply Kd.R_drew)); exact (Kd.R_mono (Kd.R_far (p := ⟨gb909, 3, none⟩) (Kd.R_far (p := ⟨gb909, 2, none⟩) (Kd.R_far (p := ⟨gb909, 1, none⟩) (Kd.R_far (p := ⟨gb909, 0, none⟩) (Kd.R_types HO906.out BK909.out (by decide)) (fun _ hk => hk.2) (.int .i64 t901)) (fun _ hk => hk.2) (.int .i64 t902)) (fun _ hk => hk.2) (.int .i64 t903)) (fun _ hk => hk.2) (.slice Ao87 t904.length co87)) (fun _ h_ => h_.1))) hb); have n4_ := Aside0.mk (blk_below (g := gb874) (o := .cells #[.int .i64 t866, .int .i64 t867, .int .i64 t868, .slice Ao14 t869.length co14] 63 (0, 0)) (by (with_reducible repeat (first | refine blk_drewN ?_ _ | refine blk_drew ?_ | refine blk_alloc ?_ _)); refine blk_far ?_ NB874_909.out _; (with_reducible repeat (first | refine blk_drewN ?_ _ | refine blk_drew ?_ | refine blk_alloc ?_ _)); refine blk_far ?_ NB874_909.out _; (with_reducible repeat (first | refine blk_drewN ?_ _ | refine blk_drew ?_ | refine blk_alloc ?_ _)); refine blk_far ?_ NB874_909.out _; (with_reducible repeat (first | refine blk_drewN ?_ _ | refine blk_drew ?_ | refine blk_alloc ?_ _)); refine blk_far ?_ NB874_909.out _; (with_reducible repeat (first | refine blk_drewN ?_ _ | refine blk_drew ?_ | refine blk_alloc ?_ _)); exact BK874.out) hb); have n5_ := Aside0.mk (blk_below (g := gb886) (o := .cells #[.int .i64 t878, .int .i64 t879, .int .i64 t880, .slice Ao21 t881.length co21] 63 (0, 0)) (by (with_reducible repeat (first | refine blk_drewN ?_ _ | refine blk_drew ?_ | refine blk_alloc ?_ _)); refine blk_far ?_ NB886_909.out _; (with_reducible repeat (first | refine blk_drewN ?_ _ | refine blk_drew ?_ | refine blk_alloc ?_ _)); refine blk_far ?_ NB886_909.out _; (with_reducible repeat (first | refine blk_drewN ?_ _ | refine blk_drew ?_ | refine blk_alloc ?_ _)); refine blk_far ?_ NB886_909.out _; (with_reducible repeat (first | refine blk_drewN ?_ _ | refine blk_drew ?_ | refine blk_alloc ?_ _)); refine blk_far ?_ NB886_909.out _; (with_reducible repeat (first | refine blk_drewN ?_ _ | refine blk_drew ?_ | refine blk_alloc ?_ _)); exact BK886.out) hb); have n6_ := Aside0.mk (blk_below (g := gb909) (o := .cells #[.int .i64 t901, .int .i64 t902, .int .i64 t903, .slice Ao87 t904.length co87] 63 (0, 0)) (by (with_reducible repeat (first | refine blk_drewN ?_ _ | refine blk_drew ?_ | refine blk_alloc ?_ _)); refine blk_put (cs := #[.int .i64 t901, .int .i64 t902, .int .i64 t903, .slice none 0 0]) ?_ 3 _ rfl; (with_reducible repeat (first | refine blk_drewN ?_ _ | refine blk_drew ?_ | refine blk_alloc ?_ _)); refine blk_put (cs := #[.int .i64 t901, .int .i64 t902, .int .i64 0, .slice none 0 0]) ?_ 2 _ rfl; (with_reducible repeat (first | refine blk_drewN ?_ _ | refine blk_drew ?_ | refine blk_alloc ?_ _)); refine blk_put (cs := #[.int .i64 t901, .int .i64 0, .int .i64 0, .slice none 0 0]) ?_ 1 _ rfl; (with_reducible repeat (first | refine blk_drewN ?_ _ | refine blk_drew ?_ | refine blk_alloc ?_ _)); refine blk_put (cs := #[.int .i64 0, .int .i64 0, .int .i64 0, .slice none 0 0]) ?_ 0 _ rfl; (with_reducible repeat (first | refine blk_drewN ?_ _ | refine blk_drew ?_ | refine blk_alloc ?_ _)); exact BK909.out) hb); have n7_ := Aside0.mk (below_step (by repeat (first | (with_reducible first | exact HB.out | apply below_alloc | apply pw_below_drewN | apply below_drew1 | refine below_set ?_ GE874.out | refine below_set ?_ GE886.out | refine below_set ?_ GE909.out) | exact HB.out)) hb); clear HO_875003; clear HO_887003; clear HO900; clear HO906; clear BK874; clear BK886; clear BK909; clear HB; have HO_875003 := n0_; have HO_887003 := n1_; have HO900 := n2_; have HO906 := n3_; have BK874 := n4_; have BK886 := n5_; have BK909 := n6_; have HB := n7_; clear n0_ n1_ n2_ n3_ n4_ n5_ n6_ n7_; (try clear hb); (try clear hb2); (try clear hk); (try clear hi)))
              go_meet
              case rel => exact ⟨_, (true), (by first | rfl | (simp; done) | (simp [*]; done)), H', ⟨by have := HJ7.out; have := HJ41.out; first | omega | exact Nat.le_refl _⟩, ⟨by (with_reducible repeat (first | apply Kd.R_alloc | apply Kd.R_drewN | apply Kd.R_drew)); exact Kd.R_mono HO_875003.out (fun _ hk => ⟨(by first | exact hk.1.1 | (have hq_ := hk; simp only [ne_eq] at hq_ ⊢; simp only [hq_, not_false_eq_true, and_self])), (by first | exact hk.2 | (have hq_ := hk; simp only [ne_eq] at hq_ ⊢; simp only [hq_, not_false_eq_true, and_self]))⟩)⟩, ⟨by (with_reducible repeat (first | apply Kd.R_alloc | apply Kd.R_drewN | apply Kd.R_drew)); exact Kd.R_mono HO_887003.out (fun _ hk => ⟨(by first | exact hk.1.1 | (have hq_ := hk; simp only [ne_eq] at hq_ ⊢; simp only [hq_, not_false_eq_true, and_self])), (by first | exact hk.2 | (have hq_ := hk; simp only [ne_eq] at hq_ ⊢; simp only [hq_, not_false_eq_true, and_self]))⟩)⟩, ⟨by (with_reducible repeat (first | apply Kd.R_alloc | apply Kd.R_drewN | apply Kd.R_drew)); exact Kd.R_mono HO906.out (fun _ hk => ⟨(by first | exact hk.1.1.2 | (have hq_ := hk; simp only [ne_eq] at hq_ ⊢; simp only [hq_, not_false_eq_true, and_self])), (by first | exact hk.1.2 | (have hq_ := hk; simp only [ne_eq] at hq_ ⊢; simp only [hq_, not_false_eq_true, and_self]))⟩)⟩, ⟨by (with_reducible repeat (first | refine blk_drewN ?_ _ | refine blk_drew ?_ | refine blk_alloc ?_ _)); exact BK874.out⟩, ⟨by (with_reducible repeat (first | refine blk_drewN ?_ _ | refine blk_drew ?_ | refine blk_alloc ?_ _)); exact BK886.out⟩, ⟨by (with_reducible repeat (first | refine blk_drewN ?_ _ | refine blk_drew ?_ | refine blk_alloc ?_ _)); exact BK909.out⟩, ⟨by repeat (first | (with_reducible first | exact HB.out | apply below_alloc | apply pw_below_drewN | apply below_drew1 | refine below_set ?_ GE874.out | refine below_set ?_ GE886.out | refine below_set ?_ GE909.out) | exact HB.out)⟩⟩
            ·
             replace c89 := Bool.eq_false_iff.mpr c89
             subst c89
             have H1 : (laws_FnExactGetFrame.j2 kj41 t895 true t878 t879 t880 t896) = some r := by rw [if_neg (show ¬ (false = true) by decide)] at H; exact H
             clear H
             have H := H1
             clear H1
             have H' := Aside0.mk H
             clear H
             have hnb103 := NB909_874.out
             have hnc103 := NB874_909.out
             have hnb104 := NB909_886.out
             have hnc104 := NB886_909.out
             have hcz105_0 : w83.cell? ⟨gb909, 0, none⟩ = some (.int .i64 0) := (blk_cell BK909.out 0).trans rfl
             have hcz105_1 : w83.cell? ⟨gb909, 1, none⟩ = some (.int .i64 0) := (blk_cell BK909.out 1).trans rfl
             have hcz105_2 : w83.cell? ⟨gb909, 2, none⟩ = some (.int .i64 0) := (blk_cell BK909.out 2).trans rfl
             have hcz105_3 : w83.cell? ⟨gb909, 3, none⟩ = some (.slice none 0 0) := (blk_cell BK909.out 3).trans rfl
             have hfz105_0 := blk_frozen BK909.out 0
             have hfz105_1 := blk_frozen BK909.out 1
             have hfz105_2 := blk_frozen BK909.out 2
             have hfz105_3 := blk_frozen BK909.out 3
             have hnb106 := NB874_886.out
             have hnc106 := NB886_874.out
             have hcz107_0 : w83.cell? ⟨gb874, 0, none⟩ = some (.int .i64 t866) := (blk_cell BK874.out 0).trans rfl
             have hcz107_1 : w83.cell? ⟨gb874, 1, none⟩ = some (.int .i64 t867) := (blk_cell BK874.out 1).trans rfl
             have hcz107_2 : w83.cell? ⟨gb874, 2, none⟩ = some (.int .i64 t868) := (blk_cell BK874.out 2).trans rfl
             have hcz107_3 : w83.cell? ⟨gb874, 3, none⟩ = some (.slice Ao14 t869.length co14) := (blk_cell BK874.out 3).trans rfl
             have hfz107_0 := blk_frozen BK874.out 0
             have hfz107_1 := blk_frozen BK874.out 1
             have hfz107_2 := blk_frozen BK874.out 2
             have hfz107_3 := blk_frozen BK874.out 3
             go_wp2_with (first | ((with_reducible refine gate_callee (f := 49) rfl ?_); refine goesL_ (some 99) rfl rfl Try.func49 (by kernel_rfl) rfl #[.agg #[.int .i64 t901, .int .i64 t902, .int .i64 t903, .slice Ao87 t904.length co87], .agg #[.int .i64 t866, .int .i64 t867, .int .i64 t868, .slice Ao14 t869.length co14]] rfl (by (try simp only [List.map_toArray, List.map_cons, List.map_nil]); first | done | rfl | (simp only [List.length_drop, List.length_take]; rfl)) ?_; (with_reducible refine (laws_eqFrame.calls kj41 t901 t902 t903 _ _ t904 t866 t867 t868 _ _ t869 false _ ?side1 ?side2 ?side3 ?side4 A88.out).mono ?_); (case side1 => refine (Kd.R_reads' (e := 5) (base := w.heap.size) (ok := fun k_ => (((True ∧ some k_ ≠ (.slice Ao14 t869.length co14 : Value).ownBlock) ∧ some k_ ≠ (.slice Ao21 t881.length co21 : Value).ownBlock) ∧ some k_ ≠ (.slice Ao81 t898.length co81 : Value).ownBlock)) (n := t904.length) (c := co87) ?_).2.2; exact (by (with_reducible repeat (first | apply Kd.R_alloc | apply Kd.R_drewN | apply Kd.R_drew)); exact (Kd.R_mono (Kd.R_far (p := ⟨gb909, 3, none⟩) (Kd.R_far (p := ⟨gb909, 2, none⟩) (Kd.R_far (p := ⟨gb909, 1, none⟩) (Kd.R_far (p := ⟨gb909, 0, none⟩) (Kd.R_types HO906.out BK909.out (by decide)) (fun _ hk => hk.2) (.int .i64 t901)) (fun _ hk => hk.2) (.int .i64 t902)) (fun _ hk => hk.2) (.int .i64 t903)) (fun _ hk => hk.2) (.slice Ao87 t904.length co87)) (fun _ h_ => h_.1)))); (case side2 => exact (Kd.R_reads' HO906.out).2.1); (case side3 => refine (Kd.R_reads' (e := 5) (base := w.heap.size) (ok := fun k_ => ((some k_ ≠ (.slice Ao21 t881.length co21 : Value).ownBlock ∧ some k_ ≠ (.slice Ao81 t898.length co81 : Value).ownBlock) ∧ some k_ ≠ (.slice Ao87 t904.length co87 : Value).ownBlock)) (n := t869.length) (c := co14) ?_).2.2; exact (by (with_reducible repeat (first | apply Kd.R_alloc | apply Kd.R_drewN | apply Kd.R_drew)); exact (Kd.R_mono (Kd.R_far (p := ⟨gb909, 3, none⟩) (Kd.R_far (p := ⟨gb909, 2, none⟩) (Kd.R_far (p := ⟨gb909, 1, none⟩) (Kd.R_far (p := ⟨gb909, 0, none⟩) (Kd.R_types HO_875003.out BK909.out (by decide)) (fun _ hk => hk.2) (.int .i64 t901)) (fun _ hk => hk.2) (.int .i64 t902)) (fun _ hk => hk.2) (.int .i64 t903)) (fun _ hk => hk.2) (.slice Ao87 t904.length co87)) (fun _ h_ => h_.1)))); (case side4 => exact (Kd.R_reads' HO_875003.out).2.1); rintro e w108 ⟨rfl, hb⟩; refine ⟨_, rfl, ?_⟩; have n0_ := Aside0.mk (Kd.R_below (by (with_reducible repeat (first | apply Kd.R_alloc | apply Kd.R_drewN | apply Kd.R_drew)); exact (Kd.R_mono (Kd.R_far (p := ⟨gb909, 3, none⟩) (Kd.R_far (p := ⟨gb909, 2, none⟩) (Kd.R_far (p := ⟨gb909, 1, none⟩) (Kd.R_far (p := ⟨gb909, 0, none⟩) (Kd.R_types HO_875003.out BK909.out (by decide)) (fun _ hk => hk.2) (.int .i64 t901)) (fun _ hk => hk.2) (.int .i64 t902)) (fun _ hk => hk.2) (.int .i64 t903)) (fun _ hk => hk.2) (.slice Ao87 t904.length co87)) (fun _ h_ => h_.1))) hb); have n1_ := Aside0.mk (Kd.R_below (by (with_reducible repeat (first | apply Kd.R_alloc | apply Kd.R_drewN | apply Kd.R_drew)); exact (Kd.R_mono (Kd.R_far (p := ⟨gb909, 3, none⟩) (Kd.R_far (p := ⟨gb909, 2, none⟩) (Kd.R_far (p := ⟨gb909, 1, none⟩) (Kd.R_far (p := ⟨gb909, 0, none⟩) (Kd.R_types HO_887003.out BK909.out (by decide)) (fun _ hk => hk.2) (.int .i64 t901)) (fun _ hk => hk.2) (.int .i64 t902)) (fun _ hk => hk.2) (.int .i64 t903)) (fun _ hk => hk.2) (.slice Ao87 t904.length co87)) (fun _ h_ => h_.1))) hb); have n2_ := Aside0.mk (Kd.R_below (by (with_reducible repeat (first | apply Kd.R_alloc | apply Kd.R_drewN | apply Kd.R_drew)); exact (Kd.R_mono (Kd.R_far (p := ⟨gb909, 3, none⟩) (Kd.R_far (p := ⟨gb909, 2, none⟩) (Kd.R_far (p := ⟨gb909, 1, none⟩) (Kd.R_far (p := ⟨gb909, 0, none⟩) (Kd.R_types HO900.out BK909.out (by decide)) (fun _ hk => hk.2) (.int .i64 t901)) (fun _ hk => hk.2) (.int .i64 t902)) (fun _ hk => hk.2) (.int .i64 t903)) (fun _ hk => hk.2) (.slice Ao87 t904.length co87)) (fun _ h_ => h_.1))) hb); have n3_ := Aside0.mk (Kd.R_below (by (with_reducible repeat (first | apply Kd.R_alloc | apply Kd.R_drewN | apply Kd.R_drew)); exact (Kd.R_mono (Kd.R_far (p := ⟨gb909, 3, none⟩) (Kd.R_far (p := ⟨gb909, 2, none⟩) (Kd.R_far (p := ⟨gb909, 1, none⟩) (Kd.R_far (p := ⟨gb909, 0, none⟩) (Kd.R_types HO906.out BK909.out (by decide)) (fun _ hk => hk.2) (.int .i64 t901)) (fun _ hk => hk.2) (.int .i64 t902)) (fun _ hk => hk.2) (.int .i64 t903)) (fun _ hk => hk.2) (.slice Ao87 t904.length co87)) (fun _ h_ => h_.1))) hb); have n4_ := Aside0.mk (blk_below (g := gb874) (o := .cells #[.int .i64 t866, .int .i64 t867, .int .i64 t868, .slice Ao14 t869.length co14] 63 (0, 0)) (by (with_reducible repeat (first | refine blk_drewN ?_ _ | refine blk_drew ?_ | refine blk_alloc ?_ _)); refine blk_far ?_ NB874_909.out _; (with_reducible repeat (first | refine blk_drewN ?_ _ | refine blk_drew ?_ | refine blk_alloc ?_ _)); refine blk_far ?_ NB874_909.out _; (with_reducible repeat (first | refine blk_drewN ?_ _ | refine blk_drew ?_ | refine blk_alloc ?_ _)); refine blk_far ?_ NB874_909.out _; (with_reducible repeat (first | refine blk_drewN ?_ _ | refine blk_drew ?_ | refine blk_alloc ?_ _)); refine blk_far ?_ NB874_909.out _; (with_reducible repeat (first | refine blk_drewN ?_ _ | refine blk_drew ?_ | refine blk_alloc ?_ _)); exact BK874.out) hb); have n5_ := Aside0.mk (blk_below (g := gb886) (o := .cells #[.int .i64 t878, .int .i64 t879, .int .i64 t880, .slice Ao21 t881.length co21] 63 (0, 0)) (by (with_reducible repeat (first | refine blk_drewN ?_ _ | refine blk_drew ?_ | refine blk_alloc ?_ _)); refine blk_far ?_ NB886_909.out _; (with_reducible repeat (first | refine blk_drewN ?_ _ | refine blk_drew ?_ | refine blk_alloc ?_ _)); refine blk_far ?_ NB886_909.out _; (with_reducible repeat (first | refine blk_drewN ?_ _ | refine blk_drew ?_ | refine blk_alloc ?_ _)); refine blk_far ?_ NB886_909.out _; (with_reducible repeat (first | refine blk_drewN ?_ _ | refine blk_drew ?_ | refine blk_alloc ?_ _)); refine blk_far ?_ NB886_909.out _; (with_reducible repeat (first | refine blk_drewN ?_ _ | refine blk_drew ?_ | refine blk_alloc ?_ _)); exact BK886.out) hb); have n6_ := Aside0.mk (blk_below (g := gb909) (o := .cells #[.int .i64 t901, .int .i64 t902, .int .i64 t903, .slice Ao87 t904.length co87] 63 (0, 0)) (by (with_reducible repeat (first | refine blk_drewN ?_ _ | refine blk_drew ?_ | refine blk_alloc ?_ _)); refine blk_put (cs := #[.int .i64 t901, .int .i64 t902, .int .i64 t903, .slice none 0 0]) ?_ 3 _ rfl; (with_reducible repeat (first | refine blk_drewN ?_ _ | refine blk_drew ?_ | refine blk_alloc ?_ _)); refine blk_put (cs := #[.int .i64 t901, .int .i64 t902, .int .i64 0, .slice none 0 0]) ?_ 2 _ rfl; (with_reducible repeat (first | refine blk_drewN ?_ _ | refine blk_drew ?_ | refine blk_alloc ?_ _)); refine blk_put (cs := #[.int .i64 t901, .int .i64 0, .int .i64 0, .slice none 0 0]) ?_ 1 _ rfl; (with_reducible repeat (first | refine blk_drewN ?_ _ | refine blk_drew ?_ | refine blk_alloc ?_ _)); refine blk_put (cs := #[.int .i64 0, .int .i64 0, .int .i64 0, .slice none 0 0]) ?_ 0 _ rfl; (with_reducible repeat (first | refine blk_drewN ?_ _ | refine blk_drew ?_ | refine blk_alloc ?_ _)); exact BK909.out) hb); have n7_ := Aside0.mk (below_step (by repeat (first | (with_reducible first | exact HB.out | apply below_alloc | apply pw_below_drewN | apply below_drew1 | refine below_set ?_ GE874.out | refine below_set ?_ GE886.out | refine below_set ?_ GE909.out) | exact HB.out)) hb); clear HO_875003; clear HO_887003; clear HO900; clear HO906; clear BK874; clear BK886; clear BK909; clear HB; have HO_875003 := n0_; have HO_887003 := n1_; have HO900 := n2_; have HO906 := n3_; have BK874 := n4_; have BK886 := n5_; have BK909 := n6_; have HB := n7_; clear n0_ n1_ n2_ n3_ n4_ n5_ n6_ n7_; (try clear hb); (try clear hb2); (try clear hk); (try clear hi)))
             go_meet
             case rel => exact ⟨_, (true), (by first | rfl | (simp; done) | (simp [*]; done)), H', ⟨by have := HJ7.out; have := HJ41.out; first | omega | exact Nat.le_refl _⟩, ⟨by (with_reducible repeat (first | apply Kd.R_alloc | apply Kd.R_drewN | apply Kd.R_drew)); exact Kd.R_mono HO_875003.out (fun _ hk => ⟨(by first | exact hk.1.1 | (have hq_ := hk; simp only [ne_eq] at hq_ ⊢; simp only [hq_, not_false_eq_true, and_self])), (by first | exact hk.2 | (have hq_ := hk; simp only [ne_eq] at hq_ ⊢; simp only [hq_, not_false_eq_true, and_self]))⟩)⟩, ⟨by (with_reducible repeat (first | apply Kd.R_alloc | apply Kd.R_drewN | apply Kd.R_drew)); exact Kd.R_mono HO_887003.out (fun _ hk => ⟨(by first | exact hk.1.1 | (have hq_ := hk; simp only [ne_eq] at hq_ ⊢; simp only [hq_, not_false_eq_true, and_self])), (by first | exact hk.2 | (have hq_ := hk; simp only [ne_eq] at hq_ ⊢; simp only [hq_, not_false_eq_true, and_self]))⟩)⟩, ⟨by (with_reducible repeat (first | apply Kd.R_alloc | apply Kd.R_drewN | apply Kd.R_drew)); exact Kd.R_mono HO906.out (fun _ hk => ⟨(by first | exact hk.1.1.2 | (have hq_ := hk; simp only [ne_eq] at hq_ ⊢; simp only [hq_, not_false_eq_true, and_self])), (by first | exact hk.1.2 | (have hq_ := hk; simp only [ne_eq] at hq_ ⊢; simp only [hq_, not_false_eq_true, and_self]))⟩)⟩, ⟨by (with_reducible repeat (first | refine blk_drewN ?_ _ | refine blk_drew ?_ | refine blk_alloc ?_ _)); exact BK874.out⟩, ⟨by (with_reducible repeat (first | refine blk_drewN ?_ _ | refine blk_drew ?_ | refine blk_alloc ?_ _)); exact BK886.out⟩, ⟨by (with_reducible repeat (first | refine blk_drewN ?_ _ | refine blk_drew ?_ | refine blk_alloc ?_ _)); exact BK909.out⟩, ⟨by repeat (first | (with_reducible first | exact HB.out | apply below_alloc | apply pw_below_drewN | apply below_drew1 | refine below_set ?_ GE874.out | refine below_set ?_ GE886.out | refine below_set ?_ GE909.out) | exact HB.out)⟩⟩
           case rest =>
            clear HC74
            try clear c1
            try clear c2
            try clear p2
            try clear c3
            try clear c3b0
            try clear c3b1
            try clear c4
            try clear c5
            try clear c6
            try clear c7
            try clear c8
            try clear c9
            try clear c10
            try clear c12
            try clear c16
            try clear c18
            try clear c19
            try clear c23
            try clear c24
            try clear c24b0
            try clear c24b1
            try clear c25
            try clear c29
            try clear c33
            try clear c37
            try clear c40
            try clear c46
            try clear c46b0
            try clear c48
            try clear c49
            try clear c49b0
            try clear c49b1
            try clear c50
            try clear c53
            try clear c54
            try clear c55
            try clear c58
            try clear c62
            try clear c65
            try clear c65b0
            try clear c66
            try clear c71
            try clear c71b0
            try clear c71b1
            try clear c75
            try clear c84
            try clear c85
            try clear c89
            try clear c90
            try clear c90b0
            try clear c90b1
            try clear c91
            try clear c92
            try clear c94
            try clear c97
            try clear c98
            try clear c100
            try clear c103
            try clear c104
            try clear c106
            try clear hcz101_0
            try clear hcz101_1
            try clear hcz101_2
            try clear hcz101_3
            try clear hcz105_0
            try clear hcz105_1
            try clear hcz105_2
            try clear hcz105_3
            try clear hcz107_0
            try clear hcz107_1
            try clear hcz107_2
            try clear hcz107_3
            try clear hcz13_0
            try clear hcz13_1
            try clear hcz13_2
            try clear hcz13_3
            try clear hcz20_0
            try clear hcz20_1
            try clear hcz20_2
            try clear hcz20_3
            try clear hcz26_0
            try clear hcz26_1
            try clear hcz26_2
            try clear hcz26_3
            try clear hcz27_0
            try clear hcz27_1
            try clear hcz27_2
            try clear hcz27_3
            try clear hcz30_0
            try clear hcz30_1
            try clear hcz30_2
            try clear hcz30_3
            try clear hcz31_0
            try clear hcz31_1
            try clear hcz31_2
            try clear hcz31_3
            try clear hcz34_0
            try clear hcz34_1
            try clear hcz34_2
            try clear hcz34_3
            try clear hcz35_0
            try clear hcz35_1
            try clear hcz35_2
            try clear hcz35_3
            try clear hcz51_0
            try clear hcz51_1
            try clear hcz51_2
            try clear hcz51_3
            try clear hcz52_0
            try clear hcz52_1
            try clear hcz52_2
            try clear hcz52_3
            try clear hcz55_0
            try clear hcz55_1
            try clear hcz55_2
            try clear hcz55_3
            try clear hcz56_0
            try clear hcz56_1
            try clear hcz56_2
            try clear hcz56_3
            try clear hcz59_0
            try clear hcz59_1
            try clear hcz59_2
            try clear hcz59_3
            try clear hcz60_0
            try clear hcz60_1
            try clear hcz60_2
            try clear hcz60_3
            try clear hcz67_0
            try clear hcz67_1
            try clear hcz67_2
            try clear hcz67_3
            try clear hcz69_0
            try clear hcz69_1
            try clear hcz69_2
            try clear hcz69_3
            try clear hcz76_0
            try clear hcz76_1
            try clear hcz76_2
            try clear hcz76_3
            try clear hcz78_0
            try clear hcz78_1
            try clear hcz78_2
            try clear hcz78_3
            try clear hcz86_0
            try clear hcz86_1
            try clear hcz86_2
            try clear hcz86_3
            try clear hcz93_0
            try clear hcz93_1
            try clear hcz93_2
            try clear hcz93_3
            try clear hcz95_0
            try clear hcz95_1
            try clear hcz95_2
            try clear hcz95_3
            try clear hcz99_0
            try clear hcz99_1
            try clear hcz99_2
            try clear hcz99_3
            try clear hfz101_0
            try clear hfz101_1
            try clear hfz101_2
            try clear hfz101_3
            try clear hfz105_0
            try clear hfz105_1
            try clear hfz105_2
            try clear hfz105_3
            try clear hfz107_0
            try clear hfz107_1
            try clear hfz107_2
            try clear hfz107_3
            try clear hfz13_0
            try clear hfz13_1
            try clear hfz13_2
            try clear hfz13_3
            try clear hfz20_0
            try clear hfz20_1
            try clear hfz20_2
            try clear hfz20_3
            try clear hfz26_0
            try clear hfz26_1
            try clear hfz26_2
            try clear hfz26_3
            try clear hfz27_0
            try clear hfz27_1
            try clear hfz27_2
            try clear hfz27_3
            try clear hfz30_0
            try clear hfz30_1
            try clear hfz30_2
            try clear hfz30_3
            try clear hfz31_0
            try clear hfz31_1
            try clear hfz31_2
            try clear hfz31_3
            try clear hfz34_0
            try clear hfz34_1
            try clear hfz34_2
            try clear hfz34_3
            try clear hfz35_0
            try clear hfz35_1
            try clear hfz35_2
            try clear hfz35_3
            try clear hfz51_0
            try clear hfz51_1
            try clear hfz51_2
            try clear hfz51_3
            try clear hfz52_0
            try clear hfz52_1
            try clear hfz52_2
            try clear hfz52_3
            try clear hfz55_0
            try clear hfz55_1
            try clear hfz55_2
            try clear hfz55_3
            try clear hfz56_0
            try clear hfz56_1
            try clear hfz56_2
            try clear hfz56_3
            try clear hfz59_0
            try clear hfz59_1
            try clear hfz59_2
            try clear hfz59_3
            try clear hfz60_0
            try clear hfz60_1
            try clear hfz60_2
            try clear hfz60_3
            try clear hfz67_0
            try clear hfz67_1
            try clear hfz67_2
            try clear hfz67_3
            try clear hfz69_0
            try clear hfz69_1
            try clear hfz69_2
            try clear hfz69_3
            try clear hfz76_0
            try clear hfz76_1
            try clear hfz76_2
            try clear hfz76_3
            try clear hfz78_0
            try clear hfz78_1
            try clear hfz78_2
            try clear hfz78_3
            try clear hfz86_0
            try clear hfz86_1
            try clear hfz86_2
            try clear hfz86_3
            try clear hfz93_0
            try clear hfz93_1
            try clear hfz93_2
            try clear hfz93_3
            try clear hfz95_0
            try clear hfz95_1
            try clear hfz95_2
            try clear hfz95_3
            try clear hfz99_0
            try clear hfz99_1
            try clear hfz99_2
            try clear hfz99_3
            try clear p2
            obtain ⟨kq, x110_73, rfl, HA, HJ73, HO_875003, HO_887003, HO_910003, BK874, BK886, BK909, HB⟩ := hcut
            have hl887003_73 := (Kd.R_reads' HO_887003.out).1
            rw [hl887003_73] at HO_887003
            (try simp only [hl887003_73])
            (try simp only [hl887003_73] at BK874)
            (try simp only [hl887003_73] at BK886)
            (try simp only [hl887003_73] at BK909)
            (try simp only [hl887003_73] at HO_875003)
            (try simp only [hl887003_73] at HO_910003)
            cases kq with
            | zero => exact absurd HA.out (by simp [laws_FnExactGetFrame.j2])
            | succ kj73 =>
             have H := HA.out
             clear HA
             simp only [laws_FnExactGetFrame.j2] at H
             by_cases c109 : x110_73 = true
             ·
              subst c109
              have H1 : (some false) = some r := by rw [if_pos rfl] at H; exact H
              clear H
              have H := H1
              clear H1
              obtain rfl := Option.some.inj H
              go_wp2
              go_ret
              exact ⟨by first | rfl | (simp [errW_none, errW_some] <;> rfl) | (simp [*, errW_none, errW_some] <;> rfl), by repeat (first | (with_reducible first | exact HB.out | apply below_alloc | apply pw_below_drewN | apply below_drew1 | refine below_set ?_ GE874.out | refine below_set ?_ GE886.out | refine below_set ?_ GE909.out) | exact HB.out)⟩
             ·
              replace c109 := Bool.eq_false_iff.mpr c109
              subst c109
              have H1 : ((laws_heldFrame.f kj73 t878 t879 t880 t896 1).bind fun t911 => (if t911 < 0 then (some false) else (if t911 = t895 then (some true) else (some false)))) = some r := by rw [if_neg (show ¬ (false = true) by decide)] at H; exact H
              clear H
              have H := H1
              clear H1
              replace H := Option.bind_eq_some_iff.mp H
              obtain ⟨t911, A1100, H⟩ := H
              replace H : (if t911 < 0 then (some false) else (if t911 = t895 then (some true) else (some false))) = some r := H
              have A110 := Aside0.mk A1100
              clear A1100
              by_cases c111 : t911 < 0
              ·
               rw [if_pos c111] at H
               have c111b0 : decide (t911 < 0) = true := decide_eq_true c111
               clear c111
               obtain rfl := Option.some.inj H
               have hnb112 := NB886_874.out
               have hnc112 := NB874_886.out
               have hnb113 := NB886_909.out
               have hnc113 := NB909_886.out
               have hcz114_0 : wc.cell? ⟨gb886, 0, none⟩ = some (.int .i64 t878) := (blk_cell BK886.out 0).trans rfl
               have hcz114_1 : wc.cell? ⟨gb886, 1, none⟩ = some (.int .i64 t879) := (blk_cell BK886.out 1).trans rfl
               have hcz114_2 : wc.cell? ⟨gb886, 2, none⟩ = some (.int .i64 t880) := (blk_cell BK886.out 2).trans rfl
               have hcz114_3 : wc.cell? ⟨gb886, 3, none⟩ = some (.slice Ao21 t896.length co21) := (blk_cell BK886.out 3).trans rfl
               have hfz114_0 := blk_frozen BK886.out 0
               have hfz114_1 := blk_frozen BK886.out 1
               have hfz114_2 := blk_frozen BK886.out 2
               have hfz114_3 := blk_frozen BK886.out 3
               go_wp2_with (first | ((with_reducible refine gate_callee (f := 55) rfl ?_); refine goesL_ (some 113) rfl rfl Try.func55 (by kernel_rfl) rfl #[.agg #[.int .i64 t878, .int .i64 t879, .int .i64 t880, .slice Ao21 t896.length co21], .int .i64 1] rfl (by (try simp only [List.map_toArray, List.map_cons, List.map_nil]); first | done | rfl | (simp only [List.length_drop, List.length_take]; rfl)) ?_; (with_reducible refine (laws_heldFrame.calls kj73 t878 t879 t880 _ _ t896 1 t911 _ ?side1 ?side2 A110.out).mono ?_); (case side1 => repeat (first | exact (Kd.R_reads' HO_887003.out).2.2 | (with_reducible refine Kd.C_alloc ?_ _) | (with_reducible refine Kd.C_drewN ?_ _) | (with_reducible refine Kd.C_drew ?_))); (case side2 => exact (Kd.R_reads' HO_887003.out).2.1); rintro e w115 ⟨rfl, hb⟩; refine ⟨_, rfl, ?_⟩; have n0_ := Aside0.mk (Kd.R_below (by (with_reducible repeat (first | apply Kd.R_alloc | apply Kd.R_drewN | apply Kd.R_drew)); exact HO_875003.out) hb); have n1_ := Aside0.mk (Kd.R_below (by (with_reducible repeat (first | apply Kd.R_alloc | apply Kd.R_drewN | apply Kd.R_drew)); exact HO_887003.out) hb); have n2_ := Aside0.mk (Kd.R_below (by (with_reducible repeat (first | apply Kd.R_alloc | apply Kd.R_drewN | apply Kd.R_drew)); exact HO_910003.out) hb); have n3_ := Aside0.mk (blk_below (g := gb874) (o := .cells #[.int .i64 t866, .int .i64 t867, .int .i64 t868, .slice Ao14 t869.length co14] 63 (0, 0)) (by (with_reducible repeat (first | refine blk_drewN ?_ _ | refine blk_drew ?_ | refine blk_alloc ?_ _)); exact BK874.out) hb); have n4_ := Aside0.mk (blk_below (g := gb886) (o := .cells #[.int .i64 t878, .int .i64 t879, .int .i64 t880, .slice Ao21 t896.length co21] 63 (0, 0)) (by (with_reducible repeat (first | refine blk_drewN ?_ _ | refine blk_drew ?_ | refine blk_alloc ?_ _)); exact BK886.out) hb); have n5_ := Aside0.mk (blk_below (g := gb909) (o := .cells #[.int .i64 t901, .int .i64 t902, .int .i64 t903, .slice Ao87 t904.length co87] 63 (0, 0)) (by (with_reducible repeat (first | refine blk_drewN ?_ _ | refine blk_drew ?_ | refine blk_alloc ?_ _)); exact BK909.out) hb); have n6_ := Aside0.mk (below_step (by repeat (first | (with_reducible first | exact HB.out | apply below_alloc | apply pw_below_drewN | apply below_drew1 | refine below_set ?_ GE874.out | refine below_set ?_ GE886.out | refine below_set ?_ GE909.out) | exact HB.out)) hb); clear HO_875003; clear HO_887003; clear HO_910003; clear BK874; clear BK886; clear BK909; clear HB; have HO_875003 := n0_; have HO_887003 := n1_; have HO_910003 := n2_; have BK874 := n3_; have BK886 := n4_; have BK909 := n5_; have HB := n6_; clear n0_ n1_ n2_ n3_ n4_ n5_ n6_; (try clear hb); (try clear hb2); (try clear hk); (try clear hi)))
               go_ret
               exact ⟨by first | rfl | (simp [errW_none, errW_some] <;> rfl) | (simp [*, errW_none, errW_some] <;> rfl), by repeat (first | (with_reducible first | exact HB.out | apply below_alloc | apply pw_below_drewN | apply below_drew1 | refine below_set ?_ GE874.out | refine below_set ?_ GE886.out | refine below_set ?_ GE909.out) | exact HB.out)⟩
              ·
               rw [if_neg c111] at H
               have c111b0 : decide (t911 < 0) = false := decide_eq_false c111
               clear c111
               by_cases c116 : t911 = t895
               ·
                rw [if_pos c116] at H
                have c116b0 : (t911 == t895) = true := beq_iff_eq.mpr c116
                have c116b1 : (t911 != t895) = false := bne_eq_false_iff_eq.mpr c116
                clear c116
                obtain rfl := Option.some.inj H
                have hnb117 := NB886_874.out
                have hnc117 := NB874_886.out
                have hnb118 := NB886_909.out
                have hnc118 := NB909_886.out
                have hcz119_0 : wc.cell? ⟨gb886, 0, none⟩ = some (.int .i64 t878) := (blk_cell BK886.out 0).trans rfl
                have hcz119_1 : wc.cell? ⟨gb886, 1, none⟩ = some (.int .i64 t879) := (blk_cell BK886.out 1).trans rfl
                have hcz119_2 : wc.cell? ⟨gb886, 2, none⟩ = some (.int .i64 t880) := (blk_cell BK886.out 2).trans rfl
                have hcz119_3 : wc.cell? ⟨gb886, 3, none⟩ = some (.slice Ao21 t896.length co21) := (blk_cell BK886.out 3).trans rfl
                have hfz119_0 := blk_frozen BK886.out 0
                have hfz119_1 := blk_frozen BK886.out 1
                have hfz119_2 := blk_frozen BK886.out 2
                have hfz119_3 := blk_frozen BK886.out 3
                go_wp2_with (first | ((with_reducible refine gate_callee (f := 55) rfl ?_); refine goesL_ (some 113) rfl rfl Try.func55 (by kernel_rfl) rfl #[.agg #[.int .i64 t878, .int .i64 t879, .int .i64 t880, .slice Ao21 t896.length co21], .int .i64 1] rfl (by (try simp only [List.map_toArray, List.map_cons, List.map_nil]); first | done | rfl | (simp only [List.length_drop, List.length_take]; rfl)) ?_; (with_reducible refine (laws_heldFrame.calls kj73 t878 t879 t880 _ _ t896 1 t911 _ ?side1 ?side2 A110.out).mono ?_); (case side1 => repeat (first | exact (Kd.R_reads' HO_887003.out).2.2 | (with_reducible refine Kd.C_alloc ?_ _) | (with_reducible refine Kd.C_drewN ?_ _) | (with_reducible refine Kd.C_drew ?_))); (case side2 => exact (Kd.R_reads' HO_887003.out).2.1); rintro e w120 ⟨rfl, hb⟩; refine ⟨_, rfl, ?_⟩; have n0_ := Aside0.mk (Kd.R_below (by (with_reducible repeat (first | apply Kd.R_alloc | apply Kd.R_drewN | apply Kd.R_drew)); exact HO_875003.out) hb); have n1_ := Aside0.mk (Kd.R_below (by (with_reducible repeat (first | apply Kd.R_alloc | apply Kd.R_drewN | apply Kd.R_drew)); exact HO_887003.out) hb); have n2_ := Aside0.mk (Kd.R_below (by (with_reducible repeat (first | apply Kd.R_alloc | apply Kd.R_drewN | apply Kd.R_drew)); exact HO_910003.out) hb); have n3_ := Aside0.mk (blk_below (g := gb874) (o := .cells #[.int .i64 t866, .int .i64 t867, .int .i64 t868, .slice Ao14 t869.length co14] 63 (0, 0)) (by (with_reducible repeat (first | refine blk_drewN ?_ _ | refine blk_drew ?_ | refine blk_alloc ?_ _)); exact BK874.out) hb); have n4_ := Aside0.mk (blk_below (g := gb886) (o := .cells #[.int .i64 t878, .int .i64 t879, .int .i64 t880, .slice Ao21 t896.length co21] 63 (0, 0)) (by (with_reducible repeat (first | refine blk_drewN ?_ _ | refine blk_drew ?_ | refine blk_alloc ?_ _)); exact BK886.out) hb); have n5_ := Aside0.mk (blk_below (g := gb909) (o := .cells #[.int .i64 t901, .int .i64 t902, .int .i64 t903, .slice Ao87 t904.length co87] 63 (0, 0)) (by (with_reducible repeat (first | refine blk_drewN ?_ _ | refine blk_drew ?_ | refine blk_alloc ?_ _)); exact BK909.out) hb); have n6_ := Aside0.mk (below_step (by repeat (first | (with_reducible first | exact HB.out | apply below_alloc | apply pw_below_drewN | apply below_drew1 | refine below_set ?_ GE874.out | refine below_set ?_ GE886.out | refine below_set ?_ GE909.out) | exact HB.out)) hb); clear HO_875003; clear HO_887003; clear HO_910003; clear BK874; clear BK886; clear BK909; clear HB; have HO_875003 := n0_; have HO_887003 := n1_; have HO_910003 := n2_; have BK874 := n3_; have BK886 := n4_; have BK909 := n5_; have HB := n6_; clear n0_ n1_ n2_ n3_ n4_ n5_ n6_; (try clear hb); (try clear hb2); (try clear hk); (try clear hi)))
                go_ret
                exact ⟨by first | rfl | (simp [errW_none, errW_some] <;> rfl) | (simp [*, errW_none, errW_some] <;> rfl), by repeat (first | (with_reducible first | exact HB.out | apply below_alloc | apply pw_below_drewN | apply below_drew1 | refine below_set ?_ GE874.out | refine below_set ?_ GE886.out | refine below_set ?_ GE909.out) | exact HB.out)⟩
               ·
                rw [if_neg c116] at H
                have c116b0 : (t911 == t895) = false := beq_eq_false_iff_ne.mpr c116
                have c116b1 : (t911 != t895) = true := bne_iff_ne.mpr c116
                obtain rfl := Option.some.inj H
                have hnb121 := NB886_874.out
                have hnc121 := NB874_886.out
                have hnb122 := NB886_909.out
                have hnc122 := NB909_886.out
                have hcz123_0 : wc.cell? ⟨gb886, 0, none⟩ = some (.int .i64 t878) := (blk_cell BK886.out 0).trans rfl
                have hcz123_1 : wc.cell? ⟨gb886, 1, none⟩ = some (.int .i64 t879) := (blk_cell BK886.out 1).trans rfl
                have hcz123_2 : wc.cell? ⟨gb886, 2, none⟩ = some (.int .i64 t880) := (blk_cell BK886.out 2).trans rfl
                have hcz123_3 : wc.cell? ⟨gb886, 3, none⟩ = some (.slice Ao21 t896.length co21) := (blk_cell BK886.out 3).trans rfl
                have hfz123_0 := blk_frozen BK886.out 0
                have hfz123_1 := blk_frozen BK886.out 1
                have hfz123_2 := blk_frozen BK886.out 2
                have hfz123_3 := blk_frozen BK886.out 3
                go_wp2_with (first | ((with_reducible refine gate_callee (f := 55) rfl ?_); refine goesL_ (some 113) rfl rfl Try.func55 (by kernel_rfl) rfl #[.agg #[.int .i64 t878, .int .i64 t879, .int .i64 t880, .slice Ao21 t896.length co21], .int .i64 1] rfl (by (try simp only [List.map_toArray, List.map_cons, List.map_nil]); first | done | rfl | (simp only [List.length_drop, List.length_take]; rfl)) ?_; (with_reducible refine (laws_heldFrame.calls kj73 t878 t879 t880 _ _ t896 1 t911 _ ?side1 ?side2 A110.out).mono ?_); (case side1 => repeat (first | exact (Kd.R_reads' HO_887003.out).2.2 | (with_reducible refine Kd.C_alloc ?_ _) | (with_reducible refine Kd.C_drewN ?_ _) | (with_reducible refine Kd.C_drew ?_))); (case side2 => exact (Kd.R_reads' HO_887003.out).2.1); rintro e w124 ⟨rfl, hb⟩; refine ⟨_, rfl, ?_⟩; have n0_ := Aside0.mk (Kd.R_below (by (with_reducible repeat (first | apply Kd.R_alloc | apply Kd.R_drewN | apply Kd.R_drew)); exact HO_875003.out) hb); have n1_ := Aside0.mk (Kd.R_below (by (with_reducible repeat (first | apply Kd.R_alloc | apply Kd.R_drewN | apply Kd.R_drew)); exact HO_887003.out) hb); have n2_ := Aside0.mk (Kd.R_below (by (with_reducible repeat (first | apply Kd.R_alloc | apply Kd.R_drewN | apply Kd.R_drew)); exact HO_910003.out) hb); have n3_ := Aside0.mk (blk_below (g := gb874) (o := .cells #[.int .i64 t866, .int .i64 t867, .int .i64 t868, .slice Ao14 t869.length co14] 63 (0, 0)) (by (with_reducible repeat (first | refine blk_drewN ?_ _ | refine blk_drew ?_ | refine blk_alloc ?_ _)); exact BK874.out) hb); have n4_ := Aside0.mk (blk_below (g := gb886) (o := .cells #[.int .i64 t878, .int .i64 t879, .int .i64 t880, .slice Ao21 t896.length co21] 63 (0, 0)) (by (with_reducible repeat (first | refine blk_drewN ?_ _ | refine blk_drew ?_ | refine blk_alloc ?_ _)); exact BK886.out) hb); have n5_ := Aside0.mk (blk_below (g := gb909) (o := .cells #[.int .i64 t901, .int .i64 t902, .int .i64 t903, .slice Ao87 t904.length co87] 63 (0, 0)) (by (with_reducible repeat (first | refine blk_drewN ?_ _ | refine blk_drew ?_ | refine blk_alloc ?_ _)); exact BK909.out) hb); have n6_ := Aside0.mk (below_step (by repeat (first | (with_reducible first | exact HB.out | apply below_alloc | apply pw_below_drewN | apply below_drew1 | refine below_set ?_ GE874.out | refine below_set ?_ GE886.out | refine below_set ?_ GE909.out) | exact HB.out)) hb); clear HO_875003; clear HO_887003; clear HO_910003; clear BK874; clear BK886; clear BK909; clear HB; have HO_875003 := n0_; have HO_887003 := n1_; have HO_910003 := n2_; have BK874 := n3_; have BK886 := n4_; have BK909 := n5_; have HB := n6_; clear n0_ n1_ n2_ n3_ n4_ n5_ n6_; (try clear hb); (try clear hb2); (try clear hk); (try clear hi)))
                go_ret
                exact ⟨by first | rfl | (simp [errW_none, errW_some] <;> rfl) | (simp [*, errW_none, errW_some] <;> rfl), by repeat (first | (with_reducible first | exact HB.out | apply below_alloc | apply pw_below_drewN | apply below_drew1 | refine below_set ?_ GE874.out | refine below_set ?_ GE886.out | refine below_set ?_ GE909.out) | exact HB.out)⟩
          ·
           rw [if_neg c71] at H
           have c71b0 : (t897 == t895) = false := beq_eq_false_iff_ne.mpr c71
           have c71b1 : (t897 != t895) = true := bne_iff_ne.mpr c71
           obtain rfl := Option.some.inj H
           have hnb125 := NB886_874.out
           have hnc125 := NB874_886.out
           have hcz126_0 : wc.cell? ⟨gb886, 0, none⟩ = some (.int .i64 t878) := (blk_cell BK886.out 0).trans rfl
           have hcz126_1 : wc.cell? ⟨gb886, 1, none⟩ = some (.int .i64 t879) := (blk_cell BK886.out 1).trans rfl
           have hcz126_2 : wc.cell? ⟨gb886, 2, none⟩ = some (.int .i64 t880) := (blk_cell BK886.out 2).trans rfl
           have hcz126_3 : wc.cell? ⟨gb886, 3, none⟩ = some (.slice Ao21 t881.length co21) := (blk_cell BK886.out 3).trans rfl
           have hfz126_0 := blk_frozen BK886.out 0
           have hfz126_1 := blk_frozen BK886.out 1
           have hfz126_2 := blk_frozen BK886.out 2
           have hfz126_3 := blk_frozen BK886.out 3
           go_wp2_with (first | ((with_reducible refine gate_callee (f := 50) rfl ?_); refine goesL_ (some 80) rfl rfl Try.func50 (by kernel_rfl) rfl #[.agg #[.int .i64 t878, .int .i64 t879, .int .i64 t880, .slice Ao21 t881.length co21], .int .i64 1] rfl (by (try simp only [List.map_toArray, List.map_cons, List.map_nil]); first | done | rfl | (simp only [List.length_drop, List.length_take]; rfl)) ?_; (with_reducible refine (laws_markFrame.calls kj41 t878 t879 t880 (fun k_ => some k_ = (.slice Ao21 t881.length co21 : Value).ownBlock) (.slice Ao21 t881.length co21) t881 1 t895 t896 w _ ?side1 ?side2 A63.out).mono ?_); (case side1 => repeat (first | (with_reducible first | exact HB.out | apply below_alloc | apply pw_below_drewN | apply below_drew1 | refine below_set ?_ GE874.out | refine below_set ?_ GE886.out) | exact HB.out)); (case side2 => exact Kd.R_tight rfl HO_887003.out); rintro e w127 ⟨rfl, hy0, hb, hkp⟩; refine ⟨_, rfl, ?_⟩; have n0_ := Aside0.mk (Kd.R_mono (ok' := fun k_ => some k_ ≠ (.slice Ao21 t881.length co21 : Value).ownBlock) (Kd.R_keptB (HO_875003.out) hkp (fun k_ hk_ hs_ => absurd hs_ (hk_))) (fun k_ hk_ => hk_.1)); have n1_ := Aside0.mk (Kd.R_reok rfl hy0 (fun k_ e_ => HO_887003.out.1 k_ e_)); have n2_ := Aside0.mk (blk_kept (by (with_reducible repeat (first | refine blk_drewN ?_ _ | refine blk_drew ?_ | refine blk_alloc ?_ _)); exact BK874.out) hkp (fun hs_ => (fun e_ => (Kd.R_ne HO_887003.out BK874.out (by decide)) e_) hs_)); have n3_ := Aside0.mk (blk_kept (by (with_reducible repeat (first | refine blk_drewN ?_ _ | refine blk_drew ?_ | refine blk_alloc ?_ _)); exact BK886.out) hkp (fun hs_ => (fun e_ => (Kd.R_ne HO_887003.out BK886.out (by decide)) e_) hs_)); have n4_ := Aside0.mk (hb); clear HO_875003; clear HO_887003; clear BK874; clear BK886; clear HB; have HO_875003 := n0_; have HO_887003 := n1_; have BK874 := n2_; have BK886 := n3_; have HB := n4_; clear n0_ n1_ n2_ n3_ n4_; (try clear hb); (try clear hkp); (try clear hy0); have hcz128_0 : w127.cell? ⟨gb886, 0, none⟩ = some (.int .i64 t878) := (blk_cell BK886.out 0).trans rfl; have hcz128_1 : w127.cell? ⟨gb886, 1, none⟩ = some (.int .i64 t879) := (blk_cell BK886.out 1).trans rfl; have hcz128_2 : w127.cell? ⟨gb886, 2, none⟩ = some (.int .i64 t880) := (blk_cell BK886.out 2).trans rfl; have hcz128_3 : w127.cell? ⟨gb886, 3, none⟩ = some (.slice Ao21 t881.length co21) := (blk_cell BK886.out 3).trans rfl; have hfz128_0 := blk_frozen BK886.out 0; have hfz128_1 := blk_frozen BK886.out 1; have hfz128_2 := blk_frozen BK886.out 2; have hfz128_3 := blk_frozen BK886.out 3) | ((with_reducible refine gate_callee (f := 55) rfl ?_); refine goesL_ (some 83) rfl rfl Try.func55 (by kernel_rfl) rfl #[.agg #[.int .i64 t878, .int .i64 t879, .int .i64 t880, .slice Ao21 t896.length co21], .int .i64 1] rfl (by (try simp only [List.map_toArray, List.map_cons, List.map_nil]); first | done | (rw [show t896.length = t881.length from (Kd.R_reads' HO_887003.out).1.symm] <;> rfl) | rfl | (simp only [List.length_drop, List.length_take]; rfl)) ?_; (with_reducible refine (laws_heldFrame.calls kj41 t878 t879 t880 _ _ t896 1 t897 _ ?side1 ?side2 A64.out).mono ?_); (case side1 => repeat (first | exact (Kd.R_reads' HO_887003.out).2.2 | (with_reducible refine Kd.C_alloc ?_ _) | (with_reducible refine Kd.C_drewN ?_ _) | (with_reducible refine Kd.C_drew ?_))); (case side2 => rw [show t896.length = t881.length from (Kd.R_reads' HO_887003.out).1.symm]; exact (Kd.R_reads' HO_887003.out).2.1); rintro e w129 ⟨rfl, hb⟩; refine ⟨_, rfl, ?_⟩; have n0_ := Aside0.mk (Kd.R_below (by (with_reducible repeat (first | apply Kd.R_alloc | apply Kd.R_drewN | apply Kd.R_drew)); exact HO_875003.out) hb); have n1_ := Aside0.mk (Kd.R_below (by (with_reducible repeat (first | apply Kd.R_alloc | apply Kd.R_drewN | apply Kd.R_drew)); exact HO_887003.out) hb); have n2_ := Aside0.mk (blk_below (g := gb874) (o := .cells #[.int .i64 t866, .int .i64 t867, .int .i64 t868, .slice Ao14 t869.length co14] 63 (0, 0)) (by (with_reducible repeat (first | refine blk_drewN ?_ _ | refine blk_drew ?_ | refine blk_alloc ?_ _)); exact BK874.out) hb); have n3_ := Aside0.mk (blk_below (g := gb886) (o := .cells #[.int .i64 t878, .int .i64 t879, .int .i64 t880, .slice Ao21 t881.length co21] 63 (0, 0)) (by (with_reducible repeat (first | refine blk_drewN ?_ _ | refine blk_drew ?_ | refine blk_alloc ?_ _)); exact BK886.out) hb); have n4_ := Aside0.mk (below_step (by repeat (first | (with_reducible first | exact HB.out | apply below_alloc | apply pw_below_drewN | apply below_drew1 | refine below_set ?_ GE874.out | refine below_set ?_ GE886.out) | exact HB.out)) hb); clear HO_875003; clear HO_887003; clear BK874; clear BK886; clear HB; have HO_875003 := n0_; have HO_887003 := n1_; have BK874 := n2_; have BK886 := n3_; have HB := n4_; clear n0_ n1_ n2_ n3_ n4_; (try clear hb); (try clear hb2); (try clear hk); (try clear hi)))
           go_ret
           exact ⟨by first | rfl | (simp [errW_none, errW_some] <;> rfl) | (simp [*, errW_none, errW_some] <;> rfl), by repeat (first | (with_reducible first | exact HB.out | apply below_alloc | apply pw_below_drewN | apply below_drew1 | refine below_set ?_ GE874.out | refine below_set ?_ GE886.out) | exact HB.out)⟩
     ·
      replace c40 := Bool.eq_false_iff.mpr c40
      subst c40
      have H1 : (some false) = some r := by rw [if_neg (show ¬ (false = true) by decide)] at H; exact H
      clear H
      have H := H1
      clear H1
      obtain rfl := Option.some.inj H
      go_wp2_with (first | ((with_reducible refine gate_callee (f := 16) rfl ?_); refine goesL_ (some 54) rfl rfl Try.func16 (by kernel_rfl) rfl #[.slice A0 l0.length c0] rfl (by (try simp only [List.map_toArray, List.map_cons, List.map_nil]); first | done | rfl | (simp only [List.length_drop, List.length_take]; rfl)) ?_; (with_reducible refine (laws_toByteS.calls kj7 _ _ l0 t888 _ ?side1 ?side2 A38.out).mono ?_); (case side1 => repeat (first | exact (Kd.C_below HR0.out HB.out) | (with_reducible refine Kd.C_alloc ?_ _) | (with_reducible refine Kd.C_drewN ?_ _) | (with_reducible refine Kd.C_drew ?_))); (case side2 => exact HC0.out); rintro e w130 ⟨v889, rfl, ho0, hb⟩; refine ⟨_, rfl, ?_⟩; have n0_ := Aside0.mk (Kd.R_elder' (by (with_reducible repeat (first | apply Kd.R_alloc | apply Kd.R_drewN | apply Kd.R_drew)); exact HO_8.out) (Kd.R_base ho0) hb); have n1_ := Aside0.mk (Kd.R_elder' (by (with_reducible repeat (first | apply Kd.R_alloc | apply Kd.R_drewN | apply Kd.R_drew)); exact HO_875003.out) (Kd.R_base ho0) hb); have n2_ := Aside0.mk (Kd.R_elder' (by (with_reducible repeat (first | apply Kd.R_alloc | apply Kd.R_drewN | apply Kd.R_drew)); exact HO_887003.out) (Kd.R_base ho0) hb); have n3_ := Aside0.mk (Kd.R_lower (Kd.R_new' (Kd.R_new' (Kd.R_new' ho0 (Kd.R_lt (by (with_reducible repeat (first | apply Kd.R_alloc | apply Kd.R_drewN | apply Kd.R_drew)); exact HO_8.out))) (Kd.R_lt (by (with_reducible repeat (first | apply Kd.R_alloc | apply Kd.R_drewN | apply Kd.R_drew)); exact HO_875003.out))) (Kd.R_lt (by (with_reducible repeat (first | apply Kd.R_alloc | apply Kd.R_drewN | apply Kd.R_drew)); exact HO_887003.out))) (below_size (by repeat (first | (with_reducible first | exact HB.out | apply below_alloc | apply pw_below_drewN | apply below_drew1 | refine below_set ?_ GE874.out | refine below_set ?_ GE886.out) | exact HB.out)))); have n4_ := Aside0.mk (blk_below (g := gb874) (o := .cells #[.int .i64 t866, .int .i64 t867, .int .i64 t868, .slice Ao14 t869.length co14] 63 (0, 0)) (by (with_reducible repeat (first | refine blk_drewN ?_ _ | refine blk_drew ?_ | refine blk_alloc ?_ _)); exact BK874.out) hb); have n5_ := Aside0.mk (blk_below (g := gb886) (o := .cells #[.int .i64 t878, .int .i64 t879, .int .i64 t880, .slice Ao21 t881.length co21] 63 (0, 0)) (by (with_reducible repeat (first | refine blk_drewN ?_ _ | refine blk_drew ?_ | refine blk_alloc ?_ _)); exact BK886.out) hb); have n6_ := Aside0.mk (below_step (by repeat (first | (with_reducible first | exact HB.out | apply below_alloc | apply pw_below_drewN | apply below_drew1 | refine below_set ?_ GE874.out | refine below_set ?_ GE886.out) | exact HB.out)) hb); clear HO_8; clear HO_875003; clear HO_887003; clear BK874; clear BK886; clear HB; have HO_8 := n0_; have HO_875003 := n1_; have HO_887003 := n2_; have HO890 := n3_; have BK874 := n4_; have BK886 := n5_; have HB := n6_; clear n0_ n1_ n2_ n3_ n4_ n5_ n6_; (try clear hb); (try clear hb2); (try clear hk); (try clear hi); (try clear ho0); obtain ⟨Ao131, co131, eo131⟩ := Kd.R_slice HO890.out; subst eo131) | ((with_reducible refine gate_callee (f := 18) rfl ?_); refine goesL_ (some 55) rfl rfl Try.func18 (by kernel_rfl) rfl #[.slice Ao16 t875.length co16, .slice Ao131 t888.length co131] rfl (by (try simp only [List.map_toArray, List.map_cons, List.map_nil]); first | done | rfl | (simp only [List.length_drop, List.length_take]; rfl)) ?_; (with_reducible refine (laws_eqByteS.calls kj7 _ _ t875 _ _ t888 false _ ?side1 ?side2 ?side3 ?side4 A39.out).mono ?_); (case side1 => repeat (first | exact (Kd.R_reads' HO_8.out).2.2 | (with_reducible refine Kd.C_alloc ?_ _) | (with_reducible refine Kd.C_drewN ?_ _) | (with_reducible refine Kd.C_drew ?_))); (case side2 => exact (Kd.R_reads' HO_8.out).2.1); (case side3 => repeat (first | exact (Kd.R_reads' HO890.out).2.2 | (with_reducible refine Kd.C_alloc ?_ _) | (with_reducible refine Kd.C_drewN ?_ _) | (with_reducible refine Kd.C_drew ?_))); (case side4 => exact (Kd.R_reads' HO890.out).2.1); rintro e w' ⟨rfl, ⟨nd, rfl⟩⟩; refine ⟨_, rfl, ?_⟩))
      go_ret
      exact ⟨by first | rfl | (simp [errW_none, errW_some] <;> rfl) | (simp [*, errW_none, errW_some] <;> rfl), by repeat (first | (with_reducible first | exact HB.out | apply below_alloc | apply pw_below_drewN | apply below_drew1 | refine below_set ?_ GE874.out | refine below_set ?_ GE886.out) | exact HB.out)⟩

/-- THE ONE PURE STATEMENT of laws_FnExactGetFrame: yours. -/
def laws_FnExactGetFrame.Pure : Prop := ∀ (l0 : List Int) (a1 : Int), l0.length ≤ maxLen → l0.length * 1 ≤ 140737488351232 → (∀ x ∈ l0, (Lit.int .u8 x).wf = true) → (Lit.int .i64 a1).wf = true → ∃ k, laws_FnExactGetFrame.f k l0 a1 = some true
theorem laws_FnExactGetFrame.walk (P : laws_FnExactGetFrame.Pure) (a0 : Option Addr) (len0 cap0 : Nat) (z0 : List Int) (a1 : Int) (w : World) (w0 : (a0 = none ∧ len0 = 0 ∧ cap0 = 0 ∧ z0 = []) ∨ ∃ x, a0 = some x ∧ len0 ≤ cap0 ∧ cap0 ≤ maxLen ∧ z0.length = cap0 ∧ (∀ i, i < z0.length → w.cell? (x.add i) = some (.int .u8 (z0.getD i 0))) ∧ ∀ n ∈ z0, (Lit.int .u8 n).wf = true) (y0 : len0 * 1 ≤ 140737488351232) (w1 : (Lit.int .i64 a1).wf = true) :
  Calls Try.prog 12 #[.slice a0 len0 cap0, .int .i64 a1] w fun e w' => e = .returned (.bool true) ∧ Below w.heap.size w w' := by
 obtain ⟨l0, rfl, hr0, hm0, hw0, hc0⟩ := ReadsInt.ofRowC w0
 obtain ⟨k, h⟩ := P l0 a1 hm0 y0 hw0 w1
 refine (laws_FnExactGetFrame.calls k _ _ l0 a1 true w (Kd.C_of_reads (d := (0 : Int)) (h1 := fun _ => rfl) hr0) hc0 h).mono ?_
 rintro e w' ⟨rfl, hd⟩
 exact ⟨rfl, hd⟩

end Go.Proofs.Ytkhcnmjgojkkoaa.A
