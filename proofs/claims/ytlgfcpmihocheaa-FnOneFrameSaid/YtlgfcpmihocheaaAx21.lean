/- Written by a program of this session, out of the translation: functions as plain Lean functions, and that the machine's calls answer as they do. Condition: none beyond each theorem's own. -/
import Derived.Test.YtlgfcpmihocheaaAx0
import Derived.Test.YtlgfcpmihocheaaAx1
import Derived.Test.YtlgfcpmihocheaaAx3
import Derived.Test.YtlgfcpmihocheaaAx10
import Derived.Test.YtlgfcpmihocheaaAx13
import Derived.Test.YtlgfcpmihocheaaAx16
import Derived.Test.YtlgfcpmihocheaaAx18
import Derived.Test.YtlgfcpmihocheaaAx20
namespace Go.Proofs.Ytlgfcpmihocheaa.A
open Go.RowKit Go.Proofs.YtlgfcpmihocheaaW.PrintWords Go.Proofs.YtlgfcpmihocheaaW.PrintLast Go.Proofs.YtlgfcpmihocheaaW.PrintMore
abbrev Y : Bool := true
abbrev Z : Bool := false
theorem lA_ {α : Type _} (l : List α) (i : Nat) (a : α) : l.toArray.setIfInBounds i a = (l.set i a).toArray := by simp
theorem lB_ {α : Type _} (x : α) (l : List α) (a : α) : (x :: l).set 0 a = a :: l := rfl
theorem lC_ {α : Type _} (x : α) (l : List α) (n : Nat) (a : α) : (x :: l).set (n + 1) a = x :: l.set n a := rfl
abbrev k1_ := @Kd.R_alloc
abbrev k2_ := @Kd.R_drewN
abbrev k3_ := @Kd.R_drew
abbrev k4_ := @Kd.R_far
abbrev k5_ := @blk_alloc
abbrev k6_ := @blk_drewN
abbrev k7_ := @blk_drew
theorem k8_ : (¬ False) = True := not_false_eq_true
attribute [local go_sem] max2_int min2_int max_two min_two max_three min_three max_four min_four   -- for this text's walks alone
set_option linter.unusedVariables false
set_option linter.unusedSimpArgs false

/-! ### laws_FnOneFrame: function 8 -/
def laws_FnOneFrame.j0 : Nat → Bool → Option (Bool)
 | 0,_ => none
 | k + 1,x2 => some x2
def laws_FnOneFrame.f (k : Nat) (l0 : List Int) : Option (Bool):=(laws_big.f l0).bind fun t303 => (if t303 = true then (some true) else ((spec_DrawPutFrame.f k l0).bind fun bt304 => ((impl_PutFrame.f k bt304.1 bt304.2.1 bt304.2.2.1 bt304.2.2.2).bind fun t311 => ((spec_FrameOk.f bt304.1 bt304.2.1 bt304.2.2.1 bt304.2.2.2).bind fun t314 => (if t314 = true then ((some (([9,9] : List Int) : List Int)).bind fun y316 => (if y316.length + t311.length < 140737488355328 then ((impl_GetFrame.f k (y316 ++ t311) 2).bind fun bt322 => ((impl_GetFrame.f k (([0,4,0,0,0,0,0,0,1] : List Int)) 0).bind fun bt334 => (if bt322.2.2.2.2.2 = 0 then (if bt322.2.2.2.2.1 = (wrap64 ((t311.length : Int) + 2)) then ((laws_sameFrame.f k bt322.1 bt322.2.1 bt322.2.2.1 bt322.2.2.2.1 bt304.1 bt304.2.1 bt304.2.2.1 bt304.2.2.2).bind fun t343 => (if t343 = true then (if (t311.length : Int) = (wrap64 ((bt304.2.2.2.length : Int) + 9)) then (if bt334.2.2.2.2.2 = 2 then ((impl_FrameCode.f k bt304.1 bt304.2.1 bt304.2.2.1 bt304.2.2.2).bind fun t344 => ((spec_FrameCode.f k bt304.1 bt304.2.1 bt304.2.2.1 bt304.2.2.2).bind fun t345 => (laws_FnOneFrame.j0 k (t344 == t345)))) else (laws_FnOneFrame.j0 k false)) else (laws_FnOneFrame.j0 k false)) else (laws_FnOneFrame.j0 k false))) else (laws_FnOneFrame.j0 k false)) else (laws_FnOneFrame.j0 k false)))) else (none))) else (if (t311.length : Int) = 0 then ((impl_FrameCode.f k bt304.1 bt304.2.1 bt304.2.2.1 bt304.2.2.2).bind fun t315 => (some (t315 == 2))) else (some false)))))))
theorem laws_FnOneFrame.mono_l : ∀ k,(∀ y0,LeO (laws_FnOneFrame.j0 k y0) (laws_FnOneFrame.j0 (k + 1) y0))
 | 0 => fun _ r h => by simp [laws_FnOneFrame.j0] at h
 | k + 1 => by
  have ih0:=laws_FnOneFrame.mono_l k
  ·
   intro y0
   unfold laws_FnOneFrame.j0
   repeat' first
   | (with_reducible exact ih0 _)
   | (with_reducible exact impl_FrameCode.mono _ _ _ _ _)
   | (with_reducible exact impl_GetFrame.mono _ _ _)
   | (with_reducible exact impl_PutFrame.mono _ _ _ _ _)
   | (with_reducible exact laws_sameFrame.mono _ _ _ _ _ _ _ _ _)
   | (with_reducible exact spec_DrawPutFrame.mono _ _)
   | (with_reducible exact spec_FrameCode.mono _ _ _ _ _)
   | (with_reducible exact LeO.refl _)
   | (with_reducible exact LeO.none _)
   | (with_reducible refine LeO.ite ?_ ?_)
   | (with_reducible refine LeO.bind ?_ (fun _ => ?_))
   | exact ih0 _
   | exact impl_FrameCode.mono _ _ _ _ _
   | exact impl_GetFrame.mono _ _ _
   | exact impl_PutFrame.mono _ _ _ _ _
   | exact laws_sameFrame.mono _ _ _ _ _ _ _ _ _
   | exact spec_DrawPutFrame.mono _ _
   | exact spec_FrameCode.mono _ _ _ _ _
   | exact LeO.none _
   | refine LeO.ite ?_ ?_
   | refine LeO.bind ?_ (fun _ => ?_)
theorem laws_FnOneFrame.mono : ∀ a0 k,LeO (laws_FnOneFrame.f k a0) (laws_FnOneFrame.f (k + 1) a0):=by
 intro a0 k
 have ih0:=laws_FnOneFrame.mono_l k
 unfold laws_FnOneFrame.f
 repeat' first
  | (with_reducible exact ih0 _)
  | (with_reducible exact impl_FrameCode.mono _ _ _ _ _)
  | (with_reducible exact impl_GetFrame.mono _ _ _)
  | (with_reducible exact impl_PutFrame.mono _ _ _ _ _)
  | (with_reducible exact laws_sameFrame.mono _ _ _ _ _ _ _ _ _)
  | (with_reducible exact spec_DrawPutFrame.mono _ _)
  | (with_reducible exact spec_FrameCode.mono _ _ _ _ _)
  | (with_reducible exact LeO.refl _)
  | (with_reducible exact LeO.none _)
  | (with_reducible refine LeO.ite ?_ ?_)
  | (with_reducible refine LeO.bind ?_ (fun _ => ?_))
  | exact ih0 _
  | exact impl_FrameCode.mono _ _ _ _ _
  | exact impl_GetFrame.mono _ _ _
  | exact impl_PutFrame.mono _ _ _ _ _
  | exact laws_sameFrame.mono _ _ _ _ _ _ _ _ _
  | exact spec_DrawPutFrame.mono _ _
  | exact spec_FrameCode.mono _ _ _ _ _
  | exact LeO.none _
  | refine LeO.ite ?_ ?_
  | refine LeO.bind ?_ (fun _ => ?_)
def laws_FnOneFrame.T9 : Bool × List (List Nat × List Nat):=(true,[([],[]),([0],[0]),([1],[1]),([2],[2]),([2],[2]),([4,2],[2,4]),([5,2],[2,5]),([3,6,2],[2,3,6]),([2,7],[2,7]),([8,2],[8]),([9],[9]),([9],[9]),([10,11,9,9],[9,10,11]),([9,12],[9,12]),([13,12],[13]),([14],[14]),([15,14],[14,15]),([14],[14]),([17,14],[14,17]),([18,14],[14,18]),([19,14],[14,19]),([16,20,14],[14,16,20]),([14,21],[14,21]),([22,14],[22]),([23],[23]),([24,23],[23,24]),([23,25],[23,25]),([26,23],[26]),([27],[27]),([28,27,27],[27,28]),([27],[27]),([30,29,27],[27,30]),([29,31,27],[27,29,31]),([27,32],[27,32]),([33,31,0,1,2,3,4,5,6,7,8,9,10,11,12,13,14,15,16,17,18,19,20,21,22,23,24,25,26,27,28,29,30,31,32,33],[33])])
def laws_FnOneFrame.B9 : List Nat:=[0,1,3,7,7,23,55,127,255,511,1023,1023,4095,8191,16383,32767,65535,32767,163839,425983,950271,2097151,4194303,8388607,16777215,33554431,67108863,134217727,268435455,536870911,268435455,2147483647,4294967295,8589934591,17179869183]
theorem laws_FnOneFrame.tab9 : rtab .any (opsOf Try.f8 9) = laws_FnOneFrame.T9:=by kernel_rfl
theorem laws_FnOneFrame.bits9 : waitsOk laws_FnOneFrame.T9.2 laws_FnOneFrame.B9 = true:=by kernel_rfl
set_option maxHeartbeats 8000000 in
set_option maxRecDepth 100000 in
theorem laws_FnOneFrame.calls (k : Nat) (A0 : Option Addr) (c0 : Nat) (l0 : List Int) (r : Bool) (w : World) (hr0 : Kd.C (Kd.int .u8) w A0 l0.length l0) (hc0 : l0.length ≤ c0) (h : laws_FnOneFrame.f k l0 = some r) :
 Calls Try.prog 8 #[.slice A0 l0.length c0] w fun e w' => e = .returned (.bool r) ∧ Below w.heap.size w w':=by
 have hu59:=Try.underlying59
 have HR0:=Aside0.mk hr0
 have HC0:=Aside0.mk hc0
 clear hr0 hc0
 have HB:=Aside0.mk (Below.refl w.heap.size w)
 have H : ((laws_big.f l0).bind fun t303 => (if t303 = true then (some true) else ((spec_DrawPutFrame.f k l0).bind fun bt304 => ((impl_PutFrame.f k bt304.1 bt304.2.1 bt304.2.2.1 bt304.2.2.2).bind fun t311 => ((spec_FrameOk.f bt304.1 bt304.2.1 bt304.2.2.1 bt304.2.2.2).bind fun t314 => (if t314 = true then ((some (([9,9] : List Int) : List Int)).bind fun y316 => (if y316.length + t311.length < 140737488355328 then ((impl_GetFrame.f k (y316 ++ t311) 2).bind fun bt322 => ((impl_GetFrame.f k (([0,4,0,0,0,0,0,0,1] : List Int)) 0).bind fun bt334 => (if bt322.2.2.2.2.2 = 0 then (if bt322.2.2.2.2.1 = (wrap64 ((t311.length : Int) + 2)) then ((laws_sameFrame.f k bt322.1 bt322.2.1 bt322.2.2.1 bt322.2.2.2.1 bt304.1 bt304.2.1 bt304.2.2.1 bt304.2.2.2).bind fun t343 => (if t343 = true then (if (t311.length : Int) = (wrap64 ((bt304.2.2.2.length : Int) + 9)) then (if bt334.2.2.2.2.2 = 2 then ((impl_FrameCode.f k bt304.1 bt304.2.1 bt304.2.2.1 bt304.2.2.2).bind fun t344 => ((spec_FrameCode.f k bt304.1 bt304.2.1 bt304.2.2.1 bt304.2.2.2).bind fun t345 => (laws_FnOneFrame.j0 k (t344 == t345)))) else (laws_FnOneFrame.j0 k false)) else (laws_FnOneFrame.j0 k false)) else (laws_FnOneFrame.j0 k false))) else (laws_FnOneFrame.j0 k false)) else (laws_FnOneFrame.j0 k false)))) else (none))) else (if (t311.length : Int) = 0 then ((impl_FrameCode.f k bt304.1 bt304.2.1 bt304.2.2.1 bt304.2.2.2).bind fun t315 => (some (t315 == 2))) else (some false)))))))) = some r:=h
 clear h
 replace H:=Option.bind_eq_some_iff.mp H
 obtain ⟨t303,A20,H⟩:=H
 replace H : (if t303 = true then (some true) else ((spec_DrawPutFrame.f k l0).bind fun bt304 => ((impl_PutFrame.f k bt304.1 bt304.2.1 bt304.2.2.1 bt304.2.2.2).bind fun t311 => ((spec_FrameOk.f bt304.1 bt304.2.1 bt304.2.2.1 bt304.2.2.2).bind fun t314 => (if t314 = true then ((some (([9,9] : List Int) : List Int)).bind fun y316 => (if y316.length + t311.length < 140737488355328 then ((impl_GetFrame.f k (y316 ++ t311) 2).bind fun bt322 => ((impl_GetFrame.f k (([0,4,0,0,0,0,0,0,1] : List Int)) 0).bind fun bt334 => (if bt322.2.2.2.2.2 = 0 then (if bt322.2.2.2.2.1 = (wrap64 ((t311.length : Int) + 2)) then ((laws_sameFrame.f k bt322.1 bt322.2.1 bt322.2.2.1 bt322.2.2.2.1 bt304.1 bt304.2.1 bt304.2.2.1 bt304.2.2.2).bind fun t343 => (if t343 = true then (if (t311.length : Int) = (wrap64 ((bt304.2.2.2.length : Int) + 9)) then (if bt334.2.2.2.2.2 = 2 then ((impl_FrameCode.f k bt304.1 bt304.2.1 bt304.2.2.1 bt304.2.2.2).bind fun t344 => ((spec_FrameCode.f k bt304.1 bt304.2.1 bt304.2.2.1 bt304.2.2.2).bind fun t345 => (laws_FnOneFrame.j0 k (t344 == t345)))) else (laws_FnOneFrame.j0 k false)) else (laws_FnOneFrame.j0 k false)) else (laws_FnOneFrame.j0 k false))) else (laws_FnOneFrame.j0 k false)) else (laws_FnOneFrame.j0 k false)))) else (none))) else (if (t311.length : Int) = 0 then ((impl_FrameCode.f k bt304.1 bt304.2.1 bt304.2.2.1 bt304.2.2.2).bind fun t315 => (some (t315 == 2))) else (some false))))))) = some r:=H
 have A2:=Aside0.mk A20
 clear A20
 by_cases c3 : t303 = true
 ·
  subst c3
  have H1 : (some true) = some r:=by rw [if_pos rfl] at H;exact H
  clear H
  have H:=H1
  clear H1
  obtain rfl:=Option.some.inj H
  go_enter Try.func8,Try.ntmps8
  go_wp2_with (first|((with_reducible refine gate_callee (f:=10) rfl ?_);refine goesL_ (some 12) rfl rfl Try.func10 (by kernel_rfl) rfl #[.slice A0 l0.length c0] rfl (by (try simp only [List.map_toArray,List.map_cons,List.map_nil]);first|done|rfl|(simp only [List.length_drop,List.length_take];rfl)) ?_;(with_reducible refine (laws_big.calls _ _ l0 true _ ?side1 ?side2 A2.out).mono ?_);(case side1 => repeat (first|exact HR0.out|(with_reducible refine Kd.C_alloc ?_ _)|(with_reducible refine Kd.C_drewN ?_ _)|(with_reducible refine Kd.C_drew ?_)));(case side2 => exact HC0.out);rintro e w' ⟨rfl,⟨nd,rfl⟩⟩;refine ⟨_,rfl,?_⟩))
  go_ret
  exact ⟨by first|rfl|(simp [errW_none,errW_some] <;> rfl)|(simp [*,errW_none,errW_some] <;> rfl),by repeat (first|(with_reducible first|exact HB.out|apply below_alloc|apply pw_below_drewN|apply below_drew1)|exact HB.out)⟩
 ·
  replace c3:=Bool.eq_false_iff.mpr c3
  subst c3
  have H1 : ((spec_DrawPutFrame.f k l0).bind fun bt304 => ((impl_PutFrame.f k bt304.1 bt304.2.1 bt304.2.2.1 bt304.2.2.2).bind fun t311 => ((spec_FrameOk.f bt304.1 bt304.2.1 bt304.2.2.1 bt304.2.2.2).bind fun t314 => (if t314 = true then ((some (([9,9] : List Int) : List Int)).bind fun y316 => (if y316.length + t311.length < 140737488355328 then ((impl_GetFrame.f k (y316 ++ t311) 2).bind fun bt322 => ((impl_GetFrame.f k (([0,4,0,0,0,0,0,0,1] : List Int)) 0).bind fun bt334 => (if bt322.2.2.2.2.2 = 0 then (if bt322.2.2.2.2.1 = (wrap64 ((t311.length : Int) + 2)) then ((laws_sameFrame.f k bt322.1 bt322.2.1 bt322.2.2.1 bt322.2.2.2.1 bt304.1 bt304.2.1 bt304.2.2.1 bt304.2.2.2).bind fun t343 => (if t343 = true then (if (t311.length : Int) = (wrap64 ((bt304.2.2.2.length : Int) + 9)) then (if bt334.2.2.2.2.2 = 2 then ((impl_FrameCode.f k bt304.1 bt304.2.1 bt304.2.2.1 bt304.2.2.2).bind fun t344 => ((spec_FrameCode.f k bt304.1 bt304.2.1 bt304.2.2.1 bt304.2.2.2).bind fun t345 => (laws_FnOneFrame.j0 k (t344 == t345)))) else (laws_FnOneFrame.j0 k false)) else (laws_FnOneFrame.j0 k false)) else (laws_FnOneFrame.j0 k false))) else (laws_FnOneFrame.j0 k false)) else (laws_FnOneFrame.j0 k false)))) else (none))) else (if (t311.length : Int) = 0 then ((impl_FrameCode.f k bt304.1 bt304.2.1 bt304.2.2.1 bt304.2.2.2).bind fun t315 => (some (t315 == 2))) else (some false)))))) = some r:=by rw [if_neg (show ¬ (false = true) by decide)] at H;exact H
  clear H
  have H:=H1
  clear H1
  replace H:=Option.bind_eq_some_iff.mp H
  obtain ⟨⟨t304,t305,t306,t307⟩,A40,H⟩:=H
  replace H : ((impl_PutFrame.f k t304 t305 t306 t307).bind fun t311 => ((spec_FrameOk.f t304 t305 t306 t307).bind fun t314 => (if t314 = true then ((some (([9,9] : List Int) : List Int)).bind fun y316 => (if y316.length + t311.length < 140737488355328 then ((impl_GetFrame.f k (y316 ++ t311) 2).bind fun bt322 => ((impl_GetFrame.f k (([0,4,0,0,0,0,0,0,1] : List Int)) 0).bind fun bt334 => (if bt322.2.2.2.2.2 = 0 then (if bt322.2.2.2.2.1 = (wrap64 ((t311.length : Int) + 2)) then ((laws_sameFrame.f k bt322.1 bt322.2.1 bt322.2.2.1 bt322.2.2.2.1 t304 t305 t306 t307).bind fun t343 => (if t343 = true then (if (t311.length : Int) = (wrap64 ((t307.length : Int) + 9)) then (if bt334.2.2.2.2.2 = 2 then ((impl_FrameCode.f k t304 t305 t306 t307).bind fun t344 => ((spec_FrameCode.f k t304 t305 t306 t307).bind fun t345 => (laws_FnOneFrame.j0 k (t344 == t345)))) else (laws_FnOneFrame.j0 k false)) else (laws_FnOneFrame.j0 k false)) else (laws_FnOneFrame.j0 k false))) else (laws_FnOneFrame.j0 k false)) else (laws_FnOneFrame.j0 k false)))) else (none))) else (if (t311.length : Int) = 0 then ((impl_FrameCode.f k t304 t305 t306 t307).bind fun t315 => (some (t315 == 2))) else (some false))))) = some r:=H
  have A4:=Aside0.mk A40
  clear A40
  replace H:=Option.bind_eq_some_iff.mp H
  obtain ⟨t311,A50,H⟩:=H
  replace H : ((spec_FrameOk.f t304 t305 t306 t307).bind fun t314 => (if t314 = true then ((some (([9,9] : List Int) : List Int)).bind fun y316 => (if y316.length + t311.length < 140737488355328 then ((impl_GetFrame.f k (y316 ++ t311) 2).bind fun bt322 => ((impl_GetFrame.f k (([0,4,0,0,0,0,0,0,1] : List Int)) 0).bind fun bt334 => (if bt322.2.2.2.2.2 = 0 then (if bt322.2.2.2.2.1 = (wrap64 ((t311.length : Int) + 2)) then ((laws_sameFrame.f k bt322.1 bt322.2.1 bt322.2.2.1 bt322.2.2.2.1 t304 t305 t306 t307).bind fun t343 => (if t343 = true then (if (t311.length : Int) = (wrap64 ((t307.length : Int) + 9)) then (if bt334.2.2.2.2.2 = 2 then ((impl_FrameCode.f k t304 t305 t306 t307).bind fun t344 => ((spec_FrameCode.f k t304 t305 t306 t307).bind fun t345 => (laws_FnOneFrame.j0 k (t344 == t345)))) else (laws_FnOneFrame.j0 k false)) else (laws_FnOneFrame.j0 k false)) else (laws_FnOneFrame.j0 k false))) else (laws_FnOneFrame.j0 k false)) else (laws_FnOneFrame.j0 k false)))) else (none))) else (if (t311.length : Int) = 0 then ((impl_FrameCode.f k t304 t305 t306 t307).bind fun t315 => (some (t315 == 2))) else (some false)))) = some r:=H
  have A5:=Aside0.mk A50
  clear A50
  replace H:=Option.bind_eq_some_iff.mp H
  obtain ⟨t314,A60,H⟩:=H
  replace H : (if t314 = true then ((some (([9,9] : List Int) : List Int)).bind fun y316 => (if y316.length + t311.length < 140737488355328 then ((impl_GetFrame.f k (y316 ++ t311) 2).bind fun bt322 => ((impl_GetFrame.f k (([0,4,0,0,0,0,0,0,1] : List Int)) 0).bind fun bt334 => (if bt322.2.2.2.2.2 = 0 then (if bt322.2.2.2.2.1 = (wrap64 ((t311.length : Int) + 2)) then ((laws_sameFrame.f k bt322.1 bt322.2.1 bt322.2.2.1 bt322.2.2.2.1 t304 t305 t306 t307).bind fun t343 => (if t343 = true then (if (t311.length : Int) = (wrap64 ((t307.length : Int) + 9)) then (if bt334.2.2.2.2.2 = 2 then ((impl_FrameCode.f k t304 t305 t306 t307).bind fun t344 => ((spec_FrameCode.f k t304 t305 t306 t307).bind fun t345 => (laws_FnOneFrame.j0 k (t344 == t345)))) else (laws_FnOneFrame.j0 k false)) else (laws_FnOneFrame.j0 k false)) else (laws_FnOneFrame.j0 k false))) else (laws_FnOneFrame.j0 k false)) else (laws_FnOneFrame.j0 k false)))) else (none))) else (if (t311.length : Int) = 0 then ((impl_FrameCode.f k t304 t305 t306 t307).bind fun t315 => (some (t315 == 2))) else (some false))) = some r:=H
  have A6:=Aside0.mk A60
  clear A60
  by_cases c7 : t314 = true
  ·
   subst c7
   have H1 : ((some (([9,9] : List Int) : List Int)).bind fun y316 => (if y316.length + t311.length < 140737488355328 then ((impl_GetFrame.f k (y316 ++ t311) 2).bind fun bt322 => ((impl_GetFrame.f k (([0,4,0,0,0,0,0,0,1] : List Int)) 0).bind fun bt334 => (if bt322.2.2.2.2.2 = 0 then (if bt322.2.2.2.2.1 = (wrap64 ((t311.length : Int) + 2)) then ((laws_sameFrame.f k bt322.1 bt322.2.1 bt322.2.2.1 bt322.2.2.2.1 t304 t305 t306 t307).bind fun t343 => (if t343 = true then (if (t311.length : Int) = (wrap64 ((t307.length : Int) + 9)) then (if bt334.2.2.2.2.2 = 2 then ((impl_FrameCode.f k t304 t305 t306 t307).bind fun t344 => ((spec_FrameCode.f k t304 t305 t306 t307).bind fun t345 => (laws_FnOneFrame.j0 k (t344 == t345)))) else (laws_FnOneFrame.j0 k false)) else (laws_FnOneFrame.j0 k false)) else (laws_FnOneFrame.j0 k false))) else (laws_FnOneFrame.j0 k false)) else (laws_FnOneFrame.j0 k false)))) else (none))) = some r:=by rw [if_pos rfl] at H;exact H
   clear H
   have H:=H1
   clear H1
   obtain ⟨y316,hy316⟩ : ∃ y_ : List Int,y_ = (([9,9] : List Int)):=⟨_,rfl⟩
   replace H : (if y316.length + t311.length < 140737488355328 then ((impl_GetFrame.f k (y316 ++ t311) 2).bind fun bt322 => ((impl_GetFrame.f k (([0,4,0,0,0,0,0,0,1] : List Int)) 0).bind fun bt334 => (if bt322.2.2.2.2.2 = 0 then (if bt322.2.2.2.2.1 = (wrap64 ((t311.length : Int) + 2)) then ((laws_sameFrame.f k bt322.1 bt322.2.1 bt322.2.2.1 bt322.2.2.2.1 t304 t305 t306 t307).bind fun t343 => (if t343 = true then (if (t311.length : Int) = (wrap64 ((t307.length : Int) + 9)) then (if bt334.2.2.2.2.2 = 2 then ((impl_FrameCode.f k t304 t305 t306 t307).bind fun t344 => ((spec_FrameCode.f k t304 t305 t306 t307).bind fun t345 => (laws_FnOneFrame.j0 k (t344 == t345)))) else (laws_FnOneFrame.j0 k false)) else (laws_FnOneFrame.j0 k false)) else (laws_FnOneFrame.j0 k false))) else (laws_FnOneFrame.j0 k false)) else (laws_FnOneFrame.j0 k false)))) else (none)) = some r:=by first|(rw [hy316];with_reducible exact H)|(have H2_:=(Option.bind_some _ _).symm.trans H;rw [hy316];with_reducible exact H2_)|(have H2_:=(Option.bind_some _ _).symm.trans H;with_reducible exact H2_)|with_reducible exact H|(rw [hy316];exact H)|exact H
   have Ny316:=Aside0.mk hy316
   clear hy316
   by_cases c8 : y316.length + t311.length < 140737488355328
   ·
    rw [if_pos c8] at H
    have LMc8:=Aside0.mk c8
    clear c8
    obtain ⟨y319,hy319⟩ : ∃ y_ : List Int,y_ = (y316 ++ t311):=⟨_,rfl⟩
    replace H : ((impl_GetFrame.f k y319 2).bind fun bt322 => ((impl_GetFrame.f k (([0,4,0,0,0,0,0,0,1] : List Int)) 0).bind fun bt334 => (if bt322.2.2.2.2.2 = 0 then (if bt322.2.2.2.2.1 = (wrap64 ((t311.length : Int) + 2)) then ((laws_sameFrame.f k bt322.1 bt322.2.1 bt322.2.2.1 bt322.2.2.2.1 t304 t305 t306 t307).bind fun t343 => (if t343 = true then (if (t311.length : Int) = (wrap64 ((t307.length : Int) + 9)) then (if bt334.2.2.2.2.2 = 2 then ((impl_FrameCode.f k t304 t305 t306 t307).bind fun t344 => ((spec_FrameCode.f k t304 t305 t306 t307).bind fun t345 => (laws_FnOneFrame.j0 k (t344 == t345)))) else (laws_FnOneFrame.j0 k false)) else (laws_FnOneFrame.j0 k false)) else (laws_FnOneFrame.j0 k false))) else (laws_FnOneFrame.j0 k false)) else (laws_FnOneFrame.j0 k false)))) = some r:=by first|(rw [hy319];with_reducible exact H)|(have H2_:=(Option.bind_some _ _).symm.trans H;rw [hy319];with_reducible exact H2_)|(have H2_:=(Option.bind_some _ _).symm.trans H;with_reducible exact H2_)|with_reducible exact H|(rw [hy319];exact H)|exact H
    have Ny319:=Aside0.mk hy319
    clear hy319
    replace H:=Option.bind_eq_some_iff.mp H
    obtain ⟨⟨t322,t323,t324,t325,t328,t329⟩,A90,H⟩:=H
    replace H : ((impl_GetFrame.f k (([0,4,0,0,0,0,0,0,1] : List Int)) 0).bind fun bt334 => (if t329 = 0 then (if t328 = (wrap64 ((t311.length : Int) + 2)) then ((laws_sameFrame.f k t322 t323 t324 t325 t304 t305 t306 t307).bind fun t343 => (if t343 = true then (if (t311.length : Int) = (wrap64 ((t307.length : Int) + 9)) then (if bt334.2.2.2.2.2 = 2 then ((impl_FrameCode.f k t304 t305 t306 t307).bind fun t344 => ((spec_FrameCode.f k t304 t305 t306 t307).bind fun t345 => (laws_FnOneFrame.j0 k (t344 == t345)))) else (laws_FnOneFrame.j0 k false)) else (laws_FnOneFrame.j0 k false)) else (laws_FnOneFrame.j0 k false))) else (laws_FnOneFrame.j0 k false)) else (laws_FnOneFrame.j0 k false))) = some r:=H
    have A9:=Aside0.mk A90
    clear A90
    obtain ⟨y331,hy331⟩ : ∃ y_ : List Int,y_ = (([0,4,0,0,0,0,0,0,1] : List Int)):=⟨_,rfl⟩
    replace H : ((impl_GetFrame.f k y331 0).bind fun bt334 => (if t329 = 0 then (if t328 = (wrap64 ((t311.length : Int) + 2)) then ((laws_sameFrame.f k t322 t323 t324 t325 t304 t305 t306 t307).bind fun t343 => (if t343 = true then (if (t311.length : Int) = (wrap64 ((t307.length : Int) + 9)) then (if bt334.2.2.2.2.2 = 2 then ((impl_FrameCode.f k t304 t305 t306 t307).bind fun t344 => ((spec_FrameCode.f k t304 t305 t306 t307).bind fun t345 => (laws_FnOneFrame.j0 k (t344 == t345)))) else (laws_FnOneFrame.j0 k false)) else (laws_FnOneFrame.j0 k false)) else (laws_FnOneFrame.j0 k false))) else (laws_FnOneFrame.j0 k false)) else (laws_FnOneFrame.j0 k false))) = some r:=by first|(rw [hy331];with_reducible exact H)|(have H2_:=(Option.bind_some _ _).symm.trans H;rw [hy331];with_reducible exact H2_)|(have H2_:=(Option.bind_some _ _).symm.trans H;with_reducible exact H2_)|with_reducible exact H|(rw [hy331];exact H)|exact H
    have Ny331:=Aside0.mk hy331
    clear hy331
    replace H:=Option.bind_eq_some_iff.mp H
    obtain ⟨⟨t334,t335,t336,t337,t340,t341⟩,A100,H⟩:=H
    replace H : (if t329 = 0 then (if t328 = (wrap64 ((t311.length : Int) + 2)) then ((laws_sameFrame.f k t322 t323 t324 t325 t304 t305 t306 t307).bind fun t343 => (if t343 = true then (if (t311.length : Int) = (wrap64 ((t307.length : Int) + 9)) then (if t341 = 2 then ((impl_FrameCode.f k t304 t305 t306 t307).bind fun t344 => ((spec_FrameCode.f k t304 t305 t306 t307).bind fun t345 => (laws_FnOneFrame.j0 k (t344 == t345)))) else (laws_FnOneFrame.j0 k false)) else (laws_FnOneFrame.j0 k false)) else (laws_FnOneFrame.j0 k false))) else (laws_FnOneFrame.j0 k false)) else (laws_FnOneFrame.j0 k false)) = some r:=H
    have A10:=Aside0.mk A100
    clear A100
    have HC11:=Aside0.mk H
    clear H
    go_enter Try.func8,Try.ntmps8
    go_upto_region 9 with (first|((with_reducible refine gate_callee (f:=10) rfl ?_);refine goesL_ (some 12) rfl rfl Try.func10 (by kernel_rfl) rfl #[.slice A0 l0.length c0] rfl (by (try simp only [List.map_toArray,List.map_cons,List.map_nil]);first|done|rfl|(simp only [List.length_drop,List.length_take];rfl)) ?_;(with_reducible refine (laws_big.calls _ _ l0 false _ ?side1 ?side2 A2.out).mono ?_);(case side1 => repeat (first|exact HR0.out|(with_reducible refine Kd.C_alloc ?_ _)|(with_reducible refine Kd.C_drewN ?_ _)|(with_reducible refine Kd.C_drew ?_)));(case side2 => exact HC0.out);rintro e w' ⟨rfl,⟨nd,rfl⟩⟩;refine ⟨_,rfl,?_⟩)|((with_reducible refine gate_callee (f:=39) rfl ?_);refine goesL_ (some 14) rfl rfl Try.func39 (by kernel_rfl) rfl #[.slice A0 l0.length c0] rfl (by (try simp only [List.map_toArray,List.map_cons,List.map_nil]);first|done|rfl|(simp only [List.length_drop,List.length_take];rfl)) ?_;(with_reducible refine (spec_DrawPutFrame.calls k _ _ l0 t304 t305 t306 t307 _ ?side1 ?side2 A4.out).mono ?_);(case side1 => repeat (first|exact HR0.out|(with_reducible refine Kd.C_alloc ?_ _)|(with_reducible refine Kd.C_drewN ?_ _)|(with_reducible refine Kd.C_drew ?_)));(case side2 => exact HC0.out);rintro e w12 ⟨v308,rfl,ho0,hb⟩;refine ⟨_,rfl,?_⟩;have n0_:=Aside0.mk (Kd.R_lower ho0 (below_size (by repeat (first|(with_reducible first|exact HB.out|apply below_alloc|apply pw_below_drewN|apply below_drew1)|exact HB.out))));have n1_:=Aside0.mk (below_step (by repeat (first|(with_reducible first|exact HB.out|apply below_alloc|apply pw_below_drewN|apply below_drew1)|exact HB.out)) hb);clear HB;have HO309:=n0_;have HB:=n1_;clear n0_ n1_;(try clear hb);(try clear hb2);(try clear hk);(try clear hi);(try clear ho0))|((with_reducible refine gate_dst (N:=3) rfl ?_);(try (refine gate_guard (by rfl) ?_;dsimp only));refine box_event ?hg (N:=3) ?hd (cs:=#[.int .i64 0,.int .i64 0,.int .i64 0,.slice none 0 0]) (t:=59) ?hr ?_;(case hd => rfl);(case hg => rfl);(case hr => first|(go_simp;done)|(go_simp;rfl));intro gb310 hg w13 hbox hb;have n0_:=Aside0.mk (Kd.R_below (by (with_reducible repeat (first|apply k1_|apply k2_|apply k3_));exact HO309.out) hb);have n1_:=Aside0.mk (below_step (by repeat (first|(with_reducible first|exact HB.out|apply below_alloc|apply pw_below_drewN|apply below_drew1)|exact HB.out)) hb);have n2_:=Aside0.mk (hbox);have n3_:=Aside0.mk ((by rw [hg];exact (below_size (by repeat (first|(with_reducible first|exact HB.out|apply below_alloc|apply pw_below_drewN|apply below_drew1)|exact HB.out))) : w.heap.size ≤ gb310));have n4_:=Aside0.mk ((by rw [hg];exact (below_size (by repeat (first|(with_reducible first|exact HB.out|apply below_alloc|apply pw_below_drewN|apply below_drew1)|exact HB.out))) : w.heap.size ≤ gb310));clear HO309;clear HB;have HO309:=n0_;have HB:=n1_;have BK310:=n2_;have GW310:=n3_;have GE310:=n4_;clear n0_ n1_ n2_ n3_ n4_;clear hb hbox hg;have hcz14_0 : w13.cell? ⟨gb310,0,none⟩ = some (.int .i64 0):=(blk_cell BK310.out 0).trans rfl;have hcz14_1 : w13.cell? ⟨gb310,1,none⟩ = some (.int .i64 0):=(blk_cell BK310.out 1).trans rfl;have hcz14_2 : w13.cell? ⟨gb310,2,none⟩ = some (.int .i64 0):=(blk_cell BK310.out 2).trans rfl;have hcz14_3 : w13.cell? ⟨gb310,3,none⟩ = some (.slice none 0 0):=(blk_cell BK310.out 3).trans rfl;have hfz14_0:=blk_frozen BK310.out 0;have hfz14_1:=blk_frozen BK310.out 1;have hfz14_2:=blk_frozen BK310.out 2;have hfz14_3:=blk_frozen BK310.out 3;obtain ⟨Ao15,co15,eo15⟩:=Kd.R_slice HO309.out;subst eo15)|((with_reducible refine gate_callee (f:=40) rfl ?_);refine goesL_ (some 16) rfl rfl Try.func40 (by kernel_rfl) rfl #[.agg #[.int .i64 t304,.int .i64 t305,.int .i64 t306,.slice Ao15 t307.length co15]] rfl (by (try simp only [List.map_toArray,List.map_cons,List.map_nil]);first|done|rfl|(simp only [List.length_drop,List.length_take];rfl)) ?_;(with_reducible refine (impl_PutFrame.calls k t304 t305 t306 _ _ t307 t311 _ ?side1 ?side2 A5.out).mono ?_);(case side1 => refine (Kd.R_reads' (e:=5) (base:=w.heap.size) (ok:=fun k_ => True) (n:=t307.length) (c:=co15) ?_).2.2;exact (by (with_reducible repeat (first|apply k1_|apply k2_|apply k3_));exact (Kd.R_mono (k4_ (p:=⟨gb310,3,none⟩) (k4_ (p:=⟨gb310,2,none⟩) (k4_ (p:=⟨gb310,1,none⟩) (k4_ (p:=⟨gb310,0,none⟩) (Kd.R_types HO309.out BK310.out (by decide)) (fun _ hk => hk.2) (.int .i64 t304)) (fun _ hk => hk.2) (.int .i64 t305)) (fun _ hk => hk.2) (.int .i64 t306)) (fun _ hk => hk.2) (.slice Ao15 t307.length co15)) (fun _ h_ => h_.1))));(case side2 => exact (Kd.R_reads' HO309.out).2.1);rintro e w16 ⟨v312,rfl,ho0,hb⟩;refine ⟨_,rfl,?_⟩;have n0_:=Aside0.mk (Kd.R_elder' (by (with_reducible repeat (first|apply k1_|apply k2_|apply k3_));exact (Kd.R_mono (k4_ (p:=⟨gb310,3,none⟩) (k4_ (p:=⟨gb310,2,none⟩) (k4_ (p:=⟨gb310,1,none⟩) (k4_ (p:=⟨gb310,0,none⟩) (Kd.R_types HO309.out BK310.out (by decide)) (fun _ hk => hk.2) (.int .i64 t304)) (fun _ hk => hk.2) (.int .i64 t305)) (fun _ hk => hk.2) (.int .i64 t306)) (fun _ hk => hk.2) (.slice Ao15 t307.length co15)) (fun _ h_ => h_.1))) (Kd.R_base ho0) hb);have n1_:=Aside0.mk (Kd.R_lower (Kd.R_new' ho0 (Kd.R_lt (by (with_reducible repeat (first|apply k1_|apply k2_|apply k3_));exact (Kd.R_mono (k4_ (p:=⟨gb310,3,none⟩) (k4_ (p:=⟨gb310,2,none⟩) (k4_ (p:=⟨gb310,1,none⟩) (k4_ (p:=⟨gb310,0,none⟩) (Kd.R_types HO309.out BK310.out (by decide)) (fun _ hk => hk.2) (.int .i64 t304)) (fun _ hk => hk.2) (.int .i64 t305)) (fun _ hk => hk.2) (.int .i64 t306)) (fun _ hk => hk.2) (.slice Ao15 t307.length co15)) (fun _ h_ => h_.1))))) (below_size (by repeat (first|(with_reducible first|exact HB.out|apply below_alloc|apply pw_below_drewN|apply below_drew1|refine below_set ?_ GE310.out)|exact HB.out))));have n2_:=Aside0.mk (blk_below (g:=gb310) (o:=.cells #[.int .i64 t304,.int .i64 t305,.int .i64 t306,.slice Ao15 t307.length co15] 59 (0,0)) (by (with_reducible repeat (first|refine k6_ ?_ _|refine k7_ ?_|refine k5_ ?_ _));refine blk_put (cs:=#[.int .i64 t304,.int .i64 t305,.int .i64 t306,.slice none 0 0]) ?_ 3 _ rfl;(with_reducible repeat (first|refine k6_ ?_ _|refine k7_ ?_|refine k5_ ?_ _));refine blk_put (cs:=#[.int .i64 t304,.int .i64 t305,.int .i64 0,.slice none 0 0]) ?_ 2 _ rfl;(with_reducible repeat (first|refine k6_ ?_ _|refine k7_ ?_|refine k5_ ?_ _));refine blk_put (cs:=#[.int .i64 t304,.int .i64 0,.int .i64 0,.slice none 0 0]) ?_ 1 _ rfl;(with_reducible repeat (first|refine k6_ ?_ _|refine k7_ ?_|refine k5_ ?_ _));refine blk_put (cs:=#[.int .i64 0,.int .i64 0,.int .i64 0,.slice none 0 0]) ?_ 0 _ rfl;(with_reducible repeat (first|refine k6_ ?_ _|refine k7_ ?_|refine k5_ ?_ _));exact BK310.out) hb);have n3_:=Aside0.mk (below_step (by repeat (first|(with_reducible first|exact HB.out|apply below_alloc|apply pw_below_drewN|apply below_drew1|refine below_set ?_ GE310.out)|exact HB.out)) hb);clear HO309;clear BK310;clear HB;have HO309:=n0_;have HO313:=n1_;have BK310:=n2_;have HB:=n3_;clear n0_ n1_ n2_ n3_;(try clear hb);(try clear hb2);(try clear hk);(try clear hi);(try clear ho0);have hcz17_0 : w16.cell? ⟨gb310,0,none⟩ = some (.int .i64 t304):=(blk_cell BK310.out 0).trans rfl;have hcz17_1 : w16.cell? ⟨gb310,1,none⟩ = some (.int .i64 t305):=(blk_cell BK310.out 1).trans rfl;have hcz17_2 : w16.cell? ⟨gb310,2,none⟩ = some (.int .i64 t306):=(blk_cell BK310.out 2).trans rfl;have hcz17_3 : w16.cell? ⟨gb310,3,none⟩ = some (.slice Ao15 t307.length co15):=(blk_cell BK310.out 3).trans rfl;have hfz17_0:=blk_frozen BK310.out 0;have hfz17_1:=blk_frozen BK310.out 1;have hfz17_2:=blk_frozen BK310.out 2;have hfz17_3:=blk_frozen BK310.out 3)|((with_reducible refine gate_callee (f:=41) rfl ?_);refine goesL_ (some 18) rfl rfl Try.func41 (by kernel_rfl) rfl #[.agg #[.int .i64 t304,.int .i64 t305,.int .i64 t306,.slice Ao15 t307.length co15]] rfl (by (try simp only [List.map_toArray,List.map_cons,List.map_nil]);first|done|rfl|(simp only [List.length_drop,List.length_take];rfl)) ?_;(with_reducible refine (spec_FrameOk.calls t304 t305 t306 _ _ t307 true _ ?side1 ?side2 A6.out).mono ?_);(case side1 => repeat (first|exact (Kd.R_reads' HO309.out).2.2|(with_reducible refine Kd.C_alloc ?_ _)|(with_reducible refine Kd.C_drewN ?_ _)|(with_reducible refine Kd.C_drew ?_)));(case side2 => exact (Kd.R_reads' HO309.out).2.1);rintro e w18 ⟨rfl,hb⟩;refine ⟨_,rfl,?_⟩;have n0_:=Aside0.mk (Kd.R_below (by (with_reducible repeat (first|apply k1_|apply k2_|apply k3_));exact HO309.out) hb);have n1_:=Aside0.mk (Kd.R_below (by (with_reducible repeat (first|apply k1_|apply k2_|apply k3_));exact HO313.out) hb);have n2_:=Aside0.mk (blk_below (g:=gb310) (o:=.cells #[.int .i64 t304,.int .i64 t305,.int .i64 t306,.slice Ao15 t307.length co15] 59 (0,0)) (by (with_reducible repeat (first|refine k6_ ?_ _|refine k7_ ?_|refine k5_ ?_ _));exact BK310.out) hb);have n3_:=Aside0.mk (below_step (by repeat (first|(with_reducible first|exact HB.out|apply below_alloc|apply pw_below_drewN|apply below_drew1|refine below_set ?_ GE310.out)|exact HB.out)) hb);clear HO309;clear HO313;clear BK310;clear HB;have HO309:=n0_;have HO313:=n1_;have BK310:=n2_;have HB:=n3_;clear n0_ n1_ n2_ n3_;(try clear hb);(try clear hb2);(try clear hk);(try clear hi))|((with_reducible refine gate_dst (N:=29) rfl ?_);(try (refine gate_guard (by rfl) ?_;dsimp only));refine Kd.R_lit (Kd.int .u8) _ 5 ?hg (N:=29) ?hd (xs:=([9,9] : List Int)) (inner:=[.int .u8 9,.int .u8 9]) (ok:=fun _ => True) (okp:=fun _ => True) ?hr ?hp (fun _ hk => hk) trivial (Below.refl _ _) (Nat.le_refl _) (by simp) ?_;(case hd => rfl);(case hg => rfl);(case hr => first|(go_simp;done)|(go_simp;rfl));(case hp => exact (Reps.one (show Kd.M (Kd.int .u8) _ _ _ 9 [.int .u8 9] from rfl) (Reps.one (show Kd.M (Kd.int .u8) _ _ _ 9 [.int .u8 9] from rfl) (Reps.none _ _))));intro v317 w19 ho20 hb hg_ hnew_;clear hg_ hnew_;(first|rw [← Ny316.out] at ho20|(simp only [Int.reduceToNat] at ho20;rw [← Ny316.out] at ho20));have n0_:=Aside0.mk (Kd.R_elder' (by (with_reducible repeat (first|apply k1_|apply k2_|apply k3_));exact HO309.out) (Kd.R_base ho20) hb);have n1_:=Aside0.mk (Kd.R_elder' (by (with_reducible repeat (first|apply k1_|apply k2_|apply k3_));exact HO313.out) (Kd.R_base ho20) hb);have n2_:=Aside0.mk (Kd.R_lower (Kd.R_new' (Kd.R_new' ho20 (Kd.R_lt (by (with_reducible repeat (first|apply k1_|apply k2_|apply k3_));exact HO309.out))) (Kd.R_lt (by (with_reducible repeat (first|apply k1_|apply k2_|apply k3_));exact HO313.out))) (below_size (by repeat (first|(with_reducible first|exact HB.out|apply below_alloc|apply pw_below_drewN|apply below_drew1|refine below_set ?_ GE310.out)|exact HB.out))));have n3_:=Aside0.mk (blk_below (g:=gb310) (o:=.cells #[.int .i64 t304,.int .i64 t305,.int .i64 t306,.slice Ao15 t307.length co15] 59 (0,0)) (by (with_reducible repeat (first|refine k6_ ?_ _|refine k7_ ?_|refine k5_ ?_ _));exact BK310.out) hb);have n4_:=Aside0.mk (below_step (by repeat (first|(with_reducible first|exact HB.out|apply below_alloc|apply pw_below_drewN|apply below_drew1|refine below_set ?_ GE310.out)|exact HB.out)) hb);clear HO309;clear HO313;clear BK310;clear HB;have HO309:=n0_;have HO313:=n1_;have HO318:=n2_;have BK310:=n3_;have HB:=n4_;clear n0_ n1_ n2_ n3_ n4_;clear hb ho20;obtain ⟨Ao22,co22,eo22⟩:=Kd.R_slice HO313.out;subst eo22)|((with_reducible refine gate_builtin (b:=.append) (xs:=#[.tmp 29,.tmp 30]) rfl ?_);(try (refine gate_guard (by rfl) ?_;dsimp only));at_builtin;refine Kd.R_append_rows (Kd.int .u8) (w0:=w) w.heap.size rfl (.tmp 29) (.tmp 30) 22 5 (.int .u8 0) 1 rfl Try.underlying22 info5 rfl (by decide) (by omega) v317 y316 t311 _ _ _ (fun k_ => some k_ ≠ (.slice Ao15 t307.length co15 : Value).ownBlock ∧ some k_ ≠ (.slice Ao22 t311.length co22 : Value).ownBlock) (fun _ => False) rfl rfl ?aO ?aR (fun _ _ h => h) (fun _ h => h.elim) ?aF ?aB ?aS ?aL ?_;(case aR => repeat (first|exact (Kd.R_reads' HO313.out).2.2|(with_reducible refine Kd.C_alloc ?_ _)|(with_reducible refine Kd.C_drewN ?_ _)|(with_reducible refine Kd.C_drew ?_)));(case aB => exact (by repeat (first|(with_reducible first|exact HB.out|apply below_alloc|apply pw_below_drewN|apply below_drew1|refine below_set ?_ GE310.out)|exact HB.out)));(case aF => exact (fun k_ hk => ⟨Kd.fresh' (Kd.R_lt (by (with_reducible repeat (first|apply k1_|apply k2_|apply k3_));exact HO309.out)) k_ hk,Kd.fresh' (Kd.R_lt (by (with_reducible repeat (first|apply k1_|apply k2_|apply k3_));exact HO313.out)) k_ hk⟩));(case aO => exact (by (with_reducible repeat (first|apply k1_|apply k2_|apply k3_));exact Kd.R_mono HO318.out (fun _ hk => ⟨(by first|exact hk.1.2|(have hq_:=hk;simp only [ne_eq] at hq_ ⊢;simp only [hq_,k8_,and_self])),(by first|exact hk.2|(have hq_:=hk;simp only [ne_eq] at hq_ ⊢;simp only [hq_,k8_,and_self]))⟩)));(case aS => exact (below_size (by repeat (first|(with_reducible first|exact HB.out|apply below_alloc|apply pw_below_drewN|apply below_drew1|refine below_set ?_ GE310.out)|exact HB.out))));(case aL => have:=LMc8.out;omega);intro v320 w21 ho hb hg hat;(first|(with_reducible rw [← Ny319.out] at ho)|(simp only [Int.reduceToNat] at ho;with_reducible rw [← Ny319.out] at ho)|rw [← Ny319.out] at ho);have n0_:=Aside0.mk (Kd.R_after (ok:=(fun k_ => some k_ ≠ (.slice Ao22 t311.length co22 : Value).ownBlock)) (by (with_reducible repeat (first|apply k1_|apply k2_|apply k3_));exact Kd.R_mono HO309.out (fun _ hk => ⟨(by first|exact hk.1.2|(have hq_:=hk;simp only [ne_eq] at hq_ ⊢;simp only [hq_,k8_,and_self])),(by first|exact hk.2|(have hq_:=hk;simp only [ne_eq] at hq_ ⊢;simp only [hq_,k8_,and_self]))⟩)) hg hat);have n1_:=Aside0.mk (blk_grown (g:=gb310) (o:=.cells #[.int .i64 t304,.int .i64 t305,.int .i64 t306,.slice Ao15 t307.length co15] 59 (0,0)) (by (with_reducible repeat (first|refine k6_ ?_ _|refine k7_ ?_|refine k5_ ?_ _));exact BK310.out) hg (Kd.R_ne HO318.out BK310.out (by decide)));have n2_:=Aside0.mk (Kd.R_after (ok:=(fun k_ => some k_ ≠ (.slice Ao15 t307.length co15 : Value).ownBlock)) (by (with_reducible repeat (first|apply k1_|apply k2_|apply k3_));exact Kd.R_mono HO313.out (fun _ hk => ⟨(by first|exact hk.1.2|(have hq_:=hk;simp only [ne_eq] at hq_ ⊢;simp only [hq_,k8_,and_self])),(by first|exact hk.2|(have hq_:=hk;simp only [ne_eq] at hq_ ⊢;simp only [hq_,k8_,and_self]))⟩)) hg hat);have n3_:=Aside0.mk (hb);have n4_:=Aside0.mk (ho);clear HO309;clear BK310;clear HO313;clear HB;clear HO318;have HO309:=n0_;have BK310:=n1_;have HO313:=n2_;have HB:=n3_;have HO321:=n4_;clear n0_ n1_ n2_ n3_ n4_;clear ho hb hg hat;obtain ⟨Ao23,co23,eo23⟩:=Kd.R_slice HO321.out;subst eo23)|((with_reducible refine gate_callee (f:=42) rfl ?_);refine goesL_ (some 32) rfl rfl Try.func42 (by kernel_rfl) rfl #[.slice Ao23 y319.length co23,.int .i64 2] rfl (by (try simp only [List.map_toArray,List.map_cons,List.map_nil]);first|done|rfl|(simp only [List.length_drop,List.length_take];rfl)) ?_;(with_reducible refine (impl_GetFrame.calls k _ _ y319 2 t322 t323 t324 t325 t328 t329 _ ?side1 ?side2 A9.out).mono ?_);(case side1 => repeat (first|exact (Kd.R_reads' HO321.out).2.2|(with_reducible refine Kd.C_alloc ?_ _)|(with_reducible refine Kd.C_drewN ?_ _)|(with_reducible refine Kd.C_drew ?_)));(case side2 => exact (Kd.R_reads' HO321.out).2.1);rintro e w24 ⟨v326,rfl,ho0,hb⟩;refine ⟨_,rfl,?_⟩;have n0_:=Aside0.mk (Kd.R_elder' (by (with_reducible repeat (first|apply k1_|apply k2_|apply k3_));exact HO309.out) (Kd.R_base ho0) hb);have n1_:=Aside0.mk (Kd.R_elder' (by (with_reducible repeat (first|apply k1_|apply k2_|apply k3_));exact HO313.out) (Kd.R_base ho0) hb);have n2_:=Aside0.mk (Kd.R_elder' (by (with_reducible repeat (first|apply k1_|apply k2_|apply k3_));exact HO321.out) (Kd.R_base ho0) hb);have n3_:=Aside0.mk (Kd.R_lower (Kd.R_new' (Kd.R_new' (Kd.R_new' ho0 (Kd.R_lt (by (with_reducible repeat (first|apply k1_|apply k2_|apply k3_));exact HO309.out))) (Kd.R_lt (by (with_reducible repeat (first|apply k1_|apply k2_|apply k3_));exact HO313.out))) (Kd.R_lt (by (with_reducible repeat (first|apply k1_|apply k2_|apply k3_));exact HO321.out))) (below_size (by repeat (first|(with_reducible first|exact HB.out|apply below_alloc|apply pw_below_drewN|apply below_drew1|refine below_set ?_ GE310.out)|exact HB.out))));have n4_:=Aside0.mk (blk_below (g:=gb310) (o:=.cells #[.int .i64 t304,.int .i64 t305,.int .i64 t306,.slice Ao15 t307.length co15] 59 (0,0)) (by (with_reducible repeat (first|refine k6_ ?_ _|refine k7_ ?_|refine k5_ ?_ _));exact BK310.out) hb);have n5_:=Aside0.mk (below_step (by repeat (first|(with_reducible first|exact HB.out|apply below_alloc|apply pw_below_drewN|apply below_drew1|refine below_set ?_ GE310.out)|exact HB.out)) hb);clear HO309;clear HO313;clear HO321;clear BK310;clear HB;have HO309:=n0_;have HO313:=n1_;have HO321:=n2_;have HO327:=n3_;have BK310:=n4_;have HB:=n5_;clear n0_ n1_ n2_ n3_ n4_ n5_;(try clear hb);(try clear hb2);(try clear hk);(try clear hi);(try clear ho0))|((with_reducible refine gate_dst (N:=5) rfl ?_);(try (refine gate_guard (by rfl) ?_;dsimp only));refine box_event ?hg (N:=5) ?hd (cs:=#[.int .i64 0,.int .i64 0,.int .i64 0,.slice none 0 0]) (t:=59) ?hr ?_;(case hd => rfl);(case hg => rfl);(case hr => first|(go_simp;done)|(go_simp;rfl));intro gb330 hg w25 hbox hb;have n0_:=Aside0.mk (Kd.R_below (by (with_reducible repeat (first|apply k1_|apply k2_|apply k3_));exact HO309.out) hb);have n1_:=Aside0.mk (Kd.R_below (by (with_reducible repeat (first|apply k1_|apply k2_|apply k3_));exact HO313.out) hb);have n2_:=Aside0.mk (Kd.R_below (by (with_reducible repeat (first|apply k1_|apply k2_|apply k3_));exact HO321.out) hb);have n3_:=Aside0.mk (Kd.R_below (by (with_reducible repeat (first|apply k1_|apply k2_|apply k3_));exact HO327.out) hb);have n4_:=Aside0.mk (blk_below (g:=gb310) (o:=.cells #[.int .i64 t304,.int .i64 t305,.int .i64 t306,.slice Ao15 t307.length co15] 59 (0,0)) (by (with_reducible repeat (first|refine k6_ ?_ _|refine k7_ ?_|refine k5_ ?_ _));exact BK310.out) hb);have n5_:=Aside0.mk (below_step (by repeat (first|(with_reducible first|exact HB.out|apply below_alloc|apply pw_below_drewN|apply below_drew1|refine below_set ?_ GE310.out)|exact HB.out)) hb);have n6_:=Aside0.mk (hbox);have n7_:=Aside0.mk ((by rw [hg];exact (below_size (by repeat (first|(with_reducible first|exact HB.out|apply below_alloc|apply pw_below_drewN|apply below_drew1|refine below_set ?_ GE310.out)|exact HB.out))) : w.heap.size ≤ gb330));have n8_:=Aside0.mk ((by rw [hg];exact (below_size (by repeat (first|(with_reducible first|exact HB.out|apply below_alloc|apply pw_below_drewN|apply below_drew1|refine below_set ?_ GE310.out)|exact HB.out))) : w.heap.size ≤ gb330));have n9_:=Aside0.mk ((by rw [hg];exact Nat.ne_of_lt (blk_lt (g:=gb310) (o:=.cells #[.int .i64 t304,.int .i64 t305,.int .i64 t306,.slice Ao15 t307.length co15] 59 (0,0)) (by (with_reducible repeat (first|refine k6_ ?_ _|refine k7_ ?_|refine k5_ ?_ _));exact BK310.out)) : gb310 ≠ gb330));have n10_:=Aside0.mk ((by rw [hg];exact Nat.ne_of_gt (blk_lt (g:=gb310) (o:=.cells #[.int .i64 t304,.int .i64 t305,.int .i64 t306,.slice Ao15 t307.length co15] 59 (0,0)) (by (with_reducible repeat (first|refine k6_ ?_ _|refine k7_ ?_|refine k5_ ?_ _));exact BK310.out)) : gb330 ≠ gb310));clear HO309;clear HO313;clear HO321;clear HO327;clear BK310;clear HB;have HO309:=n0_;have HO313:=n1_;have HO321:=n2_;have HO327:=n3_;have BK310:=n4_;have HB:=n5_;have BK330:=n6_;have GW330:=n7_;have GE330:=n8_;have NB310_330:=n9_;have NB330_310:=n10_;clear n0_ n1_ n2_ n3_ n4_ n5_ n6_ n7_ n8_ n9_ n10_;clear hb hbox hg;have hnb26:=NB330_310.out;have hnc26:=NB310_330.out;have hcz27_0 : w25.cell? ⟨gb330,0,none⟩ = some (.int .i64 0):=(blk_cell BK330.out 0).trans rfl;have hcz27_1 : w25.cell? ⟨gb330,1,none⟩ = some (.int .i64 0):=(blk_cell BK330.out 1).trans rfl;have hcz27_2 : w25.cell? ⟨gb330,2,none⟩ = some (.int .i64 0):=(blk_cell BK330.out 2).trans rfl;have hcz27_3 : w25.cell? ⟨gb330,3,none⟩ = some (.slice none 0 0):=(blk_cell BK330.out 3).trans rfl;have hfz27_0:=blk_frozen BK330.out 0;have hfz27_1:=blk_frozen BK330.out 1;have hfz27_2:=blk_frozen BK330.out 2;have hfz27_3:=blk_frozen BK330.out 3;obtain ⟨Ao28,co28,eo28⟩:=Kd.R_slice HO327.out;subst eo28)|((with_reducible refine gate_dst (N:=37) rfl ?_);(try (refine gate_guard (by rfl) ?_;dsimp only));refine Kd.R_lit (Kd.int .u8) _ 5 ?hg (N:=37) ?hd (xs:=([0,4,0,0,0,0,0,0,1] : List Int)) (inner:=[.int .u8 0,.int .u8 4,.int .u8 0,.int .u8 0,.int .u8 0,.int .u8 0,.int .u8 0,.int .u8 0,.int .u8 1]) (ok:=fun _ => True) (okp:=fun _ => True) ?hr ?hp (fun _ hk => hk) trivial (Below.refl _ _) (Nat.le_refl _) (by simp) ?_;(case hd => rfl);(case hg => rfl);(case hr => first|(go_simp;done)|(go_simp;rfl));(case hp => exact (Reps.one (show Kd.M (Kd.int .u8) _ _ _ 0 [.int .u8 0] from rfl) (Reps.one (show Kd.M (Kd.int .u8) _ _ _ 4 [.int .u8 4] from rfl) (Reps.one (show Kd.M (Kd.int .u8) _ _ _ 0 [.int .u8 0] from rfl) (Reps.one (show Kd.M (Kd.int .u8) _ _ _ 0 [.int .u8 0] from rfl) (Reps.one (show Kd.M (Kd.int .u8) _ _ _ 0 [.int .u8 0] from rfl) (Reps.one (show Kd.M (Kd.int .u8) _ _ _ 0 [.int .u8 0] from rfl) (Reps.one (show Kd.M (Kd.int .u8) _ _ _ 0 [.int .u8 0] from rfl) (Reps.one (show Kd.M (Kd.int .u8) _ _ _ 0 [.int .u8 0] from rfl) (Reps.one (show Kd.M (Kd.int .u8) _ _ _ 1 [.int .u8 1] from rfl) (Reps.none _ _)))))))))));intro v332 w29 ho30 hb hg_ hnew_;clear hg_ hnew_;(first|rw [← Ny331.out] at ho30|(simp only [Int.reduceToNat] at ho30;rw [← Ny331.out] at ho30));have n0_:=Aside0.mk (Kd.R_elder' (by (with_reducible repeat (first|apply k1_|apply k2_|apply k3_));exact (Kd.R_mono (k4_ (p:=⟨gb330,3,none⟩) (k4_ (p:=⟨gb330,2,none⟩) (k4_ (p:=⟨gb330,1,none⟩) (k4_ (p:=⟨gb330,0,none⟩) (Kd.R_types HO309.out BK330.out (by decide)) (fun _ hk => hk.2) (.int .i64 t322)) (fun _ hk => hk.2) (.int .i64 t323)) (fun _ hk => hk.2) (.int .i64 t324)) (fun _ hk => hk.2) (.slice Ao28 t325.length co28)) (fun _ h_ => h_.1))) (Kd.R_base ho30) hb);have n1_:=Aside0.mk (Kd.R_elder' (by (with_reducible repeat (first|apply k1_|apply k2_|apply k3_));exact (Kd.R_mono (k4_ (p:=⟨gb330,3,none⟩) (k4_ (p:=⟨gb330,2,none⟩) (k4_ (p:=⟨gb330,1,none⟩) (k4_ (p:=⟨gb330,0,none⟩) (Kd.R_types HO313.out BK330.out (by decide)) (fun _ hk => hk.2) (.int .i64 t322)) (fun _ hk => hk.2) (.int .i64 t323)) (fun _ hk => hk.2) (.int .i64 t324)) (fun _ hk => hk.2) (.slice Ao28 t325.length co28)) (fun _ h_ => h_.1))) (Kd.R_base ho30) hb);have n2_:=Aside0.mk (Kd.R_elder' (by (with_reducible repeat (first|apply k1_|apply k2_|apply k3_));exact (Kd.R_mono (k4_ (p:=⟨gb330,3,none⟩) (k4_ (p:=⟨gb330,2,none⟩) (k4_ (p:=⟨gb330,1,none⟩) (k4_ (p:=⟨gb330,0,none⟩) (Kd.R_types HO321.out BK330.out (by decide)) (fun _ hk => hk.2) (.int .i64 t322)) (fun _ hk => hk.2) (.int .i64 t323)) (fun _ hk => hk.2) (.int .i64 t324)) (fun _ hk => hk.2) (.slice Ao28 t325.length co28)) (fun _ h_ => h_.1))) (Kd.R_base ho30) hb);have n3_:=Aside0.mk (Kd.R_elder' (by (with_reducible repeat (first|apply k1_|apply k2_|apply k3_));exact (Kd.R_mono (k4_ (p:=⟨gb330,3,none⟩) (k4_ (p:=⟨gb330,2,none⟩) (k4_ (p:=⟨gb330,1,none⟩) (k4_ (p:=⟨gb330,0,none⟩) (Kd.R_types HO327.out BK330.out (by decide)) (fun _ hk => hk.2) (.int .i64 t322)) (fun _ hk => hk.2) (.int .i64 t323)) (fun _ hk => hk.2) (.int .i64 t324)) (fun _ hk => hk.2) (.slice Ao28 t325.length co28)) (fun _ h_ => h_.1))) (Kd.R_base ho30) hb);have n4_:=Aside0.mk (Kd.R_lower (Kd.R_new' (Kd.R_new' (Kd.R_new' (Kd.R_new' ho30 (Kd.R_lt (by (with_reducible repeat (first|apply k1_|apply k2_|apply k3_));exact (Kd.R_mono (k4_ (p:=⟨gb330,3,none⟩) (k4_ (p:=⟨gb330,2,none⟩) (k4_ (p:=⟨gb330,1,none⟩) (k4_ (p:=⟨gb330,0,none⟩) (Kd.R_types HO309.out BK330.out (by decide)) (fun _ hk => hk.2) (.int .i64 t322)) (fun _ hk => hk.2) (.int .i64 t323)) (fun _ hk => hk.2) (.int .i64 t324)) (fun _ hk => hk.2) (.slice Ao28 t325.length co28)) (fun _ h_ => h_.1))))) (Kd.R_lt (by (with_reducible repeat (first|apply k1_|apply k2_|apply k3_));exact (Kd.R_mono (k4_ (p:=⟨gb330,3,none⟩) (k4_ (p:=⟨gb330,2,none⟩) (k4_ (p:=⟨gb330,1,none⟩) (k4_ (p:=⟨gb330,0,none⟩) (Kd.R_types HO313.out BK330.out (by decide)) (fun _ hk => hk.2) (.int .i64 t322)) (fun _ hk => hk.2) (.int .i64 t323)) (fun _ hk => hk.2) (.int .i64 t324)) (fun _ hk => hk.2) (.slice Ao28 t325.length co28)) (fun _ h_ => h_.1))))) (Kd.R_lt (by (with_reducible repeat (first|apply k1_|apply k2_|apply k3_));exact (Kd.R_mono (k4_ (p:=⟨gb330,3,none⟩) (k4_ (p:=⟨gb330,2,none⟩) (k4_ (p:=⟨gb330,1,none⟩) (k4_ (p:=⟨gb330,0,none⟩) (Kd.R_types HO321.out BK330.out (by decide)) (fun _ hk => hk.2) (.int .i64 t322)) (fun _ hk => hk.2) (.int .i64 t323)) (fun _ hk => hk.2) (.int .i64 t324)) (fun _ hk => hk.2) (.slice Ao28 t325.length co28)) (fun _ h_ => h_.1))))) (Kd.R_lt (by (with_reducible repeat (first|apply k1_|apply k2_|apply k3_));exact (Kd.R_mono (k4_ (p:=⟨gb330,3,none⟩) (k4_ (p:=⟨gb330,2,none⟩) (k4_ (p:=⟨gb330,1,none⟩) (k4_ (p:=⟨gb330,0,none⟩) (Kd.R_types HO327.out BK330.out (by decide)) (fun _ hk => hk.2) (.int .i64 t322)) (fun _ hk => hk.2) (.int .i64 t323)) (fun _ hk => hk.2) (.int .i64 t324)) (fun _ hk => hk.2) (.slice Ao28 t325.length co28)) (fun _ h_ => h_.1))))) (below_size (by repeat (first|(with_reducible first|exact HB.out|apply below_alloc|apply pw_below_drewN|apply below_drew1|refine below_set ?_ GE310.out|refine below_set ?_ GE330.out)|exact HB.out))));have n5_:=Aside0.mk (blk_below (g:=gb310) (o:=.cells #[.int .i64 t304,.int .i64 t305,.int .i64 t306,.slice Ao15 t307.length co15] 59 (0,0)) (by (with_reducible repeat (first|refine k6_ ?_ _|refine k7_ ?_|refine k5_ ?_ _));refine blk_far ?_ NB310_330.out _;(with_reducible repeat (first|refine k6_ ?_ _|refine k7_ ?_|refine k5_ ?_ _));refine blk_far ?_ NB310_330.out _;(with_reducible repeat (first|refine k6_ ?_ _|refine k7_ ?_|refine k5_ ?_ _));refine blk_far ?_ NB310_330.out _;(with_reducible repeat (first|refine k6_ ?_ _|refine k7_ ?_|refine k5_ ?_ _));refine blk_far ?_ NB310_330.out _;(with_reducible repeat (first|refine k6_ ?_ _|refine k7_ ?_|refine k5_ ?_ _));exact BK310.out) hb);have n6_:=Aside0.mk (blk_below (g:=gb330) (o:=.cells #[.int .i64 t322,.int .i64 t323,.int .i64 t324,.slice Ao28 t325.length co28] 59 (0,0)) (by (with_reducible repeat (first|refine k6_ ?_ _|refine k7_ ?_|refine k5_ ?_ _));refine blk_put (cs:=#[.int .i64 t322,.int .i64 t323,.int .i64 t324,.slice none 0 0]) ?_ 3 _ rfl;(with_reducible repeat (first|refine k6_ ?_ _|refine k7_ ?_|refine k5_ ?_ _));refine blk_put (cs:=#[.int .i64 t322,.int .i64 t323,.int .i64 0,.slice none 0 0]) ?_ 2 _ rfl;(with_reducible repeat (first|refine k6_ ?_ _|refine k7_ ?_|refine k5_ ?_ _));refine blk_put (cs:=#[.int .i64 t322,.int .i64 0,.int .i64 0,.slice none 0 0]) ?_ 1 _ rfl;(with_reducible repeat (first|refine k6_ ?_ _|refine k7_ ?_|refine k5_ ?_ _));refine blk_put (cs:=#[.int .i64 0,.int .i64 0,.int .i64 0,.slice none 0 0]) ?_ 0 _ rfl;(with_reducible repeat (first|refine k6_ ?_ _|refine k7_ ?_|refine k5_ ?_ _));exact BK330.out) hb);have n7_:=Aside0.mk (below_step (by repeat (first|(with_reducible first|exact HB.out|apply below_alloc|apply pw_below_drewN|apply below_drew1|refine below_set ?_ GE310.out|refine below_set ?_ GE330.out)|exact HB.out)) hb);clear HO309;clear HO313;clear HO321;clear HO327;clear BK310;clear BK330;clear HB;have HO309:=n0_;have HO313:=n1_;have HO321:=n2_;have HO327:=n3_;have HO333:=n4_;have BK310:=n5_;have BK330:=n6_;have HB:=n7_;clear n0_ n1_ n2_ n3_ n4_ n5_ n6_ n7_;clear hb ho30;obtain ⟨Ao31,co31,eo31⟩:=Kd.R_slice HO333.out;subst eo31)|((with_reducible refine gate_callee (f:=42) rfl ?_);refine goesL_ (some 38) rfl rfl Try.func42 (by kernel_rfl) rfl #[.slice Ao31 y331.length co31,.int .i64 0] rfl (by (try simp only [List.map_toArray,List.map_cons,List.map_nil]);first|done|rfl|(simp only [List.length_drop,List.length_take];rfl)) ?_;(with_reducible refine (impl_GetFrame.calls k _ _ y331 0 t334 t335 t336 t337 t340 t341 _ ?side1 ?side2 A10.out).mono ?_);(case side1 => repeat (first|exact (Kd.R_reads' HO333.out).2.2|(with_reducible refine Kd.C_alloc ?_ _)|(with_reducible refine Kd.C_drewN ?_ _)|(with_reducible refine Kd.C_drew ?_)));(case side2 => exact (Kd.R_reads' HO333.out).2.1);rintro e w32 ⟨v338,rfl,ho0,hb⟩;refine ⟨_,rfl,?_⟩;have n0_:=Aside0.mk (Kd.R_elder' (by (with_reducible repeat (first|apply k1_|apply k2_|apply k3_));exact HO309.out) (Kd.R_base ho0) hb);have n1_:=Aside0.mk (Kd.R_elder' (by (with_reducible repeat (first|apply k1_|apply k2_|apply k3_));exact HO313.out) (Kd.R_base ho0) hb);have n2_:=Aside0.mk (Kd.R_elder' (by (with_reducible repeat (first|apply k1_|apply k2_|apply k3_));exact HO321.out) (Kd.R_base ho0) hb);have n3_:=Aside0.mk (Kd.R_elder' (by (with_reducible repeat (first|apply k1_|apply k2_|apply k3_));exact HO327.out) (Kd.R_base ho0) hb);have n4_:=Aside0.mk (Kd.R_elder' (by (with_reducible repeat (first|apply k1_|apply k2_|apply k3_));exact HO333.out) (Kd.R_base ho0) hb);have n5_:=Aside0.mk (Kd.R_lower (Kd.R_new' (Kd.R_new' (Kd.R_new' (Kd.R_new' (Kd.R_new' ho0 (Kd.R_lt (by (with_reducible repeat (first|apply k1_|apply k2_|apply k3_));exact HO309.out))) (Kd.R_lt (by (with_reducible repeat (first|apply k1_|apply k2_|apply k3_));exact HO313.out))) (Kd.R_lt (by (with_reducible repeat (first|apply k1_|apply k2_|apply k3_));exact HO321.out))) (Kd.R_lt (by (with_reducible repeat (first|apply k1_|apply k2_|apply k3_));exact HO327.out))) (Kd.R_lt (by (with_reducible repeat (first|apply k1_|apply k2_|apply k3_));exact HO333.out))) (below_size (by repeat (first|(with_reducible first|exact HB.out|apply below_alloc|apply pw_below_drewN|apply below_drew1|refine below_set ?_ GE310.out|refine below_set ?_ GE330.out)|exact HB.out))));have n6_:=Aside0.mk (blk_below (g:=gb310) (o:=.cells #[.int .i64 t304,.int .i64 t305,.int .i64 t306,.slice Ao15 t307.length co15] 59 (0,0)) (by (with_reducible repeat (first|refine k6_ ?_ _|refine k7_ ?_|refine k5_ ?_ _));exact BK310.out) hb);have n7_:=Aside0.mk (blk_below (g:=gb330) (o:=.cells #[.int .i64 t322,.int .i64 t323,.int .i64 t324,.slice Ao28 t325.length co28] 59 (0,0)) (by (with_reducible repeat (first|refine k6_ ?_ _|refine k7_ ?_|refine k5_ ?_ _));exact BK330.out) hb);have n8_:=Aside0.mk (below_step (by repeat (first|(with_reducible first|exact HB.out|apply below_alloc|apply pw_below_drewN|apply below_drew1|refine below_set ?_ GE310.out|refine below_set ?_ GE330.out)|exact HB.out)) hb);clear HO309;clear HO313;clear HO321;clear HO327;clear HO333;clear BK310;clear BK330;clear HB;have HO309:=n0_;have HO313:=n1_;have HO321:=n2_;have HO327:=n3_;have HO333:=n4_;have HO339:=n5_;have BK310:=n6_;have BK330:=n7_;have HB:=n8_;clear n0_ n1_ n2_ n3_ n4_ n5_ n6_ n7_ n8_;(try clear hb);(try clear hb2);(try clear hk);(try clear hi);(try clear ho0))|((with_reducible refine gate_dst (N:=8) rfl ?_);(try (refine gate_guard (by rfl) ?_;dsimp only));refine box_event ?hg (N:=8) ?hd (cs:=#[.int .i64 0,.int .i64 0,.int .i64 0,.slice none 0 0]) (t:=59) ?hr ?_;(case hd => rfl);(case hg => rfl);(case hr => first|(go_simp;done)|(go_simp;rfl));intro gb342 hg w33 hbox hb;have n0_:=Aside0.mk (Kd.R_below (by (with_reducible repeat (first|apply k1_|apply k2_|apply k3_));exact HO309.out) hb);have n1_:=Aside0.mk (Kd.R_below (by (with_reducible repeat (first|apply k1_|apply k2_|apply k3_));exact HO313.out) hb);have n2_:=Aside0.mk (Kd.R_below (by (with_reducible repeat (first|apply k1_|apply k2_|apply k3_));exact HO321.out) hb);have n3_:=Aside0.mk (Kd.R_below (by (with_reducible repeat (first|apply k1_|apply k2_|apply k3_));exact HO327.out) hb);have n4_:=Aside0.mk (Kd.R_below (by (with_reducible repeat (first|apply k1_|apply k2_|apply k3_));exact HO333.out) hb);have n5_:=Aside0.mk (Kd.R_below (by (with_reducible repeat (first|apply k1_|apply k2_|apply k3_));exact HO339.out) hb);have n6_:=Aside0.mk (blk_below (g:=gb310) (o:=.cells #[.int .i64 t304,.int .i64 t305,.int .i64 t306,.slice Ao15 t307.length co15] 59 (0,0)) (by (with_reducible repeat (first|refine k6_ ?_ _|refine k7_ ?_|refine k5_ ?_ _));exact BK310.out) hb);have n7_:=Aside0.mk (blk_below (g:=gb330) (o:=.cells #[.int .i64 t322,.int .i64 t323,.int .i64 t324,.slice Ao28 t325.length co28] 59 (0,0)) (by (with_reducible repeat (first|refine k6_ ?_ _|refine k7_ ?_|refine k5_ ?_ _));exact BK330.out) hb);have n8_:=Aside0.mk (below_step (by repeat (first|(with_reducible first|exact HB.out|apply below_alloc|apply pw_below_drewN|apply below_drew1|refine below_set ?_ GE310.out|refine below_set ?_ GE330.out)|exact HB.out)) hb);have n9_:=Aside0.mk (hbox);have n10_:=Aside0.mk ((by rw [hg];exact (below_size (by repeat (first|(with_reducible first|exact HB.out|apply below_alloc|apply pw_below_drewN|apply below_drew1|refine below_set ?_ GE310.out|refine below_set ?_ GE330.out)|exact HB.out))) : w.heap.size ≤ gb342));have n11_:=Aside0.mk ((by rw [hg];exact (below_size (by repeat (first|(with_reducible first|exact HB.out|apply below_alloc|apply pw_below_drewN|apply below_drew1|refine below_set ?_ GE310.out|refine below_set ?_ GE330.out)|exact HB.out))) : w.heap.size ≤ gb342));have n12_:=Aside0.mk ((by rw [hg];exact Nat.ne_of_lt (blk_lt (g:=gb310) (o:=.cells #[.int .i64 t304,.int .i64 t305,.int .i64 t306,.slice Ao15 t307.length co15] 59 (0,0)) (by (with_reducible repeat (first|refine k6_ ?_ _|refine k7_ ?_|refine k5_ ?_ _));exact BK310.out)) : gb310 ≠ gb342));have n13_:=Aside0.mk ((by rw [hg];exact Nat.ne_of_gt (blk_lt (g:=gb310) (o:=.cells #[.int .i64 t304,.int .i64 t305,.int .i64 t306,.slice Ao15 t307.length co15] 59 (0,0)) (by (with_reducible repeat (first|refine k6_ ?_ _|refine k7_ ?_|refine k5_ ?_ _));exact BK310.out)) : gb342 ≠ gb310));have n14_:=Aside0.mk ((by rw [hg];exact Nat.ne_of_lt (blk_lt (g:=gb330) (o:=.cells #[.int .i64 t322,.int .i64 t323,.int .i64 t324,.slice Ao28 t325.length co28] 59 (0,0)) (by (with_reducible repeat (first|refine k6_ ?_ _|refine k7_ ?_|refine k5_ ?_ _));exact BK330.out)) : gb330 ≠ gb342));have n15_:=Aside0.mk ((by rw [hg];exact Nat.ne_of_gt (blk_lt (g:=gb330) (o:=.cells #[.int .i64 t322,.int .i64 t323,.int .i64 t324,.slice Ao28 t325.length co28] 59 (0,0)) (by (with_reducible repeat (first|refine k6_ ?_ _|refine k7_ ?_|refine k5_ ?_ _));exact BK330.out)) : gb342 ≠ gb330));clear HO309;clear HO313;clear HO321;clear HO327;clear HO333;clear HO339;clear BK310;clear BK330;clear HB;have HO309:=n0_;have HO313:=n1_;have HO321:=n2_;have HO327:=n3_;have HO333:=n4_;have HO339:=n5_;have BK310:=n6_;have BK330:=n7_;have HB:=n8_;have BK342:=n9_;have GW342:=n10_;have GE342:=n11_;have NB310_342:=n12_;have NB342_310:=n13_;have NB330_342:=n14_;have NB342_330:=n15_;clear n0_ n1_ n2_ n3_ n4_ n5_ n6_ n7_ n8_ n9_ n10_ n11_ n12_ n13_ n14_ n15_;clear hb hbox hg;have hnb34:=NB342_310.out;have hnc34:=NB310_342.out;have hnb35:=NB342_330.out;have hnc35:=NB330_342.out;have hcz36_0 : w33.cell? ⟨gb342,0,none⟩ = some (.int .i64 0):=(blk_cell BK342.out 0).trans rfl;have hcz36_1 : w33.cell? ⟨gb342,1,none⟩ = some (.int .i64 0):=(blk_cell BK342.out 1).trans rfl;have hcz36_2 : w33.cell? ⟨gb342,2,none⟩ = some (.int .i64 0):=(blk_cell BK342.out 2).trans rfl;have hcz36_3 : w33.cell? ⟨gb342,3,none⟩ = some (.slice none 0 0):=(blk_cell BK342.out 3).trans rfl;have hfz36_0:=blk_frozen BK342.out 0;have hfz36_1:=blk_frozen BK342.out 1;have hfz36_2:=blk_frozen BK342.out 2;have hfz36_3:=blk_frozen BK342.out 3;obtain ⟨Ao37,co37,eo37⟩:=Kd.R_slice HO339.out;subst eo37))
    (try simp only [Act.put,lA_,lB_,lC_])
    go_cut [2] (fun v2 wc => ∃ (kq : Nat) (x2_10 : Bool),v2 = .bool x2_10 ∧ Aside0 (laws_FnOneFrame.j0 kq x2_10 = some r) ∧ Aside0 (kq ≤ k) ∧ Aside0 (Kd.R (Kd.int .u8) 5 wc w.heap.size (fun k_ => some k_ ≠ ((.slice Ao28 t325.length co28) : Value).ownBlock ∧ some k_ ≠ ((.slice Ao37 t337.length co37) : Value).ownBlock) (.slice Ao15 t307.length co15) t307) ∧ Aside0 (Kd.R (Kd.int .u8) 5 wc w.heap.size (fun k_ => some k_ ≠ ((.slice Ao15 t307.length co15) : Value).ownBlock ∧ some k_ ≠ ((.slice Ao37 t337.length co37) : Value).ownBlock) (.slice Ao28 t325.length co28) t325) ∧ Aside0 (Kd.R (Kd.int .u8) 5 wc w.heap.size (fun k_ => some k_ ≠ ((.slice Ao15 t307.length co15) : Value).ownBlock ∧ some k_ ≠ ((.slice Ao28 t325.length co28) : Value).ownBlock) (.slice Ao37 t337.length co37) t337) ∧ Aside0 (wc.heap[gb310]? = some (.cells #[.int .i64 t304,.int .i64 t305,.int .i64 t306,(.slice Ao15 t307.length co15)] 59 (0,0))) ∧ Aside0 (wc.heap[gb330]? = some (.cells #[.int .i64 t322,.int .i64 t323,.int .i64 t324,(.slice Ao28 t325.length co28)] 59 (0,0))) ∧ Aside0 (wc.heap[gb342]? = some (.cells #[.int .i64 t334,.int .i64 t335,.int .i64 t336,(.slice Ao37 t337.length co37)] 59 (0,0))) ∧ Aside0 (Below w.heap.size w wc))
    case first =>
     have H:=HC11.out
     clear HC11
     by_cases c38 : t329 = 0
     ·
      rw [if_pos c38] at H
      have c38b0 : (t329 == 0) = true:=beq_iff_eq.mpr c38
      have c38b1 : (t329 != 0) = false:=bne_eq_false_iff_eq.mpr c38
      clear c38
      (first|rw [c38b0]|(simp only [i64_w,i32_w];rw [c38b0])|rw [c38b1]|skip)
      by_cases c39 : t328 = (wrap64 ((t311.length : Int) + 2))
      ·
       rw [if_pos c39] at H
       have c39b0 : (t328 == (wrap64 ((t311.length : Int) + 2))) = true:=beq_iff_eq.mpr c39
       have c39b1 : (t328 != (wrap64 ((t311.length : Int) + 2))) = false:=bne_eq_false_iff_eq.mpr c39
       clear c39
       replace H:=Option.bind_eq_some_iff.mp H
       obtain ⟨t343,A400,H⟩:=H
       replace H : (if t343 = true then (if (t311.length : Int) = (wrap64 ((t307.length : Int) + 9)) then (if t341 = 2 then ((impl_FrameCode.f k t304 t305 t306 t307).bind fun t344 => ((spec_FrameCode.f k t304 t305 t306 t307).bind fun t345 => (laws_FnOneFrame.j0 k (t344 == t345)))) else (laws_FnOneFrame.j0 k false)) else (laws_FnOneFrame.j0 k false)) else (laws_FnOneFrame.j0 k false)) = some r:=H
       have A40:=Aside0.mk A400
       clear A400
       by_cases c41 : t343 = true
       ·
        subst c41
        have H1 : (if (t311.length : Int) = (wrap64 ((t307.length : Int) + 9)) then (if t341 = 2 then ((impl_FrameCode.f k t304 t305 t306 t307).bind fun t344 => ((spec_FrameCode.f k t304 t305 t306 t307).bind fun t345 => (laws_FnOneFrame.j0 k (t344 == t345)))) else (laws_FnOneFrame.j0 k false)) else (laws_FnOneFrame.j0 k false)) = some r:=by rw [if_pos rfl] at H;exact H
        clear H
        have H:=H1
        clear H1
        by_cases c42 : (t311.length : Int) = (wrap64 ((t307.length : Int) + 9))
        ·
         rw [if_pos c42] at H
         have c42b0 : ((t311.length : Int) == (wrap64 ((t307.length : Int) + 9))) = true:=beq_iff_eq.mpr c42
         have c42b1 : ((t311.length : Int) != (wrap64 ((t307.length : Int) + 9))) = false:=bne_eq_false_iff_eq.mpr c42
         clear c42
         by_cases c43 : t341 = 2
         ·
          rw [if_pos c43] at H
          have c43b0 : (t341 == 2) = true:=beq_iff_eq.mpr c43
          have c43b1 : (t341 != 2) = false:=bne_eq_false_iff_eq.mpr c43
          clear c43
          replace H:=Option.bind_eq_some_iff.mp H
          obtain ⟨t344,A440,H⟩:=H
          replace H : ((spec_FrameCode.f k t304 t305 t306 t307).bind fun t345 => (laws_FnOneFrame.j0 k (t344 == t345))) = some r:=H
          have A44:=Aside0.mk A440
          clear A440
          replace H:=Option.bind_eq_some_iff.mp H
          obtain ⟨t345,A450,H⟩:=H
          replace H : (laws_FnOneFrame.j0 k (t344 == t345)) = some r:=H
          have A45:=Aside0.mk A450
          clear A450
          have H':=Aside0.mk H
          clear H
          try go_wp2
          have n0_ : Aside0 (Kd.R (Kd.int .u8) 5 ((((w33.setCell ⟨gb342,0,none⟩ (.int .i64 t334)).setCell ⟨gb342,1,none⟩ (.int .i64 t335)).setCell ⟨gb342,2,none⟩ (.int .i64 t336)).setCell ⟨gb342,3,none⟩ (.slice Ao37 t337.length co37)) w.heap.size (fun k_ => some k_ ≠ (.slice Ao22 t311.length co22 : Value).ownBlock ∧ some k_ ≠ (.slice Ao23 y319.length co23 : Value).ownBlock ∧ some k_ ≠ (.slice Ao28 t325.length co28 : Value).ownBlock ∧ some k_ ≠ (.slice Ao31 y331.length co31 : Value).ownBlock ∧ some k_ ≠ (.slice Ao37 t337.length co37 : Value).ownBlock) (.slice Ao15 t307.length co15) t307):=⟨by (with_reducible repeat (first|apply k1_|apply k2_|apply k3_));exact Kd.R_mono (k4_ (p:=⟨gb342,3,none⟩) (k4_ (p:=⟨gb342,2,none⟩) (k4_ (p:=⟨gb342,1,none⟩) (k4_ (p:=⟨gb342,0,none⟩) (Kd.R_types HO309.out BK342.out (by decide)) (fun _ hk => hk.2) (.int .i64 t334)) (fun _ hk => hk.2) (.int .i64 t335)) (fun _ hk => hk.2) (.int .i64 t336)) (fun _ hk => hk.2) (.slice Ao37 t337.length co37)) (fun _ hk => ⟨(by first|exact hk.1.1.1.1.1|(have hq_:=hk;simp only [ne_eq] at hq_ ⊢;simp only [hq_,k8_,and_self])),⟨(by first|exact hk.1.1.1.1.2|(have hq_:=hk;simp only [ne_eq] at hq_ ⊢;simp only [hq_,k8_,and_self])),⟨(by first|exact hk.1.1.1.2|(have hq_:=hk;simp only [ne_eq] at hq_ ⊢;simp only [hq_,k8_,and_self])),⟨(by first|exact hk.1.1.2|(have hq_:=hk;simp only [ne_eq] at hq_ ⊢;simp only [hq_,k8_,and_self])),(by first|exact hk.1.2|(have hq_:=hk;simp only [ne_eq] at hq_ ⊢;simp only [hq_,k8_,and_self]))⟩⟩⟩⟩)⟩
          have n1_ : Aside0 (Kd.R (Kd.int .u8) 5 ((((w33.setCell ⟨gb342,0,none⟩ (.int .i64 t334)).setCell ⟨gb342,1,none⟩ (.int .i64 t335)).setCell ⟨gb342,2,none⟩ (.int .i64 t336)).setCell ⟨gb342,3,none⟩ (.slice Ao37 t337.length co37)) w.heap.size (fun k_ => some k_ ≠ (.slice Ao15 t307.length co15 : Value).ownBlock ∧ some k_ ≠ (.slice Ao23 y319.length co23 : Value).ownBlock ∧ some k_ ≠ (.slice Ao28 t325.length co28 : Value).ownBlock ∧ some k_ ≠ (.slice Ao31 y331.length co31 : Value).ownBlock ∧ some k_ ≠ (.slice Ao37 t337.length co37 : Value).ownBlock) (.slice Ao22 t311.length co22) t311):=⟨by (with_reducible repeat (first|apply k1_|apply k2_|apply k3_));exact Kd.R_mono (k4_ (p:=⟨gb342,3,none⟩) (k4_ (p:=⟨gb342,2,none⟩) (k4_ (p:=⟨gb342,1,none⟩) (k4_ (p:=⟨gb342,0,none⟩) (Kd.R_types HO313.out BK342.out (by decide)) (fun _ hk => hk.2) (.int .i64 t334)) (fun _ hk => hk.2) (.int .i64 t335)) (fun _ hk => hk.2) (.int .i64 t336)) (fun _ hk => hk.2) (.slice Ao37 t337.length co37)) (fun _ hk => ⟨(by first|exact hk.1.1.1.1.1|(have hq_:=hk;simp only [ne_eq] at hq_ ⊢;simp only [hq_,k8_,and_self])),⟨(by first|exact hk.1.1.1.1.2|(have hq_:=hk;simp only [ne_eq] at hq_ ⊢;simp only [hq_,k8_,and_self])),⟨(by first|exact hk.1.1.1.2|(have hq_:=hk;simp only [ne_eq] at hq_ ⊢;simp only [hq_,k8_,and_self])),⟨(by first|exact hk.1.1.2|(have hq_:=hk;simp only [ne_eq] at hq_ ⊢;simp only [hq_,k8_,and_self])),(by first|exact hk.1.2|(have hq_:=hk;simp only [ne_eq] at hq_ ⊢;simp only [hq_,k8_,and_self]))⟩⟩⟩⟩)⟩
          have n2_ : Aside0 (Kd.R (Kd.int .u8) 5 ((((w33.setCell ⟨gb342,0,none⟩ (.int .i64 t334)).setCell ⟨gb342,1,none⟩ (.int .i64 t335)).setCell ⟨gb342,2,none⟩ (.int .i64 t336)).setCell ⟨gb342,3,none⟩ (.slice Ao37 t337.length co37)) w.heap.size (fun k_ => some k_ ≠ (.slice Ao15 t307.length co15 : Value).ownBlock ∧ some k_ ≠ (.slice Ao22 t311.length co22 : Value).ownBlock ∧ some k_ ≠ (.slice Ao28 t325.length co28 : Value).ownBlock ∧ some k_ ≠ (.slice Ao31 y331.length co31 : Value).ownBlock ∧ some k_ ≠ (.slice Ao37 t337.length co37 : Value).ownBlock) (.slice Ao23 y319.length co23) y319):=⟨by (with_reducible repeat (first|apply k1_|apply k2_|apply k3_));exact Kd.R_mono (k4_ (p:=⟨gb342,3,none⟩) (k4_ (p:=⟨gb342,2,none⟩) (k4_ (p:=⟨gb342,1,none⟩) (k4_ (p:=⟨gb342,0,none⟩) (Kd.R_types HO321.out BK342.out (by decide)) (fun _ hk => hk.2) (.int .i64 t334)) (fun _ hk => hk.2) (.int .i64 t335)) (fun _ hk => hk.2) (.int .i64 t336)) (fun _ hk => hk.2) (.slice Ao37 t337.length co37)) (fun _ hk => ⟨(by first|exact hk.1.1.1.1.1|(have hq_:=hk;simp only [ne_eq] at hq_ ⊢;simp only [hq_,k8_,and_self])),⟨(by first|exact hk.1.1.1.1.2|(have hq_:=hk;simp only [ne_eq] at hq_ ⊢;simp only [hq_,k8_,and_self])),⟨(by first|exact hk.1.1.1.2|(have hq_:=hk;simp only [ne_eq] at hq_ ⊢;simp only [hq_,k8_,and_self])),⟨(by first|exact hk.1.1.2|(have hq_:=hk;simp only [ne_eq] at hq_ ⊢;simp only [hq_,k8_,and_self])),(by first|exact hk.1.2|(have hq_:=hk;simp only [ne_eq] at hq_ ⊢;simp only [hq_,k8_,and_self]))⟩⟩⟩⟩)⟩
          have n3_ : Aside0 (Kd.R (Kd.int .u8) 5 ((((w33.setCell ⟨gb342,0,none⟩ (.int .i64 t334)).setCell ⟨gb342,1,none⟩ (.int .i64 t335)).setCell ⟨gb342,2,none⟩ (.int .i64 t336)).setCell ⟨gb342,3,none⟩ (.slice Ao37 t337.length co37)) w.heap.size (fun k_ => some k_ ≠ (.slice Ao15 t307.length co15 : Value).ownBlock ∧ some k_ ≠ (.slice Ao22 t311.length co22 : Value).ownBlock ∧ some k_ ≠ (.slice Ao23 y319.length co23 : Value).ownBlock ∧ some k_ ≠ (.slice Ao31 y331.length co31 : Value).ownBlock ∧ some k_ ≠ (.slice Ao37 t337.length co37 : Value).ownBlock) (.slice Ao28 t325.length co28) t325):=⟨by (with_reducible repeat (first|apply k1_|apply k2_|apply k3_));exact Kd.R_mono (k4_ (p:=⟨gb342,3,none⟩) (k4_ (p:=⟨gb342,2,none⟩) (k4_ (p:=⟨gb342,1,none⟩) (k4_ (p:=⟨gb342,0,none⟩) (Kd.R_types HO327.out BK342.out (by decide)) (fun _ hk => hk.2) (.int .i64 t334)) (fun _ hk => hk.2) (.int .i64 t335)) (fun _ hk => hk.2) (.int .i64 t336)) (fun _ hk => hk.2) (.slice Ao37 t337.length co37)) (fun _ hk => ⟨(by first|exact hk.1.1.1.1.1.2|(have hq_:=hk;simp only [ne_eq] at hq_ ⊢;simp only [hq_,k8_,and_self])),⟨(by first|exact hk.1.1.1.1.2|(have hq_:=hk;simp only [ne_eq] at hq_ ⊢;simp only [hq_,k8_,and_self])),⟨(by first|exact hk.1.1.1.2|(have hq_:=hk;simp only [ne_eq] at hq_ ⊢;simp only [hq_,k8_,and_self])),⟨(by first|exact hk.1.1.2|(have hq_:=hk;simp only [ne_eq] at hq_ ⊢;simp only [hq_,k8_,and_self])),(by first|exact hk.1.2|(have hq_:=hk;simp only [ne_eq] at hq_ ⊢;simp only [hq_,k8_,and_self]))⟩⟩⟩⟩)⟩
          have n4_ : Aside0 (Kd.R (Kd.int .u8) 5 ((((w33.setCell ⟨gb342,0,none⟩ (.int .i64 t334)).setCell ⟨gb342,1,none⟩ (.int .i64 t335)).setCell ⟨gb342,2,none⟩ (.int .i64 t336)).setCell ⟨gb342,3,none⟩ (.slice Ao37 t337.length co37)) w.heap.size (fun k_ => some k_ ≠ (.slice Ao15 t307.length co15 : Value).ownBlock ∧ some k_ ≠ (.slice Ao22 t311.length co22 : Value).ownBlock ∧ some k_ ≠ (.slice Ao23 y319.length co23 : Value).ownBlock ∧ some k_ ≠ (.slice Ao28 t325.length co28 : Value).ownBlock ∧ some k_ ≠ (.slice Ao37 t337.length co37 : Value).ownBlock) (.slice Ao31 y331.length co31) y331):=⟨by (with_reducible repeat (first|apply k1_|apply k2_|apply k3_));exact Kd.R_mono (k4_ (p:=⟨gb342,3,none⟩) (k4_ (p:=⟨gb342,2,none⟩) (k4_ (p:=⟨gb342,1,none⟩) (k4_ (p:=⟨gb342,0,none⟩) (Kd.R_types HO333.out BK342.out (by decide)) (fun _ hk => hk.2) (.int .i64 t334)) (fun _ hk => hk.2) (.int .i64 t335)) (fun _ hk => hk.2) (.int .i64 t336)) (fun _ hk => hk.2) (.slice Ao37 t337.length co37)) (fun _ hk => ⟨(by first|exact hk.1.1.1.1.1.2|(have hq_:=hk;simp only [ne_eq] at hq_ ⊢;simp only [hq_,k8_,and_self])),⟨(by first|exact hk.1.1.1.1.2|(have hq_:=hk;simp only [ne_eq] at hq_ ⊢;simp only [hq_,k8_,and_self])),⟨(by first|exact hk.1.1.1.2|(have hq_:=hk;simp only [ne_eq] at hq_ ⊢;simp only [hq_,k8_,and_self])),⟨(by first|exact hk.1.1.2|(have hq_:=hk;simp only [ne_eq] at hq_ ⊢;simp only [hq_,k8_,and_self])),(by first|exact hk.1.2|(have hq_:=hk;simp only [ne_eq] at hq_ ⊢;simp only [hq_,k8_,and_self]))⟩⟩⟩⟩)⟩
          have n5_ : Aside0 (Kd.R (Kd.int .u8) 5 ((((w33.setCell ⟨gb342,0,none⟩ (.int .i64 t334)).setCell ⟨gb342,1,none⟩ (.int .i64 t335)).setCell ⟨gb342,2,none⟩ (.int .i64 t336)).setCell ⟨gb342,3,none⟩ (.slice Ao37 t337.length co37)) w.heap.size (fun k_ => some k_ ≠ (.slice Ao15 t307.length co15 : Value).ownBlock ∧ some k_ ≠ (.slice Ao22 t311.length co22 : Value).ownBlock ∧ some k_ ≠ (.slice Ao23 y319.length co23 : Value).ownBlock ∧ some k_ ≠ (.slice Ao28 t325.length co28 : Value).ownBlock ∧ some k_ ≠ (.slice Ao31 y331.length co31 : Value).ownBlock) (.slice Ao37 t337.length co37) t337):=⟨by (with_reducible repeat (first|apply k1_|apply k2_|apply k3_));exact Kd.R_mono (k4_ (p:=⟨gb342,3,none⟩) (k4_ (p:=⟨gb342,2,none⟩) (k4_ (p:=⟨gb342,1,none⟩) (k4_ (p:=⟨gb342,0,none⟩) (Kd.R_types HO339.out BK342.out (by decide)) (fun _ hk => hk.2) (.int .i64 t334)) (fun _ hk => hk.2) (.int .i64 t335)) (fun _ hk => hk.2) (.int .i64 t336)) (fun _ hk => hk.2) (.slice Ao37 t337.length co37)) (fun _ hk => ⟨(by first|exact hk.1.1.1.1.1.2|(have hq_:=hk;simp only [ne_eq] at hq_ ⊢;simp only [hq_,k8_,and_self])),⟨(by first|exact hk.1.1.1.1.2|(have hq_:=hk;simp only [ne_eq] at hq_ ⊢;simp only [hq_,k8_,and_self])),⟨(by first|exact hk.1.1.1.2|(have hq_:=hk;simp only [ne_eq] at hq_ ⊢;simp only [hq_,k8_,and_self])),⟨(by first|exact hk.1.1.2|(have hq_:=hk;simp only [ne_eq] at hq_ ⊢;simp only [hq_,k8_,and_self])),(by first|exact hk.1.2|(have hq_:=hk;simp only [ne_eq] at hq_ ⊢;simp only [hq_,k8_,and_self]))⟩⟩⟩⟩)⟩
          have n6_ : Aside0 (((((w33.setCell ⟨gb342,0,none⟩ (.int .i64 t334)).setCell ⟨gb342,1,none⟩ (.int .i64 t335)).setCell ⟨gb342,2,none⟩ (.int .i64 t336)).setCell ⟨gb342,3,none⟩ (.slice Ao37 t337.length co37)).heap[gb310]? = some (.cells #[.int .i64 t304,.int .i64 t305,.int .i64 t306,.slice Ao15 t307.length co15] 59 (0,0))):=⟨by (with_reducible repeat (first|refine k6_ ?_ _|refine k7_ ?_|refine k5_ ?_ _));refine blk_far ?_ NB310_342.out _;(with_reducible repeat (first|refine k6_ ?_ _|refine k7_ ?_|refine k5_ ?_ _));refine blk_far ?_ NB310_342.out _;(with_reducible repeat (first|refine k6_ ?_ _|refine k7_ ?_|refine k5_ ?_ _));refine blk_far ?_ NB310_342.out _;(with_reducible repeat (first|refine k6_ ?_ _|refine k7_ ?_|refine k5_ ?_ _));refine blk_far ?_ NB310_342.out _;(with_reducible repeat (first|refine k6_ ?_ _|refine k7_ ?_|refine k5_ ?_ _));exact BK310.out⟩
          have n7_ : Aside0 (((((w33.setCell ⟨gb342,0,none⟩ (.int .i64 t334)).setCell ⟨gb342,1,none⟩ (.int .i64 t335)).setCell ⟨gb342,2,none⟩ (.int .i64 t336)).setCell ⟨gb342,3,none⟩ (.slice Ao37 t337.length co37)).heap[gb330]? = some (.cells #[.int .i64 t322,.int .i64 t323,.int .i64 t324,.slice Ao28 t325.length co28] 59 (0,0))):=⟨by (with_reducible repeat (first|refine k6_ ?_ _|refine k7_ ?_|refine k5_ ?_ _));refine blk_far ?_ NB330_342.out _;(with_reducible repeat (first|refine k6_ ?_ _|refine k7_ ?_|refine k5_ ?_ _));refine blk_far ?_ NB330_342.out _;(with_reducible repeat (first|refine k6_ ?_ _|refine k7_ ?_|refine k5_ ?_ _));refine blk_far ?_ NB330_342.out _;(with_reducible repeat (first|refine k6_ ?_ _|refine k7_ ?_|refine k5_ ?_ _));refine blk_far ?_ NB330_342.out _;(with_reducible repeat (first|refine k6_ ?_ _|refine k7_ ?_|refine k5_ ?_ _));exact BK330.out⟩
          have n8_ : Aside0 (((((w33.setCell ⟨gb342,0,none⟩ (.int .i64 t334)).setCell ⟨gb342,1,none⟩ (.int .i64 t335)).setCell ⟨gb342,2,none⟩ (.int .i64 t336)).setCell ⟨gb342,3,none⟩ (.slice Ao37 t337.length co37)).heap[gb342]? = some (.cells #[.int .i64 t334,.int .i64 t335,.int .i64 t336,.slice Ao37 t337.length co37] 59 (0,0))):=⟨by (with_reducible repeat (first|refine k6_ ?_ _|refine k7_ ?_|refine k5_ ?_ _));refine blk_put (cs:=#[.int .i64 t334,.int .i64 t335,.int .i64 t336,.slice none 0 0]) ?_ 3 _ rfl;(with_reducible repeat (first|refine k6_ ?_ _|refine k7_ ?_|refine k5_ ?_ _));refine blk_put (cs:=#[.int .i64 t334,.int .i64 t335,.int .i64 0,.slice none 0 0]) ?_ 2 _ rfl;(with_reducible repeat (first|refine k6_ ?_ _|refine k7_ ?_|refine k5_ ?_ _));refine blk_put (cs:=#[.int .i64 t334,.int .i64 0,.int .i64 0,.slice none 0 0]) ?_ 1 _ rfl;(with_reducible repeat (first|refine k6_ ?_ _|refine k7_ ?_|refine k5_ ?_ _));refine blk_put (cs:=#[.int .i64 0,.int .i64 0,.int .i64 0,.slice none 0 0]) ?_ 0 _ rfl;(with_reducible repeat (first|refine k6_ ?_ _|refine k7_ ?_|refine k5_ ?_ _));exact BK342.out⟩
          have n9_ : Aside0 (Below w.heap.size w ((((w33.setCell ⟨gb342,0,none⟩ (.int .i64 t334)).setCell ⟨gb342,1,none⟩ (.int .i64 t335)).setCell ⟨gb342,2,none⟩ (.int .i64 t336)).setCell ⟨gb342,3,none⟩ (.slice Ao37 t337.length co37))):=⟨by repeat (first|(with_reducible first|exact HB.out|apply below_alloc|apply pw_below_drewN|apply below_drew1|refine below_set ?_ GE310.out|refine below_set ?_ GE330.out|refine below_set ?_ GE342.out)|exact HB.out)⟩
          (try clear HO309)
          (try clear HO313)
          (try clear HO321)
          (try clear HO327)
          (try clear HO333)
          (try clear HO339)
          (try clear BK310)
          (try clear BK330)
          (try clear BK342)
          (try clear HB)
          generalize ((((w33.setCell ⟨gb342,0,none⟩ (.int .i64 t334)).setCell ⟨gb342,1,none⟩ (.int .i64 t335)).setCell ⟨gb342,2,none⟩ (.int .i64 t336)).setCell ⟨gb342,3,none⟩ (.slice Ao37 t337.length co37)) = w46 at n0_ n1_ n2_ n3_ n4_ n5_ n6_ n7_ n8_ n9_ ⊢
          have HO309:=n0_
          have HO313:=n1_
          have HO321:=n2_
          have HO327:=n3_
          have HO333:=n4_
          have HO339:=n5_
          have BK310:=n6_
          have BK330:=n7_
          have BK342:=n8_
          have HB:=n9_
          clear n0_ n1_ n2_ n3_ n4_ n5_ n6_ n7_ n8_ n9_
          have n0_:=Aside0.mk (k3_ HO309.out)
          have n1_:=Aside0.mk (k3_ HO313.out)
          have n2_:=Aside0.mk (k3_ HO321.out)
          have n3_:=Aside0.mk (k3_ HO327.out)
          have n4_:=Aside0.mk (k3_ HO333.out)
          have n5_:=Aside0.mk (k3_ HO339.out)
          have n6_:=Aside0.mk (k7_ BK310.out)
          have n7_:=Aside0.mk (k7_ BK330.out)
          have n8_:=Aside0.mk (k7_ BK342.out)
          have n9_:=Aside0.mk (below_drew1 HB.out)
          clear HO309
          clear HO313
          clear HO321
          clear HO327
          clear HO333
          clear HO339
          clear BK310
          clear BK330
          clear BK342
          clear HB
          have HO309:=n0_
          have HO313:=n1_
          have HO321:=n2_
          have HO327:=n3_
          have HO333:=n4_
          have HO339:=n5_
          have BK310:=n6_
          have BK330:=n7_
          have BK342:=n8_
          have HB:=n9_
          clear n0_ n1_ n2_ n3_ n4_ n5_ n6_ n7_ n8_ n9_
          refine start_ (n:=35) (S:=fun w' => w'.cell? ⟨gb330,0,none⟩ = some (.int .i64 t322) ∧ w'.cell? ⟨gb330,1,none⟩ = some (.int .i64 t323) ∧ w'.cell? ⟨gb330,2,none⟩ = some (.int .i64 t324) ∧ w'.cell? ⟨gb330,3,none⟩ = some (.slice Ao28 t325.length co28) ∧ w'.cell? ⟨gb310,0,none⟩ = some (.int .i64 t304) ∧ w'.cell? ⟨gb310,1,none⟩ = some (.int .i64 t305) ∧ w'.cell? ⟨gb310,2,none⟩ = some (.int .i64 t306) ∧ w'.cell? ⟨gb310,3,none⟩ = some (.slice Ao15 t307.length co15)) (ds:=[]) #[Z,Z,Z,Z,Z,Z,Z,Z,Z,Z,Z,Z,Z,Z,Z,Z,Z,Z,Z,Z,Z,Z,Z,Z,Z,Z,Z,Z,Z,Z,Z,Z,Z,Z,Z] (by kernel_rfl) rfl rfl ⟨(blk_cell BK330.out 0).trans rfl,(blk_cell BK330.out 1).trans rfl,(blk_cell BK330.out 2).trans rfl,(blk_cell BK330.out 3).trans rfl,(blk_cell BK310.out 0).trans rfl,(blk_cell BK310.out 1).trans rfl,(blk_cell BK310.out 2).trans rfl,(blk_cell BK310.out 3).trans rfl⟩ (fun hHeld => ?_);refine with_tabW laws_FnOneFrame.tab9 laws_FnOneFrame.bits9 (fun HT_ HW_ => ?_)
          generalize w46.drew = w47 at HO309 HO313 HO321 HO327 HO333 HO339 BK310 BK330 BK342 HB hHeld ⊢
          refine pure_ (i:=0) (N:=some 42) (v:=?_) (a':=?_) #[Y,Z,Z,Z,Z,Z,Z,Z,Z,Z,Z,Z,Z,Z,Z,Z,Z,Z,Z,Z,Z,Z,Z,Z,Z,Z,Z,Z,Z,Z,Z,Z,Z,Z,Z] rfl rfl (any_of HT_.out (by kernel_rfl)) (fun _ _ _ h => h) (Or.inl ⟨by rfl,?_⟩) ?_ ?_
          rotate_left
          ·
           intro w'
           go_simp
           with_reducible rfl
          rotate_left
          ·
           simp only [Act.put,lA_,lB_,lC_,i64_w,i32_w]
           rfl
          refine pure_ (i:=1) (N:=some 43) (v:=?_) (a':=?_) #[Y,Y,Z,Z,Z,Z,Z,Z,Z,Z,Z,Z,Z,Z,Z,Z,Z,Z,Z,Z,Z,Z,Z,Z,Z,Z,Z,Z,Z,Z,Z,Z,Z,Z,Z] rfl rfl (any_of HT_.out (by kernel_rfl)) (fun _ _ _ h => h) (Or.inl ⟨by rfl,?_⟩) ?_ ?_
          rotate_left
          ·
           intro w'
           go_simp
           with_reducible rfl
          rotate_left
          ·
           simp only [Act.put,lA_,lB_,lC_,i64_w,i32_w]
           rfl
          refine pure_ (i:=2) (N:=some 44) (v:=?_) (a':=?_) #[Y,Y,Y,Z,Z,Z,Z,Z,Z,Z,Z,Z,Z,Z,Z,Z,Z,Z,Z,Z,Z,Z,Z,Z,Z,Z,Z,Z,Z,Z,Z,Z,Z,Z,Z] rfl rfl (any_of HT_.out (by kernel_rfl)) (fun _ _ _ h => h) (Or.inl ⟨by rfl,?_⟩) ?_ ?_
          rotate_left
          ·
           intro w'
           go_simp
           with_reducible rfl
          rotate_left
          ·
           simp only [Act.put,lA_,lB_,lC_,i64_w,i32_w]
           rfl
          refine pure_ (i:=3) (N:=some 45) (v:=?_) (a':=?_) #[Y,Y,Y,Y,Z,Z,Z,Z,Z,Z,Z,Z,Z,Z,Z,Z,Z,Z,Z,Z,Z,Z,Z,Z,Z,Z,Z,Z,Z,Z,Z,Z,Z,Z,Z] rfl rfl (any_of HT_.out (by kernel_rfl)) (fun _ _ _ h => h) (Or.inl ⟨by rfl,?_⟩) ?_ ?_
          rotate_left
          ·
           intro w'
           go_simp
           with_reducible rfl
          rotate_left
          ·
           simp only [Act.put,lA_,lB_,lC_,i64_w,i32_w]
           rfl
          refine pure_ (i:=4) (N:=some 46) (v:=?_) (a':=?_) #[Y,Y,Y,Y,Y,Z,Z,Z,Z,Z,Z,Z,Z,Z,Z,Z,Z,Z,Z,Z,Z,Z,Z,Z,Z,Z,Z,Z,Z,Z,Z,Z,Z,Z,Z] rfl rfl (any_of HT_.out (by kernel_rfl)) (fun _ _ _ h => h) (Or.inl ⟨by rfl,?_⟩) ?_ ?_
          rotate_left
          ·
           intro w'
           go_simp
           with_reducible rfl
          rotate_left
          ·
           simp only [Act.put,lA_,lB_,lC_,i64_w,i32_w]
           rfl
          refine pure_ (i:=5) (N:=some 47) (v:=?_) (a':=?_) #[Y,Y,Y,Y,Y,Y,Z,Z,Z,Z,Z,Z,Z,Z,Z,Z,Z,Z,Z,Z,Z,Z,Z,Z,Z,Z,Z,Z,Z,Z,Z,Z,Z,Z,Z] rfl rfl (any_of HT_.out (by kernel_rfl)) (fun _ _ _ h => h) (Or.inl ⟨by rfl,?_⟩) ?_ ?_
          rotate_left
          ·
           intro w'
           go_simp
           with_reducible rfl
          rotate_left
          ·
           simp only [Act.put,lA_,lB_,lC_,i64_w,i32_w]
           rfl
          refine pure_ (i:=6) (N:=some 48) (v:=?_) (a':=?_) #[Y,Y,Y,Y,Y,Y,Y,Z,Z,Z,Z,Z,Z,Z,Z,Z,Z,Z,Z,Z,Z,Z,Z,Z,Z,Z,Z,Z,Z,Z,Z,Z,Z,Z,Z] rfl rfl (any_of HT_.out (by kernel_rfl)) (fun _ _ _ h => h) (Or.inl ⟨by rfl,?_⟩) ?_ ?_
          rotate_left
          ·
           intro w'
           go_simp
           with_reducible rfl
          rotate_left
          ·
           simp only [Act.put,lA_,lB_,lC_,i64_w,i32_w]
           rfl
          refine pure_ (i:=7) (N:=some 49) (v:=?_) (a':=?_) #[Y,Y,Y,Y,Y,Y,Y,Y,Z,Z,Z,Z,Z,Z,Z,Z,Z,Z,Z,Z,Z,Z,Z,Z,Z,Z,Z,Z,Z,Z,Z,Z,Z,Z,Z] rfl rfl (any_of HT_.out (by kernel_rfl)) (fun _ _ _ h => h) (Or.inl ⟨by rfl,?_⟩) ?_ ?_
          rotate_left
          ·
           intro w'
           go_simp
           with_reducible rfl
          rotate_left
          ·
           simp only [Act.put,lA_,lB_,lC_,i64_w,i32_w]
           rfl
          refine pure_ (i:=8) (N:=some 50) (v:=?_) (a':=?_) #[Y,Y,Y,Y,Y,Y,Y,Y,Y,Z,Z,Z,Z,Z,Z,Z,Z,Z,Z,Z,Z,Z,Z,Z,Z,Z,Z,Z,Z,Z,Z,Z,Z,Z,Z] rfl rfl (any_of HT_.out (by kernel_rfl)) (fun _ _ _ h => h) (Or.inl ⟨by rfl,?_⟩) ?_ ?_
          rotate_left
          ·
           intro w'
           go_simp
           with_reducible rfl
          rotate_left
          ·
           simp only [Act.put,lA_,lB_,lC_,i64_w,i32_w]
           rfl
          refine pure_ (i:=9) (N:=some 51) (v:=?_) (a':=?_) #[Y,Y,Y,Y,Y,Y,Y,Y,Y,Y,Z,Z,Z,Z,Z,Z,Z,Z,Z,Z,Z,Z,Z,Z,Z,Z,Z,Z,Z,Z,Z,Z,Z,Z,Z] rfl rfl (any_of HT_.out (by kernel_rfl)) (fun _ _ _ h => h) (Or.inl ⟨by rfl,?_⟩) ?_ ?_
          rotate_left
          ·
           intro w'
           go_simp
           with_reducible rfl
          rotate_left
          ·
           simp only [Act.put,lA_,lB_,lC_,i64_w,i32_w]
           rfl
          refine take_ (i:=10) (N:=some 52) (v:=?_) (a':=?_) #[Y,Y,Y,Y,Y,Y,Y,Y,Y,Y,Y,Z,Z,Z,Z,Z,Z,Z,Z,Z,Z,Z,Z,Z,Z,Z,Z,Z,Z,Z,Z,Z,Z,Z,Z] rfl rfl (take_ofW HT_.out HW_.out (by kernel_rfl)) (fun _ _ _ h => h) (Or.inl ⟨by rfl,?_⟩) hHeld ?_ ?_
          rotate_left
          ·
           rintro w' ⟨s0,s1,s2,s3,s4,s5,s6,s7⟩
           go_simp
           with_reducible rfl
          rotate_left
          ·
           simp only [Act.put,lA_,lB_,lC_,i64_w,i32_w]
           rfl
          refine take_ (i:=11) (N:=some 53) (v:=?_) (a':=?_) #[Y,Y,Y,Y,Y,Y,Y,Y,Y,Y,Y,Y,Z,Z,Z,Z,Z,Z,Z,Z,Z,Z,Z,Z,Z,Z,Z,Z,Z,Z,Z,Z,Z,Z,Z] rfl rfl (take_ofW HT_.out HW_.out (by kernel_rfl)) (fun _ _ _ h => h) (Or.inl ⟨by rfl,?_⟩) hHeld ?_ ?_
          rotate_left
          ·
           rintro w' ⟨s0,s1,s2,s3,s4,s5,s6,s7⟩
           go_simp
           with_reducible rfl
          rotate_left
          ·
           simp only [Act.put,lA_,lB_,lC_,i64_w,i32_w]
           rfl
          refine one_ (i:=12) (N:=some 54) #[Y,Y,Y,Y,Y,Y,Y,Y,Y,Y,Y,Y,Y,Z,Z,Z,Z,Z,Z,Z,Z,Z,Z,Z,Z,Z,Z,Z,Z,Z,Z,Z,Z,Z,Z] rfl rfl (one_of HT_.out (by kernel_rfl)) (by decide) (fun K hK => ?_)
          refine goes_ Try.func43 (by kernel_rfl) rfl #[.agg #[.int .i64 t322,.int .i64 t323,.int .i64 t324,.slice Ao28 t325.length co28],.agg #[.int .i64 t304,.int .i64 t305,.int .i64 t306,.slice Ao15 t307.length co15]] (by rfl) rfl rfl (by (try simp only [List.map_toArray,List.map_cons,List.map_nil]);first|done|rfl|(simp only [List.length_drop,List.length_take];rfl)) ?_
          with_reducible refine (laws_sameFrame.calls k t322 t323 t324 _ _ t325 t304 t305 t306 _ _ t307 true _ ?side1 ?side2 ?side3 ?side4 A40.out).mono ?_
          (case side1 => repeat (first|exact (Kd.R_reads' HO327.out).2.2|(with_reducible refine Kd.C_alloc ?_ _)|(with_reducible refine Kd.C_drewN ?_ _)|(with_reducible refine Kd.C_drew ?_)))
          (case side2 => exact (Kd.R_reads' HO327.out).2.1)
          (case side3 => repeat (first|exact (Kd.R_reads' HO309.out).2.2|(with_reducible refine Kd.C_alloc ?_ _)|(with_reducible refine Kd.C_drewN ?_ _)|(with_reducible refine Kd.C_drew ?_)))
          (case side4 => exact (Kd.R_reads' HO309.out).2.1)
          rintro e w48 ⟨rfl,hb⟩
          refine ⟨_,rfl,?_⟩
          have n0_:=Aside0.mk (Kd.R_below (by (with_reducible repeat (first|apply k1_|apply k2_|apply k3_));exact HO309.out) hb)
          have n1_:=Aside0.mk (Kd.R_below (by (with_reducible repeat (first|apply k1_|apply k2_|apply k3_));exact HO313.out) hb)
          have n2_:=Aside0.mk (Kd.R_below (by (with_reducible repeat (first|apply k1_|apply k2_|apply k3_));exact HO321.out) hb)
          have n3_:=Aside0.mk (Kd.R_below (by (with_reducible repeat (first|apply k1_|apply k2_|apply k3_));exact HO327.out) hb)
          have n4_:=Aside0.mk (Kd.R_below (by (with_reducible repeat (first|apply k1_|apply k2_|apply k3_));exact HO333.out) hb)
          have n5_:=Aside0.mk (Kd.R_below (by (with_reducible repeat (first|apply k1_|apply k2_|apply k3_));exact HO339.out) hb)
          have n6_:=Aside0.mk (blk_below (g:=gb310) (o:=.cells #[.int .i64 t304,.int .i64 t305,.int .i64 t306,.slice Ao15 t307.length co15] 59 (0,0)) (by (with_reducible repeat (first|refine k6_ ?_ _|refine k7_ ?_|refine k5_ ?_ _));exact BK310.out) hb)
          have n7_:=Aside0.mk (blk_below (g:=gb330) (o:=.cells #[.int .i64 t322,.int .i64 t323,.int .i64 t324,.slice Ao28 t325.length co28] 59 (0,0)) (by (with_reducible repeat (first|refine k6_ ?_ _|refine k7_ ?_|refine k5_ ?_ _));exact BK330.out) hb)
          have n8_:=Aside0.mk (blk_below (g:=gb342) (o:=.cells #[.int .i64 t334,.int .i64 t335,.int .i64 t336,.slice Ao37 t337.length co37] 59 (0,0)) (by (with_reducible repeat (first|refine k6_ ?_ _|refine k7_ ?_|refine k5_ ?_ _));exact BK342.out) hb)
          have n9_:=Aside0.mk (below_step (by repeat (first|(with_reducible first|exact HB.out|apply below_alloc|apply pw_below_drewN|apply below_drew1|refine below_set ?_ GE310.out|refine below_set ?_ GE330.out|refine below_set ?_ GE342.out)|exact HB.out)) hb)
          clear HO309
          clear HO313
          clear HO321
          clear HO327
          clear HO333
          clear HO339
          clear BK310
          clear BK330
          clear BK342
          clear HB
          have HO309:=n0_
          have HO313:=n1_
          have HO321:=n2_
          have HO327:=n3_
          have HO333:=n4_
          have HO339:=n5_
          have BK310:=n6_
          have BK330:=n7_
          have BK342:=n8_
          have HB:=n9_
          clear n0_ n1_ n2_ n3_ n4_ n5_ n6_ n7_ n8_ n9_
          (try clear hb)
          (try clear hb2)
          (try clear hk)
          (try clear hi)
          refine hK.out _ _ ⟨(blk_cell BK330.out 0).trans rfl,(blk_cell BK330.out 1).trans rfl,(blk_cell BK330.out 2).trans rfl,(blk_cell BK330.out 3).trans rfl,(blk_cell BK310.out 0).trans rfl,(blk_cell BK310.out 1).trans rfl,(blk_cell BK310.out 2).trans rfl,(blk_cell BK310.out 3).trans rfl⟩ (fun hHeld => ?_)
          clear hK K
          refine norm_ (a':=?_) ?_ ?_
          rotate_left
          ·
           show Act.put _ (some 54) _ = _
           simp only [Act.put,lA_,lB_,lC_,i64_w,i32_w]
           rfl
          refine pure_ (i:=13) (N:=some 55) (v:=?_) (a':=?_) #[Y,Y,Y,Y,Y,Y,Y,Y,Y,Y,Y,Y,Y,Y,Z,Z,Z,Z,Z,Z,Z,Z,Z,Z,Z,Z,Z,Z,Z,Z,Z,Z,Z,Z,Z] rfl rfl (any_of HT_.out (by kernel_rfl)) (fun _ _ _ h => h) (Or.inl ⟨by rfl,?_⟩) ?_ ?_
          rotate_left
          ·
           intro w'
           go_simp
           with_reducible rfl
          rotate_left
          ·
           simp only [Act.put,lA_,lB_,lC_,i64_w,i32_w]
           rfl
          refine pure_ (i:=14) (N:=some 56) (v:=?_) (a':=?_) #[Y,Y,Y,Y,Y,Y,Y,Y,Y,Y,Y,Y,Y,Y,Y,Z,Z,Z,Z,Z,Z,Z,Z,Z,Z,Z,Z,Z,Z,Z,Z,Z,Z,Z,Z] rfl rfl (any_of HT_.out (by kernel_rfl)) (fun _ _ _ h => h) (Or.inl ⟨by rfl,?_⟩) ?_ ?_
          rotate_left
          ·
           intro w'
           go_simp
           with_reducible rfl
          rotate_left
          ·
           simp only [Act.put,lA_,lB_,lC_,i64_w,i32_w]
           rfl
          refine pure_ (i:=15) (N:=some 57) (v:=?_) (a':=?_) #[Y,Y,Y,Y,Y,Y,Y,Y,Y,Y,Y,Y,Y,Y,Y,Y,Z,Z,Z,Z,Z,Z,Z,Z,Z,Z,Z,Z,Z,Z,Z,Z,Z,Z,Z] rfl rfl (any_of HT_.out (by kernel_rfl)) (fun _ _ _ h => h) (Or.inl ⟨by rfl,?_⟩) ?_ ?_
          rotate_left
          ·
           intro w'
           go_simp
           with_reducible rfl
          rotate_left
          ·
           simp only [Act.put,lA_,lB_,lC_,i64_w,i32_w]
           rfl
          refine pure_ (i:=16) (N:=some 58) (v:=?_) (a':=?_) #[Y,Y,Y,Y,Y,Y,Y,Y,Y,Y,Y,Y,Y,Y,Y,Y,Y,Z,Z,Z,Z,Z,Z,Z,Z,Z,Z,Z,Z,Z,Z,Z,Z,Z,Z] rfl rfl (any_of HT_.out (by kernel_rfl)) (fun _ _ _ h => h) (Or.inl ⟨by rfl,?_⟩) ?_ ?_
          rotate_left
          ·
           intro w'
           go_simp
           with_reducible rfl
          rotate_left
          ·
           simp only [Act.put,lA_,lB_,lC_,i64_w,i32_w]
           rfl
          refine pure_ (i:=17) (N:=some 59) (v:=?_) (a':=?_) #[Y,Y,Y,Y,Y,Y,Y,Y,Y,Y,Y,Y,Y,Y,Y,Y,Y,Y,Z,Z,Z,Z,Z,Z,Z,Z,Z,Z,Z,Z,Z,Z,Z,Z,Z] rfl rfl (any_of HT_.out (by kernel_rfl)) (fun _ _ _ h => h) (Or.inl ⟨by rfl,?_⟩) ?_ ?_
          rotate_left
          ·
           intro w'
           go_simp
           with_reducible rfl
          rotate_left
          ·
           simp only [Act.put,lA_,lB_,lC_,i64_w,i32_w]
           rfl
          refine take_ (i:=18) (N:=some 60) (v:=?_) (a':=?_) #[Y,Y,Y,Y,Y,Y,Y,Y,Y,Y,Y,Y,Y,Y,Y,Y,Y,Y,Y,Z,Z,Z,Z,Z,Z,Z,Z,Z,Z,Z,Z,Z,Z,Z,Z] rfl rfl (take_ofW HT_.out HW_.out (by kernel_rfl)) (fun _ _ _ h => h) (Or.inl ⟨by rfl,?_⟩) hHeld ?_ ?_
          rotate_left
          ·
           rintro w' ⟨s0,s1,s2,s3,s4,s5,s6,s7⟩
           go_simp
           with_reducible rfl
          rotate_left
          ·
           simp only [Act.put,lA_,lB_,lC_,i64_w,i32_w]
           rfl
          refine pure_ (i:=19) (N:=some 61) (v:=?_) (a':=?_) #[Y,Y,Y,Y,Y,Y,Y,Y,Y,Y,Y,Y,Y,Y,Y,Y,Y,Y,Y,Y,Z,Z,Z,Z,Z,Z,Z,Z,Z,Z,Z,Z,Z,Z,Z] rfl rfl (any_of HT_.out (by kernel_rfl)) (fun _ _ _ h => h) (Or.inl ⟨by rfl,?_⟩) ?_ ?_
          rotate_left
          ·
           intro w'
           go_simp
           with_reducible rfl
          rotate_left
          ·
           simp only [Act.put,lA_,lB_,lC_,i64_w,i32_w]
           rfl
          refine pure_ (i:=20) (N:=some 62) (v:=?_) (a':=?_) #[Y,Y,Y,Y,Y,Y,Y,Y,Y,Y,Y,Y,Y,Y,Y,Y,Y,Y,Y,Y,Y,Z,Z,Z,Z,Z,Z,Z,Z,Z,Z,Z,Z,Z,Z] rfl rfl (any_of HT_.out (by kernel_rfl)) (fun _ _ _ h => h) (Or.inl ⟨by rfl,?_⟩) ?_ ?_
          rotate_left
          ·
           intro w'
           go_simp
           with_reducible rfl
          rotate_left
          ·
           simp only [Act.put,lA_,lB_,lC_,i64_w,i32_w]
           rfl
          refine pure_ (i:=21) (N:=some 63) (v:=?_) (a':=?_) #[Y,Y,Y,Y,Y,Y,Y,Y,Y,Y,Y,Y,Y,Y,Y,Y,Y,Y,Y,Y,Y,Y,Z,Z,Z,Z,Z,Z,Z,Z,Z,Z,Z,Z,Z] rfl rfl (any_of HT_.out (by kernel_rfl)) (fun _ _ _ h => h) (Or.inl ⟨by rfl,?_⟩) ?_ ?_
          rotate_left
          ·
           intro w'
           go_simp
           with_reducible rfl
          rotate_left
          ·
           simp only [Act.put,lA_,lB_,lC_,i64_w,i32_w]
           rfl
          refine pure_ (i:=22) (N:=some 64) (v:=?_) (a':=?_) #[Y,Y,Y,Y,Y,Y,Y,Y,Y,Y,Y,Y,Y,Y,Y,Y,Y,Y,Y,Y,Y,Y,Y,Z,Z,Z,Z,Z,Z,Z,Z,Z,Z,Z,Z] rfl rfl (any_of HT_.out (by kernel_rfl)) (fun _ _ _ h => h) (Or.inl ⟨by rfl,?_⟩) ?_ ?_
          rotate_left
          ·
           intro w'
           go_simp
           with_reducible rfl
          rotate_left
          ·
           simp only [Act.put,lA_,lB_,lC_,i64_w,i32_w]
           rfl
          refine pure_ (i:=23) (N:=some 65) (v:=?_) (a':=?_) #[Y,Y,Y,Y,Y,Y,Y,Y,Y,Y,Y,Y,Y,Y,Y,Y,Y,Y,Y,Y,Y,Y,Y,Y,Z,Z,Z,Z,Z,Z,Z,Z,Z,Z,Z] rfl rfl (any_of HT_.out (by kernel_rfl)) (fun _ _ _ h => h) (Or.inl ⟨by rfl,?_⟩) ?_ ?_
          rotate_left
          ·
           intro w'
           go_simp
           with_reducible rfl
          rotate_left
          ·
           simp only [Act.put,lA_,lB_,lC_,i64_w,i32_w]
           rfl
          refine pure_ (i:=24) (N:=some 66) (v:=?_) (a':=?_) #[Y,Y,Y,Y,Y,Y,Y,Y,Y,Y,Y,Y,Y,Y,Y,Y,Y,Y,Y,Y,Y,Y,Y,Y,Y,Z,Z,Z,Z,Z,Z,Z,Z,Z,Z] rfl rfl (any_of HT_.out (by kernel_rfl)) (fun _ _ _ h => h) (Or.inl ⟨by rfl,?_⟩) ?_ ?_
          rotate_left
          ·
           intro w'
           go_simp
           with_reducible rfl
          rotate_left
          ·
           simp only [Act.put,lA_,lB_,lC_,i64_w,i32_w]
           rfl
          refine pure_ (i:=25) (N:=some 67) (v:=?_) (a':=?_) #[Y,Y,Y,Y,Y,Y,Y,Y,Y,Y,Y,Y,Y,Y,Y,Y,Y,Y,Y,Y,Y,Y,Y,Y,Y,Y,Z,Z,Z,Z,Z,Z,Z,Z,Z] rfl rfl (any_of HT_.out (by kernel_rfl)) (fun _ _ _ h => h) (Or.inl ⟨by rfl,?_⟩) ?_ ?_
          rotate_left
          ·
           intro w'
           go_simp
           with_reducible rfl
          rotate_left
          ·
           simp only [Act.put,lA_,lB_,lC_,i64_w,i32_w]
           rfl
          refine pure_ (i:=26) (N:=some 68) (v:=?_) (a':=?_) #[Y,Y,Y,Y,Y,Y,Y,Y,Y,Y,Y,Y,Y,Y,Y,Y,Y,Y,Y,Y,Y,Y,Y,Y,Y,Y,Y,Z,Z,Z,Z,Z,Z,Z,Z] rfl rfl (any_of HT_.out (by kernel_rfl)) (fun _ _ _ h => h) (Or.inl ⟨by rfl,?_⟩) ?_ ?_
          rotate_left
          ·
           intro w'
           go_simp
           with_reducible rfl
          rotate_left
          ·
           simp only [Act.put,lA_,lB_,lC_,i64_w,i32_w]
           rfl
          refine pure_ (i:=27) (N:=some 69) (v:=?_) (a':=?_) #[Y,Y,Y,Y,Y,Y,Y,Y,Y,Y,Y,Y,Y,Y,Y,Y,Y,Y,Y,Y,Y,Y,Y,Y,Y,Y,Y,Y,Z,Z,Z,Z,Z,Z,Z] rfl rfl (any_of HT_.out (by kernel_rfl)) (fun _ _ _ h => h) (Or.inl ⟨by rfl,?_⟩) ?_ ?_
          rotate_left
          ·
           intro w'
           go_simp
           with_reducible rfl
          rotate_left
          ·
           simp only [Act.put,lA_,lB_,lC_,i64_w,i32_w]
           rfl
          refine take_ (i:=28) (N:=some 70) (v:=?_) (a':=?_) #[Y,Y,Y,Y,Y,Y,Y,Y,Y,Y,Y,Y,Y,Y,Y,Y,Y,Y,Y,Y,Y,Y,Y,Y,Y,Y,Y,Y,Y,Z,Z,Z,Z,Z,Z] rfl rfl (take_ofW HT_.out HW_.out (by kernel_rfl)) (fun _ _ _ h => h) (Or.inl ⟨by rfl,?_⟩) hHeld ?_ ?_
          rotate_left
          ·
           rintro w' ⟨s0,s1,s2,s3,s4,s5,s6,s7⟩
           go_simp
           with_reducible rfl
          rotate_left
          ·
           simp only [Act.put,lA_,lB_,lC_,i64_w,i32_w]
           rfl
          refine take_ (i:=30) (N:=some 72) (v:=?_) (a':=?_) #[Y,Y,Y,Y,Y,Y,Y,Y,Y,Y,Y,Y,Y,Y,Y,Y,Y,Y,Y,Y,Y,Y,Y,Y,Y,Y,Y,Y,Y,Z,Y,Z,Z,Z,Z] rfl rfl (take_ofW HT_.out HW_.out (by kernel_rfl)) (fun _ _ _ h => h) (Or.inl ⟨by rfl,?_⟩) hHeld ?_ ?_
          rotate_left
          ·
           rintro w' ⟨s0,s1,s2,s3,s4,s5,s6,s7⟩
           go_simp
           with_reducible rfl
          rotate_left
          ·
           simp only [Act.put,lA_,lB_,lC_,i64_w,i32_w]
           rfl
          refine one_ (i:=29) (N:=some 71) #[Y,Y,Y,Y,Y,Y,Y,Y,Y,Y,Y,Y,Y,Y,Y,Y,Y,Y,Y,Y,Y,Y,Y,Y,Y,Y,Y,Y,Y,Y,Y,Z,Z,Z,Z] rfl rfl (one_of HT_.out (by kernel_rfl)) (by decide) (fun K hK => ?_)
          refine goes_ Try.func35 (by kernel_rfl) rfl #[.agg #[.int .i64 t304,.int .i64 t305,.int .i64 t306,.slice Ao15 t307.length co15]] (by rfl) rfl rfl (by (try simp only [List.map_toArray,List.map_cons,List.map_nil]);first|done|rfl|(simp only [List.length_drop,List.length_take];rfl)) ?_
          with_reducible refine (impl_FrameCode.calls k t304 t305 t306 _ _ t307 t344 _ ?side1 ?side2 A44.out).mono ?_
          (case side1 => repeat (first|exact (Kd.R_reads' HO309.out).2.2|(with_reducible refine Kd.C_alloc ?_ _)|(with_reducible refine Kd.C_drewN ?_ _)|(with_reducible refine Kd.C_drew ?_)))
          (case side2 => exact (Kd.R_reads' HO309.out).2.1)
          rintro e w49 ⟨rfl,hb⟩
          refine ⟨_,rfl,?_⟩
          have n0_:=Aside0.mk (Kd.R_below (by (with_reducible repeat (first|apply k1_|apply k2_|apply k3_));exact HO309.out) hb)
          have n1_:=Aside0.mk (Kd.R_below (by (with_reducible repeat (first|apply k1_|apply k2_|apply k3_));exact HO313.out) hb)
          have n2_:=Aside0.mk (Kd.R_below (by (with_reducible repeat (first|apply k1_|apply k2_|apply k3_));exact HO321.out) hb)
          have n3_:=Aside0.mk (Kd.R_below (by (with_reducible repeat (first|apply k1_|apply k2_|apply k3_));exact HO327.out) hb)
          have n4_:=Aside0.mk (Kd.R_below (by (with_reducible repeat (first|apply k1_|apply k2_|apply k3_));exact HO333.out) hb)
          have n5_:=Aside0.mk (Kd.R_below (by (with_reducible repeat (first|apply k1_|apply k2_|apply k3_));exact HO339.out) hb)
          have n6_:=Aside0.mk (blk_below (g:=gb310) (o:=.cells #[.int .i64 t304,.int .i64 t305,.int .i64 t306,.slice Ao15 t307.length co15] 59 (0,0)) (by (with_reducible repeat (first|refine k6_ ?_ _|refine k7_ ?_|refine k5_ ?_ _));exact BK310.out) hb)
          have n7_:=Aside0.mk (blk_below (g:=gb330) (o:=.cells #[.int .i64 t322,.int .i64 t323,.int .i64 t324,.slice Ao28 t325.length co28] 59 (0,0)) (by (with_reducible repeat (first|refine k6_ ?_ _|refine k7_ ?_|refine k5_ ?_ _));exact BK330.out) hb)
          have n8_:=Aside0.mk (blk_below (g:=gb342) (o:=.cells #[.int .i64 t334,.int .i64 t335,.int .i64 t336,.slice Ao37 t337.length co37] 59 (0,0)) (by (with_reducible repeat (first|refine k6_ ?_ _|refine k7_ ?_|refine k5_ ?_ _));exact BK342.out) hb)
          have n9_:=Aside0.mk (below_step (by repeat (first|(with_reducible first|exact HB.out|apply below_alloc|apply pw_below_drewN|apply below_drew1|refine below_set ?_ GE310.out|refine below_set ?_ GE330.out|refine below_set ?_ GE342.out)|exact HB.out)) hb)
          clear HO309
          clear HO313
          clear HO321
          clear HO327
          clear HO333
          clear HO339
          clear BK310
          clear BK330
          clear BK342
          clear HB
          have HO309:=n0_
          have HO313:=n1_
          have HO321:=n2_
          have HO327:=n3_
          have HO333:=n4_
          have HO339:=n5_
          have BK310:=n6_
          have BK330:=n7_
          have BK342:=n8_
          have HB:=n9_
          clear n0_ n1_ n2_ n3_ n4_ n5_ n6_ n7_ n8_ n9_
          (try clear hb)
          (try clear hb2)
          (try clear hk)
          (try clear hi)
          refine hK.out _ _ ⟨(blk_cell BK330.out 0).trans rfl,(blk_cell BK330.out 1).trans rfl,(blk_cell BK330.out 2).trans rfl,(blk_cell BK330.out 3).trans rfl,(blk_cell BK310.out 0).trans rfl,(blk_cell BK310.out 1).trans rfl,(blk_cell BK310.out 2).trans rfl,(blk_cell BK310.out 3).trans rfl⟩ (fun hHeld => ?_)
          clear hK K
          refine norm_ (a':=?_) ?_ ?_
          rotate_left
          ·
           show Act.put _ (some 71) _ = _
           simp only [Act.put,lA_,lB_,lC_,i64_w,i32_w]
           rfl
          refine one_ (i:=31) (N:=some 73) #[Y,Y,Y,Y,Y,Y,Y,Y,Y,Y,Y,Y,Y,Y,Y,Y,Y,Y,Y,Y,Y,Y,Y,Y,Y,Y,Y,Y,Y,Y,Y,Y,Z,Z,Z] rfl rfl (one_of HT_.out (by kernel_rfl)) (by decide) (fun K hK => ?_)
          refine goes_ Try.func44 (by kernel_rfl) rfl #[.agg #[.int .i64 t304,.int .i64 t305,.int .i64 t306,.slice Ao15 t307.length co15]] (by rfl) rfl rfl (by (try simp only [List.map_toArray,List.map_cons,List.map_nil]);first|done|rfl|(simp only [List.length_drop,List.length_take];rfl)) ?_
          with_reducible refine (spec_FrameCode.calls k t304 t305 t306 _ _ t307 t345 _ ?side1 ?side2 A45.out).mono ?_
          (case side1 => repeat (first|exact (Kd.R_reads' HO309.out).2.2|(with_reducible refine Kd.C_alloc ?_ _)|(with_reducible refine Kd.C_drewN ?_ _)|(with_reducible refine Kd.C_drew ?_)))
          (case side2 => exact (Kd.R_reads' HO309.out).2.1)
          rintro e w50 ⟨rfl,hb⟩
          refine ⟨_,rfl,?_⟩
          have n0_:=Aside0.mk (Kd.R_below (by (with_reducible repeat (first|apply k1_|apply k2_|apply k3_));exact HO309.out) hb)
          have n1_:=Aside0.mk (Kd.R_below (by (with_reducible repeat (first|apply k1_|apply k2_|apply k3_));exact HO313.out) hb)
          have n2_:=Aside0.mk (Kd.R_below (by (with_reducible repeat (first|apply k1_|apply k2_|apply k3_));exact HO321.out) hb)
          have n3_:=Aside0.mk (Kd.R_below (by (with_reducible repeat (first|apply k1_|apply k2_|apply k3_));exact HO327.out) hb)
          have n4_:=Aside0.mk (Kd.R_below (by (with_reducible repeat (first|apply k1_|apply k2_|apply k3_));exact HO333.out) hb)
          have n5_:=Aside0.mk (Kd.R_below (by (with_reducible repeat (first|apply k1_|apply k2_|apply k3_));exact HO339.out) hb)
          have n6_:=Aside0.mk (blk_below (g:=gb310) (o:=.cells #[.int .i64 t304,.int .i64 t305,.int .i64 t306,.slice Ao15 t307.length co15] 59 (0,0)) (by (with_reducible repeat (first|refine k6_ ?_ _|refine k7_ ?_|refine k5_ ?_ _));exact BK310.out) hb)
          have n7_:=Aside0.mk (blk_below (g:=gb330) (o:=.cells #[.int .i64 t322,.int .i64 t323,.int .i64 t324,.slice Ao28 t325.length co28] 59 (0,0)) (by (with_reducible repeat (first|refine k6_ ?_ _|refine k7_ ?_|refine k5_ ?_ _));exact BK330.out) hb)
          have n8_:=Aside0.mk (blk_below (g:=gb342) (o:=.cells #[.int .i64 t334,.int .i64 t335,.int .i64 t336,.slice Ao37 t337.length co37] 59 (0,0)) (by (with_reducible repeat (first|refine k6_ ?_ _|refine k7_ ?_|refine k5_ ?_ _));exact BK342.out) hb)
          have n9_:=Aside0.mk (below_step (by repeat (first|(with_reducible first|exact HB.out|apply below_alloc|apply pw_below_drewN|apply below_drew1|refine below_set ?_ GE310.out|refine below_set ?_ GE330.out|refine below_set ?_ GE342.out)|exact HB.out)) hb)
          clear HO309
          clear HO313
          clear HO321
          clear HO327
          clear HO333
          clear HO339
          clear BK310
          clear BK330
          clear BK342
          clear HB
          have HO309:=n0_
          have HO313:=n1_
          have HO321:=n2_
          have HO327:=n3_
          have HO333:=n4_
          have HO339:=n5_
          have BK310:=n6_
          have BK330:=n7_
          have BK342:=n8_
          have HB:=n9_
          clear n0_ n1_ n2_ n3_ n4_ n5_ n6_ n7_ n8_ n9_
          (try clear hb)
          (try clear hb2)
          (try clear hk)
          (try clear hi)
          refine hK.out _ _ ⟨(blk_cell BK330.out 0).trans rfl,(blk_cell BK330.out 1).trans rfl,(blk_cell BK330.out 2).trans rfl,(blk_cell BK330.out 3).trans rfl,(blk_cell BK310.out 0).trans rfl,(blk_cell BK310.out 1).trans rfl,(blk_cell BK310.out 2).trans rfl,(blk_cell BK310.out 3).trans rfl⟩ (fun hHeld => ?_)
          clear hK K
          refine norm_ (a':=?_) ?_ ?_
          rotate_left
          ·
           show Act.put _ (some 73) _ = _
           simp only [Act.put,lA_,lB_,lC_,i64_w,i32_w]
           rfl
          refine pure_ (i:=32) (N:=some 74) (v:=?_) (a':=?_) #[Y,Y,Y,Y,Y,Y,Y,Y,Y,Y,Y,Y,Y,Y,Y,Y,Y,Y,Y,Y,Y,Y,Y,Y,Y,Y,Y,Y,Y,Y,Y,Y,Y,Z,Z] rfl rfl (any_of HT_.out (by kernel_rfl)) (fun _ _ _ h => h) (Or.inl ⟨by rfl,?_⟩) ?_ ?_
          rotate_left
          ·
           intro w'
           go_simp
           with_reducible rfl
          rotate_left
          ·
           simp only [Act.put,lA_,lB_,lC_,i64_w,i32_w]
           rfl
          refine pure_ (i:=33) (N:=some 75) (v:=?_) (a':=?_) #[Y,Y,Y,Y,Y,Y,Y,Y,Y,Y,Y,Y,Y,Y,Y,Y,Y,Y,Y,Y,Y,Y,Y,Y,Y,Y,Y,Y,Y,Y,Y,Y,Y,Y,Z] rfl rfl (any_of HT_.out (by kernel_rfl)) (fun _ _ _ h => h) (Or.inl ⟨by rfl,?_⟩) ?_ ?_
          rotate_left
          ·
           intro w'
           go_simp
           with_reducible rfl
          rotate_left
          ·
           simp only [Act.put,lA_,lB_,lC_,i64_w,i32_w]
           rfl
          refine pure_ (i:=34) (N:=some 2) (v:=?_) (a':=?_) #[Y,Y,Y,Y,Y,Y,Y,Y,Y,Y,Y,Y,Y,Y,Y,Y,Y,Y,Y,Y,Y,Y,Y,Y,Y,Y,Y,Y,Y,Y,Y,Y,Y,Y,Y] rfl rfl (any_of HT_.out (by kernel_rfl)) (fun _ _ _ h => h) (Or.inl ⟨by rfl,?_⟩) ?_ ?_
          rotate_left
          ·
           intro w'
           go_simp
           with_reducible rfl
          rotate_left
          ·
           simp only [Act.put,lA_,lB_,lC_,i64_w,i32_w]
           rfl
          refine done_ (done_of HT_.out (by kernel_rfl)) ?_
          try go_wp2
          go_meet
          case rel => exact ⟨_,((t344 == t345)),(by first|rfl|(simp;done)|(simp [*];done)),H',⟨by first|omega|exact Nat.le_refl _⟩,⟨by (with_reducible repeat (first|apply k1_|apply k2_|apply k3_));exact Kd.R_mono HO309.out (fun _ hk => ⟨(by first|exact hk.2.2.1|(have hq_:=hk;simp only [ne_eq] at hq_ ⊢;simp only [hq_,k8_,and_self])),(by first|exact hk.2.2.2.2|(have hq_:=hk;simp only [ne_eq] at hq_ ⊢;simp only [hq_,k8_,and_self]))⟩)⟩,⟨by (with_reducible repeat (first|apply k1_|apply k2_|apply k3_));exact Kd.R_mono HO327.out (fun _ hk => ⟨(by first|exact hk.1|(have hq_:=hk;simp only [ne_eq] at hq_ ⊢;simp only [hq_,k8_,and_self])),(by first|exact hk.2.2.2.2|(have hq_:=hk;simp only [ne_eq] at hq_ ⊢;simp only [hq_,k8_,and_self]))⟩)⟩,⟨by (with_reducible repeat (first|apply k1_|apply k2_|apply k3_));exact Kd.R_mono HO339.out (fun _ hk => ⟨(by first|exact hk.1|(have hq_:=hk;simp only [ne_eq] at hq_ ⊢;simp only [hq_,k8_,and_self])),(by first|exact hk.2.2.2.1|(have hq_:=hk;simp only [ne_eq] at hq_ ⊢;simp only [hq_,k8_,and_self]))⟩)⟩,⟨by (with_reducible repeat (first|refine k6_ ?_ _|refine k7_ ?_|refine k5_ ?_ _));exact BK310.out⟩,⟨by (with_reducible repeat (first|refine k6_ ?_ _|refine k7_ ?_|refine k5_ ?_ _));exact BK330.out⟩,⟨by (with_reducible repeat (first|refine k6_ ?_ _|refine k7_ ?_|refine k5_ ?_ _));exact BK342.out⟩,⟨by repeat (first|(with_reducible first|exact HB.out|apply below_alloc|apply pw_below_drewN|apply below_drew1|refine below_set ?_ GE310.out|refine below_set ?_ GE330.out|refine below_set ?_ GE342.out)|exact HB.out)⟩⟩
         ·
          rw [if_neg c43] at H
          have c43b0 : (t341 == 2) = false:=beq_eq_false_iff_ne.mpr c43
          have c43b1 : (t341 != 2) = true:=bne_iff_ne.mpr c43
          have H':=Aside0.mk H
          clear H
          try go_wp2
          have n0_ : Aside0 (Kd.R (Kd.int .u8) 5 ((((w33.setCell ⟨gb342,0,none⟩ (.int .i64 t334)).setCell ⟨gb342,1,none⟩ (.int .i64 t335)).setCell ⟨gb342,2,none⟩ (.int .i64 t336)).setCell ⟨gb342,3,none⟩ (.slice Ao37 t337.length co37)) w.heap.size (fun k_ => some k_ ≠ (.slice Ao22 t311.length co22 : Value).ownBlock ∧ some k_ ≠ (.slice Ao23 y319.length co23 : Value).ownBlock ∧ some k_ ≠ (.slice Ao28 t325.length co28 : Value).ownBlock ∧ some k_ ≠ (.slice Ao31 y331.length co31 : Value).ownBlock ∧ some k_ ≠ (.slice Ao37 t337.length co37 : Value).ownBlock) (.slice Ao15 t307.length co15) t307):=⟨by (with_reducible repeat (first|apply k1_|apply k2_|apply k3_));exact Kd.R_mono (k4_ (p:=⟨gb342,3,none⟩) (k4_ (p:=⟨gb342,2,none⟩) (k4_ (p:=⟨gb342,1,none⟩) (k4_ (p:=⟨gb342,0,none⟩) (Kd.R_types HO309.out BK342.out (by decide)) (fun _ hk => hk.2) (.int .i64 t334)) (fun _ hk => hk.2) (.int .i64 t335)) (fun _ hk => hk.2) (.int .i64 t336)) (fun _ hk => hk.2) (.slice Ao37 t337.length co37)) (fun _ hk => ⟨(by first|exact hk.1.1.1.1.1|(have hq_:=hk;simp only [ne_eq] at hq_ ⊢;simp only [hq_,k8_,and_self])),⟨(by first|exact hk.1.1.1.1.2|(have hq_:=hk;simp only [ne_eq] at hq_ ⊢;simp only [hq_,k8_,and_self])),⟨(by first|exact hk.1.1.1.2|(have hq_:=hk;simp only [ne_eq] at hq_ ⊢;simp only [hq_,k8_,and_self])),⟨(by first|exact hk.1.1.2|(have hq_:=hk;simp only [ne_eq] at hq_ ⊢;simp only [hq_,k8_,and_self])),(by first|exact hk.1.2|(have hq_:=hk;simp only [ne_eq] at hq_ ⊢;simp only [hq_,k8_,and_self]))⟩⟩⟩⟩)⟩
          have n1_ : Aside0 (Kd.R (Kd.int .u8) 5 ((((w33.setCell ⟨gb342,0,none⟩ (.int .i64 t334)).setCell ⟨gb342,1,none⟩ (.int .i64 t335)).setCell ⟨gb342,2,none⟩ (.int .i64 t336)).setCell ⟨gb342,3,none⟩ (.slice Ao37 t337.length co37)) w.heap.size (fun k_ => some k_ ≠ (.slice Ao15 t307.length co15 : Value).ownBlock ∧ some k_ ≠ (.slice Ao23 y319.length co23 : Value).ownBlock ∧ some k_ ≠ (.slice Ao28 t325.length co28 : Value).ownBlock ∧ some k_ ≠ (.slice Ao31 y331.length co31 : Value).ownBlock ∧ some k_ ≠ (.slice Ao37 t337.length co37 : Value).ownBlock) (.slice Ao22 t311.length co22) t311):=⟨by (with_reducible repeat (first|apply k1_|apply k2_|apply k3_));exact Kd.R_mono (k4_ (p:=⟨gb342,3,none⟩) (k4_ (p:=⟨gb342,2,none⟩) (k4_ (p:=⟨gb342,1,none⟩) (k4_ (p:=⟨gb342,0,none⟩) (Kd.R_types HO313.out BK342.out (by decide)) (fun _ hk => hk.2) (.int .i64 t334)) (fun _ hk => hk.2) (.int .i64 t335)) (fun _ hk => hk.2) (.int .i64 t336)) (fun _ hk => hk.2) (.slice Ao37 t337.length co37)) (fun _ hk => ⟨(by first|exact hk.1.1.1.1.1|(have hq_:=hk;simp only [ne_eq] at hq_ ⊢;simp only [hq_,k8_,and_self])),⟨(by first|exact hk.1.1.1.1.2|(have hq_:=hk;simp only [ne_eq] at hq_ ⊢;simp only [hq_,k8_,and_self])),⟨(by first|exact hk.1.1.1.2|(have hq_:=hk;simp only [ne_eq] at hq_ ⊢;simp only [hq_,k8_,and_self])),⟨(by first|exact hk.1.1.2|(have hq_:=hk;simp only [ne_eq] at hq_ ⊢;simp only [hq_,k8_,and_self])),(by first|exact hk.1.2|(have hq_:=hk;simp only [ne_eq] at hq_ ⊢;simp only [hq_,k8_,and_self]))⟩⟩⟩⟩)⟩
          have n2_ : Aside0 (Kd.R (Kd.int .u8) 5 ((((w33.setCell ⟨gb342,0,none⟩ (.int .i64 t334)).setCell ⟨gb342,1,none⟩ (.int .i64 t335)).setCell ⟨gb342,2,none⟩ (.int .i64 t336)).setCell ⟨gb342,3,none⟩ (.slice Ao37 t337.length co37)) w.heap.size (fun k_ => some k_ ≠ (.slice Ao15 t307.length co15 : Value).ownBlock ∧ some k_ ≠ (.slice Ao22 t311.length co22 : Value).ownBlock ∧ some k_ ≠ (.slice Ao28 t325.length co28 : Value).ownBlock ∧ some k_ ≠ (.slice Ao31 y331.length co31 : Value).ownBlock ∧ some k_ ≠ (.slice Ao37 t337.length co37 : Value).ownBlock) (.slice Ao23 y319.length co23) y319):=⟨by (with_reducible repeat (first|apply k1_|apply k2_|apply k3_));exact Kd.R_mono (k4_ (p:=⟨gb342,3,none⟩) (k4_ (p:=⟨gb342,2,none⟩) (k4_ (p:=⟨gb342,1,none⟩) (k4_ (p:=⟨gb342,0,none⟩) (Kd.R_types HO321.out BK342.out (by decide)) (fun _ hk => hk.2) (.int .i64 t334)) (fun _ hk => hk.2) (.int .i64 t335)) (fun _ hk => hk.2) (.int .i64 t336)) (fun _ hk => hk.2) (.slice Ao37 t337.length co37)) (fun _ hk => ⟨(by first|exact hk.1.1.1.1.1|(have hq_:=hk;simp only [ne_eq] at hq_ ⊢;simp only [hq_,k8_,and_self])),⟨(by first|exact hk.1.1.1.1.2|(have hq_:=hk;simp only [ne_eq] at hq_ ⊢;simp only [hq_,k8_,and_self])),⟨(by first|exact hk.1.1.1.2|(have hq_:=hk;simp only [ne_eq] at hq_ ⊢;simp only [hq_,k8_,and_self])),⟨(by first|exact hk.1.1.2|(have hq_:=hk;simp only [ne_eq] at hq_ ⊢;simp only [hq_,k8_,and_self])),(by first|exact hk.1.2|(have hq_:=hk;simp only [ne_eq] at hq_ ⊢;simp only [hq_,k8_,and_self]))⟩⟩⟩⟩)⟩
          have n3_ : Aside0 (Kd.R (Kd.int .u8) 5 ((((w33.setCell ⟨gb342,0,none⟩ (.int .i64 t334)).setCell ⟨gb342,1,none⟩ (.int .i64 t335)).setCell ⟨gb342,2,none⟩ (.int .i64 t336)).setCell ⟨gb342,3,none⟩ (.slice Ao37 t337.length co37)) w.heap.size (fun k_ => some k_ ≠ (.slice Ao15 t307.length co15 : Value).ownBlock ∧ some k_ ≠ (.slice Ao22 t311.length co22 : Value).ownBlock ∧ some k_ ≠ (.slice Ao23 y319.length co23 : Value).ownBlock ∧ some k_ ≠ (.slice Ao31 y331.length co31 : Value).ownBlock ∧ some k_ ≠ (.slice Ao37 t337.length co37 : Value).ownBlock) (.slice Ao28 t325.length co28) t325):=⟨by (with_reducible repeat (first|apply k1_|apply k2_|apply k3_));exact Kd.R_mono (k4_ (p:=⟨gb342,3,none⟩) (k4_ (p:=⟨gb342,2,none⟩) (k4_ (p:=⟨gb342,1,none⟩) (k4_ (p:=⟨gb342,0,none⟩) (Kd.R_types HO327.out BK342.out (by decide)) (fun _ hk => hk.2) (.int .i64 t334)) (fun _ hk => hk.2) (.int .i64 t335)) (fun _ hk => hk.2) (.int .i64 t336)) (fun _ hk => hk.2) (.slice Ao37 t337.length co37)) (fun _ hk => ⟨(by first|exact hk.1.1.1.1.1.2|(have hq_:=hk;simp only [ne_eq] at hq_ ⊢;simp only [hq_,k8_,and_self])),⟨(by first|exact hk.1.1.1.1.2|(have hq_:=hk;simp only [ne_eq] at hq_ ⊢;simp only [hq_,k8_,and_self])),⟨(by first|exact hk.1.1.1.2|(have hq_:=hk;simp only [ne_eq] at hq_ ⊢;simp only [hq_,k8_,and_self])),⟨(by first|exact hk.1.1.2|(have hq_:=hk;simp only [ne_eq] at hq_ ⊢;simp only [hq_,k8_,and_self])),(by first|exact hk.1.2|(have hq_:=hk;simp only [ne_eq] at hq_ ⊢;simp only [hq_,k8_,and_self]))⟩⟩⟩⟩)⟩
          have n4_ : Aside0 (Kd.R (Kd.int .u8) 5 ((((w33.setCell ⟨gb342,0,none⟩ (.int .i64 t334)).setCell ⟨gb342,1,none⟩ (.int .i64 t335)).setCell ⟨gb342,2,none⟩ (.int .i64 t336)).setCell ⟨gb342,3,none⟩ (.slice Ao37 t337.length co37)) w.heap.size (fun k_ => some k_ ≠ (.slice Ao15 t307.length co15 : Value).ownBlock ∧ some k_ ≠ (.slice Ao22 t311.length co22 : Value).ownBlock ∧ some k_ ≠ (.slice Ao23 y319.length co23 : Value).ownBlock ∧ some k_ ≠ (.slice Ao28 t325.length co28 : Value).ownBlock ∧ some k_ ≠ (.slice Ao37 t337.length co37 : Value).ownBlock) (.slice Ao31 y331.length co31) y331):=⟨by (with_reducible repeat (first|apply k1_|apply k2_|apply k3_));exact Kd.R_mono (k4_ (p:=⟨gb342,3,none⟩) (k4_ (p:=⟨gb342,2,none⟩) (k4_ (p:=⟨gb342,1,none⟩) (k4_ (p:=⟨gb342,0,none⟩) (Kd.R_types HO333.out BK342.out (by decide)) (fun _ hk => hk.2) (.int .i64 t334)) (fun _ hk => hk.2) (.int .i64 t335)) (fun _ hk => hk.2) (.int .i64 t336)) (fun _ hk => hk.2) (.slice Ao37 t337.length co37)) (fun _ hk => ⟨(by first|exact hk.1.1.1.1.1.2|(have hq_:=hk;simp only [ne_eq] at hq_ ⊢;simp only [hq_,k8_,and_self])),⟨(by first|exact hk.1.1.1.1.2|(have hq_:=hk;simp only [ne_eq] at hq_ ⊢;simp only [hq_,k8_,and_self])),⟨(by first|exact hk.1.1.1.2|(have hq_:=hk;simp only [ne_eq] at hq_ ⊢;simp only [hq_,k8_,and_self])),⟨(by first|exact hk.1.1.2|(have hq_:=hk;simp only [ne_eq] at hq_ ⊢;simp only [hq_,k8_,and_self])),(by first|exact hk.1.2|(have hq_:=hk;simp only [ne_eq] at hq_ ⊢;simp only [hq_,k8_,and_self]))⟩⟩⟩⟩)⟩
          have n5_ : Aside0 (Kd.R (Kd.int .u8) 5 ((((w33.setCell ⟨gb342,0,none⟩ (.int .i64 t334)).setCell ⟨gb342,1,none⟩ (.int .i64 t335)).setCell ⟨gb342,2,none⟩ (.int .i64 t336)).setCell ⟨gb342,3,none⟩ (.slice Ao37 t337.length co37)) w.heap.size (fun k_ => some k_ ≠ (.slice Ao15 t307.length co15 : Value).ownBlock ∧ some k_ ≠ (.slice Ao22 t311.length co22 : Value).ownBlock ∧ some k_ ≠ (.slice Ao23 y319.length co23 : Value).ownBlock ∧ some k_ ≠ (.slice Ao28 t325.length co28 : Value).ownBlock ∧ some k_ ≠ (.slice Ao31 y331.length co31 : Value).ownBlock) (.slice Ao37 t337.length co37) t337):=⟨by (with_reducible repeat (first|apply k1_|apply k2_|apply k3_));exact Kd.R_mono (k4_ (p:=⟨gb342,3,none⟩) (k4_ (p:=⟨gb342,2,none⟩) (k4_ (p:=⟨gb342,1,none⟩) (k4_ (p:=⟨gb342,0,none⟩) (Kd.R_types HO339.out BK342.out (by decide)) (fun _ hk => hk.2) (.int .i64 t334)) (fun _ hk => hk.2) (.int .i64 t335)) (fun _ hk => hk.2) (.int .i64 t336)) (fun _ hk => hk.2) (.slice Ao37 t337.length co37)) (fun _ hk => ⟨(by first|exact hk.1.1.1.1.1.2|(have hq_:=hk;simp only [ne_eq] at hq_ ⊢;simp only [hq_,k8_,and_self])),⟨(by first|exact hk.1.1.1.1.2|(have hq_:=hk;simp only [ne_eq] at hq_ ⊢;simp only [hq_,k8_,and_self])),⟨(by first|exact hk.1.1.1.2|(have hq_:=hk;simp only [ne_eq] at hq_ ⊢;simp only [hq_,k8_,and_self])),⟨(by first|exact hk.1.1.2|(have hq_:=hk;simp only [ne_eq] at hq_ ⊢;simp only [hq_,k8_,and_self])),(by first|exact hk.1.2|(have hq_:=hk;simp only [ne_eq] at hq_ ⊢;simp only [hq_,k8_,and_self]))⟩⟩⟩⟩)⟩
          have n6_ : Aside0 (((((w33.setCell ⟨gb342,0,none⟩ (.int .i64 t334)).setCell ⟨gb342,1,none⟩ (.int .i64 t335)).setCell ⟨gb342,2,none⟩ (.int .i64 t336)).setCell ⟨gb342,3,none⟩ (.slice Ao37 t337.length co37)).heap[gb310]? = some (.cells #[.int .i64 t304,.int .i64 t305,.int .i64 t306,.slice Ao15 t307.length co15] 59 (0,0))):=⟨by (with_reducible repeat (first|refine k6_ ?_ _|refine k7_ ?_|refine k5_ ?_ _));refine blk_far ?_ NB310_342.out _;(with_reducible repeat (first|refine k6_ ?_ _|refine k7_ ?_|refine k5_ ?_ _));refine blk_far ?_ NB310_342.out _;(with_reducible repeat (first|refine k6_ ?_ _|refine k7_ ?_|refine k5_ ?_ _));refine blk_far ?_ NB310_342.out _;(with_reducible repeat (first|refine k6_ ?_ _|refine k7_ ?_|refine k5_ ?_ _));refine blk_far ?_ NB310_342.out _;(with_reducible repeat (first|refine k6_ ?_ _|refine k7_ ?_|refine k5_ ?_ _));exact BK310.out⟩
          have n7_ : Aside0 (((((w33.setCell ⟨gb342,0,none⟩ (.int .i64 t334)).setCell ⟨gb342,1,none⟩ (.int .i64 t335)).setCell ⟨gb342,2,none⟩ (.int .i64 t336)).setCell ⟨gb342,3,none⟩ (.slice Ao37 t337.length co37)).heap[gb330]? = some (.cells #[.int .i64 t322,.int .i64 t323,.int .i64 t324,.slice Ao28 t325.length co28] 59 (0,0))):=⟨by (with_reducible repeat (first|refine k6_ ?_ _|refine k7_ ?_|refine k5_ ?_ _));refine blk_far ?_ NB330_342.out _;(with_reducible repeat (first|refine k6_ ?_ _|refine k7_ ?_|refine k5_ ?_ _));refine blk_far ?_ NB330_342.out _;(with_reducible repeat (first|refine k6_ ?_ _|refine k7_ ?_|refine k5_ ?_ _));refine blk_far ?_ NB330_342.out _;(with_reducible repeat (first|refine k6_ ?_ _|refine k7_ ?_|refine k5_ ?_ _));refine blk_far ?_ NB330_342.out _;(with_reducible repeat (first|refine k6_ ?_ _|refine k7_ ?_|refine k5_ ?_ _));exact BK330.out⟩
          have n8_ : Aside0 (((((w33.setCell ⟨gb342,0,none⟩ (.int .i64 t334)).setCell ⟨gb342,1,none⟩ (.int .i64 t335)).setCell ⟨gb342,2,none⟩ (.int .i64 t336)).setCell ⟨gb342,3,none⟩ (.slice Ao37 t337.length co37)).heap[gb342]? = some (.cells #[.int .i64 t334,.int .i64 t335,.int .i64 t336,.slice Ao37 t337.length co37] 59 (0,0))):=⟨by (with_reducible repeat (first|refine k6_ ?_ _|refine k7_ ?_|refine k5_ ?_ _));refine blk_put (cs:=#[.int .i64 t334,.int .i64 t335,.int .i64 t336,.slice none 0 0]) ?_ 3 _ rfl;(with_reducible repeat (first|refine k6_ ?_ _|refine k7_ ?_|refine k5_ ?_ _));refine blk_put (cs:=#[.int .i64 t334,.int .i64 t335,.int .i64 0,.slice none 0 0]) ?_ 2 _ rfl;(with_reducible repeat (first|refine k6_ ?_ _|refine k7_ ?_|refine k5_ ?_ _));refine blk_put (cs:=#[.int .i64 t334,.int .i64 0,.int .i64 0,.slice none 0 0]) ?_ 1 _ rfl;(with_reducible repeat (first|refine k6_ ?_ _|refine k7_ ?_|refine k5_ ?_ _));refine blk_put (cs:=#[.int .i64 0,.int .i64 0,.int .i64 0,.slice none 0 0]) ?_ 0 _ rfl;(with_reducible repeat (first|refine k6_ ?_ _|refine k7_ ?_|refine k5_ ?_ _));exact BK342.out⟩
          have n9_ : Aside0 (Below w.heap.size w ((((w33.setCell ⟨gb342,0,none⟩ (.int .i64 t334)).setCell ⟨gb342,1,none⟩ (.int .i64 t335)).setCell ⟨gb342,2,none⟩ (.int .i64 t336)).setCell ⟨gb342,3,none⟩ (.slice Ao37 t337.length co37))):=⟨by repeat (first|(with_reducible first|exact HB.out|apply below_alloc|apply pw_below_drewN|apply below_drew1|refine below_set ?_ GE310.out|refine below_set ?_ GE330.out|refine below_set ?_ GE342.out)|exact HB.out)⟩
          (try clear HO309)
          (try clear HO313)
          (try clear HO321)
          (try clear HO327)
          (try clear HO333)
          (try clear HO339)
          (try clear BK310)
          (try clear BK330)
          (try clear BK342)
          (try clear HB)
          generalize ((((w33.setCell ⟨gb342,0,none⟩ (.int .i64 t334)).setCell ⟨gb342,1,none⟩ (.int .i64 t335)).setCell ⟨gb342,2,none⟩ (.int .i64 t336)).setCell ⟨gb342,3,none⟩ (.slice Ao37 t337.length co37)) = w51 at n0_ n1_ n2_ n3_ n4_ n5_ n6_ n7_ n8_ n9_ ⊢
          have HO309:=n0_
          have HO313:=n1_
          have HO321:=n2_
          have HO327:=n3_
          have HO333:=n4_
          have HO339:=n5_
          have BK310:=n6_
          have BK330:=n7_
          have BK342:=n8_
          have HB:=n9_
          clear n0_ n1_ n2_ n3_ n4_ n5_ n6_ n7_ n8_ n9_
          have n0_:=Aside0.mk (k3_ HO309.out)
          have n1_:=Aside0.mk (k3_ HO313.out)
          have n2_:=Aside0.mk (k3_ HO321.out)
          have n3_:=Aside0.mk (k3_ HO327.out)
          have n4_:=Aside0.mk (k3_ HO333.out)
          have n5_:=Aside0.mk (k3_ HO339.out)
          have n6_:=Aside0.mk (k7_ BK310.out)
          have n7_:=Aside0.mk (k7_ BK330.out)
          have n8_:=Aside0.mk (k7_ BK342.out)
          have n9_:=Aside0.mk (below_drew1 HB.out)
          clear HO309
          clear HO313
          clear HO321
          clear HO327
          clear HO333
          clear HO339
          clear BK310
          clear BK330
          clear BK342
          clear HB
          have HO309:=n0_
          have HO313:=n1_
          have HO321:=n2_
          have HO327:=n3_
          have HO333:=n4_
          have HO339:=n5_
          have BK310:=n6_
          have BK330:=n7_
          have BK342:=n8_
          have HB:=n9_
          clear n0_ n1_ n2_ n3_ n4_ n5_ n6_ n7_ n8_ n9_
          refine start_ (n:=35) (S:=fun w' => w'.cell? ⟨gb330,0,none⟩ = some (.int .i64 t322) ∧ w'.cell? ⟨gb330,1,none⟩ = some (.int .i64 t323) ∧ w'.cell? ⟨gb330,2,none⟩ = some (.int .i64 t324) ∧ w'.cell? ⟨gb330,3,none⟩ = some (.slice Ao28 t325.length co28) ∧ w'.cell? ⟨gb310,0,none⟩ = some (.int .i64 t304) ∧ w'.cell? ⟨gb310,1,none⟩ = some (.int .i64 t305) ∧ w'.cell? ⟨gb310,2,none⟩ = some (.int .i64 t306) ∧ w'.cell? ⟨gb310,3,none⟩ = some (.slice Ao15 t307.length co15)) (ds:=[]) #[Z,Z,Z,Z,Z,Z,Z,Z,Z,Z,Z,Z,Z,Z,Z,Z,Z,Z,Z,Z,Z,Z,Z,Z,Z,Z,Z,Z,Z,Z,Z,Z,Z,Z,Z] (by kernel_rfl) rfl rfl ⟨(blk_cell BK330.out 0).trans rfl,(blk_cell BK330.out 1).trans rfl,(blk_cell BK330.out 2).trans rfl,(blk_cell BK330.out 3).trans rfl,(blk_cell BK310.out 0).trans rfl,(blk_cell BK310.out 1).trans rfl,(blk_cell BK310.out 2).trans rfl,(blk_cell BK310.out 3).trans rfl⟩ (fun hHeld => ?_);refine with_tabW laws_FnOneFrame.tab9 laws_FnOneFrame.bits9 (fun HT_ HW_ => ?_)
          generalize w51.drew = w52 at HO309 HO313 HO321 HO327 HO333 HO339 BK310 BK330 BK342 HB hHeld ⊢
          refine pure_ (i:=0) (N:=some 42) (v:=?_) (a':=?_) #[Y,Z,Z,Z,Z,Z,Z,Z,Z,Z,Z,Z,Z,Z,Z,Z,Z,Z,Z,Z,Z,Z,Z,Z,Z,Z,Z,Z,Z,Z,Z,Z,Z,Z,Z] rfl rfl (any_of HT_.out (by kernel_rfl)) (fun _ _ _ h => h) (Or.inl ⟨by rfl,?_⟩) ?_ ?_
          rotate_left
          ·
           intro w'
           go_simp
           with_reducible rfl
          rotate_left
          ·
           simp only [Act.put,lA_,lB_,lC_,i64_w,i32_w]
           rfl
          refine pure_ (i:=1) (N:=some 43) (v:=?_) (a':=?_) #[Y,Y,Z,Z,Z,Z,Z,Z,Z,Z,Z,Z,Z,Z,Z,Z,Z,Z,Z,Z,Z,Z,Z,Z,Z,Z,Z,Z,Z,Z,Z,Z,Z,Z,Z] rfl rfl (any_of HT_.out (by kernel_rfl)) (fun _ _ _ h => h) (Or.inl ⟨by rfl,?_⟩) ?_ ?_
          rotate_left
          ·
           intro w'
           go_simp
           with_reducible rfl
          rotate_left
          ·
           simp only [Act.put,lA_,lB_,lC_,i64_w,i32_w]
           rfl
          refine pure_ (i:=2) (N:=some 44) (v:=?_) (a':=?_) #[Y,Y,Y,Z,Z,Z,Z,Z,Z,Z,Z,Z,Z,Z,Z,Z,Z,Z,Z,Z,Z,Z,Z,Z,Z,Z,Z,Z,Z,Z,Z,Z,Z,Z,Z] rfl rfl (any_of HT_.out (by kernel_rfl)) (fun _ _ _ h => h) (Or.inl ⟨by rfl,?_⟩) ?_ ?_
          rotate_left
          ·
           intro w'
           go_simp
           with_reducible rfl
          rotate_left
          ·
           simp only [Act.put,lA_,lB_,lC_,i64_w,i32_w]
           rfl
          refine pure_ (i:=3) (N:=some 45) (v:=?_) (a':=?_) #[Y,Y,Y,Y,Z,Z,Z,Z,Z,Z,Z,Z,Z,Z,Z,Z,Z,Z,Z,Z,Z,Z,Z,Z,Z,Z,Z,Z,Z,Z,Z,Z,Z,Z,Z] rfl rfl (any_of HT_.out (by kernel_rfl)) (fun _ _ _ h => h) (Or.inl ⟨by rfl,?_⟩) ?_ ?_
          rotate_left
          ·
           intro w'
           go_simp
           with_reducible rfl
          rotate_left
          ·
           simp only [Act.put,lA_,lB_,lC_,i64_w,i32_w]
           rfl
          refine pure_ (i:=4) (N:=some 46) (v:=?_) (a':=?_) #[Y,Y,Y,Y,Y,Z,Z,Z,Z,Z,Z,Z,Z,Z,Z,Z,Z,Z,Z,Z,Z,Z,Z,Z,Z,Z,Z,Z,Z,Z,Z,Z,Z,Z,Z] rfl rfl (any_of HT_.out (by kernel_rfl)) (fun _ _ _ h => h) (Or.inl ⟨by rfl,?_⟩) ?_ ?_
          rotate_left
          ·
           intro w'
           go_simp
           with_reducible rfl
          rotate_left
          ·
           simp only [Act.put,lA_,lB_,lC_,i64_w,i32_w]
           rfl
          refine pure_ (i:=5) (N:=some 47) (v:=?_) (a':=?_) #[Y,Y,Y,Y,Y,Y,Z,Z,Z,Z,Z,Z,Z,Z,Z,Z,Z,Z,Z,Z,Z,Z,Z,Z,Z,Z,Z,Z,Z,Z,Z,Z,Z,Z,Z] rfl rfl (any_of HT_.out (by kernel_rfl)) (fun _ _ _ h => h) (Or.inl ⟨by rfl,?_⟩) ?_ ?_
          rotate_left
          ·
           intro w'
           go_simp
           with_reducible rfl
          rotate_left
          ·
           simp only [Act.put,lA_,lB_,lC_,i64_w,i32_w]
           rfl
          refine pure_ (i:=6) (N:=some 48) (v:=?_) (a':=?_) #[Y,Y,Y,Y,Y,Y,Y,Z,Z,Z,Z,Z,Z,Z,Z,Z,Z,Z,Z,Z,Z,Z,Z,Z,Z,Z,Z,Z,Z,Z,Z,Z,Z,Z,Z] rfl rfl (any_of HT_.out (by kernel_rfl)) (fun _ _ _ h => h) (Or.inl ⟨by rfl,?_⟩) ?_ ?_
          rotate_left
          ·
           intro w'
           go_simp
           with_reducible rfl
          rotate_left
          ·
           simp only [Act.put,lA_,lB_,lC_,i64_w,i32_w]
           rfl
          refine pure_ (i:=7) (N:=some 49) (v:=?_) (a':=?_) #[Y,Y,Y,Y,Y,Y,Y,Y,Z,Z,Z,Z,Z,Z,Z,Z,Z,Z,Z,Z,Z,Z,Z,Z,Z,Z,Z,Z,Z,Z,Z,Z,Z,Z,Z] rfl rfl (any_of HT_.out (by kernel_rfl)) (fun _ _ _ h => h) (Or.inl ⟨by rfl,?_⟩) ?_ ?_
          rotate_left
          ·
           intro w'
           go_simp
           with_reducible rfl
          rotate_left
          ·
           simp only [Act.put,lA_,lB_,lC_,i64_w,i32_w]
           rfl
          refine pure_ (i:=8) (N:=some 50) (v:=?_) (a':=?_) #[Y,Y,Y,Y,Y,Y,Y,Y,Y,Z,Z,Z,Z,Z,Z,Z,Z,Z,Z,Z,Z,Z,Z,Z,Z,Z,Z,Z,Z,Z,Z,Z,Z,Z,Z] rfl rfl (any_of HT_.out (by kernel_rfl)) (fun _ _ _ h => h) (Or.inl ⟨by rfl,?_⟩) ?_ ?_
          rotate_left
          ·
           intro w'
           go_simp
           with_reducible rfl
          rotate_left
          ·
           simp only [Act.put,lA_,lB_,lC_,i64_w,i32_w]
           rfl
          refine pure_ (i:=9) (N:=some 51) (v:=?_) (a':=?_) #[Y,Y,Y,Y,Y,Y,Y,Y,Y,Y,Z,Z,Z,Z,Z,Z,Z,Z,Z,Z,Z,Z,Z,Z,Z,Z,Z,Z,Z,Z,Z,Z,Z,Z,Z] rfl rfl (any_of HT_.out (by kernel_rfl)) (fun _ _ _ h => h) (Or.inl ⟨by rfl,?_⟩) ?_ ?_
          rotate_left
          ·
           intro w'
           go_simp
           with_reducible rfl
          rotate_left
          ·
           simp only [Act.put,lA_,lB_,lC_,i64_w,i32_w]
           rfl
          refine take_ (i:=10) (N:=some 52) (v:=?_) (a':=?_) #[Y,Y,Y,Y,Y,Y,Y,Y,Y,Y,Y,Z,Z,Z,Z,Z,Z,Z,Z,Z,Z,Z,Z,Z,Z,Z,Z,Z,Z,Z,Z,Z,Z,Z,Z] rfl rfl (take_ofW HT_.out HW_.out (by kernel_rfl)) (fun _ _ _ h => h) (Or.inl ⟨by rfl,?_⟩) hHeld ?_ ?_
          rotate_left
          ·
           rintro w' ⟨s0,s1,s2,s3,s4,s5,s6,s7⟩
           go_simp
           with_reducible rfl
          rotate_left
          ·
           simp only [Act.put,lA_,lB_,lC_,i64_w,i32_w]
           rfl
          refine take_ (i:=11) (N:=some 53) (v:=?_) (a':=?_) #[Y,Y,Y,Y,Y,Y,Y,Y,Y,Y,Y,Y,Z,Z,Z,Z,Z,Z,Z,Z,Z,Z,Z,Z,Z,Z,Z,Z,Z,Z,Z,Z,Z,Z,Z] rfl rfl (take_ofW HT_.out HW_.out (by kernel_rfl)) (fun _ _ _ h => h) (Or.inl ⟨by rfl,?_⟩) hHeld ?_ ?_
          rotate_left
          ·
           rintro w' ⟨s0,s1,s2,s3,s4,s5,s6,s7⟩
           go_simp
           with_reducible rfl
          rotate_left
          ·
           simp only [Act.put,lA_,lB_,lC_,i64_w,i32_w]
           rfl
          refine one_ (i:=12) (N:=some 54) #[Y,Y,Y,Y,Y,Y,Y,Y,Y,Y,Y,Y,Y,Z,Z,Z,Z,Z,Z,Z,Z,Z,Z,Z,Z,Z,Z,Z,Z,Z,Z,Z,Z,Z,Z] rfl rfl (one_of HT_.out (by kernel_rfl)) (by decide) (fun K hK => ?_)
          refine goes_ Try.func43 (by kernel_rfl) rfl #[.agg #[.int .i64 t322,.int .i64 t323,.int .i64 t324,.slice Ao28 t325.length co28],.agg #[.int .i64 t304,.int .i64 t305,.int .i64 t306,.slice Ao15 t307.length co15]] (by rfl) rfl rfl (by (try simp only [List.map_toArray,List.map_cons,List.map_nil]);first|done|rfl|(simp only [List.length_drop,List.length_take];rfl)) ?_
          with_reducible refine (laws_sameFrame.calls k t322 t323 t324 _ _ t325 t304 t305 t306 _ _ t307 true _ ?side1 ?side2 ?side3 ?side4 A40.out).mono ?_
          (case side1 => repeat (first|exact (Kd.R_reads' HO327.out).2.2|(with_reducible refine Kd.C_alloc ?_ _)|(with_reducible refine Kd.C_drewN ?_ _)|(with_reducible refine Kd.C_drew ?_)))
          (case side2 => exact (Kd.R_reads' HO327.out).2.1)
          (case side3 => repeat (first|exact (Kd.R_reads' HO309.out).2.2|(with_reducible refine Kd.C_alloc ?_ _)|(with_reducible refine Kd.C_drewN ?_ _)|(with_reducible refine Kd.C_drew ?_)))
          (case side4 => exact (Kd.R_reads' HO309.out).2.1)
          rintro e w53 ⟨rfl,hb⟩
          refine ⟨_,rfl,?_⟩
          have n0_:=Aside0.mk (Kd.R_below (by (with_reducible repeat (first|apply k1_|apply k2_|apply k3_));exact HO309.out) hb)
          have n1_:=Aside0.mk (Kd.R_below (by (with_reducible repeat (first|apply k1_|apply k2_|apply k3_));exact HO313.out) hb)
          have n2_:=Aside0.mk (Kd.R_below (by (with_reducible repeat (first|apply k1_|apply k2_|apply k3_));exact HO321.out) hb)
          have n3_:=Aside0.mk (Kd.R_below (by (with_reducible repeat (first|apply k1_|apply k2_|apply k3_));exact HO327.out) hb)
          have n4_:=Aside0.mk (Kd.R_below (by (with_reducible repeat (first|apply k1_|apply k2_|apply k3_));exact HO333.out) hb)
          have n5_:=Aside0.mk (Kd.R_below (by (with_reducible repeat (first|apply k1_|apply k2_|apply k3_));exact HO339.out) hb)
          have n6_:=Aside0.mk (blk_below (g:=gb310) (o:=.cells #[.int .i64 t304,.int .i64 t305,.int .i64 t306,.slice Ao15 t307.length co15] 59 (0,0)) (by (with_reducible repeat (first|refine k6_ ?_ _|refine k7_ ?_|refine k5_ ?_ _));exact BK310.out) hb)
          have n7_:=Aside0.mk (blk_below (g:=gb330) (o:=.cells #[.int .i64 t322,.int .i64 t323,.int .i64 t324,.slice Ao28 t325.length co28] 59 (0,0)) (by (with_reducible repeat (first|refine k6_ ?_ _|refine k7_ ?_|refine k5_ ?_ _));exact BK330.out) hb)
          have n8_:=Aside0.mk (blk_below (g:=gb342) (o:=.cells #[.int .i64 t334,.int .i64 t335,.int .i64 t336,.slice Ao37 t337.length co37] 59 (0,0)) (by (with_reducible repeat (first|refine k6_ ?_ _|refine k7_ ?_|refine k5_ ?_ _));exact BK342.out) hb)
          have n9_:=Aside0.mk (below_step (by repeat (first|(with_reducible first|exact HB.out|apply below_alloc|apply pw_below_drewN|apply below_drew1|refine below_set ?_ GE310.out|refine below_set ?_ GE330.out|refine below_set ?_ GE342.out)|exact HB.out)) hb)
          clear HO309
          clear HO313
          clear HO321
          clear HO327
          clear HO333
          clear HO339
          clear BK310
          clear BK330
          clear BK342
          clear HB
          have HO309:=n0_
          have HO313:=n1_
          have HO321:=n2_
          have HO327:=n3_
          have HO333:=n4_
          have HO339:=n5_
          have BK310:=n6_
          have BK330:=n7_
          have BK342:=n8_
          have HB:=n9_
          clear n0_ n1_ n2_ n3_ n4_ n5_ n6_ n7_ n8_ n9_
          (try clear hb)
          (try clear hb2)
          (try clear hk)
          (try clear hi)
          refine hK.out _ _ ⟨(blk_cell BK330.out 0).trans rfl,(blk_cell BK330.out 1).trans rfl,(blk_cell BK330.out 2).trans rfl,(blk_cell BK330.out 3).trans rfl,(blk_cell BK310.out 0).trans rfl,(blk_cell BK310.out 1).trans rfl,(blk_cell BK310.out 2).trans rfl,(blk_cell BK310.out 3).trans rfl⟩ (fun hHeld => ?_)
          clear hK K
          refine norm_ (a':=?_) ?_ ?_
          rotate_left
          ·
           show Act.put _ (some 54) _ = _
           simp only [Act.put,lA_,lB_,lC_,i64_w,i32_w]
           rfl
          refine pure_ (i:=13) (N:=some 55) (v:=?_) (a':=?_) #[Y,Y,Y,Y,Y,Y,Y,Y,Y,Y,Y,Y,Y,Y,Z,Z,Z,Z,Z,Z,Z,Z,Z,Z,Z,Z,Z,Z,Z,Z,Z,Z,Z,Z,Z] rfl rfl (any_of HT_.out (by kernel_rfl)) (fun _ _ _ h => h) (Or.inl ⟨by rfl,?_⟩) ?_ ?_
          rotate_left
          ·
           intro w'
           go_simp
           with_reducible rfl
          rotate_left
          ·
           simp only [Act.put,lA_,lB_,lC_,i64_w,i32_w]
           rfl
          refine pure_ (i:=14) (N:=some 56) (v:=?_) (a':=?_) #[Y,Y,Y,Y,Y,Y,Y,Y,Y,Y,Y,Y,Y,Y,Y,Z,Z,Z,Z,Z,Z,Z,Z,Z,Z,Z,Z,Z,Z,Z,Z,Z,Z,Z,Z] rfl rfl (any_of HT_.out (by kernel_rfl)) (fun _ _ _ h => h) (Or.inl ⟨by rfl,?_⟩) ?_ ?_
          rotate_left
          ·
           intro w'
           go_simp
           with_reducible rfl
          rotate_left
          ·
           simp only [Act.put,lA_,lB_,lC_,i64_w,i32_w]
           rfl
          refine pure_ (i:=15) (N:=some 57) (v:=?_) (a':=?_) #[Y,Y,Y,Y,Y,Y,Y,Y,Y,Y,Y,Y,Y,Y,Y,Y,Z,Z,Z,Z,Z,Z,Z,Z,Z,Z,Z,Z,Z,Z,Z,Z,Z,Z,Z] rfl rfl (any_of HT_.out (by kernel_rfl)) (fun _ _ _ h => h) (Or.inl ⟨by rfl,?_⟩) ?_ ?_
          rotate_left
          ·
           intro w'
           go_simp
           with_reducible rfl
          rotate_left
          ·
           simp only [Act.put,lA_,lB_,lC_,i64_w,i32_w]
           rfl
          refine pure_ (i:=16) (N:=some 58) (v:=?_) (a':=?_) #[Y,Y,Y,Y,Y,Y,Y,Y,Y,Y,Y,Y,Y,Y,Y,Y,Y,Z,Z,Z,Z,Z,Z,Z,Z,Z,Z,Z,Z,Z,Z,Z,Z,Z,Z] rfl rfl (any_of HT_.out (by kernel_rfl)) (fun _ _ _ h => h) (Or.inl ⟨by rfl,?_⟩) ?_ ?_
          rotate_left
          ·
           intro w'
           go_simp
           with_reducible rfl
          rotate_left
          ·
           simp only [Act.put,lA_,lB_,lC_,i64_w,i32_w]
           rfl
          refine pure_ (i:=17) (N:=some 59) (v:=?_) (a':=?_) #[Y,Y,Y,Y,Y,Y,Y,Y,Y,Y,Y,Y,Y,Y,Y,Y,Y,Y,Z,Z,Z,Z,Z,Z,Z,Z,Z,Z,Z,Z,Z,Z,Z,Z,Z] rfl rfl (any_of HT_.out (by kernel_rfl)) (fun _ _ _ h => h) (Or.inl ⟨by rfl,?_⟩) ?_ ?_
          rotate_left
          ·
           intro w'
           go_simp
           with_reducible rfl
          rotate_left
          ·
           simp only [Act.put,lA_,lB_,lC_,i64_w,i32_w]
           rfl
          refine take_ (i:=18) (N:=some 60) (v:=?_) (a':=?_) #[Y,Y,Y,Y,Y,Y,Y,Y,Y,Y,Y,Y,Y,Y,Y,Y,Y,Y,Y,Z,Z,Z,Z,Z,Z,Z,Z,Z,Z,Z,Z,Z,Z,Z,Z] rfl rfl (take_ofW HT_.out HW_.out (by kernel_rfl)) (fun _ _ _ h => h) (Or.inl ⟨by rfl,?_⟩) hHeld ?_ ?_
          rotate_left
          ·
           rintro w' ⟨s0,s1,s2,s3,s4,s5,s6,s7⟩
           go_simp
           with_reducible rfl
          rotate_left
          ·
           simp only [Act.put,lA_,lB_,lC_,i64_w,i32_w]
           rfl
          refine pure_ (i:=19) (N:=some 61) (v:=?_) (a':=?_) #[Y,Y,Y,Y,Y,Y,Y,Y,Y,Y,Y,Y,Y,Y,Y,Y,Y,Y,Y,Y,Z,Z,Z,Z,Z,Z,Z,Z,Z,Z,Z,Z,Z,Z,Z] rfl rfl (any_of HT_.out (by kernel_rfl)) (fun _ _ _ h => h) (Or.inl ⟨by rfl,?_⟩) ?_ ?_
          rotate_left
          ·
           intro w'
           go_simp
           with_reducible rfl
          rotate_left
          ·
           simp only [Act.put,lA_,lB_,lC_,i64_w,i32_w]
           rfl
          refine pure_ (i:=20) (N:=some 62) (v:=?_) (a':=?_) #[Y,Y,Y,Y,Y,Y,Y,Y,Y,Y,Y,Y,Y,Y,Y,Y,Y,Y,Y,Y,Y,Z,Z,Z,Z,Z,Z,Z,Z,Z,Z,Z,Z,Z,Z] rfl rfl (any_of HT_.out (by kernel_rfl)) (fun _ _ _ h => h) (Or.inl ⟨by rfl,?_⟩) ?_ ?_
          rotate_left
          ·
           intro w'
           go_simp
           with_reducible rfl
          rotate_left
          ·
           simp only [Act.put,lA_,lB_,lC_,i64_w,i32_w]
           rfl
          refine pure_ (i:=21) (N:=some 63) (v:=?_) (a':=?_) #[Y,Y,Y,Y,Y,Y,Y,Y,Y,Y,Y,Y,Y,Y,Y,Y,Y,Y,Y,Y,Y,Y,Z,Z,Z,Z,Z,Z,Z,Z,Z,Z,Z,Z,Z] rfl rfl (any_of HT_.out (by kernel_rfl)) (fun _ _ _ h => h) (Or.inl ⟨by rfl,?_⟩) ?_ ?_
          rotate_left
          ·
           intro w'
           go_simp
           with_reducible rfl
          rotate_left
          ·
           simp only [Act.put,lA_,lB_,lC_,i64_w,i32_w]
           rfl
          refine pure_ (i:=22) (N:=some 64) (v:=?_) (a':=?_) #[Y,Y,Y,Y,Y,Y,Y,Y,Y,Y,Y,Y,Y,Y,Y,Y,Y,Y,Y,Y,Y,Y,Y,Z,Z,Z,Z,Z,Z,Z,Z,Z,Z,Z,Z] rfl rfl (any_of HT_.out (by kernel_rfl)) (fun _ _ _ h => h) (Or.inl ⟨by rfl,?_⟩) ?_ ?_
          rotate_left
          ·
           intro w'
           go_simp
           with_reducible rfl
          rotate_left
          ·
           simp only [Act.put,lA_,lB_,lC_,i64_w,i32_w]
           rfl
          refine pure_ (i:=23) (N:=some 65) (v:=?_) (a':=?_) #[Y,Y,Y,Y,Y,Y,Y,Y,Y,Y,Y,Y,Y,Y,Y,Y,Y,Y,Y,Y,Y,Y,Y,Y,Z,Z,Z,Z,Z,Z,Z,Z,Z,Z,Z] rfl rfl (any_of HT_.out (by kernel_rfl)) (fun _ _ _ h => h) (Or.inl ⟨by rfl,?_⟩) ?_ ?_
          rotate_left
          ·
           intro w'
           go_simp
           with_reducible rfl
          rotate_left
          ·
           simp only [Act.put,lA_,lB_,lC_,i64_w,i32_w]
           rfl
          refine pure_ (i:=24) (N:=some 66) (v:=?_) (a':=?_) #[Y,Y,Y,Y,Y,Y,Y,Y,Y,Y,Y,Y,Y,Y,Y,Y,Y,Y,Y,Y,Y,Y,Y,Y,Y,Z,Z,Z,Z,Z,Z,Z,Z,Z,Z] rfl rfl (any_of HT_.out (by kernel_rfl)) (fun _ _ _ h => h) (Or.inl ⟨by rfl,?_⟩) ?_ ?_
          rotate_left
          ·
           intro w'
           go_simp
           with_reducible rfl
          rotate_left
          ·
           simp only [Act.put,lA_,lB_,lC_,i64_w,i32_w]
           rfl
          refine pure_ (i:=25) (N:=some 67) (v:=?_) (a':=?_) #[Y,Y,Y,Y,Y,Y,Y,Y,Y,Y,Y,Y,Y,Y,Y,Y,Y,Y,Y,Y,Y,Y,Y,Y,Y,Y,Z,Z,Z,Z,Z,Z,Z,Z,Z] rfl rfl (any_of HT_.out (by kernel_rfl)) (fun _ _ _ h => h) (Or.inl ⟨by rfl,?_⟩) ?_ ?_
          rotate_left
          ·
           intro w'
           go_simp
           with_reducible rfl
          rotate_left
          ·
           simp only [Act.put,lA_,lB_,lC_,i64_w,i32_w]
           rfl
          refine pure_ (i:=26) (N:=some 68) (v:=?_) (a':=?_) #[Y,Y,Y,Y,Y,Y,Y,Y,Y,Y,Y,Y,Y,Y,Y,Y,Y,Y,Y,Y,Y,Y,Y,Y,Y,Y,Y,Z,Z,Z,Z,Z,Z,Z,Z] rfl rfl (any_of HT_.out (by kernel_rfl)) (fun _ _ _ h => h) (Or.inl ⟨by rfl,?_⟩) ?_ ?_
          rotate_left
          ·
           intro w'
           go_simp
           with_reducible rfl
          rotate_left
          ·
           simp only [Act.put,lA_,lB_,lC_,i64_w,i32_w]
           rfl
          refine pure_ (i:=27) (N:=some 69) (v:=?_) (a':=?_) #[Y,Y,Y,Y,Y,Y,Y,Y,Y,Y,Y,Y,Y,Y,Y,Y,Y,Y,Y,Y,Y,Y,Y,Y,Y,Y,Y,Y,Z,Z,Z,Z,Z,Z,Z] rfl rfl (any_of HT_.out (by kernel_rfl)) (fun _ _ _ h => h) (Or.inl ⟨by rfl,?_⟩) ?_ ?_
          rotate_left
          ·
           intro w'
           go_simp
           with_reducible rfl
          rotate_left
          ·
           simp only [Act.put,lA_,lB_,lC_,i64_w,i32_w]
           rfl
          refine pure_ (i:=28) (N:=some 70) (v:=undef) (a':=?_) #[Y,Y,Y,Y,Y,Y,Y,Y,Y,Y,Y,Y,Y,Y,Y,Y,Y,Y,Y,Y,Y,Y,Y,Y,Y,Y,Y,Y,Y,Z,Z,Z,Z,Z,Z] rfl rfl (any_of HT_.out (by kernel_rfl)) (fun _ _ _ h => h) (Or.inr ⟨by rfl,rfl⟩) ?_ ?_
          rotate_left
          ·
           simp only [Act.put,lA_,lB_,lC_,i64_w,i32_w]
           rfl
          refine pure_ (i:=29) (N:=some 71) (v:=undef) (a':=?_) #[Y,Y,Y,Y,Y,Y,Y,Y,Y,Y,Y,Y,Y,Y,Y,Y,Y,Y,Y,Y,Y,Y,Y,Y,Y,Y,Y,Y,Y,Y,Z,Z,Z,Z,Z] rfl rfl (any_of HT_.out (by kernel_rfl)) (fun _ _ _ h => h) (Or.inr ⟨by rfl,rfl⟩) ?_ ?_
          rotate_left
          ·
           simp only [Act.put,lA_,lB_,lC_,i64_w,i32_w]
           rfl
          refine pure_ (i:=30) (N:=some 72) (v:=undef) (a':=?_) #[Y,Y,Y,Y,Y,Y,Y,Y,Y,Y,Y,Y,Y,Y,Y,Y,Y,Y,Y,Y,Y,Y,Y,Y,Y,Y,Y,Y,Y,Y,Y,Z,Z,Z,Z] rfl rfl (any_of HT_.out (by kernel_rfl)) (fun _ _ _ h => h) (Or.inr ⟨by rfl,rfl⟩) ?_ ?_
          rotate_left
          ·
           simp only [Act.put,lA_,lB_,lC_,i64_w,i32_w]
           rfl
          refine pure_ (i:=31) (N:=some 73) (v:=undef) (a':=?_) #[Y,Y,Y,Y,Y,Y,Y,Y,Y,Y,Y,Y,Y,Y,Y,Y,Y,Y,Y,Y,Y,Y,Y,Y,Y,Y,Y,Y,Y,Y,Y,Y,Z,Z,Z] rfl rfl (any_of HT_.out (by kernel_rfl)) (fun _ _ _ h => h) (Or.inr ⟨by rfl,rfl⟩) ?_ ?_
          rotate_left
          ·
           simp only [Act.put,lA_,lB_,lC_,i64_w,i32_w]
           rfl
          refine pure_ (i:=32) (N:=some 74) (v:=undef) (a':=?_) #[Y,Y,Y,Y,Y,Y,Y,Y,Y,Y,Y,Y,Y,Y,Y,Y,Y,Y,Y,Y,Y,Y,Y,Y,Y,Y,Y,Y,Y,Y,Y,Y,Y,Z,Z] rfl rfl (any_of HT_.out (by kernel_rfl)) (fun _ _ _ h => h) (Or.inr ⟨by rfl,rfl⟩) ?_ ?_
          rotate_left
          ·
           simp only [Act.put,lA_,lB_,lC_,i64_w,i32_w]
           rfl
          refine pure_ (i:=33) (N:=some 75) (v:=?_) (a':=?_) #[Y,Y,Y,Y,Y,Y,Y,Y,Y,Y,Y,Y,Y,Y,Y,Y,Y,Y,Y,Y,Y,Y,Y,Y,Y,Y,Y,Y,Y,Y,Y,Y,Y,Y,Z] rfl rfl (any_of HT_.out (by kernel_rfl)) (fun _ _ _ h => h) (Or.inl ⟨by rfl,?_⟩) ?_ ?_
          rotate_left
          ·
           intro w'
           go_simp
           with_reducible rfl
          rotate_left
          ·
           simp only [Act.put,lA_,lB_,lC_,i64_w,i32_w]
           rfl
          refine pure_ (i:=34) (N:=some 2) (v:=?_) (a':=?_) #[Y,Y,Y,Y,Y,Y,Y,Y,Y,Y,Y,Y,Y,Y,Y,Y,Y,Y,Y,Y,Y,Y,Y,Y,Y,Y,Y,Y,Y,Y,Y,Y,Y,Y,Y] rfl rfl (any_of HT_.out (by kernel_rfl)) (fun _ _ _ h => h) (Or.inl ⟨by rfl,?_⟩) ?_ ?_
          rotate_left
          ·
           intro w'
           go_simp
           with_reducible rfl
          rotate_left
          ·
           simp only [Act.put,lA_,lB_,lC_,i64_w,i32_w]
           rfl
          refine done_ (done_of HT_.out (by kernel_rfl)) ?_
          try go_wp2
          go_meet
          case rel => exact ⟨_,(false),(by first|rfl|(simp;done)|(simp [*];done)),H',⟨by first|omega|exact Nat.le_refl _⟩,⟨by (with_reducible repeat (first|apply k1_|apply k2_|apply k3_));exact Kd.R_mono HO309.out (fun _ hk => ⟨(by first|exact hk.2.2.1|(have hq_:=hk;simp only [ne_eq] at hq_ ⊢;simp only [hq_,k8_,and_self])),(by first|exact hk.2.2.2.2|(have hq_:=hk;simp only [ne_eq] at hq_ ⊢;simp only [hq_,k8_,and_self]))⟩)⟩,⟨by (with_reducible repeat (first|apply k1_|apply k2_|apply k3_));exact Kd.R_mono HO327.out (fun _ hk => ⟨(by first|exact hk.1|(have hq_:=hk;simp only [ne_eq] at hq_ ⊢;simp only [hq_,k8_,and_self])),(by first|exact hk.2.2.2.2|(have hq_:=hk;simp only [ne_eq] at hq_ ⊢;simp only [hq_,k8_,and_self]))⟩)⟩,⟨by (with_reducible repeat (first|apply k1_|apply k2_|apply k3_));exact Kd.R_mono HO339.out (fun _ hk => ⟨(by first|exact hk.1|(have hq_:=hk;simp only [ne_eq] at hq_ ⊢;simp only [hq_,k8_,and_self])),(by first|exact hk.2.2.2.1|(have hq_:=hk;simp only [ne_eq] at hq_ ⊢;simp only [hq_,k8_,and_self]))⟩)⟩,⟨by (with_reducible repeat (first|refine k6_ ?_ _|refine k7_ ?_|refine k5_ ?_ _));exact BK310.out⟩,⟨by (with_reducible repeat (first|refine k6_ ?_ _|refine k7_ ?_|refine k5_ ?_ _));exact BK330.out⟩,⟨by (with_reducible repeat (first|refine k6_ ?_ _|refine k7_ ?_|refine k5_ ?_ _));exact BK342.out⟩,⟨by repeat (first|(with_reducible first|exact HB.out|apply below_alloc|apply pw_below_drewN|apply below_drew1|refine below_set ?_ GE310.out|refine below_set ?_ GE330.out|refine below_set ?_ GE342.out)|exact HB.out)⟩⟩
        ·
         rw [if_neg c42] at H
         have c42b0 : ((t311.length : Int) == (wrap64 ((t307.length : Int) + 9))) = false:=beq_eq_false_iff_ne.mpr c42
         have c42b1 : ((t311.length : Int) != (wrap64 ((t307.length : Int) + 9))) = true:=bne_iff_ne.mpr c42
         have H':=Aside0.mk H
         clear H
         try go_wp2
         have n0_ : Aside0 (Kd.R (Kd.int .u8) 5 ((((w33.setCell ⟨gb342,0,none⟩ (.int .i64 t334)).setCell ⟨gb342,1,none⟩ (.int .i64 t335)).setCell ⟨gb342,2,none⟩ (.int .i64 t336)).setCell ⟨gb342,3,none⟩ (.slice Ao37 t337.length co37)) w.heap.size (fun k_ => some k_ ≠ (.slice Ao22 t311.length co22 : Value).ownBlock ∧ some k_ ≠ (.slice Ao23 y319.length co23 : Value).ownBlock ∧ some k_ ≠ (.slice Ao28 t325.length co28 : Value).ownBlock ∧ some k_ ≠ (.slice Ao31 y331.length co31 : Value).ownBlock ∧ some k_ ≠ (.slice Ao37 t337.length co37 : Value).ownBlock) (.slice Ao15 t307.length co15) t307):=⟨by (with_reducible repeat (first|apply k1_|apply k2_|apply k3_));exact Kd.R_mono (k4_ (p:=⟨gb342,3,none⟩) (k4_ (p:=⟨gb342,2,none⟩) (k4_ (p:=⟨gb342,1,none⟩) (k4_ (p:=⟨gb342,0,none⟩) (Kd.R_types HO309.out BK342.out (by decide)) (fun _ hk => hk.2) (.int .i64 t334)) (fun _ hk => hk.2) (.int .i64 t335)) (fun _ hk => hk.2) (.int .i64 t336)) (fun _ hk => hk.2) (.slice Ao37 t337.length co37)) (fun _ hk => ⟨(by first|exact hk.1.1.1.1.1|(have hq_:=hk;simp only [ne_eq] at hq_ ⊢;simp only [hq_,k8_,and_self])),⟨(by first|exact hk.1.1.1.1.2|(have hq_:=hk;simp only [ne_eq] at hq_ ⊢;simp only [hq_,k8_,and_self])),⟨(by first|exact hk.1.1.1.2|(have hq_:=hk;simp only [ne_eq] at hq_ ⊢;simp only [hq_,k8_,and_self])),⟨(by first|exact hk.1.1.2|(have hq_:=hk;simp only [ne_eq] at hq_ ⊢;simp only [hq_,k8_,and_self])),(by first|exact hk.1.2|(have hq_:=hk;simp only [ne_eq] at hq_ ⊢;simp only [hq_,k8_,and_self]))⟩⟩⟩⟩)⟩
         have n1_ : Aside0 (Kd.R (Kd.int .u8) 5 ((((w33.setCell ⟨gb342,0,none⟩ (.int .i64 t334)).setCell ⟨gb342,1,none⟩ (.int .i64 t335)).setCell ⟨gb342,2,none⟩ (.int .i64 t336)).setCell ⟨gb342,3,none⟩ (.slice Ao37 t337.length co37)) w.heap.size (fun k_ => some k_ ≠ (.slice Ao15 t307.length co15 : Value).ownBlock ∧ some k_ ≠ (.slice Ao23 y319.length co23 : Value).ownBlock ∧ some k_ ≠ (.slice Ao28 t325.length co28 : Value).ownBlock ∧ some k_ ≠ (.slice Ao31 y331.length co31 : Value).ownBlock ∧ some k_ ≠ (.slice Ao37 t337.length co37 : Value).ownBlock) (.slice Ao22 t311.length co22) t311):=⟨by (with_reducible repeat (first|apply k1_|apply k2_|apply k3_));exact Kd.R_mono (k4_ (p:=⟨gb342,3,none⟩) (k4_ (p:=⟨gb342,2,none⟩) (k4_ (p:=⟨gb342,1,none⟩) (k4_ (p:=⟨gb342,0,none⟩) (Kd.R_types HO313.out BK342.out (by decide)) (fun _ hk => hk.2) (.int .i64 t334)) (fun _ hk => hk.2) (.int .i64 t335)) (fun _ hk => hk.2) (.int .i64 t336)) (fun _ hk => hk.2) (.slice Ao37 t337.length co37)) (fun _ hk => ⟨(by first|exact hk.1.1.1.1.1|(have hq_:=hk;simp only [ne_eq] at hq_ ⊢;simp only [hq_,k8_,and_self])),⟨(by first|exact hk.1.1.1.1.2|(have hq_:=hk;simp only [ne_eq] at hq_ ⊢;simp only [hq_,k8_,and_self])),⟨(by first|exact hk.1.1.1.2|(have hq_:=hk;simp only [ne_eq] at hq_ ⊢;simp only [hq_,k8_,and_self])),⟨(by first|exact hk.1.1.2|(have hq_:=hk;simp only [ne_eq] at hq_ ⊢;simp only [hq_,k8_,and_self])),(by first|exact hk.1.2|(have hq_:=hk;simp only [ne_eq] at hq_ ⊢;simp only [hq_,k8_,and_self]))⟩⟩⟩⟩)⟩
         have n2_ : Aside0 (Kd.R (Kd.int .u8) 5 ((((w33.setCell ⟨gb342,0,none⟩ (.int .i64 t334)).setCell ⟨gb342,1,none⟩ (.int .i64 t335)).setCell ⟨gb342,2,none⟩ (.int .i64 t336)).setCell ⟨gb342,3,none⟩ (.slice Ao37 t337.length co37)) w.heap.size (fun k_ => some k_ ≠ (.slice Ao15 t307.length co15 : Value).ownBlock ∧ some k_ ≠ (.slice Ao22 t311.length co22 : Value).ownBlock ∧ some k_ ≠ (.slice Ao28 t325.length co28 : Value).ownBlock ∧ some k_ ≠ (.slice Ao31 y331.length co31 : Value).ownBlock ∧ some k_ ≠ (.slice Ao37 t337.length co37 : Value).ownBlock) (.slice Ao23 y319.length co23) y319):=⟨by (with_reducible repeat (first|apply k1_|apply k2_|apply k3_));exact Kd.R_mono (k4_ (p:=⟨gb342,3,none⟩) (k4_ (p:=⟨gb342,2,none⟩) (k4_ (p:=⟨gb342,1,none⟩) (k4_ (p:=⟨gb342,0,none⟩) (Kd.R_types HO321.out BK342.out (by decide)) (fun _ hk => hk.2) (.int .i64 t334)) (fun _ hk => hk.2) (.int .i64 t335)) (fun _ hk => hk.2) (.int .i64 t336)) (fun _ hk => hk.2) (.slice Ao37 t337.length co37)) (fun _ hk => ⟨(by first|exact hk.1.1.1.1.1|(have hq_:=hk;simp only [ne_eq] at hq_ ⊢;simp only [hq_,k8_,and_self])),⟨(by first|exact hk.1.1.1.1.2|(have hq_:=hk;simp only [ne_eq] at hq_ ⊢;simp only [hq_,k8_,and_self])),⟨(by first|exact hk.1.1.1.2|(have hq_:=hk;simp only [ne_eq] at hq_ ⊢;simp only [hq_,k8_,and_self])),⟨(by first|exact hk.1.1.2|(have hq_:=hk;simp only [ne_eq] at hq_ ⊢;simp only [hq_,k8_,and_self])),(by first|exact hk.1.2|(have hq_:=hk;simp only [ne_eq] at hq_ ⊢;simp only [hq_,k8_,and_self]))⟩⟩⟩⟩)⟩
         have n3_ : Aside0 (Kd.R (Kd.int .u8) 5 ((((w33.setCell ⟨gb342,0,none⟩ (.int .i64 t334)).setCell ⟨gb342,1,none⟩ (.int .i64 t335)).setCell ⟨gb342,2,none⟩ (.int .i64 t336)).setCell ⟨gb342,3,none⟩ (.slice Ao37 t337.length co37)) w.heap.size (fun k_ => some k_ ≠ (.slice Ao15 t307.length co15 : Value).ownBlock ∧ some k_ ≠ (.slice Ao22 t311.length co22 : Value).ownBlock ∧ some k_ ≠ (.slice Ao23 y319.length co23 : Value).ownBlock ∧ some k_ ≠ (.slice Ao31 y331.length co31 : Value).ownBlock ∧ some k_ ≠ (.slice Ao37 t337.length co37 : Value).ownBlock) (.slice Ao28 t325.length co28) t325):=⟨by (with_reducible repeat (first|apply k1_|apply k2_|apply k3_));exact Kd.R_mono (k4_ (p:=⟨gb342,3,none⟩) (k4_ (p:=⟨gb342,2,none⟩) (k4_ (p:=⟨gb342,1,none⟩) (k4_ (p:=⟨gb342,0,none⟩) (Kd.R_types HO327.out BK342.out (by decide)) (fun _ hk => hk.2) (.int .i64 t334)) (fun _ hk => hk.2) (.int .i64 t335)) (fun _ hk => hk.2) (.int .i64 t336)) (fun _ hk => hk.2) (.slice Ao37 t337.length co37)) (fun _ hk => ⟨(by first|exact hk.1.1.1.1.1.2|(have hq_:=hk;simp only [ne_eq] at hq_ ⊢;simp only [hq_,k8_,and_self])),⟨(by first|exact hk.1.1.1.1.2|(have hq_:=hk;simp only [ne_eq] at hq_ ⊢;simp only [hq_,k8_,and_self])),⟨(by first|exact hk.1.1.1.2|(have hq_:=hk;simp only [ne_eq] at hq_ ⊢;simp only [hq_,k8_,and_self])),⟨(by first|exact hk.1.1.2|(have hq_:=hk;simp only [ne_eq] at hq_ ⊢;simp only [hq_,k8_,and_self])),(by first|exact hk.1.2|(have hq_:=hk;simp only [ne_eq] at hq_ ⊢;simp only [hq_,k8_,and_self]))⟩⟩⟩⟩)⟩
         have n4_ : Aside0 (Kd.R (Kd.int .u8) 5 ((((w33.setCell ⟨gb342,0,none⟩ (.int .i64 t334)).setCell ⟨gb342,1,none⟩ (.int .i64 t335)).setCell ⟨gb342,2,none⟩ (.int .i64 t336)).setCell ⟨gb342,3,none⟩ (.slice Ao37 t337.length co37)) w.heap.size (fun k_ => some k_ ≠ (.slice Ao15 t307.length co15 : Value).ownBlock ∧ some k_ ≠ (.slice Ao22 t311.length co22 : Value).ownBlock ∧ some k_ ≠ (.slice Ao23 y319.length co23 : Value).ownBlock ∧ some k_ ≠ (.slice Ao28 t325.length co28 : Value).ownBlock ∧ some k_ ≠ (.slice Ao37 t337.length co37 : Value).ownBlock) (.slice Ao31 y331.length co31) y331):=⟨by (with_reducible repeat (first|apply k1_|apply k2_|apply k3_));exact Kd.R_mono (k4_ (p:=⟨gb342,3,none⟩) (k4_ (p:=⟨gb342,2,none⟩) (k4_ (p:=⟨gb342,1,none⟩) (k4_ (p:=⟨gb342,0,none⟩) (Kd.R_types HO333.out BK342.out (by decide)) (fun _ hk => hk.2) (.int .i64 t334)) (fun _ hk => hk.2) (.int .i64 t335)) (fun _ hk => hk.2) (.int .i64 t336)) (fun _ hk => hk.2) (.slice Ao37 t337.length co37)) (fun _ hk => ⟨(by first|exact hk.1.1.1.1.1.2|(have hq_:=hk;simp only [ne_eq] at hq_ ⊢;simp only [hq_,k8_,and_self])),⟨(by first|exact hk.1.1.1.1.2|(have hq_:=hk;simp only [ne_eq] at hq_ ⊢;simp only [hq_,k8_,and_self])),⟨(by first|exact hk.1.1.1.2|(have hq_:=hk;simp only [ne_eq] at hq_ ⊢;simp only [hq_,k8_,and_self])),⟨(by first|exact hk.1.1.2|(have hq_:=hk;simp only [ne_eq] at hq_ ⊢;simp only [hq_,k8_,and_self])),(by first|exact hk.1.2|(have hq_:=hk;simp only [ne_eq] at hq_ ⊢;simp only [hq_,k8_,and_self]))⟩⟩⟩⟩)⟩
         have n5_ : Aside0 (Kd.R (Kd.int .u8) 5 ((((w33.setCell ⟨gb342,0,none⟩ (.int .i64 t334)).setCell ⟨gb342,1,none⟩ (.int .i64 t335)).setCell ⟨gb342,2,none⟩ (.int .i64 t336)).setCell ⟨gb342,3,none⟩ (.slice Ao37 t337.length co37)) w.heap.size (fun k_ => some k_ ≠ (.slice Ao15 t307.length co15 : Value).ownBlock ∧ some k_ ≠ (.slice Ao22 t311.length co22 : Value).ownBlock ∧ some k_ ≠ (.slice Ao23 y319.length co23 : Value).ownBlock ∧ some k_ ≠ (.slice Ao28 t325.length co28 : Value).ownBlock ∧ some k_ ≠ (.slice Ao31 y331.length co31 : Value).ownBlock) (.slice Ao37 t337.length co37) t337):=⟨by (with_reducible repeat (first|apply k1_|apply k2_|apply k3_));exact Kd.R_mono (k4_ (p:=⟨gb342,3,none⟩) (k4_ (p:=⟨gb342,2,none⟩) (k4_ (p:=⟨gb342,1,none⟩) (k4_ (p:=⟨gb342,0,none⟩) (Kd.R_types HO339.out BK342.out (by decide)) (fun _ hk => hk.2) (.int .i64 t334)) (fun _ hk => hk.2) (.int .i64 t335)) (fun _ hk => hk.2) (.int .i64 t336)) (fun _ hk => hk.2) (.slice Ao37 t337.length co37)) (fun _ hk => ⟨(by first|exact hk.1.1.1.1.1.2|(have hq_:=hk;simp only [ne_eq] at hq_ ⊢;simp only [hq_,k8_,and_self])),⟨(by first|exact hk.1.1.1.1.2|(have hq_:=hk;simp only [ne_eq] at hq_ ⊢;simp only [hq_,k8_,and_self])),⟨(by first|exact hk.1.1.1.2|(have hq_:=hk;simp only [ne_eq] at hq_ ⊢;simp only [hq_,k8_,and_self])),⟨(by first|exact hk.1.1.2|(have hq_:=hk;simp only [ne_eq] at hq_ ⊢;simp only [hq_,k8_,and_self])),(by first|exact hk.1.2|(have hq_:=hk;simp only [ne_eq] at hq_ ⊢;simp only [hq_,k8_,and_self]))⟩⟩⟩⟩)⟩
         have n6_ : Aside0 (((((w33.setCell ⟨gb342,0,none⟩ (.int .i64 t334)).setCell ⟨gb342,1,none⟩ (.int .i64 t335)).setCell ⟨gb342,2,none⟩ (.int .i64 t336)).setCell ⟨gb342,3,none⟩ (.slice Ao37 t337.length co37)).heap[gb310]? = some (.cells #[.int .i64 t304,.int .i64 t305,.int .i64 t306,.slice Ao15 t307.length co15] 59 (0,0))):=⟨by (with_reducible repeat (first|refine k6_ ?_ _|refine k7_ ?_|refine k5_ ?_ _));refine blk_far ?_ NB310_342.out _;(with_reducible repeat (first|refine k6_ ?_ _|refine k7_ ?_|refine k5_ ?_ _));refine blk_far ?_ NB310_342.out _;(with_reducible repeat (first|refine k6_ ?_ _|refine k7_ ?_|refine k5_ ?_ _));refine blk_far ?_ NB310_342.out _;(with_reducible repeat (first|refine k6_ ?_ _|refine k7_ ?_|refine k5_ ?_ _));refine blk_far ?_ NB310_342.out _;(with_reducible repeat (first|refine k6_ ?_ _|refine k7_ ?_|refine k5_ ?_ _));exact BK310.out⟩
         have n7_ : Aside0 (((((w33.setCell ⟨gb342,0,none⟩ (.int .i64 t334)).setCell ⟨gb342,1,none⟩ (.int .i64 t335)).setCell ⟨gb342,2,none⟩ (.int .i64 t336)).setCell ⟨gb342,3,none⟩ (.slice Ao37 t337.length co37)).heap[gb330]? = some (.cells #[.int .i64 t322,.int .i64 t323,.int .i64 t324,.slice Ao28 t325.length co28] 59 (0,0))):=⟨by (with_reducible repeat (first|refine k6_ ?_ _|refine k7_ ?_|refine k5_ ?_ _));refine blk_far ?_ NB330_342.out _;(with_reducible repeat (first|refine k6_ ?_ _|refine k7_ ?_|refine k5_ ?_ _));refine blk_far ?_ NB330_342.out _;(with_reducible repeat (first|refine k6_ ?_ _|refine k7_ ?_|refine k5_ ?_ _));refine blk_far ?_ NB330_342.out _;(with_reducible repeat (first|refine k6_ ?_ _|refine k7_ ?_|refine k5_ ?_ _));refine blk_far ?_ NB330_342.out _;(with_reducible repeat (first|refine k6_ ?_ _|refine k7_ ?_|refine k5_ ?_ _));exact BK330.out⟩
         have n8_ : Aside0 (((((w33.setCell ⟨gb342,0,none⟩ (.int .i64 t334)).setCell ⟨gb342,1,none⟩ (.int .i64 t335)).setCell ⟨gb342,2,none⟩ (.int .i64 t336)).setCell ⟨gb342,3,none⟩ (.slice Ao37 t337.length co37)).heap[gb342]? = some (.cells #[.int .i64 t334,.int .i64 t335,.int .i64 t336,.slice Ao37 t337.length co37] 59 (0,0))):=⟨by (with_reducible repeat (first|refine k6_ ?_ _|refine k7_ ?_|refine k5_ ?_ _));refine blk_put (cs:=#[.int .i64 t334,.int .i64 t335,.int .i64 t336,.slice none 0 0]) ?_ 3 _ rfl;(with_reducible repeat (first|refine k6_ ?_ _|refine k7_ ?_|refine k5_ ?_ _));refine blk_put (cs:=#[.int .i64 t334,.int .i64 t335,.int .i64 0,.slice none 0 0]) ?_ 2 _ rfl;(with_reducible repeat (first|refine k6_ ?_ _|refine k7_ ?_|refine k5_ ?_ _));refine blk_put (cs:=#[.int .i64 t334,.int .i64 0,.int .i64 0,.slice none 0 0]) ?_ 1 _ rfl;(with_reducible repeat (first|refine k6_ ?_ _|refine k7_ ?_|refine k5_ ?_ _));refine blk_put (cs:=#[.int .i64 0,.int .i64 0,.int .i64 0,.slice none 0 0]) ?_ 0 _ rfl;(with_reducible repeat (first|refine k6_ ?_ _|refine k7_ ?_|refine k5_ ?_ _));exact BK342.out⟩
         have n9_ : Aside0 (Below w.heap.size w ((((w33.setCell ⟨gb342,0,none⟩ (.int .i64 t334)).setCell ⟨gb342,1,none⟩ (.int .i64 t335)).setCell ⟨gb342,2,none⟩ (.int .i64 t336)).setCell ⟨gb342,3,none⟩ (.slice Ao37 t337.length co37))):=⟨by repeat (first|(with_reducible first|exact HB.out|apply below_alloc|apply pw_below_drewN|apply below_drew1|refine below_set ?_ GE310.out|refine below_set ?_ GE330.out|refine below_set ?_ GE342.out)|exact HB.out)⟩
         (try clear HO309)
         (try clear HO313)
         (try clear HO321)
         (try clear HO327)
         (try clear HO333)
         (try clear HO339)
         (try clear BK310)
         (try clear BK330)
         (try clear BK342)
         (try clear HB)
         generalize ((((w33.setCell ⟨gb342,0,none⟩ (.int .i64 t334)).setCell ⟨gb342,1,none⟩ (.int .i64 t335)).setCell ⟨gb342,2,none⟩ (.int .i64 t336)).setCell ⟨gb342,3,none⟩ (.slice Ao37 t337.length co37)) = w54 at n0_ n1_ n2_ n3_ n4_ n5_ n6_ n7_ n8_ n9_ ⊢
         have HO309:=n0_
         have HO313:=n1_
         have HO321:=n2_
         have HO327:=n3_
         have HO333:=n4_
         have HO339:=n5_
         have BK310:=n6_
         have BK330:=n7_
         have BK342:=n8_
         have HB:=n9_
         clear n0_ n1_ n2_ n3_ n4_ n5_ n6_ n7_ n8_ n9_
         have n0_:=Aside0.mk (k3_ HO309.out)
         have n1_:=Aside0.mk (k3_ HO313.out)
         have n2_:=Aside0.mk (k3_ HO321.out)
         have n3_:=Aside0.mk (k3_ HO327.out)
         have n4_:=Aside0.mk (k3_ HO333.out)
         have n5_:=Aside0.mk (k3_ HO339.out)
         have n6_:=Aside0.mk (k7_ BK310.out)
         have n7_:=Aside0.mk (k7_ BK330.out)
         have n8_:=Aside0.mk (k7_ BK342.out)
         have n9_:=Aside0.mk (below_drew1 HB.out)
         clear HO309
         clear HO313
         clear HO321
         clear HO327
         clear HO333
         clear HO339
         clear BK310
         clear BK330
         clear BK342
         clear HB
         have HO309:=n0_
         have HO313:=n1_
         have HO321:=n2_
         have HO327:=n3_
         have HO333:=n4_
         have HO339:=n5_
         have BK310:=n6_
         have BK330:=n7_
         have BK342:=n8_
         have HB:=n9_
         clear n0_ n1_ n2_ n3_ n4_ n5_ n6_ n7_ n8_ n9_
         refine start_ (n:=35) (S:=fun w' => w'.cell? ⟨gb330,0,none⟩ = some (.int .i64 t322) ∧ w'.cell? ⟨gb330,1,none⟩ = some (.int .i64 t323) ∧ w'.cell? ⟨gb330,2,none⟩ = some (.int .i64 t324) ∧ w'.cell? ⟨gb330,3,none⟩ = some (.slice Ao28 t325.length co28) ∧ w'.cell? ⟨gb310,0,none⟩ = some (.int .i64 t304) ∧ w'.cell? ⟨gb310,1,none⟩ = some (.int .i64 t305) ∧ w'.cell? ⟨gb310,2,none⟩ = some (.int .i64 t306) ∧ w'.cell? ⟨gb310,3,none⟩ = some (.slice Ao15 t307.length co15)) (ds:=[]) #[Z,Z,Z,Z,Z,Z,Z,Z,Z,Z,Z,Z,Z,Z,Z,Z,Z,Z,Z,Z,Z,Z,Z,Z,Z,Z,Z,Z,Z,Z,Z,Z,Z,Z,Z] (by kernel_rfl) rfl rfl ⟨(blk_cell BK330.out 0).trans rfl,(blk_cell BK330.out 1).trans rfl,(blk_cell BK330.out 2).trans rfl,(blk_cell BK330.out 3).trans rfl,(blk_cell BK310.out 0).trans rfl,(blk_cell BK310.out 1).trans rfl,(blk_cell BK310.out 2).trans rfl,(blk_cell BK310.out 3).trans rfl⟩ (fun hHeld => ?_);refine with_tabW laws_FnOneFrame.tab9 laws_FnOneFrame.bits9 (fun HT_ HW_ => ?_)
         generalize w54.drew = w55 at HO309 HO313 HO321 HO327 HO333 HO339 BK310 BK330 BK342 HB hHeld ⊢
         refine pure_ (i:=0) (N:=some 42) (v:=?_) (a':=?_) #[Y,Z,Z,Z,Z,Z,Z,Z,Z,Z,Z,Z,Z,Z,Z,Z,Z,Z,Z,Z,Z,Z,Z,Z,Z,Z,Z,Z,Z,Z,Z,Z,Z,Z,Z] rfl rfl (any_of HT_.out (by kernel_rfl)) (fun _ _ _ h => h) (Or.inl ⟨by rfl,?_⟩) ?_ ?_
         rotate_left
         ·
          intro w'
          go_simp
          with_reducible rfl
         rotate_left
         ·
          simp only [Act.put,lA_,lB_,lC_,i64_w,i32_w]
          rfl
         refine pure_ (i:=1) (N:=some 43) (v:=?_) (a':=?_) #[Y,Y,Z,Z,Z,Z,Z,Z,Z,Z,Z,Z,Z,Z,Z,Z,Z,Z,Z,Z,Z,Z,Z,Z,Z,Z,Z,Z,Z,Z,Z,Z,Z,Z,Z] rfl rfl (any_of HT_.out (by kernel_rfl)) (fun _ _ _ h => h) (Or.inl ⟨by rfl,?_⟩) ?_ ?_
         rotate_left
         ·
          intro w'
          go_simp
          with_reducible rfl
         rotate_left
         ·
          simp only [Act.put,lA_,lB_,lC_,i64_w,i32_w]
          rfl
         refine pure_ (i:=2) (N:=some 44) (v:=?_) (a':=?_) #[Y,Y,Y,Z,Z,Z,Z,Z,Z,Z,Z,Z,Z,Z,Z,Z,Z,Z,Z,Z,Z,Z,Z,Z,Z,Z,Z,Z,Z,Z,Z,Z,Z,Z,Z] rfl rfl (any_of HT_.out (by kernel_rfl)) (fun _ _ _ h => h) (Or.inl ⟨by rfl,?_⟩) ?_ ?_
         rotate_left
         ·
          intro w'
          go_simp
          with_reducible rfl
         rotate_left
         ·
          simp only [Act.put,lA_,lB_,lC_,i64_w,i32_w]
          rfl
         refine pure_ (i:=3) (N:=some 45) (v:=?_) (a':=?_) #[Y,Y,Y,Y,Z,Z,Z,Z,Z,Z,Z,Z,Z,Z,Z,Z,Z,Z,Z,Z,Z,Z,Z,Z,Z,Z,Z,Z,Z,Z,Z,Z,Z,Z,Z] rfl rfl (any_of HT_.out (by kernel_rfl)) (fun _ _ _ h => h) (Or.inl ⟨by rfl,?_⟩) ?_ ?_
         rotate_left
         ·
          intro w'
          go_simp
          with_reducible rfl
         rotate_left
         ·
          simp only [Act.put,lA_,lB_,lC_,i64_w,i32_w]
          rfl
         refine pure_ (i:=4) (N:=some 46) (v:=?_) (a':=?_) #[Y,Y,Y,Y,Y,Z,Z,Z,Z,Z,Z,Z,Z,Z,Z,Z,Z,Z,Z,Z,Z,Z,Z,Z,Z,Z,Z,Z,Z,Z,Z,Z,Z,Z,Z] rfl rfl (any_of HT_.out (by kernel_rfl)) (fun _ _ _ h => h) (Or.inl ⟨by rfl,?_⟩) ?_ ?_
         rotate_left
         ·
          intro w'
          go_simp
          with_reducible rfl
         rotate_left
         ·
          simp only [Act.put,lA_,lB_,lC_,i64_w,i32_w]
          rfl
         refine pure_ (i:=5) (N:=some 47) (v:=?_) (a':=?_) #[Y,Y,Y,Y,Y,Y,Z,Z,Z,Z,Z,Z,Z,Z,Z,Z,Z,Z,Z,Z,Z,Z,Z,Z,Z,Z,Z,Z,Z,Z,Z,Z,Z,Z,Z] rfl rfl (any_of HT_.out (by kernel_rfl)) (fun _ _ _ h => h) (Or.inl ⟨by rfl,?_⟩) ?_ ?_
         rotate_left
         ·
          intro w'
          go_simp
          with_reducible rfl
         rotate_left
         ·
          simp only [Act.put,lA_,lB_,lC_,i64_w,i32_w]
          rfl
         refine pure_ (i:=6) (N:=some 48) (v:=?_) (a':=?_) #[Y,Y,Y,Y,Y,Y,Y,Z,Z,Z,Z,Z,Z,Z,Z,Z,Z,Z,Z,Z,Z,Z,Z,Z,Z,Z,Z,Z,Z,Z,Z,Z,Z,Z,Z] rfl rfl (any_of HT_.out (by kernel_rfl)) (fun _ _ _ h => h) (Or.inl ⟨by rfl,?_⟩) ?_ ?_
         rotate_left
         ·
          intro w'
          go_simp
          with_reducible rfl
         rotate_left
         ·
          simp only [Act.put,lA_,lB_,lC_,i64_w,i32_w]
          rfl
         refine pure_ (i:=7) (N:=some 49) (v:=?_) (a':=?_) #[Y,Y,Y,Y,Y,Y,Y,Y,Z,Z,Z,Z,Z,Z,Z,Z,Z,Z,Z,Z,Z,Z,Z,Z,Z,Z,Z,Z,Z,Z,Z,Z,Z,Z,Z] rfl rfl (any_of HT_.out (by kernel_rfl)) (fun _ _ _ h => h) (Or.inl ⟨by rfl,?_⟩) ?_ ?_
         rotate_left
         ·
          intro w'
          go_simp
          with_reducible rfl
         rotate_left
         ·
          simp only [Act.put,lA_,lB_,lC_,i64_w,i32_w]
          rfl
         refine pure_ (i:=8) (N:=some 50) (v:=?_) (a':=?_) #[Y,Y,Y,Y,Y,Y,Y,Y,Y,Z,Z,Z,Z,Z,Z,Z,Z,Z,Z,Z,Z,Z,Z,Z,Z,Z,Z,Z,Z,Z,Z,Z,Z,Z,Z] rfl rfl (any_of HT_.out (by kernel_rfl)) (fun _ _ _ h => h) (Or.inl ⟨by rfl,?_⟩) ?_ ?_
         rotate_left
         ·
          intro w'
          go_simp
          with_reducible rfl
         rotate_left
         ·
          simp only [Act.put,lA_,lB_,lC_,i64_w,i32_w]
          rfl
         refine pure_ (i:=9) (N:=some 51) (v:=?_) (a':=?_) #[Y,Y,Y,Y,Y,Y,Y,Y,Y,Y,Z,Z,Z,Z,Z,Z,Z,Z,Z,Z,Z,Z,Z,Z,Z,Z,Z,Z,Z,Z,Z,Z,Z,Z,Z] rfl rfl (any_of HT_.out (by kernel_rfl)) (fun _ _ _ h => h) (Or.inl ⟨by rfl,?_⟩) ?_ ?_
         rotate_left
         ·
          intro w'
          go_simp
          with_reducible rfl
         rotate_left
         ·
          simp only [Act.put,lA_,lB_,lC_,i64_w,i32_w]
          rfl
         refine take_ (i:=10) (N:=some 52) (v:=?_) (a':=?_) #[Y,Y,Y,Y,Y,Y,Y,Y,Y,Y,Y,Z,Z,Z,Z,Z,Z,Z,Z,Z,Z,Z,Z,Z,Z,Z,Z,Z,Z,Z,Z,Z,Z,Z,Z] rfl rfl (take_ofW HT_.out HW_.out (by kernel_rfl)) (fun _ _ _ h => h) (Or.inl ⟨by rfl,?_⟩) hHeld ?_ ?_
         rotate_left
         ·
          rintro w' ⟨s0,s1,s2,s3,s4,s5,s6,s7⟩
          go_simp
          with_reducible rfl
         rotate_left
         ·
          simp only [Act.put,lA_,lB_,lC_,i64_w,i32_w]
          rfl
         refine take_ (i:=11) (N:=some 53) (v:=?_) (a':=?_) #[Y,Y,Y,Y,Y,Y,Y,Y,Y,Y,Y,Y,Z,Z,Z,Z,Z,Z,Z,Z,Z,Z,Z,Z,Z,Z,Z,Z,Z,Z,Z,Z,Z,Z,Z] rfl rfl (take_ofW HT_.out HW_.out (by kernel_rfl)) (fun _ _ _ h => h) (Or.inl ⟨by rfl,?_⟩) hHeld ?_ ?_
         rotate_left
         ·
          rintro w' ⟨s0,s1,s2,s3,s4,s5,s6,s7⟩
          go_simp
          with_reducible rfl
         rotate_left
         ·
          simp only [Act.put,lA_,lB_,lC_,i64_w,i32_w]
          rfl
         refine one_ (i:=12) (N:=some 54) #[Y,Y,Y,Y,Y,Y,Y,Y,Y,Y,Y,Y,Y,Z,Z,Z,Z,Z,Z,Z,Z,Z,Z,Z,Z,Z,Z,Z,Z,Z,Z,Z,Z,Z,Z] rfl rfl (one_of HT_.out (by kernel_rfl)) (by decide) (fun K hK => ?_)
         refine goes_ Try.func43 (by kernel_rfl) rfl #[.agg #[.int .i64 t322,.int .i64 t323,.int .i64 t324,.slice Ao28 t325.length co28],.agg #[.int .i64 t304,.int .i64 t305,.int .i64 t306,.slice Ao15 t307.length co15]] (by rfl) rfl rfl (by (try simp only [List.map_toArray,List.map_cons,List.map_nil]);first|done|rfl|(simp only [List.length_drop,List.length_take];rfl)) ?_
         with_reducible refine (laws_sameFrame.calls k t322 t323 t324 _ _ t325 t304 t305 t306 _ _ t307 true _ ?side1 ?side2 ?side3 ?side4 A40.out).mono ?_
         (case side1 => repeat (first|exact (Kd.R_reads' HO327.out).2.2|(with_reducible refine Kd.C_alloc ?_ _)|(with_reducible refine Kd.C_drewN ?_ _)|(with_reducible refine Kd.C_drew ?_)))
         (case side2 => exact (Kd.R_reads' HO327.out).2.1)
         (case side3 => repeat (first|exact (Kd.R_reads' HO309.out).2.2|(with_reducible refine Kd.C_alloc ?_ _)|(with_reducible refine Kd.C_drewN ?_ _)|(with_reducible refine Kd.C_drew ?_)))
         (case side4 => exact (Kd.R_reads' HO309.out).2.1)
         rintro e w56 ⟨rfl,hb⟩
         refine ⟨_,rfl,?_⟩
         have n0_:=Aside0.mk (Kd.R_below (by (with_reducible repeat (first|apply k1_|apply k2_|apply k3_));exact HO309.out) hb)
         have n1_:=Aside0.mk (Kd.R_below (by (with_reducible repeat (first|apply k1_|apply k2_|apply k3_));exact HO313.out) hb)
         have n2_:=Aside0.mk (Kd.R_below (by (with_reducible repeat (first|apply k1_|apply k2_|apply k3_));exact HO321.out) hb)
         have n3_:=Aside0.mk (Kd.R_below (by (with_reducible repeat (first|apply k1_|apply k2_|apply k3_));exact HO327.out) hb)
         have n4_:=Aside0.mk (Kd.R_below (by (with_reducible repeat (first|apply k1_|apply k2_|apply k3_));exact HO333.out) hb)
         have n5_:=Aside0.mk (Kd.R_below (by (with_reducible repeat (first|apply k1_|apply k2_|apply k3_));exact HO339.out) hb)
         have n6_:=Aside0.mk (blk_below (g:=gb310) (o:=.cells #[.int .i64 t304,.int .i64 t305,.int .i64 t306,.slice Ao15 t307.length co15] 59 (0,0)) (by (with_reducible repeat (first|refine k6_ ?_ _|refine k7_ ?_|refine k5_ ?_ _));exact BK310.out) hb)
         have n7_:=Aside0.mk (blk_below (g:=gb330) (o:=.cells #[.int .i64 t322,.int .i64 t323,.int .i64 t324,.slice Ao28 t325.length co28] 59 (0,0)) (by (with_reducible repeat (first|refine k6_ ?_ _|refine k7_ ?_|refine k5_ ?_ _));exact BK330.out) hb)
         have n8_:=Aside0.mk (blk_below (g:=gb342) (o:=.cells #[.int .i64 t334,.int .i64 t335,.int .i64 t336,.slice Ao37 t337.length co37] 59 (0,0)) (by (with_reducible repeat (first|refine k6_ ?_ _|refine k7_ ?_|refine k5_ ?_ _));exact BK342.out) hb)
         have n9_:=Aside0.mk (below_step (by repeat (first|(with_reducible first|exact HB.out|apply below_alloc|apply pw_below_drewN|apply below_drew1|refine below_set ?_ GE310.out|refine below_set ?_ GE330.out|refine below_set ?_ GE342.out)|exact HB.out)) hb)
         clear HO309
         clear HO313
         clear HO321
         clear HO327
         clear HO333
         clear HO339
         clear BK310
         clear BK330
         clear BK342
         clear HB
         have HO309:=n0_
         have HO313:=n1_
         have HO321:=n2_
         have HO327:=n3_
         have HO333:=n4_
         have HO339:=n5_
         have BK310:=n6_
         have BK330:=n7_
         have BK342:=n8_
         have HB:=n9_
         clear n0_ n1_ n2_ n3_ n4_ n5_ n6_ n7_ n8_ n9_
         (try clear hb)
         (try clear hb2)
         (try clear hk)
         (try clear hi)
         refine hK.out _ _ ⟨(blk_cell BK330.out 0).trans rfl,(blk_cell BK330.out 1).trans rfl,(blk_cell BK330.out 2).trans rfl,(blk_cell BK330.out 3).trans rfl,(blk_cell BK310.out 0).trans rfl,(blk_cell BK310.out 1).trans rfl,(blk_cell BK310.out 2).trans rfl,(blk_cell BK310.out 3).trans rfl⟩ (fun hHeld => ?_)
         clear hK K
         refine norm_ (a':=?_) ?_ ?_
         rotate_left
         ·
          show Act.put _ (some 54) _ = _
          simp only [Act.put,lA_,lB_,lC_,i64_w,i32_w]
          rfl
         refine pure_ (i:=13) (N:=some 55) (v:=?_) (a':=?_) #[Y,Y,Y,Y,Y,Y,Y,Y,Y,Y,Y,Y,Y,Y,Z,Z,Z,Z,Z,Z,Z,Z,Z,Z,Z,Z,Z,Z,Z,Z,Z,Z,Z,Z,Z] rfl rfl (any_of HT_.out (by kernel_rfl)) (fun _ _ _ h => h) (Or.inl ⟨by rfl,?_⟩) ?_ ?_
         rotate_left
         ·
          intro w'
          go_simp
          with_reducible rfl
         rotate_left
         ·
          simp only [Act.put,lA_,lB_,lC_,i64_w,i32_w]
          rfl
         refine pure_ (i:=14) (N:=some 56) (v:=?_) (a':=?_) #[Y,Y,Y,Y,Y,Y,Y,Y,Y,Y,Y,Y,Y,Y,Y,Z,Z,Z,Z,Z,Z,Z,Z,Z,Z,Z,Z,Z,Z,Z,Z,Z,Z,Z,Z] rfl rfl (any_of HT_.out (by kernel_rfl)) (fun _ _ _ h => h) (Or.inl ⟨by rfl,?_⟩) ?_ ?_
         rotate_left
         ·
          intro w'
          go_simp
          with_reducible rfl
         rotate_left
         ·
          simp only [Act.put,lA_,lB_,lC_,i64_w,i32_w]
          rfl
         refine pure_ (i:=15) (N:=some 57) (v:=?_) (a':=?_) #[Y,Y,Y,Y,Y,Y,Y,Y,Y,Y,Y,Y,Y,Y,Y,Y,Z,Z,Z,Z,Z,Z,Z,Z,Z,Z,Z,Z,Z,Z,Z,Z,Z,Z,Z] rfl rfl (any_of HT_.out (by kernel_rfl)) (fun _ _ _ h => h) (Or.inl ⟨by rfl,?_⟩) ?_ ?_
         rotate_left
         ·
          intro w'
          go_simp
          with_reducible rfl
         rotate_left
         ·
          simp only [Act.put,lA_,lB_,lC_,i64_w,i32_w]
          rfl
         refine pure_ (i:=16) (N:=some 58) (v:=?_) (a':=?_) #[Y,Y,Y,Y,Y,Y,Y,Y,Y,Y,Y,Y,Y,Y,Y,Y,Y,Z,Z,Z,Z,Z,Z,Z,Z,Z,Z,Z,Z,Z,Z,Z,Z,Z,Z] rfl rfl (any_of HT_.out (by kernel_rfl)) (fun _ _ _ h => h) (Or.inl ⟨by rfl,?_⟩) ?_ ?_
         rotate_left
         ·
          intro w'
          go_simp
          with_reducible rfl
         rotate_left
         ·
          simp only [Act.put,lA_,lB_,lC_,i64_w,i32_w]
          rfl
         refine pure_ (i:=17) (N:=some 59) (v:=?_) (a':=?_) #[Y,Y,Y,Y,Y,Y,Y,Y,Y,Y,Y,Y,Y,Y,Y,Y,Y,Y,Z,Z,Z,Z,Z,Z,Z,Z,Z,Z,Z,Z,Z,Z,Z,Z,Z] rfl rfl (any_of HT_.out (by kernel_rfl)) (fun _ _ _ h => h) (Or.inl ⟨by rfl,?_⟩) ?_ ?_
         rotate_left
         ·
          intro w'
          go_simp
          with_reducible rfl
         rotate_left
         ·
          simp only [Act.put,lA_,lB_,lC_,i64_w,i32_w]
          rfl
         refine take_ (i:=18) (N:=some 60) (v:=?_) (a':=?_) #[Y,Y,Y,Y,Y,Y,Y,Y,Y,Y,Y,Y,Y,Y,Y,Y,Y,Y,Y,Z,Z,Z,Z,Z,Z,Z,Z,Z,Z,Z,Z,Z,Z,Z,Z] rfl rfl (take_ofW HT_.out HW_.out (by kernel_rfl)) (fun _ _ _ h => h) (Or.inl ⟨by rfl,?_⟩) hHeld ?_ ?_
         rotate_left
         ·
          rintro w' ⟨s0,s1,s2,s3,s4,s5,s6,s7⟩
          go_simp
          with_reducible rfl
         rotate_left
         ·
          simp only [Act.put,lA_,lB_,lC_,i64_w,i32_w]
          rfl
         refine pure_ (i:=19) (N:=some 61) (v:=?_) (a':=?_) #[Y,Y,Y,Y,Y,Y,Y,Y,Y,Y,Y,Y,Y,Y,Y,Y,Y,Y,Y,Y,Z,Z,Z,Z,Z,Z,Z,Z,Z,Z,Z,Z,Z,Z,Z] rfl rfl (any_of HT_.out (by kernel_rfl)) (fun _ _ _ h => h) (Or.inl ⟨by rfl,?_⟩) ?_ ?_
         rotate_left
         ·
          intro w'
          go_simp
          with_reducible rfl
         rotate_left
         ·
          simp only [Act.put,lA_,lB_,lC_,i64_w,i32_w]
          rfl
         refine pure_ (i:=20) (N:=some 62) (v:=?_) (a':=?_) #[Y,Y,Y,Y,Y,Y,Y,Y,Y,Y,Y,Y,Y,Y,Y,Y,Y,Y,Y,Y,Y,Z,Z,Z,Z,Z,Z,Z,Z,Z,Z,Z,Z,Z,Z] rfl rfl (any_of HT_.out (by kernel_rfl)) (fun _ _ _ h => h) (Or.inl ⟨by rfl,?_⟩) ?_ ?_
         rotate_left
         ·
          intro w'
          go_simp
          with_reducible rfl
         rotate_left
         ·
          simp only [Act.put,lA_,lB_,lC_,i64_w,i32_w]
          rfl
         refine pure_ (i:=21) (N:=some 63) (v:=?_) (a':=?_) #[Y,Y,Y,Y,Y,Y,Y,Y,Y,Y,Y,Y,Y,Y,Y,Y,Y,Y,Y,Y,Y,Y,Z,Z,Z,Z,Z,Z,Z,Z,Z,Z,Z,Z,Z] rfl rfl (any_of HT_.out (by kernel_rfl)) (fun _ _ _ h => h) (Or.inl ⟨by rfl,?_⟩) ?_ ?_
         rotate_left
         ·
          intro w'
          go_simp
          with_reducible rfl
         rotate_left
         ·
          simp only [Act.put,lA_,lB_,lC_,i64_w,i32_w]
          rfl
         refine pure_ (i:=22) (N:=some 64) (v:=?_) (a':=?_) #[Y,Y,Y,Y,Y,Y,Y,Y,Y,Y,Y,Y,Y,Y,Y,Y,Y,Y,Y,Y,Y,Y,Y,Z,Z,Z,Z,Z,Z,Z,Z,Z,Z,Z,Z] rfl rfl (any_of HT_.out (by kernel_rfl)) (fun _ _ _ h => h) (Or.inl ⟨by rfl,?_⟩) ?_ ?_
         rotate_left
         ·
          intro w'
          go_simp
          with_reducible rfl
         rotate_left
         ·
          simp only [Act.put,lA_,lB_,lC_,i64_w,i32_w]
          rfl
         refine pure_ (i:=23) (N:=some 65) (v:=?_) (a':=?_) #[Y,Y,Y,Y,Y,Y,Y,Y,Y,Y,Y,Y,Y,Y,Y,Y,Y,Y,Y,Y,Y,Y,Y,Y,Z,Z,Z,Z,Z,Z,Z,Z,Z,Z,Z] rfl rfl (any_of HT_.out (by kernel_rfl)) (fun _ _ _ h => h) (Or.inl ⟨by rfl,?_⟩) ?_ ?_
         rotate_left
         ·
          intro w'
          go_simp
          with_reducible rfl
         rotate_left
         ·
          simp only [Act.put,lA_,lB_,lC_,i64_w,i32_w]
          rfl
         refine pure_ (i:=24) (N:=some 66) (v:=undef) (a':=?_) #[Y,Y,Y,Y,Y,Y,Y,Y,Y,Y,Y,Y,Y,Y,Y,Y,Y,Y,Y,Y,Y,Y,Y,Y,Y,Z,Z,Z,Z,Z,Z,Z,Z,Z,Z] rfl rfl (any_of HT_.out (by kernel_rfl)) (fun _ _ _ h => h) (Or.inr ⟨by rfl,rfl⟩) ?_ ?_
         rotate_left
         ·
          simp only [Act.put,lA_,lB_,lC_,i64_w,i32_w]
          rfl
         refine pure_ (i:=25) (N:=some 67) (v:=undef) (a':=?_) #[Y,Y,Y,Y,Y,Y,Y,Y,Y,Y,Y,Y,Y,Y,Y,Y,Y,Y,Y,Y,Y,Y,Y,Y,Y,Y,Z,Z,Z,Z,Z,Z,Z,Z,Z] rfl rfl (any_of HT_.out (by kernel_rfl)) (fun _ _ _ h => h) (Or.inr ⟨by rfl,rfl⟩) ?_ ?_
         rotate_left
         ·
          simp only [Act.put,lA_,lB_,lC_,i64_w,i32_w]
          rfl
         refine pure_ (i:=26) (N:=some 68) (v:=?_) (a':=?_) #[Y,Y,Y,Y,Y,Y,Y,Y,Y,Y,Y,Y,Y,Y,Y,Y,Y,Y,Y,Y,Y,Y,Y,Y,Y,Y,Y,Z,Z,Z,Z,Z,Z,Z,Z] rfl rfl (any_of HT_.out (by kernel_rfl)) (fun _ _ _ h => h) (Or.inl ⟨by rfl,?_⟩) ?_ ?_
         rotate_left
         ·
          intro w'
          go_simp
          with_reducible rfl
         rotate_left
         ·
          simp only [Act.put,lA_,lB_,lC_,i64_w,i32_w]
          rfl
         refine pure_ (i:=27) (N:=some 69) (v:=?_) (a':=?_) #[Y,Y,Y,Y,Y,Y,Y,Y,Y,Y,Y,Y,Y,Y,Y,Y,Y,Y,Y,Y,Y,Y,Y,Y,Y,Y,Y,Y,Z,Z,Z,Z,Z,Z,Z] rfl rfl (any_of HT_.out (by kernel_rfl)) (fun _ _ _ h => h) (Or.inl ⟨by rfl,?_⟩) ?_ ?_
         rotate_left
         ·
          intro w'
          go_simp
          with_reducible rfl
         rotate_left
         ·
          simp only [Act.put,lA_,lB_,lC_,i64_w,i32_w]
          rfl
         refine pure_ (i:=28) (N:=some 70) (v:=undef) (a':=?_) #[Y,Y,Y,Y,Y,Y,Y,Y,Y,Y,Y,Y,Y,Y,Y,Y,Y,Y,Y,Y,Y,Y,Y,Y,Y,Y,Y,Y,Y,Z,Z,Z,Z,Z,Z] rfl rfl (any_of HT_.out (by kernel_rfl)) (fun _ _ _ h => h) (Or.inr ⟨by rfl,rfl⟩) ?_ ?_
         rotate_left
         ·
          simp only [Act.put,lA_,lB_,lC_,i64_w,i32_w]
          rfl
         refine pure_ (i:=29) (N:=some 71) (v:=undef) (a':=?_) #[Y,Y,Y,Y,Y,Y,Y,Y,Y,Y,Y,Y,Y,Y,Y,Y,Y,Y,Y,Y,Y,Y,Y,Y,Y,Y,Y,Y,Y,Y,Z,Z,Z,Z,Z] rfl rfl (any_of HT_.out (by kernel_rfl)) (fun _ _ _ h => h) (Or.inr ⟨by rfl,rfl⟩) ?_ ?_
         rotate_left
         ·
          simp only [Act.put,lA_,lB_,lC_,i64_w,i32_w]
          rfl
         refine pure_ (i:=30) (N:=some 72) (v:=undef) (a':=?_) #[Y,Y,Y,Y,Y,Y,Y,Y,Y,Y,Y,Y,Y,Y,Y,Y,Y,Y,Y,Y,Y,Y,Y,Y,Y,Y,Y,Y,Y,Y,Y,Z,Z,Z,Z] rfl rfl (any_of HT_.out (by kernel_rfl)) (fun _ _ _ h => h) (Or.inr ⟨by rfl,rfl⟩) ?_ ?_
         rotate_left
         ·
          simp only [Act.put,lA_,lB_,lC_,i64_w,i32_w]
          rfl
         refine pure_ (i:=31) (N:=some 73) (v:=undef) (a':=?_) #[Y,Y,Y,Y,Y,Y,Y,Y,Y,Y,Y,Y,Y,Y,Y,Y,Y,Y,Y,Y,Y,Y,Y,Y,Y,Y,Y,Y,Y,Y,Y,Y,Z,Z,Z] rfl rfl (any_of HT_.out (by kernel_rfl)) (fun _ _ _ h => h) (Or.inr ⟨by rfl,rfl⟩) ?_ ?_
         rotate_left
         ·
          simp only [Act.put,lA_,lB_,lC_,i64_w,i32_w]
          rfl
         refine pure_ (i:=32) (N:=some 74) (v:=undef) (a':=?_) #[Y,Y,Y,Y,Y,Y,Y,Y,Y,Y,Y,Y,Y,Y,Y,Y,Y,Y,Y,Y,Y,Y,Y,Y,Y,Y,Y,Y,Y,Y,Y,Y,Y,Z,Z] rfl rfl (any_of HT_.out (by kernel_rfl)) (fun _ _ _ h => h) (Or.inr ⟨by rfl,rfl⟩) ?_ ?_
         rotate_left
         ·
          simp only [Act.put,lA_,lB_,lC_,i64_w,i32_w]
          rfl
         refine pure_ (i:=33) (N:=some 75) (v:=?_) (a':=?_) #[Y,Y,Y,Y,Y,Y,Y,Y,Y,Y,Y,Y,Y,Y,Y,Y,Y,Y,Y,Y,Y,Y,Y,Y,Y,Y,Y,Y,Y,Y,Y,Y,Y,Y,Z] rfl rfl (any_of HT_.out (by kernel_rfl)) (fun _ _ _ h => h) (Or.inl ⟨by rfl,?_⟩) ?_ ?_
         rotate_left
         ·
          intro w'
          go_simp
          with_reducible rfl
         rotate_left
         ·
          simp only [Act.put,lA_,lB_,lC_,i64_w,i32_w]
          rfl
         refine pure_ (i:=34) (N:=some 2) (v:=?_) (a':=?_) #[Y,Y,Y,Y,Y,Y,Y,Y,Y,Y,Y,Y,Y,Y,Y,Y,Y,Y,Y,Y,Y,Y,Y,Y,Y,Y,Y,Y,Y,Y,Y,Y,Y,Y,Y] rfl rfl (any_of HT_.out (by kernel_rfl)) (fun _ _ _ h => h) (Or.inl ⟨by rfl,?_⟩) ?_ ?_
         rotate_left
         ·
          intro w'
          go_simp
          with_reducible rfl
         rotate_left
         ·
          simp only [Act.put,lA_,lB_,lC_,i64_w,i32_w]
          rfl
         refine done_ (done_of HT_.out (by kernel_rfl)) ?_
         try go_wp2
         go_meet
         case rel => exact ⟨_,(false),(by first|rfl|(simp;done)|(simp [*];done)),H',⟨by first|omega|exact Nat.le_refl _⟩,⟨by (with_reducible repeat (first|apply k1_|apply k2_|apply k3_));exact Kd.R_mono HO309.out (fun _ hk => ⟨(by first|exact hk.2.2.1|(have hq_:=hk;simp only [ne_eq] at hq_ ⊢;simp only [hq_,k8_,and_self])),(by first|exact hk.2.2.2.2|(have hq_:=hk;simp only [ne_eq] at hq_ ⊢;simp only [hq_,k8_,and_self]))⟩)⟩,⟨by (with_reducible repeat (first|apply k1_|apply k2_|apply k3_));exact Kd.R_mono HO327.out (fun _ hk => ⟨(by first|exact hk.1|(have hq_:=hk;simp only [ne_eq] at hq_ ⊢;simp only [hq_,k8_,and_self])),(by first|exact hk.2.2.2.2|(have hq_:=hk;simp only [ne_eq] at hq_ ⊢;simp only [hq_,k8_,and_self]))⟩)⟩,⟨by (with_reducible repeat (first|apply k1_|apply k2_|apply k3_));exact Kd.R_mono HO339.out (fun _ hk => ⟨(by first|exact hk.1|(have hq_:=hk;simp only [ne_eq] at hq_ ⊢;simp only [hq_,k8_,and_self])),(by first|exact hk.2.2.2.1|(have hq_:=hk;simp only [ne_eq] at hq_ ⊢;simp only [hq_,k8_,and_self]))⟩)⟩,⟨by (with_reducible repeat (first|refine k6_ ?_ _|refine k7_ ?_|refine k5_ ?_ _));exact BK310.out⟩,⟨by (with_reducible repeat (first|refine k6_ ?_ _|refine k7_ ?_|refine k5_ ?_ _));exact BK330.out⟩,⟨by (with_reducible repeat (first|refine k6_ ?_ _|refine k7_ ?_|refine k5_ ?_ _));exact BK342.out⟩,⟨by repeat (first|(with_reducible first|exact HB.out|apply below_alloc|apply pw_below_drewN|apply below_drew1|refine below_set ?_ GE310.out|refine below_set ?_ GE330.out|refine below_set ?_ GE342.out)|exact HB.out)⟩⟩
       ·
        replace c41:=Bool.eq_false_iff.mpr c41
        subst c41
        have H1 : (laws_FnOneFrame.j0 k false) = some r:=by rw [if_neg (show ¬ (false = true) by decide)] at H;exact H
        clear H
        have H:=H1
        clear H1
        have H':=Aside0.mk H
        clear H
        try go_wp2
        have n0_ : Aside0 (Kd.R (Kd.int .u8) 5 ((((w33.setCell ⟨gb342,0,none⟩ (.int .i64 t334)).setCell ⟨gb342,1,none⟩ (.int .i64 t335)).setCell ⟨gb342,2,none⟩ (.int .i64 t336)).setCell ⟨gb342,3,none⟩ (.slice Ao37 t337.length co37)) w.heap.size (fun k_ => some k_ ≠ (.slice Ao22 t311.length co22 : Value).ownBlock ∧ some k_ ≠ (.slice Ao23 y319.length co23 : Value).ownBlock ∧ some k_ ≠ (.slice Ao28 t325.length co28 : Value).ownBlock ∧ some k_ ≠ (.slice Ao31 y331.length co31 : Value).ownBlock ∧ some k_ ≠ (.slice Ao37 t337.length co37 : Value).ownBlock) (.slice Ao15 t307.length co15) t307):=⟨by (with_reducible repeat (first|apply k1_|apply k2_|apply k3_));exact Kd.R_mono (k4_ (p:=⟨gb342,3,none⟩) (k4_ (p:=⟨gb342,2,none⟩) (k4_ (p:=⟨gb342,1,none⟩) (k4_ (p:=⟨gb342,0,none⟩) (Kd.R_types HO309.out BK342.out (by decide)) (fun _ hk => hk.2) (.int .i64 t334)) (fun _ hk => hk.2) (.int .i64 t335)) (fun _ hk => hk.2) (.int .i64 t336)) (fun _ hk => hk.2) (.slice Ao37 t337.length co37)) (fun _ hk => ⟨(by first|exact hk.1.1.1.1.1|(have hq_:=hk;simp only [ne_eq] at hq_ ⊢;simp only [hq_,k8_,and_self])),⟨(by first|exact hk.1.1.1.1.2|(have hq_:=hk;simp only [ne_eq] at hq_ ⊢;simp only [hq_,k8_,and_self])),⟨(by first|exact hk.1.1.1.2|(have hq_:=hk;simp only [ne_eq] at hq_ ⊢;simp only [hq_,k8_,and_self])),⟨(by first|exact hk.1.1.2|(have hq_:=hk;simp only [ne_eq] at hq_ ⊢;simp only [hq_,k8_,and_self])),(by first|exact hk.1.2|(have hq_:=hk;simp only [ne_eq] at hq_ ⊢;simp only [hq_,k8_,and_self]))⟩⟩⟩⟩)⟩
        have n1_ : Aside0 (Kd.R (Kd.int .u8) 5 ((((w33.setCell ⟨gb342,0,none⟩ (.int .i64 t334)).setCell ⟨gb342,1,none⟩ (.int .i64 t335)).setCell ⟨gb342,2,none⟩ (.int .i64 t336)).setCell ⟨gb342,3,none⟩ (.slice Ao37 t337.length co37)) w.heap.size (fun k_ => some k_ ≠ (.slice Ao15 t307.length co15 : Value).ownBlock ∧ some k_ ≠ (.slice Ao23 y319.length co23 : Value).ownBlock ∧ some k_ ≠ (.slice Ao28 t325.length co28 : Value).ownBlock ∧ some k_ ≠ (.slice Ao31 y331.length co31 : Value).ownBlock ∧ some k_ ≠ (.slice Ao37 t337.length co37 : Value).ownBlock) (.slice Ao22 t311.length co22) t311):=⟨by (with_reducible repeat (first|apply k1_|apply k2_|apply k3_));exact Kd.R_mono (k4_ (p:=⟨gb342,3,none⟩) (k4_ (p:=⟨gb342,2,none⟩) (k4_ (p:=⟨gb342,1,none⟩) (k4_ (p:=⟨gb342,0,none⟩) (Kd.R_types HO313.out BK342.out (by decide)) (fun _ hk => hk.2) (.int .i64 t334)) (fun _ hk => hk.2) (.int .i64 t335)) (fun _ hk => hk.2) (.int .i64 t336)) (fun _ hk => hk.2) (.slice Ao37 t337.length co37)) (fun _ hk => ⟨(by first|exact hk.1.1.1.1.1|(have hq_:=hk;simp only [ne_eq] at hq_ ⊢;simp only [hq_,k8_,and_self])),⟨(by first|exact hk.1.1.1.1.2|(have hq_:=hk;simp only [ne_eq] at hq_ ⊢;simp only [hq_,k8_,and_self])),⟨(by first|exact hk.1.1.1.2|(have hq_:=hk;simp only [ne_eq] at hq_ ⊢;simp only [hq_,k8_,and_self])),⟨(by first|exact hk.1.1.2|(have hq_:=hk;simp only [ne_eq] at hq_ ⊢;simp only [hq_,k8_,and_self])),(by first|exact hk.1.2|(have hq_:=hk;simp only [ne_eq] at hq_ ⊢;simp only [hq_,k8_,and_self]))⟩⟩⟩⟩)⟩
        have n2_ : Aside0 (Kd.R (Kd.int .u8) 5 ((((w33.setCell ⟨gb342,0,none⟩ (.int .i64 t334)).setCell ⟨gb342,1,none⟩ (.int .i64 t335)).setCell ⟨gb342,2,none⟩ (.int .i64 t336)).setCell ⟨gb342,3,none⟩ (.slice Ao37 t337.length co37)) w.heap.size (fun k_ => some k_ ≠ (.slice Ao15 t307.length co15 : Value).ownBlock ∧ some k_ ≠ (.slice Ao22 t311.length co22 : Value).ownBlock ∧ some k_ ≠ (.slice Ao28 t325.length co28 : Value).ownBlock ∧ some k_ ≠ (.slice Ao31 y331.length co31 : Value).ownBlock ∧ some k_ ≠ (.slice Ao37 t337.length co37 : Value).ownBlock) (.slice Ao23 y319.length co23) y319):=⟨by (with_reducible repeat (first|apply k1_|apply k2_|apply k3_));exact Kd.R_mono (k4_ (p:=⟨gb342,3,none⟩) (k4_ (p:=⟨gb342,2,none⟩) (k4_ (p:=⟨gb342,1,none⟩) (k4_ (p:=⟨gb342,0,none⟩) (Kd.R_types HO321.out BK342.out (by decide)) (fun _ hk => hk.2) (.int .i64 t334)) (fun _ hk => hk.2) (.int .i64 t335)) (fun _ hk => hk.2) (.int .i64 t336)) (fun _ hk => hk.2) (.slice Ao37 t337.length co37)) (fun _ hk => ⟨(by first|exact hk.1.1.1.1.1|(have hq_:=hk;simp only [ne_eq] at hq_ ⊢;simp only [hq_,k8_,and_self])),⟨(by first|exact hk.1.1.1.1.2|(have hq_:=hk;simp only [ne_eq] at hq_ ⊢;simp only [hq_,k8_,and_self])),⟨(by first|exact hk.1.1.1.2|(have hq_:=hk;simp only [ne_eq] at hq_ ⊢;simp only [hq_,k8_,and_self])),⟨(by first|exact hk.1.1.2|(have hq_:=hk;simp only [ne_eq] at hq_ ⊢;simp only [hq_,k8_,and_self])),(by first|exact hk.1.2|(have hq_:=hk;simp only [ne_eq] at hq_ ⊢;simp only [hq_,k8_,and_self]))⟩⟩⟩⟩)⟩
        have n3_ : Aside0 (Kd.R (Kd.int .u8) 5 ((((w33.setCell ⟨gb342,0,none⟩ (.int .i64 t334)).setCell ⟨gb342,1,none⟩ (.int .i64 t335)).setCell ⟨gb342,2,none⟩ (.int .i64 t336)).setCell ⟨gb342,3,none⟩ (.slice Ao37 t337.length co37)) w.heap.size (fun k_ => some k_ ≠ (.slice Ao15 t307.length co15 : Value).ownBlock ∧ some k_ ≠ (.slice Ao22 t311.length co22 : Value).ownBlock ∧ some k_ ≠ (.slice Ao23 y319.length co23 : Value).ownBlock ∧ some k_ ≠ (.slice Ao31 y331.length co31 : Value).ownBlock ∧ some k_ ≠ (.slice Ao37 t337.length co37 : Value).ownBlock) (.slice Ao28 t325.length co28) t325):=⟨by (with_reducible repeat (first|apply k1_|apply k2_|apply k3_));exact Kd.R_mono (k4_ (p:=⟨gb342,3,none⟩) (k4_ (p:=⟨gb342,2,none⟩) (k4_ (p:=⟨gb342,1,none⟩) (k4_ (p:=⟨gb342,0,none⟩) (Kd.R_types HO327.out BK342.out (by decide)) (fun _ hk => hk.2) (.int .i64 t334)) (fun _ hk => hk.2) (.int .i64 t335)) (fun _ hk => hk.2) (.int .i64 t336)) (fun _ hk => hk.2) (.slice Ao37 t337.length co37)) (fun _ hk => ⟨(by first|exact hk.1.1.1.1.1.2|(have hq_:=hk;simp only [ne_eq] at hq_ ⊢;simp only [hq_,k8_,and_self])),⟨(by first|exact hk.1.1.1.1.2|(have hq_:=hk;simp only [ne_eq] at hq_ ⊢;simp only [hq_,k8_,and_self])),⟨(by first|exact hk.1.1.1.2|(have hq_:=hk;simp only [ne_eq] at hq_ ⊢;simp only [hq_,k8_,and_self])),⟨(by first|exact hk.1.1.2|(have hq_:=hk;simp only [ne_eq] at hq_ ⊢;simp only [hq_,k8_,and_self])),(by first|exact hk.1.2|(have hq_:=hk;simp only [ne_eq] at hq_ ⊢;simp only [hq_,k8_,and_self]))⟩⟩⟩⟩)⟩
        have n4_ : Aside0 (Kd.R (Kd.int .u8) 5 ((((w33.setCell ⟨gb342,0,none⟩ (.int .i64 t334)).setCell ⟨gb342,1,none⟩ (.int .i64 t335)).setCell ⟨gb342,2,none⟩ (.int .i64 t336)).setCell ⟨gb342,3,none⟩ (.slice Ao37 t337.length co37)) w.heap.size (fun k_ => some k_ ≠ (.slice Ao15 t307.length co15 : Value).ownBlock ∧ some k_ ≠ (.slice Ao22 t311.length co22 : Value).ownBlock ∧ some k_ ≠ (.slice Ao23 y319.length co23 : Value).ownBlock ∧ some k_ ≠ (.slice Ao28 t325.length co28 : Value).ownBlock ∧ some k_ ≠ (.slice Ao37 t337.length co37 : Value).ownBlock) (.slice Ao31 y331.length co31) y331):=⟨by (with_reducible repeat (first|apply k1_|apply k2_|apply k3_));exact Kd.R_mono (k4_ (p:=⟨gb342,3,none⟩) (k4_ (p:=⟨gb342,2,none⟩) (k4_ (p:=⟨gb342,1,none⟩) (k4_ (p:=⟨gb342,0,none⟩) (Kd.R_types HO333.out BK342.out (by decide)) (fun _ hk => hk.2) (.int .i64 t334)) (fun _ hk => hk.2) (.int .i64 t335)) (fun _ hk => hk.2) (.int .i64 t336)) (fun _ hk => hk.2) (.slice Ao37 t337.length co37)) (fun _ hk => ⟨(by first|exact hk.1.1.1.1.1.2|(have hq_:=hk;simp only [ne_eq] at hq_ ⊢;simp only [hq_,k8_,and_self])),⟨(by first|exact hk.1.1.1.1.2|(have hq_:=hk;simp only [ne_eq] at hq_ ⊢;simp only [hq_,k8_,and_self])),⟨(by first|exact hk.1.1.1.2|(have hq_:=hk;simp only [ne_eq] at hq_ ⊢;simp only [hq_,k8_,and_self])),⟨(by first|exact hk.1.1.2|(have hq_:=hk;simp only [ne_eq] at hq_ ⊢;simp only [hq_,k8_,and_self])),(by first|exact hk.1.2|(have hq_:=hk;simp only [ne_eq] at hq_ ⊢;simp only [hq_,k8_,and_self]))⟩⟩⟩⟩)⟩
        have n5_ : Aside0 (Kd.R (Kd.int .u8) 5 ((((w33.setCell ⟨gb342,0,none⟩ (.int .i64 t334)).setCell ⟨gb342,1,none⟩ (.int .i64 t335)).setCell ⟨gb342,2,none⟩ (.int .i64 t336)).setCell ⟨gb342,3,none⟩ (.slice Ao37 t337.length co37)) w.heap.size (fun k_ => some k_ ≠ (.slice Ao15 t307.length co15 : Value).ownBlock ∧ some k_ ≠ (.slice Ao22 t311.length co22 : Value).ownBlock ∧ some k_ ≠ (.slice Ao23 y319.length co23 : Value).ownBlock ∧ some k_ ≠ (.slice Ao28 t325.length co28 : Value).ownBlock ∧ some k_ ≠ (.slice Ao31 y331.length co31 : Value).ownBlock) (.slice Ao37 t337.length co37) t337):=⟨by (with_reducible repeat (first|apply k1_|apply k2_|apply k3_));exact Kd.R_mono (k4_ (p:=⟨gb342,3,none⟩) (k4_ (p:=⟨gb342,2,none⟩) (k4_ (p:=⟨gb342,1,none⟩) (k4_ (p:=⟨gb342,0,none⟩) (Kd.R_types HO339.out BK342.out (by decide)) (fun _ hk => hk.2) (.int .i64 t334)) (fun _ hk => hk.2) (.int .i64 t335)) (fun _ hk => hk.2) (.int .i64 t336)) (fun _ hk => hk.2) (.slice Ao37 t337.length co37)) (fun _ hk => ⟨(by first|exact hk.1.1.1.1.1.2|(have hq_:=hk;simp only [ne_eq] at hq_ ⊢;simp only [hq_,k8_,and_self])),⟨(by first|exact hk.1.1.1.1.2|(have hq_:=hk;simp only [ne_eq] at hq_ ⊢;simp only [hq_,k8_,and_self])),⟨(by first|exact hk.1.1.1.2|(have hq_:=hk;simp only [ne_eq] at hq_ ⊢;simp only [hq_,k8_,and_self])),⟨(by first|exact hk.1.1.2|(have hq_:=hk;simp only [ne_eq] at hq_ ⊢;simp only [hq_,k8_,and_self])),(by first|exact hk.1.2|(have hq_:=hk;simp only [ne_eq] at hq_ ⊢;simp only [hq_,k8_,and_self]))⟩⟩⟩⟩)⟩
        have n6_ : Aside0 (((((w33.setCell ⟨gb342,0,none⟩ (.int .i64 t334)).setCell ⟨gb342,1,none⟩ (.int .i64 t335)).setCell ⟨gb342,2,none⟩ (.int .i64 t336)).setCell ⟨gb342,3,none⟩ (.slice Ao37 t337.length co37)).heap[gb310]? = some (.cells #[.int .i64 t304,.int .i64 t305,.int .i64 t306,.slice Ao15 t307.length co15] 59 (0,0))):=⟨by (with_reducible repeat (first|refine k6_ ?_ _|refine k7_ ?_|refine k5_ ?_ _));refine blk_far ?_ NB310_342.out _;(with_reducible repeat (first|refine k6_ ?_ _|refine k7_ ?_|refine k5_ ?_ _));refine blk_far ?_ NB310_342.out _;(with_reducible repeat (first|refine k6_ ?_ _|refine k7_ ?_|refine k5_ ?_ _));refine blk_far ?_ NB310_342.out _;(with_reducible repeat (first|refine k6_ ?_ _|refine k7_ ?_|refine k5_ ?_ _));refine blk_far ?_ NB310_342.out _;(with_reducible repeat (first|refine k6_ ?_ _|refine k7_ ?_|refine k5_ ?_ _));exact BK310.out⟩
        have n7_ : Aside0 (((((w33.setCell ⟨gb342,0,none⟩ (.int .i64 t334)).setCell ⟨gb342,1,none⟩ (.int .i64 t335)).setCell ⟨gb342,2,none⟩ (.int .i64 t336)).setCell ⟨gb342,3,none⟩ (.slice Ao37 t337.length co37)).heap[gb330]? = some (.cells #[.int .i64 t322,.int .i64 t323,.int .i64 t324,.slice Ao28 t325.length co28] 59 (0,0))):=⟨by (with_reducible repeat (first|refine k6_ ?_ _|refine k7_ ?_|refine k5_ ?_ _));refine blk_far ?_ NB330_342.out _;(with_reducible repeat (first|refine k6_ ?_ _|refine k7_ ?_|refine k5_ ?_ _));refine blk_far ?_ NB330_342.out _;(with_reducible repeat (first|refine k6_ ?_ _|refine k7_ ?_|refine k5_ ?_ _));refine blk_far ?_ NB330_342.out _;(with_reducible repeat (first|refine k6_ ?_ _|refine k7_ ?_|refine k5_ ?_ _));refine blk_far ?_ NB330_342.out _;(with_reducible repeat (first|refine k6_ ?_ _|refine k7_ ?_|refine k5_ ?_ _));exact BK330.out⟩
        have n8_ : Aside0 (((((w33.setCell ⟨gb342,0,none⟩ (.int .i64 t334)).setCell ⟨gb342,1,none⟩ (.int .i64 t335)).setCell ⟨gb342,2,none⟩ (.int .i64 t336)).setCell ⟨gb342,3,none⟩ (.slice Ao37 t337.length co37)).heap[gb342]? = some (.cells #[.int .i64 t334,.int .i64 t335,.int .i64 t336,.slice Ao37 t337.length co37] 59 (0,0))):=⟨by (with_reducible repeat (first|refine k6_ ?_ _|refine k7_ ?_|refine k5_ ?_ _));refine blk_put (cs:=#[.int .i64 t334,.int .i64 t335,.int .i64 t336,.slice none 0 0]) ?_ 3 _ rfl;(with_reducible repeat (first|refine k6_ ?_ _|refine k7_ ?_|refine k5_ ?_ _));refine blk_put (cs:=#[.int .i64 t334,.int .i64 t335,.int .i64 0,.slice none 0 0]) ?_ 2 _ rfl;(with_reducible repeat (first|refine k6_ ?_ _|refine k7_ ?_|refine k5_ ?_ _));refine blk_put (cs:=#[.int .i64 t334,.int .i64 0,.int .i64 0,.slice none 0 0]) ?_ 1 _ rfl;(with_reducible repeat (first|refine k6_ ?_ _|refine k7_ ?_|refine k5_ ?_ _));refine blk_put (cs:=#[.int .i64 0,.int .i64 0,.int .i64 0,.slice none 0 0]) ?_ 0 _ rfl;(with_reducible repeat (first|refine k6_ ?_ _|refine k7_ ?_|refine k5_ ?_ _));exact BK342.out⟩
        have n9_ : Aside0 (Below w.heap.size w ((((w33.setCell ⟨gb342,0,none⟩ (.int .i64 t334)).setCell ⟨gb342,1,none⟩ (.int .i64 t335)).setCell ⟨gb342,2,none⟩ (.int .i64 t336)).setCell ⟨gb342,3,none⟩ (.slice Ao37 t337.length co37))):=⟨by repeat (first|(with_reducible first|exact HB.out|apply below_alloc|apply pw_below_drewN|apply below_drew1|refine below_set ?_ GE310.out|refine below_set ?_ GE330.out|refine below_set ?_ GE342.out)|exact HB.out)⟩
        (try clear HO309)
        (try clear HO313)
        (try clear HO321)
        (try clear HO327)
        (try clear HO333)
        (try clear HO339)
        (try clear BK310)
        (try clear BK330)
        (try clear BK342)
        (try clear HB)
        generalize ((((w33.setCell ⟨gb342,0,none⟩ (.int .i64 t334)).setCell ⟨gb342,1,none⟩ (.int .i64 t335)).setCell ⟨gb342,2,none⟩ (.int .i64 t336)).setCell ⟨gb342,3,none⟩ (.slice Ao37 t337.length co37)) = w57 at n0_ n1_ n2_ n3_ n4_ n5_ n6_ n7_ n8_ n9_ ⊢
        have HO309:=n0_
        have HO313:=n1_
        have HO321:=n2_
        have HO327:=n3_
        have HO333:=n4_
        have HO339:=n5_
        have BK310:=n6_
        have BK330:=n7_
        have BK342:=n8_
        have HB:=n9_
        clear n0_ n1_ n2_ n3_ n4_ n5_ n6_ n7_ n8_ n9_
        have n0_:=Aside0.mk (k3_ HO309.out)
        have n1_:=Aside0.mk (k3_ HO313.out)
        have n2_:=Aside0.mk (k3_ HO321.out)
        have n3_:=Aside0.mk (k3_ HO327.out)
        have n4_:=Aside0.mk (k3_ HO333.out)
        have n5_:=Aside0.mk (k3_ HO339.out)
        have n6_:=Aside0.mk (k7_ BK310.out)
        have n7_:=Aside0.mk (k7_ BK330.out)
        have n8_:=Aside0.mk (k7_ BK342.out)
        have n9_:=Aside0.mk (below_drew1 HB.out)
        clear HO309
        clear HO313
        clear HO321
        clear HO327
        clear HO333
        clear HO339
        clear BK310
        clear BK330
        clear BK342
        clear HB
        have HO309:=n0_
        have HO313:=n1_
        have HO321:=n2_
        have HO327:=n3_
        have HO333:=n4_
        have HO339:=n5_
        have BK310:=n6_
        have BK330:=n7_
        have BK342:=n8_
        have HB:=n9_
        clear n0_ n1_ n2_ n3_ n4_ n5_ n6_ n7_ n8_ n9_
        refine start_ (n:=35) (S:=fun w' => w'.cell? ⟨gb330,0,none⟩ = some (.int .i64 t322) ∧ w'.cell? ⟨gb330,1,none⟩ = some (.int .i64 t323) ∧ w'.cell? ⟨gb330,2,none⟩ = some (.int .i64 t324) ∧ w'.cell? ⟨gb330,3,none⟩ = some (.slice Ao28 t325.length co28) ∧ w'.cell? ⟨gb310,0,none⟩ = some (.int .i64 t304) ∧ w'.cell? ⟨gb310,1,none⟩ = some (.int .i64 t305) ∧ w'.cell? ⟨gb310,2,none⟩ = some (.int .i64 t306) ∧ w'.cell? ⟨gb310,3,none⟩ = some (.slice Ao15 t307.length co15)) (ds:=[]) #[Z,Z,Z,Z,Z,Z,Z,Z,Z,Z,Z,Z,Z,Z,Z,Z,Z,Z,Z,Z,Z,Z,Z,Z,Z,Z,Z,Z,Z,Z,Z,Z,Z,Z,Z] (by kernel_rfl) rfl rfl ⟨(blk_cell BK330.out 0).trans rfl,(blk_cell BK330.out 1).trans rfl,(blk_cell BK330.out 2).trans rfl,(blk_cell BK330.out 3).trans rfl,(blk_cell BK310.out 0).trans rfl,(blk_cell BK310.out 1).trans rfl,(blk_cell BK310.out 2).trans rfl,(blk_cell BK310.out 3).trans rfl⟩ (fun hHeld => ?_);refine with_tabW laws_FnOneFrame.tab9 laws_FnOneFrame.bits9 (fun HT_ HW_ => ?_)
        generalize w57.drew = w58 at HO309 HO313 HO321 HO327 HO333 HO339 BK310 BK330 BK342 HB hHeld ⊢
        refine pure_ (i:=0) (N:=some 42) (v:=?_) (a':=?_) #[Y,Z,Z,Z,Z,Z,Z,Z,Z,Z,Z,Z,Z,Z,Z,Z,Z,Z,Z,Z,Z,Z,Z,Z,Z,Z,Z,Z,Z,Z,Z,Z,Z,Z,Z] rfl rfl (any_of HT_.out (by kernel_rfl)) (fun _ _ _ h => h) (Or.inl ⟨by rfl,?_⟩) ?_ ?_
        rotate_left
        ·
         intro w'
         go_simp
         with_reducible rfl
        rotate_left
        ·
         simp only [Act.put,lA_,lB_,lC_,i64_w,i32_w]
         rfl
        refine pure_ (i:=1) (N:=some 43) (v:=?_) (a':=?_) #[Y,Y,Z,Z,Z,Z,Z,Z,Z,Z,Z,Z,Z,Z,Z,Z,Z,Z,Z,Z,Z,Z,Z,Z,Z,Z,Z,Z,Z,Z,Z,Z,Z,Z,Z] rfl rfl (any_of HT_.out (by kernel_rfl)) (fun _ _ _ h => h) (Or.inl ⟨by rfl,?_⟩) ?_ ?_
        rotate_left
        ·
         intro w'
         go_simp
         with_reducible rfl
        rotate_left
        ·
         simp only [Act.put,lA_,lB_,lC_,i64_w,i32_w]
         rfl
        refine pure_ (i:=2) (N:=some 44) (v:=?_) (a':=?_) #[Y,Y,Y,Z,Z,Z,Z,Z,Z,Z,Z,Z,Z,Z,Z,Z,Z,Z,Z,Z,Z,Z,Z,Z,Z,Z,Z,Z,Z,Z,Z,Z,Z,Z,Z] rfl rfl (any_of HT_.out (by kernel_rfl)) (fun _ _ _ h => h) (Or.inl ⟨by rfl,?_⟩) ?_ ?_
        rotate_left
        ·
         intro w'
         go_simp
         with_reducible rfl
        rotate_left
        ·
         simp only [Act.put,lA_,lB_,lC_,i64_w,i32_w]
         rfl
        refine pure_ (i:=3) (N:=some 45) (v:=?_) (a':=?_) #[Y,Y,Y,Y,Z,Z,Z,Z,Z,Z,Z,Z,Z,Z,Z,Z,Z,Z,Z,Z,Z,Z,Z,Z,Z,Z,Z,Z,Z,Z,Z,Z,Z,Z,Z] rfl rfl (any_of HT_.out (by kernel_rfl)) (fun _ _ _ h => h) (Or.inl ⟨by rfl,?_⟩) ?_ ?_
        rotate_left
        ·
         intro w'
         go_simp
         with_reducible rfl
        rotate_left
        ·
         simp only [Act.put,lA_,lB_,lC_,i64_w,i32_w]
         rfl
        refine pure_ (i:=4) (N:=some 46) (v:=?_) (a':=?_) #[Y,Y,Y,Y,Y,Z,Z,Z,Z,Z,Z,Z,Z,Z,Z,Z,Z,Z,Z,Z,Z,Z,Z,Z,Z,Z,Z,Z,Z,Z,Z,Z,Z,Z,Z] rfl rfl (any_of HT_.out (by kernel_rfl)) (fun _ _ _ h => h) (Or.inl ⟨by rfl,?_⟩) ?_ ?_
        rotate_left
        ·
         intro w'
         go_simp
         with_reducible rfl
        rotate_left
        ·
         simp only [Act.put,lA_,lB_,lC_,i64_w,i32_w]
         rfl
        refine pure_ (i:=5) (N:=some 47) (v:=?_) (a':=?_) #[Y,Y,Y,Y,Y,Y,Z,Z,Z,Z,Z,Z,Z,Z,Z,Z,Z,Z,Z,Z,Z,Z,Z,Z,Z,Z,Z,Z,Z,Z,Z,Z,Z,Z,Z] rfl rfl (any_of HT_.out (by kernel_rfl)) (fun _ _ _ h => h) (Or.inl ⟨by rfl,?_⟩) ?_ ?_
        rotate_left
        ·
         intro w'
         go_simp
         with_reducible rfl
        rotate_left
        ·
         simp only [Act.put,lA_,lB_,lC_,i64_w,i32_w]
         rfl
        refine pure_ (i:=6) (N:=some 48) (v:=?_) (a':=?_) #[Y,Y,Y,Y,Y,Y,Y,Z,Z,Z,Z,Z,Z,Z,Z,Z,Z,Z,Z,Z,Z,Z,Z,Z,Z,Z,Z,Z,Z,Z,Z,Z,Z,Z,Z] rfl rfl (any_of HT_.out (by kernel_rfl)) (fun _ _ _ h => h) (Or.inl ⟨by rfl,?_⟩) ?_ ?_
        rotate_left
        ·
         intro w'
         go_simp
         with_reducible rfl
        rotate_left
        ·
         simp only [Act.put,lA_,lB_,lC_,i64_w,i32_w]
         rfl
        refine pure_ (i:=7) (N:=some 49) (v:=?_) (a':=?_) #[Y,Y,Y,Y,Y,Y,Y,Y,Z,Z,Z,Z,Z,Z,Z,Z,Z,Z,Z,Z,Z,Z,Z,Z,Z,Z,Z,Z,Z,Z,Z,Z,Z,Z,Z] rfl rfl (any_of HT_.out (by kernel_rfl)) (fun _ _ _ h => h) (Or.inl ⟨by rfl,?_⟩) ?_ ?_
        rotate_left
        ·
         intro w'
         go_simp
         with_reducible rfl
        rotate_left
        ·
         simp only [Act.put,lA_,lB_,lC_,i64_w,i32_w]
         rfl
        refine pure_ (i:=8) (N:=some 50) (v:=?_) (a':=?_) #[Y,Y,Y,Y,Y,Y,Y,Y,Y,Z,Z,Z,Z,Z,Z,Z,Z,Z,Z,Z,Z,Z,Z,Z,Z,Z,Z,Z,Z,Z,Z,Z,Z,Z,Z] rfl rfl (any_of HT_.out (by kernel_rfl)) (fun _ _ _ h => h) (Or.inl ⟨by rfl,?_⟩) ?_ ?_
        rotate_left
        ·
         intro w'
         go_simp
         with_reducible rfl
        rotate_left
        ·
         simp only [Act.put,lA_,lB_,lC_,i64_w,i32_w]
         rfl
        refine pure_ (i:=9) (N:=some 51) (v:=?_) (a':=?_) #[Y,Y,Y,Y,Y,Y,Y,Y,Y,Y,Z,Z,Z,Z,Z,Z,Z,Z,Z,Z,Z,Z,Z,Z,Z,Z,Z,Z,Z,Z,Z,Z,Z,Z,Z] rfl rfl (any_of HT_.out (by kernel_rfl)) (fun _ _ _ h => h) (Or.inl ⟨by rfl,?_⟩) ?_ ?_
        rotate_left
        ·
         intro w'
         go_simp
         with_reducible rfl
        rotate_left
        ·
         simp only [Act.put,lA_,lB_,lC_,i64_w,i32_w]
         rfl
        refine take_ (i:=10) (N:=some 52) (v:=?_) (a':=?_) #[Y,Y,Y,Y,Y,Y,Y,Y,Y,Y,Y,Z,Z,Z,Z,Z,Z,Z,Z,Z,Z,Z,Z,Z,Z,Z,Z,Z,Z,Z,Z,Z,Z,Z,Z] rfl rfl (take_ofW HT_.out HW_.out (by kernel_rfl)) (fun _ _ _ h => h) (Or.inl ⟨by rfl,?_⟩) hHeld ?_ ?_
        rotate_left
        ·
         rintro w' ⟨s0,s1,s2,s3,s4,s5,s6,s7⟩
         go_simp
         with_reducible rfl
        rotate_left
        ·
         simp only [Act.put,lA_,lB_,lC_,i64_w,i32_w]
         rfl
        refine take_ (i:=11) (N:=some 53) (v:=?_) (a':=?_) #[Y,Y,Y,Y,Y,Y,Y,Y,Y,Y,Y,Y,Z,Z,Z,Z,Z,Z,Z,Z,Z,Z,Z,Z,Z,Z,Z,Z,Z,Z,Z,Z,Z,Z,Z] rfl rfl (take_ofW HT_.out HW_.out (by kernel_rfl)) (fun _ _ _ h => h) (Or.inl ⟨by rfl,?_⟩) hHeld ?_ ?_
        rotate_left
        ·
         rintro w' ⟨s0,s1,s2,s3,s4,s5,s6,s7⟩
         go_simp
         with_reducible rfl
        rotate_left
        ·
         simp only [Act.put,lA_,lB_,lC_,i64_w,i32_w]
         rfl
        refine one_ (i:=12) (N:=some 54) #[Y,Y,Y,Y,Y,Y,Y,Y,Y,Y,Y,Y,Y,Z,Z,Z,Z,Z,Z,Z,Z,Z,Z,Z,Z,Z,Z,Z,Z,Z,Z,Z,Z,Z,Z] rfl rfl (one_of HT_.out (by kernel_rfl)) (by decide) (fun K hK => ?_)
        refine goes_ Try.func43 (by kernel_rfl) rfl #[.agg #[.int .i64 t322,.int .i64 t323,.int .i64 t324,.slice Ao28 t325.length co28],.agg #[.int .i64 t304,.int .i64 t305,.int .i64 t306,.slice Ao15 t307.length co15]] (by rfl) rfl rfl (by (try simp only [List.map_toArray,List.map_cons,List.map_nil]);first|done|rfl|(simp only [List.length_drop,List.length_take];rfl)) ?_
        with_reducible refine (laws_sameFrame.calls k t322 t323 t324 _ _ t325 t304 t305 t306 _ _ t307 false _ ?side1 ?side2 ?side3 ?side4 A40.out).mono ?_
        (case side1 => repeat (first|exact (Kd.R_reads' HO327.out).2.2|(with_reducible refine Kd.C_alloc ?_ _)|(with_reducible refine Kd.C_drewN ?_ _)|(with_reducible refine Kd.C_drew ?_)))
        (case side2 => exact (Kd.R_reads' HO327.out).2.1)
        (case side3 => repeat (first|exact (Kd.R_reads' HO309.out).2.2|(with_reducible refine Kd.C_alloc ?_ _)|(with_reducible refine Kd.C_drewN ?_ _)|(with_reducible refine Kd.C_drew ?_)))
        (case side4 => exact (Kd.R_reads' HO309.out).2.1)
        rintro e w59 ⟨rfl,hb⟩
        refine ⟨_,rfl,?_⟩
        have n0_:=Aside0.mk (Kd.R_below (by (with_reducible repeat (first|apply k1_|apply k2_|apply k3_));exact HO309.out) hb)
        have n1_:=Aside0.mk (Kd.R_below (by (with_reducible repeat (first|apply k1_|apply k2_|apply k3_));exact HO313.out) hb)
        have n2_:=Aside0.mk (Kd.R_below (by (with_reducible repeat (first|apply k1_|apply k2_|apply k3_));exact HO321.out) hb)
        have n3_:=Aside0.mk (Kd.R_below (by (with_reducible repeat (first|apply k1_|apply k2_|apply k3_));exact HO327.out) hb)
        have n4_:=Aside0.mk (Kd.R_below (by (with_reducible repeat (first|apply k1_|apply k2_|apply k3_));exact HO333.out) hb)
        have n5_:=Aside0.mk (Kd.R_below (by (with_reducible repeat (first|apply k1_|apply k2_|apply k3_));exact HO339.out) hb)
        have n6_:=Aside0.mk (blk_below (g:=gb310) (o:=.cells #[.int .i64 t304,.int .i64 t305,.int .i64 t306,.slice Ao15 t307.length co15] 59 (0,0)) (by (with_reducible repeat (first|refine k6_ ?_ _|refine k7_ ?_|refine k5_ ?_ _));exact BK310.out) hb)
        have n7_:=Aside0.mk (blk_below (g:=gb330) (o:=.cells #[.int .i64 t322,.int .i64 t323,.int .i64 t324,.slice Ao28 t325.length co28] 59 (0,0)) (by (with_reducible repeat (first|refine k6_ ?_ _|refine k7_ ?_|refine k5_ ?_ _));exact BK330.out) hb)
        have n8_:=Aside0.mk (blk_below (g:=gb342) (o:=.cells #[.int .i64 t334,.int .i64 t335,.int .i64 t336,.slice Ao37 t337.length co37] 59 (0,0)) (by (with_reducible repeat (first|refine k6_ ?_ _|refine k7_ ?_|refine k5_ ?_ _));exact BK342.out) hb)
        have n9_:=Aside0.mk (below_step (by repeat (first|(with_reducible first|exact HB.out|apply below_alloc|apply pw_below_drewN|apply below_drew1|refine below_set ?_ GE310.out|refine below_set ?_ GE330.out|refine below_set ?_ GE342.out)|exact HB.out)) hb)
        clear HO309
        clear HO313
        clear HO321
        clear HO327
        clear HO333
        clear HO339
        clear BK310
        clear BK330
        clear BK342
        clear HB
        have HO309:=n0_
        have HO313:=n1_
        have HO321:=n2_
        have HO327:=n3_
        have HO333:=n4_
        have HO339:=n5_
        have BK310:=n6_
        have BK330:=n7_
        have BK342:=n8_
        have HB:=n9_
        clear n0_ n1_ n2_ n3_ n4_ n5_ n6_ n7_ n8_ n9_
        (try clear hb)
        (try clear hb2)
        (try clear hk)
        (try clear hi)
        refine hK.out _ _ ⟨(blk_cell BK330.out 0).trans rfl,(blk_cell BK330.out 1).trans rfl,(blk_cell BK330.out 2).trans rfl,(blk_cell BK330.out 3).trans rfl,(blk_cell BK310.out 0).trans rfl,(blk_cell BK310.out 1).trans rfl,(blk_cell BK310.out 2).trans rfl,(blk_cell BK310.out 3).trans rfl⟩ (fun hHeld => ?_)
        clear hK K
        refine norm_ (a':=?_) ?_ ?_
        rotate_left
        ·
         show Act.put _ (some 54) _ = _
         simp only [Act.put,lA_,lB_,lC_,i64_w,i32_w]
         rfl
        refine pure_ (i:=13) (N:=some 55) (v:=?_) (a':=?_) #[Y,Y,Y,Y,Y,Y,Y,Y,Y,Y,Y,Y,Y,Y,Z,Z,Z,Z,Z,Z,Z,Z,Z,Z,Z,Z,Z,Z,Z,Z,Z,Z,Z,Z,Z] rfl rfl (any_of HT_.out (by kernel_rfl)) (fun _ _ _ h => h) (Or.inl ⟨by rfl,?_⟩) ?_ ?_
        rotate_left
        ·
         intro w'
         go_simp
         with_reducible rfl
        rotate_left
        ·
         simp only [Act.put,lA_,lB_,lC_,i64_w,i32_w]
         rfl
        refine pure_ (i:=14) (N:=some 56) (v:=?_) (a':=?_) #[Y,Y,Y,Y,Y,Y,Y,Y,Y,Y,Y,Y,Y,Y,Y,Z,Z,Z,Z,Z,Z,Z,Z,Z,Z,Z,Z,Z,Z,Z,Z,Z,Z,Z,Z] rfl rfl (any_of HT_.out (by kernel_rfl)) (fun _ _ _ h => h) (Or.inl ⟨by rfl,?_⟩) ?_ ?_
        rotate_left
        ·
         intro w'
         go_simp
         with_reducible rfl
        rotate_left
        ·
         simp only [Act.put,lA_,lB_,lC_,i64_w,i32_w]
         rfl
        refine pure_ (i:=15) (N:=some 57) (v:=undef) (a':=?_) #[Y,Y,Y,Y,Y,Y,Y,Y,Y,Y,Y,Y,Y,Y,Y,Y,Z,Z,Z,Z,Z,Z,Z,Z,Z,Z,Z,Z,Z,Z,Z,Z,Z,Z,Z] rfl rfl (any_of HT_.out (by kernel_rfl)) (fun _ _ _ h => h) (Or.inr ⟨by rfl,rfl⟩) ?_ ?_
        rotate_left
        ·
         simp only [Act.put,lA_,lB_,lC_,i64_w,i32_w]
         rfl
        refine pure_ (i:=16) (N:=some 58) (v:=undef) (a':=?_) #[Y,Y,Y,Y,Y,Y,Y,Y,Y,Y,Y,Y,Y,Y,Y,Y,Y,Z,Z,Z,Z,Z,Z,Z,Z,Z,Z,Z,Z,Z,Z,Z,Z,Z,Z] rfl rfl (any_of HT_.out (by kernel_rfl)) (fun _ _ _ h => h) (Or.inr ⟨by rfl,rfl⟩) ?_ ?_
        rotate_left
        ·
         simp only [Act.put,lA_,lB_,lC_,i64_w,i32_w]
         rfl
        refine pure_ (i:=17) (N:=some 59) (v:=undef) (a':=?_) #[Y,Y,Y,Y,Y,Y,Y,Y,Y,Y,Y,Y,Y,Y,Y,Y,Y,Y,Z,Z,Z,Z,Z,Z,Z,Z,Z,Z,Z,Z,Z,Z,Z,Z,Z] rfl rfl (any_of HT_.out (by kernel_rfl)) (fun _ _ _ h => h) (Or.inr ⟨by rfl,rfl⟩) ?_ ?_
        rotate_left
        ·
         simp only [Act.put,lA_,lB_,lC_,i64_w,i32_w]
         rfl
        refine pure_ (i:=18) (N:=some 60) (v:=undef) (a':=?_) #[Y,Y,Y,Y,Y,Y,Y,Y,Y,Y,Y,Y,Y,Y,Y,Y,Y,Y,Y,Z,Z,Z,Z,Z,Z,Z,Z,Z,Z,Z,Z,Z,Z,Z,Z] rfl rfl (any_of HT_.out (by kernel_rfl)) (fun _ _ _ h => h) (Or.inr ⟨by rfl,rfl⟩) ?_ ?_
        rotate_left
        ·
         simp only [Act.put,lA_,lB_,lC_,i64_w,i32_w]
         rfl
        refine pure_ (i:=19) (N:=some 61) (v:=undef) (a':=?_) #[Y,Y,Y,Y,Y,Y,Y,Y,Y,Y,Y,Y,Y,Y,Y,Y,Y,Y,Y,Y,Z,Z,Z,Z,Z,Z,Z,Z,Z,Z,Z,Z,Z,Z,Z] rfl rfl (any_of HT_.out (by kernel_rfl)) (fun _ _ _ h => h) (Or.inr ⟨by rfl,rfl⟩) ?_ ?_
        rotate_left
        ·
         simp only [Act.put,lA_,lB_,lC_,i64_w,i32_w]
         rfl
        refine pure_ (i:=20) (N:=some 62) (v:=undef) (a':=?_) #[Y,Y,Y,Y,Y,Y,Y,Y,Y,Y,Y,Y,Y,Y,Y,Y,Y,Y,Y,Y,Y,Z,Z,Z,Z,Z,Z,Z,Z,Z,Z,Z,Z,Z,Z] rfl rfl (any_of HT_.out (by kernel_rfl)) (fun _ _ _ h => h) (Or.inr ⟨by rfl,rfl⟩) ?_ ?_
        rotate_left
        ·
         simp only [Act.put,lA_,lB_,lC_,i64_w,i32_w]
         rfl
        refine pure_ (i:=21) (N:=some 63) (v:=undef) (a':=?_) #[Y,Y,Y,Y,Y,Y,Y,Y,Y,Y,Y,Y,Y,Y,Y,Y,Y,Y,Y,Y,Y,Y,Z,Z,Z,Z,Z,Z,Z,Z,Z,Z,Z,Z,Z] rfl rfl (any_of HT_.out (by kernel_rfl)) (fun _ _ _ h => h) (Or.inr ⟨by rfl,rfl⟩) ?_ ?_
        rotate_left
        ·
         simp only [Act.put,lA_,lB_,lC_,i64_w,i32_w]
         rfl
        refine pure_ (i:=22) (N:=some 64) (v:=?_) (a':=?_) #[Y,Y,Y,Y,Y,Y,Y,Y,Y,Y,Y,Y,Y,Y,Y,Y,Y,Y,Y,Y,Y,Y,Y,Z,Z,Z,Z,Z,Z,Z,Z,Z,Z,Z,Z] rfl rfl (any_of HT_.out (by kernel_rfl)) (fun _ _ _ h => h) (Or.inl ⟨by rfl,?_⟩) ?_ ?_
        rotate_left
        ·
         intro w'
         go_simp
         with_reducible rfl
        rotate_left
        ·
         simp only [Act.put,lA_,lB_,lC_,i64_w,i32_w]
         rfl
        refine pure_ (i:=23) (N:=some 65) (v:=?_) (a':=?_) #[Y,Y,Y,Y,Y,Y,Y,Y,Y,Y,Y,Y,Y,Y,Y,Y,Y,Y,Y,Y,Y,Y,Y,Y,Z,Z,Z,Z,Z,Z,Z,Z,Z,Z,Z] rfl rfl (any_of HT_.out (by kernel_rfl)) (fun _ _ _ h => h) (Or.inl ⟨by rfl,?_⟩) ?_ ?_
        rotate_left
        ·
         intro w'
         go_simp
         with_reducible rfl
        rotate_left
        ·
         simp only [Act.put,lA_,lB_,lC_,i64_w,i32_w]
         rfl
        refine pure_ (i:=24) (N:=some 66) (v:=undef) (a':=?_) #[Y,Y,Y,Y,Y,Y,Y,Y,Y,Y,Y,Y,Y,Y,Y,Y,Y,Y,Y,Y,Y,Y,Y,Y,Y,Z,Z,Z,Z,Z,Z,Z,Z,Z,Z] rfl rfl (any_of HT_.out (by kernel_rfl)) (fun _ _ _ h => h) (Or.inr ⟨by rfl,rfl⟩) ?_ ?_
        rotate_left
        ·
         simp only [Act.put,lA_,lB_,lC_,i64_w,i32_w]
         rfl
        refine pure_ (i:=25) (N:=some 67) (v:=undef) (a':=?_) #[Y,Y,Y,Y,Y,Y,Y,Y,Y,Y,Y,Y,Y,Y,Y,Y,Y,Y,Y,Y,Y,Y,Y,Y,Y,Y,Z,Z,Z,Z,Z,Z,Z,Z,Z] rfl rfl (any_of HT_.out (by kernel_rfl)) (fun _ _ _ h => h) (Or.inr ⟨by rfl,rfl⟩) ?_ ?_
        rotate_left
        ·
         simp only [Act.put,lA_,lB_,lC_,i64_w,i32_w]
         rfl
        refine pure_ (i:=26) (N:=some 68) (v:=?_) (a':=?_) #[Y,Y,Y,Y,Y,Y,Y,Y,Y,Y,Y,Y,Y,Y,Y,Y,Y,Y,Y,Y,Y,Y,Y,Y,Y,Y,Y,Z,Z,Z,Z,Z,Z,Z,Z] rfl rfl (any_of HT_.out (by kernel_rfl)) (fun _ _ _ h => h) (Or.inl ⟨by rfl,?_⟩) ?_ ?_
        rotate_left
        ·
         intro w'
         go_simp
         with_reducible rfl
        rotate_left
        ·
         simp only [Act.put,lA_,lB_,lC_,i64_w,i32_w]
         rfl
        refine pure_ (i:=27) (N:=some 69) (v:=?_) (a':=?_) #[Y,Y,Y,Y,Y,Y,Y,Y,Y,Y,Y,Y,Y,Y,Y,Y,Y,Y,Y,Y,Y,Y,Y,Y,Y,Y,Y,Y,Z,Z,Z,Z,Z,Z,Z] rfl rfl (any_of HT_.out (by kernel_rfl)) (fun _ _ _ h => h) (Or.inl ⟨by rfl,?_⟩) ?_ ?_
        rotate_left
        ·
         intro w'
         go_simp
         with_reducible rfl
        rotate_left
        ·
         simp only [Act.put,lA_,lB_,lC_,i64_w,i32_w]
         rfl
        refine pure_ (i:=28) (N:=some 70) (v:=undef) (a':=?_) #[Y,Y,Y,Y,Y,Y,Y,Y,Y,Y,Y,Y,Y,Y,Y,Y,Y,Y,Y,Y,Y,Y,Y,Y,Y,Y,Y,Y,Y,Z,Z,Z,Z,Z,Z] rfl rfl (any_of HT_.out (by kernel_rfl)) (fun _ _ _ h => h) (Or.inr ⟨by rfl,rfl⟩) ?_ ?_
        rotate_left
        ·
         simp only [Act.put,lA_,lB_,lC_,i64_w,i32_w]
         rfl
        refine pure_ (i:=29) (N:=some 71) (v:=undef) (a':=?_) #[Y,Y,Y,Y,Y,Y,Y,Y,Y,Y,Y,Y,Y,Y,Y,Y,Y,Y,Y,Y,Y,Y,Y,Y,Y,Y,Y,Y,Y,Y,Z,Z,Z,Z,Z] rfl rfl (any_of HT_.out (by kernel_rfl)) (fun _ _ _ h => h) (Or.inr ⟨by rfl,rfl⟩) ?_ ?_
        rotate_left
        ·
         simp only [Act.put,lA_,lB_,lC_,i64_w,i32_w]
         rfl
        refine pure_ (i:=30) (N:=some 72) (v:=undef) (a':=?_) #[Y,Y,Y,Y,Y,Y,Y,Y,Y,Y,Y,Y,Y,Y,Y,Y,Y,Y,Y,Y,Y,Y,Y,Y,Y,Y,Y,Y,Y,Y,Y,Z,Z,Z,Z] rfl rfl (any_of HT_.out (by kernel_rfl)) (fun _ _ _ h => h) (Or.inr ⟨by rfl,rfl⟩) ?_ ?_
        rotate_left
        ·
         simp only [Act.put,lA_,lB_,lC_,i64_w,i32_w]
         rfl
        refine pure_ (i:=31) (N:=some 73) (v:=undef) (a':=?_) #[Y,Y,Y,Y,Y,Y,Y,Y,Y,Y,Y,Y,Y,Y,Y,Y,Y,Y,Y,Y,Y,Y,Y,Y,Y,Y,Y,Y,Y,Y,Y,Y,Z,Z,Z] rfl rfl (any_of HT_.out (by kernel_rfl)) (fun _ _ _ h => h) (Or.inr ⟨by rfl,rfl⟩) ?_ ?_
        rotate_left
        ·
         simp only [Act.put,lA_,lB_,lC_,i64_w,i32_w]
         rfl
        refine pure_ (i:=32) (N:=some 74) (v:=undef) (a':=?_) #[Y,Y,Y,Y,Y,Y,Y,Y,Y,Y,Y,Y,Y,Y,Y,Y,Y,Y,Y,Y,Y,Y,Y,Y,Y,Y,Y,Y,Y,Y,Y,Y,Y,Z,Z] rfl rfl (any_of HT_.out (by kernel_rfl)) (fun _ _ _ h => h) (Or.inr ⟨by rfl,rfl⟩) ?_ ?_
        rotate_left
        ·
         simp only [Act.put,lA_,lB_,lC_,i64_w,i32_w]
         rfl
        refine pure_ (i:=33) (N:=some 75) (v:=?_) (a':=?_) #[Y,Y,Y,Y,Y,Y,Y,Y,Y,Y,Y,Y,Y,Y,Y,Y,Y,Y,Y,Y,Y,Y,Y,Y,Y,Y,Y,Y,Y,Y,Y,Y,Y,Y,Z] rfl rfl (any_of HT_.out (by kernel_rfl)) (fun _ _ _ h => h) (Or.inl ⟨by rfl,?_⟩) ?_ ?_
        rotate_left
        ·
         intro w'
         go_simp
         with_reducible rfl
        rotate_left
        ·
         simp only [Act.put,lA_,lB_,lC_,i64_w,i32_w]
         rfl
        refine pure_ (i:=34) (N:=some 2) (v:=?_) (a':=?_) #[Y,Y,Y,Y,Y,Y,Y,Y,Y,Y,Y,Y,Y,Y,Y,Y,Y,Y,Y,Y,Y,Y,Y,Y,Y,Y,Y,Y,Y,Y,Y,Y,Y,Y,Y] rfl rfl (any_of HT_.out (by kernel_rfl)) (fun _ _ _ h => h) (Or.inl ⟨by rfl,?_⟩) ?_ ?_
        rotate_left
        ·
         intro w'
         go_simp
         with_reducible rfl
        rotate_left
        ·
         simp only [Act.put,lA_,lB_,lC_,i64_w,i32_w]
         rfl
        refine done_ (done_of HT_.out (by kernel_rfl)) ?_
        try go_wp2
        go_meet
        case rel => exact ⟨_,(false),(by first|rfl|(simp;done)|(simp [*];done)),H',⟨by first|omega|exact Nat.le_refl _⟩,⟨by (with_reducible repeat (first|apply k1_|apply k2_|apply k3_));exact Kd.R_mono HO309.out (fun _ hk => ⟨(by first|exact hk.2.2.1|(have hq_:=hk;simp only [ne_eq] at hq_ ⊢;simp only [hq_,k8_,and_self])),(by first|exact hk.2.2.2.2|(have hq_:=hk;simp only [ne_eq] at hq_ ⊢;simp only [hq_,k8_,and_self]))⟩)⟩,⟨by (with_reducible repeat (first|apply k1_|apply k2_|apply k3_));exact Kd.R_mono HO327.out (fun _ hk => ⟨(by first|exact hk.1|(have hq_:=hk;simp only [ne_eq] at hq_ ⊢;simp only [hq_,k8_,and_self])),(by first|exact hk.2.2.2.2|(have hq_:=hk;simp only [ne_eq] at hq_ ⊢;simp only [hq_,k8_,and_self]))⟩)⟩,⟨by (with_reducible repeat (first|apply k1_|apply k2_|apply k3_));exact Kd.R_mono HO339.out (fun _ hk => ⟨(by first|exact hk.1|(have hq_:=hk;simp only [ne_eq] at hq_ ⊢;simp only [hq_,k8_,and_self])),(by first|exact hk.2.2.2.1|(have hq_:=hk;simp only [ne_eq] at hq_ ⊢;simp only [hq_,k8_,and_self]))⟩)⟩,⟨by (with_reducible repeat (first|refine k6_ ?_ _|refine k7_ ?_|refine k5_ ?_ _));exact BK310.out⟩,⟨by (with_reducible repeat (first|refine k6_ ?_ _|refine k7_ ?_|refine k5_ ?_ _));exact BK330.out⟩,⟨by (with_reducible repeat (first|refine k6_ ?_ _|refine k7_ ?_|refine k5_ ?_ _));exact BK342.out⟩,⟨by repeat (first|(with_reducible first|exact HB.out|apply below_alloc|apply pw_below_drewN|apply below_drew1|refine below_set ?_ GE310.out|refine below_set ?_ GE330.out|refine below_set ?_ GE342.out)|exact HB.out)⟩⟩
      ·
       rw [if_neg c39] at H
       have c39b0 : (t328 == (wrap64 ((t311.length : Int) + 2))) = false:=beq_eq_false_iff_ne.mpr c39
       have c39b1 : (t328 != (wrap64 ((t311.length : Int) + 2))) = true:=bne_iff_ne.mpr c39
       have H':=Aside0.mk H
       clear H
       try go_wp2
       have n0_ : Aside0 (Kd.R (Kd.int .u8) 5 ((((w33.setCell ⟨gb342,0,none⟩ (.int .i64 t334)).setCell ⟨gb342,1,none⟩ (.int .i64 t335)).setCell ⟨gb342,2,none⟩ (.int .i64 t336)).setCell ⟨gb342,3,none⟩ (.slice Ao37 t337.length co37)) w.heap.size (fun k_ => some k_ ≠ (.slice Ao22 t311.length co22 : Value).ownBlock ∧ some k_ ≠ (.slice Ao23 y319.length co23 : Value).ownBlock ∧ some k_ ≠ (.slice Ao28 t325.length co28 : Value).ownBlock ∧ some k_ ≠ (.slice Ao31 y331.length co31 : Value).ownBlock ∧ some k_ ≠ (.slice Ao37 t337.length co37 : Value).ownBlock) (.slice Ao15 t307.length co15) t307):=⟨by (with_reducible repeat (first|apply k1_|apply k2_|apply k3_));exact Kd.R_mono (k4_ (p:=⟨gb342,3,none⟩) (k4_ (p:=⟨gb342,2,none⟩) (k4_ (p:=⟨gb342,1,none⟩) (k4_ (p:=⟨gb342,0,none⟩) (Kd.R_types HO309.out BK342.out (by decide)) (fun _ hk => hk.2) (.int .i64 t334)) (fun _ hk => hk.2) (.int .i64 t335)) (fun _ hk => hk.2) (.int .i64 t336)) (fun _ hk => hk.2) (.slice Ao37 t337.length co37)) (fun _ hk => ⟨(by first|exact hk.1.1.1.1.1|(have hq_:=hk;simp only [ne_eq] at hq_ ⊢;simp only [hq_,k8_,and_self])),⟨(by first|exact hk.1.1.1.1.2|(have hq_:=hk;simp only [ne_eq] at hq_ ⊢;simp only [hq_,k8_,and_self])),⟨(by first|exact hk.1.1.1.2|(have hq_:=hk;simp only [ne_eq] at hq_ ⊢;simp only [hq_,k8_,and_self])),⟨(by first|exact hk.1.1.2|(have hq_:=hk;simp only [ne_eq] at hq_ ⊢;simp only [hq_,k8_,and_self])),(by first|exact hk.1.2|(have hq_:=hk;simp only [ne_eq] at hq_ ⊢;simp only [hq_,k8_,and_self]))⟩⟩⟩⟩)⟩
       have n1_ : Aside0 (Kd.R (Kd.int .u8) 5 ((((w33.setCell ⟨gb342,0,none⟩ (.int .i64 t334)).setCell ⟨gb342,1,none⟩ (.int .i64 t335)).setCell ⟨gb342,2,none⟩ (.int .i64 t336)).setCell ⟨gb342,3,none⟩ (.slice Ao37 t337.length co37)) w.heap.size (fun k_ => some k_ ≠ (.slice Ao15 t307.length co15 : Value).ownBlock ∧ some k_ ≠ (.slice Ao23 y319.length co23 : Value).ownBlock ∧ some k_ ≠ (.slice Ao28 t325.length co28 : Value).ownBlock ∧ some k_ ≠ (.slice Ao31 y331.length co31 : Value).ownBlock ∧ some k_ ≠ (.slice Ao37 t337.length co37 : Value).ownBlock) (.slice Ao22 t311.length co22) t311):=⟨by (with_reducible repeat (first|apply k1_|apply k2_|apply k3_));exact Kd.R_mono (k4_ (p:=⟨gb342,3,none⟩) (k4_ (p:=⟨gb342,2,none⟩) (k4_ (p:=⟨gb342,1,none⟩) (k4_ (p:=⟨gb342,0,none⟩) (Kd.R_types HO313.out BK342.out (by decide)) (fun _ hk => hk.2) (.int .i64 t334)) (fun _ hk => hk.2) (.int .i64 t335)) (fun _ hk => hk.2) (.int .i64 t336)) (fun _ hk => hk.2) (.slice Ao37 t337.length co37)) (fun _ hk => ⟨(by first|exact hk.1.1.1.1.1|(have hq_:=hk;simp only [ne_eq] at hq_ ⊢;simp only [hq_,k8_,and_self])),⟨(by first|exact hk.1.1.1.1.2|(have hq_:=hk;simp only [ne_eq] at hq_ ⊢;simp only [hq_,k8_,and_self])),⟨(by first|exact hk.1.1.1.2|(have hq_:=hk;simp only [ne_eq] at hq_ ⊢;simp only [hq_,k8_,and_self])),⟨(by first|exact hk.1.1.2|(have hq_:=hk;simp only [ne_eq] at hq_ ⊢;simp only [hq_,k8_,and_self])),(by first|exact hk.1.2|(have hq_:=hk;simp only [ne_eq] at hq_ ⊢;simp only [hq_,k8_,and_self]))⟩⟩⟩⟩)⟩
       have n2_ : Aside0 (Kd.R (Kd.int .u8) 5 ((((w33.setCell ⟨gb342,0,none⟩ (.int .i64 t334)).setCell ⟨gb342,1,none⟩ (.int .i64 t335)).setCell ⟨gb342,2,none⟩ (.int .i64 t336)).setCell ⟨gb342,3,none⟩ (.slice Ao37 t337.length co37)) w.heap.size (fun k_ => some k_ ≠ (.slice Ao15 t307.length co15 : Value).ownBlock ∧ some k_ ≠ (.slice Ao22 t311.length co22 : Value).ownBlock ∧ some k_ ≠ (.slice Ao28 t325.length co28 : Value).ownBlock ∧ some k_ ≠ (.slice Ao31 y331.length co31 : Value).ownBlock ∧ some k_ ≠ (.slice Ao37 t337.length co37 : Value).ownBlock) (.slice Ao23 y319.length co23) y319):=⟨by (with_reducible repeat (first|apply k1_|apply k2_|apply k3_));exact Kd.R_mono (k4_ (p:=⟨gb342,3,none⟩) (k4_ (p:=⟨gb342,2,none⟩) (k4_ (p:=⟨gb342,1,none⟩) (k4_ (p:=⟨gb342,0,none⟩) (Kd.R_types HO321.out BK342.out (by decide)) (fun _ hk => hk.2) (.int .i64 t334)) (fun _ hk => hk.2) (.int .i64 t335)) (fun _ hk => hk.2) (.int .i64 t336)) (fun _ hk => hk.2) (.slice Ao37 t337.length co37)) (fun _ hk => ⟨(by first|exact hk.1.1.1.1.1|(have hq_:=hk;simp only [ne_eq] at hq_ ⊢;simp only [hq_,k8_,and_self])),⟨(by first|exact hk.1.1.1.1.2|(have hq_:=hk;simp only [ne_eq] at hq_ ⊢;simp only [hq_,k8_,and_self])),⟨(by first|exact hk.1.1.1.2|(have hq_:=hk;simp only [ne_eq] at hq_ ⊢;simp only [hq_,k8_,and_self])),⟨(by first|exact hk.1.1.2|(have hq_:=hk;simp only [ne_eq] at hq_ ⊢;simp only [hq_,k8_,and_self])),(by first|exact hk.1.2|(have hq_:=hk;simp only [ne_eq] at hq_ ⊢;simp only [hq_,k8_,and_self]))⟩⟩⟩⟩)⟩
       have n3_ : Aside0 (Kd.R (Kd.int .u8) 5 ((((w33.setCell ⟨gb342,0,none⟩ (.int .i64 t334)).setCell ⟨gb342,1,none⟩ (.int .i64 t335)).setCell ⟨gb342,2,none⟩ (.int .i64 t336)).setCell ⟨gb342,3,none⟩ (.slice Ao37 t337.length co37)) w.heap.size (fun k_ => some k_ ≠ (.slice Ao15 t307.length co15 : Value).ownBlock ∧ some k_ ≠ (.slice Ao22 t311.length co22 : Value).ownBlock ∧ some k_ ≠ (.slice Ao23 y319.length co23 : Value).ownBlock ∧ some k_ ≠ (.slice Ao31 y331.length co31 : Value).ownBlock ∧ some k_ ≠ (.slice Ao37 t337.length co37 : Value).ownBlock) (.slice Ao28 t325.length co28) t325):=⟨by (with_reducible repeat (first|apply k1_|apply k2_|apply k3_));exact Kd.R_mono (k4_ (p:=⟨gb342,3,none⟩) (k4_ (p:=⟨gb342,2,none⟩) (k4_ (p:=⟨gb342,1,none⟩) (k4_ (p:=⟨gb342,0,none⟩) (Kd.R_types HO327.out BK342.out (by decide)) (fun _ hk => hk.2) (.int .i64 t334)) (fun _ hk => hk.2) (.int .i64 t335)) (fun _ hk => hk.2) (.int .i64 t336)) (fun _ hk => hk.2) (.slice Ao37 t337.length co37)) (fun _ hk => ⟨(by first|exact hk.1.1.1.1.1.2|(have hq_:=hk;simp only [ne_eq] at hq_ ⊢;simp only [hq_,k8_,and_self])),⟨(by first|exact hk.1.1.1.1.2|(have hq_:=hk;simp only [ne_eq] at hq_ ⊢;simp only [hq_,k8_,and_self])),⟨(by first|exact hk.1.1.1.2|(have hq_:=hk;simp only [ne_eq] at hq_ ⊢;simp only [hq_,k8_,and_self])),⟨(by first|exact hk.1.1.2|(have hq_:=hk;simp only [ne_eq] at hq_ ⊢;simp only [hq_,k8_,and_self])),(by first|exact hk.1.2|(have hq_:=hk;simp only [ne_eq] at hq_ ⊢;simp only [hq_,k8_,and_self]))⟩⟩⟩⟩)⟩
       have n4_ : Aside0 (Kd.R (Kd.int .u8) 5 ((((w33.setCell ⟨gb342,0,none⟩ (.int .i64 t334)).setCell ⟨gb342,1,none⟩ (.int .i64 t335)).setCell ⟨gb342,2,none⟩ (.int .i64 t336)).setCell ⟨gb342,3,none⟩ (.slice Ao37 t337.length co37)) w.heap.size (fun k_ => some k_ ≠ (.slice Ao15 t307.length co15 : Value).ownBlock ∧ some k_ ≠ (.slice Ao22 t311.length co22 : Value).ownBlock ∧ some k_ ≠ (.slice Ao23 y319.length co23 : Value).ownBlock ∧ some k_ ≠ (.slice Ao28 t325.length co28 : Value).ownBlock ∧ some k_ ≠ (.slice Ao37 t337.length co37 : Value).ownBlock) (.slice Ao31 y331.length co31) y331):=⟨by (with_reducible repeat (first|apply k1_|apply k2_|apply k3_));exact Kd.R_mono (k4_ (p:=⟨gb342,3,none⟩) (k4_ (p:=⟨gb342,2,none⟩) (k4_ (p:=⟨gb342,1,none⟩) (k4_ (p:=⟨gb342,0,none⟩) (Kd.R_types HO333.out BK342.out (by decide)) (fun _ hk => hk.2) (.int .i64 t334)) (fun _ hk => hk.2) (.int .i64 t335)) (fun _ hk => hk.2) (.int .i64 t336)) (fun _ hk => hk.2) (.slice Ao37 t337.length co37)) (fun _ hk => ⟨(by first|exact hk.1.1.1.1.1.2|(have hq_:=hk;simp only [ne_eq] at hq_ ⊢;simp only [hq_,k8_,and_self])),⟨(by first|exact hk.1.1.1.1.2|(have hq_:=hk;simp only [ne_eq] at hq_ ⊢;simp only [hq_,k8_,and_self])),⟨(by first|exact hk.1.1.1.2|(have hq_:=hk;simp only [ne_eq] at hq_ ⊢;simp only [hq_,k8_,and_self])),⟨(by first|exact hk.1.1.2|(have hq_:=hk;simp only [ne_eq] at hq_ ⊢;simp only [hq_,k8_,and_self])),(by first|exact hk.1.2|(have hq_:=hk;simp only [ne_eq] at hq_ ⊢;simp only [hq_,k8_,and_self]))⟩⟩⟩⟩)⟩
       have n5_ : Aside0 (Kd.R (Kd.int .u8) 5 ((((w33.setCell ⟨gb342,0,none⟩ (.int .i64 t334)).setCell ⟨gb342,1,none⟩ (.int .i64 t335)).setCell ⟨gb342,2,none⟩ (.int .i64 t336)).setCell ⟨gb342,3,none⟩ (.slice Ao37 t337.length co37)) w.heap.size (fun k_ => some k_ ≠ (.slice Ao15 t307.length co15 : Value).ownBlock ∧ some k_ ≠ (.slice Ao22 t311.length co22 : Value).ownBlock ∧ some k_ ≠ (.slice Ao23 y319.length co23 : Value).ownBlock ∧ some k_ ≠ (.slice Ao28 t325.length co28 : Value).ownBlock ∧ some k_ ≠ (.slice Ao31 y331.length co31 : Value).ownBlock) (.slice Ao37 t337.length co37) t337):=⟨by (with_reducible repeat (first|apply k1_|apply k2_|apply k3_));exact Kd.R_mono (k4_ (p:=⟨gb342,3,none⟩) (k4_ (p:=⟨gb342,2,none⟩) (k4_ (p:=⟨gb342,1,none⟩) (k4_ (p:=⟨gb342,0,none⟩) (Kd.R_types HO339.out BK342.out (by decide)) (fun _ hk => hk.2) (.int .i64 t334)) (fun _ hk => hk.2) (.int .i64 t335)) (fun _ hk => hk.2) (.int .i64 t336)) (fun _ hk => hk.2) (.slice Ao37 t337.length co37)) (fun _ hk => ⟨(by first|exact hk.1.1.1.1.1.2|(have hq_:=hk;simp only [ne_eq] at hq_ ⊢;simp only [hq_,k8_,and_self])),⟨(by first|exact hk.1.1.1.1.2|(have hq_:=hk;simp only [ne_eq] at hq_ ⊢;simp only [hq_,k8_,and_self])),⟨(by first|exact hk.1.1.1.2|(have hq_:=hk;simp only [ne_eq] at hq_ ⊢;simp only [hq_,k8_,and_self])),⟨(by first|exact hk.1.1.2|(have hq_:=hk;simp only [ne_eq] at hq_ ⊢;simp only [hq_,k8_,and_self])),(by first|exact hk.1.2|(have hq_:=hk;simp only [ne_eq] at hq_ ⊢;simp only [hq_,k8_,and_self]))⟩⟩⟩⟩)⟩
       have n6_ : Aside0 (((((w33.setCell ⟨gb342,0,none⟩ (.int .i64 t334)).setCell ⟨gb342,1,none⟩ (.int .i64 t335)).setCell ⟨gb342,2,none⟩ (.int .i64 t336)).setCell ⟨gb342,3,none⟩ (.slice Ao37 t337.length co37)).heap[gb310]? = some (.cells #[.int .i64 t304,.int .i64 t305,.int .i64 t306,.slice Ao15 t307.length co15] 59 (0,0))):=⟨by (with_reducible repeat (first|refine k6_ ?_ _|refine k7_ ?_|refine k5_ ?_ _));refine blk_far ?_ NB310_342.out _;(with_reducible repeat (first|refine k6_ ?_ _|refine k7_ ?_|refine k5_ ?_ _));refine blk_far ?_ NB310_342.out _;(with_reducible repeat (first|refine k6_ ?_ _|refine k7_ ?_|refine k5_ ?_ _));refine blk_far ?_ NB310_342.out _;(with_reducible repeat (first|refine k6_ ?_ _|refine k7_ ?_|refine k5_ ?_ _));refine blk_far ?_ NB310_342.out _;(with_reducible repeat (first|refine k6_ ?_ _|refine k7_ ?_|refine k5_ ?_ _));exact BK310.out⟩
       have n7_ : Aside0 (((((w33.setCell ⟨gb342,0,none⟩ (.int .i64 t334)).setCell ⟨gb342,1,none⟩ (.int .i64 t335)).setCell ⟨gb342,2,none⟩ (.int .i64 t336)).setCell ⟨gb342,3,none⟩ (.slice Ao37 t337.length co37)).heap[gb330]? = some (.cells #[.int .i64 t322,.int .i64 t323,.int .i64 t324,.slice Ao28 t325.length co28] 59 (0,0))):=⟨by (with_reducible repeat (first|refine k6_ ?_ _|refine k7_ ?_|refine k5_ ?_ _));refine blk_far ?_ NB330_342.out _;(with_reducible repeat (first|refine k6_ ?_ _|refine k7_ ?_|refine k5_ ?_ _));refine blk_far ?_ NB330_342.out _;(with_reducible repeat (first|refine k6_ ?_ _|refine k7_ ?_|refine k5_ ?_ _));refine blk_far ?_ NB330_342.out _;(with_reducible repeat (first|refine k6_ ?_ _|refine k7_ ?_|refine k5_ ?_ _));refine blk_far ?_ NB330_342.out _;(with_reducible repeat (first|refine k6_ ?_ _|refine k7_ ?_|refine k5_ ?_ _));exact BK330.out⟩
       have n8_ : Aside0 (((((w33.setCell ⟨gb342,0,none⟩ (.int .i64 t334)).setCell ⟨gb342,1,none⟩ (.int .i64 t335)).setCell ⟨gb342,2,none⟩ (.int .i64 t336)).setCell ⟨gb342,3,none⟩ (.slice Ao37 t337.length co37)).heap[gb342]? = some (.cells #[.int .i64 t334,.int .i64 t335,.int .i64 t336,.slice Ao37 t337.length co37] 59 (0,0))):=⟨by (with_reducible repeat (first|refine k6_ ?_ _|refine k7_ ?_|refine k5_ ?_ _));refine blk_put (cs:=#[.int .i64 t334,.int .i64 t335,.int .i64 t336,.slice none 0 0]) ?_ 3 _ rfl;(with_reducible repeat (first|refine k6_ ?_ _|refine k7_ ?_|refine k5_ ?_ _));refine blk_put (cs:=#[.int .i64 t334,.int .i64 t335,.int .i64 0,.slice none 0 0]) ?_ 2 _ rfl;(with_reducible repeat (first|refine k6_ ?_ _|refine k7_ ?_|refine k5_ ?_ _));refine blk_put (cs:=#[.int .i64 t334,.int .i64 0,.int .i64 0,.slice none 0 0]) ?_ 1 _ rfl;(with_reducible repeat (first|refine k6_ ?_ _|refine k7_ ?_|refine k5_ ?_ _));refine blk_put (cs:=#[.int .i64 0,.int .i64 0,.int .i64 0,.slice none 0 0]) ?_ 0 _ rfl;(with_reducible repeat (first|refine k6_ ?_ _|refine k7_ ?_|refine k5_ ?_ _));exact BK342.out⟩
       have n9_ : Aside0 (Below w.heap.size w ((((w33.setCell ⟨gb342,0,none⟩ (.int .i64 t334)).setCell ⟨gb342,1,none⟩ (.int .i64 t335)).setCell ⟨gb342,2,none⟩ (.int .i64 t336)).setCell ⟨gb342,3,none⟩ (.slice Ao37 t337.length co37))):=⟨by repeat (first|(with_reducible first|exact HB.out|apply below_alloc|apply pw_below_drewN|apply below_drew1|refine below_set ?_ GE310.out|refine below_set ?_ GE330.out|refine below_set ?_ GE342.out)|exact HB.out)⟩
       (try clear HO309)
       (try clear HO313)
       (try clear HO321)
       (try clear HO327)
       (try clear HO333)
       (try clear HO339)
       (try clear BK310)
       (try clear BK330)
       (try clear BK342)
       (try clear HB)
       generalize ((((w33.setCell ⟨gb342,0,none⟩ (.int .i64 t334)).setCell ⟨gb342,1,none⟩ (.int .i64 t335)).setCell ⟨gb342,2,none⟩ (.int .i64 t336)).setCell ⟨gb342,3,none⟩ (.slice Ao37 t337.length co37)) = w60 at n0_ n1_ n2_ n3_ n4_ n5_ n6_ n7_ n8_ n9_ ⊢
       have HO309:=n0_
       have HO313:=n1_
       have HO321:=n2_
       have HO327:=n3_
       have HO333:=n4_
       have HO339:=n5_
       have BK310:=n6_
       have BK330:=n7_
       have BK342:=n8_
       have HB:=n9_
       clear n0_ n1_ n2_ n3_ n4_ n5_ n6_ n7_ n8_ n9_
       have n0_:=Aside0.mk (k3_ HO309.out)
       have n1_:=Aside0.mk (k3_ HO313.out)
       have n2_:=Aside0.mk (k3_ HO321.out)
       have n3_:=Aside0.mk (k3_ HO327.out)
       have n4_:=Aside0.mk (k3_ HO333.out)
       have n5_:=Aside0.mk (k3_ HO339.out)
       have n6_:=Aside0.mk (k7_ BK310.out)
       have n7_:=Aside0.mk (k7_ BK330.out)
       have n8_:=Aside0.mk (k7_ BK342.out)
       have n9_:=Aside0.mk (below_drew1 HB.out)
       clear HO309
       clear HO313
       clear HO321
       clear HO327
       clear HO333
       clear HO339
       clear BK310
       clear BK330
       clear BK342
       clear HB
       have HO309:=n0_
       have HO313:=n1_
       have HO321:=n2_
       have HO327:=n3_
       have HO333:=n4_
       have HO339:=n5_
       have BK310:=n6_
       have BK330:=n7_
       have BK342:=n8_
       have HB:=n9_
       clear n0_ n1_ n2_ n3_ n4_ n5_ n6_ n7_ n8_ n9_
       refine start_ (n:=35) (S:=fun w' => True) (ds:=[]) #[Z,Z,Z,Z,Z,Z,Z,Z,Z,Z,Z,Z,Z,Z,Z,Z,Z,Z,Z,Z,Z,Z,Z,Z,Z,Z,Z,Z,Z,Z,Z,Z,Z,Z,Z] (by kernel_rfl) rfl rfl trivial (fun hHeld => ?_);refine with_tabW laws_FnOneFrame.tab9 laws_FnOneFrame.bits9 (fun HT_ HW_ => ?_)
       generalize w60.drew = w61 at HO309 HO313 HO321 HO327 HO333 HO339 BK310 BK330 BK342 HB hHeld ⊢
       refine pure_ (i:=0) (N:=some 42) (v:=?_) (a':=?_) #[Y,Z,Z,Z,Z,Z,Z,Z,Z,Z,Z,Z,Z,Z,Z,Z,Z,Z,Z,Z,Z,Z,Z,Z,Z,Z,Z,Z,Z,Z,Z,Z,Z,Z,Z] rfl rfl (any_of HT_.out (by kernel_rfl)) (fun _ _ _ h => h) (Or.inl ⟨by rfl,?_⟩) ?_ ?_
       rotate_left
       ·
        intro w'
        go_simp
        with_reducible rfl
       rotate_left
       ·
        simp only [Act.put,lA_,lB_,lC_,i64_w,i32_w]
        rfl
       refine pure_ (i:=1) (N:=some 43) (v:=?_) (a':=?_) #[Y,Y,Z,Z,Z,Z,Z,Z,Z,Z,Z,Z,Z,Z,Z,Z,Z,Z,Z,Z,Z,Z,Z,Z,Z,Z,Z,Z,Z,Z,Z,Z,Z,Z,Z] rfl rfl (any_of HT_.out (by kernel_rfl)) (fun _ _ _ h => h) (Or.inl ⟨by rfl,?_⟩) ?_ ?_
       rotate_left
       ·
        intro w'
        go_simp
        with_reducible rfl
       rotate_left
       ·
        simp only [Act.put,lA_,lB_,lC_,i64_w,i32_w]
        rfl
       refine pure_ (i:=2) (N:=some 44) (v:=?_) (a':=?_) #[Y,Y,Y,Z,Z,Z,Z,Z,Z,Z,Z,Z,Z,Z,Z,Z,Z,Z,Z,Z,Z,Z,Z,Z,Z,Z,Z,Z,Z,Z,Z,Z,Z,Z,Z] rfl rfl (any_of HT_.out (by kernel_rfl)) (fun _ _ _ h => h) (Or.inl ⟨by rfl,?_⟩) ?_ ?_
       rotate_left
       ·
        intro w'
        go_simp
        with_reducible rfl
       rotate_left
       ·
        simp only [Act.put,lA_,lB_,lC_,i64_w,i32_w]
        rfl
       refine pure_ (i:=3) (N:=some 45) (v:=?_) (a':=?_) #[Y,Y,Y,Y,Z,Z,Z,Z,Z,Z,Z,Z,Z,Z,Z,Z,Z,Z,Z,Z,Z,Z,Z,Z,Z,Z,Z,Z,Z,Z,Z,Z,Z,Z,Z] rfl rfl (any_of HT_.out (by kernel_rfl)) (fun _ _ _ h => h) (Or.inl ⟨by rfl,?_⟩) ?_ ?_
       rotate_left
       ·
        intro w'
        go_simp
        with_reducible rfl
       rotate_left
       ·
        simp only [Act.put,lA_,lB_,lC_,i64_w,i32_w]
        rfl
       refine pure_ (i:=4) (N:=some 46) (v:=?_) (a':=?_) #[Y,Y,Y,Y,Y,Z,Z,Z,Z,Z,Z,Z,Z,Z,Z,Z,Z,Z,Z,Z,Z,Z,Z,Z,Z,Z,Z,Z,Z,Z,Z,Z,Z,Z,Z] rfl rfl (any_of HT_.out (by kernel_rfl)) (fun _ _ _ h => h) (Or.inl ⟨by rfl,?_⟩) ?_ ?_
       rotate_left
       ·
        intro w'
        go_simp
        with_reducible rfl
       rotate_left
       ·
        simp only [Act.put,lA_,lB_,lC_,i64_w,i32_w]
        rfl
       refine pure_ (i:=5) (N:=some 47) (v:=?_) (a':=?_) #[Y,Y,Y,Y,Y,Y,Z,Z,Z,Z,Z,Z,Z,Z,Z,Z,Z,Z,Z,Z,Z,Z,Z,Z,Z,Z,Z,Z,Z,Z,Z,Z,Z,Z,Z] rfl rfl (any_of HT_.out (by kernel_rfl)) (fun _ _ _ h => h) (Or.inl ⟨by rfl,?_⟩) ?_ ?_
       rotate_left
       ·
        intro w'
        go_simp
        with_reducible rfl
       rotate_left
       ·
        simp only [Act.put,lA_,lB_,lC_,i64_w,i32_w]
        rfl
       refine pure_ (i:=6) (N:=some 48) (v:=?_) (a':=?_) #[Y,Y,Y,Y,Y,Y,Y,Z,Z,Z,Z,Z,Z,Z,Z,Z,Z,Z,Z,Z,Z,Z,Z,Z,Z,Z,Z,Z,Z,Z,Z,Z,Z,Z,Z] rfl rfl (any_of HT_.out (by kernel_rfl)) (fun _ _ _ h => h) (Or.inl ⟨by rfl,?_⟩) ?_ ?_
       rotate_left
       ·
        intro w'
        go_simp
        with_reducible rfl
       rotate_left
       ·
        simp only [Act.put,lA_,lB_,lC_,i64_w,i32_w]
        rfl
       refine pure_ (i:=7) (N:=some 49) (v:=?_) (a':=?_) #[Y,Y,Y,Y,Y,Y,Y,Y,Z,Z,Z,Z,Z,Z,Z,Z,Z,Z,Z,Z,Z,Z,Z,Z,Z,Z,Z,Z,Z,Z,Z,Z,Z,Z,Z] rfl rfl (any_of HT_.out (by kernel_rfl)) (fun _ _ _ h => h) (Or.inl ⟨by rfl,?_⟩) ?_ ?_
       rotate_left
       ·
        intro w'
        go_simp
        with_reducible rfl
       rotate_left
       ·
        simp only [Act.put,lA_,lB_,lC_,i64_w,i32_w]
        rfl
       refine pure_ (i:=8) (N:=some 50) (v:=?_) (a':=?_) #[Y,Y,Y,Y,Y,Y,Y,Y,Y,Z,Z,Z,Z,Z,Z,Z,Z,Z,Z,Z,Z,Z,Z,Z,Z,Z,Z,Z,Z,Z,Z,Z,Z,Z,Z] rfl rfl (any_of HT_.out (by kernel_rfl)) (fun _ _ _ h => h) (Or.inl ⟨by rfl,?_⟩) ?_ ?_
       rotate_left
       ·
        intro w'
        go_simp
        with_reducible rfl
       rotate_left
       ·
        simp only [Act.put,lA_,lB_,lC_,i64_w,i32_w]
        rfl
       refine pure_ (i:=9) (N:=some 51) (v:=?_) (a':=?_) #[Y,Y,Y,Y,Y,Y,Y,Y,Y,Y,Z,Z,Z,Z,Z,Z,Z,Z,Z,Z,Z,Z,Z,Z,Z,Z,Z,Z,Z,Z,Z,Z,Z,Z,Z] rfl rfl (any_of HT_.out (by kernel_rfl)) (fun _ _ _ h => h) (Or.inl ⟨by rfl,?_⟩) ?_ ?_
       rotate_left
       ·
        intro w'
        go_simp
        with_reducible rfl
       rotate_left
       ·
        simp only [Act.put,lA_,lB_,lC_,i64_w,i32_w]
        rfl
       refine pure_ (i:=10) (N:=some 52) (v:=undef) (a':=?_) #[Y,Y,Y,Y,Y,Y,Y,Y,Y,Y,Y,Z,Z,Z,Z,Z,Z,Z,Z,Z,Z,Z,Z,Z,Z,Z,Z,Z,Z,Z,Z,Z,Z,Z,Z] rfl rfl (any_of HT_.out (by kernel_rfl)) (fun _ _ _ h => h) (Or.inr ⟨by rfl,rfl⟩) ?_ ?_
       rotate_left
       ·
        simp only [Act.put,lA_,lB_,lC_,i64_w,i32_w]
        rfl
       refine pure_ (i:=11) (N:=some 53) (v:=undef) (a':=?_) #[Y,Y,Y,Y,Y,Y,Y,Y,Y,Y,Y,Y,Z,Z,Z,Z,Z,Z,Z,Z,Z,Z,Z,Z,Z,Z,Z,Z,Z,Z,Z,Z,Z,Z,Z] rfl rfl (any_of HT_.out (by kernel_rfl)) (fun _ _ _ h => h) (Or.inr ⟨by rfl,rfl⟩) ?_ ?_
       rotate_left
       ·
        simp only [Act.put,lA_,lB_,lC_,i64_w,i32_w]
        rfl
       refine pure_ (i:=12) (N:=some 54) (v:=undef) (a':=?_) #[Y,Y,Y,Y,Y,Y,Y,Y,Y,Y,Y,Y,Y,Z,Z,Z,Z,Z,Z,Z,Z,Z,Z,Z,Z,Z,Z,Z,Z,Z,Z,Z,Z,Z,Z] rfl rfl (any_of HT_.out (by kernel_rfl)) (fun _ _ _ h => h) (Or.inr ⟨by rfl,rfl⟩) ?_ ?_
       rotate_left
       ·
        simp only [Act.put,lA_,lB_,lC_,i64_w,i32_w]
        rfl
       refine pure_ (i:=13) (N:=some 55) (v:=?_) (a':=?_) #[Y,Y,Y,Y,Y,Y,Y,Y,Y,Y,Y,Y,Y,Y,Z,Z,Z,Z,Z,Z,Z,Z,Z,Z,Z,Z,Z,Z,Z,Z,Z,Z,Z,Z,Z] rfl rfl (any_of HT_.out (by kernel_rfl)) (fun _ _ _ h => h) (Or.inl ⟨by rfl,?_⟩) ?_ ?_
       rotate_left
       ·
        intro w'
        go_simp
        with_reducible rfl
       rotate_left
       ·
        simp only [Act.put,lA_,lB_,lC_,i64_w,i32_w]
        rfl
       refine pure_ (i:=14) (N:=some 56) (v:=?_) (a':=?_) #[Y,Y,Y,Y,Y,Y,Y,Y,Y,Y,Y,Y,Y,Y,Y,Z,Z,Z,Z,Z,Z,Z,Z,Z,Z,Z,Z,Z,Z,Z,Z,Z,Z,Z,Z] rfl rfl (any_of HT_.out (by kernel_rfl)) (fun _ _ _ h => h) (Or.inl ⟨by rfl,?_⟩) ?_ ?_
       rotate_left
       ·
        intro w'
        go_simp
        with_reducible rfl
       rotate_left
       ·
        simp only [Act.put,lA_,lB_,lC_,i64_w,i32_w]
        rfl
       refine pure_ (i:=15) (N:=some 57) (v:=undef) (a':=?_) #[Y,Y,Y,Y,Y,Y,Y,Y,Y,Y,Y,Y,Y,Y,Y,Y,Z,Z,Z,Z,Z,Z,Z,Z,Z,Z,Z,Z,Z,Z,Z,Z,Z,Z,Z] rfl rfl (any_of HT_.out (by kernel_rfl)) (fun _ _ _ h => h) (Or.inr ⟨by rfl,rfl⟩) ?_ ?_
       rotate_left
       ·
        simp only [Act.put,lA_,lB_,lC_,i64_w,i32_w]
        rfl
       refine pure_ (i:=16) (N:=some 58) (v:=undef) (a':=?_) #[Y,Y,Y,Y,Y,Y,Y,Y,Y,Y,Y,Y,Y,Y,Y,Y,Y,Z,Z,Z,Z,Z,Z,Z,Z,Z,Z,Z,Z,Z,Z,Z,Z,Z,Z] rfl rfl (any_of HT_.out (by kernel_rfl)) (fun _ _ _ h => h) (Or.inr ⟨by rfl,rfl⟩) ?_ ?_
       rotate_left
       ·
        simp only [Act.put,lA_,lB_,lC_,i64_w,i32_w]
        rfl
       refine pure_ (i:=17) (N:=some 59) (v:=undef) (a':=?_) #[Y,Y,Y,Y,Y,Y,Y,Y,Y,Y,Y,Y,Y,Y,Y,Y,Y,Y,Z,Z,Z,Z,Z,Z,Z,Z,Z,Z,Z,Z,Z,Z,Z,Z,Z] rfl rfl (any_of HT_.out (by kernel_rfl)) (fun _ _ _ h => h) (Or.inr ⟨by rfl,rfl⟩) ?_ ?_
       rotate_left
       ·
        simp only [Act.put,lA_,lB_,lC_,i64_w,i32_w]
        rfl
       refine pure_ (i:=18) (N:=some 60) (v:=undef) (a':=?_) #[Y,Y,Y,Y,Y,Y,Y,Y,Y,Y,Y,Y,Y,Y,Y,Y,Y,Y,Y,Z,Z,Z,Z,Z,Z,Z,Z,Z,Z,Z,Z,Z,Z,Z,Z] rfl rfl (any_of HT_.out (by kernel_rfl)) (fun _ _ _ h => h) (Or.inr ⟨by rfl,rfl⟩) ?_ ?_
       rotate_left
       ·
        simp only [Act.put,lA_,lB_,lC_,i64_w,i32_w]
        rfl
       refine pure_ (i:=19) (N:=some 61) (v:=undef) (a':=?_) #[Y,Y,Y,Y,Y,Y,Y,Y,Y,Y,Y,Y,Y,Y,Y,Y,Y,Y,Y,Y,Z,Z,Z,Z,Z,Z,Z,Z,Z,Z,Z,Z,Z,Z,Z] rfl rfl (any_of HT_.out (by kernel_rfl)) (fun _ _ _ h => h) (Or.inr ⟨by rfl,rfl⟩) ?_ ?_
       rotate_left
       ·
        simp only [Act.put,lA_,lB_,lC_,i64_w,i32_w]
        rfl
       refine pure_ (i:=20) (N:=some 62) (v:=undef) (a':=?_) #[Y,Y,Y,Y,Y,Y,Y,Y,Y,Y,Y,Y,Y,Y,Y,Y,Y,Y,Y,Y,Y,Z,Z,Z,Z,Z,Z,Z,Z,Z,Z,Z,Z,Z,Z] rfl rfl (any_of HT_.out (by kernel_rfl)) (fun _ _ _ h => h) (Or.inr ⟨by rfl,rfl⟩) ?_ ?_
       rotate_left
       ·
        simp only [Act.put,lA_,lB_,lC_,i64_w,i32_w]
        rfl
       refine pure_ (i:=21) (N:=some 63) (v:=undef) (a':=?_) #[Y,Y,Y,Y,Y,Y,Y,Y,Y,Y,Y,Y,Y,Y,Y,Y,Y,Y,Y,Y,Y,Y,Z,Z,Z,Z,Z,Z,Z,Z,Z,Z,Z,Z,Z] rfl rfl (any_of HT_.out (by kernel_rfl)) (fun _ _ _ h => h) (Or.inr ⟨by rfl,rfl⟩) ?_ ?_
       rotate_left
       ·
        simp only [Act.put,lA_,lB_,lC_,i64_w,i32_w]
        rfl
       refine pure_ (i:=22) (N:=some 64) (v:=?_) (a':=?_) #[Y,Y,Y,Y,Y,Y,Y,Y,Y,Y,Y,Y,Y,Y,Y,Y,Y,Y,Y,Y,Y,Y,Y,Z,Z,Z,Z,Z,Z,Z,Z,Z,Z,Z,Z] rfl rfl (any_of HT_.out (by kernel_rfl)) (fun _ _ _ h => h) (Or.inl ⟨by rfl,?_⟩) ?_ ?_
       rotate_left
       ·
        intro w'
        go_simp
        with_reducible rfl
       rotate_left
       ·
        simp only [Act.put,lA_,lB_,lC_,i64_w,i32_w]
        rfl
       refine pure_ (i:=23) (N:=some 65) (v:=?_) (a':=?_) #[Y,Y,Y,Y,Y,Y,Y,Y,Y,Y,Y,Y,Y,Y,Y,Y,Y,Y,Y,Y,Y,Y,Y,Y,Z,Z,Z,Z,Z,Z,Z,Z,Z,Z,Z] rfl rfl (any_of HT_.out (by kernel_rfl)) (fun _ _ _ h => h) (Or.inl ⟨by rfl,?_⟩) ?_ ?_
       rotate_left
       ·
        intro w'
        go_simp
        with_reducible rfl
       rotate_left
       ·
        simp only [Act.put,lA_,lB_,lC_,i64_w,i32_w]
        rfl
       refine pure_ (i:=24) (N:=some 66) (v:=undef) (a':=?_) #[Y,Y,Y,Y,Y,Y,Y,Y,Y,Y,Y,Y,Y,Y,Y,Y,Y,Y,Y,Y,Y,Y,Y,Y,Y,Z,Z,Z,Z,Z,Z,Z,Z,Z,Z] rfl rfl (any_of HT_.out (by kernel_rfl)) (fun _ _ _ h => h) (Or.inr ⟨by rfl,rfl⟩) ?_ ?_
       rotate_left
       ·
        simp only [Act.put,lA_,lB_,lC_,i64_w,i32_w]
        rfl
       refine pure_ (i:=25) (N:=some 67) (v:=undef) (a':=?_) #[Y,Y,Y,Y,Y,Y,Y,Y,Y,Y,Y,Y,Y,Y,Y,Y,Y,Y,Y,Y,Y,Y,Y,Y,Y,Y,Z,Z,Z,Z,Z,Z,Z,Z,Z] rfl rfl (any_of HT_.out (by kernel_rfl)) (fun _ _ _ h => h) (Or.inr ⟨by rfl,rfl⟩) ?_ ?_
       rotate_left
       ·
        simp only [Act.put,lA_,lB_,lC_,i64_w,i32_w]
        rfl
       refine pure_ (i:=26) (N:=some 68) (v:=?_) (a':=?_) #[Y,Y,Y,Y,Y,Y,Y,Y,Y,Y,Y,Y,Y,Y,Y,Y,Y,Y,Y,Y,Y,Y,Y,Y,Y,Y,Y,Z,Z,Z,Z,Z,Z,Z,Z] rfl rfl (any_of HT_.out (by kernel_rfl)) (fun _ _ _ h => h) (Or.inl ⟨by rfl,?_⟩) ?_ ?_
       rotate_left
       ·
        intro w'
        go_simp
        with_reducible rfl
       rotate_left
       ·
        simp only [Act.put,lA_,lB_,lC_,i64_w,i32_w]
        rfl
       refine pure_ (i:=27) (N:=some 69) (v:=?_) (a':=?_) #[Y,Y,Y,Y,Y,Y,Y,Y,Y,Y,Y,Y,Y,Y,Y,Y,Y,Y,Y,Y,Y,Y,Y,Y,Y,Y,Y,Y,Z,Z,Z,Z,Z,Z,Z] rfl rfl (any_of HT_.out (by kernel_rfl)) (fun _ _ _ h => h) (Or.inl ⟨by rfl,?_⟩) ?_ ?_
       rotate_left
       ·
        intro w'
        go_simp
        with_reducible rfl
       rotate_left
       ·
        simp only [Act.put,lA_,lB_,lC_,i64_w,i32_w]
        rfl
       refine pure_ (i:=28) (N:=some 70) (v:=undef) (a':=?_) #[Y,Y,Y,Y,Y,Y,Y,Y,Y,Y,Y,Y,Y,Y,Y,Y,Y,Y,Y,Y,Y,Y,Y,Y,Y,Y,Y,Y,Y,Z,Z,Z,Z,Z,Z] rfl rfl (any_of HT_.out (by kernel_rfl)) (fun _ _ _ h => h) (Or.inr ⟨by rfl,rfl⟩) ?_ ?_
       rotate_left
       ·
        simp only [Act.put,lA_,lB_,lC_,i64_w,i32_w]
        rfl
       refine pure_ (i:=29) (N:=some 71) (v:=undef) (a':=?_) #[Y,Y,Y,Y,Y,Y,Y,Y,Y,Y,Y,Y,Y,Y,Y,Y,Y,Y,Y,Y,Y,Y,Y,Y,Y,Y,Y,Y,Y,Y,Z,Z,Z,Z,Z] rfl rfl (any_of HT_.out (by kernel_rfl)) (fun _ _ _ h => h) (Or.inr ⟨by rfl,rfl⟩) ?_ ?_
       rotate_left
       ·
        simp only [Act.put,lA_,lB_,lC_,i64_w,i32_w]
        rfl
       refine pure_ (i:=30) (N:=some 72) (v:=undef) (a':=?_) #[Y,Y,Y,Y,Y,Y,Y,Y,Y,Y,Y,Y,Y,Y,Y,Y,Y,Y,Y,Y,Y,Y,Y,Y,Y,Y,Y,Y,Y,Y,Y,Z,Z,Z,Z] rfl rfl (any_of HT_.out (by kernel_rfl)) (fun _ _ _ h => h) (Or.inr ⟨by rfl,rfl⟩) ?_ ?_
       rotate_left
       ·
        simp only [Act.put,lA_,lB_,lC_,i64_w,i32_w]
        rfl
       refine pure_ (i:=31) (N:=some 73) (v:=undef) (a':=?_) #[Y,Y,Y,Y,Y,Y,Y,Y,Y,Y,Y,Y,Y,Y,Y,Y,Y,Y,Y,Y,Y,Y,Y,Y,Y,Y,Y,Y,Y,Y,Y,Y,Z,Z,Z] rfl rfl (any_of HT_.out (by kernel_rfl)) (fun _ _ _ h => h) (Or.inr ⟨by rfl,rfl⟩) ?_ ?_
       rotate_left
       ·
        simp only [Act.put,lA_,lB_,lC_,i64_w,i32_w]
        rfl
       refine pure_ (i:=32) (N:=some 74) (v:=undef) (a':=?_) #[Y,Y,Y,Y,Y,Y,Y,Y,Y,Y,Y,Y,Y,Y,Y,Y,Y,Y,Y,Y,Y,Y,Y,Y,Y,Y,Y,Y,Y,Y,Y,Y,Y,Z,Z] rfl rfl (any_of HT_.out (by kernel_rfl)) (fun _ _ _ h => h) (Or.inr ⟨by rfl,rfl⟩) ?_ ?_
       rotate_left
       ·
        simp only [Act.put,lA_,lB_,lC_,i64_w,i32_w]
        rfl
       refine pure_ (i:=33) (N:=some 75) (v:=?_) (a':=?_) #[Y,Y,Y,Y,Y,Y,Y,Y,Y,Y,Y,Y,Y,Y,Y,Y,Y,Y,Y,Y,Y,Y,Y,Y,Y,Y,Y,Y,Y,Y,Y,Y,Y,Y,Z] rfl rfl (any_of HT_.out (by kernel_rfl)) (fun _ _ _ h => h) (Or.inl ⟨by rfl,?_⟩) ?_ ?_
       rotate_left
       ·
        intro w'
        go_simp
        with_reducible rfl
       rotate_left
       ·
        simp only [Act.put,lA_,lB_,lC_,i64_w,i32_w]
        rfl
       refine pure_ (i:=34) (N:=some 2) (v:=?_) (a':=?_) #[Y,Y,Y,Y,Y,Y,Y,Y,Y,Y,Y,Y,Y,Y,Y,Y,Y,Y,Y,Y,Y,Y,Y,Y,Y,Y,Y,Y,Y,Y,Y,Y,Y,Y,Y] rfl rfl (any_of HT_.out (by kernel_rfl)) (fun _ _ _ h => h) (Or.inl ⟨by rfl,?_⟩) ?_ ?_
       rotate_left
       ·
        intro w'
        go_simp
        with_reducible rfl
       rotate_left
       ·
        simp only [Act.put,lA_,lB_,lC_,i64_w,i32_w]
        rfl
       refine done_ (done_of HT_.out (by kernel_rfl)) ?_
       try go_wp2
       go_meet
       case rel => exact ⟨_,(false),(by first|rfl|(simp;done)|(simp [*];done)),H',⟨by first|omega|exact Nat.le_refl _⟩,⟨by (with_reducible repeat (first|apply k1_|apply k2_|apply k3_));exact Kd.R_mono HO309.out (fun _ hk => ⟨(by first|exact hk.2.2.1|(have hq_:=hk;simp only [ne_eq] at hq_ ⊢;simp only [hq_,k8_,and_self])),(by first|exact hk.2.2.2.2|(have hq_:=hk;simp only [ne_eq] at hq_ ⊢;simp only [hq_,k8_,and_self]))⟩)⟩,⟨by (with_reducible repeat (first|apply k1_|apply k2_|apply k3_));exact Kd.R_mono HO327.out (fun _ hk => ⟨(by first|exact hk.1|(have hq_:=hk;simp only [ne_eq] at hq_ ⊢;simp only [hq_,k8_,and_self])),(by first|exact hk.2.2.2.2|(have hq_:=hk;simp only [ne_eq] at hq_ ⊢;simp only [hq_,k8_,and_self]))⟩)⟩,⟨by (with_reducible repeat (first|apply k1_|apply k2_|apply k3_));exact Kd.R_mono HO339.out (fun _ hk => ⟨(by first|exact hk.1|(have hq_:=hk;simp only [ne_eq] at hq_ ⊢;simp only [hq_,k8_,and_self])),(by first|exact hk.2.2.2.1|(have hq_:=hk;simp only [ne_eq] at hq_ ⊢;simp only [hq_,k8_,and_self]))⟩)⟩,⟨by (with_reducible repeat (first|refine k6_ ?_ _|refine k7_ ?_|refine k5_ ?_ _));exact BK310.out⟩,⟨by (with_reducible repeat (first|refine k6_ ?_ _|refine k7_ ?_|refine k5_ ?_ _));exact BK330.out⟩,⟨by (with_reducible repeat (first|refine k6_ ?_ _|refine k7_ ?_|refine k5_ ?_ _));exact BK342.out⟩,⟨by repeat (first|(with_reducible first|exact HB.out|apply below_alloc|apply pw_below_drewN|apply below_drew1|refine below_set ?_ GE310.out|refine below_set ?_ GE330.out|refine below_set ?_ GE342.out)|exact HB.out)⟩⟩
     ·
      rw [if_neg c38] at H
      have c38b0 : (t329 == 0) = false:=beq_eq_false_iff_ne.mpr c38
      have c38b1 : (t329 != 0) = true:=bne_iff_ne.mpr c38
      (first|rw [c38b0]|(simp only [i64_w,i32_w];rw [c38b0])|rw [c38b1]|skip)
      have H':=Aside0.mk H
      clear H
      try go_wp2
      have n0_ : Aside0 (Kd.R (Kd.int .u8) 5 ((((w33.setCell ⟨gb342,0,none⟩ (.int .i64 t334)).setCell ⟨gb342,1,none⟩ (.int .i64 t335)).setCell ⟨gb342,2,none⟩ (.int .i64 t336)).setCell ⟨gb342,3,none⟩ (.slice Ao37 t337.length co37)) w.heap.size (fun k_ => some k_ ≠ (.slice Ao22 t311.length co22 : Value).ownBlock ∧ some k_ ≠ (.slice Ao23 y319.length co23 : Value).ownBlock ∧ some k_ ≠ (.slice Ao28 t325.length co28 : Value).ownBlock ∧ some k_ ≠ (.slice Ao31 y331.length co31 : Value).ownBlock ∧ some k_ ≠ (.slice Ao37 t337.length co37 : Value).ownBlock) (.slice Ao15 t307.length co15) t307):=⟨by (with_reducible repeat (first|apply k1_|apply k2_|apply k3_));exact Kd.R_mono (k4_ (p:=⟨gb342,3,none⟩) (k4_ (p:=⟨gb342,2,none⟩) (k4_ (p:=⟨gb342,1,none⟩) (k4_ (p:=⟨gb342,0,none⟩) (Kd.R_types HO309.out BK342.out (by decide)) (fun _ hk => hk.2) (.int .i64 t334)) (fun _ hk => hk.2) (.int .i64 t335)) (fun _ hk => hk.2) (.int .i64 t336)) (fun _ hk => hk.2) (.slice Ao37 t337.length co37)) (fun _ hk => ⟨(by first|exact hk.1.1.1.1.1|(have hq_:=hk;simp only [ne_eq] at hq_ ⊢;simp only [hq_,k8_,and_self])),⟨(by first|exact hk.1.1.1.1.2|(have hq_:=hk;simp only [ne_eq] at hq_ ⊢;simp only [hq_,k8_,and_self])),⟨(by first|exact hk.1.1.1.2|(have hq_:=hk;simp only [ne_eq] at hq_ ⊢;simp only [hq_,k8_,and_self])),⟨(by first|exact hk.1.1.2|(have hq_:=hk;simp only [ne_eq] at hq_ ⊢;simp only [hq_,k8_,and_self])),(by first|exact hk.1.2|(have hq_:=hk;simp only [ne_eq] at hq_ ⊢;simp only [hq_,k8_,and_self]))⟩⟩⟩⟩)⟩
      have n1_ : Aside0 (Kd.R (Kd.int .u8) 5 ((((w33.setCell ⟨gb342,0,none⟩ (.int .i64 t334)).setCell ⟨gb342,1,none⟩ (.int .i64 t335)).setCell ⟨gb342,2,none⟩ (.int .i64 t336)).setCell ⟨gb342,3,none⟩ (.slice Ao37 t337.length co37)) w.heap.size (fun k_ => some k_ ≠ (.slice Ao15 t307.length co15 : Value).ownBlock ∧ some k_ ≠ (.slice Ao23 y319.length co23 : Value).ownBlock ∧ some k_ ≠ (.slice Ao28 t325.length co28 : Value).ownBlock ∧ some k_ ≠ (.slice Ao31 y331.length co31 : Value).ownBlock ∧ some k_ ≠ (.slice Ao37 t337.length co37 : Value).ownBlock) (.slice Ao22 t311.length co22) t311):=⟨by (with_reducible repeat (first|apply k1_|apply k2_|apply k3_));exact Kd.R_mono (k4_ (p:=⟨gb342,3,none⟩) (k4_ (p:=⟨gb342,2,none⟩) (k4_ (p:=⟨gb342,1,none⟩) (k4_ (p:=⟨gb342,0,none⟩) (Kd.R_types HO313.out BK342.out (by decide)) (fun _ hk => hk.2) (.int .i64 t334)) (fun _ hk => hk.2) (.int .i64 t335)) (fun _ hk => hk.2) (.int .i64 t336)) (fun _ hk => hk.2) (.slice Ao37 t337.length co37)) (fun _ hk => ⟨(by first|exact hk.1.1.1.1.1|(have hq_:=hk;simp only [ne_eq] at hq_ ⊢;simp only [hq_,k8_,and_self])),⟨(by first|exact hk.1.1.1.1.2|(have hq_:=hk;simp only [ne_eq] at hq_ ⊢;simp only [hq_,k8_,and_self])),⟨(by first|exact hk.1.1.1.2|(have hq_:=hk;simp only [ne_eq] at hq_ ⊢;simp only [hq_,k8_,and_self])),⟨(by first|exact hk.1.1.2|(have hq_:=hk;simp only [ne_eq] at hq_ ⊢;simp only [hq_,k8_,and_self])),(by first|exact hk.1.2|(have hq_:=hk;simp only [ne_eq] at hq_ ⊢;simp only [hq_,k8_,and_self]))⟩⟩⟩⟩)⟩
      have n2_ : Aside0 (Kd.R (Kd.int .u8) 5 ((((w33.setCell ⟨gb342,0,none⟩ (.int .i64 t334)).setCell ⟨gb342,1,none⟩ (.int .i64 t335)).setCell ⟨gb342,2,none⟩ (.int .i64 t336)).setCell ⟨gb342,3,none⟩ (.slice Ao37 t337.length co37)) w.heap.size (fun k_ => some k_ ≠ (.slice Ao15 t307.length co15 : Value).ownBlock ∧ some k_ ≠ (.slice Ao22 t311.length co22 : Value).ownBlock ∧ some k_ ≠ (.slice Ao28 t325.length co28 : Value).ownBlock ∧ some k_ ≠ (.slice Ao31 y331.length co31 : Value).ownBlock ∧ some k_ ≠ (.slice Ao37 t337.length co37 : Value).ownBlock) (.slice Ao23 y319.length co23) y319):=⟨by (with_reducible repeat (first|apply k1_|apply k2_|apply k3_));exact Kd.R_mono (k4_ (p:=⟨gb342,3,none⟩) (k4_ (p:=⟨gb342,2,none⟩) (k4_ (p:=⟨gb342,1,none⟩) (k4_ (p:=⟨gb342,0,none⟩) (Kd.R_types HO321.out BK342.out (by decide)) (fun _ hk => hk.2) (.int .i64 t334)) (fun _ hk => hk.2) (.int .i64 t335)) (fun _ hk => hk.2) (.int .i64 t336)) (fun _ hk => hk.2) (.slice Ao37 t337.length co37)) (fun _ hk => ⟨(by first|exact hk.1.1.1.1.1|(have hq_:=hk;simp only [ne_eq] at hq_ ⊢;simp only [hq_,k8_,and_self])),⟨(by first|exact hk.1.1.1.1.2|(have hq_:=hk;simp only [ne_eq] at hq_ ⊢;simp only [hq_,k8_,and_self])),⟨(by first|exact hk.1.1.1.2|(have hq_:=hk;simp only [ne_eq] at hq_ ⊢;simp only [hq_,k8_,and_self])),⟨(by first|exact hk.1.1.2|(have hq_:=hk;simp only [ne_eq] at hq_ ⊢;simp only [hq_,k8_,and_self])),(by first|exact hk.1.2|(have hq_:=hk;simp only [ne_eq] at hq_ ⊢;simp only [hq_,k8_,and_self]))⟩⟩⟩⟩)⟩
      have n3_ : Aside0 (Kd.R (Kd.int .u8) 5 ((((w33.setCell ⟨gb342,0,none⟩ (.int .i64 t334)).setCell ⟨gb342,1,none⟩ (.int .i64 t335)).setCell ⟨gb342,2,none⟩ (.int .i64 t336)).setCell ⟨gb342,3,none⟩ (.slice Ao37 t337.length co37)) w.heap.size (fun k_ => some k_ ≠ (.slice Ao15 t307.length co15 : Value).ownBlock ∧ some k_ ≠ (.slice Ao22 t311.length co22 : Value).ownBlock ∧ some k_ ≠ (.slice Ao23 y319.length co23 : Value).ownBlock ∧ some k_ ≠ (.slice Ao31 y331.length co31 : Value).ownBlock ∧ some k_ ≠ (.slice Ao37 t337.length co37 : Value).ownBlock) (.slice Ao28 t325.length co28) t325):=⟨by (with_reducible repeat (first|apply k1_|apply k2_|apply k3_));exact Kd.R_mono (k4_ (p:=⟨gb342,3,none⟩) (k4_ (p:=⟨gb342,2,none⟩) (k4_ (p:=⟨gb342,1,none⟩) (k4_ (p:=⟨gb342,0,none⟩) (Kd.R_types HO327.out BK342.out (by decide)) (fun _ hk => hk.2) (.int .i64 t334)) (fun _ hk => hk.2) (.int .i64 t335)) (fun _ hk => hk.2) (.int .i64 t336)) (fun _ hk => hk.2) (.slice Ao37 t337.length co37)) (fun _ hk => ⟨(by first|exact hk.1.1.1.1.1.2|(have hq_:=hk;simp only [ne_eq] at hq_ ⊢;simp only [hq_,k8_,and_self])),⟨(by first|exact hk.1.1.1.1.2|(have hq_:=hk;simp only [ne_eq] at hq_ ⊢;simp only [hq_,k8_,and_self])),⟨(by first|exact hk.1.1.1.2|(have hq_:=hk;simp only [ne_eq] at hq_ ⊢;simp only [hq_,k8_,and_self])),⟨(by first|exact hk.1.1.2|(have hq_:=hk;simp only [ne_eq] at hq_ ⊢;simp only [hq_,k8_,and_self])),(by first|exact hk.1.2|(have hq_:=hk;simp only [ne_eq] at hq_ ⊢;simp only [hq_,k8_,and_self]))⟩⟩⟩⟩)⟩
      have n4_ : Aside0 (Kd.R (Kd.int .u8) 5 ((((w33.setCell ⟨gb342,0,none⟩ (.int .i64 t334)).setCell ⟨gb342,1,none⟩ (.int .i64 t335)).setCell ⟨gb342,2,none⟩ (.int .i64 t336)).setCell ⟨gb342,3,none⟩ (.slice Ao37 t337.length co37)) w.heap.size (fun k_ => some k_ ≠ (.slice Ao15 t307.length co15 : Value).ownBlock ∧ some k_ ≠ (.slice Ao22 t311.length co22 : Value).ownBlock ∧ some k_ ≠ (.slice Ao23 y319.length co23 : Value).ownBlock ∧ some k_ ≠ (.slice Ao28 t325.length co28 : Value).ownBlock ∧ some k_ ≠ (.slice Ao37 t337.length co37 : Value).ownBlock) (.slice Ao31 y331.length co31) y331):=⟨by (with_reducible repeat (first|apply k1_|apply k2_|apply k3_));exact Kd.R_mono (k4_ (p:=⟨gb342,3,none⟩) (k4_ (p:=⟨gb342,2,none⟩) (k4_ (p:=⟨gb342,1,none⟩) (k4_ (p:=⟨gb342,0,none⟩) (Kd.R_types HO333.out BK342.out (by decide)) (fun _ hk => hk.2) (.int .i64 t334)) (fun _ hk => hk.2) (.int .i64 t335)) (fun _ hk => hk.2) (.int .i64 t336)) (fun _ hk => hk.2) (.slice Ao37 t337.length co37)) (fun _ hk => ⟨(by first|exact hk.1.1.1.1.1.2|(have hq_:=hk;simp only [ne_eq] at hq_ ⊢;simp only [hq_,k8_,and_self])),⟨(by first|exact hk.1.1.1.1.2|(have hq_:=hk;simp only [ne_eq] at hq_ ⊢;simp only [hq_,k8_,and_self])),⟨(by first|exact hk.1.1.1.2|(have hq_:=hk;simp only [ne_eq] at hq_ ⊢;simp only [hq_,k8_,and_self])),⟨(by first|exact hk.1.1.2|(have hq_:=hk;simp only [ne_eq] at hq_ ⊢;simp only [hq_,k8_,and_self])),(by first|exact hk.1.2|(have hq_:=hk;simp only [ne_eq] at hq_ ⊢;simp only [hq_,k8_,and_self]))⟩⟩⟩⟩)⟩
      have n5_ : Aside0 (Kd.R (Kd.int .u8) 5 ((((w33.setCell ⟨gb342,0,none⟩ (.int .i64 t334)).setCell ⟨gb342,1,none⟩ (.int .i64 t335)).setCell ⟨gb342,2,none⟩ (.int .i64 t336)).setCell ⟨gb342,3,none⟩ (.slice Ao37 t337.length co37)) w.heap.size (fun k_ => some k_ ≠ (.slice Ao15 t307.length co15 : Value).ownBlock ∧ some k_ ≠ (.slice Ao22 t311.length co22 : Value).ownBlock ∧ some k_ ≠ (.slice Ao23 y319.length co23 : Value).ownBlock ∧ some k_ ≠ (.slice Ao28 t325.length co28 : Value).ownBlock ∧ some k_ ≠ (.slice Ao31 y331.length co31 : Value).ownBlock) (.slice Ao37 t337.length co37) t337):=⟨by (with_reducible repeat (first|apply k1_|apply k2_|apply k3_));exact Kd.R_mono (k4_ (p:=⟨gb342,3,none⟩) (k4_ (p:=⟨gb342,2,none⟩) (k4_ (p:=⟨gb342,1,none⟩) (k4_ (p:=⟨gb342,0,none⟩) (Kd.R_types HO339.out BK342.out (by decide)) (fun _ hk => hk.2) (.int .i64 t334)) (fun _ hk => hk.2) (.int .i64 t335)) (fun _ hk => hk.2) (.int .i64 t336)) (fun _ hk => hk.2) (.slice Ao37 t337.length co37)) (fun _ hk => ⟨(by first|exact hk.1.1.1.1.1.2|(have hq_:=hk;simp only [ne_eq] at hq_ ⊢;simp only [hq_,k8_,and_self])),⟨(by first|exact hk.1.1.1.1.2|(have hq_:=hk;simp only [ne_eq] at hq_ ⊢;simp only [hq_,k8_,and_self])),⟨(by first|exact hk.1.1.1.2|(have hq_:=hk;simp only [ne_eq] at hq_ ⊢;simp only [hq_,k8_,and_self])),⟨(by first|exact hk.1.1.2|(have hq_:=hk;simp only [ne_eq] at hq_ ⊢;simp only [hq_,k8_,and_self])),(by first|exact hk.1.2|(have hq_:=hk;simp only [ne_eq] at hq_ ⊢;simp only [hq_,k8_,and_self]))⟩⟩⟩⟩)⟩
      have n6_ : Aside0 (((((w33.setCell ⟨gb342,0,none⟩ (.int .i64 t334)).setCell ⟨gb342,1,none⟩ (.int .i64 t335)).setCell ⟨gb342,2,none⟩ (.int .i64 t336)).setCell ⟨gb342,3,none⟩ (.slice Ao37 t337.length co37)).heap[gb310]? = some (.cells #[.int .i64 t304,.int .i64 t305,.int .i64 t306,.slice Ao15 t307.length co15] 59 (0,0))):=⟨by (with_reducible repeat (first|refine k6_ ?_ _|refine k7_ ?_|refine k5_ ?_ _));refine blk_far ?_ NB310_342.out _;(with_reducible repeat (first|refine k6_ ?_ _|refine k7_ ?_|refine k5_ ?_ _));refine blk_far ?_ NB310_342.out _;(with_reducible repeat (first|refine k6_ ?_ _|refine k7_ ?_|refine k5_ ?_ _));refine blk_far ?_ NB310_342.out _;(with_reducible repeat (first|refine k6_ ?_ _|refine k7_ ?_|refine k5_ ?_ _));refine blk_far ?_ NB310_342.out _;(with_reducible repeat (first|refine k6_ ?_ _|refine k7_ ?_|refine k5_ ?_ _));exact BK310.out⟩
      have n7_ : Aside0 (((((w33.setCell ⟨gb342,0,none⟩ (.int .i64 t334)).setCell ⟨gb342,1,none⟩ (.int .i64 t335)).setCell ⟨gb342,2,none⟩ (.int .i64 t336)).setCell ⟨gb342,3,none⟩ (.slice Ao37 t337.length co37)).heap[gb330]? = some (.cells #[.int .i64 t322,.int .i64 t323,.int .i64 t324,.slice Ao28 t325.length co28] 59 (0,0))):=⟨by (with_reducible repeat (first|refine k6_ ?_ _|refine k7_ ?_|refine k5_ ?_ _));refine blk_far ?_ NB330_342.out _;(with_reducible repeat (first|refine k6_ ?_ _|refine k7_ ?_|refine k5_ ?_ _));refine blk_far ?_ NB330_342.out _;(with_reducible repeat (first|refine k6_ ?_ _|refine k7_ ?_|refine k5_ ?_ _));refine blk_far ?_ NB330_342.out _;(with_reducible repeat (first|refine k6_ ?_ _|refine k7_ ?_|refine k5_ ?_ _));refine blk_far ?_ NB330_342.out _;(with_reducible repeat (first|refine k6_ ?_ _|refine k7_ ?_|refine k5_ ?_ _));exact BK330.out⟩
      have n8_ : Aside0 (((((w33.setCell ⟨gb342,0,none⟩ (.int .i64 t334)).setCell ⟨gb342,1,none⟩ (.int .i64 t335)).setCell ⟨gb342,2,none⟩ (.int .i64 t336)).setCell ⟨gb342,3,none⟩ (.slice Ao37 t337.length co37)).heap[gb342]? = some (.cells #[.int .i64 t334,.int .i64 t335,.int .i64 t336,.slice Ao37 t337.length co37] 59 (0,0))):=⟨by (with_reducible repeat (first|refine k6_ ?_ _|refine k7_ ?_|refine k5_ ?_ _));refine blk_put (cs:=#[.int .i64 t334,.int .i64 t335,.int .i64 t336,.slice none 0 0]) ?_ 3 _ rfl;(with_reducible repeat (first|refine k6_ ?_ _|refine k7_ ?_|refine k5_ ?_ _));refine blk_put (cs:=#[.int .i64 t334,.int .i64 t335,.int .i64 0,.slice none 0 0]) ?_ 2 _ rfl;(with_reducible repeat (first|refine k6_ ?_ _|refine k7_ ?_|refine k5_ ?_ _));refine blk_put (cs:=#[.int .i64 t334,.int .i64 0,.int .i64 0,.slice none 0 0]) ?_ 1 _ rfl;(with_reducible repeat (first|refine k6_ ?_ _|refine k7_ ?_|refine k5_ ?_ _));refine blk_put (cs:=#[.int .i64 0,.int .i64 0,.int .i64 0,.slice none 0 0]) ?_ 0 _ rfl;(with_reducible repeat (first|refine k6_ ?_ _|refine k7_ ?_|refine k5_ ?_ _));exact BK342.out⟩
      have n9_ : Aside0 (Below w.heap.size w ((((w33.setCell ⟨gb342,0,none⟩ (.int .i64 t334)).setCell ⟨gb342,1,none⟩ (.int .i64 t335)).setCell ⟨gb342,2,none⟩ (.int .i64 t336)).setCell ⟨gb342,3,none⟩ (.slice Ao37 t337.length co37))):=⟨by repeat (first|(with_reducible first|exact HB.out|apply below_alloc|apply pw_below_drewN|apply below_drew1|refine below_set ?_ GE310.out|refine below_set ?_ GE330.out|refine below_set ?_ GE342.out)|exact HB.out)⟩
      (try clear HO309)
      (try clear HO313)
      (try clear HO321)
      (try clear HO327)
      (try clear HO333)
      (try clear HO339)
      (try clear BK310)
      (try clear BK330)
      (try clear BK342)
      (try clear HB)
      generalize ((((w33.setCell ⟨gb342,0,none⟩ (.int .i64 t334)).setCell ⟨gb342,1,none⟩ (.int .i64 t335)).setCell ⟨gb342,2,none⟩ (.int .i64 t336)).setCell ⟨gb342,3,none⟩ (.slice Ao37 t337.length co37)) = w62 at n0_ n1_ n2_ n3_ n4_ n5_ n6_ n7_ n8_ n9_ ⊢
      have HO309:=n0_
      have HO313:=n1_
      have HO321:=n2_
      have HO327:=n3_
      have HO333:=n4_
      have HO339:=n5_
      have BK310:=n6_
      have BK330:=n7_
      have BK342:=n8_
      have HB:=n9_
      clear n0_ n1_ n2_ n3_ n4_ n5_ n6_ n7_ n8_ n9_
      have n0_:=Aside0.mk (k3_ HO309.out)
      have n1_:=Aside0.mk (k3_ HO313.out)
      have n2_:=Aside0.mk (k3_ HO321.out)
      have n3_:=Aside0.mk (k3_ HO327.out)
      have n4_:=Aside0.mk (k3_ HO333.out)
      have n5_:=Aside0.mk (k3_ HO339.out)
      have n6_:=Aside0.mk (k7_ BK310.out)
      have n7_:=Aside0.mk (k7_ BK330.out)
      have n8_:=Aside0.mk (k7_ BK342.out)
      have n9_:=Aside0.mk (below_drew1 HB.out)
      clear HO309
      clear HO313
      clear HO321
      clear HO327
      clear HO333
      clear HO339
      clear BK310
      clear BK330
      clear BK342
      clear HB
      have HO309:=n0_
      have HO313:=n1_
      have HO321:=n2_
      have HO327:=n3_
      have HO333:=n4_
      have HO339:=n5_
      have BK310:=n6_
      have BK330:=n7_
      have BK342:=n8_
      have HB:=n9_
      clear n0_ n1_ n2_ n3_ n4_ n5_ n6_ n7_ n8_ n9_
      refine start_ (n:=35) (S:=fun w' => True) (ds:=[]) #[Z,Z,Z,Z,Z,Z,Z,Z,Z,Z,Z,Z,Z,Z,Z,Z,Z,Z,Z,Z,Z,Z,Z,Z,Z,Z,Z,Z,Z,Z,Z,Z,Z,Z,Z] (by kernel_rfl) rfl rfl trivial (fun hHeld => ?_);refine with_tabW laws_FnOneFrame.tab9 laws_FnOneFrame.bits9 (fun HT_ HW_ => ?_)
      generalize w62.drew = w63 at HO309 HO313 HO321 HO327 HO333 HO339 BK310 BK330 BK342 HB hHeld ⊢
      refine pure_ (i:=0) (N:=some 42) (v:=?_) (a':=?_) #[Y,Z,Z,Z,Z,Z,Z,Z,Z,Z,Z,Z,Z,Z,Z,Z,Z,Z,Z,Z,Z,Z,Z,Z,Z,Z,Z,Z,Z,Z,Z,Z,Z,Z,Z] rfl rfl (any_of HT_.out (by kernel_rfl)) (fun _ _ _ h => h) (Or.inl ⟨by rfl,?_⟩) ?_ ?_
      rotate_left
      ·
       intro w'
       go_simp
       with_reducible rfl
      rotate_left
      ·
       simp only [Act.put,lA_,lB_,lC_,i64_w,i32_w]
       rfl
      refine pure_ (i:=1) (N:=some 43) (v:=?_) (a':=?_) #[Y,Y,Z,Z,Z,Z,Z,Z,Z,Z,Z,Z,Z,Z,Z,Z,Z,Z,Z,Z,Z,Z,Z,Z,Z,Z,Z,Z,Z,Z,Z,Z,Z,Z,Z] rfl rfl (any_of HT_.out (by kernel_rfl)) (fun _ _ _ h => h) (Or.inl ⟨by rfl,?_⟩) ?_ ?_
      rotate_left
      ·
       intro w'
       go_simp
       with_reducible rfl
      rotate_left
      ·
       simp only [Act.put,lA_,lB_,lC_,i64_w,i32_w]
       rfl
      refine pure_ (i:=2) (N:=some 44) (v:=?_) (a':=?_) #[Y,Y,Y,Z,Z,Z,Z,Z,Z,Z,Z,Z,Z,Z,Z,Z,Z,Z,Z,Z,Z,Z,Z,Z,Z,Z,Z,Z,Z,Z,Z,Z,Z,Z,Z] rfl rfl (any_of HT_.out (by kernel_rfl)) (fun _ _ _ h => h) (Or.inl ⟨by rfl,?_⟩) ?_ ?_
      rotate_left
      ·
       intro w'
       go_simp
       with_reducible rfl
      rotate_left
      ·
       simp only [Act.put,lA_,lB_,lC_,i64_w,i32_w]
       rfl
      refine pure_ (i:=3) (N:=some 45) (v:=undef) (a':=?_) #[Y,Y,Y,Y,Z,Z,Z,Z,Z,Z,Z,Z,Z,Z,Z,Z,Z,Z,Z,Z,Z,Z,Z,Z,Z,Z,Z,Z,Z,Z,Z,Z,Z,Z,Z] rfl rfl (any_of HT_.out (by kernel_rfl)) (fun _ _ _ h => h) (Or.inr ⟨by rfl,rfl⟩) ?_ ?_
      rotate_left
      ·
       simp only [Act.put,lA_,lB_,lC_,i64_w,i32_w]
       rfl
      refine pure_ (i:=4) (N:=some 46) (v:=undef) (a':=?_) #[Y,Y,Y,Y,Y,Z,Z,Z,Z,Z,Z,Z,Z,Z,Z,Z,Z,Z,Z,Z,Z,Z,Z,Z,Z,Z,Z,Z,Z,Z,Z,Z,Z,Z,Z] rfl rfl (any_of HT_.out (by kernel_rfl)) (fun _ _ _ h => h) (Or.inr ⟨by rfl,rfl⟩) ?_ ?_
      rotate_left
      ·
       simp only [Act.put,lA_,lB_,lC_,i64_w,i32_w]
       rfl
      refine pure_ (i:=5) (N:=some 47) (v:=undef) (a':=?_) #[Y,Y,Y,Y,Y,Y,Z,Z,Z,Z,Z,Z,Z,Z,Z,Z,Z,Z,Z,Z,Z,Z,Z,Z,Z,Z,Z,Z,Z,Z,Z,Z,Z,Z,Z] rfl rfl (any_of HT_.out (by kernel_rfl)) (fun _ _ _ h => h) (Or.inr ⟨by rfl,rfl⟩) ?_ ?_
      rotate_left
      ·
       simp only [Act.put,lA_,lB_,lC_,i64_w,i32_w]
       rfl
      refine pure_ (i:=6) (N:=some 48) (v:=undef) (a':=?_) #[Y,Y,Y,Y,Y,Y,Y,Z,Z,Z,Z,Z,Z,Z,Z,Z,Z,Z,Z,Z,Z,Z,Z,Z,Z,Z,Z,Z,Z,Z,Z,Z,Z,Z,Z] rfl rfl (any_of HT_.out (by kernel_rfl)) (fun _ _ _ h => h) (Or.inr ⟨by rfl,rfl⟩) ?_ ?_
      rotate_left
      ·
       simp only [Act.put,lA_,lB_,lC_,i64_w,i32_w]
       rfl
      refine pure_ (i:=7) (N:=some 49) (v:=undef) (a':=?_) #[Y,Y,Y,Y,Y,Y,Y,Y,Z,Z,Z,Z,Z,Z,Z,Z,Z,Z,Z,Z,Z,Z,Z,Z,Z,Z,Z,Z,Z,Z,Z,Z,Z,Z,Z] rfl rfl (any_of HT_.out (by kernel_rfl)) (fun _ _ _ h => h) (Or.inr ⟨by rfl,rfl⟩) ?_ ?_
      rotate_left
      ·
       simp only [Act.put,lA_,lB_,lC_,i64_w,i32_w]
       rfl
      refine pure_ (i:=8) (N:=some 50) (v:=?_) (a':=?_) #[Y,Y,Y,Y,Y,Y,Y,Y,Y,Z,Z,Z,Z,Z,Z,Z,Z,Z,Z,Z,Z,Z,Z,Z,Z,Z,Z,Z,Z,Z,Z,Z,Z,Z,Z] rfl rfl (any_of HT_.out (by kernel_rfl)) (fun _ _ _ h => h) (Or.inl ⟨by rfl,?_⟩) ?_ ?_
      rotate_left
      ·
       intro w'
       go_simp
       with_reducible rfl
      rotate_left
      ·
       simp only [Act.put,lA_,lB_,lC_,i64_w,i32_w]
       rfl
      refine pure_ (i:=9) (N:=some 51) (v:=?_) (a':=?_) #[Y,Y,Y,Y,Y,Y,Y,Y,Y,Y,Z,Z,Z,Z,Z,Z,Z,Z,Z,Z,Z,Z,Z,Z,Z,Z,Z,Z,Z,Z,Z,Z,Z,Z,Z] rfl rfl (any_of HT_.out (by kernel_rfl)) (fun _ _ _ h => h) (Or.inl ⟨by rfl,?_⟩) ?_ ?_
      rotate_left
      ·
       intro w'
       go_simp
       with_reducible rfl
      rotate_left
      ·
       simp only [Act.put,lA_,lB_,lC_,i64_w,i32_w]
       rfl
      refine pure_ (i:=10) (N:=some 52) (v:=undef) (a':=?_) #[Y,Y,Y,Y,Y,Y,Y,Y,Y,Y,Y,Z,Z,Z,Z,Z,Z,Z,Z,Z,Z,Z,Z,Z,Z,Z,Z,Z,Z,Z,Z,Z,Z,Z,Z] rfl rfl (any_of HT_.out (by kernel_rfl)) (fun _ _ _ h => h) (Or.inr ⟨by rfl,rfl⟩) ?_ ?_
      rotate_left
      ·
       simp only [Act.put,lA_,lB_,lC_,i64_w,i32_w]
       rfl
      refine pure_ (i:=11) (N:=some 53) (v:=undef) (a':=?_) #[Y,Y,Y,Y,Y,Y,Y,Y,Y,Y,Y,Y,Z,Z,Z,Z,Z,Z,Z,Z,Z,Z,Z,Z,Z,Z,Z,Z,Z,Z,Z,Z,Z,Z,Z] rfl rfl (any_of HT_.out (by kernel_rfl)) (fun _ _ _ h => h) (Or.inr ⟨by rfl,rfl⟩) ?_ ?_
      rotate_left
      ·
       simp only [Act.put,lA_,lB_,lC_,i64_w,i32_w]
       rfl
      refine pure_ (i:=12) (N:=some 54) (v:=undef) (a':=?_) #[Y,Y,Y,Y,Y,Y,Y,Y,Y,Y,Y,Y,Y,Z,Z,Z,Z,Z,Z,Z,Z,Z,Z,Z,Z,Z,Z,Z,Z,Z,Z,Z,Z,Z,Z] rfl rfl (any_of HT_.out (by kernel_rfl)) (fun _ _ _ h => h) (Or.inr ⟨by rfl,rfl⟩) ?_ ?_
      rotate_left
      ·
       simp only [Act.put,lA_,lB_,lC_,i64_w,i32_w]
       rfl
      refine pure_ (i:=13) (N:=some 55) (v:=?_) (a':=?_) #[Y,Y,Y,Y,Y,Y,Y,Y,Y,Y,Y,Y,Y,Y,Z,Z,Z,Z,Z,Z,Z,Z,Z,Z,Z,Z,Z,Z,Z,Z,Z,Z,Z,Z,Z] rfl rfl (any_of HT_.out (by kernel_rfl)) (fun _ _ _ h => h) (Or.inl ⟨by rfl,?_⟩) ?_ ?_
      rotate_left
      ·
       intro w'
       go_simp
       with_reducible rfl
      rotate_left
      ·
       simp only [Act.put,lA_,lB_,lC_,i64_w,i32_w]
       rfl
      refine pure_ (i:=14) (N:=some 56) (v:=?_) (a':=?_) #[Y,Y,Y,Y,Y,Y,Y,Y,Y,Y,Y,Y,Y,Y,Y,Z,Z,Z,Z,Z,Z,Z,Z,Z,Z,Z,Z,Z,Z,Z,Z,Z,Z,Z,Z] rfl rfl (any_of HT_.out (by kernel_rfl)) (fun _ _ _ h => h) (Or.inl ⟨by rfl,?_⟩) ?_ ?_
      rotate_left
      ·
       intro w'
       go_simp
       with_reducible rfl
      rotate_left
      ·
       simp only [Act.put,lA_,lB_,lC_,i64_w,i32_w]
       rfl
      refine pure_ (i:=15) (N:=some 57) (v:=undef) (a':=?_) #[Y,Y,Y,Y,Y,Y,Y,Y,Y,Y,Y,Y,Y,Y,Y,Y,Z,Z,Z,Z,Z,Z,Z,Z,Z,Z,Z,Z,Z,Z,Z,Z,Z,Z,Z] rfl rfl (any_of HT_.out (by kernel_rfl)) (fun _ _ _ h => h) (Or.inr ⟨by rfl,rfl⟩) ?_ ?_
      rotate_left
      ·
       simp only [Act.put,lA_,lB_,lC_,i64_w,i32_w]
       rfl
      refine pure_ (i:=16) (N:=some 58) (v:=undef) (a':=?_) #[Y,Y,Y,Y,Y,Y,Y,Y,Y,Y,Y,Y,Y,Y,Y,Y,Y,Z,Z,Z,Z,Z,Z,Z,Z,Z,Z,Z,Z,Z,Z,Z,Z,Z,Z] rfl rfl (any_of HT_.out (by kernel_rfl)) (fun _ _ _ h => h) (Or.inr ⟨by rfl,rfl⟩) ?_ ?_
      rotate_left
      ·
       simp only [Act.put,lA_,lB_,lC_,i64_w,i32_w]
       rfl
      refine pure_ (i:=17) (N:=some 59) (v:=undef) (a':=?_) #[Y,Y,Y,Y,Y,Y,Y,Y,Y,Y,Y,Y,Y,Y,Y,Y,Y,Y,Z,Z,Z,Z,Z,Z,Z,Z,Z,Z,Z,Z,Z,Z,Z,Z,Z] rfl rfl (any_of HT_.out (by kernel_rfl)) (fun _ _ _ h => h) (Or.inr ⟨by rfl,rfl⟩) ?_ ?_
      rotate_left
      ·
       simp only [Act.put,lA_,lB_,lC_,i64_w,i32_w]
       rfl
      refine pure_ (i:=18) (N:=some 60) (v:=undef) (a':=?_) #[Y,Y,Y,Y,Y,Y,Y,Y,Y,Y,Y,Y,Y,Y,Y,Y,Y,Y,Y,Z,Z,Z,Z,Z,Z,Z,Z,Z,Z,Z,Z,Z,Z,Z,Z] rfl rfl (any_of HT_.out (by kernel_rfl)) (fun _ _ _ h => h) (Or.inr ⟨by rfl,rfl⟩) ?_ ?_
      rotate_left
      ·
       simp only [Act.put,lA_,lB_,lC_,i64_w,i32_w]
       rfl
      refine pure_ (i:=19) (N:=some 61) (v:=undef) (a':=?_) #[Y,Y,Y,Y,Y,Y,Y,Y,Y,Y,Y,Y,Y,Y,Y,Y,Y,Y,Y,Y,Z,Z,Z,Z,Z,Z,Z,Z,Z,Z,Z,Z,Z,Z,Z] rfl rfl (any_of HT_.out (by kernel_rfl)) (fun _ _ _ h => h) (Or.inr ⟨by rfl,rfl⟩) ?_ ?_
      rotate_left
      ·
       simp only [Act.put,lA_,lB_,lC_,i64_w,i32_w]
       rfl
      refine pure_ (i:=20) (N:=some 62) (v:=undef) (a':=?_) #[Y,Y,Y,Y,Y,Y,Y,Y,Y,Y,Y,Y,Y,Y,Y,Y,Y,Y,Y,Y,Y,Z,Z,Z,Z,Z,Z,Z,Z,Z,Z,Z,Z,Z,Z] rfl rfl (any_of HT_.out (by kernel_rfl)) (fun _ _ _ h => h) (Or.inr ⟨by rfl,rfl⟩) ?_ ?_
      rotate_left
      ·
       simp only [Act.put,lA_,lB_,lC_,i64_w,i32_w]
       rfl
      refine pure_ (i:=21) (N:=some 63) (v:=undef) (a':=?_) #[Y,Y,Y,Y,Y,Y,Y,Y,Y,Y,Y,Y,Y,Y,Y,Y,Y,Y,Y,Y,Y,Y,Z,Z,Z,Z,Z,Z,Z,Z,Z,Z,Z,Z,Z] rfl rfl (any_of HT_.out (by kernel_rfl)) (fun _ _ _ h => h) (Or.inr ⟨by rfl,rfl⟩) ?_ ?_
      rotate_left
      ·
       simp only [Act.put,lA_,lB_,lC_,i64_w,i32_w]
       rfl
      refine pure_ (i:=22) (N:=some 64) (v:=?_) (a':=?_) #[Y,Y,Y,Y,Y,Y,Y,Y,Y,Y,Y,Y,Y,Y,Y,Y,Y,Y,Y,Y,Y,Y,Y,Z,Z,Z,Z,Z,Z,Z,Z,Z,Z,Z,Z] rfl rfl (any_of HT_.out (by kernel_rfl)) (fun _ _ _ h => h) (Or.inl ⟨by rfl,?_⟩) ?_ ?_
      rotate_left
      ·
       intro w'
       go_simp
       with_reducible rfl
      rotate_left
      ·
       simp only [Act.put,lA_,lB_,lC_,i64_w,i32_w]
       rfl
      refine pure_ (i:=23) (N:=some 65) (v:=?_) (a':=?_) #[Y,Y,Y,Y,Y,Y,Y,Y,Y,Y,Y,Y,Y,Y,Y,Y,Y,Y,Y,Y,Y,Y,Y,Y,Z,Z,Z,Z,Z,Z,Z,Z,Z,Z,Z] rfl rfl (any_of HT_.out (by kernel_rfl)) (fun _ _ _ h => h) (Or.inl ⟨by rfl,?_⟩) ?_ ?_
      rotate_left
      ·
       intro w'
       go_simp
       with_reducible rfl
      rotate_left
      ·
       simp only [Act.put,lA_,lB_,lC_,i64_w,i32_w]
       rfl
      refine pure_ (i:=24) (N:=some 66) (v:=undef) (a':=?_) #[Y,Y,Y,Y,Y,Y,Y,Y,Y,Y,Y,Y,Y,Y,Y,Y,Y,Y,Y,Y,Y,Y,Y,Y,Y,Z,Z,Z,Z,Z,Z,Z,Z,Z,Z] rfl rfl (any_of HT_.out (by kernel_rfl)) (fun _ _ _ h => h) (Or.inr ⟨by rfl,rfl⟩) ?_ ?_
      rotate_left
      ·
       simp only [Act.put,lA_,lB_,lC_,i64_w,i32_w]
       rfl
      refine pure_ (i:=25) (N:=some 67) (v:=undef) (a':=?_) #[Y,Y,Y,Y,Y,Y,Y,Y,Y,Y,Y,Y,Y,Y,Y,Y,Y,Y,Y,Y,Y,Y,Y,Y,Y,Y,Z,Z,Z,Z,Z,Z,Z,Z,Z] rfl rfl (any_of HT_.out (by kernel_rfl)) (fun _ _ _ h => h) (Or.inr ⟨by rfl,rfl⟩) ?_ ?_
      rotate_left
      ·
       simp only [Act.put,lA_,lB_,lC_,i64_w,i32_w]
       rfl
      refine pure_ (i:=26) (N:=some 68) (v:=?_) (a':=?_) #[Y,Y,Y,Y,Y,Y,Y,Y,Y,Y,Y,Y,Y,Y,Y,Y,Y,Y,Y,Y,Y,Y,Y,Y,Y,Y,Y,Z,Z,Z,Z,Z,Z,Z,Z] rfl rfl (any_of HT_.out (by kernel_rfl)) (fun _ _ _ h => h) (Or.inl ⟨by rfl,?_⟩) ?_ ?_
      rotate_left
      ·
       intro w'
       go_simp
       with_reducible rfl
      rotate_left
      ·
       simp only [Act.put,lA_,lB_,lC_,i64_w,i32_w]
       rfl
      refine pure_ (i:=27) (N:=some 69) (v:=?_) (a':=?_) #[Y,Y,Y,Y,Y,Y,Y,Y,Y,Y,Y,Y,Y,Y,Y,Y,Y,Y,Y,Y,Y,Y,Y,Y,Y,Y,Y,Y,Z,Z,Z,Z,Z,Z,Z] rfl rfl (any_of HT_.out (by kernel_rfl)) (fun _ _ _ h => h) (Or.inl ⟨by rfl,?_⟩) ?_ ?_
      rotate_left
      ·
       intro w'
       go_simp
       with_reducible rfl
      rotate_left
      ·
       simp only [Act.put,lA_,lB_,lC_,i64_w,i32_w]
       rfl
      refine pure_ (i:=28) (N:=some 70) (v:=undef) (a':=?_) #[Y,Y,Y,Y,Y,Y,Y,Y,Y,Y,Y,Y,Y,Y,Y,Y,Y,Y,Y,Y,Y,Y,Y,Y,Y,Y,Y,Y,Y,Z,Z,Z,Z,Z,Z] rfl rfl (any_of HT_.out (by kernel_rfl)) (fun _ _ _ h => h) (Or.inr ⟨by rfl,rfl⟩) ?_ ?_
      rotate_left
      ·
       simp only [Act.put,lA_,lB_,lC_,i64_w,i32_w]
       rfl
      refine pure_ (i:=29) (N:=some 71) (v:=undef) (a':=?_) #[Y,Y,Y,Y,Y,Y,Y,Y,Y,Y,Y,Y,Y,Y,Y,Y,Y,Y,Y,Y,Y,Y,Y,Y,Y,Y,Y,Y,Y,Y,Z,Z,Z,Z,Z] rfl rfl (any_of HT_.out (by kernel_rfl)) (fun _ _ _ h => h) (Or.inr ⟨by rfl,rfl⟩) ?_ ?_
      rotate_left
      ·
       simp only [Act.put,lA_,lB_,lC_,i64_w,i32_w]
       rfl
      refine pure_ (i:=30) (N:=some 72) (v:=undef) (a':=?_) #[Y,Y,Y,Y,Y,Y,Y,Y,Y,Y,Y,Y,Y,Y,Y,Y,Y,Y,Y,Y,Y,Y,Y,Y,Y,Y,Y,Y,Y,Y,Y,Z,Z,Z,Z] rfl rfl (any_of HT_.out (by kernel_rfl)) (fun _ _ _ h => h) (Or.inr ⟨by rfl,rfl⟩) ?_ ?_
      rotate_left
      ·
       simp only [Act.put,lA_,lB_,lC_,i64_w,i32_w]
       rfl
      refine pure_ (i:=31) (N:=some 73) (v:=undef) (a':=?_) #[Y,Y,Y,Y,Y,Y,Y,Y,Y,Y,Y,Y,Y,Y,Y,Y,Y,Y,Y,Y,Y,Y,Y,Y,Y,Y,Y,Y,Y,Y,Y,Y,Z,Z,Z] rfl rfl (any_of HT_.out (by kernel_rfl)) (fun _ _ _ h => h) (Or.inr ⟨by rfl,rfl⟩) ?_ ?_
      rotate_left
      ·
       simp only [Act.put,lA_,lB_,lC_,i64_w,i32_w]
       rfl
      refine pure_ (i:=32) (N:=some 74) (v:=undef) (a':=?_) #[Y,Y,Y,Y,Y,Y,Y,Y,Y,Y,Y,Y,Y,Y,Y,Y,Y,Y,Y,Y,Y,Y,Y,Y,Y,Y,Y,Y,Y,Y,Y,Y,Y,Z,Z] rfl rfl (any_of HT_.out (by kernel_rfl)) (fun _ _ _ h => h) (Or.inr ⟨by rfl,rfl⟩) ?_ ?_
      rotate_left
      ·
       simp only [Act.put,lA_,lB_,lC_,i64_w,i32_w]
       rfl
      refine pure_ (i:=33) (N:=some 75) (v:=?_) (a':=?_) #[Y,Y,Y,Y,Y,Y,Y,Y,Y,Y,Y,Y,Y,Y,Y,Y,Y,Y,Y,Y,Y,Y,Y,Y,Y,Y,Y,Y,Y,Y,Y,Y,Y,Y,Z] rfl rfl (any_of HT_.out (by kernel_rfl)) (fun _ _ _ h => h) (Or.inl ⟨by rfl,?_⟩) ?_ ?_
      rotate_left
      ·
       intro w'
       go_simp
       with_reducible rfl
      rotate_left
      ·
       simp only [Act.put,lA_,lB_,lC_,i64_w,i32_w]
       rfl
      refine pure_ (i:=34) (N:=some 2) (v:=?_) (a':=?_) #[Y,Y,Y,Y,Y,Y,Y,Y,Y,Y,Y,Y,Y,Y,Y,Y,Y,Y,Y,Y,Y,Y,Y,Y,Y,Y,Y,Y,Y,Y,Y,Y,Y,Y,Y] rfl rfl (any_of HT_.out (by kernel_rfl)) (fun _ _ _ h => h) (Or.inl ⟨by rfl,?_⟩) ?_ ?_
      rotate_left
      ·
       intro w'
       go_simp
       with_reducible rfl
      rotate_left
      ·
       simp only [Act.put,lA_,lB_,lC_,i64_w,i32_w]
       rfl
      refine done_ (done_of HT_.out (by kernel_rfl)) ?_
      try go_wp2
      go_meet
      case rel => exact ⟨_,(false),(by first|rfl|(simp;done)|(simp [*];done)),H',⟨by first|omega|exact Nat.le_refl _⟩,⟨by (with_reducible repeat (first|apply k1_|apply k2_|apply k3_));exact Kd.R_mono HO309.out (fun _ hk => ⟨(by first|exact hk.2.2.1|(have hq_:=hk;simp only [ne_eq] at hq_ ⊢;simp only [hq_,k8_,and_self])),(by first|exact hk.2.2.2.2|(have hq_:=hk;simp only [ne_eq] at hq_ ⊢;simp only [hq_,k8_,and_self]))⟩)⟩,⟨by (with_reducible repeat (first|apply k1_|apply k2_|apply k3_));exact Kd.R_mono HO327.out (fun _ hk => ⟨(by first|exact hk.1|(have hq_:=hk;simp only [ne_eq] at hq_ ⊢;simp only [hq_,k8_,and_self])),(by first|exact hk.2.2.2.2|(have hq_:=hk;simp only [ne_eq] at hq_ ⊢;simp only [hq_,k8_,and_self]))⟩)⟩,⟨by (with_reducible repeat (first|apply k1_|apply k2_|apply k3_));exact Kd.R_mono HO339.out (fun _ hk => ⟨(by first|exact hk.1|(have hq_:=hk;simp only [ne_eq] at hq_ ⊢;simp only [hq_,k8_,and_self])),(by first|exact hk.2.2.2.1|(have hq_:=hk;simp only [ne_eq] at hq_ ⊢;simp only [hq_,k8_,and_self]))⟩)⟩,⟨by (with_reducible repeat (first|refine k6_ ?_ _|refine k7_ ?_|refine k5_ ?_ _));exact BK310.out⟩,⟨by (with_reducible repeat (first|refine k6_ ?_ _|refine k7_ ?_|refine k5_ ?_ _));exact BK330.out⟩,⟨by (with_reducible repeat (first|refine k6_ ?_ _|refine k7_ ?_|refine k5_ ?_ _));exact BK342.out⟩,⟨by repeat (first|(with_reducible first|exact HB.out|apply below_alloc|apply pw_below_drewN|apply below_drew1|refine below_set ?_ GE310.out|refine below_set ?_ GE330.out|refine below_set ?_ GE342.out)|exact HB.out)⟩⟩
    case rest =>
     clear HC11
     try clear p2
     try clear c3
     try clear p6
     try clear c38
     try clear c38b0
     try clear c38b1
     try clear c39
     try clear c39b0
     try clear c39b1
     obtain ⟨kq,x2_10,rfl,HA,HJ10,HO_311003,HO_331003,HO_343003,BK310,BK330,BK342,HB⟩:=hcut
     cases kq with
     | zero => exact absurd HA.out (by simp [laws_FnOneFrame.j0])
     | succ kj10 =>
      have H:=HA.out
      clear HA
      simp only [laws_FnOneFrame.j0] at H
      obtain rfl:=Option.some.inj H
      go_wp2
      go_ret
      exact ⟨by first|rfl|(simp [errW_none,errW_some] <;> rfl)|(simp [*,errW_none,errW_some] <;> rfl),by repeat (first|(with_reducible first|exact HB.out|apply below_alloc|apply pw_below_drewN|apply below_drew1|refine below_set ?_ GE310.out|refine below_set ?_ GE330.out|refine below_set ?_ GE342.out)|exact HB.out)⟩
   ·
    rw [if_neg c8] at H
    exact absurd H (by simp)
  ·
   replace c7:=Bool.eq_false_iff.mpr c7
   subst c7
   have H1 : (if (t311.length : Int) = 0 then ((impl_FrameCode.f k t304 t305 t306 t307).bind fun t315 => (some (t315 == 2))) else (some false)) = some r:=by rw [if_neg (show ¬ (false = true) by decide)] at H;exact H
   clear H
   have H:=H1
   clear H1
   by_cases c64 : (t311.length : Int) = 0
   ·
    rw [if_pos c64] at H
    have c64b0 : ((t311.length : Int) == 0) = true:=beq_iff_eq.mpr c64
    have c64b1 : ((t311.length : Int) != 0) = false:=bne_eq_false_iff_eq.mpr c64
    clear c64
    replace H:=Option.bind_eq_some_iff.mp H
    obtain ⟨t315,A650,H⟩:=H
    replace H : (some (t315 == 2)) = some r:=H
    have A65:=Aside0.mk A650
    clear A650
    obtain rfl:=Option.some.inj H
    go_enter Try.func8,Try.ntmps8
    go_wp2_with (first|((with_reducible refine gate_callee (f:=10) rfl ?_);refine goesL_ (some 12) rfl rfl Try.func10 (by kernel_rfl) rfl #[.slice A0 l0.length c0] rfl (by (try simp only [List.map_toArray,List.map_cons,List.map_nil]);first|done|rfl|(simp only [List.length_drop,List.length_take];rfl)) ?_;(with_reducible refine (laws_big.calls _ _ l0 false _ ?side1 ?side2 A2.out).mono ?_);(case side1 => repeat (first|exact HR0.out|(with_reducible refine Kd.C_alloc ?_ _)|(with_reducible refine Kd.C_drewN ?_ _)|(with_reducible refine Kd.C_drew ?_)));(case side2 => exact HC0.out);rintro e w' ⟨rfl,⟨nd,rfl⟩⟩;refine ⟨_,rfl,?_⟩)|((with_reducible refine gate_callee (f:=39) rfl ?_);refine goesL_ (some 14) rfl rfl Try.func39 (by kernel_rfl) rfl #[.slice A0 l0.length c0] rfl (by (try simp only [List.map_toArray,List.map_cons,List.map_nil]);first|done|rfl|(simp only [List.length_drop,List.length_take];rfl)) ?_;(with_reducible refine (spec_DrawPutFrame.calls k _ _ l0 t304 t305 t306 t307 _ ?side1 ?side2 A4.out).mono ?_);(case side1 => repeat (first|exact HR0.out|(with_reducible refine Kd.C_alloc ?_ _)|(with_reducible refine Kd.C_drewN ?_ _)|(with_reducible refine Kd.C_drew ?_)));(case side2 => exact HC0.out);rintro e w66 ⟨v308,rfl,ho0,hb⟩;refine ⟨_,rfl,?_⟩;have n0_:=Aside0.mk (Kd.R_lower ho0 (below_size (by repeat (first|(with_reducible first|exact HB.out|apply below_alloc|apply pw_below_drewN|apply below_drew1)|exact HB.out))));have n1_:=Aside0.mk (below_step (by repeat (first|(with_reducible first|exact HB.out|apply below_alloc|apply pw_below_drewN|apply below_drew1)|exact HB.out)) hb);clear HB;have HO309:=n0_;have HB:=n1_;clear n0_ n1_;(try clear hb);(try clear hb2);(try clear hk);(try clear hi);(try clear ho0))|((with_reducible refine gate_dst (N:=3) rfl ?_);(try (refine gate_guard (by rfl) ?_;dsimp only));refine box_event ?hg (N:=3) ?hd (cs:=#[.int .i64 0,.int .i64 0,.int .i64 0,.slice none 0 0]) (t:=59) ?hr ?_;(case hd => rfl);(case hg => rfl);(case hr => first|(go_simp;done)|(go_simp;rfl));intro gb310 hg w67 hbox hb;have n0_:=Aside0.mk (Kd.R_below (by (with_reducible repeat (first|apply k1_|apply k2_|apply k3_));exact HO309.out) hb);have n1_:=Aside0.mk (below_step (by repeat (first|(with_reducible first|exact HB.out|apply below_alloc|apply pw_below_drewN|apply below_drew1)|exact HB.out)) hb);have n2_:=Aside0.mk (hbox);have n3_:=Aside0.mk ((by rw [hg];exact (below_size (by repeat (first|(with_reducible first|exact HB.out|apply below_alloc|apply pw_below_drewN|apply below_drew1)|exact HB.out))) : w.heap.size ≤ gb310));have n4_:=Aside0.mk ((by rw [hg];exact (below_size (by repeat (first|(with_reducible first|exact HB.out|apply below_alloc|apply pw_below_drewN|apply below_drew1)|exact HB.out))) : w.heap.size ≤ gb310));clear HO309;clear HB;have HO309:=n0_;have HB:=n1_;have BK310:=n2_;have GW310:=n3_;have GE310:=n4_;clear n0_ n1_ n2_ n3_ n4_;clear hb hbox hg;have hcz68_0 : w67.cell? ⟨gb310,0,none⟩ = some (.int .i64 0):=(blk_cell BK310.out 0).trans rfl;have hcz68_1 : w67.cell? ⟨gb310,1,none⟩ = some (.int .i64 0):=(blk_cell BK310.out 1).trans rfl;have hcz68_2 : w67.cell? ⟨gb310,2,none⟩ = some (.int .i64 0):=(blk_cell BK310.out 2).trans rfl;have hcz68_3 : w67.cell? ⟨gb310,3,none⟩ = some (.slice none 0 0):=(blk_cell BK310.out 3).trans rfl;have hfz68_0:=blk_frozen BK310.out 0;have hfz68_1:=blk_frozen BK310.out 1;have hfz68_2:=blk_frozen BK310.out 2;have hfz68_3:=blk_frozen BK310.out 3;obtain ⟨Ao69,co69,eo69⟩:=Kd.R_slice HO309.out;subst eo69)|((with_reducible refine gate_callee (f:=40) rfl ?_);refine goesL_ (some 16) rfl rfl Try.func40 (by kernel_rfl) rfl #[.agg #[.int .i64 t304,.int .i64 t305,.int .i64 t306,.slice Ao69 t307.length co69]] rfl (by (try simp only [List.map_toArray,List.map_cons,List.map_nil]);first|done|rfl|(simp only [List.length_drop,List.length_take];rfl)) ?_;(with_reducible refine (impl_PutFrame.calls k t304 t305 t306 _ _ t307 t311 _ ?side1 ?side2 A5.out).mono ?_);(case side1 => refine (Kd.R_reads' (e:=5) (base:=w.heap.size) (ok:=fun k_ => True) (n:=t307.length) (c:=co69) ?_).2.2;exact (by (with_reducible repeat (first|apply k1_|apply k2_|apply k3_));exact (Kd.R_mono (k4_ (p:=⟨gb310,3,none⟩) (k4_ (p:=⟨gb310,2,none⟩) (k4_ (p:=⟨gb310,1,none⟩) (k4_ (p:=⟨gb310,0,none⟩) (Kd.R_types HO309.out BK310.out (by decide)) (fun _ hk => hk.2) (.int .i64 t304)) (fun _ hk => hk.2) (.int .i64 t305)) (fun _ hk => hk.2) (.int .i64 t306)) (fun _ hk => hk.2) (.slice Ao69 t307.length co69)) (fun _ h_ => h_.1))));(case side2 => exact (Kd.R_reads' HO309.out).2.1);rintro e w70 ⟨v312,rfl,ho0,hb⟩;refine ⟨_,rfl,?_⟩;have n0_:=Aside0.mk (Kd.R_elder' (by (with_reducible repeat (first|apply k1_|apply k2_|apply k3_));exact (Kd.R_mono (k4_ (p:=⟨gb310,3,none⟩) (k4_ (p:=⟨gb310,2,none⟩) (k4_ (p:=⟨gb310,1,none⟩) (k4_ (p:=⟨gb310,0,none⟩) (Kd.R_types HO309.out BK310.out (by decide)) (fun _ hk => hk.2) (.int .i64 t304)) (fun _ hk => hk.2) (.int .i64 t305)) (fun _ hk => hk.2) (.int .i64 t306)) (fun _ hk => hk.2) (.slice Ao69 t307.length co69)) (fun _ h_ => h_.1))) (Kd.R_base ho0) hb);have n1_:=Aside0.mk (Kd.R_lower (Kd.R_new' ho0 (Kd.R_lt (by (with_reducible repeat (first|apply k1_|apply k2_|apply k3_));exact (Kd.R_mono (k4_ (p:=⟨gb310,3,none⟩) (k4_ (p:=⟨gb310,2,none⟩) (k4_ (p:=⟨gb310,1,none⟩) (k4_ (p:=⟨gb310,0,none⟩) (Kd.R_types HO309.out BK310.out (by decide)) (fun _ hk => hk.2) (.int .i64 t304)) (fun _ hk => hk.2) (.int .i64 t305)) (fun _ hk => hk.2) (.int .i64 t306)) (fun _ hk => hk.2) (.slice Ao69 t307.length co69)) (fun _ h_ => h_.1))))) (below_size (by repeat (first|(with_reducible first|exact HB.out|apply below_alloc|apply pw_below_drewN|apply below_drew1|refine below_set ?_ GE310.out)|exact HB.out))));have n2_:=Aside0.mk (blk_below (g:=gb310) (o:=.cells #[.int .i64 t304,.int .i64 t305,.int .i64 t306,.slice Ao69 t307.length co69] 59 (0,0)) (by (with_reducible repeat (first|refine k6_ ?_ _|refine k7_ ?_|refine k5_ ?_ _));refine blk_put (cs:=#[.int .i64 t304,.int .i64 t305,.int .i64 t306,.slice none 0 0]) ?_ 3 _ rfl;(with_reducible repeat (first|refine k6_ ?_ _|refine k7_ ?_|refine k5_ ?_ _));refine blk_put (cs:=#[.int .i64 t304,.int .i64 t305,.int .i64 0,.slice none 0 0]) ?_ 2 _ rfl;(with_reducible repeat (first|refine k6_ ?_ _|refine k7_ ?_|refine k5_ ?_ _));refine blk_put (cs:=#[.int .i64 t304,.int .i64 0,.int .i64 0,.slice none 0 0]) ?_ 1 _ rfl;(with_reducible repeat (first|refine k6_ ?_ _|refine k7_ ?_|refine k5_ ?_ _));refine blk_put (cs:=#[.int .i64 0,.int .i64 0,.int .i64 0,.slice none 0 0]) ?_ 0 _ rfl;(with_reducible repeat (first|refine k6_ ?_ _|refine k7_ ?_|refine k5_ ?_ _));exact BK310.out) hb);have n3_:=Aside0.mk (below_step (by repeat (first|(with_reducible first|exact HB.out|apply below_alloc|apply pw_below_drewN|apply below_drew1|refine below_set ?_ GE310.out)|exact HB.out)) hb);clear HO309;clear BK310;clear HB;have HO309:=n0_;have HO313:=n1_;have BK310:=n2_;have HB:=n3_;clear n0_ n1_ n2_ n3_;(try clear hb);(try clear hb2);(try clear hk);(try clear hi);(try clear ho0);have hcz71_0 : w70.cell? ⟨gb310,0,none⟩ = some (.int .i64 t304):=(blk_cell BK310.out 0).trans rfl;have hcz71_1 : w70.cell? ⟨gb310,1,none⟩ = some (.int .i64 t305):=(blk_cell BK310.out 1).trans rfl;have hcz71_2 : w70.cell? ⟨gb310,2,none⟩ = some (.int .i64 t306):=(blk_cell BK310.out 2).trans rfl;have hcz71_3 : w70.cell? ⟨gb310,3,none⟩ = some (.slice Ao69 t307.length co69):=(blk_cell BK310.out 3).trans rfl;have hfz71_0:=blk_frozen BK310.out 0;have hfz71_1:=blk_frozen BK310.out 1;have hfz71_2:=blk_frozen BK310.out 2;have hfz71_3:=blk_frozen BK310.out 3)|((with_reducible refine gate_callee (f:=41) rfl ?_);refine goesL_ (some 18) rfl rfl Try.func41 (by kernel_rfl) rfl #[.agg #[.int .i64 t304,.int .i64 t305,.int .i64 t306,.slice Ao69 t307.length co69]] rfl (by (try simp only [List.map_toArray,List.map_cons,List.map_nil]);first|done|rfl|(simp only [List.length_drop,List.length_take];rfl)) ?_;(with_reducible refine (spec_FrameOk.calls t304 t305 t306 _ _ t307 false _ ?side1 ?side2 A6.out).mono ?_);(case side1 => repeat (first|exact (Kd.R_reads' HO309.out).2.2|(with_reducible refine Kd.C_alloc ?_ _)|(with_reducible refine Kd.C_drewN ?_ _)|(with_reducible refine Kd.C_drew ?_)));(case side2 => exact (Kd.R_reads' HO309.out).2.1);rintro e w72 ⟨rfl,hb⟩;refine ⟨_,rfl,?_⟩;have n0_:=Aside0.mk (Kd.R_below (by (with_reducible repeat (first|apply k1_|apply k2_|apply k3_));exact HO309.out) hb);have n1_:=Aside0.mk (Kd.R_below (by (with_reducible repeat (first|apply k1_|apply k2_|apply k3_));exact HO313.out) hb);have n2_:=Aside0.mk (blk_below (g:=gb310) (o:=.cells #[.int .i64 t304,.int .i64 t305,.int .i64 t306,.slice Ao69 t307.length co69] 59 (0,0)) (by (with_reducible repeat (first|refine k6_ ?_ _|refine k7_ ?_|refine k5_ ?_ _));exact BK310.out) hb);have n3_:=Aside0.mk (below_step (by repeat (first|(with_reducible first|exact HB.out|apply below_alloc|apply pw_below_drewN|apply below_drew1|refine below_set ?_ GE310.out)|exact HB.out)) hb);clear HO309;clear HO313;clear BK310;clear HB;have HO309:=n0_;have HO313:=n1_;have BK310:=n2_;have HB:=n3_;clear n0_ n1_ n2_ n3_;(try clear hb);(try clear hb2);(try clear hk);(try clear hi);obtain ⟨Ao73,co73,eo73⟩:=Kd.R_slice HO313.out;subst eo73;have hcz74_0 : w72.cell? ⟨gb310,0,none⟩ = some (.int .i64 t304):=(blk_cell BK310.out 0).trans rfl;have hcz74_1 : w72.cell? ⟨gb310,1,none⟩ = some (.int .i64 t305):=(blk_cell BK310.out 1).trans rfl;have hcz74_2 : w72.cell? ⟨gb310,2,none⟩ = some (.int .i64 t306):=(blk_cell BK310.out 2).trans rfl;have hcz74_3 : w72.cell? ⟨gb310,3,none⟩ = some (.slice Ao69 t307.length co69):=(blk_cell BK310.out 3).trans rfl;have hfz74_0:=blk_frozen BK310.out 0;have hfz74_1:=blk_frozen BK310.out 1;have hfz74_2:=blk_frozen BK310.out 2;have hfz74_3:=blk_frozen BK310.out 3)|(go_at_call 35;(with_reducible refine (impl_FrameCode.calls k t304 t305 t306 _ _ t307 t315 _ ?side1 ?side2 A65.out).mono ?_);(case side1 => repeat (first|exact (Kd.R_reads' HO309.out).2.2|(with_reducible refine Kd.C_alloc ?_ _)|(with_reducible refine Kd.C_drewN ?_ _)|(with_reducible refine Kd.C_drew ?_)));(case side2 => exact (Kd.R_reads' HO309.out).2.1);rintro e w75 ⟨rfl,hb⟩;have n0_:=Aside0.mk (Kd.R_below (by (with_reducible repeat (first|apply k1_|apply k2_|apply k3_));exact HO309.out) hb);have n1_:=Aside0.mk (Kd.R_below (by (with_reducible repeat (first|apply k1_|apply k2_|apply k3_));exact HO313.out) hb);have n2_:=Aside0.mk (blk_below (g:=gb310) (o:=.cells #[.int .i64 t304,.int .i64 t305,.int .i64 t306,.slice Ao69 t307.length co69] 59 (0,0)) (by (with_reducible repeat (first|refine k6_ ?_ _|refine k7_ ?_|refine k5_ ?_ _));exact BK310.out) hb);have n3_:=Aside0.mk (below_step (by repeat (first|(with_reducible first|exact HB.out|apply below_alloc|apply pw_below_drewN|apply below_drew1|refine below_set ?_ GE310.out)|exact HB.out)) hb);clear HO309;clear HO313;clear BK310;clear HB;have HO309:=n0_;have HO313:=n1_;have BK310:=n2_;have HB:=n3_;clear n0_ n1_ n2_ n3_;(try clear hb);(try clear hb2);(try clear hk);(try clear hi)))
    go_ret
    exact ⟨by first|rfl|(simp [errW_none,errW_some] <;> rfl)|(simp [*,errW_none,errW_some] <;> rfl),by repeat (first|(with_reducible first|exact HB.out|apply below_alloc|apply pw_below_drewN|apply below_drew1|refine below_set ?_ GE310.out)|exact HB.out)⟩
   ·
    rw [if_neg c64] at H
    have c64b0 : ((t311.length : Int) == 0) = false:=beq_eq_false_iff_ne.mpr c64
    have c64b1 : ((t311.length : Int) != 0) = true:=bne_iff_ne.mpr c64
    have c64b2 : ¬ (t311 = []):=fun h_ => c64 (by rw [h_];rfl)
    obtain rfl:=Option.some.inj H
    go_enter Try.func8,Try.ntmps8
    go_wp2_with (first|((with_reducible refine gate_callee (f:=10) rfl ?_);refine goesL_ (some 12) rfl rfl Try.func10 (by kernel_rfl) rfl #[.slice A0 l0.length c0] rfl (by (try simp only [List.map_toArray,List.map_cons,List.map_nil]);first|done|rfl|(simp only [List.length_drop,List.length_take];rfl)) ?_;(with_reducible refine (laws_big.calls _ _ l0 false _ ?side1 ?side2 A2.out).mono ?_);(case side1 => repeat (first|exact HR0.out|(with_reducible refine Kd.C_alloc ?_ _)|(with_reducible refine Kd.C_drewN ?_ _)|(with_reducible refine Kd.C_drew ?_)));(case side2 => exact HC0.out);rintro e w' ⟨rfl,⟨nd,rfl⟩⟩;refine ⟨_,rfl,?_⟩)|((with_reducible refine gate_callee (f:=39) rfl ?_);refine goesL_ (some 14) rfl rfl Try.func39 (by kernel_rfl) rfl #[.slice A0 l0.length c0] rfl (by (try simp only [List.map_toArray,List.map_cons,List.map_nil]);first|done|rfl|(simp only [List.length_drop,List.length_take];rfl)) ?_;(with_reducible refine (spec_DrawPutFrame.calls k _ _ l0 t304 t305 t306 t307 _ ?side1 ?side2 A4.out).mono ?_);(case side1 => repeat (first|exact HR0.out|(with_reducible refine Kd.C_alloc ?_ _)|(with_reducible refine Kd.C_drewN ?_ _)|(with_reducible refine Kd.C_drew ?_)));(case side2 => exact HC0.out);rintro e w76 ⟨v308,rfl,ho0,hb⟩;refine ⟨_,rfl,?_⟩;have n0_:=Aside0.mk (Kd.R_lower ho0 (below_size (by repeat (first|(with_reducible first|exact HB.out|apply below_alloc|apply pw_below_drewN|apply below_drew1)|exact HB.out))));have n1_:=Aside0.mk (below_step (by repeat (first|(with_reducible first|exact HB.out|apply below_alloc|apply pw_below_drewN|apply below_drew1)|exact HB.out)) hb);clear HB;have HO309:=n0_;have HB:=n1_;clear n0_ n1_;(try clear hb);(try clear hb2);(try clear hk);(try clear hi);(try clear ho0))|((with_reducible refine gate_dst (N:=3) rfl ?_);(try (refine gate_guard (by rfl) ?_;dsimp only));refine box_event ?hg (N:=3) ?hd (cs:=#[.int .i64 0,.int .i64 0,.int .i64 0,.slice none 0 0]) (t:=59) ?hr ?_;(case hd => rfl);(case hg => rfl);(case hr => first|(go_simp;done)|(go_simp;rfl));intro gb310 hg w77 hbox hb;have n0_:=Aside0.mk (Kd.R_below (by (with_reducible repeat (first|apply k1_|apply k2_|apply k3_));exact HO309.out) hb);have n1_:=Aside0.mk (below_step (by repeat (first|(with_reducible first|exact HB.out|apply below_alloc|apply pw_below_drewN|apply below_drew1)|exact HB.out)) hb);have n2_:=Aside0.mk (hbox);have n3_:=Aside0.mk ((by rw [hg];exact (below_size (by repeat (first|(with_reducible first|exact HB.out|apply below_alloc|apply pw_below_drewN|apply below_drew1)|exact HB.out))) : w.heap.size ≤ gb310));have n4_:=Aside0.mk ((by rw [hg];exact (below_size (by repeat (first|(with_reducible first|exact HB.out|apply below_alloc|apply pw_below_drewN|apply below_drew1)|exact HB.out))) : w.heap.size ≤ gb310));clear HO309;clear HB;have HO309:=n0_;have HB:=n1_;have BK310:=n2_;have GW310:=n3_;have GE310:=n4_;clear n0_ n1_ n2_ n3_ n4_;clear hb hbox hg;have hcz78_0 : w77.cell? ⟨gb310,0,none⟩ = some (.int .i64 0):=(blk_cell BK310.out 0).trans rfl;have hcz78_1 : w77.cell? ⟨gb310,1,none⟩ = some (.int .i64 0):=(blk_cell BK310.out 1).trans rfl;have hcz78_2 : w77.cell? ⟨gb310,2,none⟩ = some (.int .i64 0):=(blk_cell BK310.out 2).trans rfl;have hcz78_3 : w77.cell? ⟨gb310,3,none⟩ = some (.slice none 0 0):=(blk_cell BK310.out 3).trans rfl;have hfz78_0:=blk_frozen BK310.out 0;have hfz78_1:=blk_frozen BK310.out 1;have hfz78_2:=blk_frozen BK310.out 2;have hfz78_3:=blk_frozen BK310.out 3;obtain ⟨Ao79,co79,eo79⟩:=Kd.R_slice HO309.out;subst eo79)|((with_reducible refine gate_callee (f:=40) rfl ?_);refine goesL_ (some 16) rfl rfl Try.func40 (by kernel_rfl) rfl #[.agg #[.int .i64 t304,.int .i64 t305,.int .i64 t306,.slice Ao79 t307.length co79]] rfl (by (try simp only [List.map_toArray,List.map_cons,List.map_nil]);first|done|rfl|(simp only [List.length_drop,List.length_take];rfl)) ?_;(with_reducible refine (impl_PutFrame.calls k t304 t305 t306 _ _ t307 t311 _ ?side1 ?side2 A5.out).mono ?_);(case side1 => refine (Kd.R_reads' (e:=5) (base:=w.heap.size) (ok:=fun k_ => True) (n:=t307.length) (c:=co79) ?_).2.2;exact (by (with_reducible repeat (first|apply k1_|apply k2_|apply k3_));exact (Kd.R_mono (k4_ (p:=⟨gb310,3,none⟩) (k4_ (p:=⟨gb310,2,none⟩) (k4_ (p:=⟨gb310,1,none⟩) (k4_ (p:=⟨gb310,0,none⟩) (Kd.R_types HO309.out BK310.out (by decide)) (fun _ hk => hk.2) (.int .i64 t304)) (fun _ hk => hk.2) (.int .i64 t305)) (fun _ hk => hk.2) (.int .i64 t306)) (fun _ hk => hk.2) (.slice Ao79 t307.length co79)) (fun _ h_ => h_.1))));(case side2 => exact (Kd.R_reads' HO309.out).2.1);rintro e w80 ⟨v312,rfl,ho0,hb⟩;refine ⟨_,rfl,?_⟩;have n0_:=Aside0.mk (Kd.R_elder' (by (with_reducible repeat (first|apply k1_|apply k2_|apply k3_));exact (Kd.R_mono (k4_ (p:=⟨gb310,3,none⟩) (k4_ (p:=⟨gb310,2,none⟩) (k4_ (p:=⟨gb310,1,none⟩) (k4_ (p:=⟨gb310,0,none⟩) (Kd.R_types HO309.out BK310.out (by decide)) (fun _ hk => hk.2) (.int .i64 t304)) (fun _ hk => hk.2) (.int .i64 t305)) (fun _ hk => hk.2) (.int .i64 t306)) (fun _ hk => hk.2) (.slice Ao79 t307.length co79)) (fun _ h_ => h_.1))) (Kd.R_base ho0) hb);have n1_:=Aside0.mk (Kd.R_lower (Kd.R_new' ho0 (Kd.R_lt (by (with_reducible repeat (first|apply k1_|apply k2_|apply k3_));exact (Kd.R_mono (k4_ (p:=⟨gb310,3,none⟩) (k4_ (p:=⟨gb310,2,none⟩) (k4_ (p:=⟨gb310,1,none⟩) (k4_ (p:=⟨gb310,0,none⟩) (Kd.R_types HO309.out BK310.out (by decide)) (fun _ hk => hk.2) (.int .i64 t304)) (fun _ hk => hk.2) (.int .i64 t305)) (fun _ hk => hk.2) (.int .i64 t306)) (fun _ hk => hk.2) (.slice Ao79 t307.length co79)) (fun _ h_ => h_.1))))) (below_size (by repeat (first|(with_reducible first|exact HB.out|apply below_alloc|apply pw_below_drewN|apply below_drew1|refine below_set ?_ GE310.out)|exact HB.out))));have n2_:=Aside0.mk (blk_below (g:=gb310) (o:=.cells #[.int .i64 t304,.int .i64 t305,.int .i64 t306,.slice Ao79 t307.length co79] 59 (0,0)) (by (with_reducible repeat (first|refine k6_ ?_ _|refine k7_ ?_|refine k5_ ?_ _));refine blk_put (cs:=#[.int .i64 t304,.int .i64 t305,.int .i64 t306,.slice none 0 0]) ?_ 3 _ rfl;(with_reducible repeat (first|refine k6_ ?_ _|refine k7_ ?_|refine k5_ ?_ _));refine blk_put (cs:=#[.int .i64 t304,.int .i64 t305,.int .i64 0,.slice none 0 0]) ?_ 2 _ rfl;(with_reducible repeat (first|refine k6_ ?_ _|refine k7_ ?_|refine k5_ ?_ _));refine blk_put (cs:=#[.int .i64 t304,.int .i64 0,.int .i64 0,.slice none 0 0]) ?_ 1 _ rfl;(with_reducible repeat (first|refine k6_ ?_ _|refine k7_ ?_|refine k5_ ?_ _));refine blk_put (cs:=#[.int .i64 0,.int .i64 0,.int .i64 0,.slice none 0 0]) ?_ 0 _ rfl;(with_reducible repeat (first|refine k6_ ?_ _|refine k7_ ?_|refine k5_ ?_ _));exact BK310.out) hb);have n3_:=Aside0.mk (below_step (by repeat (first|(with_reducible first|exact HB.out|apply below_alloc|apply pw_below_drewN|apply below_drew1|refine below_set ?_ GE310.out)|exact HB.out)) hb);clear HO309;clear BK310;clear HB;have HO309:=n0_;have HO313:=n1_;have BK310:=n2_;have HB:=n3_;clear n0_ n1_ n2_ n3_;(try clear hb);(try clear hb2);(try clear hk);(try clear hi);(try clear ho0);have hcz81_0 : w80.cell? ⟨gb310,0,none⟩ = some (.int .i64 t304):=(blk_cell BK310.out 0).trans rfl;have hcz81_1 : w80.cell? ⟨gb310,1,none⟩ = some (.int .i64 t305):=(blk_cell BK310.out 1).trans rfl;have hcz81_2 : w80.cell? ⟨gb310,2,none⟩ = some (.int .i64 t306):=(blk_cell BK310.out 2).trans rfl;have hcz81_3 : w80.cell? ⟨gb310,3,none⟩ = some (.slice Ao79 t307.length co79):=(blk_cell BK310.out 3).trans rfl;have hfz81_0:=blk_frozen BK310.out 0;have hfz81_1:=blk_frozen BK310.out 1;have hfz81_2:=blk_frozen BK310.out 2;have hfz81_3:=blk_frozen BK310.out 3)|((with_reducible refine gate_callee (f:=41) rfl ?_);refine goesL_ (some 18) rfl rfl Try.func41 (by kernel_rfl) rfl #[.agg #[.int .i64 t304,.int .i64 t305,.int .i64 t306,.slice Ao79 t307.length co79]] rfl (by (try simp only [List.map_toArray,List.map_cons,List.map_nil]);first|done|rfl|(simp only [List.length_drop,List.length_take];rfl)) ?_;(with_reducible refine (spec_FrameOk.calls t304 t305 t306 _ _ t307 false _ ?side1 ?side2 A6.out).mono ?_);(case side1 => repeat (first|exact (Kd.R_reads' HO309.out).2.2|(with_reducible refine Kd.C_alloc ?_ _)|(with_reducible refine Kd.C_drewN ?_ _)|(with_reducible refine Kd.C_drew ?_)));(case side2 => exact (Kd.R_reads' HO309.out).2.1);rintro e w82 ⟨rfl,hb⟩;refine ⟨_,rfl,?_⟩;have n0_:=Aside0.mk (Kd.R_below (by (with_reducible repeat (first|apply k1_|apply k2_|apply k3_));exact HO309.out) hb);have n1_:=Aside0.mk (Kd.R_below (by (with_reducible repeat (first|apply k1_|apply k2_|apply k3_));exact HO313.out) hb);have n2_:=Aside0.mk (blk_below (g:=gb310) (o:=.cells #[.int .i64 t304,.int .i64 t305,.int .i64 t306,.slice Ao79 t307.length co79] 59 (0,0)) (by (with_reducible repeat (first|refine k6_ ?_ _|refine k7_ ?_|refine k5_ ?_ _));exact BK310.out) hb);have n3_:=Aside0.mk (below_step (by repeat (first|(with_reducible first|exact HB.out|apply below_alloc|apply pw_below_drewN|apply below_drew1|refine below_set ?_ GE310.out)|exact HB.out)) hb);clear HO309;clear HO313;clear BK310;clear HB;have HO309:=n0_;have HO313:=n1_;have BK310:=n2_;have HB:=n3_;clear n0_ n1_ n2_ n3_;(try clear hb);(try clear hb2);(try clear hk);(try clear hi);obtain ⟨Ao83,co83,eo83⟩:=Kd.R_slice HO313.out;subst eo83))
    go_ret
    exact ⟨by first|rfl|(simp [errW_none,errW_some] <;> rfl)|(simp [*,errW_none,errW_some] <;> rfl),by repeat (first|(with_reducible first|exact HB.out|apply below_alloc|apply pw_below_drewN|apply below_drew1|refine below_set ?_ GE310.out)|exact HB.out)⟩

/-- THE ONE PURE STATEMENT of laws_FnOneFrame: yours. -/
def laws_FnOneFrame.Pure : Prop:=∀ (l0 : List Int),l0.length ≤ maxLen → l0.length * 1 ≤ 140737488351232 → (∀ x ∈ l0,(Lit.int .u8 x).wf = true) → ∃ k,laws_FnOneFrame.f k l0 = some true
theorem laws_FnOneFrame.walk (P : laws_FnOneFrame.Pure) (a0 : Option Addr) (len0 cap0 : Nat) (z0 : List Int) (w : World) (w0 : (a0 = none ∧ len0 = 0 ∧ cap0 = 0 ∧ z0 = []) ∨ ∃ x,a0 = some x ∧ len0 ≤ cap0 ∧ cap0 ≤ maxLen ∧ z0.length = cap0 ∧ (∀ i,i < z0.length → w.cell? (x.add i) = some (.int .u8 (z0.getD i 0))) ∧ ∀ n ∈ z0,(Lit.int .u8 n).wf = true) (y0 : len0 * 1 ≤ 140737488351232) :
 Calls Try.prog 8 #[.slice a0 len0 cap0] w fun e w' => e = .returned (.bool true) ∧ Below w.heap.size w w':=by
 obtain ⟨l0,rfl,hr0,hm0,hw0,hc0⟩:=ReadsInt.ofRowC w0
 obtain ⟨k,h⟩:=P l0 hm0 y0 hw0
 refine (laws_FnOneFrame.calls k _ _ l0 true w (Kd.C_of_reads (d:=(0 : Int)) (h1:=fun _ => rfl) hr0) hc0 h).mono ?_
 rintro e w' ⟨rfl,hd⟩
 exact ⟨rfl,hd⟩

end Go.Proofs.Ytlgfcpmihocheaa.A
