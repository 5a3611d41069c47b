/- Functions of the program and of the reference as plain Lean functions, that the machine's calls answer as they do, and laws of these. Written in part by a program of this session, out of the translation. Condition: each theorem's own. -/
import Derived.Test.YthflimnpiglgbaaGreatDoorPg1
import Derived.Test.YthflimnpiglgbaaGreatDoorPg2
import Derived.Test.YthflimnpiglgbaaGreatDoorPg4
import Derived.Test.YthflimnpiglgbaaGreatDoorPg6
import Derived.Test.YthflimnpiglgbaaGreatDoorV1
import Derived.Test.YthflimnpiglgbaaGreatDoorPg5
import Derived.Laws.BitsLemmas
import Derived.Laws.BitsAllLaws
import Derived.RowKit
section
namespace Go.Proofs.YthflimnpiglgbaaGreatDoor.A
open Go.RowKit Go.Proofs.YthflimnpiglgbaaGreatDoorW.PrintWords Go.Proofs.YthflimnpiglgbaaGreatDoorW.PrintLast Go.Proofs.YthflimnpiglgbaaGreatDoorW.PrintMore
attribute [local go_sem] max2_int min2_int max_two min_two max_three min_three max_four min_four   -- for this text's walks alone
set_option linter.unusedVariables false
set_option linter.unusedSimpArgs false

mutual
def laws_FnExactPutFields.j0 : Nat → List (S26) → List Int → List (S36) → List Int → Bool → Int → List (S26) → Int → List (S36) → Int → List (S36) → Int → List (S36) → Option (Bool)
 | 0,_,_,_,_,_,_,_,_,_,_,_,_,_ => none
 | k + 1,x1,x6,x9,x10,x54,x485000,x485001,x502000,x502001,x507000,x507001,x518000,x518001 => if x54 = true then (none) else ((laws_toTable.f k x485000 x485001).bind fun bt520 => ((laws_eqTable.f k x507000 x507001 bt520.1 bt520.2).bind fun t524 => (if t524 = true then ((laws_toFieldS.f k x1).bind fun t525 => ((laws_eqFieldS.f k x9 t525).bind fun t528 => (if t528 = true then ((laws_markTable.f k x507000 x507001 1).bind fun bt529 => ((laws_markFieldS.f k x9 bt529.1).bind fun bt531 => (if bt531.1 < 0 then (laws_FnExactPutFields.j1 k x1 x6 x10 true x485000 x485001 x502000 x502001 x518000 x518001) else ((laws_eqByteS.f k x10 x6).bind fun t533 => (if t533 = true then ((laws_eqTable.f k x518000 x518001 x502000 x502001).bind fun t534 => (laws_FnExactPutFields.j1 k x1 x6 x10 (!t534) x485000 x485001 x502000 x502001 x518000 x518001)) else (laws_FnExactPutFields.j1 k x1 x6 x10 true x485000 x485001 x502000 x502001 x518000 x518001)))))) else (none)))) else (none))))
def laws_FnExactPutFields.j1 : Nat → List (S26) → List Int → List Int → Bool → Int → List (S26) → Int → List (S36) → Int → List (S36) → Option (Bool)
 | 0,_,_,_,_,_,_,_,_,_,_ => none
 | k + 1,x1,x6,x10,x84,x485000,x485001,x502000,x502001,x518000,x518001 => if x84 = true then (none) else ((laws_markByteS.f k x10 1).bind fun bt535 => ((laws_markTable.f k x518000 x518001 bt535.1).bind fun bt537 => ((laws_heldByteS.f k bt535.2 1).bind fun t539 => (if t539 < 0 then (none) else ((laws_heldTable.f k x518000 bt537.2 t539).bind fun t540 => (if t540 < 0 then (none) else (if t540 = bt537.1 then ((laws_toTable.f k x485000 x485001).bind fun bt541 => ((laws_toFieldS.f k x1).bind fun t545 => ((impl_PutFields.f k bt541.1 bt541.2 t545).bind fun bt548 => ((laws_eqByteS.f k bt548.1 x6).bind fun t556 => (if t556 = true then ((laws_eqTable.f k bt548.2.1 bt548.2.2 x502000 x502001).bind fun t557 => (laws_FnExactPutFields.j2 k bt535.2 bt537.1 (!t557) x518000 bt537.2)) else (laws_FnExactPutFields.j2 k bt535.2 bt537.1 true x518000 bt537.2)))))) else (none))))))))
def laws_FnExactPutFields.j2 : Nat → List Int → Int → Bool → Int → List (S36) → Option (Bool)
 | 0,_,_,_,_,_ => none
 | k + 1,x10,x13,x121,x518000,x518001 => if x121 = true then (none) else ((laws_heldByteS.f k x10 1).bind fun t558 => (if t558 < 0 then (none) else ((laws_heldTable.f k x518000 x518001 t558).bind fun t559 => (if t559 < 0 then (none) else (if t559 = x13 then (some true) else (none))))))
end
def laws_FnExactPutFields.f (k : Nat) (a0_0 : Int) (l0_1 : List (S26)) (l1 : List (S26)) : Option (Bool):=(laws_szTable.f k a0_0 l0_1 1048576).bind fun t485 => (if t485 < 0 then (some true) else ((laws_szFieldS.f k l1 t485).bind fun t486 => (if t486 < 0 then (some true) else ((laws_toTable.f k a0_0 l0_1).bind fun bt487 => ((laws_toFieldS.f k l1).bind fun t491 => ((spec_PutFields.f k bt487.1 bt487.2 t491).bind fun bt494 => ((laws_toTable.f k a0_0 l0_1).bind fun bt502 => ((laws_toFieldS.f k l1).bind fun t507 => ((impl_PutFields.f k bt502.1 bt502.2 t507).bind fun bt510 => ((laws_eqByteS.f k bt510.1 bt494.1).bind fun t518 => (if t518 = true then ((laws_eqTable.f k bt510.2.1 bt510.2.2 bt494.2.1 bt494.2.2).bind fun t519 => (laws_FnExactPutFields.j0 k l1 bt494.1 t507 bt510.1 (!t519) a0_0 l0_1 bt494.2.1 bt494.2.2 bt502.1 bt502.2 bt510.2.1 bt510.2.2)) else (laws_FnExactPutFields.j0 k l1 bt494.1 t507 bt510.1 true a0_0 l0_1 bt494.2.1 bt494.2.2 bt502.1 bt502.2 bt510.2.1 bt510.2.2))))))))))))
theorem laws_FnExactPutFields.mono_l : ∀ k,(∀ y0 y1 y2 y3 y4 y5 y6 y7 y8 y9 y10 y11 y12,LeO (laws_FnExactPutFields.j0 k y0 y1 y2 y3 y4 y5 y6 y7 y8 y9 y10 y11 y12) (laws_FnExactPutFields.j0 (k + 1) y0 y1 y2 y3 y4 y5 y6 y7 y8 y9 y10 y11 y12)) ∧ (∀ y0 y1 y2 y3 y4 y5 y6 y7 y8 y9,LeO (laws_FnExactPutFields.j1 k y0 y1 y2 y3 y4 y5 y6 y7 y8 y9) (laws_FnExactPutFields.j1 (k + 1) y0 y1 y2 y3 y4 y5 y6 y7 y8 y9)) ∧ (∀ y0 y1 y2 y3 y4,LeO (laws_FnExactPutFields.j2 k y0 y1 y2 y3 y4) (laws_FnExactPutFields.j2 (k + 1) y0 y1 y2 y3 y4))
 | 0 => ⟨fun _ _ _ _ _ _ _ _ _ _ _ _ _ r h => by simp [laws_FnExactPutFields.j0] at h,fun _ _ _ _ _ _ _ _ _ _ r h => by simp [laws_FnExactPutFields.j1] at h,fun _ _ _ _ _ r h => by simp [laws_FnExactPutFields.j2] at h⟩
 | k + 1 => by
  obtain ⟨ih0,ih1,ih2⟩:=laws_FnExactPutFields.mono_l k
  refine ⟨?_,?_,?_⟩
  ·
   intro y0 y1 y2 y3 y4 y5 y6 y7 y8 y9 y10 y11 y12
   unfold laws_FnExactPutFields.j0
   repeat' first
   | (with_reducible exact ih0 _ _ _ _ _ _ _ _ _ _ _ _ _)
   | (with_reducible exact ih1 _ _ _ _ _ _ _ _ _ _)
   | (with_reducible exact ih2 _ _ _ _ _)
   | (with_reducible exact impl_PutFields.mono _ _ _ _)
   | (with_reducible exact laws_eqByteS.mono _ _ _)
   | (with_reducible exact laws_eqFieldS.mono _ _ _)
   | (with_reducible exact laws_eqTable.mono _ _ _ _ _)
   | (with_reducible exact laws_heldByteS.mono _ _ _)
   | (with_reducible exact laws_heldTable.mono _ _ _ _)
   | (with_reducible exact laws_markByteS.mono _ _ _)
   | (with_reducible exact laws_markFieldS.mono _ _ _)
   | (with_reducible exact laws_markTable.mono _ _ _ _)
   | (with_reducible exact laws_szFieldS.mono _ _ _)
   | (with_reducible exact laws_szTable.mono _ _ _ _)
   | (with_reducible exact laws_toFieldS.mono _ _)
   | (with_reducible exact laws_toTable.mono _ _ _)
   | (with_reducible exact spec_PutFields.mono _ _ _ _)
   | (with_reducible exact LeO.refl _)
   | (with_reducible exact LeO.none _)
   | (with_reducible refine LeO.ite ?_ ?_)
   | (with_reducible refine LeO.bind ?_ (fun _ => ?_))
   | exact ih0 _ _ _ _ _ _ _ _ _ _ _ _ _
   | exact ih1 _ _ _ _ _ _ _ _ _ _
   | exact ih2 _ _ _ _ _
   | exact impl_PutFields.mono _ _ _ _
   | exact laws_eqByteS.mono _ _ _
   | exact laws_eqFieldS.mono _ _ _
   | exact laws_eqTable.mono _ _ _ _ _
   | exact laws_heldByteS.mono _ _ _
   | exact laws_heldTable.mono _ _ _ _
   | exact laws_markByteS.mono _ _ _
   | exact laws_markFieldS.mono _ _ _
   | exact laws_markTable.mono _ _ _ _
   | exact laws_szFieldS.mono _ _ _
   | exact laws_szTable.mono _ _ _ _
   | exact laws_toFieldS.mono _ _
   | exact laws_toTable.mono _ _ _
   | exact spec_PutFields.mono _ _ _ _
   | exact LeO.none _
   | refine LeO.ite ?_ ?_
   | refine LeO.bind ?_ (fun _ => ?_)
  ·
   intro y0 y1 y2 y3 y4 y5 y6 y7 y8 y9
   unfold laws_FnExactPutFields.j1
   repeat' first
   | (with_reducible exact ih0 _ _ _ _ _ _ _ _ _ _ _ _ _)
   | (with_reducible exact ih1 _ _ _ _ _ _ _ _ _ _)
   | (with_reducible exact ih2 _ _ _ _ _)
   | (with_reducible exact impl_PutFields.mono _ _ _ _)
   | (with_reducible exact laws_eqByteS.mono _ _ _)
   | (with_reducible exact laws_eqFieldS.mono _ _ _)
   | (with_reducible exact laws_eqTable.mono _ _ _ _ _)
   | (with_reducible exact laws_heldByteS.mono _ _ _)
   | (with_reducible exact laws_heldTable.mono _ _ _ _)
   | (with_reducible exact laws_markByteS.mono _ _ _)
   | (with_reducible exact laws_markFieldS.mono _ _ _)
   | (with_reducible exact laws_markTable.mono _ _ _ _)
   | (with_reducible exact laws_szFieldS.mono _ _ _)
   | (with_reducible exact laws_szTable.mono _ _ _ _)
   | (with_reducible exact laws_toFieldS.mono _ _)
   | (with_reducible exact laws_toTable.mono _ _ _)
   | (with_reducible exact spec_PutFields.mono _ _ _ _)
   | (with_reducible exact LeO.refl _)
   | (with_reducible exact LeO.none _)
   | (with_reducible refine LeO.ite ?_ ?_)
   | (with_reducible refine LeO.bind ?_ (fun _ => ?_))
   | exact ih0 _ _ _ _ _ _ _ _ _ _ _ _ _
   | exact ih1 _ _ _ _ _ _ _ _ _ _
   | exact ih2 _ _ _ _ _
   | exact impl_PutFields.mono _ _ _ _
   | exact laws_eqByteS.mono _ _ _
   | exact laws_eqFieldS.mono _ _ _
   | exact laws_eqTable.mono _ _ _ _ _
   | exact laws_heldByteS.mono _ _ _
   | exact laws_heldTable.mono _ _ _ _
   | exact laws_markByteS.mono _ _ _
   | exact laws_markFieldS.mono _ _ _
   | exact laws_markTable.mono _ _ _ _
   | exact laws_szFieldS.mono _ _ _
   | exact laws_szTable.mono _ _ _ _
   | exact laws_toFieldS.mono _ _
   | exact laws_toTable.mono _ _ _
   | exact spec_PutFields.mono _ _ _ _
   | exact LeO.none _
   | refine LeO.ite ?_ ?_
   | refine LeO.bind ?_ (fun _ => ?_)
  ·
   intro y0 y1 y2 y3 y4
   unfold laws_FnExactPutFields.j2
   repeat' first
   | (with_reducible exact ih0 _ _ _ _ _ _ _ _ _ _ _ _ _)
   | (with_reducible exact ih1 _ _ _ _ _ _ _ _ _ _)
   | (with_reducible exact ih2 _ _ _ _ _)
   | (with_reducible exact impl_PutFields.mono _ _ _ _)
   | (with_reducible exact laws_eqByteS.mono _ _ _)
   | (with_reducible exact laws_eqFieldS.mono _ _ _)
   | (with_reducible exact laws_eqTable.mono _ _ _ _ _)
   | (with_reducible exact laws_heldByteS.mono _ _ _)
   | (with_reducible exact laws_heldTable.mono _ _ _ _)
   | (with_reducible exact laws_markByteS.mono _ _ _)
   | (with_reducible exact laws_markFieldS.mono _ _ _)
   | (with_reducible exact laws_markTable.mono _ _ _ _)
   | (with_reducible exact laws_szFieldS.mono _ _ _)
   | (with_reducible exact laws_szTable.mono _ _ _ _)
   | (with_reducible exact laws_toFieldS.mono _ _)
   | (with_reducible exact laws_toTable.mono _ _ _)
   | (with_reducible exact spec_PutFields.mono _ _ _ _)
   | (with_reducible exact LeO.refl _)
   | (with_reducible exact LeO.none _)
   | (with_reducible refine LeO.ite ?_ ?_)
   | (with_reducible refine LeO.bind ?_ (fun _ => ?_))
   | exact ih0 _ _ _ _ _ _ _ _ _ _ _ _ _
   | exact ih1 _ _ _ _ _ _ _ _ _ _
   | exact ih2 _ _ _ _ _
   | exact impl_PutFields.mono _ _ _ _
   | exact laws_eqByteS.mono _ _ _
   | exact laws_eqFieldS.mono _ _ _
   | exact laws_eqTable.mono _ _ _ _ _
   | exact laws_heldByteS.mono _ _ _
   | exact laws_heldTable.mono _ _ _ _
   | exact laws_markByteS.mono _ _ _
   | exact laws_markFieldS.mono _ _ _
   | exact laws_markTable.mono _ _ _ _
   | exact laws_szFieldS.mono _ _ _
   | exact laws_szTable.mono _ _ _ _
   | exact laws_toFieldS.mono _ _
   | exact laws_toTable.mono _ _ _
   | exact spec_PutFields.mono _ _ _ _
   | exact LeO.none _
   | refine LeO.ite ?_ ?_
   | refine LeO.bind ?_ (fun _ => ?_)
theorem laws_FnExactPutFields.mono : ∀ a0 a1 a2 k,LeO (laws_FnExactPutFields.f k a0 a1 a2) (laws_FnExactPutFields.f (k + 1) a0 a1 a2):=by
 intro a0 a1 a2 k
 obtain ⟨ih0,ih1,ih2⟩:=laws_FnExactPutFields.mono_l k
 unfold laws_FnExactPutFields.f
 repeat' first
  | (with_reducible exact ih0 _ _ _ _ _ _ _ _ _ _ _ _ _)
  | (with_reducible exact ih1 _ _ _ _ _ _ _ _ _ _)
  | (with_reducible exact ih2 _ _ _ _ _)
  | (with_reducible exact impl_PutFields.mono _ _ _ _)
  | (with_reducible exact laws_eqByteS.mono _ _ _)
  | (with_reducible exact laws_eqFieldS.mono _ _ _)
  | (with_reducible exact laws_eqTable.mono _ _ _ _ _)
  | (with_reducible exact laws_heldByteS.mono _ _ _)
  | (with_reducible exact laws_heldTable.mono _ _ _ _)
  | (with_reducible exact laws_markByteS.mono _ _ _)
  | (with_reducible exact laws_markFieldS.mono _ _ _)
  | (with_reducible exact laws_markTable.mono _ _ _ _)
  | (with_reducible exact laws_szFieldS.mono _ _ _)
  | (with_reducible exact laws_szTable.mono _ _ _ _)
  | (with_reducible exact laws_toFieldS.mono _ _)
  | (with_reducible exact laws_toTable.mono _ _ _)
  | (with_reducible exact spec_PutFields.mono _ _ _ _)
  | (with_reducible exact LeO.refl _)
  | (with_reducible exact LeO.none _)
  | (with_reducible refine LeO.ite ?_ ?_)
  | (with_reducible refine LeO.bind ?_ (fun _ => ?_))
  | exact ih0 _ _ _ _ _ _ _ _ _ _ _ _ _
  | exact ih1 _ _ _ _ _ _ _ _ _ _
  | exact ih2 _ _ _ _ _
  | exact impl_PutFields.mono _ _ _ _
  | exact laws_eqByteS.mono _ _ _
  | exact laws_eqFieldS.mono _ _ _
  | exact laws_eqTable.mono _ _ _ _ _
  | exact laws_heldByteS.mono _ _ _
  | exact laws_heldTable.mono _ _ _ _
  | exact laws_markByteS.mono _ _ _
  | exact laws_markFieldS.mono _ _ _
  | exact laws_markTable.mono _ _ _ _
  | exact laws_szFieldS.mono _ _ _
  | exact laws_szTable.mono _ _ _ _
  | exact laws_toFieldS.mono _ _
  | exact laws_toTable.mono _ _ _
  | exact spec_PutFields.mono _ _ _ _
  | exact LeO.none _
  | refine LeO.ite ?_ ?_
  | refine LeO.bind ?_ (fun _ => ?_)
set_option maxHeartbeats 8000000 in
set_option maxRecDepth 100000 in
theorem laws_FnExactPutFields.calls (k : Nat) (a0_0 : Int) (A0_1 : Option Addr) (c0_1 : Nat) (l0_1 : List (S26)) (A1 : Option Addr) (c1 : Nat) (l1 : List (S26)) (r : Bool) (w : World) (hr0_1 : Kd.C k26 w A0_1 l0_1.length l0_1) (hc0_1 : l0_1.length ≤ c0_1) (hr1 : Kd.C k26 w A1 l1.length l1) (hc1 : l1.length ≤ c1) (ht : TB w) (h : laws_FnExactPutFields.f k a0_0 l0_1 l1 = some r) :
 Calls Tryz.prog 4 #[.agg #[.int .i64 a0_0,.slice A0_1 l0_1.length c0_1],.slice A1 l1.length c1] w fun e w' => e = .returned (.bool r) ∧ Below w.heap.size w w':=by
 have hu24:=Tryz.underlying24
 have hu32:=Tryz.underlying32
 have HR0_1:=zm0_ hr0_1
 have HC0_1:=zm0_ hc0_1
 clear hr0_1 hc0_1
 have HR1:=zm0_ hr1
 have HC1:=zm0_ hc1
 clear hr1 hc1
 have HB:=zm0_ (Below.refl w.heap.size w)
 have H : ((laws_szTable.f k a0_0 l0_1 1048576).bind fun t485 => (if t485 < 0 then (some true) else ((laws_szFieldS.f k l1 t485).bind fun t486 => (if t486 < 0 then (some true) else ((laws_toTable.f k a0_0 l0_1).bind fun bt487 => ((laws_toFieldS.f k l1).bind fun t491 => ((spec_PutFields.f k bt487.1 bt487.2 t491).bind fun bt494 => ((laws_toTable.f k a0_0 l0_1).bind fun bt502 => ((laws_toFieldS.f k l1).bind fun t507 => ((impl_PutFields.f k bt502.1 bt502.2 t507).bind fun bt510 => ((laws_eqByteS.f k bt510.1 bt494.1).bind fun t518 => (if t518 = true then ((laws_eqTable.f k bt510.2.1 bt510.2.2 bt494.2.1 bt494.2.2).bind fun t519 => (laws_FnExactPutFields.j0 k l1 bt494.1 t507 bt510.1 (!t519) a0_0 l0_1 bt494.2.1 bt494.2.2 bt502.1 bt502.2 bt510.2.1 bt510.2.2)) else (laws_FnExactPutFields.j0 k l1 bt494.1 t507 bt510.1 true a0_0 l0_1 bt494.2.1 bt494.2.2 bt502.1 bt502.2 bt510.2.1 bt510.2.2))))))))))))) = some r:=h
 clear h
 replace H:=zq1_ H
 obtain ⟨t485,A30,H⟩:=H
 replace H : (if t485 < 0 then (some true) else ((laws_szFieldS.f k l1 t485).bind fun t486 => (if t486 < 0 then (some true) else ((laws_toTable.f k a0_0 l0_1).bind fun bt487 => ((laws_toFieldS.f k l1).bind fun t491 => ((spec_PutFields.f k bt487.1 bt487.2 t491).bind fun bt494 => ((laws_toTable.f k a0_0 l0_1).bind fun bt502 => ((laws_toFieldS.f k l1).bind fun t507 => ((impl_PutFields.f k bt502.1 bt502.2 t507).bind fun bt510 => ((laws_eqByteS.f k bt510.1 bt494.1).bind fun t518 => (if t518 = true then ((laws_eqTable.f k bt510.2.1 bt510.2.2 bt494.2.1 bt494.2.2).bind fun t519 => (laws_FnExactPutFields.j0 k l1 bt494.1 t507 bt510.1 (!t519) a0_0 l0_1 bt494.2.1 bt494.2.2 bt502.1 bt502.2 bt510.2.1 bt510.2.2)) else (laws_FnExactPutFields.j0 k l1 bt494.1 t507 bt510.1 true a0_0 l0_1 bt494.2.1 bt494.2.2 bt502.1 bt502.2 bt510.2.1 bt510.2.2)))))))))))) = some r:=H
 have A3:=zm0_ A30
 clear A30
 by_cases c4 : t485 < 0
 ·
  rw [if_pos c4] at H
  have c4b0 : decide (t485 < 0) = true:=decide_eq_true c4
  clear c4
  obtain rfl:=Option.some.inj H
  go_enter Tryz.func4,Tryz.ntmps4
  go_wp2_with (first|((with_reducible refine gate_dst (N:=2) rfl ?_);refine box_event ?hg (N:=2) ?hd (cs:=#[.int .i64 a0_0,.slice A0_1 l0_1.length c0_1]) (t:=24) ?hr ?_;(case hd => rfl);(case hg => rfl);(case hr => first|(go_simp;done)|(go_simp;rfl));intro gb484 hg w5 hbox hb;have BK484:=zm0_ (hbox);have GW484:=zm0_ ((by rw [hg];exact (zn9_ (zl HB)) : w.heap.size ≤ gb484));have GE484:=zm0_ ((by rw [hg];exact (zn9_ (zl HB)) : w.heap.size ≤ gb484));replace HB:=zm0_ (zn8_ (zl HB) hb);clear hb hbox hg;have hcz6_0 : w5.cell? ⟨gb484,0,none⟩ = some (.int .i64 a0_0):=(zm6_ BK484.out 0).trans rfl;have hcz6_1 : w5.cell? ⟨gb484,1,none⟩ = some (.slice A0_1 l0_1.length c0_1):=(zm6_ BK484.out 1).trans rfl;have hfz6_0:=zm7_ BK484.out 0;have hfz6_1:=zm7_ BK484.out 1)|((with_reducible refine gate_callee (f:=5) rfl ?_);refine goesL_ (some 19) rfl rfl Tryz.func5 (by kernel_rfl) rfl #[.agg #[.int .i64 a0_0,.slice A0_1 l0_1.length c0_1],.int .i64 1048576] rfl zy ?_;(with_reducible refine (laws_szTable.calls k a0_0 _ _ l0_1 1048576 t485 _ ?side1 ?side2 A3.out).mono ?_);(case side1 => repeat (first|exact (Kd.C_below HR0_1.out HB.out)|(with_reducible refine Kd.C_alloc ?_ _)|(with_reducible refine Kd.C_drewN ?_ _)|(with_reducible refine Kd.C_drew ?_)));(case side2 => exact HC0_1.out);rintro e w7 ⟨rfl,hb⟩;refine ⟨_,rfl,?_⟩;replace BK484:=zm0_ (zm5_ (zb BK484) hb);replace HB:=zm0_ (zn8_ (zl1 HB GE484) hb);(try clear hb);(try clear hb2);(try clear hk);(try clear hi)))
  go_ret
  exact ⟨ze,by repeat (first|(with_reducible first|exact HB.out|apply zm3_|apply zm2_|apply zm4_|refine zm1_ ?_ GE484.out)|exact HB.out)⟩
 ·
  rw [if_neg c4] at H
  have c4b0 : decide (t485 < 0) = false:=decide_eq_false c4
  clear c4
  replace H:=zq1_ H
  obtain ⟨t486,A80,H⟩:=H
  replace H : (if t486 < 0 then (some true) else ((laws_toTable.f k a0_0 l0_1).bind fun bt487 => ((laws_toFieldS.f k l1).bind fun t491 => ((spec_PutFields.f k bt487.1 bt487.2 t491).bind fun bt494 => ((laws_toTable.f k a0_0 l0_1).bind fun bt502 => ((laws_toFieldS.f k l1).bind fun t507 => ((impl_PutFields.f k bt502.1 bt502.2 t507).bind fun bt510 => ((laws_eqByteS.f k bt510.1 bt494.1).bind fun t518 => (if t518 = true then ((laws_eqTable.f k bt510.2.1 bt510.2.2 bt494.2.1 bt494.2.2).bind fun t519 => (laws_FnExactPutFields.j0 k l1 bt494.1 t507 bt510.1 (!t519) a0_0 l0_1 bt494.2.1 bt494.2.2 bt502.1 bt502.2 bt510.2.1 bt510.2.2)) else (laws_FnExactPutFields.j0 k l1 bt494.1 t507 bt510.1 true a0_0 l0_1 bt494.2.1 bt494.2.2 bt502.1 bt502.2 bt510.2.1 bt510.2.2)))))))))) = some r:=H
  have A8:=zm0_ A80
  clear A80
  by_cases c9 : t486 < 0
  ·
   rw [if_pos c9] at H
   have c9b0 : decide (t486 < 0) = true:=decide_eq_true c9
   clear c9
   obtain rfl:=Option.some.inj H
   go_enter Tryz.func4,Tryz.ntmps4
   go_wp2_with (first|((with_reducible refine gate_dst (N:=2) rfl ?_);refine box_event ?hg (N:=2) ?hd (cs:=#[.int .i64 a0_0,.slice A0_1 l0_1.length c0_1]) (t:=24) ?hr ?_;(case hd => rfl);(case hg => rfl);(case hr => first|(go_simp;done)|(go_simp;rfl));intro gb484 hg w10 hbox hb;have BK484:=zm0_ (hbox);have GW484:=zm0_ ((by rw [hg];exact (zn9_ (zl HB)) : w.heap.size ≤ gb484));have GE484:=zm0_ ((by rw [hg];exact (zn9_ (zl HB)) : w.heap.size ≤ gb484));replace HB:=zm0_ (zn8_ (zl HB) hb);clear hb hbox hg;have hcz11_0 : w10.cell? ⟨gb484,0,none⟩ = some (.int .i64 a0_0):=(zm6_ BK484.out 0).trans rfl;have hcz11_1 : w10.cell? ⟨gb484,1,none⟩ = some (.slice A0_1 l0_1.length c0_1):=(zm6_ BK484.out 1).trans rfl;have hfz11_0:=zm7_ BK484.out 0;have hfz11_1:=zm7_ BK484.out 1)|((with_reducible refine gate_callee (f:=5) rfl ?_);refine goesL_ (some 19) rfl rfl Tryz.func5 (by kernel_rfl) rfl #[.agg #[.int .i64 a0_0,.slice A0_1 l0_1.length c0_1],.int .i64 1048576] rfl zy ?_;(with_reducible refine (laws_szTable.calls k a0_0 _ _ l0_1 1048576 t485 _ ?side1 ?side2 A3.out).mono ?_);(case side1 => repeat (first|exact (Kd.C_below HR0_1.out HB.out)|(with_reducible refine Kd.C_alloc ?_ _)|(with_reducible refine Kd.C_drewN ?_ _)|(with_reducible refine Kd.C_drew ?_)));(case side2 => exact HC0_1.out);rintro e w12 ⟨rfl,hb⟩;refine ⟨_,rfl,?_⟩;replace BK484:=zm0_ (zm5_ (zb BK484) hb);replace HB:=zm0_ (zn8_ (zl1 HB GE484) hb);(try clear hb);(try clear hb2);(try clear hk);(try clear hi))|((with_reducible refine gate_callee (f:=17) rfl ?_);refine goesL_ (some 24) rfl rfl Tryz.func17 (by kernel_rfl) rfl #[.slice A1 l1.length c1,.int .i64 t485] rfl zy ?_;(with_reducible refine (laws_szFieldS.calls k _ _ l1 t485 t486 _ ?side1 ?side2 A8.out).mono ?_);(case side1 => repeat (first|exact (Kd.C_below HR1.out HB.out)|(with_reducible refine Kd.C_alloc ?_ _)|(with_reducible refine Kd.C_drewN ?_ _)|(with_reducible refine Kd.C_drew ?_)));(case side2 => exact HC1.out);rintro e w13 ⟨rfl,hb⟩;refine ⟨_,rfl,?_⟩;replace BK484:=zm0_ (zm5_ (zb BK484) hb);replace HB:=zm0_ (zn8_ (zl1 HB GE484) hb);(try clear hb);(try clear hb2);(try clear hk);(try clear hi)))
   go_ret
   exact ⟨ze,by repeat (first|(with_reducible first|exact HB.out|apply zm3_|apply zm2_|apply zm4_|refine zm1_ ?_ GE484.out)|exact HB.out)⟩
  ·
   rw [if_neg c9] at H
   have c9b0 : decide (t486 < 0) = false:=decide_eq_false c9
   clear c9
   replace H:=zq1_ H
   obtain ⟨⟨t487,t488⟩,A140,H⟩:=H
   replace H : ((laws_toFieldS.f k l1).bind fun t491 => ((spec_PutFields.f k t487 t488 t491).bind fun bt494 => ((laws_toTable.f k a0_0 l0_1).bind fun bt502 => ((laws_toFieldS.f k l1).bind fun t507 => ((impl_PutFields.f k bt502.1 bt502.2 t507).bind fun bt510 => ((laws_eqByteS.f k bt510.1 bt494.1).bind fun t518 => (if t518 = true then ((laws_eqTable.f k bt510.2.1 bt510.2.2 bt494.2.1 bt494.2.2).bind fun t519 => (laws_FnExactPutFields.j0 k l1 bt494.1 t507 bt510.1 (!t519) a0_0 l0_1 bt494.2.1 bt494.2.2 bt502.1 bt502.2 bt510.2.1 bt510.2.2)) else (laws_FnExactPutFields.j0 k l1 bt494.1 t507 bt510.1 true a0_0 l0_1 bt494.2.1 bt494.2.2 bt502.1 bt502.2 bt510.2.1 bt510.2.2)))))))) = some r:=H
   have A14:=zm0_ A140
   clear A140
   replace H:=zq1_ H
   obtain ⟨t491,A150,H⟩:=H
   replace H : ((spec_PutFields.f k t487 t488 t491).bind fun bt494 => ((laws_toTable.f k a0_0 l0_1).bind fun bt502 => ((laws_toFieldS.f k l1).bind fun t507 => ((impl_PutFields.f k bt502.1 bt502.2 t507).bind fun bt510 => ((laws_eqByteS.f k bt510.1 bt494.1).bind fun t518 => (if t518 = true then ((laws_eqTable.f k bt510.2.1 bt510.2.2 bt494.2.1 bt494.2.2).bind fun t519 => (laws_FnExactPutFields.j0 k l1 bt494.1 t507 bt510.1 (!t519) a0_0 l0_1 bt494.2.1 bt494.2.2 bt502.1 bt502.2 bt510.2.1 bt510.2.2)) else (laws_FnExactPutFields.j0 k l1 bt494.1 t507 bt510.1 true a0_0 l0_1 bt494.2.1 bt494.2.2 bt502.1 bt502.2 bt510.2.1 bt510.2.2))))))) = some r:=H
   have A15:=zm0_ A150
   clear A150
   replace H:=zq1_ H
   obtain ⟨⟨t494,t497,t498⟩,A160,H⟩:=H
   replace H : ((laws_toTable.f k a0_0 l0_1).bind fun bt502 => ((laws_toFieldS.f k l1).bind fun t507 => ((impl_PutFields.f k bt502.1 bt502.2 t507).bind fun bt510 => ((laws_eqByteS.f k bt510.1 t494).bind fun t518 => (if t518 = true then ((laws_eqTable.f k bt510.2.1 bt510.2.2 t497 t498).bind fun t519 => (laws_FnExactPutFields.j0 k l1 t494 t507 bt510.1 (!t519) a0_0 l0_1 t497 t498 bt502.1 bt502.2 bt510.2.1 bt510.2.2)) else (laws_FnExactPutFields.j0 k l1 t494 t507 bt510.1 true a0_0 l0_1 t497 t498 bt502.1 bt502.2 bt510.2.1 bt510.2.2)))))) = some r:=H
   have A16:=zm0_ A160
   clear A160
   replace H:=zq1_ H
   obtain ⟨⟨t502,t503⟩,A170,H⟩:=H
   replace H : ((laws_toFieldS.f k l1).bind fun t507 => ((impl_PutFields.f k t502 t503 t507).bind fun bt510 => ((laws_eqByteS.f k bt510.1 t494).bind fun t518 => (if t518 = true then ((laws_eqTable.f k bt510.2.1 bt510.2.2 t497 t498).bind fun t519 => (laws_FnExactPutFields.j0 k l1 t494 t507 bt510.1 (!t519) a0_0 l0_1 t497 t498 t502 t503 bt510.2.1 bt510.2.2)) else (laws_FnExactPutFields.j0 k l1 t494 t507 bt510.1 true a0_0 l0_1 t497 t498 t502 t503 bt510.2.1 bt510.2.2))))) = some r:=H
   have A17:=zm0_ A170
   clear A170
   replace H:=zq1_ H
   obtain ⟨t507,A180,H⟩:=H
   replace H : ((impl_PutFields.f k t502 t503 t507).bind fun bt510 => ((laws_eqByteS.f k bt510.1 t494).bind fun t518 => (if t518 = true then ((laws_eqTable.f k bt510.2.1 bt510.2.2 t497 t498).bind fun t519 => (laws_FnExactPutFields.j0 k l1 t494 t507 bt510.1 (!t519) a0_0 l0_1 t497 t498 t502 t503 bt510.2.1 bt510.2.2)) else (laws_FnExactPutFields.j0 k l1 t494 t507 bt510.1 true a0_0 l0_1 t497 t498 t502 t503 bt510.2.1 bt510.2.2)))) = some r:=H
   have A18:=zm0_ A180
   clear A180
   replace H:=zq1_ H
   obtain ⟨⟨t510,t513,t514⟩,A190,H⟩:=H
   replace H : ((laws_eqByteS.f k t510 t494).bind fun t518 => (if t518 = true then ((laws_eqTable.f k t513 t514 t497 t498).bind fun t519 => (laws_FnExactPutFields.j0 k l1 t494 t507 t510 (!t519) a0_0 l0_1 t497 t498 t502 t503 t513 t514)) else (laws_FnExactPutFields.j0 k l1 t494 t507 t510 true a0_0 l0_1 t497 t498 t502 t503 t513 t514))) = some r:=H
   have A19:=zm0_ A190
   clear A190
   have HC20:=zm0_ H
   clear H
   go_enter Tryz.func4,Tryz.ntmps4
   go_upto_region 12 with (first|((with_reducible refine gate_dst (N:=2) rfl ?_);refine box_event ?hg (N:=2) ?hd (cs:=#[.int .i64 a0_0,.slice A0_1 l0_1.length c0_1]) (t:=24) ?hr ?_;(case hd => rfl);(case hg => rfl);(case hr => first|(go_simp;done)|(go_simp;rfl));intro gb484 hg w21 hbox hb;have BK484:=zm0_ (hbox);have GW484:=zm0_ ((by rw [hg];exact (zn9_ (zl HB)) : w.heap.size ≤ gb484));have GE484:=zm0_ ((by rw [hg];exact (zn9_ (zl HB)) : w.heap.size ≤ gb484));replace HB:=zm0_ (zn8_ (zl HB) hb);clear hb hbox hg;have hcz22_0 : w21.cell? ⟨gb484,0,none⟩ = some (.int .i64 a0_0):=(zm6_ BK484.out 0).trans rfl;have hcz22_1 : w21.cell? ⟨gb484,1,none⟩ = some (.slice A0_1 l0_1.length c0_1):=(zm6_ BK484.out 1).trans rfl;have hfz22_0:=zm7_ BK484.out 0;have hfz22_1:=zm7_ BK484.out 1)|((with_reducible refine gate_callee (f:=5) rfl ?_);refine goesL_ (some 19) rfl rfl Tryz.func5 (by kernel_rfl) rfl #[.agg #[.int .i64 a0_0,.slice A0_1 l0_1.length c0_1],.int .i64 1048576] rfl zy ?_;(with_reducible refine (laws_szTable.calls k a0_0 _ _ l0_1 1048576 t485 _ ?side1 ?side2 A3.out).mono ?_);(case side1 => repeat (first|exact (Kd.C_below HR0_1.out HB.out)|(with_reducible refine Kd.C_alloc ?_ _)|(with_reducible refine Kd.C_drewN ?_ _)|(with_reducible refine Kd.C_drew ?_)));(case side2 => exact HC0_1.out);rintro e w23 ⟨rfl,hb⟩;refine ⟨_,rfl,?_⟩;replace BK484:=zm0_ (zm5_ (zb BK484) hb);replace HB:=zm0_ (zn8_ (zl1 HB GE484) hb);(try clear hb);(try clear hb2);(try clear hk);(try clear hi))|((with_reducible refine gate_callee (f:=17) rfl ?_);refine goesL_ (some 24) rfl rfl Tryz.func17 (by kernel_rfl) rfl #[.slice A1 l1.length c1,.int .i64 t485] rfl zy ?_;(with_reducible refine (laws_szFieldS.calls k _ _ l1 t485 t486 _ ?side1 ?side2 A8.out).mono ?_);(case side1 => repeat (first|exact (Kd.C_below HR1.out HB.out)|(with_reducible refine Kd.C_alloc ?_ _)|(with_reducible refine Kd.C_drewN ?_ _)|(with_reducible refine Kd.C_drew ?_)));(case side2 => exact HC1.out);rintro e w24 ⟨rfl,hb⟩;refine ⟨_,rfl,?_⟩;replace BK484:=zm0_ (zm5_ (zb BK484) hb);replace HB:=zm0_ (zn8_ (zl1 HB GE484) hb);(try clear hb);(try clear hb2);(try clear hk);(try clear hi);have hcz25_0 : w24.cell? ⟨gb484,0,none⟩ = some (.int .i64 a0_0):=(zm6_ BK484.out 0).trans rfl;have hcz25_1 : w24.cell? ⟨gb484,1,none⟩ = some (.slice A0_1 l0_1.length c0_1):=(zm6_ BK484.out 1).trans rfl;have hfz25_0:=zm7_ BK484.out 0;have hfz25_1:=zm7_ BK484.out 1)|((with_reducible refine gate_callee (f:=8) rfl ?_);refine goesL_ (some 29) rfl rfl Tryz.func8 (by kernel_rfl) rfl #[.agg #[.int .i64 a0_0,.slice A0_1 l0_1.length c0_1]] rfl zy ?_;(with_reducible refine (laws_toTable.calls k a0_0 _ _ l0_1 t487 t488 _ ?side1 ?side2 A14.out).mono ?_);(case side1 => repeat (first|exact (Kd.C_below HR0_1.out HB.out)|(with_reducible refine Kd.C_alloc ?_ _)|(with_reducible refine Kd.C_drewN ?_ _)|(with_reducible refine Kd.C_drew ?_)));(case side2 => exact HC0_1.out);rintro e w26 ⟨v489,rfl,ho0,hb⟩;refine ⟨_,rfl,?_⟩;have HO490:=zm0_ (zo1_ ho0 (zn9_ (zl1 HB GE484)));replace BK484:=zm0_ (zm5_ (zb BK484) hb);replace HB:=zm0_ (zn8_ (zl1 HB GE484) hb);(try clear hb);(try clear hb2);(try clear hk);(try clear hi);(try clear ho0))|((with_reducible refine gate_callee (f:=19) rfl ?_);refine goesL_ (some 31) rfl rfl Tryz.func19 (by kernel_rfl) rfl #[.slice A1 l1.length c1] rfl zy ?_;(with_reducible refine (laws_toFieldS.calls k _ _ l1 t491 _ ?side1 ?side2 A15.out).mono ?_);(case side1 => repeat (first|exact (Kd.C_below HR1.out HB.out)|(with_reducible refine Kd.C_alloc ?_ _)|(with_reducible refine Kd.C_drewN ?_ _)|(with_reducible refine Kd.C_drew ?_)));(case side2 => exact HC1.out);rintro e w27 ⟨v492,rfl,ho0,hb⟩;refine ⟨_,rfl,?_⟩;have HO493:=zm0_ (zo1_ (Kd.R_new' ho0 (Kd.R_lt (zr HO490))) (zn9_ (zl1 HB GE484)));replace HO490:=zm0_ (Kd.R_elder' (zr HO490) (Kd.R_base ho0) hb);replace BK484:=zm0_ (zm5_ (zb BK484) hb);replace HB:=zm0_ (zn8_ (zl1 HB GE484) hb);(try clear hb);(try clear hb2);(try clear hk);(try clear hi);(try clear ho0);obtain ⟨Ao28,co28,eo28⟩:=Kd.R_slice HO490.out;subst eo28;obtain ⟨Ao29,co29,eo29⟩:=Kd.R_slice HO493.out;subst eo29)|((with_reducible refine gate_callee (f:=18) rfl ?_);refine goesL_ (some 32) rfl rfl Tryz.func18 (by kernel_rfl) rfl #[.agg #[.int .i64 t487,.slice Ao28 t488.length co28],.slice Ao29 t491.length co29] rfl zy ?_;(with_reducible refine (spec_PutFields.calls k t487 _ _ t488 _ _ t491 t494 t497 t498 _ ?side1 ?side2 ?side3 ?side4 A16.out).mono ?_);(case side1 => repeat (first|exact (Kd.R_reads' HO490.out).2.2|(with_reducible refine Kd.C_alloc ?_ _)|(with_reducible refine Kd.C_drewN ?_ _)|(with_reducible refine Kd.C_drew ?_)));(case side2 => exact (Kd.R_reads' HO490.out).2.1);(case side3 => repeat (first|exact (Kd.R_reads' HO493.out).2.2|(with_reducible refine Kd.C_alloc ?_ _)|(with_reducible refine Kd.C_drewN ?_ _)|(with_reducible refine Kd.C_drew ?_)));(case side4 => exact (Kd.R_reads' HO493.out).2.1);rintro e w30 ⟨v495,v499,rfl,ho0,ho1,hb⟩;refine ⟨_,rfl,?_⟩;have HO496:=zm0_ (zo1_ ho0 (zn9_ (zl1 HB GE484)));have HO500:=zm0_ (zo1_ (Kd.R_new' (Kd.R_new' ho1 (Kd.R_lt (zr HO490))) (Kd.R_lt (zr HO493))) (zn9_ (zl1 HB GE484)));replace HO490:=zm0_ (Kd.R_elder' (zr HO490) (Kd.R_base ho1) hb);replace HO493:=zm0_ (Kd.R_elder' (zr HO493) (Kd.R_base ho1) hb);replace BK484:=zm0_ (zm5_ (zb BK484) hb);replace HB:=zm0_ (zn8_ (zl1 HB GE484) hb);(try clear hb);(try clear hb2);(try clear hk);(try clear hi);(try clear ho0);(try clear ho1))|((with_reducible refine gate_dst (N:=7) rfl ?_);refine box_event ?hg (N:=7) ?hd (cs:=#[.int .i64 0,.slice none 0 0]) (t:=32) ?hr ?_;(case hd => rfl);(case hg => rfl);(case hr => first|(go_simp;done)|(go_simp;rfl));intro gb501 hg w31 hbox hb;replace HO490:=zm0_ (zm8_ (zr HO490) hb);replace HO493:=zm0_ (zm8_ (zr HO493) hb);replace HO496:=zm0_ (zm8_ (zr HO496) hb);replace HO500:=zm0_ (zm8_ (zr HO500) hb);have BK501:=zm0_ (hbox);have GW501:=zm0_ ((by rw [hg];exact (zn9_ (zl1 HB GE484)) : w.heap.size ≤ gb501));have GE501:=zm0_ ((by rw [hg];exact (zn9_ (zl1 HB GE484)) : w.heap.size ≤ gb501));replace HB:=zm0_ (zn8_ (zl1 HB GE484) hb);have NB484_501:=zm0_ ((by rw [hg];exact Nat.ne_of_lt (zo3_ (g:=gb484) (o:=.cells #[.int .i64 a0_0,.slice A0_1 l0_1.length c0_1] 24 (0,0)) (zb BK484)) : gb484 ≠ gb501));have NB501_484:=zm0_ ((by rw [hg];exact Nat.ne_of_gt (zo3_ (g:=gb484) (o:=.cells #[.int .i64 a0_0,.slice A0_1 l0_1.length c0_1] 24 (0,0)) (zb BK484)) : gb501 ≠ gb484));replace BK484:=zm0_ (zm5_ (zb BK484) hb);clear hb hbox hg;have hnb32:=NB501_484.out;have hnc32:=NB484_501.out;have hcz33_0 : w31.cell? ⟨gb501,0,none⟩ = some (.int .i64 0):=(zm6_ BK501.out 0).trans rfl;have hcz33_1 : w31.cell? ⟨gb501,1,none⟩ = some (.slice none 0 0):=(zm6_ BK501.out 1).trans rfl;have hfz33_0:=zm7_ BK501.out 0;have hfz33_1:=zm7_ BK501.out 1;obtain ⟨Ao34,co34,eo34⟩:=Kd.R_slice HO500.out;subst eo34;have hcz35_0 : w31.cell? ⟨gb484,0,none⟩ = some (.int .i64 a0_0):=(zm6_ BK484.out 0).trans rfl;have hcz35_1 : w31.cell? ⟨gb484,1,none⟩ = some (.slice A0_1 l0_1.length c0_1):=(zm6_ BK484.out 1).trans rfl;have hfz35_0:=zm7_ BK484.out 0;have hfz35_1:=zm7_ BK484.out 1)|((with_reducible refine gate_callee (f:=8) rfl ?_);refine goesL_ (some 36) rfl rfl Tryz.func8 (by kernel_rfl) rfl #[.agg #[.int .i64 a0_0,.slice A0_1 l0_1.length c0_1]] rfl zy ?_;(with_reducible refine (laws_toTable.calls k a0_0 _ _ l0_1 t502 t503 _ ?side1 ?side2 A17.out).mono ?_);(case side1 => exact Kd.C_below HR0_1.out (zl2 HB GE484 GE501));(case side2 => exact HC0_1.out);rintro e w36 ⟨v504,rfl,ho0,hb⟩;refine ⟨_,rfl,?_⟩;replace HO496:=zm0_ (zm8_ (zs (zo2_ (k4_ (p:=⟨gb501,1,none⟩) (k4_ (p:=⟨gb501,0,none⟩) (Kd.R_types HO496.out BK501.out (by decide)) (fun _ hk => hk.2) (.int .i64 t497)) (fun _ hk => hk.2) (.slice Ao34 t498.length co34)) (fun _ h_ => h_.1))) hb);have HO505:=zm0_ (zo1_ (Kd.R_new' (Kd.R_new' (Kd.R_new' ho0 (Kd.R_lt (zs (zo2_ (k4_ (p:=⟨gb501,1,none⟩) (k4_ (p:=⟨gb501,0,none⟩) (Kd.R_types HO490.out BK501.out (by decide)) (fun _ hk => hk.2) (.int .i64 t497)) (fun _ hk => hk.2) (.slice Ao34 t498.length co34)) (fun _ h_ => h_.1))))) (Kd.R_lt (zs (zo2_ (k4_ (p:=⟨gb501,1,none⟩) (k4_ (p:=⟨gb501,0,none⟩) (Kd.R_types HO493.out BK501.out (by decide)) (fun _ hk => hk.2) (.int .i64 t497)) (fun _ hk => hk.2) (.slice Ao34 t498.length co34)) (fun _ h_ => h_.1))))) (Kd.R_lt (zs (zo2_ (k4_ (p:=⟨gb501,1,none⟩) (k4_ (p:=⟨gb501,0,none⟩) (Kd.R_types HO500.out BK501.out (by decide)) (fun _ hk => hk.2) (.int .i64 t497)) (fun _ hk => hk.2) (.slice Ao34 t498.length co34)) (fun _ h_ => h_.1))))) (zn9_ (zl2 HB GE484 GE501)));replace HO490:=zm0_ (Kd.R_elder' (zs (zo2_ (k4_ (p:=⟨gb501,1,none⟩) (k4_ (p:=⟨gb501,0,none⟩) (Kd.R_types HO490.out BK501.out (by decide)) (fun _ hk => hk.2) (.int .i64 t497)) (fun _ hk => hk.2) (.slice Ao34 t498.length co34)) (fun _ h_ => h_.1))) (Kd.R_base ho0) hb);replace HO493:=zm0_ (Kd.R_elder' (zs (zo2_ (k4_ (p:=⟨gb501,1,none⟩) (k4_ (p:=⟨gb501,0,none⟩) (Kd.R_types HO493.out BK501.out (by decide)) (fun _ hk => hk.2) (.int .i64 t497)) (fun _ hk => hk.2) (.slice Ao34 t498.length co34)) (fun _ h_ => h_.1))) (Kd.R_base ho0) hb);replace HO500:=zm0_ (Kd.R_elder' (zs (zo2_ (k4_ (p:=⟨gb501,1,none⟩) (k4_ (p:=⟨gb501,0,none⟩) (Kd.R_types HO500.out BK501.out (by decide)) (fun _ hk => hk.2) (.int .i64 t497)) (fun _ hk => hk.2) (.slice Ao34 t498.length co34)) (fun _ h_ => h_.1))) (Kd.R_base ho0) hb);replace BK484:=zm0_ (zm5_ (g:=gb484) (o:=.cells #[.int .i64 a0_0,.slice A0_1 l0_1.length c0_1] 24 (0,0)) (by (with_reducible repeat (first|refine k6_ ?_ _|refine k7_ ?_|refine k5_ ?_ _));refine blk_far ?_ NB484_501.out _;(with_reducible repeat (first|refine k6_ ?_ _|refine k7_ ?_|refine k5_ ?_ _));refine blk_far ?_ NB484_501.out _;(with_reducible repeat (first|refine k6_ ?_ _|refine k7_ ?_|refine k5_ ?_ _));exact BK484.out) hb);replace BK501:=zm0_ (zm5_ (g:=gb501) (o:=.cells #[.int .i64 t497,.slice Ao34 t498.length co34] 32 (0,0)) (by (with_reducible repeat (first|refine k6_ ?_ _|refine k7_ ?_|refine k5_ ?_ _));refine blk_put (cs:=#[.int .i64 t497,.slice none 0 0]) ?_ 1 _ rfl;(with_reducible repeat (first|refine k6_ ?_ _|refine k7_ ?_|refine k5_ ?_ _));refine blk_put (cs:=#[.int .i64 0,.slice none 0 0]) ?_ 0 _ rfl;(with_reducible repeat (first|refine k6_ ?_ _|refine k7_ ?_|refine k5_ ?_ _));exact BK501.out) hb);replace HB:=zm0_ (zn8_ (zl2 HB GE484 GE501) hb);(try clear hb);(try clear hb2);(try clear hk);(try clear hi);(try clear ho0))|((with_reducible refine gate_dst (N:=8) rfl ?_);refine box_event ?hg (N:=8) ?hd (cs:=#[.int .i64 0,.slice none 0 0]) (t:=32) ?hr ?_;(case hd => rfl);(case hg => rfl);(case hr => first|(go_simp;done)|(go_simp;rfl));intro gb506 hg w37 hbox hb;replace HO490:=zm0_ (zm8_ (zr HO490) hb);replace HO493:=zm0_ (zm8_ (zr HO493) hb);replace HO496:=zm0_ (zm8_ (zr HO496) hb);replace HO500:=zm0_ (zm8_ (zr HO500) hb);replace HO505:=zm0_ (zm8_ (zr HO505) hb);have BK506:=zm0_ (hbox);have GW506:=zm0_ ((by rw [hg];exact (zn9_ (zl2 HB GE484 GE501)) : w.heap.size ≤ gb506));have GE506:=zm0_ ((by rw [hg];exact (zn9_ (zl2 HB GE484 GE501)) : w.heap.size ≤ gb506));replace HB:=zm0_ (zn8_ (zl2 HB GE484 GE501) hb);have NB484_506:=zm0_ ((by rw [hg];exact Nat.ne_of_lt (zo3_ (g:=gb484) (o:=.cells #[.int .i64 a0_0,.slice A0_1 l0_1.length c0_1] 24 (0,0)) (zb BK484)) : gb484 ≠ gb506));have NB506_484:=zm0_ ((by rw [hg];exact Nat.ne_of_gt (zo3_ (g:=gb484) (o:=.cells #[.int .i64 a0_0,.slice A0_1 l0_1.length c0_1] 24 (0,0)) (zb BK484)) : gb506 ≠ gb484));replace BK484:=zm0_ (zm5_ (zb BK484) hb);have NB501_506:=zm0_ ((by rw [hg];exact Nat.ne_of_lt (zo3_ (g:=gb501) (o:=.cells #[.int .i64 t497,.slice Ao34 t498.length co34] 32 (0,0)) (zb BK501)) : gb501 ≠ gb506));have NB506_501:=zm0_ ((by rw [hg];exact Nat.ne_of_gt (zo3_ (g:=gb501) (o:=.cells #[.int .i64 t497,.slice Ao34 t498.length co34] 32 (0,0)) (zb BK501)) : gb506 ≠ gb501));replace BK501:=zm0_ (zm5_ (zb BK501) hb);clear hb hbox hg;have hnb38:=NB506_484.out;have hnc38:=NB484_506.out;have hnb39:=NB506_501.out;have hnc39:=NB501_506.out;have hcz40_0 : w37.cell? ⟨gb506,0,none⟩ = some (.int .i64 0):=(zm6_ BK506.out 0).trans rfl;have hcz40_1 : w37.cell? ⟨gb506,1,none⟩ = some (.slice none 0 0):=(zm6_ BK506.out 1).trans rfl;have hfz40_0:=zm7_ BK506.out 0;have hfz40_1:=zm7_ BK506.out 1;obtain ⟨Ao41,co41,eo41⟩:=Kd.R_slice HO505.out;subst eo41)|((with_reducible refine gate_callee (f:=19) rfl ?_);refine goesL_ (some 38) rfl rfl Tryz.func19 (by kernel_rfl) rfl #[.slice A1 l1.length c1] rfl zy ?_;(with_reducible refine (laws_toFieldS.calls k _ _ l1 t507 _ ?side1 ?side2 A18.out).mono ?_);(case side1 => exact Kd.C_below HR1.out (zl3 HB GE484 GE501 GE506));(case side2 => exact HC1.out);rintro e w42 ⟨v508,rfl,ho0,hb⟩;refine ⟨_,rfl,?_⟩;replace HO496:=zm0_ (zm8_ (zs (zo2_ (k4_ (p:=⟨gb506,1,none⟩) (k4_ (p:=⟨gb506,0,none⟩) (Kd.R_types HO496.out BK506.out (by decide)) (fun _ hk => hk.2) (.int .i64 t502)) (fun _ hk => hk.2) (.slice Ao41 t503.length co41)) (fun _ h_ => h_.1))) hb);have HO509:=zm0_ (zo1_ (Kd.R_new' (Kd.R_new' (Kd.R_new' (Kd.R_new' ho0 (Kd.R_lt (zs (zo2_ (k4_ (p:=⟨gb506,1,none⟩) (k4_ (p:=⟨gb506,0,none⟩) (Kd.R_types HO490.out BK506.out (by decide)) (fun _ hk => hk.2) (.int .i64 t502)) (fun _ hk => hk.2) (.slice Ao41 t503.length co41)) (fun _ h_ => h_.1))))) (Kd.R_lt (zs (zo2_ (k4_ (p:=⟨gb506,1,none⟩) (k4_ (p:=⟨gb506,0,none⟩) (Kd.R_types HO493.out BK506.out (by decide)) (fun _ hk => hk.2) (.int .i64 t502)) (fun _ hk => hk.2) (.slice Ao41 t503.length co41)) (fun _ h_ => h_.1))))) (Kd.R_lt (zs (zo2_ (k4_ (p:=⟨gb506,1,none⟩) (k4_ (p:=⟨gb506,0,none⟩) (Kd.R_types HO500.out BK506.out (by decide)) (fun _ hk => hk.2) (.int .i64 t502)) (fun _ hk => hk.2) (.slice Ao41 t503.length co41)) (fun _ h_ => h_.1))))) (Kd.R_lt (zs (zo2_ (k4_ (p:=⟨gb506,1,none⟩) (k4_ (p:=⟨gb506,0,none⟩) (Kd.R_types HO505.out BK506.out (by decide)) (fun _ hk => hk.2) (.int .i64 t502)) (fun _ hk => hk.2) (.slice Ao41 t503.length co41)) (fun _ h_ => h_.1))))) (zn9_ (zl3 HB GE484 GE501 GE506)));replace HO490:=zm0_ (Kd.R_elder' (zs (zo2_ (k4_ (p:=⟨gb506,1,none⟩) (k4_ (p:=⟨gb506,0,none⟩) (Kd.R_types HO490.out BK506.out (by decide)) (fun _ hk => hk.2) (.int .i64 t502)) (fun _ hk => hk.2) (.slice Ao41 t503.length co41)) (fun _ h_ => h_.1))) (Kd.R_base ho0) hb);replace HO493:=zm0_ (Kd.R_elder' (zs (zo2_ (k4_ (p:=⟨gb506,1,none⟩) (k4_ (p:=⟨gb506,0,none⟩) (Kd.R_types HO493.out BK506.out (by decide)) (fun _ hk => hk.2) (.int .i64 t502)) (fun _ hk => hk.2) (.slice Ao41 t503.length co41)) (fun _ h_ => h_.1))) (Kd.R_base ho0) hb);replace HO500:=zm0_ (Kd.R_elder' (zs (zo2_ (k4_ (p:=⟨gb506,1,none⟩) (k4_ (p:=⟨gb506,0,none⟩) (Kd.R_types HO500.out BK506.out (by decide)) (fun _ hk => hk.2) (.int .i64 t502)) (fun _ hk => hk.2) (.slice Ao41 t503.length co41)) (fun _ h_ => h_.1))) (Kd.R_base ho0) hb);replace HO505:=zm0_ (Kd.R_elder' (zs (zo2_ (k4_ (p:=⟨gb506,1,none⟩) (k4_ (p:=⟨gb506,0,none⟩) (Kd.R_types HO505.out BK506.out (by decide)) (fun _ hk => hk.2) (.int .i64 t502)) (fun _ hk => hk.2) (.slice Ao41 t503.length co41)) (fun _ h_ => h_.1))) (Kd.R_base ho0) hb);replace BK484:=zm0_ (zm5_ (g:=gb484) (o:=.cells #[.int .i64 a0_0,.slice A0_1 l0_1.length c0_1] 24 (0,0)) (by (with_reducible repeat (first|refine k6_ ?_ _|refine k7_ ?_|refine k5_ ?_ _));refine blk_far ?_ NB484_506.out _;(with_reducible repeat (first|refine k6_ ?_ _|refine k7_ ?_|refine k5_ ?_ _));refine blk_far ?_ NB484_506.out _;(with_reducible repeat (first|refine k6_ ?_ _|refine k7_ ?_|refine k5_ ?_ _));exact BK484.out) hb);replace BK501:=zm0_ (zm5_ (g:=gb501) (o:=.cells #[.int .i64 t497,.slice Ao34 t498.length co34] 32 (0,0)) (by (with_reducible repeat (first|refine k6_ ?_ _|refine k7_ ?_|refine k5_ ?_ _));refine blk_far ?_ NB501_506.out _;(with_reducible repeat (first|refine k6_ ?_ _|refine k7_ ?_|refine k5_ ?_ _));refine blk_far ?_ NB501_506.out _;(with_reducible repeat (first|refine k6_ ?_ _|refine k7_ ?_|refine k5_ ?_ _));exact BK501.out) hb);replace BK506:=zm0_ (zm5_ (g:=gb506) (o:=.cells #[.int .i64 t502,.slice Ao41 t503.length co41] 32 (0,0)) (by (with_reducible repeat (first|refine k6_ ?_ _|refine k7_ ?_|refine k5_ ?_ _));refine blk_put (cs:=#[.int .i64 t502,.slice none 0 0]) ?_ 1 _ rfl;(with_reducible repeat (first|refine k6_ ?_ _|refine k7_ ?_|refine k5_ ?_ _));refine blk_put (cs:=#[.int .i64 0,.slice none 0 0]) ?_ 0 _ rfl;(with_reducible repeat (first|refine k6_ ?_ _|refine k7_ ?_|refine k5_ ?_ _));exact BK506.out) hb);replace HB:=zm0_ (zn8_ (zl3 HB GE484 GE501 GE506) hb);(try clear hb);(try clear hb2);(try clear hk);(try clear hi);(try clear ho0);have hcz43_0 : w42.cell? ⟨gb506,0,none⟩ = some (.int .i64 t502):=(zm6_ BK506.out 0).trans rfl;have hcz43_1 : w42.cell? ⟨gb506,1,none⟩ = some (.slice Ao41 t503.length co41):=(zm6_ BK506.out 1).trans rfl;have hfz43_0:=zm7_ BK506.out 0;have hfz43_1:=zm7_ BK506.out 1;obtain ⟨Ao44,co44,eo44⟩:=Kd.R_slice HO509.out;subst eo44)|((with_reducible refine gate_callee (f:=20) rfl ?_);refine goesL_ (some 42) rfl rfl Tryz.func20 (by kernel_rfl) rfl #[.agg #[.int .i64 t502,.slice Ao41 t503.length co41],.slice Ao44 t507.length co44] rfl zy ?_;(with_reducible refine (impl_PutFields.calls k t502 _ _ t503 _ _ t507 t510 t513 t514 _ ?side1 ?side2 ?side3 ?side4 ?side5 A19.out).mono ?_);(case side1 => repeat (first|exact (Kd.R_reads' HO505.out).2.2|(with_reducible refine Kd.C_alloc ?_ _)|(with_reducible refine Kd.C_drewN ?_ _)|(with_reducible refine Kd.C_drew ?_)));(case side2 => exact (Kd.R_reads' HO505.out).2.1);(case side3 => repeat (first|exact (Kd.R_reads' HO509.out).2.2|(with_reducible refine Kd.C_alloc ?_ _)|(with_reducible refine Kd.C_drewN ?_ _)|(with_reducible refine Kd.C_drew ?_)));(case side4 => exact (Kd.R_reads' HO509.out).2.1);(case side5 => first|exact ht|(refine tb_below ht ?_;repeat (first|(with_reducible first|exact HB.out|apply zm3_|apply zm2_|apply zm4_|refine zm1_ ?_ GE484.out|refine zm1_ ?_ GE501.out|refine zm1_ ?_ GE506.out)|exact HB.out)));rintro e w45 ⟨v511,v515,rfl,ho0,ho1,hb⟩;refine ⟨_,rfl,?_⟩;have HO512:=zm0_ (zo1_ (Kd.R_new' ho0 (Kd.R_lt (zr HO496))) (zn9_ (zl3 HB GE484 GE501 GE506)));replace HO496:=zm0_ (Kd.R_elder' (zr HO496) (Kd.R_base ho0) hb);have HO516:=zm0_ (zo1_ (Kd.R_new' (Kd.R_new' (Kd.R_new' (Kd.R_new' (Kd.R_new' ho1 (Kd.R_lt (zr HO490))) (Kd.R_lt (zr HO493))) (Kd.R_lt (zr HO500))) (Kd.R_lt (zr HO505))) (Kd.R_lt (zr HO509))) (zn9_ (zl3 HB GE484 GE501 GE506)));replace HO490:=zm0_ (Kd.R_elder' (zr HO490) (Kd.R_base ho1) hb);replace HO493:=zm0_ (Kd.R_elder' (zr HO493) (Kd.R_base ho1) hb);replace HO500:=zm0_ (Kd.R_elder' (zr HO500) (Kd.R_base ho1) hb);replace HO505:=zm0_ (Kd.R_elder' (zr HO505) (Kd.R_base ho1) hb);replace HO509:=zm0_ (Kd.R_elder' (zr HO509) (Kd.R_base ho1) hb);replace BK484:=zm0_ (zm5_ (zb BK484) hb);replace BK501:=zm0_ (zm5_ (zb BK501) hb);replace BK506:=zm0_ (zm5_ (zb BK506) hb);replace HB:=zm0_ (zn8_ (zl3 HB GE484 GE501 GE506) hb);(try clear hb);(try clear hb2);(try clear hk);(try clear hi);(try clear ho0);(try clear ho1))|((with_reducible refine gate_dst (N:=11) rfl ?_);refine box_event ?hg (N:=11) ?hd (cs:=#[.int .i64 0,.slice none 0 0]) (t:=32) ?hr ?_;(case hd => rfl);(case hg => rfl);(case hr => first|(go_simp;done)|(go_simp;rfl));intro gb517 hg w46 hbox hb;replace HO490:=zm0_ (zm8_ (zr HO490) hb);replace HO493:=zm0_ (zm8_ (zr HO493) hb);replace HO496:=zm0_ (zm8_ (zr HO496) hb);replace HO500:=zm0_ (zm8_ (zr HO500) hb);replace HO505:=zm0_ (zm8_ (zr HO505) hb);replace HO509:=zm0_ (zm8_ (zr HO509) hb);replace HO512:=zm0_ (zm8_ (zr HO512) hb);replace HO516:=zm0_ (zm8_ (zr HO516) hb);have BK517:=zm0_ (hbox);have GW517:=zm0_ ((by rw [hg];exact (zn9_ (zl3 HB GE484 GE501 GE506)) : w.heap.size ≤ gb517));have GE517:=zm0_ ((by rw [hg];exact (zn9_ (zl3 HB GE484 GE501 GE506)) : w.heap.size ≤ gb517));replace HB:=zm0_ (zn8_ (zl3 HB GE484 GE501 GE506) hb);have NB484_517:=zm0_ ((by rw [hg];exact Nat.ne_of_lt (zo3_ (g:=gb484) (o:=.cells #[.int .i64 a0_0,.slice A0_1 l0_1.length c0_1] 24 (0,0)) (zb BK484)) : gb484 ≠ gb517));have NB517_484:=zm0_ ((by rw [hg];exact Nat.ne_of_gt (zo3_ (g:=gb484) (o:=.cells #[.int .i64 a0_0,.slice A0_1 l0_1.length c0_1] 24 (0,0)) (zb BK484)) : gb517 ≠ gb484));replace BK484:=zm0_ (zm5_ (zb BK484) hb);have NB501_517:=zm0_ ((by rw [hg];exact Nat.ne_of_lt (zo3_ (g:=gb501) (o:=.cells #[.int .i64 t497,.slice Ao34 t498.length co34] 32 (0,0)) (zb BK501)) : gb501 ≠ gb517));have NB517_501:=zm0_ ((by rw [hg];exact Nat.ne_of_gt (zo3_ (g:=gb501) (o:=.cells #[.int .i64 t497,.slice Ao34 t498.length co34] 32 (0,0)) (zb BK501)) : gb517 ≠ gb501));replace BK501:=zm0_ (zm5_ (zb BK501) hb);have NB506_517:=zm0_ ((by rw [hg];exact Nat.ne_of_lt (zo3_ (g:=gb506) (o:=.cells #[.int .i64 t502,.slice Ao41 t503.length co41] 32 (0,0)) (zb BK506)) : gb506 ≠ gb517));have NB517_506:=zm0_ ((by rw [hg];exact Nat.ne_of_gt (zo3_ (g:=gb506) (o:=.cells #[.int .i64 t502,.slice Ao41 t503.length co41] 32 (0,0)) (zb BK506)) : gb517 ≠ gb506));replace BK506:=zm0_ (zm5_ (zb BK506) hb);clear hb hbox hg;have hnb47:=NB517_484.out;have hnc47:=NB484_517.out;have hnb48:=NB517_501.out;have hnc48:=NB501_517.out;have hnb49:=NB517_506.out;have hnc49:=NB506_517.out;have hcz50_0 : w46.cell? ⟨gb517,0,none⟩ = some (.int .i64 0):=(zm6_ BK517.out 0).trans rfl;have hcz50_1 : w46.cell? ⟨gb517,1,none⟩ = some (.slice none 0 0):=(zm6_ BK517.out 1).trans rfl;have hfz50_0:=zm7_ BK517.out 0;have hfz50_1:=zm7_ BK517.out 1;obtain ⟨Ao51,co51,eo51⟩:=Kd.R_slice HO516.out;subst eo51))
   (try simp only [Act.put,lA_,lB_,lC_])
   go_cut [54] (fun v54 wc => ∃ (kq : Nat) (x54_19 : Bool),v54 = .bool x54_19 ∧ Aside0 (laws_FnExactPutFields.j0 kq l1 t494 t507 t510 x54_19 a0_0 l0_1 t497 t498 t502 t503 t513 t514 = some r) ∧ Aside0 (kq ≤ k) ∧ Aside0 (Kd.R (Kd.int .u8) 5 wc w.heap.size (fun k_ => some k_ ≠ (v511 : Value).ownBlock) v495 t494) ∧ Aside0 (Kd.R k36 36 wc w.heap.size (fun k_ => some k_ ≠ ((.slice Ao34 t498.length co34) : Value).ownBlock ∧ some k_ ≠ ((.slice Ao41 t503.length co41) : Value).ownBlock ∧ some k_ ≠ ((.slice Ao51 t514.length co51) : Value).ownBlock) (.slice Ao44 t507.length co44) t507) ∧ Aside0 (Kd.R (Kd.int .u8) 5 wc w.heap.size (fun k_ => some k_ ≠ (v495 : Value).ownBlock) v511 t510) ∧ Aside0 (Kd.R k36 36 wc w.heap.size (fun k_ => some k_ ≠ ((.slice Ao44 t507.length co44) : Value).ownBlock ∧ some k_ ≠ ((.slice Ao41 t503.length co41) : Value).ownBlock ∧ some k_ ≠ ((.slice Ao51 t514.length co51) : Value).ownBlock) (.slice Ao34 t498.length co34) t498) ∧ Aside0 (Kd.R k36 36 wc w.heap.size (fun k_ => some k_ ≠ ((.slice Ao44 t507.length co44) : Value).ownBlock ∧ some k_ ≠ ((.slice Ao34 t498.length co34) : Value).ownBlock ∧ some k_ ≠ ((.slice Ao51 t514.length co51) : Value).ownBlock) (.slice Ao41 t503.length co41) t503) ∧ Aside0 (Kd.R k36 36 wc w.heap.size (fun k_ => some k_ ≠ ((.slice Ao44 t507.length co44) : Value).ownBlock ∧ some k_ ≠ ((.slice Ao34 t498.length co34) : Value).ownBlock ∧ some k_ ≠ ((.slice Ao41 t503.length co41) : Value).ownBlock) (.slice Ao51 t514.length co51) t514) ∧ Aside0 (wc.heap[gb484]? = some (.cells #[.int .i64 a0_0,(.slice A0_1 l0_1.length c0_1)] 24 (0,0))) ∧ Aside0 (wc.heap[gb501]? = some (.cells #[.int .i64 t497,(.slice Ao34 t498.length co34)] 32 (0,0))) ∧ Aside0 (wc.heap[gb506]? = some (.cells #[.int .i64 t502,(.slice Ao41 t503.length co41)] 32 (0,0))) ∧ Aside0 (wc.heap[gb517]? = some (.cells #[.int .i64 t513,(.slice Ao51 t514.length co51)] 32 (0,0))) ∧ Aside0 (Below w.heap.size w wc))
   case first =>
    have H:=HC20.out
    clear HC20
    replace H:=zq1_ H
    obtain ⟨t518,A520,H⟩:=H
    replace H : (if t518 = true then ((laws_eqTable.f k t513 t514 t497 t498).bind fun t519 => (laws_FnExactPutFields.j0 k l1 t494 t507 t510 (!t519) a0_0 l0_1 t497 t498 t502 t503 t513 t514)) else (laws_FnExactPutFields.j0 k l1 t494 t507 t510 true a0_0 l0_1 t497 t498 t502 t503 t513 t514)) = some r:=H
    have A52:=zm0_ A520
    clear A520
    by_cases c53 : t518 = true
    ·
     subst c53
     rw [if_pos rfl] at H
     replace H:=zq1_ H
     obtain ⟨t519,A540,H⟩:=H
     replace H : (laws_FnExactPutFields.j0 k l1 t494 t507 t510 (!t519) a0_0 l0_1 t497 t498 t502 t503 t513 t514) = some r:=H
     have A54:=zm0_ A540
     clear A540
     have H':=zm0_ H
     clear H
     obtain ⟨Ao55,co55,eo55⟩:=Kd.R_slice HO512.out
     subst eo55
     obtain ⟨Ao56,co56,eo56⟩:=Kd.R_slice HO496.out
     subst eo56
     go_wp2_with (first|((with_reducible refine gate_callee (f:=11) rfl ?_);refine goesL_ (some 47) rfl rfl Tryz.func11 (by kernel_rfl) rfl #[.slice Ao55 t510.length co55,.slice Ao56 t494.length co56] rfl zy ?_;(with_reducible refine (laws_eqByteS.calls k _ _ t510 _ _ t494 true _ ?side1 ?side2 ?side3 ?side4 A52.out).mono ?_);(case side1 => refine (Kd.R_reads' (e:=5) (base:=w.heap.size) (ok:=fun k_ => (True ∧ some k_ ≠ (.slice Ao56 t494.length co56 : Value).ownBlock)) (n:=t510.length) (c:=co55) ?_).2.2;exact (zs (zo2_ (k4_ (p:=⟨gb517,1,none⟩) (k4_ (p:=⟨gb517,0,none⟩) (Kd.R_types HO512.out BK517.out (by decide)) (fun _ hk => hk.2) (.int .i64 t513)) (fun _ hk => hk.2) (.slice Ao51 t514.length co51)) (fun _ h_ => h_.1))));(case side2 => exact (Kd.R_reads' HO512.out).2.1);(case side3 => refine (Kd.R_reads' (e:=5) (base:=w.heap.size) (ok:=fun k_ => (True ∧ some k_ ≠ (.slice Ao55 t510.length co55 : Value).ownBlock)) (n:=t494.length) (c:=co56) ?_).2.2;exact (zs (zo2_ (k4_ (p:=⟨gb517,1,none⟩) (k4_ (p:=⟨gb517,0,none⟩) (Kd.R_types HO496.out BK517.out (by decide)) (fun _ hk => hk.2) (.int .i64 t513)) (fun _ hk => hk.2) (.slice Ao51 t514.length co51)) (fun _ h_ => h_.1))));(case side4 => exact (Kd.R_reads' HO496.out).2.1);rintro e w' ⟨rfl,⟨nd,rfl⟩⟩;refine ⟨_,rfl,?_⟩;have hnb57:=NB517_484.out;have hnc57:=NB484_517.out;have hnb58:=NB517_501.out;have hnc58:=NB501_517.out;have hnb59:=NB517_506.out;have hnc59:=NB506_517.out;have hcz60_0 : w46.cell? ⟨gb517,0,none⟩ = some (.int .i64 0):=(zm6_ BK517.out 0).trans rfl;have hcz60_1 : w46.cell? ⟨gb517,1,none⟩ = some (.slice none 0 0):=(zm6_ BK517.out 1).trans rfl;have hfz60_0:=zm7_ BK517.out 0;have hfz60_1:=zm7_ BK517.out 1;have hnb61:=NB501_484.out;have hnc61:=NB484_501.out;have hnb62:=NB501_506.out;have hnc62:=NB506_501.out;have hcz63_0 : w46.cell? ⟨gb501,0,none⟩ = some (.int .i64 t497):=(zm6_ BK501.out 0).trans rfl;have hcz63_1 : w46.cell? ⟨gb501,1,none⟩ = some (.slice Ao34 t498.length co34):=(zm6_ BK501.out 1).trans rfl;have hfz63_0:=zm7_ BK501.out 0;have hfz63_1:=zm7_ BK501.out 1)|(go_at_call 12;(with_reducible refine (laws_eqTable.calls k t513 _ _ t514 t497 _ _ t498 t519 _ ?side1 ?side2 ?side3 ?side4 A54.out).mono ?_);(case side1 => refine (Kd.R_reads' (e:=36) (base:=w.heap.size) (ok:=fun k_ => (((((True ∧ some k_ ≠ (.slice Ao28 t488.length co28 : Value).ownBlock) ∧ some k_ ≠ (.slice Ao29 t491.length co29 : Value).ownBlock) ∧ some k_ ≠ (.slice Ao34 t498.length co34 : Value).ownBlock) ∧ some k_ ≠ (.slice Ao41 t503.length co41 : Value).ownBlock) ∧ some k_ ≠ (.slice Ao44 t507.length co44 : Value).ownBlock)) (n:=t514.length) (c:=co51) ?_).2.2;exact (zs (zo2_ (k4_ (p:=⟨gb517,1,none⟩) (k4_ (p:=⟨gb517,0,none⟩) (Kd.R_types HO516.out BK517.out (by decide)) (fun _ hk => hk.2) (.int .i64 t513)) (fun _ hk => hk.2) (.slice Ao51 t514.length co51)) (fun _ h_ => h_.1))));(case side2 => exact (Kd.R_reads' HO516.out).2.1);(case side3 => refine (Kd.R_reads' (e:=36) (base:=w.heap.size) (ok:=fun k_ => (((((True ∧ some k_ ≠ (.slice Ao28 t488.length co28 : Value).ownBlock) ∧ some k_ ≠ (.slice Ao29 t491.length co29 : Value).ownBlock) ∧ some k_ ≠ (.slice Ao41 t503.length co41 : Value).ownBlock) ∧ some k_ ≠ (.slice Ao44 t507.length co44 : Value).ownBlock) ∧ some k_ ≠ (.slice Ao51 t514.length co51 : Value).ownBlock)) (n:=t498.length) (c:=co34) ?_).2.2;exact (zs (zo2_ (k4_ (p:=⟨gb517,1,none⟩) (k4_ (p:=⟨gb517,0,none⟩) (Kd.R_types HO500.out BK517.out (by decide)) (fun _ hk => hk.2) (.int .i64 t513)) (fun _ hk => hk.2) (.slice Ao51 t514.length co51)) (fun _ h_ => h_.1))));(case side4 => exact (Kd.R_reads' HO500.out).2.1);rintro e w64 ⟨rfl,hb⟩;replace HO490:=zm0_ (zm8_ (zs (zo2_ (k4_ (p:=⟨gb517,1,none⟩) (k4_ (p:=⟨gb517,0,none⟩) (Kd.R_types HO490.out BK517.out (by decide)) (fun _ hk => hk.2) (.int .i64 t513)) (fun _ hk => hk.2) (.slice Ao51 t514.length co51)) (fun _ h_ => h_.1))) hb);replace HO493:=zm0_ (zm8_ (zs (zo2_ (k4_ (p:=⟨gb517,1,none⟩) (k4_ (p:=⟨gb517,0,none⟩) (Kd.R_types HO493.out BK517.out (by decide)) (fun _ hk => hk.2) (.int .i64 t513)) (fun _ hk => hk.2) (.slice Ao51 t514.length co51)) (fun _ h_ => h_.1))) hb);replace HO496:=zm0_ (zm8_ (zs (zo2_ (k4_ (p:=⟨gb517,1,none⟩) (k4_ (p:=⟨gb517,0,none⟩) (Kd.R_types HO496.out BK517.out (by decide)) (fun _ hk => hk.2) (.int .i64 t513)) (fun _ hk => hk.2) (.slice Ao51 t514.length co51)) (fun _ h_ => h_.1))) hb);replace HO500:=zm0_ (zm8_ (zs (zo2_ (k4_ (p:=⟨gb517,1,none⟩) (k4_ (p:=⟨gb517,0,none⟩) (Kd.R_types HO500.out BK517.out (by decide)) (fun _ hk => hk.2) (.int .i64 t513)) (fun _ hk => hk.2) (.slice Ao51 t514.length co51)) (fun _ h_ => h_.1))) hb);replace HO505:=zm0_ (zm8_ (zs (zo2_ (k4_ (p:=⟨gb517,1,none⟩) (k4_ (p:=⟨gb517,0,none⟩) (Kd.R_types HO505.out BK517.out (by decide)) (fun _ hk => hk.2) (.int .i64 t513)) (fun _ hk => hk.2) (.slice Ao51 t514.length co51)) (fun _ h_ => h_.1))) hb);replace HO509:=zm0_ (zm8_ (zs (zo2_ (k4_ (p:=⟨gb517,1,none⟩) (k4_ (p:=⟨gb517,0,none⟩) (Kd.R_types HO509.out BK517.out (by decide)) (fun _ hk => hk.2) (.int .i64 t513)) (fun _ hk => hk.2) (.slice Ao51 t514.length co51)) (fun _ h_ => h_.1))) hb);replace HO512:=zm0_ (zm8_ (zs (zo2_ (k4_ (p:=⟨gb517,1,none⟩) (k4_ (p:=⟨gb517,0,none⟩) (Kd.R_types HO512.out BK517.out (by decide)) (fun _ hk => hk.2) (.int .i64 t513)) (fun _ hk => hk.2) (.slice Ao51 t514.length co51)) (fun _ h_ => h_.1))) hb);replace HO516:=zm0_ (zm8_ (zs (zo2_ (k4_ (p:=⟨gb517,1,none⟩) (k4_ (p:=⟨gb517,0,none⟩) (Kd.R_types HO516.out BK517.out (by decide)) (fun _ hk => hk.2) (.int .i64 t513)) (fun _ hk => hk.2) (.slice Ao51 t514.length co51)) (fun _ h_ => h_.1))) hb);replace BK484:=zm0_ (zm5_ (g:=gb484) (o:=.cells #[.int .i64 a0_0,.slice A0_1 l0_1.length c0_1] 24 (0,0)) (by (with_reducible repeat (first|refine k6_ ?_ _|refine k7_ ?_|refine k5_ ?_ _));refine blk_far ?_ NB484_517.out _;(with_reducible repeat (first|refine k6_ ?_ _|refine k7_ ?_|refine k5_ ?_ _));refine blk_far ?_ NB484_517.out _;(with_reducible repeat (first|refine k6_ ?_ _|refine k7_ ?_|refine k5_ ?_ _));exact BK484.out) hb);replace BK501:=zm0_ (zm5_ (g:=gb501) (o:=.cells #[.int .i64 t497,.slice Ao34 t498.length co34] 32 (0,0)) (by (with_reducible repeat (first|refine k6_ ?_ _|refine k7_ ?_|refine k5_ ?_ _));refine blk_far ?_ NB501_517.out _;(with_reducible repeat (first|refine k6_ ?_ _|refine k7_ ?_|refine k5_ ?_ _));refine blk_far ?_ NB501_517.out _;(with_reducible repeat (first|refine k6_ ?_ _|refine k7_ ?_|refine k5_ ?_ _));exact BK501.out) hb);replace BK506:=zm0_ (zm5_ (g:=gb506) (o:=.cells #[.int .i64 t502,.slice Ao41 t503.length co41] 32 (0,0)) (by (with_reducible repeat (first|refine k6_ ?_ _|refine k7_ ?_|refine k5_ ?_ _));refine blk_far ?_ NB506_517.out _;(with_reducible repeat (first|refine k6_ ?_ _|refine k7_ ?_|refine k5_ ?_ _));refine blk_far ?_ NB506_517.out _;(with_reducible repeat (first|refine k6_ ?_ _|refine k7_ ?_|refine k5_ ?_ _));exact BK506.out) hb);replace BK517:=zm0_ (zm5_ (g:=gb517) (o:=.cells #[.int .i64 t513,.slice Ao51 t514.length co51] 32 (0,0)) (by (with_reducible repeat (first|refine k6_ ?_ _|refine k7_ ?_|refine k5_ ?_ _));refine blk_put (cs:=#[.int .i64 t513,.slice none 0 0]) ?_ 1 _ rfl;(with_reducible repeat (first|refine k6_ ?_ _|refine k7_ ?_|refine k5_ ?_ _));refine blk_put (cs:=#[.int .i64 0,.slice none 0 0]) ?_ 0 _ rfl;(with_reducible repeat (first|refine k6_ ?_ _|refine k7_ ?_|refine k5_ ?_ _));exact BK517.out) hb);replace HB:=zm0_ (zn8_ (zl4 HB GE484 GE501 GE506 GE517) hb);(try clear hb);(try clear hb2);(try clear hk);(try clear hi)))
     go_meet
     case rel => exact ⟨_,(!t519),zz,H',⟨by first|omega|exact Nat.le_refl _⟩,⟨by (with_reducible repeat (first|apply k1_|apply k2_|apply k3_));exact zo2_ HO496.out (fun _ hk => (by first|exact hk.2|(have hq_:=hk;simp only [ne_eq] at hq_ ⊢;simp only [hq_,not_false_eq_true,and_self])))⟩,⟨by (with_reducible repeat (first|apply k1_|apply k2_|apply k3_));exact zo2_ HO509.out (fun _ hk => ⟨(by first|exact hk.1.1.2|(have hq_:=hk;simp only [ne_eq] at hq_ ⊢;simp only [hq_,not_false_eq_true,and_self])),⟨(by first|exact hk.1.2|(have hq_:=hk;simp only [ne_eq] at hq_ ⊢;simp only [hq_,not_false_eq_true,and_self])),(by first|exact hk.2|(have hq_:=hk;simp only [ne_eq] at hq_ ⊢;simp only [hq_,not_false_eq_true,and_self]))⟩⟩)⟩,⟨by (with_reducible repeat (first|apply k1_|apply k2_|apply k3_));exact zo2_ HO512.out (fun _ hk => (by first|exact hk.2|(have hq_:=hk;simp only [ne_eq] at hq_ ⊢;simp only [hq_,not_false_eq_true,and_self])))⟩,⟨by (with_reducible repeat (first|apply k1_|apply k2_|apply k3_));exact zo2_ HO500.out (fun _ hk => ⟨(by first|exact hk.1.2|(have hq_:=hk;simp only [ne_eq] at hq_ ⊢;simp only [hq_,not_false_eq_true,and_self])),⟨(by first|exact hk.1.1.2|(have hq_:=hk;simp only [ne_eq] at hq_ ⊢;simp only [hq_,not_false_eq_true,and_self])),(by first|exact hk.2|(have hq_:=hk;simp only [ne_eq] at hq_ ⊢;simp only [hq_,not_false_eq_true,and_self]))⟩⟩)⟩,⟨by (with_reducible repeat (first|apply k1_|apply k2_|apply k3_));exact zo2_ HO505.out (fun _ hk => ⟨(by first|exact hk.1.2|(have hq_:=hk;simp only [ne_eq] at hq_ ⊢;simp only [hq_,not_false_eq_true,and_self])),⟨(by first|exact hk.1.1.2|(have hq_:=hk;simp only [ne_eq] at hq_ ⊢;simp only [hq_,not_false_eq_true,and_self])),(by first|exact hk.2|(have hq_:=hk;simp only [ne_eq] at hq_ ⊢;simp only [hq_,not_false_eq_true,and_self]))⟩⟩)⟩,⟨by (with_reducible repeat (first|apply k1_|apply k2_|apply k3_));exact zo2_ HO516.out (fun _ hk => ⟨(by first|exact hk.2|(have hq_:=hk;simp only [ne_eq] at hq_ ⊢;simp only [hq_,not_false_eq_true,and_self])),⟨(by first|exact hk.1.1.2|(have hq_:=hk;simp only [ne_eq] at hq_ ⊢;simp only [hq_,not_false_eq_true,and_self])),(by first|exact hk.1.2|(have hq_:=hk;simp only [ne_eq] at hq_ ⊢;simp only [hq_,not_false_eq_true,and_self]))⟩⟩)⟩,⟨zb BK484⟩,⟨zb BK501⟩,⟨zb BK506⟩,⟨zb BK517⟩,⟨zl4 HB GE484 GE501 GE506 GE517⟩⟩
    ·
     replace c53:=Bool.eq_false_iff.mpr c53
     subst c53
     rw [if_neg (show ¬ (false = true) by decide)] at H
     have H':=zm0_ H
     clear H
     obtain ⟨Ao65,co65,eo65⟩:=Kd.R_slice HO512.out
     subst eo65
     obtain ⟨Ao66,co66,eo66⟩:=Kd.R_slice HO496.out
     subst eo66
     go_wp2_with (first|((with_reducible refine gate_callee (f:=11) rfl ?_);refine goesL_ (some 47) rfl rfl Tryz.func11 (by kernel_rfl) rfl #[.slice Ao65 t510.length co65,.slice Ao66 t494.length co66] rfl zy ?_;(with_reducible refine (laws_eqByteS.calls k _ _ t510 _ _ t494 false _ ?side1 ?side2 ?side3 ?side4 A52.out).mono ?_);(case side1 => refine (Kd.R_reads' (e:=5) (base:=w.heap.size) (ok:=fun k_ => (True ∧ some k_ ≠ (.slice Ao66 t494.length co66 : Value).ownBlock)) (n:=t510.length) (c:=co65) ?_).2.2;exact (zs (zo2_ (k4_ (p:=⟨gb517,1,none⟩) (k4_ (p:=⟨gb517,0,none⟩) (Kd.R_types HO512.out BK517.out (by decide)) (fun _ hk => hk.2) (.int .i64 t513)) (fun _ hk => hk.2) (.slice Ao51 t514.length co51)) (fun _ h_ => h_.1))));(case side2 => exact (Kd.R_reads' HO512.out).2.1);(case side3 => refine (Kd.R_reads' (e:=5) (base:=w.heap.size) (ok:=fun k_ => (True ∧ some k_ ≠ (.slice Ao65 t510.length co65 : Value).ownBlock)) (n:=t494.length) (c:=co66) ?_).2.2;exact (zs (zo2_ (k4_ (p:=⟨gb517,1,none⟩) (k4_ (p:=⟨gb517,0,none⟩) (Kd.R_types HO496.out BK517.out (by decide)) (fun _ hk => hk.2) (.int .i64 t513)) (fun _ hk => hk.2) (.slice Ao51 t514.length co51)) (fun _ h_ => h_.1))));(case side4 => exact (Kd.R_reads' HO496.out).2.1);rintro e w' ⟨rfl,⟨nd,rfl⟩⟩;refine ⟨_,rfl,?_⟩))
     go_meet
     case rel => exact ⟨_,(true),zz,H',⟨by first|omega|exact Nat.le_refl _⟩,⟨by (with_reducible repeat (first|apply k1_|apply k2_|apply k3_));exact zo2_ (k4_ (p:=⟨gb517,1,none⟩) (k4_ (p:=⟨gb517,0,none⟩) (Kd.R_types HO496.out BK517.out (by decide)) (fun _ hk => hk.2) (.int .i64 t513)) (fun _ hk => hk.2) (.slice Ao51 t514.length co51)) (fun _ hk => (by first|exact hk.1.2|(have hq_:=hk;simp only [ne_eq] at hq_ ⊢;simp only [hq_,not_false_eq_true,and_self])))⟩,⟨by (with_reducible repeat (first|apply k1_|apply k2_|apply k3_));exact zo2_ (k4_ (p:=⟨gb517,1,none⟩) (k4_ (p:=⟨gb517,0,none⟩) (Kd.R_types HO509.out BK517.out (by decide)) (fun _ hk => hk.2) (.int .i64 t513)) (fun _ hk => hk.2) (.slice Ao51 t514.length co51)) (fun _ hk => ⟨(by first|exact hk.1.1.1.2|(have hq_:=hk;simp only [ne_eq] at hq_ ⊢;simp only [hq_,not_false_eq_true,and_self])),⟨(by first|exact hk.1.1.2|(have hq_:=hk;simp only [ne_eq] at hq_ ⊢;simp only [hq_,not_false_eq_true,and_self])),(by first|exact hk.1.2|(have hq_:=hk;simp only [ne_eq] at hq_ ⊢;simp only [hq_,not_false_eq_true,and_self]))⟩⟩)⟩,⟨by (with_reducible repeat (first|apply k1_|apply k2_|apply k3_));exact zo2_ (k4_ (p:=⟨gb517,1,none⟩) (k4_ (p:=⟨gb517,0,none⟩) (Kd.R_types HO512.out BK517.out (by decide)) (fun _ hk => hk.2) (.int .i64 t513)) (fun _ hk => hk.2) (.slice Ao51 t514.length co51)) (fun _ hk => (by first|exact hk.1.2|(have hq_:=hk;simp only [ne_eq] at hq_ ⊢;simp only [hq_,not_false_eq_true,and_self])))⟩,⟨by (with_reducible repeat (first|apply k1_|apply k2_|apply k3_));exact zo2_ (k4_ (p:=⟨gb517,1,none⟩) (k4_ (p:=⟨gb517,0,none⟩) (Kd.R_types HO500.out BK517.out (by decide)) (fun _ hk => hk.2) (.int .i64 t513)) (fun _ hk => hk.2) (.slice Ao51 t514.length co51)) (fun _ hk => ⟨(by first|exact hk.1.1.2|(have hq_:=hk;simp only [ne_eq] at hq_ ⊢;simp only [hq_,not_false_eq_true,and_self])),⟨(by first|exact hk.1.1.1.2|(have hq_:=hk;simp only [ne_eq] at hq_ ⊢;simp only [hq_,not_false_eq_true,and_self])),(by first|exact hk.1.2|(have hq_:=hk;simp only [ne_eq] at hq_ ⊢;simp only [hq_,not_false_eq_true,and_self]))⟩⟩)⟩,⟨by (with_reducible repeat (first|apply k1_|apply k2_|apply k3_));exact zo2_ (k4_ (p:=⟨gb517,1,none⟩) (k4_ (p:=⟨gb517,0,none⟩) (Kd.R_types HO505.out BK517.out (by decide)) (fun _ hk => hk.2) (.int .i64 t513)) (fun _ hk => hk.2) (.slice Ao51 t514.length co51)) (fun _ hk => ⟨(by first|exact hk.1.1.2|(have hq_:=hk;simp only [ne_eq] at hq_ ⊢;simp only [hq_,not_false_eq_true,and_self])),⟨(by first|exact hk.1.1.1.2|(have hq_:=hk;simp only [ne_eq] at hq_ ⊢;simp only [hq_,not_false_eq_true,and_self])),(by first|exact hk.1.2|(have hq_:=hk;simp only [ne_eq] at hq_ ⊢;simp only [hq_,not_false_eq_true,and_self]))⟩⟩)⟩,⟨by (with_reducible repeat (first|apply k1_|apply k2_|apply k3_));exact zo2_ (k4_ (p:=⟨gb517,1,none⟩) (k4_ (p:=⟨gb517,0,none⟩) (Kd.R_types HO516.out BK517.out (by decide)) (fun _ hk => hk.2) (.int .i64 t513)) (fun _ hk => hk.2) (.slice Ao51 t514.length co51)) (fun _ hk => ⟨(by first|exact hk.1.2|(have hq_:=hk;simp only [ne_eq] at hq_ ⊢;simp only [hq_,not_false_eq_true,and_self])),⟨(by first|exact hk.1.1.1.2|(have hq_:=hk;simp only [ne_eq] at hq_ ⊢;simp only [hq_,not_false_eq_true,and_self])),(by first|exact hk.1.1.2|(have hq_:=hk;simp only [ne_eq] at hq_ ⊢;simp only [hq_,not_false_eq_true,and_self]))⟩⟩)⟩,⟨by (with_reducible repeat (first|refine k6_ ?_ _|refine k7_ ?_|refine k5_ ?_ _));refine blk_far ?_ NB484_517.out _;(with_reducible repeat (first|refine k6_ ?_ _|refine k7_ ?_|refine k5_ ?_ _));refine blk_far ?_ NB484_517.out _;(with_reducible repeat (first|refine k6_ ?_ _|refine k7_ ?_|refine k5_ ?_ _));exact BK484.out⟩,⟨by (with_reducible repeat (first|refine k6_ ?_ _|refine k7_ ?_|refine k5_ ?_ _));refine blk_far ?_ NB501_517.out _;(with_reducible repeat (first|refine k6_ ?_ _|refine k7_ ?_|refine k5_ ?_ _));refine blk_far ?_ NB501_517.out _;(with_reducible repeat (first|refine k6_ ?_ _|refine k7_ ?_|refine k5_ ?_ _));exact BK501.out⟩,⟨by (with_reducible repeat (first|refine k6_ ?_ _|refine k7_ ?_|refine k5_ ?_ _));refine blk_far ?_ NB506_517.out _;(with_reducible repeat (first|refine k6_ ?_ _|refine k7_ ?_|refine k5_ ?_ _));refine blk_far ?_ NB506_517.out _;(with_reducible repeat (first|refine k6_ ?_ _|refine k7_ ?_|refine k5_ ?_ _));exact BK506.out⟩,⟨by (with_reducible repeat (first|refine k6_ ?_ _|refine k7_ ?_|refine k5_ ?_ _));refine blk_put (cs:=#[.int .i64 t513,.slice none 0 0]) ?_ 1 _ rfl;(with_reducible repeat (first|refine k6_ ?_ _|refine k7_ ?_|refine k5_ ?_ _));refine blk_put (cs:=#[.int .i64 0,.slice none 0 0]) ?_ 0 _ rfl;(with_reducible repeat (first|refine k6_ ?_ _|refine k7_ ?_|refine k5_ ?_ _));exact BK517.out⟩,⟨zl4 HB GE484 GE501 GE506 GE517⟩⟩
   case rest =>
    clear HC20
    try clear c1
    try clear c2
    try clear p2
    try clear c3
    try clear c4
    try clear c4b0
    try clear c5
    try clear c6
    try clear c8
    try clear c9
    try clear c9b0
    try clear c11
    try clear c17
    try clear c18
    try clear c19
    try clear c20
    try clear c32
    try clear c38
    try clear c39
    try clear c47
    try clear c48
    try clear c49
    try clear c53
    try clear c57
    try clear c58
    try clear c59
    try clear c61
    try clear c62
    try clear hcz11_0
    try clear hcz11_1
    try clear hcz22_0
    try clear hcz22_1
    try clear hcz25_0
    try clear hcz25_1
    try clear hcz33_0
    try clear hcz33_1
    try clear hcz35_0
    try clear hcz35_1
    try clear hcz40_0
    try clear hcz40_1
    try clear hcz43_0
    try clear hcz43_1
    try clear hcz50_0
    try clear hcz50_1
    try clear hcz60_0
    try clear hcz60_1
    try clear hcz63_0
    try clear hcz63_1
    try clear hcz6_0
    try clear hcz6_1
    try clear hfz11_0
    try clear hfz11_1
    try clear hfz22_0
    try clear hfz22_1
    try clear hfz25_0
    try clear hfz25_1
    try clear hfz33_0
    try clear hfz33_1
    try clear hfz35_0
    try clear hfz35_1
    try clear hfz40_0
    try clear hfz40_1
    try clear hfz43_0
    try clear hfz43_1
    try clear hfz50_0
    try clear hfz50_1
    try clear hfz60_0
    try clear hfz60_1
    try clear hfz63_0
    try clear hfz63_1
    try clear hfz6_0
    try clear hfz6_1
    obtain ⟨kq,x54_19,rfl,HA,HJ19,HO_6,HO_9,HO_10,HO_502001,HO_507001,HO_518001,BK484,BK501,BK506,BK517,HB⟩:=hcut
    cases kq with
    | zero => exact absurd HA.out (by simp [laws_FnExactPutFields.j0])
    | succ kj19 =>
     have H:=HA.out
     clear HA
     simp only [laws_FnExactPutFields.j0] at H
     by_cases c67 : x54_19 = true
     ·
      subst c67
      rw [if_pos rfl] at H
      exact absurd H (by simp)
     ·
      replace c67:=Bool.eq_false_iff.mpr c67
      subst c67
      rw [if_neg (show ¬ (false = true) by decide)] at H
      replace H:=zq1_ H
      obtain ⟨⟨t520,t521⟩,A680,H⟩:=H
      replace H : ((laws_eqTable.f kj19 t502 t503 t520 t521).bind fun t524 => (if t524 = true then ((laws_toFieldS.f kj19 l1).bind fun t525 => ((laws_eqFieldS.f kj19 t507 t525).bind fun t528 => (if t528 = true then ((laws_markTable.f kj19 t502 t503 1).bind fun bt529 => ((laws_markFieldS.f kj19 t507 bt529.1).bind fun bt531 => (if bt531.1 < 0 then (laws_FnExactPutFields.j1 kj19 l1 t494 t510 true a0_0 l0_1 t497 t498 t513 t514) else ((laws_eqByteS.f kj19 t510 t494).bind fun t533 => (if t533 = true then ((laws_eqTable.f kj19 t513 t514 t497 t498).bind fun t534 => (laws_FnExactPutFields.j1 kj19 l1 t494 t510 (!t534) a0_0 l0_1 t497 t498 t513 t514)) else (laws_FnExactPutFields.j1 kj19 l1 t494 t510 true a0_0 l0_1 t497 t498 t513 t514)))))) else (none)))) else (none))) = some r:=H
      have A68:=zm0_ A680
      clear A680
      replace H:=zq1_ H
      obtain ⟨t524,A690,H⟩:=H
      replace H : (if t524 = true then ((laws_toFieldS.f kj19 l1).bind fun t525 => ((laws_eqFieldS.f kj19 t507 t525).bind fun t528 => (if t528 = true then ((laws_markTable.f kj19 t502 t503 1).bind fun bt529 => ((laws_markFieldS.f kj19 t507 bt529.1).bind fun bt531 => (if bt531.1 < 0 then (laws_FnExactPutFields.j1 kj19 l1 t494 t510 true a0_0 l0_1 t497 t498 t513 t514) else ((laws_eqByteS.f kj19 t510 t494).bind fun t533 => (if t533 = true then ((laws_eqTable.f kj19 t513 t514 t497 t498).bind fun t534 => (laws_FnExactPutFields.j1 kj19 l1 t494 t510 (!t534) a0_0 l0_1 t497 t498 t513 t514)) else (laws_FnExactPutFields.j1 kj19 l1 t494 t510 true a0_0 l0_1 t497 t498 t513 t514)))))) else (none)))) else (none)) = some r:=H
      have A69:=zm0_ A690
      clear A690
      by_cases c70 : t524 = true
      ·
       subst c70
       rw [if_pos rfl] at H
       replace H:=zq1_ H
       obtain ⟨t525,A710,H⟩:=H
       replace H : ((laws_eqFieldS.f kj19 t507 t525).bind fun t528 => (if t528 = true then ((laws_markTable.f kj19 t502 t503 1).bind fun bt529 => ((laws_markFieldS.f kj19 t507 bt529.1).bind fun bt531 => (if bt531.1 < 0 then (laws_FnExactPutFields.j1 kj19 l1 t494 t510 true a0_0 l0_1 t497 t498 t513 t514) else ((laws_eqByteS.f kj19 t510 t494).bind fun t533 => (if t533 = true then ((laws_eqTable.f kj19 t513 t514 t497 t498).bind fun t534 => (laws_FnExactPutFields.j1 kj19 l1 t494 t510 (!t534) a0_0 l0_1 t497 t498 t513 t514)) else (laws_FnExactPutFields.j1 kj19 l1 t494 t510 true a0_0 l0_1 t497 t498 t513 t514)))))) else (none))) = some r:=H
       have A71:=zm0_ A710
       clear A710
       replace H:=zq1_ H
       obtain ⟨t528,A720,H⟩:=H
       replace H : (if t528 = true then ((laws_markTable.f kj19 t502 t503 1).bind fun bt529 => ((laws_markFieldS.f kj19 t507 bt529.1).bind fun bt531 => (if bt531.1 < 0 then (laws_FnExactPutFields.j1 kj19 l1 t494 t510 true a0_0 l0_1 t497 t498 t513 t514) else ((laws_eqByteS.f kj19 t510 t494).bind fun t533 => (if t533 = true then ((laws_eqTable.f kj19 t513 t514 t497 t498).bind fun t534 => (laws_FnExactPutFields.j1 kj19 l1 t494 t510 (!t534) a0_0 l0_1 t497 t498 t513 t514)) else (laws_FnExactPutFields.j1 kj19 l1 t494 t510 true a0_0 l0_1 t497 t498 t513 t514)))))) else (none)) = some r:=H
       have A72:=zm0_ A720
       clear A720
       by_cases c73 : t528 = true
       ·
        subst c73
        rw [if_pos rfl] at H
        replace H:=zq1_ H
        obtain ⟨⟨t529,t530⟩,A740,H⟩:=H
        replace H : ((laws_markFieldS.f kj19 t507 t529).bind fun bt531 => (if bt531.1 < 0 then (laws_FnExactPutFields.j1 kj19 l1 t494 t510 true a0_0 l0_1 t497 t498 t513 t514) else ((laws_eqByteS.f kj19 t510 t494).bind fun t533 => (if t533 = true then ((laws_eqTable.f kj19 t513 t514 t497 t498).bind fun t534 => (laws_FnExactPutFields.j1 kj19 l1 t494 t510 (!t534) a0_0 l0_1 t497 t498 t513 t514)) else (laws_FnExactPutFields.j1 kj19 l1 t494 t510 true a0_0 l0_1 t497 t498 t513 t514))))) = some r:=H
        have A74:=zm0_ A740
        clear A740
        replace H:=zq1_ H
        obtain ⟨⟨t531,t532⟩,A750,H⟩:=H
        replace H : (if t531 < 0 then (laws_FnExactPutFields.j1 kj19 l1 t494 t510 true a0_0 l0_1 t497 t498 t513 t514) else ((laws_eqByteS.f kj19 t510 t494).bind fun t533 => (if t533 = true then ((laws_eqTable.f kj19 t513 t514 t497 t498).bind fun t534 => (laws_FnExactPutFields.j1 kj19 l1 t494 t510 (!t534) a0_0 l0_1 t497 t498 t513 t514)) else (laws_FnExactPutFields.j1 kj19 l1 t494 t510 true a0_0 l0_1 t497 t498 t513 t514)))) = some r:=H
        have A75:=zm0_ A750
        clear A750
        have HC76:=zm0_ H
        clear H
        try go_wp2
        replace HO_6:=zm0_ (k3_ HO_6.out)
        replace HO_9:=zm0_ (k3_ HO_9.out)
        replace HO_10:=zm0_ (k3_ HO_10.out)
        replace HO_502001:=zm0_ (k3_ HO_502001.out)
        replace HO_507001:=zm0_ (k3_ HO_507001.out)
        replace HO_518001:=zm0_ (k3_ HO_518001.out)
        replace BK484:=zm0_ (k7_ BK484.out)
        replace BK501:=zm0_ (k7_ BK501.out)
        replace BK506:=zm0_ (k7_ BK506.out)
        replace BK517:=zm0_ (k7_ BK517.out)
        replace HB:=zm0_ (zm4_ HB.out)
        refine start_ (n:=5) (S:=fun w' => w'.cell? ⟨gb506,0,none⟩ = some (.int .i64 t502) ∧ w'.cell? ⟨gb506,1,none⟩ = some (.slice Ao41 t503.length co41) ∧ w'.cell? ⟨gb484,0,none⟩ = some (.int .i64 a0_0) ∧ w'.cell? ⟨gb484,1,none⟩ = some (.slice A0_1 l0_1.length c0_1)) (ds:=[]) #[Z,Z,Z,Z,Z] (by kernel_rfl) rfl rfl ⟨(zm6_ BK506.out 0).trans rfl,(zm6_ BK506.out 1).trans rfl,(zm6_ BK484.out 0).trans rfl,(zm6_ BK484.out 1).trans rfl⟩ (fun hHeld => ?_)
        generalize wc.drew = w77 at HO_6 HO_9 HO_10 HO_502001 HO_507001 HO_518001 BK484 BK501 BK506 BK517 HB hHeld ⊢
        refine take_ (i:=0) (N:=some 55) (v:=?_) (a':=?_) #[Y,Z,Z,Z,Z] rfl rfl (by kernel_rfl) (fun _ _ _ h => h) (Or.inl ⟨by rfl,?_⟩) hHeld ?_ ?_
        rotate_left
        ·
         rintro w' ⟨s0,s1,s2,s3⟩
         go_simp
         with_reducible rfl
        rotate_left
        ·
         simp only [Act.put,lA_,lB_,lC_,i64_w,i32_w]
         rfl
        refine take_ (i:=1) (N:=some 56) (v:=?_) (a':=?_) #[Y,Y,Z,Z,Z] rfl rfl (by kernel_rfl) (fun _ _ _ h => h) (Or.inl ⟨by rfl,?_⟩) hHeld ?_ ?_
        rotate_left
        ·
         rintro w' ⟨s0,s1,s2,s3⟩
         go_simp
         with_reducible rfl
        rotate_left
        ·
         simp only [Act.put,lA_,lB_,lC_,i64_w,i32_w]
         rfl
        refine one_ (i:=2) (N:=some 57) #[Y,Y,Y,Z,Z] rfl rfl (by kernel_rfl) (by decide) (fun K hK => ?_)
        refine goes_ Tryz.func8 (by kernel_rfl) rfl #[.agg #[.int .i64 a0_0,.slice A0_1 l0_1.length c0_1]] (by rfl) rfl rfl zy ?_
        with_reducible refine (laws_toTable.calls kj19 a0_0 _ _ l0_1 t520 t521 _ ?side1 ?side2 A68.out).mono ?_
        (case side1 => repeat (first|exact (Kd.C_below HR0_1.out HB.out)|(with_reducible refine Kd.C_alloc ?_ _)|(with_reducible refine Kd.C_drewN ?_ _)|(with_reducible refine Kd.C_drew ?_)))
        (case side2 => exact HC0_1.out)
        rintro e w78 ⟨v522,rfl,ho0,hb⟩
        refine ⟨_,rfl,?_⟩
        replace HO_6:=zm0_ (zm8_ (zr HO_6) hb)
        replace HO_10:=zm0_ (zm8_ (zr HO_10) hb)
        have HO523:=zm0_ (zo1_ (Kd.R_new' (Kd.R_new' (Kd.R_new' (Kd.R_new' ho0 (Kd.R_lt (zr HO_9))) (Kd.R_lt (zr HO_502001))) (Kd.R_lt (zr HO_507001))) (Kd.R_lt (zr HO_518001))) (zn9_ (zl4 HB GE484 GE501 GE506 GE517)))
        replace HO_9:=zm0_ (Kd.R_elder' (zr HO_9) (Kd.R_base ho0) hb)
        replace HO_502001:=zm0_ (Kd.R_elder' (zr HO_502001) (Kd.R_base ho0) hb)
        replace HO_507001:=zm0_ (Kd.R_elder' (zr HO_507001) (Kd.R_base ho0) hb)
        replace HO_518001:=zm0_ (Kd.R_elder' (zr HO_518001) (Kd.R_base ho0) hb)
        replace BK484:=zm0_ (zm5_ (zb BK484) hb)
        replace BK501:=zm0_ (zm5_ (zb BK501) hb)
        replace BK506:=zm0_ (zm5_ (zb BK506) hb)
        replace BK517:=zm0_ (zm5_ (zb BK517) hb)
        replace HB:=zm0_ (zn8_ (zl4 HB GE484 GE501 GE506 GE517) hb)
        (try clear hb)
        (try clear hb2)
        (try clear hk)
        (try clear hi)
        (try clear ho0)
        obtain ⟨Ao79,co79,eo79⟩:=Kd.R_slice HO523.out
        (first|subst eo79|(injection eo79 with f1_ f2_ f3_;have f4_:=f1_.symm;have f5_:=f3_.symm;clear f1_ f2_ f3_;subst f4_;subst f5_))
        refine hK.out _ _ ⟨(zm6_ BK506.out 0).trans rfl,(zm6_ BK506.out 1).trans rfl,(zm6_ BK484.out 0).trans rfl,(zm6_ BK484.out 1).trans rfl⟩ (fun hHeld => ?_)
        clear hK K
        refine norm_ (a':=?_) ?_ ?_
        rotate_left
        ·
         show Act.put _ (some 57) _ = _
         simp only [Act.put,lA_,lB_,lC_,i64_w,i32_w]
         rfl
        refine one_ (i:=3) (N:=some 58) #[Y,Y,Y,Y,Z] rfl rfl (by kernel_rfl) (by decide) (fun K hK => ?_)
        refine goes_ Tryz.func12 (by kernel_rfl) rfl #[.agg #[.int .i64 t502,.slice Ao41 t503.length co41],.agg #[.int .i64 t520,.slice Ao79 t521.length co79]] (by rfl) rfl rfl zy ?_
        with_reducible refine (laws_eqTable.calls kj19 t502 _ _ t503 t520 _ _ t521 true _ ?side1 ?side2 ?side3 ?side4 A69.out).mono ?_
        (case side1 => repeat (first|exact (Kd.R_reads' HO_507001.out).2.2|(with_reducible refine Kd.C_alloc ?_ _)|(with_reducible refine Kd.C_drewN ?_ _)|(with_reducible refine Kd.C_drew ?_)))
        (case side2 => exact (Kd.R_reads' HO_507001.out).2.1)
        (case side3 => repeat (first|exact (Kd.R_reads' HO523.out).2.2|(with_reducible refine Kd.C_alloc ?_ _)|(with_reducible refine Kd.C_drewN ?_ _)|(with_reducible refine Kd.C_drew ?_)))
        (case side4 => exact (Kd.R_reads' HO523.out).2.1)
        rintro e w80 ⟨rfl,hb⟩
        refine ⟨_,rfl,?_⟩
        replace HO_6:=zm0_ (zm8_ (zr HO_6) hb)
        replace HO_9:=zm0_ (zm8_ (zr HO_9) hb)
        replace HO_10:=zm0_ (zm8_ (zr HO_10) hb)
        replace HO_502001:=zm0_ (zm8_ (zr HO_502001) hb)
        replace HO_507001:=zm0_ (zm8_ (zr HO_507001) hb)
        replace HO_518001:=zm0_ (zm8_ (zr HO_518001) hb)
        replace HO523:=zm0_ (zm8_ (zr HO523) hb)
        replace BK484:=zm0_ (zm5_ (zb BK484) hb)
        replace BK501:=zm0_ (zm5_ (zb BK501) hb)
        replace BK506:=zm0_ (zm5_ (zb BK506) hb)
        replace BK517:=zm0_ (zm5_ (zb BK517) hb)
        replace HB:=zm0_ (zn8_ (zl4 HB GE484 GE501 GE506 GE517) hb)
        (try clear hb)
        (try clear hb2)
        (try clear hk)
        (try clear hi)
        refine hK.out _ _ ⟨(zm6_ BK506.out 0).trans rfl,(zm6_ BK506.out 1).trans rfl,(zm6_ BK484.out 0).trans rfl,(zm6_ BK484.out 1).trans rfl⟩ (fun hHeld => ?_)
        clear hK K
        refine norm_ (a':=?_) ?_ ?_
        rotate_left
        ·
         show Act.put _ (some 58) _ = _
         simp only [Act.put,lA_,lB_,lC_,i64_w,i32_w]
         rfl
        refine pure_ (i:=4) (N:=some 59) (v:=?_) (a':=?_) #[Y,Y,Y,Y,Y] rfl rfl (by kernel_rfl) (fun _ _ _ h => h) (Or.inl ⟨by rfl,?_⟩) ?_ ?_
        rotate_left
        ·
         intro w'
         go_simp
         with_reducible rfl
        rotate_left
        ·
         simp only [Act.put,lA_,lB_,lC_,i64_w,i32_w]
         rfl
        refine done_ (by kernel_rfl) ?_
        go_upto_region 21 with (first|((with_reducible refine gate_callee (f:=19) rfl ?_);refine goesL_ (some 62) rfl rfl Tryz.func19 (by kernel_rfl) rfl #[.slice A1 l1.length c1] rfl zy ?_;(with_reducible refine (laws_toFieldS.calls kj19 _ _ l1 t525 _ ?side1 ?side2 A71.out).mono ?_);(case side1 => repeat (first|exact (Kd.C_below HR1.out HB.out)|(with_reducible refine Kd.C_alloc ?_ _)|(with_reducible refine Kd.C_drewN ?_ _)|(with_reducible refine Kd.C_drew ?_)));(case side2 => exact HC1.out);rintro e w81 ⟨v526,rfl,ho0,hb⟩;refine ⟨_,rfl,?_⟩;replace HO_6:=zm0_ (zm8_ (zr HO_6) hb);replace HO_10:=zm0_ (zm8_ (zr HO_10) hb);have HO527:=zm0_ (zo1_ (Kd.R_new' (Kd.R_new' (Kd.R_new' (Kd.R_new' (Kd.R_new' ho0 (Kd.R_lt (zr HO_9))) (Kd.R_lt (zr HO_502001))) (Kd.R_lt (zr HO_507001))) (Kd.R_lt (zr HO_518001))) (Kd.R_lt (zr HO523))) (zn9_ (zl4 HB GE484 GE501 GE506 GE517)));replace HO_9:=zm0_ (Kd.R_elder' (zr HO_9) (Kd.R_base ho0) hb);replace HO_502001:=zm0_ (Kd.R_elder' (zr HO_502001) (Kd.R_base ho0) hb);replace HO_507001:=zm0_ (Kd.R_elder' (zr HO_507001) (Kd.R_base ho0) hb);replace HO_518001:=zm0_ (Kd.R_elder' (zr HO_518001) (Kd.R_base ho0) hb);replace HO523:=zm0_ (Kd.R_elder' (zr HO523) (Kd.R_base ho0) hb);replace BK484:=zm0_ (zm5_ (zb BK484) hb);replace BK501:=zm0_ (zm5_ (zb BK501) hb);replace BK506:=zm0_ (zm5_ (zb BK506) hb);replace BK517:=zm0_ (zm5_ (zb BK517) hb);replace HB:=zm0_ (zn8_ (zl4 HB GE484 GE501 GE506 GE517) hb);(try clear hb);(try clear hb2);(try clear hk);(try clear hi);(try clear ho0);obtain ⟨Ao82,co82,eo82⟩:=Kd.R_slice HO527.out;subst eo82)|((with_reducible refine gate_callee (f:=21) rfl ?_);refine goesL_ (some 63) rfl rfl Tryz.func21 (by kernel_rfl) rfl #[.slice Ao44 t507.length co44,.slice Ao82 t525.length co82] rfl zy ?_;(with_reducible refine (laws_eqFieldS.calls kj19 _ _ t507 _ _ t525 true _ ?side1 ?side2 ?side3 ?side4 A72.out).mono ?_);(case side1 => repeat (first|exact (Kd.R_reads' HO_9.out).2.2|(with_reducible refine Kd.C_alloc ?_ _)|(with_reducible refine Kd.C_drewN ?_ _)|(with_reducible refine Kd.C_drew ?_)));(case side2 => exact (Kd.R_reads' HO_9.out).2.1);(case side3 => repeat (first|exact (Kd.R_reads' HO527.out).2.2|(with_reducible refine Kd.C_alloc ?_ _)|(with_reducible refine Kd.C_drewN ?_ _)|(with_reducible refine Kd.C_drew ?_)));(case side4 => exact (Kd.R_reads' HO527.out).2.1);rintro e w83 ⟨rfl,hb⟩;refine ⟨_,rfl,?_⟩;replace HO_6:=zm0_ (zm8_ (zr HO_6) hb);replace HO_9:=zm0_ (zm8_ (zr HO_9) hb);replace HO_10:=zm0_ (zm8_ (zr HO_10) hb);replace HO_502001:=zm0_ (zm8_ (zr HO_502001) hb);replace HO_507001:=zm0_ (zm8_ (zr HO_507001) hb);replace HO_518001:=zm0_ (zm8_ (zr HO_518001) hb);replace HO523:=zm0_ (zm8_ (zr HO523) hb);replace HO527:=zm0_ (zm8_ (zr HO527) hb);replace BK484:=zm0_ (zm5_ (zb BK484) hb);replace BK501:=zm0_ (zm5_ (zb BK501) hb);replace BK506:=zm0_ (zm5_ (zb BK506) hb);replace BK517:=zm0_ (zm5_ (zb BK517) hb);replace HB:=zm0_ (zn8_ (zl4 HB GE484 GE501 GE506 GE517) hb);(try clear hb);(try clear hb2);(try clear hk);(try clear hi);have hnb84:=NB506_484.out;have hnc84:=NB484_506.out;have hnb85:=NB506_501.out;have hnc85:=NB501_506.out;have hnb86:=NB506_517.out;have hnc86:=NB517_506.out;have hcz87_0 : w83.cell? ⟨gb506,0,none⟩ = some (.int .i64 t502):=(zm6_ BK506.out 0).trans rfl;have hcz87_1 : w83.cell? ⟨gb506,1,none⟩ = some (.slice Ao41 t503.length co41):=(zm6_ BK506.out 1).trans rfl;have hfz87_0:=zm7_ BK506.out 0;have hfz87_1:=zm7_ BK506.out 1)|((with_reducible refine gate_callee (f:=13) rfl ?_);refine goesL_ (some 67) rfl rfl Tryz.func13 (by kernel_rfl) rfl #[.agg #[.int .i64 t502,.slice Ao41 t503.length co41],.int .i64 1] rfl zy ?_;(with_reducible refine (laws_markTable.calls kj19 t502 (fun k_ => some k_ = (.slice Ao41 t503.length co41 : Value).ownBlock) (.slice Ao41 t503.length co41) t503 1 t529 t530 w _ ?side1 ?side2 A74.out).mono ?_);(case side1 => repeat (first|(with_reducible first|exact HB.out|apply zm3_|apply zm2_|apply zm4_|refine zm1_ ?_ GE484.out|refine zm1_ ?_ GE501.out|refine zm1_ ?_ GE506.out|refine zm1_ ?_ GE517.out)|exact HB.out));(case side2 => exact Kd.R_tight rfl HO_507001.out);rintro e w88 ⟨rfl,hy0,hb,hkp⟩;refine ⟨_,rfl,?_⟩;replace HO_6:=zm0_ (zo2_ (ok':=fun k_ => some k_ ≠ (v511 : Value).ownBlock) (Kd.R_keptB ((Kd.R_apart' HO_6.out (Kd.R_typed HO_507001.out) (by decide))) hkp (fun k_ hk_ hs_ => absurd hs_ ((by first|exact hk_.2|(have hq_:=hk_;simp only [ne_eq] at hq_ ⊢;simp only [hq_,not_false_eq_true,and_self]))))) (fun k_ hk_ => (by first|exact hk_.1.1|(have hq_:=hk_.1;simp only [ne_eq] at hq_ ⊢;simp only [hq_,not_false_eq_true,and_self]))));replace HO_9:=zm0_ (zo2_ (ok':=fun k_ => some k_ ≠ (.slice Ao34 t498.length co34 : Value).ownBlock ∧ some k_ ≠ (.slice Ao41 t503.length co41 : Value).ownBlock ∧ some k_ ≠ (.slice Ao51 t514.length co51 : Value).ownBlock ∧ some k_ ≠ (.slice Ao79 t521.length co79 : Value).ownBlock ∧ some k_ ≠ (.slice Ao82 t525.length co82 : Value).ownBlock) (Kd.R_keptB (HO_9.out) hkp (fun k_ hk_ hs_ => absurd hs_ ((by first|exact hk_.1.1.2.1|(have hq_:=hk_;simp only [ne_eq] at hq_ ⊢;simp only [hq_,not_false_eq_true,and_self]))))) (fun k_ hk_ => ⟨(by first|exact hk_.1.1.1.1|(have hq_:=hk_.1;simp only [ne_eq] at hq_ ⊢;simp only [hq_,not_false_eq_true,and_self])),(by first|exact hk_.1.1.1.2.1|(have hq_:=hk_.1;simp only [ne_eq] at hq_ ⊢;simp only [hq_,not_false_eq_true,and_self])),(by first|exact hk_.1.1.1.2.2|(have hq_:=hk_.1;simp only [ne_eq] at hq_ ⊢;simp only [hq_,not_false_eq_true,and_self])),(by first|exact hk_.1.1.2|(have hq_:=hk_.1;simp only [ne_eq] at hq_ ⊢;simp only [hq_,not_false_eq_true,and_self])),(by first|exact hk_.1.2|(have hq_:=hk_.1;simp only [ne_eq] at hq_ ⊢;simp only [hq_,not_false_eq_true,and_self]))⟩));replace HO_10:=zm0_ (zo2_ (ok':=fun k_ => some k_ ≠ (v495 : Value).ownBlock) (Kd.R_keptB ((Kd.R_apart' HO_10.out (Kd.R_typed HO_507001.out) (by decide))) hkp (fun k_ hk_ hs_ => absurd hs_ ((by first|exact hk_.2|(have hq_:=hk_;simp only [ne_eq] at hq_ ⊢;simp only [hq_,not_false_eq_true,and_self]))))) (fun k_ hk_ => (by first|exact hk_.1.1|(have hq_:=hk_.1;simp only [ne_eq] at hq_ ⊢;simp only [hq_,not_false_eq_true,and_self]))));replace HO_502001:=zm0_ (zo2_ (ok':=fun k_ => some k_ ≠ (.slice Ao44 t507.length co44 : Value).ownBlock ∧ some k_ ≠ (.slice Ao41 t503.length co41 : Value).ownBlock ∧ some k_ ≠ (.slice Ao51 t514.length co51 : Value).ownBlock ∧ some k_ ≠ (.slice Ao79 t521.length co79 : Value).ownBlock ∧ some k_ ≠ (.slice Ao82 t525.length co82 : Value).ownBlock) (Kd.R_keptB (HO_502001.out) hkp (fun k_ hk_ hs_ => absurd hs_ ((by first|exact hk_.1.1.2.1|(have hq_:=hk_;simp only [ne_eq] at hq_ ⊢;simp only [hq_,not_false_eq_true,and_self]))))) (fun k_ hk_ => ⟨(by first|exact hk_.1.1.1.1|(have hq_:=hk_.1;simp only [ne_eq] at hq_ ⊢;simp only [hq_,not_false_eq_true,and_self])),(by first|exact hk_.1.1.1.2.1|(have hq_:=hk_.1;simp only [ne_eq] at hq_ ⊢;simp only [hq_,not_false_eq_true,and_self])),(by first|exact hk_.1.1.1.2.2|(have hq_:=hk_.1;simp only [ne_eq] at hq_ ⊢;simp only [hq_,not_false_eq_true,and_self])),(by first|exact hk_.1.1.2|(have hq_:=hk_.1;simp only [ne_eq] at hq_ ⊢;simp only [hq_,not_false_eq_true,and_self])),(by first|exact hk_.1.2|(have hq_:=hk_.1;simp only [ne_eq] at hq_ ⊢;simp only [hq_,not_false_eq_true,and_self]))⟩));replace HO_518001:=zm0_ (zo2_ (ok':=fun k_ => some k_ ≠ (.slice Ao44 t507.length co44 : Value).ownBlock ∧ some k_ ≠ (.slice Ao34 t498.length co34 : Value).ownBlock ∧ some k_ ≠ (.slice Ao41 t503.length co41 : Value).ownBlock ∧ some k_ ≠ (.slice Ao79 t521.length co79 : Value).ownBlock ∧ some k_ ≠ (.slice Ao82 t525.length co82 : Value).ownBlock) (Kd.R_keptB (HO_518001.out) hkp (fun k_ hk_ hs_ => absurd hs_ ((by first|exact hk_.1.1.2.2|(have hq_:=hk_;simp only [ne_eq] at hq_ ⊢;simp only [hq_,not_false_eq_true,and_self]))))) (fun k_ hk_ => ⟨(by first|exact hk_.1.1.1.1|(have hq_:=hk_.1;simp only [ne_eq] at hq_ ⊢;simp only [hq_,not_false_eq_true,and_self])),(by first|exact hk_.1.1.1.2.1|(have hq_:=hk_.1;simp only [ne_eq] at hq_ ⊢;simp only [hq_,not_false_eq_true,and_self])),(by first|exact hk_.1.1.1.2.2|(have hq_:=hk_.1;simp only [ne_eq] at hq_ ⊢;simp only [hq_,not_false_eq_true,and_self])),(by first|exact hk_.1.1.2|(have hq_:=hk_.1;simp only [ne_eq] at hq_ ⊢;simp only [hq_,not_false_eq_true,and_self])),(by first|exact hk_.1.2|(have hq_:=hk_.1;simp only [ne_eq] at hq_ ⊢;simp only [hq_,not_false_eq_true,and_self]))⟩));replace BK484:=zm0_ (blk_kept (zb BK484) hkp (fun hs_ => (fun e_ => (Kd.R_ne HO_507001.out BK484.out (by decide)) e_) hs_));replace BK501:=zm0_ (blk_kept (zb BK501) hkp (fun hs_ => (fun e_ => (Kd.R_ne HO_507001.out BK501.out (by decide)) e_) hs_));replace BK506:=zm0_ (blk_kept (zb BK506) hkp (fun hs_ => (fun e_ => (Kd.R_ne HO_507001.out BK506.out (by decide)) e_) hs_));replace BK517:=zm0_ (blk_kept (zb BK517) hkp (fun hs_ => (fun e_ => (Kd.R_ne HO_507001.out BK517.out (by decide)) e_) hs_));replace HO_507001:=zm0_ (Kd.R_reok rfl hy0 (fun k_ e_ => HO_507001.out.1 k_ e_));replace HO523:=zm0_ (zo2_ (ok':=fun k_ => some k_ ≠ (.slice Ao44 t507.length co44 : Value).ownBlock ∧ some k_ ≠ (.slice Ao34 t498.length co34 : Value).ownBlock ∧ some k_ ≠ (.slice Ao41 t503.length co41 : Value).ownBlock ∧ some k_ ≠ (.slice Ao51 t514.length co51 : Value).ownBlock ∧ some k_ ≠ (.slice Ao82 t525.length co82 : Value).ownBlock) (Kd.R_keptB (HO523.out) hkp (fun k_ hk_ hs_ => absurd hs_ ((by first|exact hk_.1.1.2|(have hq_:=hk_;simp only [ne_eq] at hq_ ⊢;simp only [hq_,not_false_eq_true,and_self]))))) (fun k_ hk_ => ⟨(by first|exact hk_.1.1.1.1.1.2|(have hq_:=hk_.1;simp only [ne_eq] at hq_ ⊢;simp only [hq_,not_false_eq_true,and_self])),(by first|exact hk_.1.1.1.1.2|(have hq_:=hk_.1;simp only [ne_eq] at hq_ ⊢;simp only [hq_,not_false_eq_true,and_self])),(by first|exact hk_.1.1.1.2|(have hq_:=hk_.1;simp only [ne_eq] at hq_ ⊢;simp only [hq_,not_false_eq_true,and_self])),(by first|exact hk_.1.1.2|(have hq_:=hk_.1;simp only [ne_eq] at hq_ ⊢;simp only [hq_,not_false_eq_true,and_self])),(by first|exact hk_.1.2|(have hq_:=hk_.1;simp only [ne_eq] at hq_ ⊢;simp only [hq_,not_false_eq_true,and_self]))⟩));replace HO527:=zm0_ (zo2_ (ok':=fun k_ => some k_ ≠ (.slice Ao44 t507.length co44 : Value).ownBlock ∧ some k_ ≠ (.slice Ao34 t498.length co34 : Value).ownBlock ∧ some k_ ≠ (.slice Ao41 t503.length co41 : Value).ownBlock ∧ some k_ ≠ (.slice Ao51 t514.length co51 : Value).ownBlock ∧ some k_ ≠ (.slice Ao79 t521.length co79 : Value).ownBlock) (Kd.R_keptB (HO527.out) hkp (fun k_ hk_ hs_ => absurd hs_ ((by first|exact hk_.1.1.2|(have hq_:=hk_;simp only [ne_eq] at hq_ ⊢;simp only [hq_,not_false_eq_true,and_self]))))) (fun k_ hk_ => ⟨(by first|exact hk_.1.1.1.1.1.2|(have hq_:=hk_.1;simp only [ne_eq] at hq_ ⊢;simp only [hq_,not_false_eq_true,and_self])),(by first|exact hk_.1.1.1.1.2|(have hq_:=hk_.1;simp only [ne_eq] at hq_ ⊢;simp only [hq_,not_false_eq_true,and_self])),(by first|exact hk_.1.1.1.2|(have hq_:=hk_.1;simp only [ne_eq] at hq_ ⊢;simp only [hq_,not_false_eq_true,and_self])),(by first|exact hk_.1.1.2|(have hq_:=hk_.1;simp only [ne_eq] at hq_ ⊢;simp only [hq_,not_false_eq_true,and_self])),(by first|exact hk_.1.2|(have hq_:=hk_.1;simp only [ne_eq] at hq_ ⊢;simp only [hq_,not_false_eq_true,and_self]))⟩));replace HB:=zm0_ (hb);(try clear hb);(try clear hkp);(try clear hy0))|((with_reducible refine gate_callee (f:=22) rfl ?_);refine goesL_ (some 70) rfl rfl Tryz.func22 (by kernel_rfl) rfl #[.slice Ao44 t507.length co44,.int .i64 t529] rfl zy ?_;(with_reducible refine (laws_markFieldS.calls kj19 (fun k_ => some k_ = (.slice Ao44 t507.length co44 : Value).ownBlock) (.slice Ao44 t507.length co44) t507 t529 t531 t532 w _ ?side1 ?side2 A75.out).mono ?_);(case side1 => repeat (first|(with_reducible first|exact HB.out|apply zm3_|apply zm2_|apply zm4_|refine zm1_ ?_ GE484.out|refine zm1_ ?_ GE501.out|refine zm1_ ?_ GE506.out|refine zm1_ ?_ GE517.out)|exact HB.out));(case side2 => exact Kd.R_tight rfl HO_9.out);rintro e w89 ⟨rfl,hy0,hb,hkp⟩;refine ⟨_,rfl,?_⟩;replace HO_6:=zm0_ (zo2_ (ok':=fun k_ => some k_ ≠ (v511 : Value).ownBlock) (Kd.R_keptB ((Kd.R_apart' HO_6.out (Kd.R_typed HO_9.out) (by decide))) hkp (fun k_ hk_ hs_ => absurd hs_ ((by first|exact hk_.2|(have hq_:=hk_;simp only [ne_eq] at hq_ ⊢;simp only [hq_,not_false_eq_true,and_self]))))) (fun k_ hk_ => (by first|exact hk_.1.1|(have hq_:=hk_.1;simp only [ne_eq] at hq_ ⊢;simp only [hq_,not_false_eq_true,and_self]))));replace HO_10:=zm0_ (zo2_ (ok':=fun k_ => some k_ ≠ (v495 : Value).ownBlock) (Kd.R_keptB ((Kd.R_apart' HO_10.out (Kd.R_typed HO_9.out) (by decide))) hkp (fun k_ hk_ hs_ => absurd hs_ ((by first|exact hk_.2|(have hq_:=hk_;simp only [ne_eq] at hq_ ⊢;simp only [hq_,not_false_eq_true,and_self]))))) (fun k_ hk_ => (by first|exact hk_.1.1|(have hq_:=hk_.1;simp only [ne_eq] at hq_ ⊢;simp only [hq_,not_false_eq_true,and_self]))));replace HO_502001:=zm0_ (zo2_ (ok':=fun k_ => some k_ ≠ (.slice Ao44 t507.length co44 : Value).ownBlock ∧ some k_ ≠ (.slice Ao41 t503.length co41 : Value).ownBlock ∧ some k_ ≠ (.slice Ao51 t514.length co51 : Value).ownBlock ∧ some k_ ≠ (.slice Ao79 t521.length co79 : Value).ownBlock ∧ some k_ ≠ (.slice Ao82 t525.length co82 : Value).ownBlock) (Kd.R_keptB (HO_502001.out) hkp (fun k_ hk_ hs_ => absurd hs_ ((by first|exact hk_.1|(have hq_:=hk_;simp only [ne_eq] at hq_ ⊢;simp only [hq_,not_false_eq_true,and_self]))))) (fun k_ hk_ => ⟨(by first|exact hk_.1.1|(have hq_:=hk_.1;simp only [ne_eq] at hq_ ⊢;simp only [hq_,not_false_eq_true,and_self])),(by first|exact hk_.1.2.1|(have hq_:=hk_.1;simp only [ne_eq] at hq_ ⊢;simp only [hq_,not_false_eq_true,and_self])),(by first|exact hk_.1.2.2.1|(have hq_:=hk_.1;simp only [ne_eq] at hq_ ⊢;simp only [hq_,not_false_eq_true,and_self])),(by first|exact hk_.1.2.2.2.1|(have hq_:=hk_.1;simp only [ne_eq] at hq_ ⊢;simp only [hq_,not_false_eq_true,and_self])),(by first|exact hk_.1.2.2.2.2|(have hq_:=hk_.1;simp only [ne_eq] at hq_ ⊢;simp only [hq_,not_false_eq_true,and_self]))⟩));replace HO_507001:=zm0_ (zo2_ (ok':=fun k_ => some k_ ≠ (.slice Ao44 t507.length co44 : Value).ownBlock ∧ some k_ ≠ (.slice Ao34 t498.length co34 : Value).ownBlock ∧ some k_ ≠ (.slice Ao51 t514.length co51 : Value).ownBlock ∧ some k_ ≠ (.slice Ao79 t521.length co79 : Value).ownBlock ∧ some k_ ≠ (.slice Ao82 t525.length co82 : Value).ownBlock) (Kd.R_keptB (HO_507001.out) hkp (fun k_ hk_ hs_ => absurd hs_ ((by first|exact hk_.1.1.1|(have hq_:=hk_;simp only [ne_eq] at hq_ ⊢;simp only [hq_,not_false_eq_true,and_self]))))) (fun k_ hk_ => ⟨(by first|exact hk_.1.1.1.1|(have hq_:=hk_.1;simp only [ne_eq] at hq_ ⊢;simp only [hq_,not_false_eq_true,and_self])),(by first|exact hk_.1.1.1.2.1|(have hq_:=hk_.1;simp only [ne_eq] at hq_ ⊢;simp only [hq_,not_false_eq_true,and_self])),(by first|exact hk_.1.1.1.2.2|(have hq_:=hk_.1;simp only [ne_eq] at hq_ ⊢;simp only [hq_,not_false_eq_true,and_self])),(by first|exact hk_.1.1.2|(have hq_:=hk_.1;simp only [ne_eq] at hq_ ⊢;simp only [hq_,not_false_eq_true,and_self])),(by first|exact hk_.1.2|(have hq_:=hk_.1;simp only [ne_eq] at hq_ ⊢;simp only [hq_,not_false_eq_true,and_self]))⟩));replace HO_518001:=zm0_ (zo2_ (ok':=fun k_ => some k_ ≠ (.slice Ao44 t507.length co44 : Value).ownBlock ∧ some k_ ≠ (.slice Ao34 t498.length co34 : Value).ownBlock ∧ some k_ ≠ (.slice Ao41 t503.length co41 : Value).ownBlock ∧ some k_ ≠ (.slice Ao79 t521.length co79 : Value).ownBlock ∧ some k_ ≠ (.slice Ao82 t525.length co82 : Value).ownBlock) (Kd.R_keptB (HO_518001.out) hkp (fun k_ hk_ hs_ => absurd hs_ ((by first|exact hk_.1|(have hq_:=hk_;simp only [ne_eq] at hq_ ⊢;simp only [hq_,not_false_eq_true,and_self]))))) (fun k_ hk_ => ⟨(by first|exact hk_.1.1|(have hq_:=hk_.1;simp only [ne_eq] at hq_ ⊢;simp only [hq_,not_false_eq_true,and_self])),(by first|exact hk_.1.2.1|(have hq_:=hk_.1;simp only [ne_eq] at hq_ ⊢;simp only [hq_,not_false_eq_true,and_self])),(by first|exact hk_.1.2.2.1|(have hq_:=hk_.1;simp only [ne_eq] at hq_ ⊢;simp only [hq_,not_false_eq_true,and_self])),(by first|exact hk_.1.2.2.2.1|(have hq_:=hk_.1;simp only [ne_eq] at hq_ ⊢;simp only [hq_,not_false_eq_true,and_self])),(by first|exact hk_.1.2.2.2.2|(have hq_:=hk_.1;simp only [ne_eq] at hq_ ⊢;simp only [hq_,not_false_eq_true,and_self]))⟩));replace BK484:=zm0_ (blk_kept (zb BK484) hkp (fun hs_ => (fun e_ => (Kd.R_ne HO_9.out BK484.out (by decide)) e_) hs_));replace BK501:=zm0_ (blk_kept (zb BK501) hkp (fun hs_ => (fun e_ => (Kd.R_ne HO_9.out BK501.out (by decide)) e_) hs_));replace BK506:=zm0_ (blk_kept (zb BK506) hkp (fun hs_ => (fun e_ => (Kd.R_ne HO_9.out BK506.out (by decide)) e_) hs_));replace BK517:=zm0_ (blk_kept (zb BK517) hkp (fun hs_ => (fun e_ => (Kd.R_ne HO_9.out BK517.out (by decide)) e_) hs_));replace HO_9:=zm0_ (Kd.R_reok rfl hy0 (fun k_ e_ => HO_9.out.1 k_ e_));replace HO523:=zm0_ (zo2_ (ok':=fun k_ => some k_ ≠ (.slice Ao44 t507.length co44 : Value).ownBlock ∧ some k_ ≠ (.slice Ao34 t498.length co34 : Value).ownBlock ∧ some k_ ≠ (.slice Ao41 t503.length co41 : Value).ownBlock ∧ some k_ ≠ (.slice Ao51 t514.length co51 : Value).ownBlock ∧ some k_ ≠ (.slice Ao82 t525.length co82 : Value).ownBlock) (Kd.R_keptB (HO523.out) hkp (fun k_ hk_ hs_ => absurd hs_ ((by first|exact hk_.1|(have hq_:=hk_;simp only [ne_eq] at hq_ ⊢;simp only [hq_,not_false_eq_true,and_self]))))) (fun k_ hk_ => ⟨(by first|exact hk_.1.1|(have hq_:=hk_.1;simp only [ne_eq] at hq_ ⊢;simp only [hq_,not_false_eq_true,and_self])),(by first|exact hk_.1.2.1|(have hq_:=hk_.1;simp only [ne_eq] at hq_ ⊢;simp only [hq_,not_false_eq_true,and_self])),(by first|exact hk_.1.2.2.1|(have hq_:=hk_.1;simp only [ne_eq] at hq_ ⊢;simp only [hq_,not_false_eq_true,and_self])),(by first|exact hk_.1.2.2.2.1|(have hq_:=hk_.1;simp only [ne_eq] at hq_ ⊢;simp only [hq_,not_false_eq_true,and_self])),(by first|exact hk_.1.2.2.2.2|(have hq_:=hk_.1;simp only [ne_eq] at hq_ ⊢;simp only [hq_,not_false_eq_true,and_self]))⟩));replace HO527:=zm0_ (zo2_ (ok':=fun k_ => some k_ ≠ (.slice Ao44 t507.length co44 : Value).ownBlock ∧ some k_ ≠ (.slice Ao34 t498.length co34 : Value).ownBlock ∧ some k_ ≠ (.slice Ao41 t503.length co41 : Value).ownBlock ∧ some k_ ≠ (.slice Ao51 t514.length co51 : Value).ownBlock ∧ some k_ ≠ (.slice Ao79 t521.length co79 : Value).ownBlock) (Kd.R_keptB (HO527.out) hkp (fun k_ hk_ hs_ => absurd hs_ ((by first|exact hk_.1|(have hq_:=hk_;simp only [ne_eq] at hq_ ⊢;simp only [hq_,not_false_eq_true,and_self]))))) (fun k_ hk_ => ⟨(by first|exact hk_.1.1|(have hq_:=hk_.1;simp only [ne_eq] at hq_ ⊢;simp only [hq_,not_false_eq_true,and_self])),(by first|exact hk_.1.2.1|(have hq_:=hk_.1;simp only [ne_eq] at hq_ ⊢;simp only [hq_,not_false_eq_true,and_self])),(by first|exact hk_.1.2.2.1|(have hq_:=hk_.1;simp only [ne_eq] at hq_ ⊢;simp only [hq_,not_false_eq_true,and_self])),(by first|exact hk_.1.2.2.2.1|(have hq_:=hk_.1;simp only [ne_eq] at hq_ ⊢;simp only [hq_,not_false_eq_true,and_self])),(by first|exact hk_.1.2.2.2.2|(have hq_:=hk_.1;simp only [ne_eq] at hq_ ⊢;simp only [hq_,not_false_eq_true,and_self]))⟩));replace HB:=zm0_ (hb);(try clear hb);(try clear hkp);(try clear hy0)))
        (try simp only [Act.put,lA_,lB_,lC_])
        go_cut [84] (fun v84 wc => ∃ (kq : Nat) (x84_75 : Bool),v84 = .bool x84_75 ∧ Aside0 (laws_FnExactPutFields.j1 kq l1 t494 t510 x84_75 a0_0 l0_1 t497 t498 t513 t514 = some r) ∧ Aside0 (kq ≤ kj19) ∧ Aside0 (Kd.R (Kd.int .u8) 5 wc w.heap.size (fun k_ => some k_ ≠ (v511 : Value).ownBlock) v495 t494) ∧ Aside0 (Kd.R (Kd.int .u8) 5 wc w.heap.size (fun k_ => some k_ ≠ (v495 : Value).ownBlock) v511 t510) ∧ Aside0 (Kd.R k36 36 wc w.heap.size (fun k_ => some k_ ≠ ((.slice Ao41 t503.length co41) : Value).ownBlock ∧ some k_ ≠ ((.slice Ao51 t514.length co51) : Value).ownBlock) (.slice Ao34 t498.length co34) t498) ∧ Aside0 (Kd.R k36 36 wc w.heap.size (fun k_ => some k_ ≠ ((.slice Ao34 t498.length co34) : Value).ownBlock ∧ some k_ ≠ ((.slice Ao51 t514.length co51) : Value).ownBlock) (.slice Ao41 t503.length co41) t530) ∧ Aside0 (Kd.R k36 36 wc w.heap.size (fun k_ => some k_ ≠ ((.slice Ao34 t498.length co34) : Value).ownBlock ∧ some k_ ≠ ((.slice Ao41 t503.length co41) : Value).ownBlock) (.slice Ao51 t514.length co51) t514) ∧ Aside0 (wc.heap[gb484]? = some (.cells #[.int .i64 a0_0,(.slice A0_1 l0_1.length c0_1)] 24 (0,0))) ∧ Aside0 (wc.heap[gb501]? = some (.cells #[.int .i64 t497,(.slice Ao34 t498.length co34)] 32 (0,0))) ∧ Aside0 (wc.heap[gb506]? = some (.cells #[.int .i64 t502,(.slice Ao41 t503.length co41)] 32 (0,0))) ∧ Aside0 (wc.heap[gb517]? = some (.cells #[.int .i64 t513,(.slice Ao51 t514.length co51)] 32 (0,0))) ∧ Aside0 (Below w.heap.size w wc))
        case first =>
         have H:=HC76.out
         clear HC76
         by_cases c90 : t531 < 0
         ·
          rw [if_pos c90] at H
          have c90b0 : decide (t531 < 0) = true:=decide_eq_true c90
          clear c90
          (first|rw [c90b0]|(simp only [i64_w,i32_w];rw [c90b0])|rw [c90b1]|skip)
          have H':=zm0_ H
          clear H
          go_wp2
          go_meet
          case rel => exact ⟨_,(true),zz,H',⟨by have:=HJ19.out;first|omega|exact Nat.le_refl _⟩,⟨zr HO_6⟩,⟨zr HO_10⟩,⟨by (with_reducible repeat (first|apply k1_|apply k2_|apply k3_));exact zo2_ HO_502001.out (fun _ hk => ⟨(by first|exact hk.2.1|(have hq_:=hk;simp only [ne_eq] at hq_ ⊢;simp only [hq_,not_false_eq_true,and_self])),(by first|exact hk.2.2.1|(have hq_:=hk;simp only [ne_eq] at hq_ ⊢;simp only [hq_,not_false_eq_true,and_self]))⟩)⟩,⟨by (with_reducible repeat (first|apply k1_|apply k2_|apply k3_));exact zo2_ HO_507001.out (fun _ hk => ⟨(by first|exact hk.2.1|(have hq_:=hk;simp only [ne_eq] at hq_ ⊢;simp only [hq_,not_false_eq_true,and_self])),(by first|exact hk.2.2.1|(have hq_:=hk;simp only [ne_eq] at hq_ ⊢;simp only [hq_,not_false_eq_true,and_self]))⟩)⟩,⟨by (with_reducible repeat (first|apply k1_|apply k2_|apply k3_));exact zo2_ HO_518001.out (fun _ hk => ⟨(by first|exact hk.2.1|(have hq_:=hk;simp only [ne_eq] at hq_ ⊢;simp only [hq_,not_false_eq_true,and_self])),(by first|exact hk.2.2.1|(have hq_:=hk;simp only [ne_eq] at hq_ ⊢;simp only [hq_,not_false_eq_true,and_self]))⟩)⟩,⟨zb BK484⟩,⟨zb BK501⟩,⟨zb BK506⟩,⟨zb BK517⟩,⟨zl4 HB GE484 GE501 GE506 GE517⟩⟩
         ·
          rw [if_neg c90] at H
          have c90b0 : decide (t531 < 0) = false:=decide_eq_false c90
          clear c90
          (first|rw [c90b0]|(simp only [i64_w,i32_w];rw [c90b0])|rw [c90b1]|skip)
          replace H:=zq1_ H
          obtain ⟨t533,A910,H⟩:=H
          replace H : (if t533 = true then ((laws_eqTable.f kj19 t513 t514 t497 t498).bind fun t534 => (laws_FnExactPutFields.j1 kj19 l1 t494 t510 (!t534) a0_0 l0_1 t497 t498 t513 t514)) else (laws_FnExactPutFields.j1 kj19 l1 t494 t510 true a0_0 l0_1 t497 t498 t513 t514)) = some r:=H
          have A91:=zm0_ A910
          clear A910
          by_cases c92 : t533 = true
          ·
           subst c92
           rw [if_pos rfl] at H
           replace H:=zq1_ H
           obtain ⟨t534,A930,H⟩:=H
           replace H : (laws_FnExactPutFields.j1 kj19 l1 t494 t510 (!t534) a0_0 l0_1 t497 t498 t513 t514) = some r:=H
           have A93:=zm0_ A930
           clear A930
           have H':=zm0_ H
           clear H
           obtain ⟨Ao94,co94,eo94⟩:=Kd.R_slice HO_10.out
           subst eo94
           obtain ⟨Ao95,co95,eo95⟩:=Kd.R_slice HO_6.out
           subst eo95
           go_wp2_with (first|(go_at_call 11;(with_reducible refine (laws_eqByteS.calls kj19 _ _ t510 _ _ t494 true _ ?side1 ?side2 ?side3 ?side4 A91.out).mono ?_);(case side1 => repeat (first|exact (Kd.R_reads' HO_10.out).2.2|(with_reducible refine Kd.C_alloc ?_ _)|(with_reducible refine Kd.C_drewN ?_ _)|(with_reducible refine Kd.C_drew ?_)));(case side2 => exact (Kd.R_reads' HO_10.out).2.1);(case side3 => repeat (first|exact (Kd.R_reads' HO_6.out).2.2|(with_reducible refine Kd.C_alloc ?_ _)|(with_reducible refine Kd.C_drewN ?_ _)|(with_reducible refine Kd.C_drew ?_)));(case side4 => exact (Kd.R_reads' HO_6.out).2.1);rintro e w' ⟨rfl,⟨nd,rfl⟩⟩;have hnb96:=NB517_484.out;have hnc96:=NB484_517.out;have hnb97:=NB517_501.out;have hnc97:=NB501_517.out;have hnb98:=NB517_506.out;have hnc98:=NB506_517.out;have hcz99_0 : w89.cell? ⟨gb517,0,none⟩ = some (.int .i64 t513):=(zm6_ BK517.out 0).trans rfl;have hcz99_1 : w89.cell? ⟨gb517,1,none⟩ = some (.slice Ao51 t514.length co51):=(zm6_ BK517.out 1).trans rfl;have hfz99_0:=zm7_ BK517.out 0;have hfz99_1:=zm7_ BK517.out 1;have hnb100:=NB501_484.out;have hnc100:=NB484_501.out;have hnb101:=NB501_506.out;have hnc101:=NB506_501.out;have hcz102_0 : w89.cell? ⟨gb501,0,none⟩ = some (.int .i64 t497):=(zm6_ BK501.out 0).trans rfl;have hcz102_1 : w89.cell? ⟨gb501,1,none⟩ = some (.slice Ao34 t498.length co34):=(zm6_ BK501.out 1).trans rfl;have hfz102_0:=zm7_ BK501.out 0;have hfz102_1:=zm7_ BK501.out 1)|(go_at_call 12;(with_reducible refine (laws_eqTable.calls kj19 t513 _ _ t514 t497 _ _ t498 t534 _ ?side1 ?side2 ?side3 ?side4 A93.out).mono ?_);(case side1 => repeat (first|exact (Kd.R_reads' HO_518001.out).2.2|(with_reducible refine Kd.C_alloc ?_ _)|(with_reducible refine Kd.C_drewN ?_ _)|(with_reducible refine Kd.C_drew ?_)));(case side2 => exact (Kd.R_reads' HO_518001.out).2.1);(case side3 => repeat (first|exact (Kd.R_reads' HO_502001.out).2.2|(with_reducible refine Kd.C_alloc ?_ _)|(with_reducible refine Kd.C_drewN ?_ _)|(with_reducible refine Kd.C_drew ?_)));(case side4 => exact (Kd.R_reads' HO_502001.out).2.1);rintro e w103 ⟨rfl,hb⟩;replace HO_6:=zm0_ (zm8_ (zr HO_6) hb);replace HO_9:=zm0_ (zm8_ (zr HO_9) hb);replace HO_10:=zm0_ (zm8_ (zr HO_10) hb);replace HO_502001:=zm0_ (zm8_ (zr HO_502001) hb);replace HO_507001:=zm0_ (zm8_ (zr HO_507001) hb);replace HO_518001:=zm0_ (zm8_ (zr HO_518001) hb);replace HO523:=zm0_ (zm8_ (zr HO523) hb);replace HO527:=zm0_ (zm8_ (zr HO527) hb);replace BK484:=zm0_ (zm5_ (zb BK484) hb);replace BK501:=zm0_ (zm5_ (zb BK501) hb);replace BK506:=zm0_ (zm5_ (zb BK506) hb);replace BK517:=zm0_ (zm5_ (zb BK517) hb);replace HB:=zm0_ (zn8_ (zl4 HB GE484 GE501 GE506 GE517) hb);(try clear hb);(try clear hb2);(try clear hk);(try clear hi)))
           go_meet
           case rel => exact ⟨_,(!t534),zz,H',⟨by have:=HJ19.out;first|omega|exact Nat.le_refl _⟩,⟨zr HO_6⟩,⟨zr HO_10⟩,⟨by (with_reducible repeat (first|apply k1_|apply k2_|apply k3_));exact zo2_ HO_502001.out (fun _ hk => ⟨(by first|exact hk.2.1|(have hq_:=hk;simp only [ne_eq] at hq_ ⊢;simp only [hq_,not_false_eq_true,and_self])),(by first|exact hk.2.2.1|(have hq_:=hk;simp only [ne_eq] at hq_ ⊢;simp only [hq_,not_false_eq_true,and_self]))⟩)⟩,⟨by (with_reducible repeat (first|apply k1_|apply k2_|apply k3_));exact zo2_ HO_507001.out (fun _ hk => ⟨(by first|exact hk.2.1|(have hq_:=hk;simp only [ne_eq] at hq_ ⊢;simp only [hq_,not_false_eq_true,and_self])),(by first|exact hk.2.2.1|(have hq_:=hk;simp only [ne_eq] at hq_ ⊢;simp only [hq_,not_false_eq_true,and_self]))⟩)⟩,⟨by (with_reducible repeat (first|apply k1_|apply k2_|apply k3_));exact zo2_ HO_518001.out (fun _ hk => ⟨(by first|exact hk.2.1|(have hq_:=hk;simp only [ne_eq] at hq_ ⊢;simp only [hq_,not_false_eq_true,and_self])),(by first|exact hk.2.2.1|(have hq_:=hk;simp only [ne_eq] at hq_ ⊢;simp only [hq_,not_false_eq_true,and_self]))⟩)⟩,⟨zb BK484⟩,⟨zb BK501⟩,⟨zb BK506⟩,⟨zb BK517⟩,⟨zl4 HB GE484 GE501 GE506 GE517⟩⟩
          ·
           replace c92:=Bool.eq_false_iff.mpr c92
           subst c92
           rw [if_neg (show ¬ (false = true) by decide)] at H
           have H':=zm0_ H
           clear H
           obtain ⟨Ao104,co104,eo104⟩:=Kd.R_slice HO_10.out
           subst eo104
           obtain ⟨Ao105,co105,eo105⟩:=Kd.R_slice HO_6.out
           subst eo105
           go_wp2_with (first|(go_at_call 11;(with_reducible refine (laws_eqByteS.calls kj19 _ _ t510 _ _ t494 false _ ?side1 ?side2 ?side3 ?side4 A91.out).mono ?_);(case side1 => repeat (first|exact (Kd.R_reads' HO_10.out).2.2|(with_reducible refine Kd.C_alloc ?_ _)|(with_reducible refine Kd.C_drewN ?_ _)|(with_reducible refine Kd.C_drew ?_)));(case side2 => exact (Kd.R_reads' HO_10.out).2.1);(case side3 => repeat (first|exact (Kd.R_reads' HO_6.out).2.2|(with_reducible refine Kd.C_alloc ?_ _)|(with_reducible refine Kd.C_drewN ?_ _)|(with_reducible refine Kd.C_drew ?_)));(case side4 => exact (Kd.R_reads' HO_6.out).2.1);rintro e w' ⟨rfl,⟨nd,rfl⟩⟩))
           go_meet
           case rel => exact ⟨_,(true),zz,H',⟨by have:=HJ19.out;first|omega|exact Nat.le_refl _⟩,⟨zr HO_6⟩,⟨zr HO_10⟩,⟨by (with_reducible repeat (first|apply k1_|apply k2_|apply k3_));exact zo2_ HO_502001.out (fun _ hk => ⟨(by first|exact hk.2.1|(have hq_:=hk;simp only [ne_eq] at hq_ ⊢;simp only [hq_,not_false_eq_true,and_self])),(by first|exact hk.2.2.1|(have hq_:=hk;simp only [ne_eq] at hq_ ⊢;simp only [hq_,not_false_eq_true,and_self]))⟩)⟩,⟨by (with_reducible repeat (first|apply k1_|apply k2_|apply k3_));exact zo2_ HO_507001.out (fun _ hk => ⟨(by first|exact hk.2.1|(have hq_:=hk;simp only [ne_eq] at hq_ ⊢;simp only [hq_,not_false_eq_true,and_self])),(by first|exact hk.2.2.1|(have hq_:=hk;simp only [ne_eq] at hq_ ⊢;simp only [hq_,not_false_eq_true,and_self]))⟩)⟩,⟨by (with_reducible repeat (first|apply k1_|apply k2_|apply k3_));exact zo2_ HO_518001.out (fun _ hk => ⟨(by first|exact hk.2.1|(have hq_:=hk;simp only [ne_eq] at hq_ ⊢;simp only [hq_,not_false_eq_true,and_self])),(by first|exact hk.2.2.1|(have hq_:=hk;simp only [ne_eq] at hq_ ⊢;simp only [hq_,not_false_eq_true,and_self]))⟩)⟩,⟨zb BK484⟩,⟨zb BK501⟩,⟨zb BK506⟩,⟨zb BK517⟩,⟨zl4 HB GE484 GE501 GE506 GE517⟩⟩
        case rest =>
         clear HC76
         try clear c1
         try clear c2
         try clear p2
         try clear c3
         try clear c4
         try clear c4b0
         try clear c5
         try clear c6
         try clear c7
         try clear c8
         try clear c9
         try clear c9b0
         try clear c10
         try clear c11
         try clear c12
         try clear c13
         try clear c17
         try clear c18
         try clear c19
         try clear c20
         try clear c21
         try clear c22
         try clear c32
         try clear c38
         try clear c39
         try clear c47
         try clear c48
         try clear c49
         try clear c53
         try clear c57
         try clear c58
         try clear c59
         try clear c61
         try clear c62
         try clear c67
         try clear c70
         try clear c73
         try clear c84
         try clear c85
         try clear c86
         try clear c90
         try clear c90b0
         try clear c90b1
         try clear c92
         try clear c96
         try clear c97
         try clear c98
         try clear c100
         try clear c101
         try clear hcz102_0
         try clear hcz102_1
         try clear hcz11_0
         try clear hcz11_1
         try clear hcz22_0
         try clear hcz22_1
         try clear hcz25_0
         try clear hcz25_1
         try clear hcz33_0
         try clear hcz33_1
         try clear hcz35_0
         try clear hcz35_1
         try clear hcz40_0
         try clear hcz40_1
         try clear hcz43_0
         try clear hcz43_1
         try clear hcz50_0
         try clear hcz50_1
         try clear hcz60_0
         try clear hcz60_1
         try clear hcz63_0
         try clear hcz63_1
         try clear hcz6_0
         try clear hcz6_1
         try clear hcz87_0
         try clear hcz87_1
         try clear hcz99_0
         try clear hcz99_1
         try clear hfz102_0
         try clear hfz102_1
         try clear hfz11_0
         try clear hfz11_1
         try clear hfz22_0
         try clear hfz22_1
         try clear hfz25_0
         try clear hfz25_1
         try clear hfz33_0
         try clear hfz33_1
         try clear hfz35_0
         try clear hfz35_1
         try clear hfz40_0
         try clear hfz40_1
         try clear hfz43_0
         try clear hfz43_1
         try clear hfz50_0
         try clear hfz50_1
         try clear hfz60_0
         try clear hfz60_1
         try clear hfz63_0
         try clear hfz63_1
         try clear hfz6_0
         try clear hfz6_1
         try clear hfz87_0
         try clear hfz87_1
         try clear hfz99_0
         try clear hfz99_1
         try clear p2
         obtain ⟨kq,x84_75,rfl,HA,HJ75,HO_6,HO_10,HO_502001,HO_507001,HO_518001,BK484,BK501,BK506,BK517,HB⟩:=hcut
         have hl507001_75:=(Kd.R_reads' HO_507001.out).1
         rw [hl507001_75] at HO_507001
         (try simp only [hl507001_75])
         (try simp only [hl507001_75] at BK484)
         (try simp only [hl507001_75] at BK501)
         (try simp only [hl507001_75] at BK506)
         (try simp only [hl507001_75] at BK517)
         (try simp only [hl507001_75] at HO_6)
         (try simp only [hl507001_75] at HO_10)
         (try simp only [hl507001_75] at HO_502001)
         (try simp only [hl507001_75] at HO_518001)
         cases kq with
         | zero => exact absurd HA.out (by simp [laws_FnExactPutFields.j1])
         | succ kj75 =>
          have H:=HA.out
          clear HA
          simp only [laws_FnExactPutFields.j1] at H
          by_cases c106 : x84_75 = true
          ·
           subst c106
           rw [if_pos rfl] at H
           exact absurd H (by simp)
          ·
           replace c106:=Bool.eq_false_iff.mpr c106
           subst c106
           rw [if_neg (show ¬ (false = true) by decide)] at H
           replace H:=zq1_ H
           obtain ⟨⟨t535,t536⟩,A1070,H⟩:=H
           replace H : ((laws_markTable.f kj75 t513 t514 t535).bind fun bt537 => ((laws_heldByteS.f kj75 t536 1).bind fun t539 => (if t539 < 0 then (none) else ((laws_heldTable.f kj75 t513 bt537.2 t539).bind fun t540 => (if t540 < 0 then (none) else (if t540 = bt537.1 then ((laws_toTable.f kj75 a0_0 l0_1).bind fun bt541 => ((laws_toFieldS.f kj75 l1).bind fun t545 => ((impl_PutFields.f kj75 bt541.1 bt541.2 t545).bind fun bt548 => ((laws_eqByteS.f kj75 bt548.1 t494).bind fun t556 => (if t556 = true then ((laws_eqTable.f kj75 bt548.2.1 bt548.2.2 t497 t498).bind fun t557 => (laws_FnExactPutFields.j2 kj75 t536 bt537.1 (!t557) t513 bt537.2)) else (laws_FnExactPutFields.j2 kj75 t536 bt537.1 true t513 bt537.2)))))) else (none))))))) = some r:=H
           have A107:=zm0_ A1070
           clear A1070
           replace H:=zq1_ H
           obtain ⟨⟨t537,t538⟩,A1080,H⟩:=H
           replace H : ((laws_heldByteS.f kj75 t536 1).bind fun t539 => (if t539 < 0 then (none) else ((laws_heldTable.f kj75 t513 t538 t539).bind fun t540 => (if t540 < 0 then (none) else (if t540 = t537 then ((laws_toTable.f kj75 a0_0 l0_1).bind fun bt541 => ((laws_toFieldS.f kj75 l1).bind fun t545 => ((impl_PutFields.f kj75 bt541.1 bt541.2 t545).bind fun bt548 => ((laws_eqByteS.f kj75 bt548.1 t494).bind fun t556 => (if t556 = true then ((laws_eqTable.f kj75 bt548.2.1 bt548.2.2 t497 t498).bind fun t557 => (laws_FnExactPutFields.j2 kj75 t536 t537 (!t557) t513 t538)) else (laws_FnExactPutFields.j2 kj75 t536 t537 true t513 t538)))))) else (none)))))) = some r:=H
           have A108:=zm0_ A1080
           clear A1080
           replace H:=zq1_ H
           obtain ⟨t539,A1090,H⟩:=H
           replace H : (if t539 < 0 then (none) else ((laws_heldTable.f kj75 t513 t538 t539).bind fun t540 => (if t540 < 0 then (none) else (if t540 = t537 then ((laws_toTable.f kj75 a0_0 l0_1).bind fun bt541 => ((laws_toFieldS.f kj75 l1).bind fun t545 => ((impl_PutFields.f kj75 bt541.1 bt541.2 t545).bind fun bt548 => ((laws_eqByteS.f kj75 bt548.1 t494).bind fun t556 => (if t556 = true then ((laws_eqTable.f kj75 bt548.2.1 bt548.2.2 t497 t498).bind fun t557 => (laws_FnExactPutFields.j2 kj75 t536 t537 (!t557) t513 t538)) else (laws_FnExactPutFields.j2 kj75 t536 t537 true t513 t538)))))) else (none))))) = some r:=H
           have A109:=zm0_ A1090
           clear A1090
           by_cases c110 : t539 < 0
           ·
            rw [if_pos c110] at H
            exact absurd H (by simp)
           ·
            rw [if_neg c110] at H
            have c110b0 : decide (t539 < 0) = false:=decide_eq_false c110
            clear c110
            replace H:=zq1_ H
            obtain ⟨t540,A1110,H⟩:=H
            replace H : (if t540 < 0 then (none) else (if t540 = t537 then ((laws_toTable.f kj75 a0_0 l0_1).bind fun bt541 => ((laws_toFieldS.f kj75 l1).bind fun t545 => ((impl_PutFields.f kj75 bt541.1 bt541.2 t545).bind fun bt548 => ((laws_eqByteS.f kj75 bt548.1 t494).bind fun t556 => (if t556 = true then ((laws_eqTable.f kj75 bt548.2.1 bt548.2.2 t497 t498).bind fun t557 => (laws_FnExactPutFields.j2 kj75 t536 t537 (!t557) t513 t538)) else (laws_FnExactPutFields.j2 kj75 t536 t537 true t513 t538)))))) else (none))) = some r:=H
            have A111:=zm0_ A1110
            clear A1110
            by_cases c112 : t540 < 0
            ·
             rw [if_pos c112] at H
             exact absurd H (by simp)
            ·
             rw [if_neg c112] at H
             have c112b0 : decide (t540 < 0) = false:=decide_eq_false c112
             clear c112
             by_cases c113 : t540 = t537
             ·
              rw [if_pos c113] at H
              have c113b0 : (t540 == t537) = true:=beq_iff_eq.mpr c113
              have c113b1 : (t540 != t537) = false:=bne_eq_false_iff_eq.mpr c113
              clear c113
              replace H:=zq1_ H
              obtain ⟨⟨t541,t542⟩,A1140,H⟩:=H
              replace H : ((laws_toFieldS.f kj75 l1).bind fun t545 => ((impl_PutFields.f kj75 t541 t542 t545).bind fun bt548 => ((laws_eqByteS.f kj75 bt548.1 t494).bind fun t556 => (if t556 = true then ((laws_eqTable.f kj75 bt548.2.1 bt548.2.2 t497 t498).bind fun t557 => (laws_FnExactPutFields.j2 kj75 t536 t537 (!t557) t513 t538)) else (laws_FnExactPutFields.j2 kj75 t536 t537 true t513 t538))))) = some r:=H
              have A114:=zm0_ A1140
              clear A1140
              replace H:=zq1_ H
              obtain ⟨t545,A1150,H⟩:=H
              replace H : ((impl_PutFields.f kj75 t541 t542 t545).bind fun bt548 => ((laws_eqByteS.f kj75 bt548.1 t494).bind fun t556 => (if t556 = true then ((laws_eqTable.f kj75 bt548.2.1 bt548.2.2 t497 t498).bind fun t557 => (laws_FnExactPutFields.j2 kj75 t536 t537 (!t557) t513 t538)) else (laws_FnExactPutFields.j2 kj75 t536 t537 true t513 t538)))) = some r:=H
              have A115:=zm0_ A1150
              clear A1150
              replace H:=zq1_ H
              obtain ⟨⟨t548,t551,t552⟩,A1160,H⟩:=H
              replace H : ((laws_eqByteS.f kj75 t548 t494).bind fun t556 => (if t556 = true then ((laws_eqTable.f kj75 t551 t552 t497 t498).bind fun t557 => (laws_FnExactPutFields.j2 kj75 t536 t537 (!t557) t513 t538)) else (laws_FnExactPutFields.j2 kj75 t536 t537 true t513 t538))) = some r:=H
              have A116:=zm0_ A1160
              clear A1160
              have HC117:=zm0_ H
              clear H
              obtain ⟨Ao118,co118,eo118⟩:=Kd.R_slice HO_10.out
              subst eo118
              go_upto_region 36 with (first|((with_reducible refine gate_callee (f:=14) rfl ?_);refine goesL_ (some 87) rfl rfl Tryz.func14 (by kernel_rfl) rfl #[.slice Ao118 t510.length co118,.int .i64 1] rfl zy ?_;(with_reducible refine (laws_markByteS.calls kj75 (fun k_ => some k_ = (.slice Ao118 t510.length co118 : Value).ownBlock) (.slice Ao118 t510.length co118) t510 1 t535 t536 w _ ?side1 ?side2 A107.out).mono ?_);(case side1 => repeat (first|(with_reducible first|exact HB.out|apply zm3_|apply zm2_|apply zm4_|refine zm1_ ?_ GE484.out|refine zm1_ ?_ GE501.out|refine zm1_ ?_ GE506.out|refine zm1_ ?_ GE517.out)|exact HB.out));(case side2 => exact Kd.R_tight rfl HO_10.out);rintro e w119 ⟨rfl,hy0,hb,hkp⟩;refine ⟨_,rfl,?_⟩;replace HO_6:=zm0_ (zo2_ (ok':=fun k_ => some k_ ≠ (.slice Ao118 t510.length co118 : Value).ownBlock) (Kd.R_keptB (HO_6.out) hkp (fun k_ hk_ hs_ => absurd hs_ (hk_))) (fun k_ hk_ => hk_.1));replace HO_502001:=zm0_ (zo2_ (ok':=fun k_ => some k_ ≠ (.slice Ao41 t530.length co41 : Value).ownBlock ∧ some k_ ≠ (.slice Ao51 t514.length co51 : Value).ownBlock) (Kd.R_keptB ((Kd.R_apart' HO_502001.out (Kd.R_typed HO_10.out) (by decide))) hkp (fun k_ hk_ hs_ => absurd hs_ ((by first|exact hk_.2|(have hq_:=hk_;simp only [ne_eq] at hq_ ⊢;simp only [hq_,not_false_eq_true,and_self]))))) (fun k_ hk_ => ⟨(by first|exact hk_.1.1.1|(have hq_:=hk_.1;simp only [ne_eq] at hq_ ⊢;simp only [hq_,not_false_eq_true,and_self])),(by first|exact hk_.1.1.2|(have hq_:=hk_.1;simp only [ne_eq] at hq_ ⊢;simp only [hq_,not_false_eq_true,and_self]))⟩));replace HO_507001:=zm0_ (zo2_ (ok':=fun k_ => some k_ ≠ (.slice Ao34 t498.length co34 : Value).ownBlock ∧ some k_ ≠ (.slice Ao51 t514.length co51 : Value).ownBlock) (Kd.R_keptB ((Kd.R_apart' HO_507001.out (Kd.R_typed HO_10.out) (by decide))) hkp (fun k_ hk_ hs_ => absurd hs_ ((by first|exact hk_.2|(have hq_:=hk_;simp only [ne_eq] at hq_ ⊢;simp only [hq_,not_false_eq_true,and_self]))))) (fun k_ hk_ => ⟨(by first|exact hk_.1.1.1|(have hq_:=hk_.1;simp only [ne_eq] at hq_ ⊢;simp only [hq_,not_false_eq_true,and_self])),(by first|exact hk_.1.1.2|(have hq_:=hk_.1;simp only [ne_eq] at hq_ ⊢;simp only [hq_,not_false_eq_true,and_self]))⟩));replace HO_518001:=zm0_ (zo2_ (ok':=fun k_ => some k_ ≠ (.slice Ao34 t498.length co34 : Value).ownBlock ∧ some k_ ≠ (.slice Ao41 t530.length co41 : Value).ownBlock) (Kd.R_keptB ((Kd.R_apart' HO_518001.out (Kd.R_typed HO_10.out) (by decide))) hkp (fun k_ hk_ hs_ => absurd hs_ ((by first|exact hk_.2|(have hq_:=hk_;simp only [ne_eq] at hq_ ⊢;simp only [hq_,not_false_eq_true,and_self]))))) (fun k_ hk_ => ⟨(by first|exact hk_.1.1.1|(have hq_:=hk_.1;simp only [ne_eq] at hq_ ⊢;simp only [hq_,not_false_eq_true,and_self])),(by first|exact hk_.1.1.2|(have hq_:=hk_.1;simp only [ne_eq] at hq_ ⊢;simp only [hq_,not_false_eq_true,and_self]))⟩));replace BK484:=zm0_ (blk_kept (zb BK484) hkp (fun hs_ => (fun e_ => (Kd.R_ne HO_10.out BK484.out (by decide)) e_) hs_));replace BK501:=zm0_ (blk_kept (zb BK501) hkp (fun hs_ => (fun e_ => (Kd.R_ne HO_10.out BK501.out (by decide)) e_) hs_));replace BK506:=zm0_ (blk_kept (zb BK506) hkp (fun hs_ => (fun e_ => (Kd.R_ne HO_10.out BK506.out (by decide)) e_) hs_));replace BK517:=zm0_ (blk_kept (zb BK517) hkp (fun hs_ => (fun e_ => (Kd.R_ne HO_10.out BK517.out (by decide)) e_) hs_));replace HO_10:=zm0_ (Kd.R_reok rfl hy0 (fun k_ e_ => HO_10.out.1 k_ e_));replace HB:=zm0_ (hb);(try clear hb);(try clear hkp);(try clear hy0);have hnb120:=NB517_484.out;have hnc120:=NB484_517.out;have hnb121:=NB517_501.out;have hnc121:=NB501_517.out;have hnb122:=NB517_506.out;have hnc122:=NB506_517.out;have hcz123_0 : w119.cell? ⟨gb517,0,none⟩ = some (.int .i64 t513):=(zm6_ BK517.out 0).trans rfl;have hcz123_1 : w119.cell? ⟨gb517,1,none⟩ = some (.slice Ao51 t514.length co51):=(zm6_ BK517.out 1).trans rfl;have hfz123_0:=zm7_ BK517.out 0;have hfz123_1:=zm7_ BK517.out 1)|((with_reducible refine gate_callee (f:=13) rfl ?_);refine goesL_ (some 90) rfl rfl Tryz.func13 (by kernel_rfl) rfl #[.agg #[.int .i64 t513,.slice Ao51 t514.length co51],.int .i64 t535] rfl zy ?_;(with_reducible refine (laws_markTable.calls kj75 t513 (fun k_ => some k_ = (.slice Ao51 t514.length co51 : Value).ownBlock) (.slice Ao51 t514.length co51) t514 t535 t537 t538 w _ ?side1 ?side2 A108.out).mono ?_);(case side1 => repeat (first|(with_reducible first|exact HB.out|apply zm3_|apply zm2_|apply zm4_|refine zm1_ ?_ GE484.out|refine zm1_ ?_ GE501.out|refine zm1_ ?_ GE506.out|refine zm1_ ?_ GE517.out)|exact HB.out));(case side2 => exact Kd.R_tight rfl HO_518001.out);rintro e w124 ⟨rfl,hy0,hb,hkp⟩;refine ⟨_,rfl,?_⟩;replace HO_6:=zm0_ (zo2_ (ok':=fun k_ => some k_ ≠ (.slice Ao118 t510.length co118 : Value).ownBlock) (Kd.R_keptB ((Kd.R_apart' HO_6.out (Kd.R_typed HO_518001.out) (by decide))) hkp (fun k_ hk_ hs_ => absurd hs_ ((by first|exact hk_.2|(have hq_:=hk_;simp only [ne_eq] at hq_ ⊢;simp only [hq_,not_false_eq_true,and_self]))))) (fun k_ hk_ => (by first|exact hk_.1.1|(have hq_:=hk_.1;simp only [ne_eq] at hq_ ⊢;simp only [hq_,not_false_eq_true,and_self]))));replace HO_10:=zm0_ (zo2_ (ok':=fun k_ => some k_ ≠ (v495 : Value).ownBlock) (Kd.R_keptB ((Kd.R_apart' HO_10.out (Kd.R_typed HO_518001.out) (by decide))) hkp (fun k_ hk_ hs_ => absurd hs_ ((by first|exact hk_.2|(have hq_:=hk_;simp only [ne_eq] at hq_ ⊢;simp only [hq_,not_false_eq_true,and_self]))))) (fun k_ hk_ => (by first|exact hk_.1.1|(have hq_:=hk_.1;simp only [ne_eq] at hq_ ⊢;simp only [hq_,not_false_eq_true,and_self]))));replace HO_502001:=zm0_ (zo2_ (ok':=fun k_ => some k_ ≠ (.slice Ao41 t530.length co41 : Value).ownBlock ∧ some k_ ≠ (.slice Ao51 t514.length co51 : Value).ownBlock) (Kd.R_keptB (HO_502001.out) hkp (fun k_ hk_ hs_ => absurd hs_ ((by first|exact hk_.2|(have hq_:=hk_;simp only [ne_eq] at hq_ ⊢;simp only [hq_,not_false_eq_true,and_self]))))) (fun k_ hk_ => ⟨(by first|exact hk_.1.1|(have hq_:=hk_.1;simp only [ne_eq] at hq_ ⊢;simp only [hq_,not_false_eq_true,and_self])),(by first|exact hk_.1.2|(have hq_:=hk_.1;simp only [ne_eq] at hq_ ⊢;simp only [hq_,not_false_eq_true,and_self]))⟩));replace HO_507001:=zm0_ (zo2_ (ok':=fun k_ => some k_ ≠ (.slice Ao34 t498.length co34 : Value).ownBlock ∧ some k_ ≠ (.slice Ao51 t514.length co51 : Value).ownBlock) (Kd.R_keptB (HO_507001.out) hkp (fun k_ hk_ hs_ => absurd hs_ ((by first|exact hk_.2|(have hq_:=hk_;simp only [ne_eq] at hq_ ⊢;simp only [hq_,not_false_eq_true,and_self]))))) (fun k_ hk_ => ⟨(by first|exact hk_.1.1|(have hq_:=hk_.1;simp only [ne_eq] at hq_ ⊢;simp only [hq_,not_false_eq_true,and_self])),(by first|exact hk_.1.2|(have hq_:=hk_.1;simp only [ne_eq] at hq_ ⊢;simp only [hq_,not_false_eq_true,and_self]))⟩));replace BK484:=zm0_ (blk_kept (zb BK484) hkp (fun hs_ => (fun e_ => (Kd.R_ne HO_518001.out BK484.out (by decide)) e_) hs_));replace BK501:=zm0_ (blk_kept (zb BK501) hkp (fun hs_ => (fun e_ => (Kd.R_ne HO_518001.out BK501.out (by decide)) e_) hs_));replace BK506:=zm0_ (blk_kept (zb BK506) hkp (fun hs_ => (fun e_ => (Kd.R_ne HO_518001.out BK506.out (by decide)) e_) hs_));replace BK517:=zm0_ (blk_kept (zb BK517) hkp (fun hs_ => (fun e_ => (Kd.R_ne HO_518001.out BK517.out (by decide)) e_) hs_));replace HO_518001:=zm0_ (Kd.R_reok rfl hy0 (fun k_ e_ => HO_518001.out.1 k_ e_));replace HB:=zm0_ (hb);(try clear hb);(try clear hkp);(try clear hy0))|((with_reducible refine gate_callee (f:=15) rfl ?_);refine goesL_ (some 93) rfl rfl Tryz.func15 (by kernel_rfl) rfl #[.slice Ao118 t536.length co118,.int .i64 1] rfl (by (try simp only [zp1_,zp2_,zp3_]);first|done|(rw [show t536.length = t510.length from (Kd.R_reads' HO_10.out).1.symm] <;> rfl)|rfl|(simp only [zp4_,zp5_];rfl)) ?_;(with_reducible refine (laws_heldByteS.calls kj75 _ _ t536 1 t539 _ ?side1 ?side2 A109.out).mono ?_);(case side1 => repeat (first|exact (Kd.R_reads' HO_10.out).2.2|(with_reducible refine Kd.C_alloc ?_ _)|(with_reducible refine Kd.C_drewN ?_ _)|(with_reducible refine Kd.C_drew ?_)));(case side2 => rw [show t536.length = t510.length from (Kd.R_reads' HO_10.out).1.symm];exact (Kd.R_reads' HO_10.out).2.1);rintro e w' ⟨rfl,⟨nd,rfl⟩⟩;refine ⟨_,rfl,?_⟩;(try (rw [drewN_self w124];generalize hq_ : World.drewN w124 _ = w124;have n0_ : Aside0 (Kd.R (Kd.int .u8) 5 w124 w.heap.size (fun k_ => some k_ ≠ (v495 : Value).ownBlock) (.slice Ao118 t510.length co118) t536):=⟨by rw [← hq_];exact (zr HO_10)⟩;have n1_ : Aside0 (Kd.R k36 36 w124 w.heap.size (fun k_ => some k_ ≠ (.slice Ao41 t530.length co41 : Value).ownBlock ∧ some k_ ≠ (.slice Ao51 t514.length co51 : Value).ownBlock) (.slice Ao34 t498.length co34) t498):=⟨by rw [← hq_];exact (zr HO_502001)⟩;have n2_ : Aside0 (Kd.R k36 36 w124 w.heap.size (fun k_ => some k_ ≠ (.slice Ao34 t498.length co34 : Value).ownBlock ∧ some k_ ≠ (.slice Ao51 t514.length co51 : Value).ownBlock) (.slice Ao41 t530.length co41) t530):=⟨by rw [← hq_];exact (zr HO_507001)⟩;have n3_ : Aside0 (Kd.R k36 36 w124 w.heap.size (fun k_ => some k_ ≠ (.slice Ao34 t498.length co34 : Value).ownBlock ∧ some k_ ≠ (.slice Ao41 t530.length co41 : Value).ownBlock) (.slice Ao51 t514.length co51) t538):=⟨by rw [← hq_];exact (zr HO_518001)⟩;have n4_ : Aside0 (Kd.R (Kd.int .u8) 5 w124 w.heap.size (fun k_ => some k_ ≠ (.slice Ao118 t510.length co118 : Value).ownBlock) v495 t494):=⟨by rw [← hq_];exact (zr HO_6)⟩;have n5_ : Aside0 (w124.heap[gb484]? = some (.cells #[.int .i64 a0_0,.slice A0_1 l0_1.length c0_1] 24 (0,0))):=⟨by rw [← hq_];exact (zb BK484)⟩;have n6_ : Aside0 (w124.heap[gb501]? = some (.cells #[.int .i64 t497,.slice Ao34 t498.length co34] 32 (0,0))):=⟨by rw [← hq_];exact (zb BK501)⟩;have n7_ : Aside0 (w124.heap[gb506]? = some (.cells #[.int .i64 t502,.slice Ao41 t530.length co41] 32 (0,0))):=⟨by rw [← hq_];exact (zb BK506)⟩;have n8_ : Aside0 (w124.heap[gb517]? = some (.cells #[.int .i64 t513,.slice Ao51 t514.length co51] 32 (0,0))):=⟨by rw [← hq_];exact (zb BK517)⟩;have n9_ : Aside0 (Below w.heap.size w w124):=⟨by rw [← hq_];exact (zl4 HB GE484 GE501 GE506 GE517)⟩;clear HO_10 HO_502001 HO_507001 HO_518001 HO_6 BK484 BK501 BK506 BK517 HB hq_;have HO_10:=n0_;have HO_502001:=n1_;have HO_507001:=n2_;have HO_518001:=n3_;have HO_6:=n4_;have BK484:=n5_;have BK501:=n6_;have BK506:=n7_;have BK517:=n8_;have HB:=n9_;clear n0_ n1_ n2_ n3_ n4_ n5_ n6_ n7_ n8_ n9_));have hcz125_0 : w124.cell? ⟨gb517,0,none⟩ = some (.int .i64 t513):=(zm6_ BK517.out 0).trans rfl;have hcz125_1 : w124.cell? ⟨gb517,1,none⟩ = some (.slice Ao51 t514.length co51):=(zm6_ BK517.out 1).trans rfl;have hfz125_0:=zm7_ BK517.out 0;have hfz125_1:=zm7_ BK517.out 1)|((with_reducible refine gate_callee (f:=16) rfl ?_);refine goesL_ (some 98) rfl rfl Tryz.func16 (by kernel_rfl) rfl #[.agg #[.int .i64 t513,.slice Ao51 t538.length co51],.int .i64 t539] rfl (by (try simp only [zp1_,zp2_,zp3_]);first|done|(rw [show t538.length = t514.length from (Kd.R_reads' HO_518001.out).1.symm] <;> rfl)|rfl|(simp only [zp4_,zp5_];rfl)) ?_;(with_reducible refine (laws_heldTable.calls kj75 t513 _ _ t538 t539 t540 _ ?side1 ?side2 A111.out).mono ?_);(case side1 => repeat (first|exact (Kd.R_reads' HO_518001.out).2.2|(with_reducible refine Kd.C_alloc ?_ _)|(with_reducible refine Kd.C_drewN ?_ _)|(with_reducible refine Kd.C_drew ?_)));(case side2 => rw [show t538.length = t514.length from (Kd.R_reads' HO_518001.out).1.symm];exact (Kd.R_reads' HO_518001.out).2.1);rintro e w126 ⟨rfl,hb⟩;refine ⟨_,rfl,?_⟩;replace HO_6:=zm0_ (zm8_ (zr HO_6) hb);replace HO_10:=zm0_ (zm8_ (zr HO_10) hb);replace HO_502001:=zm0_ (zm8_ (zr HO_502001) hb);replace HO_507001:=zm0_ (zm8_ (zr HO_507001) hb);replace HO_518001:=zm0_ (zm8_ (zr HO_518001) hb);replace BK484:=zm0_ (zm5_ (zb BK484) hb);replace BK501:=zm0_ (zm5_ (zb BK501) hb);replace BK506:=zm0_ (zm5_ (zb BK506) hb);replace BK517:=zm0_ (zm5_ (zb BK517) hb);replace HB:=zm0_ (zn8_ (zl4 HB GE484 GE501 GE506 GE517) hb);(try clear hb);(try clear hb2);(try clear hk);(try clear hi);have hnb127:=NB484_501.out;have hnc127:=NB501_484.out;have hnb128:=NB484_506.out;have hnc128:=NB506_484.out;have hcz129_0 : w126.cell? ⟨gb484,0,none⟩ = some (.int .i64 a0_0):=(zm6_ BK484.out 0).trans rfl;have hcz129_1 : w126.cell? ⟨gb484,1,none⟩ = some (.slice A0_1 l0_1.length c0_1):=(zm6_ BK484.out 1).trans rfl;have hfz129_0:=zm7_ BK484.out 0;have hfz129_1:=zm7_ BK484.out 1)|((with_reducible refine gate_callee (f:=8) rfl ?_);refine goesL_ (some 106) rfl rfl Tryz.func8 (by kernel_rfl) rfl #[.agg #[.int .i64 a0_0,.slice A0_1 l0_1.length c0_1]] rfl zy ?_;(with_reducible refine (laws_toTable.calls kj75 a0_0 _ _ l0_1 t541 t542 _ ?side1 ?side2 A114.out).mono ?_);(case side1 => repeat (first|exact (Kd.C_below HR0_1.out HB.out)|(with_reducible refine Kd.C_alloc ?_ _)|(with_reducible refine Kd.C_drewN ?_ _)|(with_reducible refine Kd.C_drew ?_)));(case side2 => exact HC0_1.out);rintro e w130 ⟨v543,rfl,ho0,hb⟩;refine ⟨_,rfl,?_⟩;replace HO_6:=zm0_ (zm8_ (zr HO_6) hb);replace HO_10:=zm0_ (zm8_ (zr HO_10) hb);have HO544:=zm0_ (zo1_ (Kd.R_new' (Kd.R_new' (Kd.R_new' ho0 (Kd.R_lt (zr HO_502001))) (Kd.R_lt (zr HO_507001))) (Kd.R_lt (zr HO_518001))) (zn9_ (zl4 HB GE484 GE501 GE506 GE517)));replace HO_502001:=zm0_ (Kd.R_elder' (zr HO_502001) (Kd.R_base ho0) hb);replace HO_507001:=zm0_ (Kd.R_elder' (zr HO_507001) (Kd.R_base ho0) hb);replace HO_518001:=zm0_ (Kd.R_elder' (zr HO_518001) (Kd.R_base ho0) hb);replace BK484:=zm0_ (zm5_ (zb BK484) hb);replace BK501:=zm0_ (zm5_ (zb BK501) hb);replace BK506:=zm0_ (zm5_ (zb BK506) hb);replace BK517:=zm0_ (zm5_ (zb BK517) hb);replace HB:=zm0_ (zn8_ (zl4 HB GE484 GE501 GE506 GE517) hb);(try clear hb);(try clear hb2);(try clear hk);(try clear hi);(try clear ho0))|((with_reducible refine gate_callee (f:=19) rfl ?_);refine goesL_ (some 108) rfl rfl Tryz.func19 (by kernel_rfl) rfl #[.slice A1 l1.length c1] rfl zy ?_;(with_reducible refine (laws_toFieldS.calls kj75 _ _ l1 t545 _ ?side1 ?side2 A115.out).mono ?_);(case side1 => repeat (first|exact (Kd.C_below HR1.out HB.out)|(with_reducible refine Kd.C_alloc ?_ _)|(with_reducible refine Kd.C_drewN ?_ _)|(with_reducible refine Kd.C_drew ?_)));(case side2 => exact HC1.out);rintro e w131 ⟨v546,rfl,ho0,hb⟩;refine ⟨_,rfl,?_⟩;replace HO_6:=zm0_ (zm8_ (zr HO_6) hb);replace HO_10:=zm0_ (zm8_ (zr HO_10) hb);have HO547:=zm0_ (zo1_ (Kd.R_new' (Kd.R_new' (Kd.R_new' (Kd.R_new' ho0 (Kd.R_lt (zr HO_502001))) (Kd.R_lt (zr HO_507001))) (Kd.R_lt (zr HO_518001))) (Kd.R_lt (zr HO544))) (zn9_ (zl4 HB GE484 GE501 GE506 GE517)));replace HO_502001:=zm0_ (Kd.R_elder' (zr HO_502001) (Kd.R_base ho0) hb);replace HO_507001:=zm0_ (Kd.R_elder' (zr HO_507001) (Kd.R_base ho0) hb);replace HO_518001:=zm0_ (Kd.R_elder' (zr HO_518001) (Kd.R_base ho0) hb);replace HO544:=zm0_ (Kd.R_elder' (zr HO544) (Kd.R_base ho0) hb);replace BK484:=zm0_ (zm5_ (zb BK484) hb);replace BK501:=zm0_ (zm5_ (zb BK501) hb);replace BK506:=zm0_ (zm5_ (zb BK506) hb);replace BK517:=zm0_ (zm5_ (zb BK517) hb);replace HB:=zm0_ (zn8_ (zl4 HB GE484 GE501 GE506 GE517) hb);(try clear hb);(try clear hb2);(try clear hk);(try clear hi);(try clear ho0);obtain ⟨Ao132,co132,eo132⟩:=Kd.R_slice HO544.out;subst eo132;obtain ⟨Ao133,co133,eo133⟩:=Kd.R_slice HO547.out;subst eo133)|((with_reducible refine gate_callee (f:=20) rfl ?_);refine goesL_ (some 109) rfl rfl Tryz.func20 (by kernel_rfl) rfl #[.agg #[.int .i64 t541,.slice Ao132 t542.length co132],.slice Ao133 t545.length co133] rfl zy ?_;(with_reducible refine (impl_PutFields.calls kj75 t541 _ _ t542 _ _ t545 t548 t551 t552 _ ?side1 ?side2 ?side3 ?side4 ?side5 A116.out).mono ?_);(case side1 => repeat (first|exact (Kd.R_reads' HO544.out).2.2|(with_reducible refine Kd.C_alloc ?_ _)|(with_reducible refine Kd.C_drewN ?_ _)|(with_reducible refine Kd.C_drew ?_)));(case side2 => exact (Kd.R_reads' HO544.out).2.1);(case side3 => repeat (first|exact (Kd.R_reads' HO547.out).2.2|(with_reducible refine Kd.C_alloc ?_ _)|(with_reducible refine Kd.C_drewN ?_ _)|(with_reducible refine Kd.C_drew ?_)));(case side4 => exact (Kd.R_reads' HO547.out).2.1);(case side5 => first|exact ht|(refine tb_below ht ?_;repeat (first|(with_reducible first|exact HB.out|apply zm3_|apply zm2_|apply zm4_|refine zm1_ ?_ GE484.out|refine zm1_ ?_ GE501.out|refine zm1_ ?_ GE506.out|refine zm1_ ?_ GE517.out)|exact HB.out)));rintro e w134 ⟨v549,v553,rfl,ho0,ho1,hb⟩;refine ⟨_,rfl,?_⟩;have HO550:=zm0_ (zo1_ (Kd.R_new' (Kd.R_new' ho0 (Kd.R_lt (zr HO_6))) (Kd.R_lt (zr HO_10))) (zn9_ (zl4 HB GE484 GE501 GE506 GE517)));replace HO_6:=zm0_ (Kd.R_elder' (zr HO_6) (Kd.R_base ho0) hb);replace HO_10:=zm0_ (Kd.R_elder' (zr HO_10) (Kd.R_base ho0) hb);have HO554:=zm0_ (zo1_ (Kd.R_new' (Kd.R_new' (Kd.R_new' (Kd.R_new' (Kd.R_new' ho1 (Kd.R_lt (zr HO_502001))) (Kd.R_lt (zr HO_507001))) (Kd.R_lt (zr HO_518001))) (Kd.R_lt (zr HO544))) (Kd.R_lt (zr HO547))) (zn9_ (zl4 HB GE484 GE501 GE506 GE517)));replace HO_502001:=zm0_ (Kd.R_elder' (zr HO_502001) (Kd.R_base ho1) hb);replace HO_507001:=zm0_ (Kd.R_elder' (zr HO_507001) (Kd.R_base ho1) hb);replace HO_518001:=zm0_ (Kd.R_elder' (zr HO_518001) (Kd.R_base ho1) hb);replace HO544:=zm0_ (Kd.R_elder' (zr HO544) (Kd.R_base ho1) hb);replace HO547:=zm0_ (Kd.R_elder' (zr HO547) (Kd.R_base ho1) hb);replace BK484:=zm0_ (zm5_ (zb BK484) hb);replace BK501:=zm0_ (zm5_ (zb BK501) hb);replace BK506:=zm0_ (zm5_ (zb BK506) hb);replace BK517:=zm0_ (zm5_ (zb BK517) hb);replace HB:=zm0_ (zn8_ (zl4 HB GE484 GE501 GE506 GE517) hb);(try clear hb);(try clear hb2);(try clear hk);(try clear hi);(try clear ho0);(try clear ho1))|((with_reducible refine gate_dst (N:=16) rfl ?_);refine box_event ?hg (N:=16) ?hd (cs:=#[.int .i64 0,.slice none 0 0]) (t:=32) ?hr ?_;(case hd => rfl);(case hg => rfl);(case hr => first|(go_simp;done)|(go_simp;rfl));intro gb555 hg w135 hbox hb;replace HO_6:=zm0_ (zm8_ (zr HO_6) hb);replace HO_10:=zm0_ (zm8_ (zr HO_10) hb);replace HO_502001:=zm0_ (zm8_ (zr HO_502001) hb);replace HO_507001:=zm0_ (zm8_ (zr HO_507001) hb);replace HO_518001:=zm0_ (zm8_ (zr HO_518001) hb);replace HO544:=zm0_ (zm8_ (zr HO544) hb);replace HO547:=zm0_ (zm8_ (zr HO547) hb);replace HO550:=zm0_ (zm8_ (zr HO550) hb);replace HO554:=zm0_ (zm8_ (zr HO554) hb);have BK555:=zm0_ (hbox);have GW555:=zm0_ ((by rw [hg];exact (zn9_ (zl4 HB GE484 GE501 GE506 GE517)) : w.heap.size ≤ gb555));have GE555:=zm0_ ((by rw [hg];exact (zn9_ (zl4 HB GE484 GE501 GE506 GE517)) : w.heap.size ≤ gb555));replace HB:=zm0_ (zn8_ (zl4 HB GE484 GE501 GE506 GE517) hb);have NB484_555:=zm0_ ((by rw [hg];exact Nat.ne_of_lt (zo3_ (g:=gb484) (o:=.cells #[.int .i64 a0_0,.slice A0_1 l0_1.length c0_1] 24 (0,0)) (zb BK484)) : gb484 ≠ gb555));have NB555_484:=zm0_ ((by rw [hg];exact Nat.ne_of_gt (zo3_ (g:=gb484) (o:=.cells #[.int .i64 a0_0,.slice A0_1 l0_1.length c0_1] 24 (0,0)) (zb BK484)) : gb555 ≠ gb484));replace BK484:=zm0_ (zm5_ (zb BK484) hb);have NB501_555:=zm0_ ((by rw [hg];exact Nat.ne_of_lt (zo3_ (g:=gb501) (o:=.cells #[.int .i64 t497,.slice Ao34 t498.length co34] 32 (0,0)) (zb BK501)) : gb501 ≠ gb555));have NB555_501:=zm0_ ((by rw [hg];exact Nat.ne_of_gt (zo3_ (g:=gb501) (o:=.cells #[.int .i64 t497,.slice Ao34 t498.length co34] 32 (0,0)) (zb BK501)) : gb555 ≠ gb501));replace BK501:=zm0_ (zm5_ (zb BK501) hb);have NB506_555:=zm0_ ((by rw [hg];exact Nat.ne_of_lt (zo3_ (g:=gb506) (o:=.cells #[.int .i64 t502,.slice Ao41 t530.length co41] 32 (0,0)) (zb BK506)) : gb506 ≠ gb555));have NB555_506:=zm0_ ((by rw [hg];exact Nat.ne_of_gt (zo3_ (g:=gb506) (o:=.cells #[.int .i64 t502,.slice Ao41 t530.length co41] 32 (0,0)) (zb BK506)) : gb555 ≠ gb506));replace BK506:=zm0_ (zm5_ (zb BK506) hb);have NB517_555:=zm0_ ((by rw [hg];exact Nat.ne_of_lt (zo3_ (g:=gb517) (o:=.cells #[.int .i64 t513,.slice Ao51 t514.length co51] 32 (0,0)) (zb BK517)) : gb517 ≠ gb555));have NB555_517:=zm0_ ((by rw [hg];exact Nat.ne_of_gt (zo3_ (g:=gb517) (o:=.cells #[.int .i64 t513,.slice Ao51 t514.length co51] 32 (0,0)) (zb BK517)) : gb555 ≠ gb517));replace BK517:=zm0_ (zm5_ (zb BK517) hb);clear hb hbox hg;have hnb136:=NB555_484.out;have hnc136:=NB484_555.out;have hnb137:=NB555_501.out;have hnc137:=NB501_555.out;have hnb138:=NB555_506.out;have hnc138:=NB506_555.out;have hnb139:=NB555_517.out;have hnc139:=NB517_555.out;have hcz140_0 : w135.cell? ⟨gb555,0,none⟩ = some (.int .i64 0):=(zm6_ BK555.out 0).trans rfl;have hcz140_1 : w135.cell? ⟨gb555,1,none⟩ = some (.slice none 0 0):=(zm6_ BK555.out 1).trans rfl;have hfz140_0:=zm7_ BK555.out 0;have hfz140_1:=zm7_ BK555.out 1;obtain ⟨Ao141,co141,eo141⟩:=Kd.R_slice HO554.out;subst eo141))
              (try simp only [Act.put,lA_,lB_,lC_])
              go_cut [121] (fun v121 wc => ∃ (kq : Nat) (x121_116 : Bool),v121 = .bool x121_116 ∧ Aside0 (laws_FnExactPutFields.j2 kq t536 t537 x121_116 t513 t538 = some r) ∧ Aside0 (kq ≤ kj75) ∧ Aside0 (Kd.R (Kd.int .u8) 5 wc w.heap.size (fun _ => True) (.slice Ao118 t510.length co118) t536) ∧ Aside0 (Kd.R k36 36 wc w.heap.size (fun k_ => some k_ ≠ ((.slice Ao41 t530.length co41) : Value).ownBlock ∧ some k_ ≠ ((.slice Ao51 t514.length co51) : Value).ownBlock ∧ some k_ ≠ ((.slice Ao141 t552.length co141) : Value).ownBlock) (.slice Ao34 t498.length co34) t498) ∧ Aside0 (Kd.R k36 36 wc w.heap.size (fun k_ => some k_ ≠ ((.slice Ao34 t498.length co34) : Value).ownBlock ∧ some k_ ≠ ((.slice Ao51 t514.length co51) : Value).ownBlock ∧ some k_ ≠ ((.slice Ao141 t552.length co141) : Value).ownBlock) (.slice Ao41 t530.length co41) t530) ∧ Aside0 (Kd.R k36 36 wc w.heap.size (fun k_ => some k_ ≠ ((.slice Ao34 t498.length co34) : Value).ownBlock ∧ some k_ ≠ ((.slice Ao41 t530.length co41) : Value).ownBlock ∧ some k_ ≠ ((.slice Ao141 t552.length co141) : Value).ownBlock) (.slice Ao51 t514.length co51) t538) ∧ Aside0 (Kd.R k36 36 wc w.heap.size (fun k_ => some k_ ≠ ((.slice Ao34 t498.length co34) : Value).ownBlock ∧ some k_ ≠ ((.slice Ao41 t530.length co41) : Value).ownBlock ∧ some k_ ≠ ((.slice Ao51 t514.length co51) : Value).ownBlock) (.slice Ao141 t552.length co141) t552) ∧ Aside0 (wc.heap[gb484]? = some (.cells #[.int .i64 a0_0,(.slice A0_1 l0_1.length c0_1)] 24 (0,0))) ∧ Aside0 (wc.heap[gb501]? = some (.cells #[.int .i64 t497,(.slice Ao34 t498.length co34)] 32 (0,0))) ∧ Aside0 (wc.heap[gb506]? = some (.cells #[.int .i64 t502,(.slice Ao41 t530.length co41)] 32 (0,0))) ∧ Aside0 (wc.heap[gb517]? = some (.cells #[.int .i64 t513,(.slice Ao51 t514.length co51)] 32 (0,0))) ∧ Aside0 (wc.heap[gb555]? = some (.cells #[.int .i64 t551,(.slice Ao141 t552.length co141)] 32 (0,0))) ∧ Aside0 (Below w.heap.size w wc))
              case first =>
               have H:=HC117.out
               clear HC117
               replace H:=zq1_ H
               obtain ⟨t556,A1420,H⟩:=H
               replace H : (if t556 = true then ((laws_eqTable.f kj75 t551 t552 t497 t498).bind fun t557 => (laws_FnExactPutFields.j2 kj75 t536 t537 (!t557) t513 t538)) else (laws_FnExactPutFields.j2 kj75 t536 t537 true t513 t538)) = some r:=H
               have A142:=zm0_ A1420
               clear A1420
               by_cases c143 : t556 = true
               ·
                subst c143
                rw [if_pos rfl] at H
                replace H:=zq1_ H
                obtain ⟨t557,A1440,H⟩:=H
                replace H : (laws_FnExactPutFields.j2 kj75 t536 t537 (!t557) t513 t538) = some r:=H
                have A144:=zm0_ A1440
                clear A1440
                have H':=zm0_ H
                clear H
                obtain ⟨Ao145,co145,eo145⟩:=Kd.R_slice HO550.out
                subst eo145
                obtain ⟨Ao146,co146,eo146⟩:=Kd.R_slice HO_6.out
                subst eo146
                go_wp2_with (first|((with_reducible refine gate_callee (f:=11) rfl ?_);refine goesL_ (some 114) rfl rfl Tryz.func11 (by kernel_rfl) rfl #[.slice Ao145 t548.length co145,.slice Ao146 t494.length co146] rfl zy ?_;(with_reducible refine (laws_eqByteS.calls kj75 _ _ t548 _ _ t494 true _ ?side1 ?side2 ?side3 ?side4 A142.out).mono ?_);(case side1 => refine (Kd.R_reads' (e:=5) (base:=w.heap.size) (ok:=fun k_ => ((True ∧ some k_ ≠ (.slice Ao146 t494.length co146 : Value).ownBlock) ∧ some k_ ≠ (.slice Ao118 t510.length co118 : Value).ownBlock)) (n:=t548.length) (c:=co145) ?_).2.2;exact (zs (zo2_ (k4_ (p:=⟨gb555,1,none⟩) (k4_ (p:=⟨gb555,0,none⟩) (Kd.R_types HO550.out BK555.out (by decide)) (fun _ hk => hk.2) (.int .i64 t551)) (fun _ hk => hk.2) (.slice Ao141 t552.length co141)) (fun _ h_ => h_.1))));(case side2 => exact (Kd.R_reads' HO550.out).2.1);(case side3 => refine (Kd.R_reads' (e:=5) (base:=w.heap.size) (ok:=fun k_ => (some k_ ≠ (.slice Ao118 t510.length co118 : Value).ownBlock ∧ some k_ ≠ (.slice Ao145 t548.length co145 : Value).ownBlock)) (n:=t494.length) (c:=co146) ?_).2.2;exact (zs (zo2_ (k4_ (p:=⟨gb555,1,none⟩) (k4_ (p:=⟨gb555,0,none⟩) (Kd.R_types HO_6.out BK555.out (by decide)) (fun _ hk => hk.2) (.int .i64 t551)) (fun _ hk => hk.2) (.slice Ao141 t552.length co141)) (fun _ h_ => h_.1))));(case side4 => exact (Kd.R_reads' HO_6.out).2.1);rintro e w' ⟨rfl,⟨nd,rfl⟩⟩;refine ⟨_,rfl,?_⟩;have hnb147:=NB555_484.out;have hnc147:=NB484_555.out;have hnb148:=NB555_501.out;have hnc148:=NB501_555.out;have hnb149:=NB555_506.out;have hnc149:=NB506_555.out;have hnb150:=NB555_517.out;have hnc150:=NB517_555.out;have hcz151_0 : w135.cell? ⟨gb555,0,none⟩ = some (.int .i64 0):=(zm6_ BK555.out 0).trans rfl;have hcz151_1 : w135.cell? ⟨gb555,1,none⟩ = some (.slice none 0 0):=(zm6_ BK555.out 1).trans rfl;have hfz151_0:=zm7_ BK555.out 0;have hfz151_1:=zm7_ BK555.out 1;have hnb152:=NB501_484.out;have hnc152:=NB484_501.out;have hnb153:=NB501_506.out;have hnc153:=NB506_501.out;have hnb154:=NB501_517.out;have hnc154:=NB517_501.out;have hcz155_0 : w135.cell? ⟨gb501,0,none⟩ = some (.int .i64 t497):=(zm6_ BK501.out 0).trans rfl;have hcz155_1 : w135.cell? ⟨gb501,1,none⟩ = some (.slice Ao34 t498.length co34):=(zm6_ BK501.out 1).trans rfl;have hfz155_0:=zm7_ BK501.out 0;have hfz155_1:=zm7_ BK501.out 1)|(go_at_call 12;(with_reducible refine (laws_eqTable.calls kj75 t551 _ _ t552 t497 _ _ t498 t557 _ ?side1 ?side2 ?side3 ?side4 A144.out).mono ?_);(case side1 => refine (Kd.R_reads' (e:=36) (base:=w.heap.size) (ok:=fun k_ => (((((True ∧ some k_ ≠ (.slice Ao34 t498.length co34 : Value).ownBlock) ∧ some k_ ≠ (.slice Ao41 t530.length co41 : Value).ownBlock) ∧ some k_ ≠ (.slice Ao51 t514.length co51 : Value).ownBlock) ∧ some k_ ≠ (.slice Ao132 t542.length co132 : Value).ownBlock) ∧ some k_ ≠ (.slice Ao133 t545.length co133 : Value).ownBlock)) (n:=t552.length) (c:=co141) ?_).2.2;exact (zs (zo2_ (k4_ (p:=⟨gb555,1,none⟩) (k4_ (p:=⟨gb555,0,none⟩) (Kd.R_types HO554.out BK555.out (by decide)) (fun _ hk => hk.2) (.int .i64 t551)) (fun _ hk => hk.2) (.slice Ao141 t552.length co141)) (fun _ h_ => h_.1))));(case side2 => exact (Kd.R_reads' HO554.out).2.1);(case side3 => refine (Kd.R_reads' (e:=36) (base:=w.heap.size) (ok:=fun k_ => ((((some k_ ≠ (.slice Ao41 t530.length co41 : Value).ownBlock ∧ some k_ ≠ (.slice Ao51 t514.length co51 : Value).ownBlock) ∧ some k_ ≠ (.slice Ao132 t542.length co132 : Value).ownBlock) ∧ some k_ ≠ (.slice Ao133 t545.length co133 : Value).ownBlock) ∧ some k_ ≠ (.slice Ao141 t552.length co141 : Value).ownBlock)) (n:=t498.length) (c:=co34) ?_).2.2;exact (zs (zo2_ (k4_ (p:=⟨gb555,1,none⟩) (k4_ (p:=⟨gb555,0,none⟩) (Kd.R_types HO_502001.out BK555.out (by decide)) (fun _ hk => hk.2) (.int .i64 t551)) (fun _ hk => hk.2) (.slice Ao141 t552.length co141)) (fun _ h_ => h_.1))));(case side4 => exact (Kd.R_reads' HO_502001.out).2.1);rintro e w156 ⟨rfl,hb⟩;replace HO_6:=zm0_ (zm8_ (zs (zo2_ (k4_ (p:=⟨gb555,1,none⟩) (k4_ (p:=⟨gb555,0,none⟩) (Kd.R_types HO_6.out BK555.out (by decide)) (fun _ hk => hk.2) (.int .i64 t551)) (fun _ hk => hk.2) (.slice Ao141 t552.length co141)) (fun _ h_ => h_.1))) hb);replace HO_10:=zm0_ (zm8_ (zs (zo2_ (k4_ (p:=⟨gb555,1,none⟩) (k4_ (p:=⟨gb555,0,none⟩) (Kd.R_types HO_10.out BK555.out (by decide)) (fun _ hk => hk.2) (.int .i64 t551)) (fun _ hk => hk.2) (.slice Ao141 t552.length co141)) (fun _ h_ => h_.1))) hb);replace HO_502001:=zm0_ (zm8_ (zs (zo2_ (k4_ (p:=⟨gb555,1,none⟩) (k4_ (p:=⟨gb555,0,none⟩) (Kd.R_types HO_502001.out BK555.out (by decide)) (fun _ hk => hk.2) (.int .i64 t551)) (fun _ hk => hk.2) (.slice Ao141 t552.length co141)) (fun _ h_ => h_.1))) hb);replace HO_507001:=zm0_ (zm8_ (zs (zo2_ (k4_ (p:=⟨gb555,1,none⟩) (k4_ (p:=⟨gb555,0,none⟩) (Kd.R_types HO_507001.out BK555.out (by decide)) (fun _ hk => hk.2) (.int .i64 t551)) (fun _ hk => hk.2) (.slice Ao141 t552.length co141)) (fun _ h_ => h_.1))) hb);replace HO_518001:=zm0_ (zm8_ (zs (zo2_ (k4_ (p:=⟨gb555,1,none⟩) (k4_ (p:=⟨gb555,0,none⟩) (Kd.R_types HO_518001.out BK555.out (by decide)) (fun _ hk => hk.2) (.int .i64 t551)) (fun _ hk => hk.2) (.slice Ao141 t552.length co141)) (fun _ h_ => h_.1))) hb);replace HO544:=zm0_ (zm8_ (zs (zo2_ (k4_ (p:=⟨gb555,1,none⟩) (k4_ (p:=⟨gb555,0,none⟩) (Kd.R_types HO544.out BK555.out (by decide)) (fun _ hk => hk.2) (.int .i64 t551)) (fun _ hk => hk.2) (.slice Ao141 t552.length co141)) (fun _ h_ => h_.1))) hb);replace HO547:=zm0_ (zm8_ (zs (zo2_ (k4_ (p:=⟨gb555,1,none⟩) (k4_ (p:=⟨gb555,0,none⟩) (Kd.R_types HO547.out BK555.out (by decide)) (fun _ hk => hk.2) (.int .i64 t551)) (fun _ hk => hk.2) (.slice Ao141 t552.length co141)) (fun _ h_ => h_.1))) hb);replace HO550:=zm0_ (zm8_ (zs (zo2_ (k4_ (p:=⟨gb555,1,none⟩) (k4_ (p:=⟨gb555,0,none⟩) (Kd.R_types HO550.out BK555.out (by decide)) (fun _ hk => hk.2) (.int .i64 t551)) (fun _ hk => hk.2) (.slice Ao141 t552.length co141)) (fun _ h_ => h_.1))) hb);replace HO554:=zm0_ (zm8_ (zs (zo2_ (k4_ (p:=⟨gb555,1,none⟩) (k4_ (p:=⟨gb555,0,none⟩) (Kd.R_types HO554.out BK555.out (by decide)) (fun _ hk => hk.2) (.int .i64 t551)) (fun _ hk => hk.2) (.slice Ao141 t552.length co141)) (fun _ h_ => h_.1))) hb);replace BK484:=zm0_ (zm5_ (g:=gb484) (o:=.cells #[.int .i64 a0_0,.slice A0_1 l0_1.length c0_1] 24 (0,0)) (by (with_reducible repeat (first|refine k6_ ?_ _|refine k7_ ?_|refine k5_ ?_ _));refine blk_far ?_ NB484_555.out _;(with_reducible repeat (first|refine k6_ ?_ _|refine k7_ ?_|refine k5_ ?_ _));refine blk_far ?_ NB484_555.out _;(with_reducible repeat (first|refine k6_ ?_ _|refine k7_ ?_|refine k5_ ?_ _));exact BK484.out) hb);replace BK501:=zm0_ (zm5_ (g:=gb501) (o:=.cells #[.int .i64 t497,.slice Ao34 t498.length co34] 32 (0,0)) (by (with_reducible repeat (first|refine k6_ ?_ _|refine k7_ ?_|refine k5_ ?_ _));refine blk_far ?_ NB501_555.out _;(with_reducible repeat (first|refine k6_ ?_ _|refine k7_ ?_|refine k5_ ?_ _));refine blk_far ?_ NB501_555.out _;(with_reducible repeat (first|refine k6_ ?_ _|refine k7_ ?_|refine k5_ ?_ _));exact BK501.out) hb);replace BK506:=zm0_ (zm5_ (g:=gb506) (o:=.cells #[.int .i64 t502,.slice Ao41 t530.length co41] 32 (0,0)) (by (with_reducible repeat (first|refine k6_ ?_ _|refine k7_ ?_|refine k5_ ?_ _));refine blk_far ?_ NB506_555.out _;(with_reducible repeat (first|refine k6_ ?_ _|refine k7_ ?_|refine k5_ ?_ _));refine blk_far ?_ NB506_555.out _;(with_reducible repeat (first|refine k6_ ?_ _|refine k7_ ?_|refine k5_ ?_ _));exact BK506.out) hb);replace BK517:=zm0_ (zm5_ (g:=gb517) (o:=.cells #[.int .i64 t513,.slice Ao51 t514.length co51] 32 (0,0)) (by (with_reducible repeat (first|refine k6_ ?_ _|refine k7_ ?_|refine k5_ ?_ _));refine blk_far ?_ NB517_555.out _;(with_reducible repeat (first|refine k6_ ?_ _|refine k7_ ?_|refine k5_ ?_ _));refine blk_far ?_ NB517_555.out _;(with_reducible repeat (first|refine k6_ ?_ _|refine k7_ ?_|refine k5_ ?_ _));exact BK517.out) hb);replace BK555:=zm0_ (zm5_ (g:=gb555) (o:=.cells #[.int .i64 t551,.slice Ao141 t552.length co141] 32 (0,0)) (by (with_reducible repeat (first|refine k6_ ?_ _|refine k7_ ?_|refine k5_ ?_ _));refine blk_put (cs:=#[.int .i64 t551,.slice none 0 0]) ?_ 1 _ rfl;(with_reducible repeat (first|refine k6_ ?_ _|refine k7_ ?_|refine k5_ ?_ _));refine blk_put (cs:=#[.int .i64 0,.slice none 0 0]) ?_ 0 _ rfl;(with_reducible repeat (first|refine k6_ ?_ _|refine k7_ ?_|refine k5_ ?_ _));exact BK555.out) hb);replace HB:=zm0_ (zn8_ (zl5 HB GE484 GE501 GE506 GE517 GE555) hb);(try clear hb);(try clear hb2);(try clear hk);(try clear hi)))
                go_meet
                case rel => exact ⟨_,(!t557),zz,H',⟨by have:=HJ19.out;have:=HJ75.out;first|omega|exact Nat.le_refl _⟩,⟨by (try simp only [hl507001_75]);(with_reducible repeat (first|apply k1_|apply k2_|apply k3_));exact zo2_ HO_10.out (fun _ hk => trivial)⟩,⟨by (try simp only [hl507001_75]);(with_reducible repeat (first|apply k1_|apply k2_|apply k3_));exact zo2_ HO_502001.out (fun _ hk => ⟨(by first|exact hk.1.1.1.1|(have hq_:=hk;simp only [ne_eq] at hq_ ⊢;simp only [hq_,not_false_eq_true,and_self])),⟨(by first|exact hk.1.1.1.2|(have hq_:=hk;simp only [ne_eq] at hq_ ⊢;simp only [hq_,not_false_eq_true,and_self])),(by first|exact hk.2|(have hq_:=hk;simp only [ne_eq] at hq_ ⊢;simp only [hq_,not_false_eq_true,and_self]))⟩⟩)⟩,⟨by (try simp only [hl507001_75]);(with_reducible repeat (first|apply k1_|apply k2_|apply k3_));exact zo2_ HO_507001.out (fun _ hk => ⟨(by first|exact hk.1.1.1.1|(have hq_:=hk;simp only [ne_eq] at hq_ ⊢;simp only [hq_,not_false_eq_true,and_self])),⟨(by first|exact hk.1.1.1.2|(have hq_:=hk;simp only [ne_eq] at hq_ ⊢;simp only [hq_,not_false_eq_true,and_self])),(by first|exact hk.2|(have hq_:=hk;simp only [ne_eq] at hq_ ⊢;simp only [hq_,not_false_eq_true,and_self]))⟩⟩)⟩,⟨by (try simp only [hl507001_75]);(with_reducible repeat (first|apply k1_|apply k2_|apply k3_));exact zo2_ HO_518001.out (fun _ hk => ⟨(by first|exact hk.1.1.1.1|(have hq_:=hk;simp only [ne_eq] at hq_ ⊢;simp only [hq_,not_false_eq_true,and_self])),⟨(by first|exact hk.1.1.1.2|(have hq_:=hk;simp only [ne_eq] at hq_ ⊢;simp only [hq_,not_false_eq_true,and_self])),(by first|exact hk.2|(have hq_:=hk;simp only [ne_eq] at hq_ ⊢;simp only [hq_,not_false_eq_true,and_self]))⟩⟩)⟩,⟨by (try simp only [hl507001_75]);(with_reducible repeat (first|apply k1_|apply k2_|apply k3_));exact zo2_ HO554.out (fun _ hk => ⟨(by first|exact hk.1.1.1.1.2|(have hq_:=hk;simp only [ne_eq] at hq_ ⊢;simp only [hq_,not_false_eq_true,and_self])),⟨(by first|exact hk.1.1.1.2|(have hq_:=hk;simp only [ne_eq] at hq_ ⊢;simp only [hq_,not_false_eq_true,and_self])),(by first|exact hk.1.1.2|(have hq_:=hk;simp only [ne_eq] at hq_ ⊢;simp only [hq_,not_false_eq_true,and_self]))⟩⟩)⟩,⟨by (try simp only [hl507001_75]);(with_reducible repeat (first|refine k6_ ?_ _|refine k7_ ?_|refine k5_ ?_ _));exact BK484.out⟩,⟨by (try simp only [hl507001_75]);(with_reducible repeat (first|refine k6_ ?_ _|refine k7_ ?_|refine k5_ ?_ _));exact BK501.out⟩,⟨by (try simp only [hl507001_75]);(with_reducible repeat (first|refine k6_ ?_ _|refine k7_ ?_|refine k5_ ?_ _));exact BK506.out⟩,⟨by (try simp only [hl507001_75]);(with_reducible repeat (first|refine k6_ ?_ _|refine k7_ ?_|refine k5_ ?_ _));exact BK517.out⟩,⟨by (try simp only [hl507001_75]);(with_reducible repeat (first|refine k6_ ?_ _|refine k7_ ?_|refine k5_ ?_ _));exact BK555.out⟩,⟨zl5 HB GE484 GE501 GE506 GE517 GE555⟩⟩
               ·
                replace c143:=Bool.eq_false_iff.mpr c143
                subst c143
                rw [if_neg (show ¬ (false = true) by decide)] at H
                have H':=zm0_ H
                clear H
                obtain ⟨Ao157,co157,eo157⟩:=Kd.R_slice HO550.out
                subst eo157
                obtain ⟨Ao158,co158,eo158⟩:=Kd.R_slice HO_6.out
                subst eo158
                go_wp2_with (first|((with_reducible refine gate_callee (f:=11) rfl ?_);refine goesL_ (some 114) rfl rfl Tryz.func11 (by kernel_rfl) rfl #[.slice Ao157 t548.length co157,.slice Ao158 t494.length co158] rfl zy ?_;(with_reducible refine (laws_eqByteS.calls kj75 _ _ t548 _ _ t494 false _ ?side1 ?side2 ?side3 ?side4 A142.out).mono ?_);(case side1 => refine (Kd.R_reads' (e:=5) (base:=w.heap.size) (ok:=fun k_ => ((True ∧ some k_ ≠ (.slice Ao158 t494.length co158 : Value).ownBlock) ∧ some k_ ≠ (.slice Ao118 t510.length co118 : Value).ownBlock)) (n:=t548.length) (c:=co157) ?_).2.2;exact (zs (zo2_ (k4_ (p:=⟨gb555,1,none⟩) (k4_ (p:=⟨gb555,0,none⟩) (Kd.R_types HO550.out BK555.out (by decide)) (fun _ hk => hk.2) (.int .i64 t551)) (fun _ hk => hk.2) (.slice Ao141 t552.length co141)) (fun _ h_ => h_.1))));(case side2 => exact (Kd.R_reads' HO550.out).2.1);(case side3 => refine (Kd.R_reads' (e:=5) (base:=w.heap.size) (ok:=fun k_ => (some k_ ≠ (.slice Ao118 t510.length co118 : Value).ownBlock ∧ some k_ ≠ (.slice Ao157 t548.length co157 : Value).ownBlock)) (n:=t494.length) (c:=co158) ?_).2.2;exact (zs (zo2_ (k4_ (p:=⟨gb555,1,none⟩) (k4_ (p:=⟨gb555,0,none⟩) (Kd.R_types HO_6.out BK555.out (by decide)) (fun _ hk => hk.2) (.int .i64 t551)) (fun _ hk => hk.2) (.slice Ao141 t552.length co141)) (fun _ h_ => h_.1))));(case side4 => exact (Kd.R_reads' HO_6.out).2.1);rintro e w' ⟨rfl,⟨nd,rfl⟩⟩;refine ⟨_,rfl,?_⟩))
                go_meet
                case rel => exact ⟨_,(true),zz,H',⟨by have:=HJ19.out;have:=HJ75.out;first|omega|exact Nat.le_refl _⟩,⟨by (try simp only [hl507001_75]);(with_reducible repeat (first|apply k1_|apply k2_|apply k3_));exact zo2_ (k4_ (p:=⟨gb555,1,none⟩) (k4_ (p:=⟨gb555,0,none⟩) (Kd.R_types HO_10.out BK555.out (by decide)) (fun _ hk => hk.2) (.int .i64 t551)) (fun _ hk => hk.2) (.slice Ao141 t552.length co141)) (fun _ hk => trivial)⟩,⟨by (try simp only [hl507001_75]);(with_reducible repeat (first|apply k1_|apply k2_|apply k3_));exact zo2_ (k4_ (p:=⟨gb555,1,none⟩) (k4_ (p:=⟨gb555,0,none⟩) (Kd.R_types HO_502001.out BK555.out (by decide)) (fun _ hk => hk.2) (.int .i64 t551)) (fun _ hk => hk.2) (.slice Ao141 t552.length co141)) (fun _ hk => ⟨(by first|exact hk.1.1.1.1.1|(have hq_:=hk;simp only [ne_eq] at hq_ ⊢;simp only [hq_,not_false_eq_true,and_self])),⟨(by first|exact hk.1.1.1.1.2|(have hq_:=hk;simp only [ne_eq] at hq_ ⊢;simp only [hq_,not_false_eq_true,and_self])),(by first|exact hk.1.2|(have hq_:=hk;simp only [ne_eq] at hq_ ⊢;simp only [hq_,not_false_eq_true,and_self]))⟩⟩)⟩,⟨by (try simp only [hl507001_75]);(with_reducible repeat (first|apply k1_|apply k2_|apply k3_));exact zo2_ (k4_ (p:=⟨gb555,1,none⟩) (k4_ (p:=⟨gb555,0,none⟩) (Kd.R_types HO_507001.out BK555.out (by decide)) (fun _ hk => hk.2) (.int .i64 t551)) (fun _ hk => hk.2) (.slice Ao141 t552.length co141)) (fun _ hk => ⟨(by first|exact hk.1.1.1.1.1|(have hq_:=hk;simp only [ne_eq] at hq_ ⊢;simp only [hq_,not_false_eq_true,and_self])),⟨(by first|exact hk.1.1.1.1.2|(have hq_:=hk;simp only [ne_eq] at hq_ ⊢;simp only [hq_,not_false_eq_true,and_self])),(by first|exact hk.1.2|(have hq_:=hk;simp only [ne_eq] at hq_ ⊢;simp only [hq_,not_false_eq_true,and_self]))⟩⟩)⟩,⟨by (try simp only [hl507001_75]);(with_reducible repeat (first|apply k1_|apply k2_|apply k3_));exact zo2_ (k4_ (p:=⟨gb555,1,none⟩) (k4_ (p:=⟨gb555,0,none⟩) (Kd.R_types HO_518001.out BK555.out (by decide)) (fun _ hk => hk.2) (.int .i64 t551)) (fun _ hk => hk.2) (.slice Ao141 t552.length co141)) (fun _ hk => ⟨(by first|exact hk.1.1.1.1.1|(have hq_:=hk;simp only [ne_eq] at hq_ ⊢;simp only [hq_,not_false_eq_true,and_self])),⟨(by first|exact hk.1.1.1.1.2|(have hq_:=hk;simp only [ne_eq] at hq_ ⊢;simp only [hq_,not_false_eq_true,and_self])),(by first|exact hk.1.2|(have hq_:=hk;simp only [ne_eq] at hq_ ⊢;simp only [hq_,not_false_eq_true,and_self]))⟩⟩)⟩,⟨by (try simp only [hl507001_75]);(with_reducible repeat (first|apply k1_|apply k2_|apply k3_));exact zo2_ (k4_ (p:=⟨gb555,1,none⟩) (k4_ (p:=⟨gb555,0,none⟩) (Kd.R_types HO554.out BK555.out (by decide)) (fun _ hk => hk.2) (.int .i64 t551)) (fun _ hk => hk.2) (.slice Ao141 t552.length co141)) (fun _ hk => ⟨(by first|exact hk.1.1.1.1.1.2|(have hq_:=hk;simp only [ne_eq] at hq_ ⊢;simp only [hq_,not_false_eq_true,and_self])),⟨(by first|exact hk.1.1.1.1.2|(have hq_:=hk;simp only [ne_eq] at hq_ ⊢;simp only [hq_,not_false_eq_true,and_self])),(by first|exact hk.1.1.1.2|(have hq_:=hk;simp only [ne_eq] at hq_ ⊢;simp only [hq_,not_false_eq_true,and_self]))⟩⟩)⟩,⟨by (try simp only [hl507001_75]);(with_reducible repeat (first|refine k6_ ?_ _|refine k7_ ?_|refine k5_ ?_ _));refine blk_far ?_ NB484_555.out _;(with_reducible repeat (first|refine k6_ ?_ _|refine k7_ ?_|refine k5_ ?_ _));refine blk_far ?_ NB484_555.out _;(with_reducible repeat (first|refine k6_ ?_ _|refine k7_ ?_|refine k5_ ?_ _));exact BK484.out⟩,⟨by (try simp only [hl507001_75]);(with_reducible repeat (first|refine k6_ ?_ _|refine k7_ ?_|refine k5_ ?_ _));refine blk_far ?_ NB501_555.out _;(with_reducible repeat (first|refine k6_ ?_ _|refine k7_ ?_|refine k5_ ?_ _));refine blk_far ?_ NB501_555.out _;(with_reducible repeat (first|refine k6_ ?_ _|refine k7_ ?_|refine k5_ ?_ _));exact BK501.out⟩,⟨by (try simp only [hl507001_75]);(with_reducible repeat (first|refine k6_ ?_ _|refine k7_ ?_|refine k5_ ?_ _));refine blk_far ?_ NB506_555.out _;(with_reducible repeat (first|refine k6_ ?_ _|refine k7_ ?_|refine k5_ ?_ _));refine blk_far ?_ NB506_555.out _;(with_reducible repeat (first|refine k6_ ?_ _|refine k7_ ?_|refine k5_ ?_ _));exact BK506.out⟩,⟨by (try simp only [hl507001_75]);(with_reducible repeat (first|refine k6_ ?_ _|refine k7_ ?_|refine k5_ ?_ _));refine blk_far ?_ NB517_555.out _;(with_reducible repeat (first|refine k6_ ?_ _|refine k7_ ?_|refine k5_ ?_ _));refine blk_far ?_ NB517_555.out _;(with_reducible repeat (first|refine k6_ ?_ _|refine k7_ ?_|refine k5_ ?_ _));exact BK517.out⟩,⟨by (try simp only [hl507001_75]);(with_reducible repeat (first|refine k6_ ?_ _|refine k7_ ?_|refine k5_ ?_ _));refine blk_put (cs:=#[.int .i64 t551,.slice none 0 0]) ?_ 1 _ rfl;(with_reducible repeat (first|refine k6_ ?_ _|refine k7_ ?_|refine k5_ ?_ _));refine blk_put (cs:=#[.int .i64 0,.slice none 0 0]) ?_ 0 _ rfl;(with_reducible repeat (first|refine k6_ ?_ _|refine k7_ ?_|refine k5_ ?_ _));exact BK555.out⟩,⟨zl5 HB GE484 GE501 GE506 GE517 GE555⟩⟩
              case rest =>
               clear HC117
               try clear c1
               try clear c2
               try clear p2
               try clear c3
               try clear c4
               try clear c4b0
               try clear c5
               try clear c6
               try clear c7
               try clear c8
               try clear c9
               try clear c9b0
               try clear c10
               try clear c11
               try clear c12
               try clear c13
               try clear c14
               try clear c15
               try clear c16
               try clear c17
               try clear c18
               try clear c19
               try clear c20
               try clear c21
               try clear c22
               try clear c32
               try clear c38
               try clear c39
               try clear c47
               try clear c48
               try clear c49
               try clear c53
               try clear c57
               try clear c58
               try clear c59
               try clear c61
               try clear c62
               try clear c67
               try clear c70
               try clear c73
               try clear c84
               try clear c85
               try clear c86
               try clear c90
               try clear c90b0
               try clear c90b1
               try clear c92
               try clear c96
               try clear c97
               try clear c98
               try clear c100
               try clear c101
               try clear c106
               try clear c110
               try clear c110b0
               try clear c112
               try clear c112b0
               try clear c113
               try clear c113b0
               try clear c113b1
               try clear c120
               try clear c121
               try clear c122
               try clear c127
               try clear c128
               try clear c136
               try clear c137
               try clear c138
               try clear c139
               try clear c143
               try clear c147
               try clear c148
               try clear c149
               try clear c150
               try clear c152
               try clear c153
               try clear c154
               try clear hcz102_0
               try clear hcz102_1
               try clear hcz11_0
               try clear hcz11_1
               try clear hcz123_0
               try clear hcz123_1
               try clear hcz125_0
               try clear hcz125_1
               try clear hcz129_0
               try clear hcz129_1
               try clear hcz140_0
               try clear hcz140_1
               try clear hcz151_0
               try clear hcz151_1
               try clear hcz155_0
               try clear hcz155_1
               try clear hcz22_0
               try clear hcz22_1
               try clear hcz25_0
               try clear hcz25_1
               try clear hcz33_0
               try clear hcz33_1
               try clear hcz35_0
               try clear hcz35_1
               try clear hcz40_0
               try clear hcz40_1
               try clear hcz43_0
               try clear hcz43_1
               try clear hcz50_0
               try clear hcz50_1
               try clear hcz60_0
               try clear hcz60_1
               try clear hcz63_0
               try clear hcz63_1
               try clear hcz6_0
               try clear hcz6_1
               try clear hcz87_0
               try clear hcz87_1
               try clear hcz99_0
               try clear hcz99_1
               try clear hfz102_0
               try clear hfz102_1
               try clear hfz11_0
               try clear hfz11_1
               try clear hfz123_0
               try clear hfz123_1
               try clear hfz125_0
               try clear hfz125_1
               try clear hfz129_0
               try clear hfz129_1
               try clear hfz140_0
               try clear hfz140_1
               try clear hfz151_0
               try clear hfz151_1
               try clear hfz155_0
               try clear hfz155_1
               try clear hfz22_0
               try clear hfz22_1
               try clear hfz25_0
               try clear hfz25_1
               try clear hfz33_0
               try clear hfz33_1
               try clear hfz35_0
               try clear hfz35_1
               try clear hfz40_0
               try clear hfz40_1
               try clear hfz43_0
               try clear hfz43_1
               try clear hfz50_0
               try clear hfz50_1
               try clear hfz60_0
               try clear hfz60_1
               try clear hfz63_0
               try clear hfz63_1
               try clear hfz6_0
               try clear hfz6_1
               try clear hfz87_0
               try clear hfz87_1
               try clear hfz99_0
               try clear hfz99_1
               try clear p2
               obtain ⟨kq,x121_116,rfl,HA,HJ116,HO_10,HO_502001,HO_507001,HO_518001,HO_556001,BK484,BK501,BK506,BK517,BK555,HB⟩:=hcut
               have hl10_116:=(Kd.R_reads' HO_10.out).1
               rw [hl10_116] at HO_10
               (try simp only [hl10_116])
               (try simp only [hl10_116] at BK484)
               (try simp only [hl10_116] at BK501)
               (try simp only [hl10_116] at BK506)
               (try simp only [hl10_116] at BK517)
               (try simp only [hl10_116] at BK555)
               (try simp only [hl10_116] at HO_502001)
               (try simp only [hl10_116] at HO_507001)
               (try simp only [hl10_116] at HO_518001)
               (try simp only [hl10_116] at HO_556001)
               have hl518001_116:=(Kd.R_reads' HO_518001.out).1
               rw [hl518001_116] at HO_518001
               (try simp only [hl518001_116])
               (try simp only [hl518001_116] at BK484)
               (try simp only [hl518001_116] at BK501)
               (try simp only [hl518001_116] at BK506)
               (try simp only [hl518001_116] at BK517)
               (try simp only [hl518001_116] at BK555)
               (try simp only [hl518001_116] at HO_10)
               (try simp only [hl518001_116] at HO_502001)
               (try simp only [hl518001_116] at HO_507001)
               (try simp only [hl518001_116] at HO_556001)
               cases kq with
               | zero => exact absurd HA.out (by simp [laws_FnExactPutFields.j2])
               | succ kj116 =>
                have H:=HA.out
                clear HA
                simp only [laws_FnExactPutFields.j2] at H
                by_cases c159 : x121_116 = true
                ·
                 subst c159
                 rw [if_pos rfl] at H
                 exact absurd H (by simp)
                ·
                 replace c159:=Bool.eq_false_iff.mpr c159
                 subst c159
                 rw [if_neg (show ¬ (false = true) by decide)] at H
                 replace H:=zq1_ H
                 obtain ⟨t558,A1600,H⟩:=H
                 replace H : (if t558 < 0 then (none) else ((laws_heldTable.f kj116 t513 t538 t558).bind fun t559 => (if t559 < 0 then (none) else (if t559 = t537 then (some true) else (none))))) = some r:=H
                 have A160:=zm0_ A1600
                 clear A1600
                 by_cases c161 : t558 < 0
                 ·
                  rw [if_pos c161] at H
                  exact absurd H (by simp)
                 ·
                  rw [if_neg c161] at H
                  have c161b0 : decide (t558 < 0) = false:=decide_eq_false c161
                  clear c161
                  replace H:=zq1_ H
                  obtain ⟨t559,A1620,H⟩:=H
                  replace H : (if t559 < 0 then (none) else (if t559 = t537 then (some true) else (none))) = some r:=H
                  have A162:=zm0_ A1620
                  clear A1620
                  by_cases c163 : t559 < 0
                  ·
                   rw [if_pos c163] at H
                   exact absurd H (by simp)
                  ·
                   rw [if_neg c163] at H
                   have c163b0 : decide (t559 < 0) = false:=decide_eq_false c163
                   clear c163
                   by_cases c164 : t559 = t537
                   ·
                    rw [if_pos c164] at H
                    have c164b0 : (t559 == t537) = true:=beq_iff_eq.mpr c164
                    have c164b1 : (t559 != t537) = false:=bne_eq_false_iff_eq.mpr c164
                    clear c164
                    obtain rfl:=Option.some.inj H
                    go_wp2_with (first|((with_reducible refine gate_callee (f:=15) rfl ?_);refine goesL_ (some 124) rfl rfl Tryz.func15 (by kernel_rfl) rfl #[.slice Ao118 t536.length co118,.int .i64 1] rfl zy ?_;(with_reducible refine (laws_heldByteS.calls kj116 _ _ t536 1 t558 _ ?side1 ?side2 A160.out).mono ?_);(case side1 => repeat (first|exact (Kd.R_reads' HO_10.out).2.2|(with_reducible refine Kd.C_alloc ?_ _)|(with_reducible refine Kd.C_drewN ?_ _)|(with_reducible refine Kd.C_drew ?_)));(case side2 => exact (Kd.R_reads' HO_10.out).2.1);rintro e w' ⟨rfl,⟨nd,rfl⟩⟩;refine ⟨_,rfl,?_⟩;have hnb165:=NB517_484.out;have hnc165:=NB484_517.out;have hnb166:=NB517_501.out;have hnc166:=NB501_517.out;have hnb167:=NB517_506.out;have hnc167:=NB506_517.out;have hnb168:=NB517_555.out;have hnc168:=NB555_517.out;have hcz169_0 : wc.cell? ⟨gb517,0,none⟩ = some (.int .i64 t513):=(zm6_ BK517.out 0).trans rfl;have hcz169_1 : wc.cell? ⟨gb517,1,none⟩ = some (.slice Ao51 t538.length co51):=(zm6_ BK517.out 1).trans rfl;have hfz169_0:=zm7_ BK517.out 0;have hfz169_1:=zm7_ BK517.out 1)|((with_reducible refine gate_callee (f:=16) rfl ?_);refine goesL_ (some 129) rfl rfl Tryz.func16 (by kernel_rfl) rfl #[.agg #[.int .i64 t513,.slice Ao51 t538.length co51],.int .i64 t558] rfl zy ?_;(with_reducible refine (laws_heldTable.calls kj116 t513 _ _ t538 t558 t559 _ ?side1 ?side2 A162.out).mono ?_);(case side1 => repeat (first|exact (Kd.R_reads' HO_518001.out).2.2|(with_reducible refine Kd.C_alloc ?_ _)|(with_reducible refine Kd.C_drewN ?_ _)|(with_reducible refine Kd.C_drew ?_)));(case side2 => exact (Kd.R_reads' HO_518001.out).2.1);rintro e w170 ⟨rfl,hb⟩;refine ⟨_,rfl,?_⟩;replace HO_10:=zm0_ (zm8_ (zr HO_10) hb);replace HO_502001:=zm0_ (zm8_ (zr HO_502001) hb);replace HO_507001:=zm0_ (zm8_ (zr HO_507001) hb);replace HO_518001:=zm0_ (zm8_ (zr HO_518001) hb);replace HO_556001:=zm0_ (zm8_ (zr HO_556001) hb);replace BK484:=zm0_ (zm5_ (zb BK484) hb);replace BK501:=zm0_ (zm5_ (zb BK501) hb);replace BK506:=zm0_ (zm5_ (zb BK506) hb);replace BK517:=zm0_ (zm5_ (zb BK517) hb);replace BK555:=zm0_ (zm5_ (zb BK555) hb);replace HB:=zm0_ (zn8_ (zl5 HB GE484 GE501 GE506 GE517 GE555) hb);(try clear hb);(try clear hb2);(try clear hk);(try clear hi)))
                    go_ret
                    exact ⟨ze,by repeat (first|(with_reducible first|exact HB.out|apply zm3_|apply zm2_|apply zm4_|refine zm1_ ?_ GE484.out|refine zm1_ ?_ GE501.out|refine zm1_ ?_ GE506.out|refine zm1_ ?_ GE517.out|refine zm1_ ?_ GE555.out)|exact HB.out)⟩
                   ·
                    rw [if_neg c164] at H
                    exact absurd H (by simp)
             ·
              rw [if_neg c113] at H
              exact absurd H (by simp)
       ·
        replace c73:=Bool.eq_false_iff.mpr c73
        subst c73
        rw [if_neg (show ¬ (false = true) by decide)] at H
        exact absurd H (by simp)
      ·
       replace c70:=Bool.eq_false_iff.mpr c70
       subst c70
       rw [if_neg (show ¬ (false = true) by decide)] at H
       exact absurd H (by simp)
/-- THE ONE PURE STATEMENT of laws_FnExactPutFields. -/
def laws_FnExactPutFields.Pure : Prop:=∀ (a0_0 : Int) (l0_1 : List (S26)) (l1 : List (S26)),(Lit.int .i64 a0_0).wf = true → l0_1.length ≤ 9223372036854775807 → (∀ x ∈ l0_1,x.f0.size ≤ 9223372036854775807 ∧ x.f1.size ≤ 9223372036854775807) → l1.length ≤ 9223372036854775807 → (∀ x ∈ l1,x.f0.size ≤ 9223372036854775807 ∧ x.f1.size ≤ 9223372036854775807) → ∃ k,laws_FnExactPutFields.f k a0_0 l0_1 l1 = some true
end Go.Proofs.YthflimnpiglgbaaGreatDoor.A
end
section
set_option linter.unusedVariables false
set_option linter.unusedSimpArgs false
namespace Go.Proofs.YthflimnpiglgbaaGreatDoor.LibU
open Go.RowKit Go.Proofs.YthflimnpiglgbaaGreatDoor.A Go.Proofs.YthflimnpiglgbaaGreatDoorW.PrintWords Go.Proofs.YthflimnpiglgbaaGreatDoorW.PrintLast Go.Proofs.YthflimnpiglgbaaGreatDoorW.PrintMore
theorem w64 {x : Int} (h0 : -9223372036854775808 ≤ x) (h1 : x ≤ 9223372036854775807) : wrap64 x = x := by unfold wrap64; omega
theorem u64_nn (x : Int) : 0 ≤ IntKind.u64.wrap x := by
  unfold IntKind.wrap
  simp only [IntKind.signed, IntKind.bits, Bool.false_and]
  simp only [Bool.false_eq_true, if_false]
  omega
theorem ix {k : Nat} (h : 0 < k) : ∃ m, k = m + 1 := ⟨k - 1, by omega⟩
/-- One callee's answer, and what follows. -/
theorem bs {α β : Type} {o : Option α} {a : α} {f : α → Option β} {r : Option β} (h : o = some a) (h' : f a = r) : o.bind f = r := by rw [h]; exact h'
theorem ifp {α : Type} {c : Prop} [Decidable c] {a b r : α} (h : c) (h' : a = r) : (if c then a else b) = r := by rw [if_pos h]; exact h'
theorem ifn {α : Type} {c : Prop} [Decidable c] {a b r : α} (h : ¬ c) (h' : b = r) : (if c then a else b) = r := by rw [if_neg h]; exact h'
theorem rd_nat (l : List Int) (i : Nat) : rd l (i : Int) = l.getD i 0 := by simp [rd]
theorem wf64 {a : Int} (h : (Lit.int .i64 a).wf = true) : -9223372036854775808 ≤ a ∧ a ≤ 9223372036854775807 := by
  simp only [Lit.wf, IntKind.min, IntKind.max, IntKind.signed, IntKind.bits, Bool.and_eq_true, decide_eq_true_eq, if_true] at h
  omega
theorem wf8 {a : Int} (h : (Lit.int .u8 a).wf = true) : 0 ≤ a ∧ a ≤ 255 := by
  simp only [Lit.wf, IntKind.min, IntKind.max, IntKind.signed, IntKind.bits, Bool.and_eq_true, decide_eq_true_eq, if_true, Bool.false_eq_true, if_false] at h
  omega
theorem inRange (a b c : Int) : impl_inRange.f a b c = some (decide (b ≤ a ∧ a ≤ c)) := by
  unfold impl_inRange.f
  by_cases h : a ≥ b
  · rw [if_pos h]; congr 1; simp only [decide_eq_decide]; omega
  · rw [if_neg h]; congr 1; symm; simp only [decide_eq_false_iff_not]; omega
end Go.Proofs.YthflimnpiglgbaaGreatDoor.LibU
end
section
set_option linter.unusedVariables false
set_option linter.unusedSimpArgs false
namespace Go.Proofs.YthflimnpiglgbaaGreatDoor.LibBits
open Go.RowKit
theorem wraps_i64 (n : Int) (h0 : 0 ≤ n) (h1 : n < 2 ^ 63) : IntKind.i64.wrap n = n := by rw [IntKind.wrap_i64]; omega
theorem i64_and (a b : Nat) (ha : a < 2 ^ 63) (hb : b < 2 ^ 63) : Go.bits .and .i64 (a : Int) (b : Int) = ((a &&& b : Nat) : Int) := (bits_nat .i64 63 (by decide) wraps_i64 a b ha hb).1
theorem i64_or (a b : Nat) (ha : a < 2 ^ 63) (hb : b < 2 ^ 63) : Go.bits .or .i64 (a : Int) (b : Int) = ((a ||| b : Nat) : Int) := (bits_nat .i64 63 (by decide) wraps_i64 a b ha hb).2
theorem i64_xor (a b : Nat) (ha : a < 2 ^ 63) (hb : b < 2 ^ 63) : Go.bits .xor .i64 (a : Int) (b : Int) = ((a ^^^ b : Nat) : Int) := by
  have ha' : a % 2 ^ IntKind.i64.bits = a := Nat.mod_eq_of_lt (by simp only [IntKind.bits]; omega)
  have hb' : b % 2 ^ IntKind.i64.bits = b := Nat.mod_eq_of_lt (by simp only [IntKind.bits]; omega)
  simp only [Go.bits, BitVec.ofInt_natCast, BitVec.toNat_xor, BitVec.toNat_ofNat, ha', hb']
  exact wraps_i64 _ (Int.natCast_nonneg _) (by exact_mod_cast Nat.xor_lt_two_pow ha hb)
/-- The low i bits. -/
theorem i64_mask (x : Int) (i : Nat) (hi : i ≤ 63) (h0 : 0 ≤ x) (h1 : x < 2 ^ 63) : Go.bits .and .i64 x (2 ^ i - 1) = x % 2 ^ i := bits_mask .i64 63 (by decide) wraps_i64 i hi x h0 h1
/-- Two numbers side by side. -/
theorem i64_join (i : Nat) (x y : Int) (hx0 : 0 ≤ x) (hx : x % 2 ^ i = 0) (hx1 : x < 2 ^ 63) (hy0 : 0 ≤ y) (hy : y < 2 ^ i) (hy1 : y < 2 ^ 63) : Go.bits .or .i64 x y = x + y := bits_join .i64 63 (by decide) wraps_i64 i x y hx0 hx hx1 hy0 hy hy1
end Go.Proofs.YthflimnpiglgbaaGreatDoor.LibBits
end
section
set_option linter.unusedVariables false
set_option linter.unusedSimpArgs false
namespace Go.Proofs.YthflimnpiglgbaaGreatDoor.LibU
open Go.RowKit Go.Proofs.YthflimnpiglgbaaGreatDoor.A Go.Proofs.YthflimnpiglgbaaGreatDoorW.PrintWords Go.Proofs.YthflimnpiglgbaaGreatDoorW.PrintLast Go.Proofs.YthflimnpiglgbaaGreatDoorW.PrintMore
theorem l1In (a b c : Int) : spec_l1In.f a b c = some (decide (b ≤ a ∧ a ≤ c)) := by
  unfold spec_l1In.f
  by_cases h : a ≥ b
  · rw [if_pos h]; congr 1; simp only [decide_eq_decide]; omega
  · rw [if_neg h]; congr 1; symm; simp only [decide_eq_false_iff_not]; omega
end Go.Proofs.YthflimnpiglgbaaGreatDoor.LibU
end
