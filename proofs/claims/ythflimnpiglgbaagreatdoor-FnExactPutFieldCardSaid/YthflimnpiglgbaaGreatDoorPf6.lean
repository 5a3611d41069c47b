/- Functions of the program and of the reference as plain Lean functions, that the machine's calls answer as they do, and laws of these. Written in part by a program of this session, out of the translation. Condition: each theorem's own. -/
import Derived.Test.YthflimnpiglgbaaGreatDoorPf1
import Derived.Test.YthflimnpiglgbaaGreatDoorPf3
import Derived.Test.YthflimnpiglgbaaGreatDoorPf4
import Derived.Test.YthflimnpiglgbaaGreatDoorPf5
section
namespace Go.Proofs.YthflimnpiglgbaaGreatDoor.A
open Go.RowKit Go.Proofs.YthflimnpiglgbaaGreatDoorW.PrintWords Go.Proofs.YthflimnpiglgbaaGreatDoorW.PrintLast Go.Proofs.YthflimnpiglgbaaGreatDoorW.PrintMore
attribute [local go_sem] max2_int min2_int max_two min_two max_three min_three max_four min_four   -- for this text's walks alone
set_option linter.unusedVariables false
set_option linter.unusedSimpArgs false

mutual
def laws_FnExactPutField.j0 : Nat → Int → List Int → List Int → Bool → Int → List (S26) → ByteArray → ByteArray → Int → List (S36) → Int → List (S36) → Int → List (S36) → Option (Bool)
 | 0,_,_,_,_,_,_,_,_,_,_,_,_,_,_ => none
 | k + 1,x2,x8,x11,x56,x382000,x382001,x383000,x383001,x399000,x399001,x404000,x404001,x414000,x414001 => if x56 = true then (none) else ((laws_toTable.f k x382000 x382001).bind fun bt416 => ((laws_eqTable.f k x404000 x404001 bt416.1 bt416.2).bind fun t420 => (if t420 = true then ((laws_markTable.f k x404000 x404001 1).bind fun bt421 => (if bt421.1 < 0 then (laws_FnExactPutField.j1 k x2 x8 x11 true x382000 x382001 x383000 x383001 x399000 x399001 x414000 x414001) else ((laws_eqByteS.f k x11 x8).bind fun t423 => (if t423 = true then ((laws_eqTable.f k x414000 x414001 x399000 x399001).bind fun t424 => (laws_FnExactPutField.j1 k x2 x8 x11 (!t424) x382000 x382001 x383000 x383001 x399000 x399001 x414000 x414001)) else (laws_FnExactPutField.j1 k x2 x8 x11 true x382000 x382001 x383000 x383001 x399000 x399001 x414000 x414001))))) else (none))))
def laws_FnExactPutField.j1 : Nat → Int → List Int → List Int → Bool → Int → List (S26) → ByteArray → ByteArray → Int → List (S36) → Int → List (S36) → Option (Bool)
 | 0,_,_,_,_,_,_,_,_,_,_,_,_ => none
 | k + 1,x2,x8,x11,x78,x382000,x382001,x383000,x383001,x399000,x399001,x414000,x414001 => if x78 = true then (none) else ((laws_markByteS.f k x11 1).bind fun bt425 => ((laws_markTable.f k x414000 x414001 bt425.1).bind fun bt427 => ((laws_heldByteS.f k bt425.2 1).bind fun t429 => (if t429 < 0 then (none) else ((laws_heldTable.f k x414000 bt427.2 t429).bind fun t430 => (if t430 < 0 then (none) else (if t430 = bt427.1 then ((laws_toTable.f k x382000 x382001).bind fun bt431 => ((laws_toField.f x383000 x383001).bind fun bt435 => ((impl_PutField.f k bt431.1 bt431.2 bt435.1 bt435.2 x2).bind fun bt437 => ((laws_eqByteS.f k bt437.1 x8).bind fun t445 => (if t445 = true then ((laws_eqTable.f k bt437.2.1 bt437.2.2 x399000 x399001).bind fun t446 => (laws_FnExactPutField.j2 k bt425.2 bt427.1 (!t446) x414000 bt427.2)) else (laws_FnExactPutField.j2 k bt425.2 bt427.1 true x414000 bt427.2)))))) else (none))))))))
def laws_FnExactPutField.j2 : Nat → List Int → Int → Bool → Int → List (S36) → Option (Bool)
 | 0,_,_,_,_,_ => none
 | k + 1,x11,x14,x116,x414000,x414001 => if x116 = true then (none) else ((laws_heldByteS.f k x11 1).bind fun t447 => (if t447 < 0 then (none) else ((laws_heldTable.f k x414000 x414001 t447).bind fun t448 => (if t448 < 0 then (none) else (if t448 = x14 then (some true) else (none))))))
end
def laws_FnExactPutField.f (k : Nat) (a0_0 : Int) (l0_1 : List (S26)) (a1_0 : ByteArray) (a1_1 : ByteArray) (a2 : Int) : Option (Bool):=(laws_szTable.f k a0_0 l0_1 1048576).bind fun t383 => (if t383 < 0 then (some true) else ((laws_szField.f a1_0 a1_1 t383).bind fun t384 => (if t384 < 0 then (some true) else ((laws_toTable.f k a0_0 l0_1).bind fun bt385 => ((laws_toField.f a1_0 a1_1).bind fun bt389 => ((spec_PutField.f k bt385.1 bt385.2 bt389.1 bt389.2 a2).bind fun bt391 => ((laws_toTable.f k a0_0 l0_1).bind fun bt399 => ((laws_toField.f a1_0 a1_1).bind fun bt404 => ((impl_PutField.f k bt399.1 bt399.2 bt404.1 bt404.2 a2).bind fun bt406 => ((laws_eqByteS.f k bt406.1 bt391.1).bind fun t414 => (if t414 = true then ((laws_eqTable.f k bt406.2.1 bt406.2.2 bt391.2.1 bt391.2.2).bind fun t415 => (laws_FnExactPutField.j0 k a2 bt391.1 bt406.1 (!t415) a0_0 l0_1 a1_0 a1_1 bt391.2.1 bt391.2.2 bt399.1 bt399.2 bt406.2.1 bt406.2.2)) else (laws_FnExactPutField.j0 k a2 bt391.1 bt406.1 true a0_0 l0_1 a1_0 a1_1 bt391.2.1 bt391.2.2 bt399.1 bt399.2 bt406.2.1 bt406.2.2))))))))))))
theorem laws_FnExactPutField.mono_l : ∀ k,(∀ y0 y1 y2 y3 y4 y5 y6 y7 y8 y9 y10 y11 y12 y13,LeO (laws_FnExactPutField.j0 k y0 y1 y2 y3 y4 y5 y6 y7 y8 y9 y10 y11 y12 y13) (laws_FnExactPutField.j0 (k + 1) y0 y1 y2 y3 y4 y5 y6 y7 y8 y9 y10 y11 y12 y13)) ∧ (∀ y0 y1 y2 y3 y4 y5 y6 y7 y8 y9 y10 y11,LeO (laws_FnExactPutField.j1 k y0 y1 y2 y3 y4 y5 y6 y7 y8 y9 y10 y11) (laws_FnExactPutField.j1 (k + 1) y0 y1 y2 y3 y4 y5 y6 y7 y8 y9 y10 y11)) ∧ (∀ y0 y1 y2 y3 y4,LeO (laws_FnExactPutField.j2 k y0 y1 y2 y3 y4) (laws_FnExactPutField.j2 (k + 1) y0 y1 y2 y3 y4))
 | 0 => ⟨fun _ _ _ _ _ _ _ _ _ _ _ _ _ _ r h => by simp [laws_FnExactPutField.j0] at h,fun _ _ _ _ _ _ _ _ _ _ _ _ r h => by simp [laws_FnExactPutField.j1] at h,fun _ _ _ _ _ r h => by simp [laws_FnExactPutField.j2] at h⟩
 | k + 1 => by
  obtain ⟨ih0,ih1,ih2⟩:=laws_FnExactPutField.mono_l k
  refine ⟨?_,?_,?_⟩
  ·
   intro y0 y1 y2 y3 y4 y5 y6 y7 y8 y9 y10 y11 y12 y13
   unfold laws_FnExactPutField.j0
   repeat' first
   | (with_reducible exact ih0 _ _ _ _ _ _ _ _ _ _ _ _ _ _)
   | (with_reducible exact ih1 _ _ _ _ _ _ _ _ _ _ _ _)
   | (with_reducible exact ih2 _ _ _ _ _)
   | (with_reducible exact impl_PutField.mono _ _ _ _ _ _)
   | (with_reducible exact laws_eqByteS.mono _ _ _)
   | (with_reducible exact laws_eqTable.mono _ _ _ _ _)
   | (with_reducible exact laws_heldByteS.mono _ _ _)
   | (with_reducible exact laws_heldTable.mono _ _ _ _)
   | (with_reducible exact laws_markByteS.mono _ _ _)
   | (with_reducible exact laws_markTable.mono _ _ _ _)
   | (with_reducible exact laws_szTable.mono _ _ _ _)
   | (with_reducible exact laws_toTable.mono _ _ _)
   | (with_reducible exact spec_PutField.mono _ _ _ _ _ _)
   | (with_reducible exact LeO.refl _)
   | (with_reducible exact LeO.none _)
   | (with_reducible refine LeO.ite ?_ ?_)
   | (with_reducible refine LeO.bind ?_ (fun _ => ?_))
   | exact ih0 _ _ _ _ _ _ _ _ _ _ _ _ _ _
   | exact ih1 _ _ _ _ _ _ _ _ _ _ _ _
   | exact ih2 _ _ _ _ _
   | exact impl_PutField.mono _ _ _ _ _ _
   | exact laws_eqByteS.mono _ _ _
   | exact laws_eqTable.mono _ _ _ _ _
   | exact laws_heldByteS.mono _ _ _
   | exact laws_heldTable.mono _ _ _ _
   | exact laws_markByteS.mono _ _ _
   | exact laws_markTable.mono _ _ _ _
   | exact laws_szTable.mono _ _ _ _
   | exact laws_toTable.mono _ _ _
   | exact spec_PutField.mono _ _ _ _ _ _
   | exact LeO.none _
   | refine LeO.ite ?_ ?_
   | refine LeO.bind ?_ (fun _ => ?_)
  ·
   intro y0 y1 y2 y3 y4 y5 y6 y7 y8 y9 y10 y11
   unfold laws_FnExactPutField.j1
   repeat' first
   | (with_reducible exact ih0 _ _ _ _ _ _ _ _ _ _ _ _ _ _)
   | (with_reducible exact ih1 _ _ _ _ _ _ _ _ _ _ _ _)
   | (with_reducible exact ih2 _ _ _ _ _)
   | (with_reducible exact impl_PutField.mono _ _ _ _ _ _)
   | (with_reducible exact laws_eqByteS.mono _ _ _)
   | (with_reducible exact laws_eqTable.mono _ _ _ _ _)
   | (with_reducible exact laws_heldByteS.mono _ _ _)
   | (with_reducible exact laws_heldTable.mono _ _ _ _)
   | (with_reducible exact laws_markByteS.mono _ _ _)
   | (with_reducible exact laws_markTable.mono _ _ _ _)
   | (with_reducible exact laws_szTable.mono _ _ _ _)
   | (with_reducible exact laws_toTable.mono _ _ _)
   | (with_reducible exact spec_PutField.mono _ _ _ _ _ _)
   | (with_reducible exact LeO.refl _)
   | (with_reducible exact LeO.none _)
   | (with_reducible refine LeO.ite ?_ ?_)
   | (with_reducible refine LeO.bind ?_ (fun _ => ?_))
   | exact ih0 _ _ _ _ _ _ _ _ _ _ _ _ _ _
   | exact ih1 _ _ _ _ _ _ _ _ _ _ _ _
   | exact ih2 _ _ _ _ _
   | exact impl_PutField.mono _ _ _ _ _ _
   | exact laws_eqByteS.mono _ _ _
   | exact laws_eqTable.mono _ _ _ _ _
   | exact laws_heldByteS.mono _ _ _
   | exact laws_heldTable.mono _ _ _ _
   | exact laws_markByteS.mono _ _ _
   | exact laws_markTable.mono _ _ _ _
   | exact laws_szTable.mono _ _ _ _
   | exact laws_toTable.mono _ _ _
   | exact spec_PutField.mono _ _ _ _ _ _
   | exact LeO.none _
   | refine LeO.ite ?_ ?_
   | refine LeO.bind ?_ (fun _ => ?_)
  ·
   intro y0 y1 y2 y3 y4
   unfold laws_FnExactPutField.j2
   repeat' first
   | (with_reducible exact ih0 _ _ _ _ _ _ _ _ _ _ _ _ _ _)
   | (with_reducible exact ih1 _ _ _ _ _ _ _ _ _ _ _ _)
   | (with_reducible exact ih2 _ _ _ _ _)
   | (with_reducible exact impl_PutField.mono _ _ _ _ _ _)
   | (with_reducible exact laws_eqByteS.mono _ _ _)
   | (with_reducible exact laws_eqTable.mono _ _ _ _ _)
   | (with_reducible exact laws_heldByteS.mono _ _ _)
   | (with_reducible exact laws_heldTable.mono _ _ _ _)
   | (with_reducible exact laws_markByteS.mono _ _ _)
   | (with_reducible exact laws_markTable.mono _ _ _ _)
   | (with_reducible exact laws_szTable.mono _ _ _ _)
   | (with_reducible exact laws_toTable.mono _ _ _)
   | (with_reducible exact spec_PutField.mono _ _ _ _ _ _)
   | (with_reducible exact LeO.refl _)
   | (with_reducible exact LeO.none _)
   | (with_reducible refine LeO.ite ?_ ?_)
   | (with_reducible refine LeO.bind ?_ (fun _ => ?_))
   | exact ih0 _ _ _ _ _ _ _ _ _ _ _ _ _ _
   | exact ih1 _ _ _ _ _ _ _ _ _ _ _ _
   | exact ih2 _ _ _ _ _
   | exact impl_PutField.mono _ _ _ _ _ _
   | exact laws_eqByteS.mono _ _ _
   | exact laws_eqTable.mono _ _ _ _ _
   | exact laws_heldByteS.mono _ _ _
   | exact laws_heldTable.mono _ _ _ _
   | exact laws_markByteS.mono _ _ _
   | exact laws_markTable.mono _ _ _ _
   | exact laws_szTable.mono _ _ _ _
   | exact laws_toTable.mono _ _ _
   | exact spec_PutField.mono _ _ _ _ _ _
   | exact LeO.none _
   | refine LeO.ite ?_ ?_
   | refine LeO.bind ?_ (fun _ => ?_)
theorem laws_FnExactPutField.mono : ∀ a0 a1 a2 a3 a4 k,LeO (laws_FnExactPutField.f k a0 a1 a2 a3 a4) (laws_FnExactPutField.f (k + 1) a0 a1 a2 a3 a4):=by
 intro a0 a1 a2 a3 a4 k
 obtain ⟨ih0,ih1,ih2⟩:=laws_FnExactPutField.mono_l k
 unfold laws_FnExactPutField.f
 repeat' first
  | (with_reducible exact ih0 _ _ _ _ _ _ _ _ _ _ _ _ _ _)
  | (with_reducible exact ih1 _ _ _ _ _ _ _ _ _ _ _ _)
  | (with_reducible exact ih2 _ _ _ _ _)
  | (with_reducible exact impl_PutField.mono _ _ _ _ _ _)
  | (with_reducible exact laws_eqByteS.mono _ _ _)
  | (with_reducible exact laws_eqTable.mono _ _ _ _ _)
  | (with_reducible exact laws_heldByteS.mono _ _ _)
  | (with_reducible exact laws_heldTable.mono _ _ _ _)
  | (with_reducible exact laws_markByteS.mono _ _ _)
  | (with_reducible exact laws_markTable.mono _ _ _ _)
  | (with_reducible exact laws_szTable.mono _ _ _ _)
  | (with_reducible exact laws_toTable.mono _ _ _)
  | (with_reducible exact spec_PutField.mono _ _ _ _ _ _)
  | (with_reducible exact LeO.refl _)
  | (with_reducible exact LeO.none _)
  | (with_reducible refine LeO.ite ?_ ?_)
  | (with_reducible refine LeO.bind ?_ (fun _ => ?_))
  | exact ih0 _ _ _ _ _ _ _ _ _ _ _ _ _ _
  | exact ih1 _ _ _ _ _ _ _ _ _ _ _ _
  | exact ih2 _ _ _ _ _
  | exact impl_PutField.mono _ _ _ _ _ _
  | exact laws_eqByteS.mono _ _ _
  | exact laws_eqTable.mono _ _ _ _ _
  | exact laws_heldByteS.mono _ _ _
  | exact laws_heldTable.mono _ _ _ _
  | exact laws_markByteS.mono _ _ _
  | exact laws_markTable.mono _ _ _ _
  | exact laws_szTable.mono _ _ _ _
  | exact laws_toTable.mono _ _ _
  | exact spec_PutField.mono _ _ _ _ _ _
  | exact LeO.none _
  | refine LeO.ite ?_ ?_
  | refine LeO.bind ?_ (fun _ => ?_)
def laws_FnExactPutField.T8 : Bool × List (List Nat × List Nat):=(true,[([],[]),([0],[0]),([],[]),([2,1],[2]),([],[]),([1,3,4,3],[1,3,4]),([5],[5]),([6],[6]),([6],[6]),([],[]),([7,5,0,1,2,3,4,5,6,7,9],[7]),([9,8,10,0,1,2,3,4,5,6,7,8,9,10],[8,9])])
def laws_FnExactPutField.B8 : List Nat:=[0,1,0,7,0,31,63,127,127,0,767,2047]
theorem laws_FnExactPutField.tab8 : rtab .any (opsOf Tryz.f3 8) = laws_FnExactPutField.T8:=by kernel_rfl
theorem laws_FnExactPutField.bits8 : waitsOk laws_FnExactPutField.T8.2 laws_FnExactPutField.B8 = true:=by kernel_rfl
def laws_FnExactPutField.T10 : Bool × List (List Nat × List Nat):=(true,[([],[]),([],[]),([1],[1]),([],[]),([0,2,3,2],[0,2,3]),([4],[4]),([5],[5]),([5],[5]),([],[]),([6,4,0,1,2,3,4,5,6,8],[6]),([8,7,9,0,1,2,3,4,5,6,7,8,9],[7,8])])
def laws_FnExactPutField.B10 : List Nat:=[0,0,2,0,15,31,63,63,0,383,1023]
theorem laws_FnExactPutField.tab10 : rtab .any (opsOf Tryz.f3 10) = laws_FnExactPutField.T10:=by kernel_rfl
theorem laws_FnExactPutField.bits10 : waitsOk laws_FnExactPutField.T10.2 laws_FnExactPutField.B10 = true:=by kernel_rfl
def laws_FnExactPutField.T31 : Bool × List (List Nat × List Nat):=(true,[([],[]),([0],[0]),([],[]),([2,1],[2]),([],[]),([1,3,4,3],[1,3,4]),([5],[5]),([6],[6]),([6],[6]),([],[]),([7,5,0,1,2,3,4,5,6,7,9],[7]),([9,8,10,0,1,2,3,4,5,6,7,8,9,10],[8,9])])
def laws_FnExactPutField.B31 : List Nat:=[0,1,0,7,0,31,63,127,127,0,767,2047]
theorem laws_FnExactPutField.tab31 : rtab .any (opsOf Tryz.f3 31) = laws_FnExactPutField.T31:=by kernel_rfl
theorem laws_FnExactPutField.bits31 : waitsOk laws_FnExactPutField.T31.2 laws_FnExactPutField.B31 = true:=by kernel_rfl
set_option maxHeartbeats 8000000 in
set_option maxRecDepth 100000 in
theorem laws_FnExactPutField.calls (k : Nat) (a0_0 : Int) (A0_1 : Option Addr) (c0_1 : Nat) (l0_1 : List (S26)) (a1_0 : ByteArray) (a1_1 : ByteArray) (a2 : Int) (r : Bool) (w : World) (hr0_1 : Kd.C k26 w A0_1 l0_1.length l0_1) (hc0_1 : l0_1.length ≤ c0_1) (ht : TB w) (h : laws_FnExactPutField.f k a0_0 l0_1 a1_0 a1_1 a2 = some r) :
 Calls Tryz.prog 3 #[.agg #[.int .i64 a0_0,.slice A0_1 l0_1.length c0_1],.agg #[.string a1_0,.string a1_1],.int .i64 a2] w fun e w' => e = .returned (.bool r) ∧ Below w.heap.size w w':=by
 have hu24:=Tryz.underlying24
 have hu26:=Tryz.underlying26
 have hu32:=Tryz.underlying32
 have HR0_1:=zm0_ hr0_1
 have HC0_1:=zm0_ hc0_1
 clear hr0_1 hc0_1
 have HB:=zm0_ (Below.refl w.heap.size w)
 have H : ((laws_szTable.f k a0_0 l0_1 1048576).bind fun t383 => (if t383 < 0 then (some true) else ((laws_szField.f a1_0 a1_1 t383).bind fun t384 => (if t384 < 0 then (some true) else ((laws_toTable.f k a0_0 l0_1).bind fun bt385 => ((laws_toField.f a1_0 a1_1).bind fun bt389 => ((spec_PutField.f k bt385.1 bt385.2 bt389.1 bt389.2 a2).bind fun bt391 => ((laws_toTable.f k a0_0 l0_1).bind fun bt399 => ((laws_toField.f a1_0 a1_1).bind fun bt404 => ((impl_PutField.f k bt399.1 bt399.2 bt404.1 bt404.2 a2).bind fun bt406 => ((laws_eqByteS.f k bt406.1 bt391.1).bind fun t414 => (if t414 = true then ((laws_eqTable.f k bt406.2.1 bt406.2.2 bt391.2.1 bt391.2.2).bind fun t415 => (laws_FnExactPutField.j0 k a2 bt391.1 bt406.1 (!t415) a0_0 l0_1 a1_0 a1_1 bt391.2.1 bt391.2.2 bt399.1 bt399.2 bt406.2.1 bt406.2.2)) else (laws_FnExactPutField.j0 k a2 bt391.1 bt406.1 true a0_0 l0_1 a1_0 a1_1 bt391.2.1 bt391.2.2 bt399.1 bt399.2 bt406.2.1 bt406.2.2))))))))))))) = some r:=h
 clear h
 replace H:=zq1_ H
 obtain ⟨t383,A40,H⟩:=H
 replace H : (if t383 < 0 then (some true) else ((laws_szField.f a1_0 a1_1 t383).bind fun t384 => (if t384 < 0 then (some true) else ((laws_toTable.f k a0_0 l0_1).bind fun bt385 => ((laws_toField.f a1_0 a1_1).bind fun bt389 => ((spec_PutField.f k bt385.1 bt385.2 bt389.1 bt389.2 a2).bind fun bt391 => ((laws_toTable.f k a0_0 l0_1).bind fun bt399 => ((laws_toField.f a1_0 a1_1).bind fun bt404 => ((impl_PutField.f k bt399.1 bt399.2 bt404.1 bt404.2 a2).bind fun bt406 => ((laws_eqByteS.f k bt406.1 bt391.1).bind fun t414 => (if t414 = true then ((laws_eqTable.f k bt406.2.1 bt406.2.2 bt391.2.1 bt391.2.2).bind fun t415 => (laws_FnExactPutField.j0 k a2 bt391.1 bt406.1 (!t415) a0_0 l0_1 a1_0 a1_1 bt391.2.1 bt391.2.2 bt399.1 bt399.2 bt406.2.1 bt406.2.2)) else (laws_FnExactPutField.j0 k a2 bt391.1 bt406.1 true a0_0 l0_1 a1_0 a1_1 bt391.2.1 bt391.2.2 bt399.1 bt399.2 bt406.2.1 bt406.2.2)))))))))))) = some r:=H
 have A4:=zm0_ A40
 clear A40
 by_cases c5 : t383 < 0
 ·
  rw [if_pos c5] at H
  have c5b0 : decide (t383 < 0) = true:=decide_eq_true c5
  clear c5
  obtain rfl:=Option.some.inj H
  go_enter Tryz.func3,Tryz.ntmps3
  go_wp2_with (first|((with_reducible refine gate_dst (N:=3) rfl ?_);refine box_event ?hg (N:=3) ?hd (cs:=#[.int .i64 a0_0,.slice A0_1 l0_1.length c0_1]) (t:=24) ?hr ?_;(case hd => rfl);(case hg => rfl);(case hr => first|(go_simp;done)|(go_simp;rfl));intro gb381 hg w6 hbox hb;have BK381:=zm0_ (hbox);have GW381:=zm0_ ((by rw [hg];exact (zn9_ (zl HB)) : w.heap.size ≤ gb381));have GE381:=zm0_ ((by rw [hg];exact (zn9_ (zl HB)) : w.heap.size ≤ gb381));replace HB:=zm0_ (zn8_ (zl HB) hb);clear hb hbox hg)|((with_reducible refine gate_dst (N:=4) rfl ?_);refine box_event ?hg (N:=4) ?hd (cs:=#[.string a1_0,.string a1_1]) (t:=26) ?hr ?_;(case hd => rfl);(case hg => rfl);(case hr => first|(go_simp;done)|(go_simp;rfl));intro gb382 hg w7 hbox hb;have BK382:=zm0_ (hbox);have GW382:=zm0_ ((by rw [hg];exact (zn9_ (zl1 HB GE381)) : w.heap.size ≤ gb382));have GE382:=zm0_ ((by rw [hg];exact (zn9_ (zl1 HB GE381)) : w.heap.size ≤ gb382));replace HB:=zm0_ (zn8_ (zl1 HB GE381) hb);have NB381_382:=zm0_ ((by rw [hg];exact Nat.ne_of_lt (zo3_ (g:=gb381) (o:=.cells #[.int .i64 a0_0,.slice A0_1 l0_1.length c0_1] 24 (0,0)) (zb BK381)) : gb381 ≠ gb382));have NB382_381:=zm0_ ((by rw [hg];exact Nat.ne_of_gt (zo3_ (g:=gb381) (o:=.cells #[.int .i64 a0_0,.slice A0_1 l0_1.length c0_1] 24 (0,0)) (zb BK381)) : gb382 ≠ gb381));replace BK381:=zm0_ (zm5_ (zb BK381) hb);clear hb hbox hg;have hnb8:=NB381_382.out;have hnc8:=NB382_381.out;have hcz9_0 : w7.cell? ⟨gb381,0,none⟩ = some (.int .i64 a0_0):=(zm6_ BK381.out 0).trans rfl;have hcz9_1 : w7.cell? ⟨gb381,1,none⟩ = some (.slice A0_1 l0_1.length c0_1):=(zm6_ BK381.out 1).trans rfl;have hfz9_0:=zm7_ BK381.out 0;have hfz9_1:=zm7_ BK381.out 1)|((with_reducible refine gate_callee (f:=5) rfl ?_);refine goesL_ (some 20) rfl rfl Tryz.func5 (by kernel_rfl) rfl #[.agg #[.int .i64 a0_0,.slice A0_1 l0_1.length c0_1],.int .i64 1048576] rfl zy ?_;(with_reducible refine (laws_szTable.calls k a0_0 _ _ l0_1 1048576 t383 _ ?side1 ?side2 A4.out).mono ?_);(case side1 => repeat (first|exact (Kd.C_below HR0_1.out HB.out)|(with_reducible refine Kd.C_alloc ?_ _)|(with_reducible refine Kd.C_drewN ?_ _)|(with_reducible refine Kd.C_drew ?_)));(case side2 => exact HC0_1.out);rintro e w10 ⟨rfl,hb⟩;refine ⟨_,rfl,?_⟩;replace BK381:=zm0_ (zm5_ (zb BK381) hb);replace BK382:=zm0_ (zm5_ (zb BK382) hb);replace HB:=zm0_ (zn8_ (zl2 HB GE381 GE382) hb);(try clear hb);(try clear hb2);(try clear hk);(try clear hi)))
  go_ret
  exact ⟨ze,by repeat (first|(with_reducible first|exact HB.out|apply zm3_|apply zm2_|apply zm4_|refine zm1_ ?_ GE381.out|refine zm1_ ?_ GE382.out)|exact HB.out)⟩
 ·
  rw [if_neg c5] at H
  have c5b0 : decide (t383 < 0) = false:=decide_eq_false c5
  clear c5
  replace H:=zq1_ H
  obtain ⟨t384,A110,H⟩:=H
  replace H : (if t384 < 0 then (some true) else ((laws_toTable.f k a0_0 l0_1).bind fun bt385 => ((laws_toField.f a1_0 a1_1).bind fun bt389 => ((spec_PutField.f k bt385.1 bt385.2 bt389.1 bt389.2 a2).bind fun bt391 => ((laws_toTable.f k a0_0 l0_1).bind fun bt399 => ((laws_toField.f a1_0 a1_1).bind fun bt404 => ((impl_PutField.f k bt399.1 bt399.2 bt404.1 bt404.2 a2).bind fun bt406 => ((laws_eqByteS.f k bt406.1 bt391.1).bind fun t414 => (if t414 = true then ((laws_eqTable.f k bt406.2.1 bt406.2.2 bt391.2.1 bt391.2.2).bind fun t415 => (laws_FnExactPutField.j0 k a2 bt391.1 bt406.1 (!t415) a0_0 l0_1 a1_0 a1_1 bt391.2.1 bt391.2.2 bt399.1 bt399.2 bt406.2.1 bt406.2.2)) else (laws_FnExactPutField.j0 k a2 bt391.1 bt406.1 true a0_0 l0_1 a1_0 a1_1 bt391.2.1 bt391.2.2 bt399.1 bt399.2 bt406.2.1 bt406.2.2)))))))))) = some r:=H
  have A11:=zm0_ A110
  clear A110
  by_cases c12 : t384 < 0
  ·
   rw [if_pos c12] at H
   have c12b0 : decide (t384 < 0) = true:=decide_eq_true c12
   clear c12
   obtain rfl:=Option.some.inj H
   go_enter Tryz.func3,Tryz.ntmps3
   go_wp2_with (first|((with_reducible refine gate_dst (N:=3) rfl ?_);refine box_event ?hg (N:=3) ?hd (cs:=#[.int .i64 a0_0,.slice A0_1 l0_1.length c0_1]) (t:=24) ?hr ?_;(case hd => rfl);(case hg => rfl);(case hr => first|(go_simp;done)|(go_simp;rfl));intro gb381 hg w13 hbox hb;have BK381:=zm0_ (hbox);have GW381:=zm0_ ((by rw [hg];exact (zn9_ (zl HB)) : w.heap.size ≤ gb381));have GE381:=zm0_ ((by rw [hg];exact (zn9_ (zl HB)) : w.heap.size ≤ gb381));replace HB:=zm0_ (zn8_ (zl HB) hb);clear hb hbox hg)|((with_reducible refine gate_dst (N:=4) rfl ?_);refine box_event ?hg (N:=4) ?hd (cs:=#[.string a1_0,.string a1_1]) (t:=26) ?hr ?_;(case hd => rfl);(case hg => rfl);(case hr => first|(go_simp;done)|(go_simp;rfl));intro gb382 hg w14 hbox hb;have BK382:=zm0_ (hbox);have GW382:=zm0_ ((by rw [hg];exact (zn9_ (zl1 HB GE381)) : w.heap.size ≤ gb382));have GE382:=zm0_ ((by rw [hg];exact (zn9_ (zl1 HB GE381)) : w.heap.size ≤ gb382));replace HB:=zm0_ (zn8_ (zl1 HB GE381) hb);have NB381_382:=zm0_ ((by rw [hg];exact Nat.ne_of_lt (zo3_ (g:=gb381) (o:=.cells #[.int .i64 a0_0,.slice A0_1 l0_1.length c0_1] 24 (0,0)) (zb BK381)) : gb381 ≠ gb382));have NB382_381:=zm0_ ((by rw [hg];exact Nat.ne_of_gt (zo3_ (g:=gb381) (o:=.cells #[.int .i64 a0_0,.slice A0_1 l0_1.length c0_1] 24 (0,0)) (zb BK381)) : gb382 ≠ gb381));replace BK381:=zm0_ (zm5_ (zb BK381) hb);clear hb hbox hg;have hnb15:=NB381_382.out;have hnc15:=NB382_381.out;have hcz16_0 : w14.cell? ⟨gb381,0,none⟩ = some (.int .i64 a0_0):=(zm6_ BK381.out 0).trans rfl;have hcz16_1 : w14.cell? ⟨gb381,1,none⟩ = some (.slice A0_1 l0_1.length c0_1):=(zm6_ BK381.out 1).trans rfl;have hfz16_0:=zm7_ BK381.out 0;have hfz16_1:=zm7_ BK381.out 1)|((with_reducible refine gate_callee (f:=5) rfl ?_);refine goesL_ (some 20) rfl rfl Tryz.func5 (by kernel_rfl) rfl #[.agg #[.int .i64 a0_0,.slice A0_1 l0_1.length c0_1],.int .i64 1048576] rfl zy ?_;(with_reducible refine (laws_szTable.calls k a0_0 _ _ l0_1 1048576 t383 _ ?side1 ?side2 A4.out).mono ?_);(case side1 => repeat (first|exact (Kd.C_below HR0_1.out HB.out)|(with_reducible refine Kd.C_alloc ?_ _)|(with_reducible refine Kd.C_drewN ?_ _)|(with_reducible refine Kd.C_drew ?_)));(case side2 => exact HC0_1.out);rintro e w17 ⟨rfl,hb⟩;refine ⟨_,rfl,?_⟩;replace BK381:=zm0_ (zm5_ (zb BK381) hb);replace BK382:=zm0_ (zm5_ (zb BK382) hb);replace HB:=zm0_ (zn8_ (zl2 HB GE381 GE382) hb);(try clear hb);(try clear hb2);(try clear hk);(try clear hi);have hcz18_0 : w17.cell? ⟨gb382,0,none⟩ = some (.string a1_0):=(zm6_ BK382.out 0).trans rfl;have hcz18_1 : w17.cell? ⟨gb382,1,none⟩ = some (.string a1_1):=(zm6_ BK382.out 1).trans rfl;have hfz18_0:=zm7_ BK382.out 0;have hfz18_1:=zm7_ BK382.out 1)|((with_reducible refine gate_callee (f:=6) rfl ?_);refine goesL_ (some 25) rfl rfl Tryz.func6 (by kernel_rfl) rfl #[.agg #[.string a1_0,.string a1_1],.int .i64 t383] rfl zy ?_;(with_reducible refine (laws_szField.calls a1_0 a1_1 t383 t384 _ A11.out).mono ?_);rintro e w19 ⟨rfl,hb⟩;refine ⟨_,rfl,?_⟩;replace BK381:=zm0_ (zm5_ (zb BK381) hb);replace BK382:=zm0_ (zm5_ (zb BK382) hb);replace HB:=zm0_ (zn8_ (zl2 HB GE381 GE382) hb);(try clear hb);(try clear hb2);(try clear hk);(try clear hi)))
   go_ret
   exact ⟨ze,by repeat (first|(with_reducible first|exact HB.out|apply zm3_|apply zm2_|apply zm4_|refine zm1_ ?_ GE381.out|refine zm1_ ?_ GE382.out)|exact HB.out)⟩
  ·
   rw [if_neg c12] at H
   have c12b0 : decide (t384 < 0) = false:=decide_eq_false c12
   clear c12
   replace H:=zq1_ H
   obtain ⟨⟨t385,t386⟩,A200,H⟩:=H
   replace H : ((laws_toField.f a1_0 a1_1).bind fun bt389 => ((spec_PutField.f k t385 t386 bt389.1 bt389.2 a2).bind fun bt391 => ((laws_toTable.f k a0_0 l0_1).bind fun bt399 => ((laws_toField.f a1_0 a1_1).bind fun bt404 => ((impl_PutField.f k bt399.1 bt399.2 bt404.1 bt404.2 a2).bind fun bt406 => ((laws_eqByteS.f k bt406.1 bt391.1).bind fun t414 => (if t414 = true then ((laws_eqTable.f k bt406.2.1 bt406.2.2 bt391.2.1 bt391.2.2).bind fun t415 => (laws_FnExactPutField.j0 k a2 bt391.1 bt406.1 (!t415) a0_0 l0_1 a1_0 a1_1 bt391.2.1 bt391.2.2 bt399.1 bt399.2 bt406.2.1 bt406.2.2)) else (laws_FnExactPutField.j0 k a2 bt391.1 bt406.1 true a0_0 l0_1 a1_0 a1_1 bt391.2.1 bt391.2.2 bt399.1 bt399.2 bt406.2.1 bt406.2.2)))))))) = some r:=H
   have A20:=zm0_ A200
   clear A200
   replace H:=zq1_ H
   obtain ⟨⟨t389,t390⟩,A210,H⟩:=H
   replace H : ((spec_PutField.f k t385 t386 t389 t390 a2).bind fun bt391 => ((laws_toTable.f k a0_0 l0_1).bind fun bt399 => ((laws_toField.f a1_0 a1_1).bind fun bt404 => ((impl_PutField.f k bt399.1 bt399.2 bt404.1 bt404.2 a2).bind fun bt406 => ((laws_eqByteS.f k bt406.1 bt391.1).bind fun t414 => (if t414 = true then ((laws_eqTable.f k bt406.2.1 bt406.2.2 bt391.2.1 bt391.2.2).bind fun t415 => (laws_FnExactPutField.j0 k a2 bt391.1 bt406.1 (!t415) a0_0 l0_1 a1_0 a1_1 bt391.2.1 bt391.2.2 bt399.1 bt399.2 bt406.2.1 bt406.2.2)) else (laws_FnExactPutField.j0 k a2 bt391.1 bt406.1 true a0_0 l0_1 a1_0 a1_1 bt391.2.1 bt391.2.2 bt399.1 bt399.2 bt406.2.1 bt406.2.2))))))) = some r:=H
   have A21:=zm0_ A210
   clear A210
   replace H:=zq1_ H
   obtain ⟨⟨t391,t394,t395⟩,A220,H⟩:=H
   replace H : ((laws_toTable.f k a0_0 l0_1).bind fun bt399 => ((laws_toField.f a1_0 a1_1).bind fun bt404 => ((impl_PutField.f k bt399.1 bt399.2 bt404.1 bt404.2 a2).bind fun bt406 => ((laws_eqByteS.f k bt406.1 t391).bind fun t414 => (if t414 = true then ((laws_eqTable.f k bt406.2.1 bt406.2.2 t394 t395).bind fun t415 => (laws_FnExactPutField.j0 k a2 t391 bt406.1 (!t415) a0_0 l0_1 a1_0 a1_1 t394 t395 bt399.1 bt399.2 bt406.2.1 bt406.2.2)) else (laws_FnExactPutField.j0 k a2 t391 bt406.1 true a0_0 l0_1 a1_0 a1_1 t394 t395 bt399.1 bt399.2 bt406.2.1 bt406.2.2)))))) = some r:=H
   have A22:=zm0_ A220
   clear A220
   replace H:=zq1_ H
   obtain ⟨⟨t399,t400⟩,A230,H⟩:=H
   replace H : ((laws_toField.f a1_0 a1_1).bind fun bt404 => ((impl_PutField.f k t399 t400 bt404.1 bt404.2 a2).bind fun bt406 => ((laws_eqByteS.f k bt406.1 t391).bind fun t414 => (if t414 = true then ((laws_eqTable.f k bt406.2.1 bt406.2.2 t394 t395).bind fun t415 => (laws_FnExactPutField.j0 k a2 t391 bt406.1 (!t415) a0_0 l0_1 a1_0 a1_1 t394 t395 t399 t400 bt406.2.1 bt406.2.2)) else (laws_FnExactPutField.j0 k a2 t391 bt406.1 true a0_0 l0_1 a1_0 a1_1 t394 t395 t399 t400 bt406.2.1 bt406.2.2))))) = some r:=H
   have A23:=zm0_ A230
   clear A230
   replace H:=zq1_ H
   obtain ⟨⟨t404,t405⟩,A240,H⟩:=H
   replace H : ((impl_PutField.f k t399 t400 t404 t405 a2).bind fun bt406 => ((laws_eqByteS.f k bt406.1 t391).bind fun t414 => (if t414 = true then ((laws_eqTable.f k bt406.2.1 bt406.2.2 t394 t395).bind fun t415 => (laws_FnExactPutField.j0 k a2 t391 bt406.1 (!t415) a0_0 l0_1 a1_0 a1_1 t394 t395 t399 t400 bt406.2.1 bt406.2.2)) else (laws_FnExactPutField.j0 k a2 t391 bt406.1 true a0_0 l0_1 a1_0 a1_1 t394 t395 t399 t400 bt406.2.1 bt406.2.2)))) = some r:=H
   have A24:=zm0_ A240
   clear A240
   replace H:=zq1_ H
   obtain ⟨⟨t406,t409,t410⟩,A250,H⟩:=H
   replace H : ((laws_eqByteS.f k t406 t391).bind fun t414 => (if t414 = true then ((laws_eqTable.f k t409 t410 t394 t395).bind fun t415 => (laws_FnExactPutField.j0 k a2 t391 t406 (!t415) a0_0 l0_1 a1_0 a1_1 t394 t395 t399 t400 t409 t410)) else (laws_FnExactPutField.j0 k a2 t391 t406 true a0_0 l0_1 a1_0 a1_1 t394 t395 t399 t400 t409 t410))) = some r:=H
   have A25:=zm0_ A250
   clear A250
   have HC26:=zm0_ H
   clear H
   go_enter Tryz.func3,Tryz.ntmps3
   try go_wp2_with (first|((with_reducible refine gate_dst (N:=3) rfl ?_);refine box_event ?hg (N:=3) ?hd (cs:=#[.int .i64 a0_0,.slice A0_1 l0_1.length c0_1]) (t:=24) ?hr ?_;(case hd => rfl);(case hg => rfl);(case hr => first|(go_simp;done)|(go_simp;rfl));intro gb381 hg w27 hbox hb;have BK381:=zm0_ (hbox);have GW381:=zm0_ ((by rw [hg];exact (zn9_ (zl HB)) : w.heap.size ≤ gb381));have GE381:=zm0_ ((by rw [hg];exact (zn9_ (zl HB)) : w.heap.size ≤ gb381));replace HB:=zm0_ (zn8_ (zl HB) hb);clear hb hbox hg)|((with_reducible refine gate_dst (N:=4) rfl ?_);refine box_event ?hg (N:=4) ?hd (cs:=#[.string a1_0,.string a1_1]) (t:=26) ?hr ?_;(case hd => rfl);(case hg => rfl);(case hr => first|(go_simp;done)|(go_simp;rfl));intro gb382 hg w28 hbox hb;have BK382:=zm0_ (hbox);have GW382:=zm0_ ((by rw [hg];exact (zn9_ (zl1 HB GE381)) : w.heap.size ≤ gb382));have GE382:=zm0_ ((by rw [hg];exact (zn9_ (zl1 HB GE381)) : w.heap.size ≤ gb382));replace HB:=zm0_ (zn8_ (zl1 HB GE381) hb);have NB381_382:=zm0_ ((by rw [hg];exact Nat.ne_of_lt (zo3_ (g:=gb381) (o:=.cells #[.int .i64 a0_0,.slice A0_1 l0_1.length c0_1] 24 (0,0)) (zb BK381)) : gb381 ≠ gb382));have NB382_381:=zm0_ ((by rw [hg];exact Nat.ne_of_gt (zo3_ (g:=gb381) (o:=.cells #[.int .i64 a0_0,.slice A0_1 l0_1.length c0_1] 24 (0,0)) (zb BK381)) : gb382 ≠ gb381));replace BK381:=zm0_ (zm5_ (zb BK381) hb);clear hb hbox hg;have hnb29:=NB381_382.out;have hnc29:=NB382_381.out;have hcz30_0 : w28.cell? ⟨gb381,0,none⟩ = some (.int .i64 a0_0):=(zm6_ BK381.out 0).trans rfl;have hcz30_1 : w28.cell? ⟨gb381,1,none⟩ = some (.slice A0_1 l0_1.length c0_1):=(zm6_ BK381.out 1).trans rfl;have hfz30_0:=zm7_ BK381.out 0;have hfz30_1:=zm7_ BK381.out 1)|((with_reducible refine gate_callee (f:=5) rfl ?_);refine goesL_ (some 20) rfl rfl Tryz.func5 (by kernel_rfl) rfl #[.agg #[.int .i64 a0_0,.slice A0_1 l0_1.length c0_1],.int .i64 1048576] rfl zy ?_;(with_reducible refine (laws_szTable.calls k a0_0 _ _ l0_1 1048576 t383 _ ?side1 ?side2 A4.out).mono ?_);(case side1 => repeat (first|exact (Kd.C_below HR0_1.out HB.out)|(with_reducible refine Kd.C_alloc ?_ _)|(with_reducible refine Kd.C_drewN ?_ _)|(with_reducible refine Kd.C_drew ?_)));(case side2 => exact HC0_1.out);rintro e w31 ⟨rfl,hb⟩;refine ⟨_,rfl,?_⟩;replace BK381:=zm0_ (zm5_ (zb BK381) hb);replace BK382:=zm0_ (zm5_ (zb BK382) hb);replace HB:=zm0_ (zn8_ (zl2 HB GE381 GE382) hb);(try clear hb);(try clear hb2);(try clear hk);(try clear hi);have hcz32_0 : w31.cell? ⟨gb382,0,none⟩ = some (.string a1_0):=(zm6_ BK382.out 0).trans rfl;have hcz32_1 : w31.cell? ⟨gb382,1,none⟩ = some (.string a1_1):=(zm6_ BK382.out 1).trans rfl;have hfz32_0:=zm7_ BK382.out 0;have hfz32_1:=zm7_ BK382.out 1)|((with_reducible refine gate_callee (f:=6) rfl ?_);refine goesL_ (some 25) rfl rfl Tryz.func6 (by kernel_rfl) rfl #[.agg #[.string a1_0,.string a1_1],.int .i64 t383] rfl zy ?_;(with_reducible refine (laws_szField.calls a1_0 a1_1 t383 t384 _ A11.out).mono ?_);rintro e w33 ⟨rfl,hb⟩;refine ⟨_,rfl,?_⟩;replace BK381:=zm0_ (zm5_ (zb BK381) hb);replace BK382:=zm0_ (zm5_ (zb BK382) hb);replace HB:=zm0_ (zn8_ (zl2 HB GE381 GE382) hb);(try clear hb);(try clear hb2);(try clear hk);(try clear hi)))
   replace BK381:=zm0_ (k7_ BK381.out)
   replace BK382:=zm0_ (k7_ BK382.out)
   replace HB:=zm0_ (zm4_ HB.out)
   refine start_ (n:=12) (S:=fun w' => w'.cell? ⟨gb381,0,none⟩ = some (.int .i64 a0_0) ∧ w'.cell? ⟨gb381,1,none⟩ = some (.slice A0_1 l0_1.length c0_1) ∧ w'.cell? ⟨gb382,0,none⟩ = some (.string a1_0) ∧ w'.cell? ⟨gb382,1,none⟩ = some (.string a1_1)) (ds:=[]) #[Z,Z,Z,Z,Z,Z,Z,Z,Z,Z,Z,Z] (by kernel_rfl) rfl rfl ⟨(zm6_ BK381.out 0).trans rfl,(zm6_ BK381.out 1).trans rfl,(zm6_ BK382.out 0).trans rfl,(zm6_ BK382.out 1).trans rfl⟩ (fun hHeld => ?_);refine with_tabW laws_FnExactPutField.tab8 laws_FnExactPutField.bits8 (fun HT_ HW_ => ?_)
   generalize w33.drew = w34 at BK381 BK382 HB hHeld ⊢
   refine pure_ (i:=4) (N:=some 33) (v:=?_) (a':=?_) #[Z,Z,Z,Z,Y,Z,Z,Z,Z,Z,Z,Z] rfl rfl (any_of HT_.out (by kernel_rfl)) (fun _ _ _ h => h) (Or.inl ⟨by rfl,?_⟩) ?_ ?_
   rotate_left
   ·
    intro w'
    go_simp
    with_reducible rfl
   rotate_left
   ·
    simp only [Act.put,lA_,lB_,lC_,i64_w,i32_w]
    rfl
   refine take_ (i:=0) (N:=some 29) (v:=?_) (a':=?_) #[Y,Z,Z,Z,Y,Z,Z,Z,Z,Z,Z,Z] rfl rfl (take_ofW HT_.out HW_.out (by kernel_rfl)) (fun _ _ _ h => h) (Or.inl ⟨by rfl,?_⟩) hHeld ?_ ?_
   rotate_left
   ·
    rintro w' ⟨s0,s1,s2,s3⟩
    go_simp
    with_reducible rfl
   rotate_left
   ·
    simp only [Act.put,lA_,lB_,lC_,i64_w,i32_w]
    rfl
   refine take_ (i:=2) (N:=some 31) (v:=?_) (a':=?_) #[Y,Z,Y,Z,Y,Z,Z,Z,Z,Z,Z,Z] rfl rfl (take_ofW HT_.out HW_.out (by kernel_rfl)) (fun _ _ _ h => h) (Or.inl ⟨by rfl,?_⟩) hHeld ?_ ?_
   rotate_left
   ·
    rintro w' ⟨s0,s1,s2,s3⟩
    go_simp
    with_reducible rfl
   rotate_left
   ·
    simp only [Act.put,lA_,lB_,lC_,i64_w,i32_w]
    rfl
   refine join_ (σ:=Value × Value × Value × Nat) 2 #[Y,Y,Y,Y,Y,Y,Y,Y,Y,Y,Z,Z] (fun s_ => [(30,.agg #[.int .i64 t385,s_.1]),(32,.agg #[.string t389,.string t390]),(34,.tuple #[s_.2.1,.agg #[.int .i64 t394,s_.2.2.1]]),(9,.pointer (some ⟨s_.2.2.2,0,none⟩)),(28,.tuple #[s_.2.1,.agg #[.int .i64 t394,s_.2.2.1]]),(35,s_.2.1),(36,.agg #[.int .i64 t394,s_.2.2.1])]) (fun s_ w' => (w'.cell? ⟨gb381,0,none⟩ = some (.int .i64 a0_0) ∧ w'.cell? ⟨gb381,1,none⟩ = some (.slice A0_1 l0_1.length c0_1) ∧ w'.cell? ⟨gb382,0,none⟩ = some (.string a1_0) ∧ w'.cell? ⟨gb382,1,none⟩ = some (.string a1_1)) ∧ (Kd.R k36 36 w' w.heap.size (fun k_ => some k_ ≠ (s_.2.2.1 : Value).ownBlock) s_.1 t386) ∧ (Kd.R (Kd.int .u8) 5 w' w.heap.size (fun _ => True) s_.2.1 t391) ∧ (Kd.R k36 36 w' w.heap.size (fun k_ => some k_ ≠ (s_.1 : Value).ownBlock) s_.2.2.1 t395) ∧ (w'.heap[gb381]? = some (.cells #[.int .i64 a0_0,.slice A0_1 l0_1.length c0_1] 24 (0,0))) ∧ (w'.heap[gb382]? = some (.cells #[.string a1_0,.string a1_1] 26 (0,0))) ∧ (w'.heap[s_.2.2.2]? = some (.cells #[.int .i64 0,.slice none 0 0] 32 (0,0))) ∧ (w.heap.size ≤ s_.2.2.2) ∧ (w.heap.size ≤ s_.2.2.2) ∧ (gb381 ≠ s_.2.2.2) ∧ (s_.2.2.2 ≠ gb381) ∧ (gb382 ≠ s_.2.2.2) ∧ (s_.2.2.2 ≠ gb382) ∧ (Below w.heap.size w w')) ?_ ?_
   rotate_left
   ·
    intro hCont
    refine two_ (i:=1) (j:=9) (Ni:=some 30) (Nj:=some 9) #[Y,Y,Y,Z,Y,Z,Z,Z,Z,Z,Z,Z] #[Y,Z,Y,Z,Y,Z,Z,Z,Z,Y,Z,Z] rfl rfl rfl rfl (two_of HT_.out (by kernel_rfl)) (by decide) (by decide) (fun K hK => ?_) (fun K hK => ?_)
    ·
     skip
     refine goes_ Tryz.func8 (by kernel_rfl) rfl #[.agg #[.int .i64 a0_0,.slice A0_1 l0_1.length c0_1]] (by rfl) rfl rfl zy ?_
     with_reducible refine (laws_toTable.calls k a0_0 _ _ l0_1 t385 t386 _ ?side1 ?side2 A20.out).mono ?_
     (case side1 => repeat (first|exact (Kd.C_below HR0_1.out HB.out)|(with_reducible refine Kd.C_alloc ?_ _)|(with_reducible refine Kd.C_drewN ?_ _)|(with_reducible refine Kd.C_drew ?_)))
     (case side2 => exact HC0_1.out)
     rintro e w35 ⟨v387,rfl,ho0,hb⟩
     refine ⟨_,rfl,?_⟩
     have HO388:=zm0_ (zo1_ ho0 (zn9_ (zl2 HB GE381 GE382)))
     replace BK381:=zm0_ (zm5_ (zb BK381) hb)
     replace BK382:=zm0_ (zm5_ (zb BK382) hb)
     replace HB:=zm0_ (zn8_ (zl2 HB GE381 GE382) hb)
     (try clear hb)
     (try clear hb2)
     (try clear hk)
     (try clear hi)
     (try clear ho0)
     refine hK.out _ _ ⟨(zm6_ BK381.out 0).trans rfl,(zm6_ BK381.out 1).trans rfl,(zm6_ BK382.out 0).trans rfl,(zm6_ BK382.out 1).trans rfl⟩ (fun hHeld => ?_)
     clear hK K
     refine norm_ (a':=?_) ?_ ?_
     rotate_left
     ·
      show Act.put _ (some 30) _ = _
      simp only [Act.put,lA_,lB_,lC_,i64_w,i32_w]
      rfl
     refine two_ (i:=3) (j:=9) (Ni:=some 32) (Nj:=some 9) #[Y,Y,Y,Y,Y,Z,Z,Z,Z,Z,Z,Z] #[Y,Y,Y,Z,Y,Z,Z,Z,Z,Y,Z,Z] rfl rfl rfl rfl (two_of HT_.out (by kernel_rfl)) (by decide) (by decide) (fun K hK => ?_) (fun K hK => ?_)
     ·
      skip
      refine goes_ Tryz.func9 (by kernel_rfl) rfl #[.agg #[.string a1_0,.string a1_1]] (by rfl) rfl rfl zy ?_
      with_reducible refine (laws_toField.calls a1_0 a1_1 t389 t390 _ A21.out).mono ?_
      rintro e w36 ⟨rfl,hb⟩
      refine ⟨_,rfl,?_⟩
      replace HO388:=zm0_ (zm8_ (zr HO388) hb)
      replace BK381:=zm0_ (zm5_ (zb BK381) hb)
      replace BK382:=zm0_ (zm5_ (zb BK382) hb)
      replace HB:=zm0_ (zn8_ (zl2 HB GE381 GE382) hb)
      (try clear hb)
      (try clear hb2)
      (try clear hk)
      (try clear hi)
      obtain ⟨Ao37,co37,eo37⟩:=Kd.R_slice HO388.out
      (first|subst eo37|(injection eo37 with f1_ f2_ f3_;have f4_:=f1_.symm;have f5_:=f3_.symm;clear f1_ f2_ f3_;subst f4_;subst f5_))
      refine hK.out _ _ ⟨(zm6_ BK381.out 0).trans rfl,(zm6_ BK381.out 1).trans rfl,(zm6_ BK382.out 0).trans rfl,(zm6_ BK382.out 1).trans rfl⟩ (fun hHeld => ?_)
      clear hK K
      refine norm_ (a':=?_) ?_ ?_
      rotate_left
      ·
       show Act.put _ (some 32) _ = _
       simp only [Act.put,lA_,lB_,lC_,i64_w,i32_w]
       rfl
      refine two_ (i:=5) (j:=9) (Ni:=some 34) (Nj:=some 9) #[Y,Y,Y,Y,Y,Y,Z,Z,Z,Z,Z,Z] #[Y,Y,Y,Y,Y,Z,Z,Z,Z,Y,Z,Z] rfl rfl rfl rfl (two_of HT_.out (by kernel_rfl)) (by decide) (by decide) (fun K hK => ?_) (fun K hK => ?_)
      ·
       skip
       refine goes_ Tryz.func7 (by kernel_rfl) rfl #[.agg #[.int .i64 t385,.slice Ao37 t386.length co37],.agg #[.string t389,.string t390],.int .i64 a2] (by rfl) rfl rfl zy ?_
       with_reducible refine (spec_PutField.calls k t385 _ _ t386 t389 t390 a2 t391 t394 t395 _ ?side1 ?side2 A22.out).mono ?_
       (case side1 => repeat (first|exact (Kd.R_reads' HO388.out).2.2|(with_reducible refine Kd.C_alloc ?_ _)|(with_reducible refine Kd.C_drewN ?_ _)|(with_reducible refine Kd.C_drew ?_)))
       (case side2 => exact (Kd.R_reads' HO388.out).2.1)
       rintro e w38 ⟨v392,v396,rfl,ho0,ho1,hb⟩
       refine ⟨_,rfl,?_⟩
       have HO393:=zm0_ (zo1_ ho0 (zn9_ (zl2 HB GE381 GE382)))
       have HO397:=zm0_ (zo1_ (Kd.R_new' ho1 (Kd.R_lt (zr HO388))) (zn9_ (zl2 HB GE381 GE382)))
       replace HO388:=zm0_ (Kd.R_elder' (zr HO388) (Kd.R_base ho1) hb)
       replace BK381:=zm0_ (zm5_ (zb BK381) hb)
       replace BK382:=zm0_ (zm5_ (zb BK382) hb)
       replace HB:=zm0_ (zn8_ (zl2 HB GE381 GE382) hb)
       (try clear hb)
       (try clear hb2)
       (try clear hk)
       (try clear hi)
       (try clear ho0)
       (try clear ho1)
       refine hK.out _ _ ⟨(zm6_ BK381.out 0).trans rfl,(zm6_ BK381.out 1).trans rfl,(zm6_ BK382.out 0).trans rfl,(zm6_ BK382.out 1).trans rfl⟩ (fun hHeld => ?_)
       clear hK K
       refine norm_ (a':=?_) ?_ ?_
       rotate_left
       ·
        show Act.put _ (some 34) _ = _
        simp only [Act.put,lA_,lB_,lC_,i64_w,i32_w]
        rfl
       refine pure_ (i:=6) (N:=some 28) (v:=?_) (a':=?_) #[Y,Y,Y,Y,Y,Y,Y,Z,Z,Z,Z,Z] rfl rfl (any_of HT_.out (by kernel_rfl)) (fun _ _ _ h => h) (Or.inl ⟨by rfl,?_⟩) ?_ ?_
       rotate_left
       ·
        intro w'
        go_simp
        with_reducible rfl
       rotate_left
       ·
        simp only [Act.put,lA_,lB_,lC_,i64_w,i32_w]
        rfl
       refine pure_ (i:=7) (N:=some 35) (v:=?_) (a':=?_) #[Y,Y,Y,Y,Y,Y,Y,Y,Z,Z,Z,Z] rfl rfl (any_of HT_.out (by kernel_rfl)) (fun _ _ _ h => h) (Or.inl ⟨by rfl,?_⟩) ?_ ?_
       rotate_left
       ·
        intro w'
        go_simp
        with_reducible rfl
       rotate_left
       ·
        simp only [Act.put,lA_,lB_,lC_,i64_w,i32_w]
        rfl
       refine pure_ (i:=8) (N:=some 36) (v:=?_) (a':=?_) #[Y,Y,Y,Y,Y,Y,Y,Y,Y,Z,Z,Z] rfl rfl (any_of HT_.out (by kernel_rfl)) (fun _ _ _ h => h) (Or.inl ⟨by rfl,?_⟩) ?_ ?_
       rotate_left
       ·
        intro w'
        go_simp
        with_reducible rfl
       rotate_left
       ·
        simp only [Act.put,lA_,lB_,lC_,i64_w,i32_w]
        rfl
       refine one_ (i:=9) (N:=some 9) #[Y,Y,Y,Y,Y,Y,Y,Y,Y,Y,Z,Z] rfl rfl (one_of HT_.out (by kernel_rfl)) (by decide) (fun K hK => ?_)
       refine box_step ?hg (N:=9) ?hd (cs:=#[.int .i64 0,.slice none 0 0]) (t:=32) ?hr ?_;(case hd => rfl);(case hg => rfl);(case hr => first|(go_simp;done)|(go_simp;rfl))
       intro gb398 hg w39 hbox hb
       replace HO388:=zm0_ (zm8_ (zr HO388) hb)
       replace HO393:=zm0_ (zm8_ (zr HO393) hb)
       replace HO397:=zm0_ (zm8_ (zr HO397) hb)
       have BK398:=zm0_ (hbox)
       have GW398:=zm0_ ((by rw [hg];exact (zn9_ (zl2 HB GE381 GE382)) : w.heap.size ≤ gb398))
       have GE398:=zm0_ ((by rw [hg];exact (zn9_ (zl2 HB GE381 GE382)) : w.heap.size ≤ gb398))
       replace HB:=zm0_ (zn8_ (zl2 HB GE381 GE382) hb)
       have NB381_398:=zm0_ ((by rw [hg];exact Nat.ne_of_lt (zo3_ (g:=gb381) (o:=.cells #[.int .i64 a0_0,.slice A0_1 l0_1.length c0_1] 24 (0,0)) (zb BK381)) : gb381 ≠ gb398))
       have NB398_381:=zm0_ ((by rw [hg];exact Nat.ne_of_gt (zo3_ (g:=gb381) (o:=.cells #[.int .i64 a0_0,.slice A0_1 l0_1.length c0_1] 24 (0,0)) (zb BK381)) : gb398 ≠ gb381))
       replace BK381:=zm0_ (zm5_ (zb BK381) hb)
       have NB382_398:=zm0_ ((by rw [hg];exact Nat.ne_of_lt (zo3_ (g:=gb382) (o:=.cells #[.string a1_0,.string a1_1] 26 (0,0)) (zb BK382)) : gb382 ≠ gb398))
       have NB398_382:=zm0_ ((by rw [hg];exact Nat.ne_of_gt (zo3_ (g:=gb382) (o:=.cells #[.string a1_0,.string a1_1] 26 (0,0)) (zb BK382)) : gb398 ≠ gb382))
       replace BK382:=zm0_ (zm5_ (zb BK382) hb)
       clear hb hbox hg
       refine hK.out _ _ ⟨(zm6_ BK381.out 0).trans rfl,(zm6_ BK381.out 1).trans rfl,(zm6_ BK382.out 0).trans rfl,(zm6_ BK382.out 1).trans rfl⟩ (fun hHeld => ?_)
       clear hK K
       refine norm_ (a':=?_) ?_ ?_
       rotate_left
       ·
        show Act.put _ (some 9) _ = _
        simp only [Act.put,lA_,lB_,lC_,i64_w,i32_w]
        rfl
       exact norm_ (by simp only [putAll,Act.put,lA_,lB_,lC_]) (hCont (.slice Ao37 t386.length co37,v392,v396,gb398) _ ⟨hHeld,(zs (zo2_ HO388.out (fun _ hk => (by first|exact hk.2|(have hq_:=hk;simp only [ne_eq] at hq_ ⊢;simp only [hq_,not_false_eq_true,and_self]))))),(zr HO393),(zs (zo2_ HO397.out (fun _ hk => (by first|exact hk.2|(have hq_:=hk;simp only [ne_eq] at hq_ ⊢;simp only [hq_,not_false_eq_true,and_self]))))),(zb BK381),(zb BK382),(zb BK398),GW398.out,GE398.out,NB381_398.out,NB398_381.out,NB382_398.out,NB398_382.out,(zl3 HB GE381 GE382 GE398)⟩)
      ·
       skip
       refine box_step ?hg (N:=9) ?hd (cs:=#[.int .i64 0,.slice none 0 0]) (t:=32) ?hr ?_;(case hd => rfl);(case hg => rfl);(case hr => first|(go_simp;done)|(go_simp;rfl))
       intro gb398 hg w37 hbox hb
       replace HO388:=zm0_ (zm8_ (zr HO388) hb)
       have BK398:=zm0_ (hbox)
       have GW398:=zm0_ ((by rw [hg];exact (zn9_ (zl2 HB GE381 GE382)) : w.heap.size ≤ gb398))
       have GE398:=zm0_ ((by rw [hg];exact (zn9_ (zl2 HB GE381 GE382)) : w.heap.size ≤ gb398))
       replace HB:=zm0_ (zn8_ (zl2 HB GE381 GE382) hb)
       have NB381_398:=zm0_ ((by rw [hg];exact Nat.ne_of_lt (zo3_ (g:=gb381) (o:=.cells #[.int .i64 a0_0,.slice A0_1 l0_1.length c0_1] 24 (0,0)) (zb BK381)) : gb381 ≠ gb398))
       have NB398_381:=zm0_ ((by rw [hg];exact Nat.ne_of_gt (zo3_ (g:=gb381) (o:=.cells #[.int .i64 a0_0,.slice A0_1 l0_1.length c0_1] 24 (0,0)) (zb BK381)) : gb398 ≠ gb381))
       replace BK381:=zm0_ (zm5_ (zb BK381) hb)
       have NB382_398:=zm0_ ((by rw [hg];exact Nat.ne_of_lt (zo3_ (g:=gb382) (o:=.cells #[.string a1_0,.string a1_1] 26 (0,0)) (zb BK382)) : gb382 ≠ gb398))
       have NB398_382:=zm0_ ((by rw [hg];exact Nat.ne_of_gt (zo3_ (g:=gb382) (o:=.cells #[.string a1_0,.string a1_1] 26 (0,0)) (zb BK382)) : gb398 ≠ gb382))
       replace BK382:=zm0_ (zm5_ (zb BK382) hb)
       clear hb hbox hg
       obtain ⟨Ao38,co38,eo38⟩:=Kd.R_slice HO388.out
       (first|subst eo38|(injection eo38 with f1_ f2_ f3_;have f4_:=f1_.symm;have f5_:=f3_.symm;clear f1_ f2_ f3_;subst f4_;subst f5_))
       refine hK.out _ _ ⟨(zm6_ BK381.out 0).trans rfl,(zm6_ BK381.out 1).trans rfl,(zm6_ BK382.out 0).trans rfl,(zm6_ BK382.out 1).trans rfl⟩ (fun hHeld => ?_)
       clear hK K
       refine norm_ (a':=?_) ?_ ?_
       rotate_left
       ·
        show Act.put _ (some 9) _ = _
        simp only [Act.put,lA_,lB_,lC_,i64_w,i32_w]
        rfl
       refine one_ (i:=5) (N:=some 34) #[Y,Y,Y,Y,Y,Y,Z,Z,Z,Y,Z,Z] rfl rfl (one_of HT_.out (by kernel_rfl)) (by decide) (fun K hK => ?_)
       refine goes_ Tryz.func7 (by kernel_rfl) rfl #[.agg #[.int .i64 t385,.slice Ao38 t386.length co38],.agg #[.string t389,.string t390],.int .i64 a2] (by rfl) rfl rfl zy ?_
       with_reducible refine (spec_PutField.calls k t385 _ _ t386 t389 t390 a2 t391 t394 t395 _ ?side1 ?side2 A22.out).mono ?_
       (case side1 => repeat (first|exact (Kd.R_reads' HO388.out).2.2|(with_reducible refine Kd.C_alloc ?_ _)|(with_reducible refine Kd.C_drewN ?_ _)|(with_reducible refine Kd.C_drew ?_)))
       (case side2 => exact (Kd.R_reads' HO388.out).2.1)
       rintro e w39 ⟨v392,v396,rfl,ho0,ho1,hb⟩
       refine ⟨_,rfl,?_⟩
       have HO393:=zm0_ (zo1_ ho0 (zn9_ (zl3 HB GE381 GE382 GE398)))
       have HO397:=zm0_ (zo1_ (Kd.R_new' ho1 (Kd.R_lt (zr HO388))) (zn9_ (zl3 HB GE381 GE382 GE398)))
       replace HO388:=zm0_ (Kd.R_elder' (zr HO388) (Kd.R_base ho1) hb)
       replace BK381:=zm0_ (zm5_ (zb BK381) hb)
       replace BK382:=zm0_ (zm5_ (zb BK382) hb)
       replace BK398:=zm0_ (zm5_ (zb BK398) hb)
       replace HB:=zm0_ (zn8_ (zl3 HB GE381 GE382 GE398) hb)
       (try clear hb)
       (try clear hb2)
       (try clear hk)
       (try clear hi)
       (try clear ho0)
       (try clear ho1)
       refine hK.out _ _ ⟨(zm6_ BK381.out 0).trans rfl,(zm6_ BK381.out 1).trans rfl,(zm6_ BK382.out 0).trans rfl,(zm6_ BK382.out 1).trans rfl⟩ (fun hHeld => ?_)
       clear hK K
       refine norm_ (a':=?_) ?_ ?_
       rotate_left
       ·
        show Act.put _ (some 34) _ = _
        simp only [Act.put,lA_,lB_,lC_,i64_w,i32_w]
        rfl
       refine pure_ (i:=6) (N:=some 28) (v:=?_) (a':=?_) #[Y,Y,Y,Y,Y,Y,Y,Z,Z,Y,Z,Z] rfl rfl (any_of HT_.out (by kernel_rfl)) (fun _ _ _ h => h) (Or.inl ⟨by rfl,?_⟩) ?_ ?_
       rotate_left
       ·
        intro w'
        go_simp
        with_reducible rfl
       rotate_left
       ·
        simp only [Act.put,lA_,lB_,lC_,i64_w,i32_w]
        rfl
       refine pure_ (i:=7) (N:=some 35) (v:=?_) (a':=?_) #[Y,Y,Y,Y,Y,Y,Y,Y,Z,Y,Z,Z] rfl rfl (any_of HT_.out (by kernel_rfl)) (fun _ _ _ h => h) (Or.inl ⟨by rfl,?_⟩) ?_ ?_
       rotate_left
       ·
        intro w'
        go_simp
        with_reducible rfl
       rotate_left
       ·
        simp only [Act.put,lA_,lB_,lC_,i64_w,i32_w]
        rfl
       refine pure_ (i:=8) (N:=some 36) (v:=?_) (a':=?_) #[Y,Y,Y,Y,Y,Y,Y,Y,Y,Y,Z,Z] rfl rfl (any_of HT_.out (by kernel_rfl)) (fun _ _ _ h => h) (Or.inl ⟨by rfl,?_⟩) ?_ ?_
       rotate_left
       ·
        intro w'
        go_simp
        with_reducible rfl
       rotate_left
       ·
        simp only [Act.put,lA_,lB_,lC_,i64_w,i32_w]
        rfl
       exact norm_ (by simp only [putAll,Act.put,lA_,lB_,lC_]) (hCont (.slice Ao38 t386.length co38,v392,v396,gb398) _ ⟨hHeld,(zs (zo2_ HO388.out (fun _ hk => (by first|exact hk.2|(have hq_:=hk;simp only [ne_eq] at hq_ ⊢;simp only [hq_,not_false_eq_true,and_self]))))),(zr HO393),(zs (zo2_ HO397.out (fun _ hk => (by first|exact hk.2|(have hq_:=hk;simp only [ne_eq] at hq_ ⊢;simp only [hq_,not_false_eq_true,and_self]))))),(zb BK381),(zb BK382),(zb BK398),GW398.out,GE398.out,NB381_398.out,NB398_381.out,NB382_398.out,NB398_382.out,(zl3 HB GE381 GE382 GE398)⟩)
     ·
      skip
      refine box_step ?hg (N:=9) ?hd (cs:=#[.int .i64 0,.slice none 0 0]) (t:=32) ?hr ?_;(case hd => rfl);(case hg => rfl);(case hr => first|(go_simp;done)|(go_simp;rfl))
      intro gb398 hg w36 hbox hb
      replace HO388:=zm0_ (zm8_ (zr HO388) hb)
      have BK398:=zm0_ (hbox)
      have GW398:=zm0_ ((by rw [hg];exact (zn9_ (zl2 HB GE381 GE382)) : w.heap.size ≤ gb398))
      have GE398:=zm0_ ((by rw [hg];exact (zn9_ (zl2 HB GE381 GE382)) : w.heap.size ≤ gb398))
      replace HB:=zm0_ (zn8_ (zl2 HB GE381 GE382) hb)
      have NB381_398:=zm0_ ((by rw [hg];exact Nat.ne_of_lt (zo3_ (g:=gb381) (o:=.cells #[.int .i64 a0_0,.slice A0_1 l0_1.length c0_1] 24 (0,0)) (zb BK381)) : gb381 ≠ gb398))
      have NB398_381:=zm0_ ((by rw [hg];exact Nat.ne_of_gt (zo3_ (g:=gb381) (o:=.cells #[.int .i64 a0_0,.slice A0_1 l0_1.length c0_1] 24 (0,0)) (zb BK381)) : gb398 ≠ gb381))
      replace BK381:=zm0_ (zm5_ (zb BK381) hb)
      have NB382_398:=zm0_ ((by rw [hg];exact Nat.ne_of_lt (zo3_ (g:=gb382) (o:=.cells #[.string a1_0,.string a1_1] 26 (0,0)) (zb BK382)) : gb382 ≠ gb398))
      have NB398_382:=zm0_ ((by rw [hg];exact Nat.ne_of_gt (zo3_ (g:=gb382) (o:=.cells #[.string a1_0,.string a1_1] 26 (0,0)) (zb BK382)) : gb398 ≠ gb382))
      replace BK382:=zm0_ (zm5_ (zb BK382) hb)
      clear hb hbox hg
      refine hK.out _ _ ⟨(zm6_ BK381.out 0).trans rfl,(zm6_ BK381.out 1).trans rfl,(zm6_ BK382.out 0).trans rfl,(zm6_ BK382.out 1).trans rfl⟩ (fun hHeld => ?_)
      clear hK K
      refine norm_ (a':=?_) ?_ ?_
      rotate_left
      ·
       show Act.put _ (some 9) _ = _
       simp only [Act.put,lA_,lB_,lC_,i64_w,i32_w]
       rfl
      refine one_ (i:=3) (N:=some 32) #[Y,Y,Y,Y,Y,Z,Z,Z,Z,Y,Z,Z] rfl rfl (one_of HT_.out (by kernel_rfl)) (by decide) (fun K hK => ?_)
      refine goes_ Tryz.func9 (by kernel_rfl) rfl #[.agg #[.string a1_0,.string a1_1]] (by rfl) rfl rfl zy ?_
      with_reducible refine (laws_toField.calls a1_0 a1_1 t389 t390 _ A21.out).mono ?_
      rintro e w37 ⟨rfl,hb⟩
      refine ⟨_,rfl,?_⟩
      replace HO388:=zm0_ (zm8_ (zr HO388) hb)
      replace BK381:=zm0_ (zm5_ (zb BK381) hb)
      replace BK382:=zm0_ (zm5_ (zb BK382) hb)
      replace BK398:=zm0_ (zm5_ (zb BK398) hb)
      replace HB:=zm0_ (zn8_ (zl3 HB GE381 GE382 GE398) hb)
      (try clear hb)
      (try clear hb2)
      (try clear hk)
      (try clear hi)
      obtain ⟨Ao38,co38,eo38⟩:=Kd.R_slice HO388.out
      (first|subst eo38|(injection eo38 with f1_ f2_ f3_;have f4_:=f1_.symm;have f5_:=f3_.symm;clear f1_ f2_ f3_;subst f4_;subst f5_))
      refine hK.out _ _ ⟨(zm6_ BK381.out 0).trans rfl,(zm6_ BK381.out 1).trans rfl,(zm6_ BK382.out 0).trans rfl,(zm6_ BK382.out 1).trans rfl⟩ (fun hHeld => ?_)
      clear hK K
      refine norm_ (a':=?_) ?_ ?_
      rotate_left
      ·
       show Act.put _ (some 32) _ = _
       simp only [Act.put,lA_,lB_,lC_,i64_w,i32_w]
       rfl
      refine one_ (i:=5) (N:=some 34) #[Y,Y,Y,Y,Y,Y,Z,Z,Z,Y,Z,Z] rfl rfl (one_of HT_.out (by kernel_rfl)) (by decide) (fun K hK => ?_)
      refine goes_ Tryz.func7 (by kernel_rfl) rfl #[.agg #[.int .i64 t385,.slice Ao38 t386.length co38],.agg #[.string t389,.string t390],.int .i64 a2] (by rfl) rfl rfl zy ?_
      with_reducible refine (spec_PutField.calls k t385 _ _ t386 t389 t390 a2 t391 t394 t395 _ ?side1 ?side2 A22.out).mono ?_
      (case side1 => repeat (first|exact (Kd.R_reads' HO388.out).2.2|(with_reducible refine Kd.C_alloc ?_ _)|(with_reducible refine Kd.C_drewN ?_ _)|(with_reducible refine Kd.C_drew ?_)))
      (case side2 => exact (Kd.R_reads' HO388.out).2.1)
      rintro e w39 ⟨v392,v396,rfl,ho0,ho1,hb⟩
      refine ⟨_,rfl,?_⟩
      have HO393:=zm0_ (zo1_ ho0 (zn9_ (zl3 HB GE381 GE382 GE398)))
      have HO397:=zm0_ (zo1_ (Kd.R_new' ho1 (Kd.R_lt (zr HO388))) (zn9_ (zl3 HB GE381 GE382 GE398)))
      replace HO388:=zm0_ (Kd.R_elder' (zr HO388) (Kd.R_base ho1) hb)
      replace BK381:=zm0_ (zm5_ (zb BK381) hb)
      replace BK382:=zm0_ (zm5_ (zb BK382) hb)
      replace BK398:=zm0_ (zm5_ (zb BK398) hb)
      replace HB:=zm0_ (zn8_ (zl3 HB GE381 GE382 GE398) hb)
      (try clear hb)
      (try clear hb2)
      (try clear hk)
      (try clear hi)
      (try clear ho0)
      (try clear ho1)
      refine hK.out _ _ ⟨(zm6_ BK381.out 0).trans rfl,(zm6_ BK381.out 1).trans rfl,(zm6_ BK382.out 0).trans rfl,(zm6_ BK382.out 1).trans rfl⟩ (fun hHeld => ?_)
      clear hK K
      refine norm_ (a':=?_) ?_ ?_
      rotate_left
      ·
       show Act.put _ (some 34) _ = _
       simp only [Act.put,lA_,lB_,lC_,i64_w,i32_w]
       rfl
      refine pure_ (i:=6) (N:=some 28) (v:=?_) (a':=?_) #[Y,Y,Y,Y,Y,Y,Y,Z,Z,Y,Z,Z] rfl rfl (any_of HT_.out (by kernel_rfl)) (fun _ _ _ h => h) (Or.inl ⟨by rfl,?_⟩) ?_ ?_
      rotate_left
      ·
       intro w'
       go_simp
       with_reducible rfl
      rotate_left
      ·
       simp only [Act.put,lA_,lB_,lC_,i64_w,i32_w]
       rfl
      refine pure_ (i:=7) (N:=some 35) (v:=?_) (a':=?_) #[Y,Y,Y,Y,Y,Y,Y,Y,Z,Y,Z,Z] rfl rfl (any_of HT_.out (by kernel_rfl)) (fun _ _ _ h => h) (Or.inl ⟨by rfl,?_⟩) ?_ ?_
      rotate_left
      ·
       intro w'
       go_simp
       with_reducible rfl
      rotate_left
      ·
       simp only [Act.put,lA_,lB_,lC_,i64_w,i32_w]
       rfl
      refine pure_ (i:=8) (N:=some 36) (v:=?_) (a':=?_) #[Y,Y,Y,Y,Y,Y,Y,Y,Y,Y,Z,Z] rfl rfl (any_of HT_.out (by kernel_rfl)) (fun _ _ _ h => h) (Or.inl ⟨by rfl,?_⟩) ?_ ?_
      rotate_left
      ·
       intro w'
       go_simp
       with_reducible rfl
      rotate_left
      ·
       simp only [Act.put,lA_,lB_,lC_,i64_w,i32_w]
       rfl
      exact norm_ (by simp only [putAll,Act.put,lA_,lB_,lC_]) (hCont (.slice Ao38 t386.length co38,v392,v396,gb398) _ ⟨hHeld,(zs (zo2_ HO388.out (fun _ hk => (by first|exact hk.2|(have hq_:=hk;simp only [ne_eq] at hq_ ⊢;simp only [hq_,not_false_eq_true,and_self]))))),(zr HO393),(zs (zo2_ HO397.out (fun _ hk => (by first|exact hk.2|(have hq_:=hk;simp only [ne_eq] at hq_ ⊢;simp only [hq_,not_false_eq_true,and_self]))))),(zb BK381),(zb BK382),(zb BK398),GW398.out,GE398.out,NB381_398.out,NB398_381.out,NB382_398.out,NB398_382.out,(zl3 HB GE381 GE382 GE398)⟩)
    ·
     skip
     refine box_step ?hg (N:=9) ?hd (cs:=#[.int .i64 0,.slice none 0 0]) (t:=32) ?hr ?_;(case hd => rfl);(case hg => rfl);(case hr => first|(go_simp;done)|(go_simp;rfl))
     intro gb398 hg w35 hbox hb
     have BK398:=zm0_ (hbox)
     have GW398:=zm0_ ((by rw [hg];exact (zn9_ (zl2 HB GE381 GE382)) : w.heap.size ≤ gb398))
     have GE398:=zm0_ ((by rw [hg];exact (zn9_ (zl2 HB GE381 GE382)) : w.heap.size ≤ gb398))
     replace HB:=zm0_ (zn8_ (zl2 HB GE381 GE382) hb)
     have NB381_398:=zm0_ ((by rw [hg];exact Nat.ne_of_lt (zo3_ (g:=gb381) (o:=.cells #[.int .i64 a0_0,.slice A0_1 l0_1.length c0_1] 24 (0,0)) (zb BK381)) : gb381 ≠ gb398))
     have NB398_381:=zm0_ ((by rw [hg];exact Nat.ne_of_gt (zo3_ (g:=gb381) (o:=.cells #[.int .i64 a0_0,.slice A0_1 l0_1.length c0_1] 24 (0,0)) (zb BK381)) : gb398 ≠ gb381))
     replace BK381:=zm0_ (zm5_ (zb BK381) hb)
     have NB382_398:=zm0_ ((by rw [hg];exact Nat.ne_of_lt (zo3_ (g:=gb382) (o:=.cells #[.string a1_0,.string a1_1] 26 (0,0)) (zb BK382)) : gb382 ≠ gb398))
     have NB398_382:=zm0_ ((by rw [hg];exact Nat.ne_of_gt (zo3_ (g:=gb382) (o:=.cells #[.string a1_0,.string a1_1] 26 (0,0)) (zb BK382)) : gb398 ≠ gb382))
     replace BK382:=zm0_ (zm5_ (zb BK382) hb)
     clear hb hbox hg
     refine hK.out _ _ ⟨(zm6_ BK381.out 0).trans rfl,(zm6_ BK381.out 1).trans rfl,(zm6_ BK382.out 0).trans rfl,(zm6_ BK382.out 1).trans rfl⟩ (fun hHeld => ?_)
     clear hK K
     refine norm_ (a':=?_) ?_ ?_
     rotate_left
     ·
      show Act.put _ (some 9) _ = _
      simp only [Act.put,lA_,lB_,lC_,i64_w,i32_w]
      rfl
     refine one_ (i:=1) (N:=some 30) #[Y,Y,Y,Z,Y,Z,Z,Z,Z,Y,Z,Z] rfl rfl (one_of HT_.out (by kernel_rfl)) (by decide) (fun K hK => ?_)
     refine goes_ Tryz.func8 (by kernel_rfl) rfl #[.agg #[.int .i64 a0_0,.slice A0_1 l0_1.length c0_1]] (by rfl) rfl rfl zy ?_
     with_reducible refine (laws_toTable.calls k a0_0 _ _ l0_1 t385 t386 _ ?side1 ?side2 A20.out).mono ?_
     (case side1 => repeat (first|exact (Kd.C_below HR0_1.out HB.out)|(with_reducible refine Kd.C_alloc ?_ _)|(with_reducible refine Kd.C_drewN ?_ _)|(with_reducible refine Kd.C_drew ?_)))
     (case side2 => exact HC0_1.out)
     rintro e w36 ⟨v387,rfl,ho0,hb⟩
     refine ⟨_,rfl,?_⟩
     have HO388:=zm0_ (zo1_ ho0 (zn9_ (zl3 HB GE381 GE382 GE398)))
     replace BK381:=zm0_ (zm5_ (zb BK381) hb)
     replace BK382:=zm0_ (zm5_ (zb BK382) hb)
     replace BK398:=zm0_ (zm5_ (zb BK398) hb)
     replace HB:=zm0_ (zn8_ (zl3 HB GE381 GE382 GE398) hb)
     (try clear hb)
     (try clear hb2)
     (try clear hk)
     (try clear hi)
     (try clear ho0)
     refine hK.out _ _ ⟨(zm6_ BK381.out 0).trans rfl,(zm6_ BK381.out 1).trans rfl,(zm6_ BK382.out 0).trans rfl,(zm6_ BK382.out 1).trans rfl⟩ (fun hHeld => ?_)
     clear hK K
     refine norm_ (a':=?_) ?_ ?_
     rotate_left
     ·
      show Act.put _ (some 30) _ = _
      simp only [Act.put,lA_,lB_,lC_,i64_w,i32_w]
      rfl
     refine one_ (i:=3) (N:=some 32) #[Y,Y,Y,Y,Y,Z,Z,Z,Z,Y,Z,Z] rfl rfl (one_of HT_.out (by kernel_rfl)) (by decide) (fun K hK => ?_)
     refine goes_ Tryz.func9 (by kernel_rfl) rfl #[.agg #[.string a1_0,.string a1_1]] (by rfl) rfl rfl zy ?_
     with_reducible refine (laws_toField.calls a1_0 a1_1 t389 t390 _ A21.out).mono ?_
     rintro e w37 ⟨rfl,hb⟩
     refine ⟨_,rfl,?_⟩
     replace HO388:=zm0_ (zm8_ (zr HO388) hb)
     replace BK381:=zm0_ (zm5_ (zb BK381) hb)
     replace BK382:=zm0_ (zm5_ (zb BK382) hb)
     replace BK398:=zm0_ (zm5_ (zb BK398) hb)
     replace HB:=zm0_ (zn8_ (zl3 HB GE381 GE382 GE398) hb)
     (try clear hb)
     (try clear hb2)
     (try clear hk)
     (try clear hi)
     obtain ⟨Ao38,co38,eo38⟩:=Kd.R_slice HO388.out
     (first|subst eo38|(injection eo38 with f1_ f2_ f3_;have f4_:=f1_.symm;have f5_:=f3_.symm;clear f1_ f2_ f3_;subst f4_;subst f5_))
     refine hK.out _ _ ⟨(zm6_ BK381.out 0).trans rfl,(zm6_ BK381.out 1).trans rfl,(zm6_ BK382.out 0).trans rfl,(zm6_ BK382.out 1).trans rfl⟩ (fun hHeld => ?_)
     clear hK K
     refine norm_ (a':=?_) ?_ ?_
     rotate_left
     ·
      show Act.put _ (some 32) _ = _
      simp only [Act.put,lA_,lB_,lC_,i64_w,i32_w]
      rfl
     refine one_ (i:=5) (N:=some 34) #[Y,Y,Y,Y,Y,Y,Z,Z,Z,Y,Z,Z] rfl rfl (one_of HT_.out (by kernel_rfl)) (by decide) (fun K hK => ?_)
     refine goes_ Tryz.func7 (by kernel_rfl) rfl #[.agg #[.int .i64 t385,.slice Ao38 t386.length co38],.agg #[.string t389,.string t390],.int .i64 a2] (by rfl) rfl rfl zy ?_
     with_reducible refine (spec_PutField.calls k t385 _ _ t386 t389 t390 a2 t391 t394 t395 _ ?side1 ?side2 A22.out).mono ?_
     (case side1 => repeat (first|exact (Kd.R_reads' HO388.out).2.2|(with_reducible refine Kd.C_alloc ?_ _)|(with_reducible refine Kd.C_drewN ?_ _)|(with_reducible refine Kd.C_drew ?_)))
     (case side2 => exact (Kd.R_reads' HO388.out).2.1)
     rintro e w39 ⟨v392,v396,rfl,ho0,ho1,hb⟩
     refine ⟨_,rfl,?_⟩
     have HO393:=zm0_ (zo1_ ho0 (zn9_ (zl3 HB GE381 GE382 GE398)))
     have HO397:=zm0_ (zo1_ (Kd.R_new' ho1 (Kd.R_lt (zr HO388))) (zn9_ (zl3 HB GE381 GE382 GE398)))
     replace HO388:=zm0_ (Kd.R_elder' (zr HO388) (Kd.R_base ho1) hb)
     replace BK381:=zm0_ (zm5_ (zb BK381) hb)
     replace BK382:=zm0_ (zm5_ (zb BK382) hb)
     replace BK398:=zm0_ (zm5_ (zb BK398) hb)
     replace HB:=zm0_ (zn8_ (zl3 HB GE381 GE382 GE398) hb)
     (try clear hb)
     (try clear hb2)
     (try clear hk)
     (try clear hi)
     (try clear ho0)
     (try clear ho1)
     refine hK.out _ _ ⟨(zm6_ BK381.out 0).trans rfl,(zm6_ BK381.out 1).trans rfl,(zm6_ BK382.out 0).trans rfl,(zm6_ BK382.out 1).trans rfl⟩ (fun hHeld => ?_)
     clear hK K
     refine norm_ (a':=?_) ?_ ?_
     rotate_left
     ·
      show Act.put _ (some 34) _ = _
      simp only [Act.put,lA_,lB_,lC_,i64_w,i32_w]
      rfl
     refine pure_ (i:=6) (N:=some 28) (v:=?_) (a':=?_) #[Y,Y,Y,Y,Y,Y,Y,Z,Z,Y,Z,Z] rfl rfl (any_of HT_.out (by kernel_rfl)) (fun _ _ _ h => h) (Or.inl ⟨by rfl,?_⟩) ?_ ?_
     rotate_left
     ·
      intro w'
      go_simp
      with_reducible rfl
     rotate_left
     ·
      simp only [Act.put,lA_,lB_,lC_,i64_w,i32_w]
      rfl
     refine pure_ (i:=7) (N:=some 35) (v:=?_) (a':=?_) #[Y,Y,Y,Y,Y,Y,Y,Y,Z,Y,Z,Z] rfl rfl (any_of HT_.out (by kernel_rfl)) (fun _ _ _ h => h) (Or.inl ⟨by rfl,?_⟩) ?_ ?_
     rotate_left
     ·
      intro w'
      go_simp
      with_reducible rfl
     rotate_left
     ·
      simp only [Act.put,lA_,lB_,lC_,i64_w,i32_w]
      rfl
     refine pure_ (i:=8) (N:=some 36) (v:=?_) (a':=?_) #[Y,Y,Y,Y,Y,Y,Y,Y,Y,Y,Z,Z] rfl rfl (any_of HT_.out (by kernel_rfl)) (fun _ _ _ h => h) (Or.inl ⟨by rfl,?_⟩) ?_ ?_
     rotate_left
     ·
      intro w'
      go_simp
      with_reducible rfl
     rotate_left
     ·
      simp only [Act.put,lA_,lB_,lC_,i64_w,i32_w]
      rfl
     exact norm_ (by simp only [putAll,Act.put,lA_,lB_,lC_]) (hCont (.slice Ao38 t386.length co38,v392,v396,gb398) _ ⟨hHeld,(zs (zo2_ HO388.out (fun _ hk => (by first|exact hk.2|(have hq_:=hk;simp only [ne_eq] at hq_ ⊢;simp only [hq_,not_false_eq_true,and_self]))))),(zr HO393),(zs (zo2_ HO397.out (fun _ hk => (by first|exact hk.2|(have hq_:=hk;simp only [ne_eq] at hq_ ⊢;simp only [hq_,not_false_eq_true,and_self]))))),(zb BK381),(zb BK382),(zb BK398),GW398.out,GE398.out,NB381_398.out,NB398_381.out,NB382_398.out,NB398_382.out,(zl3 HB GE381 GE382 GE398)⟩)
   rintro ⟨v387,v392,v396,gb398⟩ w40 ⟨hS_,h0_,h1_,h2_,h3_,h4_,h5_,h6_,h7_,h8_,h9_,h10_,h11_,h12_⟩
   have n0_ : Aside0 (Kd.R k36 36 w40 w.heap.size (fun k_ => some k_ ≠ (v396 : Value).ownBlock) v387 t386):=⟨h0_⟩
   have n1_ : Aside0 (Kd.R (Kd.int .u8) 5 w40 w.heap.size (fun _ => True) v392 t391):=⟨h1_⟩
   have n2_ : Aside0 (Kd.R k36 36 w40 w.heap.size (fun k_ => some k_ ≠ (v387 : Value).ownBlock) v396 t395):=⟨h2_⟩
   have n3_ : Aside0 (w40.heap[gb381]? = some (.cells #[.int .i64 a0_0,.slice A0_1 l0_1.length c0_1] 24 (0,0))):=⟨h3_⟩
   have n4_ : Aside0 (w40.heap[gb382]? = some (.cells #[.string a1_0,.string a1_1] 26 (0,0))):=⟨h4_⟩
   have n5_ : Aside0 (w40.heap[gb398]? = some (.cells #[.int .i64 0,.slice none 0 0] 32 (0,0))):=⟨h5_⟩
   have n6_ : Aside0 (w.heap.size ≤ gb398):=⟨h6_⟩
   have n7_ : Aside0 (w.heap.size ≤ gb398):=⟨h7_⟩
   have n8_ : Aside0 (gb381 ≠ gb398):=⟨h8_⟩
   have n9_ : Aside0 (gb398 ≠ gb381):=⟨h9_⟩
   have n10_ : Aside0 (gb382 ≠ gb398):=⟨h10_⟩
   have n11_ : Aside0 (gb398 ≠ gb382):=⟨h11_⟩
   have n12_ : Aside0 (Below w.heap.size w w40):=⟨h12_⟩
   clear BK381 BK382 HB h0_ h1_ h2_ h3_ h4_ h5_ h6_ h7_ h8_ h9_ h10_ h11_ h12_
   have HO388:=n0_
   have HO393:=n1_
   have HO397:=n2_
   have BK381:=n3_
   have BK382:=n4_
   have BK398:=n5_
   have GW398:=n6_
   have GE398:=n7_
   have NB381_398:=n8_
   have NB398_381:=n9_
   have NB382_398:=n10_
   have NB398_382:=n11_
   have HB:=n12_
   clear n0_ n1_ n2_ n3_ n4_ n5_ n6_ n7_ n8_ n9_ n10_ n11_ n12_
   have hHeld : w40.cell? ⟨gb381,0,none⟩ = some (.int .i64 a0_0) ∧ w40.cell? ⟨gb381,1,none⟩ = some (.slice A0_1 l0_1.length c0_1) ∧ w40.cell? ⟨gb382,0,none⟩ = some (.string a1_0) ∧ w40.cell? ⟨gb382,1,none⟩ = some (.string a1_1):=hS_
   obtain ⟨Ao42,co42,eo42⟩:=Kd.R_slice HO397.out
   (first|subst eo42|(injection eo42 with f1_ f2_ f3_;have f4_:=f1_.symm;have f5_:=f3_.symm;clear f1_ f2_ f3_;subst f4_;subst f5_))
   refine norm_ (a':=?_) ?_ ?_
   rotate_left
   ·
    simp only [putAll,Act.put,lA_,lB_,lC_]
    rfl
   refine pure_ (i:=10) (N:=some 8) (v:=?_) (a':=?_) #[Y,Y,Y,Y,Y,Y,Y,Y,Y,Y,Y,Z] rfl rfl (any_of HT_.out (by kernel_rfl)) (fun _ _ _ h => h) (Or.inl ⟨by rfl,?_⟩) ?_ ?_
   rotate_left
   ·
    intro w'
    go_simp
    with_reducible rfl
   rotate_left
   ·
    simp only [Act.put,lA_,lB_,lC_,i64_w,i32_w]
    rfl
   refine one_ (i:=11) (N:=none) #[Y,Y,Y,Y,Y,Y,Y,Y,Y,Y,Y,Y] rfl rfl (one_of HT_.out (by kernel_rfl)) (by decide) (fun K hK => ?_)
   have hs41 : w40.cell? ⟨gb398,0,none⟩ = some (.int .i64 0):=(zm6_ BK398.out 0).trans rfl
   have hfs41:=zm7_ BK398.out 0
   have hns41_0:=NB381_398.out
   have hns41_1:=NB382_398.out
   have hms41_0:=NB398_381.out
   have hms41_1:=NB398_382.out
   have hs43 : w40.cell? ⟨gb398,1,none⟩ = some (.slice none 0 0):=(zm6_ BK398.out 1).trans rfl
   have hfs43:=zm7_ BK398.out 1
   have hns43_0:=NB381_398.out
   have hns43_1:=NB382_398.out
   have hms43_0:=NB398_381.out
   have hms43_1:=NB398_382.out
   refine skip_ (w1:=?_) (by rfl) rfl ?_ ?_
   rotate_left
   ·
    go_simp
    rfl
   refine hK.out _ _ ⟨((cell_far (p:=⟨gb398,_,none⟩) NB381_398.out _).trans (((cell_far (p:=⟨gb398,_,none⟩) NB381_398.out _).trans (hHeld.1)))),((cell_far (p:=⟨gb398,_,none⟩) NB381_398.out _).trans (((cell_far (p:=⟨gb398,_,none⟩) NB381_398.out _).trans (hHeld.2.1)))),((cell_far (p:=⟨gb398,_,none⟩) NB382_398.out _).trans (((cell_far (p:=⟨gb398,_,none⟩) NB382_398.out _).trans (hHeld.2.2.1)))),((cell_far (p:=⟨gb398,_,none⟩) NB382_398.out _).trans (((cell_far (p:=⟨gb398,_,none⟩) NB382_398.out _).trans (hHeld.2.2.2))))⟩ (fun hHeld => ?_)
   clear hK K
   refine done_ (done_of HT_.out (by kernel_rfl)) ?_
   have hnb44:=NB381_398.out
   have hnc44:=NB398_381.out
   have hcz45_0 : w40.cell? ⟨gb381,0,none⟩ = some (.int .i64 a0_0):=(zm6_ BK381.out 0).trans rfl
   have hcz45_1 : w40.cell? ⟨gb381,1,none⟩ = some (.slice A0_1 l0_1.length c0_1):=(zm6_ BK381.out 1).trans rfl
   have hfz45_0:=zm7_ BK381.out 0
   have hfz45_1:=zm7_ BK381.out 1
   try go_wp2_with (first|((with_reducible refine gate_callee (f:=8) rfl ?_);refine goesL_ (some 38) rfl rfl Tryz.func8 (by kernel_rfl) rfl #[.agg #[.int .i64 a0_0,.slice A0_1 l0_1.length c0_1]] rfl zy ?_;(with_reducible refine (laws_toTable.calls k a0_0 _ _ l0_1 t399 t400 _ ?side1 ?side2 A23.out).mono ?_);(case side1 => exact Kd.C_below HR0_1.out (zl3 HB GE381 GE382 GE398));(case side2 => exact HC0_1.out);rintro e w46 ⟨v401,rfl,ho0,hb⟩;refine ⟨_,rfl,?_⟩;replace HO393:=zm0_ (zm8_ (zs (zo2_ (k4_ (p:=⟨gb398,1,none⟩) (k4_ (p:=⟨gb398,0,none⟩) (Kd.R_types HO393.out BK398.out (by decide)) (fun _ hk => hk.2) (.int .i64 t394)) (fun _ hk => hk.2) (.slice Ao42 t395.length co42)) (fun _ h_ => h_.1))) hb);have HO402:=zm0_ (zo1_ (Kd.R_new' (Kd.R_new' ho0 (Kd.R_lt (zs (zo2_ (k4_ (p:=⟨gb398,1,none⟩) (k4_ (p:=⟨gb398,0,none⟩) (Kd.R_types HO388.out BK398.out (by decide)) (fun _ hk => hk.2) (.int .i64 t394)) (fun _ hk => hk.2) (.slice Ao42 t395.length co42)) (fun _ h_ => h_.1))))) (Kd.R_lt (zs (zo2_ (k4_ (p:=⟨gb398,1,none⟩) (k4_ (p:=⟨gb398,0,none⟩) (Kd.R_types HO397.out BK398.out (by decide)) (fun _ hk => hk.2) (.int .i64 t394)) (fun _ hk => hk.2) (.slice Ao42 t395.length co42)) (fun _ h_ => h_.1))))) (zn9_ (zl3 HB GE381 GE382 GE398)));replace HO388:=zm0_ (Kd.R_elder' (zs (zo2_ (k4_ (p:=⟨gb398,1,none⟩) (k4_ (p:=⟨gb398,0,none⟩) (Kd.R_types HO388.out BK398.out (by decide)) (fun _ hk => hk.2) (.int .i64 t394)) (fun _ hk => hk.2) (.slice Ao42 t395.length co42)) (fun _ h_ => h_.1))) (Kd.R_base ho0) hb);replace HO397:=zm0_ (Kd.R_elder' (zs (zo2_ (k4_ (p:=⟨gb398,1,none⟩) (k4_ (p:=⟨gb398,0,none⟩) (Kd.R_types HO397.out BK398.out (by decide)) (fun _ hk => hk.2) (.int .i64 t394)) (fun _ hk => hk.2) (.slice Ao42 t395.length co42)) (fun _ h_ => h_.1))) (Kd.R_base ho0) hb);replace BK381:=zm0_ (zm5_ (g:=gb381) (o:=.cells #[.int .i64 a0_0,.slice A0_1 l0_1.length c0_1] 24 (0,0)) (by (with_reducible repeat (first|refine k6_ ?_ _|refine k7_ ?_|refine k5_ ?_ _));refine blk_far ?_ NB381_398.out _;(with_reducible repeat (first|refine k6_ ?_ _|refine k7_ ?_|refine k5_ ?_ _));refine blk_far ?_ NB381_398.out _;(with_reducible repeat (first|refine k6_ ?_ _|refine k7_ ?_|refine k5_ ?_ _));exact BK381.out) hb);replace BK382:=zm0_ (zm5_ (g:=gb382) (o:=.cells #[.string a1_0,.string a1_1] 26 (0,0)) (by (with_reducible repeat (first|refine k6_ ?_ _|refine k7_ ?_|refine k5_ ?_ _));refine blk_far ?_ NB382_398.out _;(with_reducible repeat (first|refine k6_ ?_ _|refine k7_ ?_|refine k5_ ?_ _));refine blk_far ?_ NB382_398.out _;(with_reducible repeat (first|refine k6_ ?_ _|refine k7_ ?_|refine k5_ ?_ _));exact BK382.out) hb);replace BK398:=zm0_ (zm5_ (g:=gb398) (o:=.cells #[.int .i64 t394,.slice Ao42 t395.length co42] 32 (0,0)) (by (with_reducible repeat (first|refine k6_ ?_ _|refine k7_ ?_|refine k5_ ?_ _));refine blk_put (cs:=#[.int .i64 t394,.slice none 0 0]) ?_ 1 _ rfl;(with_reducible repeat (first|refine k6_ ?_ _|refine k7_ ?_|refine k5_ ?_ _));refine blk_put (cs:=#[.int .i64 0,.slice none 0 0]) ?_ 0 _ rfl;(with_reducible repeat (first|refine k6_ ?_ _|refine k7_ ?_|refine k5_ ?_ _));exact BK398.out) hb);replace HB:=zm0_ (zn8_ (zl3 HB GE381 GE382 GE398) hb);(try clear hb);(try clear hb2);(try clear hk);(try clear hi);(try clear ho0))|((with_reducible refine gate_dst (N:=10) rfl ?_);refine box_event ?hg (N:=10) ?hd (cs:=#[.int .i64 0,.slice none 0 0]) (t:=32) ?hr ?_;(case hd => rfl);(case hg => rfl);(case hr => first|(go_simp;done)|(go_simp;rfl));intro gb403 hg w47 hbox hb;replace HO388:=zm0_ (zm8_ (zr HO388) hb);replace HO393:=zm0_ (zm8_ (zr HO393) hb);replace HO397:=zm0_ (zm8_ (zr HO397) hb);replace HO402:=zm0_ (zm8_ (zr HO402) hb);have BK403:=zm0_ (hbox);have GW403:=zm0_ ((by rw [hg];exact (zn9_ (zl3 HB GE381 GE382 GE398)) : w.heap.size ≤ gb403));have GE403:=zm0_ ((by rw [hg];exact (zn9_ (zl3 HB GE381 GE382 GE398)) : w.heap.size ≤ gb403));replace HB:=zm0_ (zn8_ (zl3 HB GE381 GE382 GE398) hb);have NB381_403:=zm0_ ((by rw [hg];exact Nat.ne_of_lt (zo3_ (g:=gb381) (o:=.cells #[.int .i64 a0_0,.slice A0_1 l0_1.length c0_1] 24 (0,0)) (zb BK381)) : gb381 ≠ gb403));have NB403_381:=zm0_ ((by rw [hg];exact Nat.ne_of_gt (zo3_ (g:=gb381) (o:=.cells #[.int .i64 a0_0,.slice A0_1 l0_1.length c0_1] 24 (0,0)) (zb BK381)) : gb403 ≠ gb381));replace BK381:=zm0_ (zm5_ (zb BK381) hb);have NB382_403:=zm0_ ((by rw [hg];exact Nat.ne_of_lt (zo3_ (g:=gb382) (o:=.cells #[.string a1_0,.string a1_1] 26 (0,0)) (zb BK382)) : gb382 ≠ gb403));have NB403_382:=zm0_ ((by rw [hg];exact Nat.ne_of_gt (zo3_ (g:=gb382) (o:=.cells #[.string a1_0,.string a1_1] 26 (0,0)) (zb BK382)) : gb403 ≠ gb382));replace BK382:=zm0_ (zm5_ (zb BK382) hb);have NB398_403:=zm0_ ((by rw [hg];exact Nat.ne_of_lt (zo3_ (g:=gb398) (o:=.cells #[.int .i64 t394,.slice Ao42 t395.length co42] 32 (0,0)) (zb BK398)) : gb398 ≠ gb403));have NB403_398:=zm0_ ((by rw [hg];exact Nat.ne_of_gt (zo3_ (g:=gb398) (o:=.cells #[.int .i64 t394,.slice Ao42 t395.length co42] 32 (0,0)) (zb BK398)) : gb403 ≠ gb398));replace BK398:=zm0_ (zm5_ (zb BK398) hb);clear hb hbox hg;have hnb48:=NB403_381.out;have hnc48:=NB381_403.out;have hnb49:=NB403_382.out;have hnc49:=NB382_403.out;have hnb50:=NB403_398.out;have hnc50:=NB398_403.out;have hcz51_0 : w47.cell? ⟨gb403,0,none⟩ = some (.int .i64 0):=(zm6_ BK403.out 0).trans rfl;have hcz51_1 : w47.cell? ⟨gb403,1,none⟩ = some (.slice none 0 0):=(zm6_ BK403.out 1).trans rfl;have hfz51_0:=zm7_ BK403.out 0;have hfz51_1:=zm7_ BK403.out 1;obtain ⟨Ao52,co52,eo52⟩:=Kd.R_slice HO402.out;subst eo52))
   have n0_ : Aside0 (Kd.R k36 36 ((w47.setCell ⟨gb403,0,none⟩ (.int .i64 t399)).setCell ⟨gb403,1,none⟩ (.slice Ao52 t400.length co52)) w.heap.size (fun k_ => some k_ ≠ (.slice Ao42 t395.length co42 : Value).ownBlock ∧ some k_ ≠ (.slice Ao52 t400.length co52 : Value).ownBlock) v387 t386):=⟨by (with_reducible repeat (first|apply k1_|apply k2_|apply k3_));exact zo2_ (k4_ (p:=⟨gb403,1,none⟩) (k4_ (p:=⟨gb403,0,none⟩) (Kd.R_types HO388.out BK403.out (by decide)) (fun _ hk => hk.2) (.int .i64 t399)) (fun _ hk => hk.2) (.slice Ao52 t400.length co52)) (fun _ hk => ⟨(by first|exact hk.1.1|(have hq_:=hk;simp only [ne_eq] at hq_ ⊢;simp only [hq_,not_false_eq_true,and_self])),(by first|exact hk.1.2|(have hq_:=hk;simp only [ne_eq] at hq_ ⊢;simp only [hq_,not_false_eq_true,and_self]))⟩)⟩
   have n1_ : Aside0 (Kd.R (Kd.int .u8) 5 ((w47.setCell ⟨gb403,0,none⟩ (.int .i64 t399)).setCell ⟨gb403,1,none⟩ (.slice Ao52 t400.length co52)) w.heap.size (fun _ => True) v392 t391):=⟨by (with_reducible repeat (first|apply k1_|apply k2_|apply k3_));exact zo2_ (k4_ (p:=⟨gb403,1,none⟩) (k4_ (p:=⟨gb403,0,none⟩) (Kd.R_types HO393.out BK403.out (by decide)) (fun _ hk => hk.2) (.int .i64 t399)) (fun _ hk => hk.2) (.slice Ao52 t400.length co52)) (fun _ hk => trivial)⟩
   have n2_ : Aside0 (Kd.R k36 36 ((w47.setCell ⟨gb403,0,none⟩ (.int .i64 t399)).setCell ⟨gb403,1,none⟩ (.slice Ao52 t400.length co52)) w.heap.size (fun k_ => some k_ ≠ (v387 : Value).ownBlock ∧ some k_ ≠ (.slice Ao52 t400.length co52 : Value).ownBlock) (.slice Ao42 t395.length co42) t395):=⟨by (with_reducible repeat (first|apply k1_|apply k2_|apply k3_));exact zo2_ (k4_ (p:=⟨gb403,1,none⟩) (k4_ (p:=⟨gb403,0,none⟩) (Kd.R_types HO397.out BK403.out (by decide)) (fun _ hk => hk.2) (.int .i64 t399)) (fun _ hk => hk.2) (.slice Ao52 t400.length co52)) (fun _ hk => ⟨(by first|exact hk.1.1|(have hq_:=hk;simp only [ne_eq] at hq_ ⊢;simp only [hq_,not_false_eq_true,and_self])),(by first|exact hk.1.2|(have hq_:=hk;simp only [ne_eq] at hq_ ⊢;simp only [hq_,not_false_eq_true,and_self]))⟩)⟩
   have n3_ : Aside0 (Kd.R k36 36 ((w47.setCell ⟨gb403,0,none⟩ (.int .i64 t399)).setCell ⟨gb403,1,none⟩ (.slice Ao52 t400.length co52)) w.heap.size (fun k_ => some k_ ≠ (v387 : Value).ownBlock ∧ some k_ ≠ (.slice Ao42 t395.length co42 : Value).ownBlock) (.slice Ao52 t400.length co52) t400):=⟨by (with_reducible repeat (first|apply k1_|apply k2_|apply k3_));exact zo2_ (k4_ (p:=⟨gb403,1,none⟩) (k4_ (p:=⟨gb403,0,none⟩) (Kd.R_types HO402.out BK403.out (by decide)) (fun _ hk => hk.2) (.int .i64 t399)) (fun _ hk => hk.2) (.slice Ao52 t400.length co52)) (fun _ hk => ⟨(by first|exact hk.1.1.2|(have hq_:=hk;simp only [ne_eq] at hq_ ⊢;simp only [hq_,not_false_eq_true,and_self])),(by first|exact hk.1.2|(have hq_:=hk;simp only [ne_eq] at hq_ ⊢;simp only [hq_,not_false_eq_true,and_self]))⟩)⟩
   have n4_ : Aside0 (((w47.setCell ⟨gb403,0,none⟩ (.int .i64 t399)).setCell ⟨gb403,1,none⟩ (.slice Ao52 t400.length co52)).heap[gb381]? = some (.cells #[.int .i64 a0_0,.slice A0_1 l0_1.length c0_1] 24 (0,0))):=⟨by (with_reducible repeat (first|refine k6_ ?_ _|refine k7_ ?_|refine k5_ ?_ _));refine blk_far ?_ NB381_403.out _;(with_reducible repeat (first|refine k6_ ?_ _|refine k7_ ?_|refine k5_ ?_ _));refine blk_far ?_ NB381_403.out _;(with_reducible repeat (first|refine k6_ ?_ _|refine k7_ ?_|refine k5_ ?_ _));exact BK381.out⟩
   have n5_ : Aside0 (((w47.setCell ⟨gb403,0,none⟩ (.int .i64 t399)).setCell ⟨gb403,1,none⟩ (.slice Ao52 t400.length co52)).heap[gb382]? = some (.cells #[.string a1_0,.string a1_1] 26 (0,0))):=⟨by (with_reducible repeat (first|refine k6_ ?_ _|refine k7_ ?_|refine k5_ ?_ _));refine blk_far ?_ NB382_403.out _;(with_reducible repeat (first|refine k6_ ?_ _|refine k7_ ?_|refine k5_ ?_ _));refine blk_far ?_ NB382_403.out _;(with_reducible repeat (first|refine k6_ ?_ _|refine k7_ ?_|refine k5_ ?_ _));exact BK382.out⟩
   have n6_ : Aside0 (((w47.setCell ⟨gb403,0,none⟩ (.int .i64 t399)).setCell ⟨gb403,1,none⟩ (.slice Ao52 t400.length co52)).heap[gb398]? = some (.cells #[.int .i64 t394,.slice Ao42 t395.length co42] 32 (0,0))):=⟨by (with_reducible repeat (first|refine k6_ ?_ _|refine k7_ ?_|refine k5_ ?_ _));refine blk_far ?_ NB398_403.out _;(with_reducible repeat (first|refine k6_ ?_ _|refine k7_ ?_|refine k5_ ?_ _));refine blk_far ?_ NB398_403.out _;(with_reducible repeat (first|refine k6_ ?_ _|refine k7_ ?_|refine k5_ ?_ _));exact BK398.out⟩
   have n7_ : Aside0 (((w47.setCell ⟨gb403,0,none⟩ (.int .i64 t399)).setCell ⟨gb403,1,none⟩ (.slice Ao52 t400.length co52)).heap[gb403]? = some (.cells #[.int .i64 t399,.slice Ao52 t400.length co52] 32 (0,0))):=⟨by (with_reducible repeat (first|refine k6_ ?_ _|refine k7_ ?_|refine k5_ ?_ _));refine blk_put (cs:=#[.int .i64 t399,.slice none 0 0]) ?_ 1 _ rfl;(with_reducible repeat (first|refine k6_ ?_ _|refine k7_ ?_|refine k5_ ?_ _));refine blk_put (cs:=#[.int .i64 0,.slice none 0 0]) ?_ 0 _ rfl;(with_reducible repeat (first|refine k6_ ?_ _|refine k7_ ?_|refine k5_ ?_ _));exact BK403.out⟩
   have n8_ : Aside0 (Below w.heap.size w ((w47.setCell ⟨gb403,0,none⟩ (.int .i64 t399)).setCell ⟨gb403,1,none⟩ (.slice Ao52 t400.length co52))):=⟨zl4 HB GE381 GE382 GE398 GE403⟩
   (try clear HO388)
   (try clear HO393)
   (try clear HO397)
   (try clear HO402)
   (try clear BK381)
   (try clear BK382)
   (try clear BK398)
   (try clear BK403)
   (try clear HB)
   generalize ((w47.setCell ⟨gb403,0,none⟩ (.int .i64 t399)).setCell ⟨gb403,1,none⟩ (.slice Ao52 t400.length co52)) = w53 at n0_ n1_ n2_ n3_ n4_ n5_ n6_ n7_ n8_ ⊢
   have HO388:=n0_
   have HO393:=n1_
   have HO397:=n2_
   have HO402:=n3_
   have BK381:=n4_
   have BK382:=n5_
   have BK398:=n6_
   have BK403:=n7_
   have HB:=n8_
   clear n0_ n1_ n2_ n3_ n4_ n5_ n6_ n7_ n8_
   replace HO388:=zm0_ (k3_ HO388.out)
   replace HO393:=zm0_ (k3_ HO393.out)
   replace HO397:=zm0_ (k3_ HO397.out)
   replace HO402:=zm0_ (k3_ HO402.out)
   replace BK381:=zm0_ (k7_ BK381.out)
   replace BK382:=zm0_ (k7_ BK382.out)
   replace BK398:=zm0_ (k7_ BK398.out)
   replace BK403:=zm0_ (k7_ BK403.out)
   replace HB:=zm0_ (zm4_ HB.out)
   refine start_ (n:=11) (S:=fun w' => w'.cell? ⟨gb403,0,none⟩ = some (.int .i64 t399) ∧ w'.cell? ⟨gb403,1,none⟩ = some (.slice Ao52 t400.length co52) ∧ w'.cell? ⟨gb382,0,none⟩ = some (.string a1_0) ∧ w'.cell? ⟨gb382,1,none⟩ = some (.string a1_1)) (ds:=[]) #[Z,Z,Z,Z,Z,Z,Z,Z,Z,Z,Z] (by kernel_rfl) rfl rfl ⟨(zm6_ BK403.out 0).trans rfl,(zm6_ BK403.out 1).trans rfl,(zm6_ BK382.out 0).trans rfl,(zm6_ BK382.out 1).trans rfl⟩ (fun hHeld => ?_);refine with_tabW laws_FnExactPutField.tab10 laws_FnExactPutField.bits10 (fun HT_ HW_ => ?_)
   generalize w53.drew = w54 at HO388 HO393 HO397 HO402 BK381 BK382 BK398 BK403 HB hHeld ⊢
   refine pure_ (i:=3) (N:=some 43) (v:=?_) (a':=?_) #[Z,Z,Z,Y,Z,Z,Z,Z,Z,Z,Z] rfl rfl (any_of HT_.out (by kernel_rfl)) (fun _ _ _ h => h) (Or.inl ⟨by rfl,?_⟩) ?_ ?_
   rotate_left
   ·
    intro w'
    go_simp
    with_reducible rfl
   rotate_left
   ·
    simp only [Act.put,lA_,lB_,lC_,i64_w,i32_w]
    rfl
   refine take_ (i:=0) (N:=some 40) (v:=?_) (a':=?_) #[Y,Z,Z,Y,Z,Z,Z,Z,Z,Z,Z] rfl rfl (take_ofW HT_.out HW_.out (by kernel_rfl)) (fun _ _ _ h => h) (Or.inl ⟨by rfl,?_⟩) hHeld ?_ ?_
   rotate_left
   ·
    rintro w' ⟨s0,s1,s2,s3⟩
    go_simp
    with_reducible rfl
   rotate_left
   ·
    simp only [Act.put,lA_,lB_,lC_,i64_w,i32_w]
    rfl
   refine take_ (i:=1) (N:=some 41) (v:=?_) (a':=?_) #[Y,Y,Z,Y,Z,Z,Z,Z,Z,Z,Z] rfl rfl (take_ofW HT_.out HW_.out (by kernel_rfl)) (fun _ _ _ h => h) (Or.inl ⟨by rfl,?_⟩) hHeld ?_ ?_
   rotate_left
   ·
    rintro w' ⟨s0,s1,s2,s3⟩
    go_simp
    with_reducible rfl
   rotate_left
   ·
    simp only [Act.put,lA_,lB_,lC_,i64_w,i32_w]
    rfl
   refine join_ (σ:=Value × Value × Nat) 2 #[Y,Y,Y,Y,Y,Y,Y,Y,Y,Z,Z] (fun s_ => [(42,.agg #[.string t404,.string t405]),(44,.tuple #[s_.1,.agg #[.int .i64 t409,s_.2.1]]),(12,.pointer (some ⟨s_.2.2,0,none⟩)),(39,.tuple #[s_.1,.agg #[.int .i64 t409,s_.2.1]]),(45,s_.1),(46,.agg #[.int .i64 t409,s_.2.1])]) (fun s_ w' => (w'.cell? ⟨gb403,0,none⟩ = some (.int .i64 t399) ∧ w'.cell? ⟨gb403,1,none⟩ = some (.slice Ao52 t400.length co52) ∧ w'.cell? ⟨gb382,0,none⟩ = some (.string a1_0) ∧ w'.cell? ⟨gb382,1,none⟩ = some (.string a1_1)) ∧ (Kd.R k36 36 w' w.heap.size (fun k_ => some k_ ≠ (.slice Ao42 t395.length co42 : Value).ownBlock ∧ some k_ ≠ (.slice Ao52 t400.length co52 : Value).ownBlock ∧ some k_ ≠ (s_.2.1 : Value).ownBlock) v387 t386) ∧ (Kd.R (Kd.int .u8) 5 w' w.heap.size (fun k_ => some k_ ≠ (s_.1 : Value).ownBlock) v392 t391) ∧ (Kd.R k36 36 w' w.heap.size (fun k_ => some k_ ≠ (v387 : Value).ownBlock ∧ some k_ ≠ (.slice Ao52 t400.length co52 : Value).ownBlock ∧ some k_ ≠ (s_.2.1 : Value).ownBlock) (.slice Ao42 t395.length co42) t395) ∧ (Kd.R k36 36 w' w.heap.size (fun k_ => some k_ ≠ (v387 : Value).ownBlock ∧ some k_ ≠ (.slice Ao42 t395.length co42 : Value).ownBlock ∧ some k_ ≠ (s_.2.1 : Value).ownBlock) (.slice Ao52 t400.length co52) t400) ∧ (Kd.R (Kd.int .u8) 5 w' w.heap.size (fun k_ => some k_ ≠ (v392 : Value).ownBlock) s_.1 t406) ∧ (Kd.R k36 36 w' w.heap.size (fun k_ => some k_ ≠ (v387 : Value).ownBlock ∧ some k_ ≠ (.slice Ao42 t395.length co42 : Value).ownBlock ∧ some k_ ≠ (.slice Ao52 t400.length co52 : Value).ownBlock) s_.2.1 t410) ∧ (w'.heap[gb381]? = some (.cells #[.int .i64 a0_0,.slice A0_1 l0_1.length c0_1] 24 (0,0))) ∧ (w'.heap[gb382]? = some (.cells #[.string a1_0,.string a1_1] 26 (0,0))) ∧ (w'.heap[gb398]? = some (.cells #[.int .i64 t394,.slice Ao42 t395.length co42] 32 (0,0))) ∧ (w'.heap[gb403]? = some (.cells #[.int .i64 t399,.slice Ao52 t400.length co52] 32 (0,0))) ∧ (w'.heap[s_.2.2]? = some (.cells #[.int .i64 0,.slice none 0 0] 32 (0,0))) ∧ (w.heap.size ≤ s_.2.2) ∧ (w.heap.size ≤ s_.2.2) ∧ (gb381 ≠ s_.2.2) ∧ (s_.2.2 ≠ gb381) ∧ (gb382 ≠ s_.2.2) ∧ (s_.2.2 ≠ gb382) ∧ (gb398 ≠ s_.2.2) ∧ (s_.2.2 ≠ gb398) ∧ (gb403 ≠ s_.2.2) ∧ (s_.2.2 ≠ gb403) ∧ (Below w.heap.size w w')) ?_ ?_
   rotate_left
   ·
    intro hCont
    refine two_ (i:=2) (j:=8) (Ni:=some 42) (Nj:=some 12) #[Y,Y,Y,Y,Z,Z,Z,Z,Z,Z,Z] #[Y,Y,Z,Y,Z,Z,Z,Z,Y,Z,Z] rfl rfl rfl rfl (two_of HT_.out (by kernel_rfl)) (by decide) (by decide) (fun K hK => ?_) (fun K hK => ?_)
    ·
     skip
     refine goes_ Tryz.func9 (by kernel_rfl) rfl #[.agg #[.string a1_0,.string a1_1]] (by rfl) rfl rfl zy ?_
     with_reducible refine (laws_toField.calls a1_0 a1_1 t404 t405 _ A24.out).mono ?_
     rintro e w55 ⟨rfl,hb⟩
     refine ⟨_,rfl,?_⟩
     replace HO388:=zm0_ (zm8_ (zr HO388) hb)
     replace HO393:=zm0_ (zm8_ (zr HO393) hb)
     replace HO397:=zm0_ (zm8_ (zr HO397) hb)
     replace HO402:=zm0_ (zm8_ (zr HO402) hb)
     replace BK381:=zm0_ (zm5_ (zb BK381) hb)
     replace BK382:=zm0_ (zm5_ (zb BK382) hb)
     replace BK398:=zm0_ (zm5_ (zb BK398) hb)
     replace BK403:=zm0_ (zm5_ (zb BK403) hb)
     replace HB:=zm0_ (zn8_ (zl4 HB GE381 GE382 GE398 GE403) hb)
     (try clear hb)
     (try clear hb2)
     (try clear hk)
     (try clear hi)
     refine hK.out _ _ ⟨(zm6_ BK403.out 0).trans rfl,(zm6_ BK403.out 1).trans rfl,(zm6_ BK382.out 0).trans rfl,(zm6_ BK382.out 1).trans rfl⟩ (fun hHeld => ?_)
     clear hK K
     refine norm_ (a':=?_) ?_ ?_
     rotate_left
     ·
      show Act.put _ (some 42) _ = _
      simp only [Act.put,lA_,lB_,lC_,i64_w,i32_w]
      rfl
     refine two_ (i:=4) (j:=8) (Ni:=some 44) (Nj:=some 12) #[Y,Y,Y,Y,Y,Z,Z,Z,Z,Z,Z] #[Y,Y,Y,Y,Z,Z,Z,Z,Y,Z,Z] rfl rfl rfl rfl (two_of HT_.out (by kernel_rfl)) (by decide) (by decide) (fun K hK => ?_) (fun K hK => ?_)
     ·
      skip
      refine goes_ Tryz.func10 (by kernel_rfl) rfl #[.agg #[.int .i64 t399,.slice Ao52 t400.length co52],.agg #[.string t404,.string t405],.int .i64 a2] (by rfl) rfl rfl zy ?_
      with_reducible refine (impl_PutField.calls k t399 _ _ t400 t404 t405 a2 t406 t409 t410 _ ?side1 ?side2 ?side3 A25.out).mono ?_
      (case side1 => repeat (first|exact (Kd.R_reads' HO402.out).2.2|(with_reducible refine Kd.C_alloc ?_ _)|(with_reducible refine Kd.C_drewN ?_ _)|(with_reducible refine Kd.C_drew ?_)))
      (case side2 => exact (Kd.R_reads' HO402.out).2.1)
      (case side3 => first|exact ht|(refine tb_below ht ?_;repeat (first|(with_reducible first|exact HB.out|apply zm3_|apply zm2_|apply zm4_|refine zm1_ ?_ GE381.out|refine zm1_ ?_ GE382.out|refine zm1_ ?_ GE398.out|refine zm1_ ?_ GE403.out)|exact HB.out)))
      rintro e w56 ⟨v407,v411,rfl,ho0,ho1,hb⟩
      refine ⟨_,rfl,?_⟩
      have HO408:=zm0_ (zo1_ (Kd.R_new' ho0 (Kd.R_lt (zr HO393))) (zn9_ (zl4 HB GE381 GE382 GE398 GE403)))
      replace HO393:=zm0_ (Kd.R_elder' (zr HO393) (Kd.R_base ho0) hb)
      have HO412:=zm0_ (zo1_ (Kd.R_new' (Kd.R_new' (Kd.R_new' ho1 (Kd.R_lt (zr HO388))) (Kd.R_lt (zr HO397))) (Kd.R_lt (zr HO402))) (zn9_ (zl4 HB GE381 GE382 GE398 GE403)))
      replace HO388:=zm0_ (Kd.R_elder' (zr HO388) (Kd.R_base ho1) hb)
      replace HO397:=zm0_ (Kd.R_elder' (zr HO397) (Kd.R_base ho1) hb)
      replace HO402:=zm0_ (Kd.R_elder' (zr HO402) (Kd.R_base ho1) hb)
      replace BK381:=zm0_ (zm5_ (zb BK381) hb)
      replace BK382:=zm0_ (zm5_ (zb BK382) hb)
      replace BK398:=zm0_ (zm5_ (zb BK398) hb)
      replace BK403:=zm0_ (zm5_ (zb BK403) hb)
      replace HB:=zm0_ (zn8_ (zl4 HB GE381 GE382 GE398 GE403) hb)
      (try clear hb)
      (try clear hb2)
      (try clear hk)
      (try clear hi)
      (try clear ho0)
      (try clear ho1)
      refine hK.out _ _ ⟨(zm6_ BK403.out 0).trans rfl,(zm6_ BK403.out 1).trans rfl,(zm6_ BK382.out 0).trans rfl,(zm6_ BK382.out 1).trans rfl⟩ (fun hHeld => ?_)
      clear hK K
      refine norm_ (a':=?_) ?_ ?_
      rotate_left
      ·
       show Act.put _ (some 44) _ = _
       simp only [Act.put,lA_,lB_,lC_,i64_w,i32_w]
       rfl
      refine pure_ (i:=5) (N:=some 39) (v:=?_) (a':=?_) #[Y,Y,Y,Y,Y,Y,Z,Z,Z,Z,Z] rfl rfl (any_of HT_.out (by kernel_rfl)) (fun _ _ _ h => h) (Or.inl ⟨by rfl,?_⟩) ?_ ?_
      rotate_left
      ·
       intro w'
       go_simp
       with_reducible rfl
      rotate_left
      ·
       simp only [Act.put,lA_,lB_,lC_,i64_w,i32_w]
       rfl
      refine pure_ (i:=6) (N:=some 45) (v:=?_) (a':=?_) #[Y,Y,Y,Y,Y,Y,Y,Z,Z,Z,Z] rfl rfl (any_of HT_.out (by kernel_rfl)) (fun _ _ _ h => h) (Or.inl ⟨by rfl,?_⟩) ?_ ?_
      rotate_left
      ·
       intro w'
       go_simp
       with_reducible rfl
      rotate_left
      ·
       simp only [Act.put,lA_,lB_,lC_,i64_w,i32_w]
       rfl
      refine pure_ (i:=7) (N:=some 46) (v:=?_) (a':=?_) #[Y,Y,Y,Y,Y,Y,Y,Y,Z,Z,Z] rfl rfl (any_of HT_.out (by kernel_rfl)) (fun _ _ _ h => h) (Or.inl ⟨by rfl,?_⟩) ?_ ?_
      rotate_left
      ·
       intro w'
       go_simp
       with_reducible rfl
      rotate_left
      ·
       simp only [Act.put,lA_,lB_,lC_,i64_w,i32_w]
       rfl
      refine one_ (i:=8) (N:=some 12) #[Y,Y,Y,Y,Y,Y,Y,Y,Y,Z,Z] rfl rfl (one_of HT_.out (by kernel_rfl)) (by decide) (fun K hK => ?_)
      refine box_step ?hg (N:=12) ?hd (cs:=#[.int .i64 0,.slice none 0 0]) (t:=32) ?hr ?_;(case hd => rfl);(case hg => rfl);(case hr => first|(go_simp;done)|(go_simp;rfl))
      intro gb413 hg w57 hbox hb
      replace HO388:=zm0_ (zm8_ (zr HO388) hb)
      replace HO393:=zm0_ (zm8_ (zr HO393) hb)
      replace HO397:=zm0_ (zm8_ (zr HO397) hb)
      replace HO402:=zm0_ (zm8_ (zr HO402) hb)
      replace HO408:=zm0_ (zm8_ (zr HO408) hb)
      replace HO412:=zm0_ (zm8_ (zr HO412) hb)
      have BK413:=zm0_ (hbox)
      have GW413:=zm0_ ((by rw [hg];exact (zn9_ (zl4 HB GE381 GE382 GE398 GE403)) : w.heap.size ≤ gb413))
      have GE413:=zm0_ ((by rw [hg];exact (zn9_ (zl4 HB GE381 GE382 GE398 GE403)) : w.heap.size ≤ gb413))
      replace HB:=zm0_ (zn8_ (zl4 HB GE381 GE382 GE398 GE403) hb)
      have NB381_413:=zm0_ ((by rw [hg];exact Nat.ne_of_lt (zo3_ (g:=gb381) (o:=.cells #[.int .i64 a0_0,.slice A0_1 l0_1.length c0_1] 24 (0,0)) (zb BK381)) : gb381 ≠ gb413))
      have NB413_381:=zm0_ ((by rw [hg];exact Nat.ne_of_gt (zo3_ (g:=gb381) (o:=.cells #[.int .i64 a0_0,.slice A0_1 l0_1.length c0_1] 24 (0,0)) (zb BK381)) : gb413 ≠ gb381))
      replace BK381:=zm0_ (zm5_ (zb BK381) hb)
      have NB382_413:=zm0_ ((by rw [hg];exact Nat.ne_of_lt (zo3_ (g:=gb382) (o:=.cells #[.string a1_0,.string a1_1] 26 (0,0)) (zb BK382)) : gb382 ≠ gb413))
      have NB413_382:=zm0_ ((by rw [hg];exact Nat.ne_of_gt (zo3_ (g:=gb382) (o:=.cells #[.string a1_0,.string a1_1] 26 (0,0)) (zb BK382)) : gb413 ≠ gb382))
      replace BK382:=zm0_ (zm5_ (zb BK382) hb)
      have NB398_413:=zm0_ ((by rw [hg];exact Nat.ne_of_lt (zo3_ (g:=gb398) (o:=.cells #[.int .i64 t394,.slice Ao42 t395.length co42] 32 (0,0)) (zb BK398)) : gb398 ≠ gb413))
      have NB413_398:=zm0_ ((by rw [hg];exact Nat.ne_of_gt (zo3_ (g:=gb398) (o:=.cells #[.int .i64 t394,.slice Ao42 t395.length co42] 32 (0,0)) (zb BK398)) : gb413 ≠ gb398))
      replace BK398:=zm0_ (zm5_ (zb BK398) hb)
      have NB403_413:=zm0_ ((by rw [hg];exact Nat.ne_of_lt (zo3_ (g:=gb403) (o:=.cells #[.int .i64 t399,.slice Ao52 t400.length co52] 32 (0,0)) (zb BK403)) : gb403 ≠ gb413))
      have NB413_403:=zm0_ ((by rw [hg];exact Nat.ne_of_gt (zo3_ (g:=gb403) (o:=.cells #[.int .i64 t399,.slice Ao52 t400.length co52] 32 (0,0)) (zb BK403)) : gb413 ≠ gb403))
      replace BK403:=zm0_ (zm5_ (zb BK403) hb)
      clear hb hbox hg
      refine hK.out _ _ ⟨(zm6_ BK403.out 0).trans rfl,(zm6_ BK403.out 1).trans rfl,(zm6_ BK382.out 0).trans rfl,(zm6_ BK382.out 1).trans rfl⟩ (fun hHeld => ?_)
      clear hK K
      refine norm_ (a':=?_) ?_ ?_
      rotate_left
      ·
       show Act.put _ (some 12) _ = _
       simp only [Act.put,lA_,lB_,lC_,i64_w,i32_w]
       rfl
      exact norm_ (by simp only [putAll,Act.put,lA_,lB_,lC_]) (hCont (v407,v411,gb413) _ ⟨hHeld,(zs (zo2_ HO388.out (fun _ hk => ⟨(by first|exact hk.1.1|(have hq_:=hk;simp only [ne_eq] at hq_ ⊢;simp only [hq_,not_false_eq_true,and_self])),⟨(by first|exact hk.1.2|(have hq_:=hk;simp only [ne_eq] at hq_ ⊢;simp only [hq_,not_false_eq_true,and_self])),(by first|exact hk.2|(have hq_:=hk;simp only [ne_eq] at hq_ ⊢;simp only [hq_,not_false_eq_true,and_self]))⟩⟩))),(zs (zo2_ HO393.out (fun _ hk => (by first|exact hk.2|(have hq_:=hk;simp only [ne_eq] at hq_ ⊢;simp only [hq_,not_false_eq_true,and_self]))))),(zs (zo2_ HO397.out (fun _ hk => ⟨(by first|exact hk.1.1|(have hq_:=hk;simp only [ne_eq] at hq_ ⊢;simp only [hq_,not_false_eq_true,and_self])),⟨(by first|exact hk.1.2|(have hq_:=hk;simp only [ne_eq] at hq_ ⊢;simp only [hq_,not_false_eq_true,and_self])),(by first|exact hk.2|(have hq_:=hk;simp only [ne_eq] at hq_ ⊢;simp only [hq_,not_false_eq_true,and_self]))⟩⟩))),(zs (zo2_ HO402.out (fun _ hk => ⟨(by first|exact hk.1.1|(have hq_:=hk;simp only [ne_eq] at hq_ ⊢;simp only [hq_,not_false_eq_true,and_self])),⟨(by first|exact hk.1.2|(have hq_:=hk;simp only [ne_eq] at hq_ ⊢;simp only [hq_,not_false_eq_true,and_self])),(by first|exact hk.2|(have hq_:=hk;simp only [ne_eq] at hq_ ⊢;simp only [hq_,not_false_eq_true,and_self]))⟩⟩))),(zs (zo2_ HO408.out (fun _ hk => (by first|exact hk.2|(have hq_:=hk;simp only [ne_eq] at hq_ ⊢;simp only [hq_,not_false_eq_true,and_self]))))),(zs (zo2_ HO412.out (fun _ hk => ⟨(by first|exact hk.1.1.2|(have hq_:=hk;simp only [ne_eq] at hq_ ⊢;simp only [hq_,not_false_eq_true,and_self])),⟨(by first|exact hk.1.2|(have hq_:=hk;simp only [ne_eq] at hq_ ⊢;simp only [hq_,not_false_eq_true,and_self])),(by first|exact hk.2|(have hq_:=hk;simp only [ne_eq] at hq_ ⊢;simp only [hq_,not_false_eq_true,and_self]))⟩⟩))),(zb BK381),(zb BK382),(zb BK398),(zb BK403),(zb BK413),GW413.out,GE413.out,NB381_413.out,NB413_381.out,NB382_413.out,NB413_382.out,NB398_413.out,NB413_398.out,NB403_413.out,NB413_403.out,(zl5 HB GE381 GE382 GE398 GE403 GE413)⟩)
     ·
      skip
      refine box_step ?hg (N:=12) ?hd (cs:=#[.int .i64 0,.slice none 0 0]) (t:=32) ?hr ?_;(case hd => rfl);(case hg => rfl);(case hr => first|(go_simp;done)|(go_simp;rfl))
      intro gb413 hg w56 hbox hb
      replace HO388:=zm0_ (zm8_ (zr HO388) hb)
      replace HO393:=zm0_ (zm8_ (zr HO393) hb)
      replace HO397:=zm0_ (zm8_ (zr HO397) hb)
      replace HO402:=zm0_ (zm8_ (zr HO402) hb)
      have BK413:=zm0_ (hbox)
      have GW413:=zm0_ ((by rw [hg];exact (zn9_ (zl4 HB GE381 GE382 GE398 GE403)) : w.heap.size ≤ gb413))
      have GE413:=zm0_ ((by rw [hg];exact (zn9_ (zl4 HB GE381 GE382 GE398 GE403)) : w.heap.size ≤ gb413))
      replace HB:=zm0_ (zn8_ (zl4 HB GE381 GE382 GE398 GE403) hb)
      have NB381_413:=zm0_ ((by rw [hg];exact Nat.ne_of_lt (zo3_ (g:=gb381) (o:=.cells #[.int .i64 a0_0,.slice A0_1 l0_1.length c0_1] 24 (0,0)) (zb BK381)) : gb381 ≠ gb413))
      have NB413_381:=zm0_ ((by rw [hg];exact Nat.ne_of_gt (zo3_ (g:=gb381) (o:=.cells #[.int .i64 a0_0,.slice A0_1 l0_1.length c0_1] 24 (0,0)) (zb BK381)) : gb413 ≠ gb381))
      replace BK381:=zm0_ (zm5_ (zb BK381) hb)
      have NB382_413:=zm0_ ((by rw [hg];exact Nat.ne_of_lt (zo3_ (g:=gb382) (o:=.cells #[.string a1_0,.string a1_1] 26 (0,0)) (zb BK382)) : gb382 ≠ gb413))
      have NB413_382:=zm0_ ((by rw [hg];exact Nat.ne_of_gt (zo3_ (g:=gb382) (o:=.cells #[.string a1_0,.string a1_1] 26 (0,0)) (zb BK382)) : gb413 ≠ gb382))
      replace BK382:=zm0_ (zm5_ (zb BK382) hb)
      have NB398_413:=zm0_ ((by rw [hg];exact Nat.ne_of_lt (zo3_ (g:=gb398) (o:=.cells #[.int .i64 t394,.slice Ao42 t395.length co42] 32 (0,0)) (zb BK398)) : gb398 ≠ gb413))
      have NB413_398:=zm0_ ((by rw [hg];exact Nat.ne_of_gt (zo3_ (g:=gb398) (o:=.cells #[.int .i64 t394,.slice Ao42 t395.length co42] 32 (0,0)) (zb BK398)) : gb413 ≠ gb398))
      replace BK398:=zm0_ (zm5_ (zb BK398) hb)
      have NB403_413:=zm0_ ((by rw [hg];exact Nat.ne_of_lt (zo3_ (g:=gb403) (o:=.cells #[.int .i64 t399,.slice Ao52 t400.length co52] 32 (0,0)) (zb BK403)) : gb403 ≠ gb413))
      have NB413_403:=zm0_ ((by rw [hg];exact Nat.ne_of_gt (zo3_ (g:=gb403) (o:=.cells #[.int .i64 t399,.slice Ao52 t400.length co52] 32 (0,0)) (zb BK403)) : gb413 ≠ gb403))
      replace BK403:=zm0_ (zm5_ (zb BK403) hb)
      clear hb hbox hg
      refine hK.out _ _ ⟨(zm6_ BK403.out 0).trans rfl,(zm6_ BK403.out 1).trans rfl,(zm6_ BK382.out 0).trans rfl,(zm6_ BK382.out 1).trans rfl⟩ (fun hHeld => ?_)
      clear hK K
      refine norm_ (a':=?_) ?_ ?_
      rotate_left
      ·
       show Act.put _ (some 12) _ = _
       simp only [Act.put,lA_,lB_,lC_,i64_w,i32_w]
       rfl
      refine one_ (i:=4) (N:=some 44) #[Y,Y,Y,Y,Y,Z,Z,Z,Y,Z,Z] rfl rfl (one_of HT_.out (by kernel_rfl)) (by decide) (fun K hK => ?_)
      refine goes_ Tryz.func10 (by kernel_rfl) rfl #[.agg #[.int .i64 t399,.slice Ao52 t400.length co52],.agg #[.string t404,.string t405],.int .i64 a2] (by rfl) rfl rfl zy ?_
      with_reducible refine (impl_PutField.calls k t399 _ _ t400 t404 t405 a2 t406 t409 t410 _ ?side1 ?side2 ?side3 A25.out).mono ?_
      (case side1 => repeat (first|exact (Kd.R_reads' HO402.out).2.2|(with_reducible refine Kd.C_alloc ?_ _)|(with_reducible refine Kd.C_drewN ?_ _)|(with_reducible refine Kd.C_drew ?_)))
      (case side2 => exact (Kd.R_reads' HO402.out).2.1)
      (case side3 => first|exact ht|(refine tb_below ht ?_;repeat (first|(with_reducible first|exact HB.out|apply zm3_|apply zm2_|apply zm4_|refine zm1_ ?_ GE381.out|refine zm1_ ?_ GE382.out|refine zm1_ ?_ GE398.out|refine zm1_ ?_ GE403.out|refine zm1_ ?_ GE413.out)|exact HB.out)))
      rintro e w57 ⟨v407,v411,rfl,ho0,ho1,hb⟩
      refine ⟨_,rfl,?_⟩
      have HO408:=zm0_ (zo1_ (Kd.R_new' ho0 (Kd.R_lt (zr HO393))) (zn9_ (zl5 HB GE381 GE382 GE398 GE403 GE413)))
      replace HO393:=zm0_ (Kd.R_elder' (zr HO393) (Kd.R_base ho0) hb)
      have HO412:=zm0_ (zo1_ (Kd.R_new' (Kd.R_new' (Kd.R_new' ho1 (Kd.R_lt (zr HO388))) (Kd.R_lt (zr HO397))) (Kd.R_lt (zr HO402))) (zn9_ (zl5 HB GE381 GE382 GE398 GE403 GE413)))
      replace HO388:=zm0_ (Kd.R_elder' (zr HO388) (Kd.R_base ho1) hb)
      replace HO397:=zm0_ (Kd.R_elder' (zr HO397) (Kd.R_base ho1) hb)
      replace HO402:=zm0_ (Kd.R_elder' (zr HO402) (Kd.R_base ho1) hb)
      replace BK381:=zm0_ (zm5_ (zb BK381) hb)
      replace BK382:=zm0_ (zm5_ (zb BK382) hb)
      replace BK398:=zm0_ (zm5_ (zb BK398) hb)
      replace BK403:=zm0_ (zm5_ (zb BK403) hb)
      replace BK413:=zm0_ (zm5_ (zb BK413) hb)
      replace HB:=zm0_ (zn8_ (zl5 HB GE381 GE382 GE398 GE403 GE413) hb)
      (try clear hb)
      (try clear hb2)
      (try clear hk)
      (try clear hi)
      (try clear ho0)
      (try clear ho1)
      refine hK.out _ _ ⟨(zm6_ BK403.out 0).trans rfl,(zm6_ BK403.out 1).trans rfl,(zm6_ BK382.out 0).trans rfl,(zm6_ BK382.out 1).trans rfl⟩ (fun hHeld => ?_)
      clear hK K
      refine norm_ (a':=?_) ?_ ?_
      rotate_left
      ·
       show Act.put _ (some 44) _ = _
       simp only [Act.put,lA_,lB_,lC_,i64_w,i32_w]
       rfl
      refine pure_ (i:=5) (N:=some 39) (v:=?_) (a':=?_) #[Y,Y,Y,Y,Y,Y,Z,Z,Y,Z,Z] rfl rfl (any_of HT_.out (by kernel_rfl)) (fun _ _ _ h => h) (Or.inl ⟨by rfl,?_⟩) ?_ ?_
      rotate_left
      ·
       intro w'
       go_simp
       with_reducible rfl
      rotate_left
      ·
       simp only [Act.put,lA_,lB_,lC_,i64_w,i32_w]
       rfl
      refine pure_ (i:=6) (N:=some 45) (v:=?_) (a':=?_) #[Y,Y,Y,Y,Y,Y,Y,Z,Y,Z,Z] rfl rfl (any_of HT_.out (by kernel_rfl)) (fun _ _ _ h => h) (Or.inl ⟨by rfl,?_⟩) ?_ ?_
      rotate_left
      ·
       intro w'
       go_simp
       with_reducible rfl
      rotate_left
      ·
       simp only [Act.put,lA_,lB_,lC_,i64_w,i32_w]
       rfl
      refine pure_ (i:=7) (N:=some 46) (v:=?_) (a':=?_) #[Y,Y,Y,Y,Y,Y,Y,Y,Y,Z,Z] rfl rfl (any_of HT_.out (by kernel_rfl)) (fun _ _ _ h => h) (Or.inl ⟨by rfl,?_⟩) ?_ ?_
      rotate_left
      ·
       intro w'
       go_simp
       with_reducible rfl
      rotate_left
      ·
       simp only [Act.put,lA_,lB_,lC_,i64_w,i32_w]
       rfl
      exact norm_ (by simp only [putAll,Act.put,lA_,lB_,lC_]) (hCont (v407,v411,gb413) _ ⟨hHeld,(zs (zo2_ HO388.out (fun _ hk => ⟨(by first|exact hk.1.1|(have hq_:=hk;simp only [ne_eq] at hq_ ⊢;simp only [hq_,not_false_eq_true,and_self])),⟨(by first|exact hk.1.2|(have hq_:=hk;simp only [ne_eq] at hq_ ⊢;simp only [hq_,not_false_eq_true,and_self])),(by first|exact hk.2|(have hq_:=hk;simp only [ne_eq] at hq_ ⊢;simp only [hq_,not_false_eq_true,and_self]))⟩⟩))),(zs (zo2_ HO393.out (fun _ hk => (by first|exact hk.2|(have hq_:=hk;simp only [ne_eq] at hq_ ⊢;simp only [hq_,not_false_eq_true,and_self]))))),(zs (zo2_ HO397.out (fun _ hk => ⟨(by first|exact hk.1.1|(have hq_:=hk;simp only [ne_eq] at hq_ ⊢;simp only [hq_,not_false_eq_true,and_self])),⟨(by first|exact hk.1.2|(have hq_:=hk;simp only [ne_eq] at hq_ ⊢;simp only [hq_,not_false_eq_true,and_self])),(by first|exact hk.2|(have hq_:=hk;simp only [ne_eq] at hq_ ⊢;simp only [hq_,not_false_eq_true,and_self]))⟩⟩))),(zs (zo2_ HO402.out (fun _ hk => ⟨(by first|exact hk.1.1|(have hq_:=hk;simp only [ne_eq] at hq_ ⊢;simp only [hq_,not_false_eq_true,and_self])),⟨(by first|exact hk.1.2|(have hq_:=hk;simp only [ne_eq] at hq_ ⊢;simp only [hq_,not_false_eq_true,and_self])),(by first|exact hk.2|(have hq_:=hk;simp only [ne_eq] at hq_ ⊢;simp only [hq_,not_false_eq_true,and_self]))⟩⟩))),(zs (zo2_ HO408.out (fun _ hk => (by first|exact hk.2|(have hq_:=hk;simp only [ne_eq] at hq_ ⊢;simp only [hq_,not_false_eq_true,and_self]))))),(zs (zo2_ HO412.out (fun _ hk => ⟨(by first|exact hk.1.1.2|(have hq_:=hk;simp only [ne_eq] at hq_ ⊢;simp only [hq_,not_false_eq_true,and_self])),⟨(by first|exact hk.1.2|(have hq_:=hk;simp only [ne_eq] at hq_ ⊢;simp only [hq_,not_false_eq_true,and_self])),(by first|exact hk.2|(have hq_:=hk;simp only [ne_eq] at hq_ ⊢;simp only [hq_,not_false_eq_true,and_self]))⟩⟩))),(zb BK381),(zb BK382),(zb BK398),(zb BK403),(zb BK413),GW413.out,GE413.out,NB381_413.out,NB413_381.out,NB382_413.out,NB413_382.out,NB398_413.out,NB413_398.out,NB403_413.out,NB413_403.out,(zl5 HB GE381 GE382 GE398 GE403 GE413)⟩)
    ·
     skip
     refine box_step ?hg (N:=12) ?hd (cs:=#[.int .i64 0,.slice none 0 0]) (t:=32) ?hr ?_;(case hd => rfl);(case hg => rfl);(case hr => first|(go_simp;done)|(go_simp;rfl))
     intro gb413 hg w55 hbox hb
     replace HO388:=zm0_ (zm8_ (zr HO388) hb)
     replace HO393:=zm0_ (zm8_ (zr HO393) hb)
     replace HO397:=zm0_ (zm8_ (zr HO397) hb)
     replace HO402:=zm0_ (zm8_ (zr HO402) hb)
     have BK413:=zm0_ (hbox)
     have GW413:=zm0_ ((by rw [hg];exact (zn9_ (zl4 HB GE381 GE382 GE398 GE403)) : w.heap.size ≤ gb413))
     have GE413:=zm0_ ((by rw [hg];exact (zn9_ (zl4 HB GE381 GE382 GE398 GE403)) : w.heap.size ≤ gb413))
     replace HB:=zm0_ (zn8_ (zl4 HB GE381 GE382 GE398 GE403) hb)
     have NB381_413:=zm0_ ((by rw [hg];exact Nat.ne_of_lt (zo3_ (g:=gb381) (o:=.cells #[.int .i64 a0_0,.slice A0_1 l0_1.length c0_1] 24 (0,0)) (zb BK381)) : gb381 ≠ gb413))
     have NB413_381:=zm0_ ((by rw [hg];exact Nat.ne_of_gt (zo3_ (g:=gb381) (o:=.cells #[.int .i64 a0_0,.slice A0_1 l0_1.length c0_1] 24 (0,0)) (zb BK381)) : gb413 ≠ gb381))
     replace BK381:=zm0_ (zm5_ (zb BK381) hb)
     have NB382_413:=zm0_ ((by rw [hg];exact Nat.ne_of_lt (zo3_ (g:=gb382) (o:=.cells #[.string a1_0,.string a1_1] 26 (0,0)) (zb BK382)) : gb382 ≠ gb413))
     have NB413_382:=zm0_ ((by rw [hg];exact Nat.ne_of_gt (zo3_ (g:=gb382) (o:=.cells #[.string a1_0,.string a1_1] 26 (0,0)) (zb BK382)) : gb413 ≠ gb382))
     replace BK382:=zm0_ (zm5_ (zb BK382) hb)
     have NB398_413:=zm0_ ((by rw [hg];exact Nat.ne_of_lt (zo3_ (g:=gb398) (o:=.cells #[.int .i64 t394,.slice Ao42 t395.length co42] 32 (0,0)) (zb BK398)) : gb398 ≠ gb413))
     have NB413_398:=zm0_ ((by rw [hg];exact Nat.ne_of_gt (zo3_ (g:=gb398) (o:=.cells #[.int .i64 t394,.slice Ao42 t395.length co42] 32 (0,0)) (zb BK398)) : gb413 ≠ gb398))
     replace BK398:=zm0_ (zm5_ (zb BK398) hb)
     have NB403_413:=zm0_ ((by rw [hg];exact Nat.ne_of_lt (zo3_ (g:=gb403) (o:=.cells #[.int .i64 t399,.slice Ao52 t400.length co52] 32 (0,0)) (zb BK403)) : gb403 ≠ gb413))
     have NB413_403:=zm0_ ((by rw [hg];exact Nat.ne_of_gt (zo3_ (g:=gb403) (o:=.cells #[.int .i64 t399,.slice Ao52 t400.length co52] 32 (0,0)) (zb BK403)) : gb413 ≠ gb403))
     replace BK403:=zm0_ (zm5_ (zb BK403) hb)
     clear hb hbox hg
     refine hK.out _ _ ⟨(zm6_ BK403.out 0).trans rfl,(zm6_ BK403.out 1).trans rfl,(zm6_ BK382.out 0).trans rfl,(zm6_ BK382.out 1).trans rfl⟩ (fun hHeld => ?_)
     clear hK K
     refine norm_ (a':=?_) ?_ ?_
     rotate_left
     ·
      show Act.put _ (some 12) _ = _
      simp only [Act.put,lA_,lB_,lC_,i64_w,i32_w]
      rfl
     refine one_ (i:=2) (N:=some 42) #[Y,Y,Y,Y,Z,Z,Z,Z,Y,Z,Z] rfl rfl (one_of HT_.out (by kernel_rfl)) (by decide) (fun K hK => ?_)
     refine goes_ Tryz.func9 (by kernel_rfl) rfl #[.agg #[.string a1_0,.string a1_1]] (by rfl) rfl rfl zy ?_
     with_reducible refine (laws_toField.calls a1_0 a1_1 t404 t405 _ A24.out).mono ?_
     rintro e w56 ⟨rfl,hb⟩
     refine ⟨_,rfl,?_⟩
     replace HO388:=zm0_ (zm8_ (zr HO388) hb)
     replace HO393:=zm0_ (zm8_ (zr HO393) hb)
     replace HO397:=zm0_ (zm8_ (zr HO397) hb)
     replace HO402:=zm0_ (zm8_ (zr HO402) hb)
     replace BK381:=zm0_ (zm5_ (zb BK381) hb)
     replace BK382:=zm0_ (zm5_ (zb BK382) hb)
     replace BK398:=zm0_ (zm5_ (zb BK398) hb)
     replace BK403:=zm0_ (zm5_ (zb BK403) hb)
     replace BK413:=zm0_ (zm5_ (zb BK413) hb)
     replace HB:=zm0_ (zn8_ (zl5 HB GE381 GE382 GE398 GE403 GE413) hb)
     (try clear hb)
     (try clear hb2)
     (try clear hk)
     (try clear hi)
     refine hK.out _ _ ⟨(zm6_ BK403.out 0).trans rfl,(zm6_ BK403.out 1).trans rfl,(zm6_ BK382.out 0).trans rfl,(zm6_ BK382.out 1).trans rfl⟩ (fun hHeld => ?_)
     clear hK K
     refine norm_ (a':=?_) ?_ ?_
     rotate_left
     ·
      show Act.put _ (some 42) _ = _
      simp only [Act.put,lA_,lB_,lC_,i64_w,i32_w]
      rfl
     refine one_ (i:=4) (N:=some 44) #[Y,Y,Y,Y,Y,Z,Z,Z,Y,Z,Z] rfl rfl (one_of HT_.out (by kernel_rfl)) (by decide) (fun K hK => ?_)
     refine goes_ Tryz.func10 (by kernel_rfl) rfl #[.agg #[.int .i64 t399,.slice Ao52 t400.length co52],.agg #[.string t404,.string t405],.int .i64 a2] (by rfl) rfl rfl zy ?_
     with_reducible refine (impl_PutField.calls k t399 _ _ t400 t404 t405 a2 t406 t409 t410 _ ?side1 ?side2 ?side3 A25.out).mono ?_
     (case side1 => repeat (first|exact (Kd.R_reads' HO402.out).2.2|(with_reducible refine Kd.C_alloc ?_ _)|(with_reducible refine Kd.C_drewN ?_ _)|(with_reducible refine Kd.C_drew ?_)))
     (case side2 => exact (Kd.R_reads' HO402.out).2.1)
     (case side3 => first|exact ht|(refine tb_below ht ?_;repeat (first|(with_reducible first|exact HB.out|apply zm3_|apply zm2_|apply zm4_|refine zm1_ ?_ GE381.out|refine zm1_ ?_ GE382.out|refine zm1_ ?_ GE398.out|refine zm1_ ?_ GE403.out|refine zm1_ ?_ GE413.out)|exact HB.out)))
     rintro e w57 ⟨v407,v411,rfl,ho0,ho1,hb⟩
     refine ⟨_,rfl,?_⟩
     have HO408:=zm0_ (zo1_ (Kd.R_new' ho0 (Kd.R_lt (zr HO393))) (zn9_ (zl5 HB GE381 GE382 GE398 GE403 GE413)))
     replace HO393:=zm0_ (Kd.R_elder' (zr HO393) (Kd.R_base ho0) hb)
     have HO412:=zm0_ (zo1_ (Kd.R_new' (Kd.R_new' (Kd.R_new' ho1 (Kd.R_lt (zr HO388))) (Kd.R_lt (zr HO397))) (Kd.R_lt (zr HO402))) (zn9_ (zl5 HB GE381 GE382 GE398 GE403 GE413)))
     replace HO388:=zm0_ (Kd.R_elder' (zr HO388) (Kd.R_base ho1) hb)
     replace HO397:=zm0_ (Kd.R_elder' (zr HO397) (Kd.R_base ho1) hb)
     replace HO402:=zm0_ (Kd.R_elder' (zr HO402) (Kd.R_base ho1) hb)
     replace BK381:=zm0_ (zm5_ (zb BK381) hb)
     replace BK382:=zm0_ (zm5_ (zb BK382) hb)
     replace BK398:=zm0_ (zm5_ (zb BK398) hb)
     replace BK403:=zm0_ (zm5_ (zb BK403) hb)
     replace BK413:=zm0_ (zm5_ (zb BK413) hb)
     replace HB:=zm0_ (zn8_ (zl5 HB GE381 GE382 GE398 GE403 GE413) hb)
     (try clear hb)
     (try clear hb2)
     (try clear hk)
     (try clear hi)
     (try clear ho0)
     (try clear ho1)
     refine hK.out _ _ ⟨(zm6_ BK403.out 0).trans rfl,(zm6_ BK403.out 1).trans rfl,(zm6_ BK382.out 0).trans rfl,(zm6_ BK382.out 1).trans rfl⟩ (fun hHeld => ?_)
     clear hK K
     refine norm_ (a':=?_) ?_ ?_
     rotate_left
     ·
      show Act.put _ (some 44) _ = _
      simp only [Act.put,lA_,lB_,lC_,i64_w,i32_w]
      rfl
     refine pure_ (i:=5) (N:=some 39) (v:=?_) (a':=?_) #[Y,Y,Y,Y,Y,Y,Z,Z,Y,Z,Z] rfl rfl (any_of HT_.out (by kernel_rfl)) (fun _ _ _ h => h) (Or.inl ⟨by rfl,?_⟩) ?_ ?_
     rotate_left
     ·
      intro w'
      go_simp
      with_reducible rfl
     rotate_left
     ·
      simp only [Act.put,lA_,lB_,lC_,i64_w,i32_w]
      rfl
     refine pure_ (i:=6) (N:=some 45) (v:=?_) (a':=?_) #[Y,Y,Y,Y,Y,Y,Y,Z,Y,Z,Z] rfl rfl (any_of HT_.out (by kernel_rfl)) (fun _ _ _ h => h) (Or.inl ⟨by rfl,?_⟩) ?_ ?_
     rotate_left
     ·
      intro w'
      go_simp
      with_reducible rfl
     rotate_left
     ·
      simp only [Act.put,lA_,lB_,lC_,i64_w,i32_w]
      rfl
     refine pure_ (i:=7) (N:=some 46) (v:=?_) (a':=?_) #[Y,Y,Y,Y,Y,Y,Y,Y,Y,Z,Z] rfl rfl (any_of HT_.out (by kernel_rfl)) (fun _ _ _ h => h) (Or.inl ⟨by rfl,?_⟩) ?_ ?_
     rotate_left
     ·
      intro w'
      go_simp
      with_reducible rfl
     rotate_left
     ·
      simp only [Act.put,lA_,lB_,lC_,i64_w,i32_w]
      rfl
     exact norm_ (by simp only [putAll,Act.put,lA_,lB_,lC_]) (hCont (v407,v411,gb413) _ ⟨hHeld,(zs (zo2_ HO388.out (fun _ hk => ⟨(by first|exact hk.1.1|(have hq_:=hk;simp only [ne_eq] at hq_ ⊢;simp only [hq_,not_false_eq_true,and_self])),⟨(by first|exact hk.1.2|(have hq_:=hk;simp only [ne_eq] at hq_ ⊢;simp only [hq_,not_false_eq_true,and_self])),(by first|exact hk.2|(have hq_:=hk;simp only [ne_eq] at hq_ ⊢;simp only [hq_,not_false_eq_true,and_self]))⟩⟩))),(zs (zo2_ HO393.out (fun _ hk => (by first|exact hk.2|(have hq_:=hk;simp only [ne_eq] at hq_ ⊢;simp only [hq_,not_false_eq_true,and_self]))))),(zs (zo2_ HO397.out (fun _ hk => ⟨(by first|exact hk.1.1|(have hq_:=hk;simp only [ne_eq] at hq_ ⊢;simp only [hq_,not_false_eq_true,and_self])),⟨(by first|exact hk.1.2|(have hq_:=hk;simp only [ne_eq] at hq_ ⊢;simp only [hq_,not_false_eq_true,and_self])),(by first|exact hk.2|(have hq_:=hk;simp only [ne_eq] at hq_ ⊢;simp only [hq_,not_false_eq_true,and_self]))⟩⟩))),(zs (zo2_ HO402.out (fun _ hk => ⟨(by first|exact hk.1.1|(have hq_:=hk;simp only [ne_eq] at hq_ ⊢;simp only [hq_,not_false_eq_true,and_self])),⟨(by first|exact hk.1.2|(have hq_:=hk;simp only [ne_eq] at hq_ ⊢;simp only [hq_,not_false_eq_true,and_self])),(by first|exact hk.2|(have hq_:=hk;simp only [ne_eq] at hq_ ⊢;simp only [hq_,not_false_eq_true,and_self]))⟩⟩))),(zs (zo2_ HO408.out (fun _ hk => (by first|exact hk.2|(have hq_:=hk;simp only [ne_eq] at hq_ ⊢;simp only [hq_,not_false_eq_true,and_self]))))),(zs (zo2_ HO412.out (fun _ hk => ⟨(by first|exact hk.1.1.2|(have hq_:=hk;simp only [ne_eq] at hq_ ⊢;simp only [hq_,not_false_eq_true,and_self])),⟨(by first|exact hk.1.2|(have hq_:=hk;simp only [ne_eq] at hq_ ⊢;simp only [hq_,not_false_eq_true,and_self])),(by first|exact hk.2|(have hq_:=hk;simp only [ne_eq] at hq_ ⊢;simp only [hq_,not_false_eq_true,and_self]))⟩⟩))),(zb BK381),(zb BK382),(zb BK398),(zb BK403),(zb BK413),GW413.out,GE413.out,NB381_413.out,NB413_381.out,NB382_413.out,NB413_382.out,NB398_413.out,NB413_398.out,NB403_413.out,NB413_403.out,(zl5 HB GE381 GE382 GE398 GE403 GE413)⟩)
   rintro ⟨v407,v411,gb413⟩ w58 ⟨hS_,h0_,h1_,h2_,h3_,h4_,h5_,h6_,h7_,h8_,h9_,h10_,h11_,h12_,h13_,h14_,h15_,h16_,h17_,h18_,h19_,h20_,h21_⟩
   have n0_ : Aside0 (Kd.R k36 36 w58 w.heap.size (fun k_ => some k_ ≠ (.slice Ao42 t395.length co42 : Value).ownBlock ∧ some k_ ≠ (.slice Ao52 t400.length co52 : Value).ownBlock ∧ some k_ ≠ (v411 : Value).ownBlock) v387 t386):=⟨h0_⟩
   have n1_ : Aside0 (Kd.R (Kd.int .u8) 5 w58 w.heap.size (fun k_ => some k_ ≠ (v407 : Value).ownBlock) v392 t391):=⟨h1_⟩
   have n2_ : Aside0 (Kd.R k36 36 w58 w.heap.size (fun k_ => some k_ ≠ (v387 : Value).ownBlock ∧ some k_ ≠ (.slice Ao52 t400.length co52 : Value).ownBlock ∧ some k_ ≠ (v411 : Value).ownBlock) (.slice Ao42 t395.length co42) t395):=⟨h2_⟩
   have n3_ : Aside0 (Kd.R k36 36 w58 w.heap.size (fun k_ => some k_ ≠ (v387 : Value).ownBlock ∧ some k_ ≠ (.slice Ao42 t395.length co42 : Value).ownBlock ∧ some k_ ≠ (v411 : Value).ownBlock) (.slice Ao52 t400.length co52) t400):=⟨h3_⟩
   have n4_ : Aside0 (Kd.R (Kd.int .u8) 5 w58 w.heap.size (fun k_ => some k_ ≠ (v392 : Value).ownBlock) v407 t406):=⟨h4_⟩
   have n5_ : Aside0 (Kd.R k36 36 w58 w.heap.size (fun k_ => some k_ ≠ (v387 : Value).ownBlock ∧ some k_ ≠ (.slice Ao42 t395.length co42 : Value).ownBlock ∧ some k_ ≠ (.slice Ao52 t400.length co52 : Value).ownBlock) v411 t410):=⟨h5_⟩
   have n6_ : Aside0 (w58.heap[gb381]? = some (.cells #[.int .i64 a0_0,.slice A0_1 l0_1.length c0_1] 24 (0,0))):=⟨h6_⟩
   have n7_ : Aside0 (w58.heap[gb382]? = some (.cells #[.string a1_0,.string a1_1] 26 (0,0))):=⟨h7_⟩
   have n8_ : Aside0 (w58.heap[gb398]? = some (.cells #[.int .i64 t394,.slice Ao42 t395.length co42] 32 (0,0))):=⟨h8_⟩
   have n9_ : Aside0 (w58.heap[gb403]? = some (.cells #[.int .i64 t399,.slice Ao52 t400.length co52] 32 (0,0))):=⟨h9_⟩
   have n10_ : Aside0 (w58.heap[gb413]? = some (.cells #[.int .i64 0,.slice none 0 0] 32 (0,0))):=⟨h10_⟩
   have n11_ : Aside0 (w.heap.size ≤ gb413):=⟨h11_⟩
   have n12_ : Aside0 (w.heap.size ≤ gb413):=⟨h12_⟩
   have n13_ : Aside0 (gb381 ≠ gb413):=⟨h13_⟩
   have n14_ : Aside0 (gb413 ≠ gb381):=⟨h14_⟩
   have n15_ : Aside0 (gb382 ≠ gb413):=⟨h15_⟩
   have n16_ : Aside0 (gb413 ≠ gb382):=⟨h16_⟩
   have n17_ : Aside0 (gb398 ≠ gb413):=⟨h17_⟩
   have n18_ : Aside0 (gb413 ≠ gb398):=⟨h18_⟩
   have n19_ : Aside0 (gb403 ≠ gb413):=⟨h19_⟩
   have n20_ : Aside0 (gb413 ≠ gb403):=⟨h20_⟩
   have n21_ : Aside0 (Below w.heap.size w w58):=⟨h21_⟩
   clear HO388 HO393 HO397 HO402 BK381 BK382 BK398 BK403 HB h0_ h1_ h2_ h3_ h4_ h5_ h6_ h7_ h8_ h9_ h10_ h11_ h12_ h13_ h14_ h15_ h16_ h17_ h18_ h19_ h20_ h21_
   have HO388:=n0_
   have HO393:=n1_
   have HO397:=n2_
   have HO402:=n3_
   have HO408:=n4_
   have HO412:=n5_
   have BK381:=n6_
   have BK382:=n7_
   have BK398:=n8_
   have BK403:=n9_
   have BK413:=n10_
   have GW413:=n11_
   have GE413:=n12_
   have NB381_413:=n13_
   have NB413_381:=n14_
   have NB382_413:=n15_
   have NB413_382:=n16_
   have NB398_413:=n17_
   have NB413_398:=n18_
   have NB403_413:=n19_
   have NB413_403:=n20_
   have HB:=n21_
   clear n0_ n1_ n2_ n3_ n4_ n5_ n6_ n7_ n8_ n9_ n10_ n11_ n12_ n13_ n14_ n15_ n16_ n17_ n18_ n19_ n20_ n21_
   have hHeld : w58.cell? ⟨gb403,0,none⟩ = some (.int .i64 t399) ∧ w58.cell? ⟨gb403,1,none⟩ = some (.slice Ao52 t400.length co52) ∧ w58.cell? ⟨gb382,0,none⟩ = some (.string a1_0) ∧ w58.cell? ⟨gb382,1,none⟩ = some (.string a1_1):=hS_
   obtain ⟨Ao60,co60,eo60⟩:=Kd.R_slice HO412.out
   (first|subst eo60|(injection eo60 with f1_ f2_ f3_;have f4_:=f1_.symm;have f5_:=f3_.symm;clear f1_ f2_ f3_;subst f4_;subst f5_))
   refine norm_ (a':=?_) ?_ ?_
   rotate_left
   ·
    simp only [putAll,Act.put,lA_,lB_,lC_]
    rfl
   refine pure_ (i:=9) (N:=some 11) (v:=?_) (a':=?_) #[Y,Y,Y,Y,Y,Y,Y,Y,Y,Y,Z] rfl rfl (any_of HT_.out (by kernel_rfl)) (fun _ _ _ h => h) (Or.inl ⟨by rfl,?_⟩) ?_ ?_
   rotate_left
   ·
    intro w'
    go_simp
    with_reducible rfl
   rotate_left
   ·
    simp only [Act.put,lA_,lB_,lC_,i64_w,i32_w]
    rfl
   refine one_ (i:=10) (N:=none) #[Y,Y,Y,Y,Y,Y,Y,Y,Y,Y,Y] rfl rfl (one_of HT_.out (by kernel_rfl)) (by decide) (fun K hK => ?_)
   have hs59 : w58.cell? ⟨gb413,0,none⟩ = some (.int .i64 0):=(zm6_ BK413.out 0).trans rfl
   have hfs59:=zm7_ BK413.out 0
   have hns59_0:=NB381_413.out
   have hns59_1:=NB382_413.out
   have hns59_2:=NB398_413.out
   have hns59_3:=NB403_413.out
   have hms59_0:=NB413_381.out
   have hms59_1:=NB413_382.out
   have hms59_2:=NB413_398.out
   have hms59_3:=NB413_403.out
   have hs61 : w58.cell? ⟨gb413,1,none⟩ = some (.slice none 0 0):=(zm6_ BK413.out 1).trans rfl
   have hfs61:=zm7_ BK413.out 1
   have hns61_0:=NB381_413.out
   have hns61_1:=NB382_413.out
   have hns61_2:=NB398_413.out
   have hns61_3:=NB403_413.out
   have hms61_0:=NB413_381.out
   have hms61_1:=NB413_382.out
   have hms61_2:=NB413_398.out
   have hms61_3:=NB413_403.out
   refine skip_ (w1:=?_) (by rfl) rfl ?_ ?_
   rotate_left
   ·
    go_simp
    rfl
   refine hK.out _ _ ⟨((cell_far (p:=⟨gb413,_,none⟩) NB403_413.out _).trans (((cell_far (p:=⟨gb413,_,none⟩) NB403_413.out _).trans (hHeld.1)))),((cell_far (p:=⟨gb413,_,none⟩) NB403_413.out _).trans (((cell_far (p:=⟨gb413,_,none⟩) NB403_413.out _).trans (hHeld.2.1)))),((cell_far (p:=⟨gb413,_,none⟩) NB382_413.out _).trans (((cell_far (p:=⟨gb413,_,none⟩) NB382_413.out _).trans (hHeld.2.2.1)))),((cell_far (p:=⟨gb413,_,none⟩) NB382_413.out _).trans (((cell_far (p:=⟨gb413,_,none⟩) NB382_413.out _).trans (hHeld.2.2.2))))⟩ (fun hHeld => ?_)
   clear hK K
   refine done_ (done_of HT_.out (by kernel_rfl)) ?_
   go_upto_region 11 with (fail)
   go_cut [56] (fun v56 wc => ∃ (kq : Nat) (x56_25 : Bool),v56 = .bool x56_25 ∧ Aside0 (laws_FnExactPutField.j0 kq a2 t391 t406 x56_25 a0_0 l0_1 a1_0 a1_1 t394 t395 t399 t400 t409 t410 = some r) ∧ Aside0 (kq ≤ k) ∧ Aside0 (Kd.R (Kd.int .u8) 5 wc w.heap.size (fun k_ => some k_ ≠ (v407 : Value).ownBlock) v392 t391) ∧ Aside0 (Kd.R (Kd.int .u8) 5 wc w.heap.size (fun k_ => some k_ ≠ (v392 : Value).ownBlock) v407 t406) ∧ Aside0 (Kd.R k36 36 wc w.heap.size (fun k_ => some k_ ≠ ((.slice Ao52 t400.length co52) : Value).ownBlock ∧ some k_ ≠ ((.slice Ao60 t410.length co60) : Value).ownBlock) (.slice Ao42 t395.length co42) t395) ∧ Aside0 (Kd.R k36 36 wc w.heap.size (fun k_ => some k_ ≠ ((.slice Ao42 t395.length co42) : Value).ownBlock ∧ some k_ ≠ ((.slice Ao60 t410.length co60) : Value).ownBlock) (.slice Ao52 t400.length co52) t400) ∧ Aside0 (Kd.R k36 36 wc w.heap.size (fun k_ => some k_ ≠ ((.slice Ao42 t395.length co42) : Value).ownBlock ∧ some k_ ≠ ((.slice Ao52 t400.length co52) : Value).ownBlock) (.slice Ao60 t410.length co60) t410) ∧ Aside0 (wc.heap[gb381]? = some (.cells #[.int .i64 a0_0,(.slice A0_1 l0_1.length c0_1)] 24 (0,0))) ∧ Aside0 (wc.heap[gb382]? = some (.cells #[.string a1_0,.string a1_1] 26 (0,0))) ∧ Aside0 (wc.heap[gb398]? = some (.cells #[.int .i64 t394,(.slice Ao42 t395.length co42)] 32 (0,0))) ∧ Aside0 (wc.heap[gb403]? = some (.cells #[.int .i64 t399,(.slice Ao52 t400.length co52)] 32 (0,0))) ∧ Aside0 (wc.heap[gb413]? = some (.cells #[.int .i64 t409,(.slice Ao60 t410.length co60)] 32 (0,0))) ∧ Aside0 (Below w.heap.size w wc))
   case first =>
    have H:=HC26.out
    clear HC26
    replace H:=zq1_ H
    obtain ⟨t414,A620,H⟩:=H
    replace H : (if t414 = true then ((laws_eqTable.f k t409 t410 t394 t395).bind fun t415 => (laws_FnExactPutField.j0 k a2 t391 t406 (!t415) a0_0 l0_1 a1_0 a1_1 t394 t395 t399 t400 t409 t410)) else (laws_FnExactPutField.j0 k a2 t391 t406 true a0_0 l0_1 a1_0 a1_1 t394 t395 t399 t400 t409 t410)) = some r:=H
    have A62:=zm0_ A620
    clear A620
    by_cases c63 : t414 = true
    ·
     subst c63
     rw [if_pos rfl] at H
     replace H:=zq1_ H
     obtain ⟨t415,A640,H⟩:=H
     replace H : (laws_FnExactPutField.j0 k a2 t391 t406 (!t415) a0_0 l0_1 a1_0 a1_1 t394 t395 t399 t400 t409 t410) = some r:=H
     have A64:=zm0_ A640
     clear A640
     have H':=zm0_ H
     clear H
     obtain ⟨Ao65,co65,eo65⟩:=Kd.R_slice HO408.out
     subst eo65
     obtain ⟨Ao66,co66,eo66⟩:=Kd.R_slice HO393.out
     subst eo66
     go_wp2_with (first|((with_reducible refine gate_callee (f:=11) rfl ?_);refine goesL_ (some 49) rfl rfl Tryz.func11 (by kernel_rfl) rfl #[.slice Ao65 t406.length co65,.slice Ao66 t391.length co66] rfl zy ?_;(with_reducible refine (laws_eqByteS.calls k _ _ t406 _ _ t391 true _ ?side1 ?side2 ?side3 ?side4 A62.out).mono ?_);(case side1 => refine (Kd.R_reads' (e:=5) (base:=w.heap.size) (ok:=fun k_ => some k_ ≠ (.slice Ao66 t391.length co66 : Value).ownBlock) (n:=t406.length) (c:=co65) ?_).2.2;exact (zs (zo2_ (k4_ (p:=⟨gb413,1,none⟩) (k4_ (p:=⟨gb413,0,none⟩) (Kd.R_types HO408.out BK413.out (by decide)) (fun _ hk => hk.2) (.int .i64 t409)) (fun _ hk => hk.2) (.slice Ao60 t410.length co60)) (fun _ h_ => h_.1))));(case side2 => exact (Kd.R_reads' HO408.out).2.1);(case side3 => refine (Kd.R_reads' (e:=5) (base:=w.heap.size) (ok:=fun k_ => some k_ ≠ (.slice Ao65 t406.length co65 : Value).ownBlock) (n:=t391.length) (c:=co66) ?_).2.2;exact (zs (zo2_ (k4_ (p:=⟨gb413,1,none⟩) (k4_ (p:=⟨gb413,0,none⟩) (Kd.R_types HO393.out BK413.out (by decide)) (fun _ hk => hk.2) (.int .i64 t409)) (fun _ hk => hk.2) (.slice Ao60 t410.length co60)) (fun _ h_ => h_.1))));(case side4 => exact (Kd.R_reads' HO393.out).2.1);rintro e w' ⟨rfl,⟨nd,rfl⟩⟩;refine ⟨_,rfl,?_⟩;have hnb67:=NB413_381.out;have hnc67:=NB381_413.out;have hnb68:=NB413_382.out;have hnc68:=NB382_413.out;have hnb69:=NB413_398.out;have hnc69:=NB398_413.out;have hnb70:=NB413_403.out;have hnc70:=NB403_413.out;have hcz71_0 : w58.cell? ⟨gb413,0,none⟩ = some (.int .i64 0):=(zm6_ BK413.out 0).trans rfl;have hcz71_1 : w58.cell? ⟨gb413,1,none⟩ = some (.slice none 0 0):=(zm6_ BK413.out 1).trans rfl;have hfz71_0:=zm7_ BK413.out 0;have hfz71_1:=zm7_ BK413.out 1;have hnb72:=NB398_381.out;have hnc72:=NB381_398.out;have hnb73:=NB398_382.out;have hnc73:=NB382_398.out;have hnb74:=NB398_403.out;have hnc74:=NB403_398.out;have hcz75_0 : w58.cell? ⟨gb398,0,none⟩ = some (.int .i64 t394):=(zm6_ BK398.out 0).trans rfl;have hcz75_1 : w58.cell? ⟨gb398,1,none⟩ = some (.slice Ao42 t395.length co42):=(zm6_ BK398.out 1).trans rfl;have hfz75_0:=zm7_ BK398.out 0;have hfz75_1:=zm7_ BK398.out 1)|(go_at_call 12;(with_reducible refine (laws_eqTable.calls k t409 _ _ t410 t394 _ _ t395 t415 _ ?side1 ?side2 ?side3 ?side4 A64.out).mono ?_);(case side1 => refine (Kd.R_reads' (e:=36) (base:=w.heap.size) (ok:=fun k_ => (some k_ ≠ (v387 : Value).ownBlock ∧ (some k_ ≠ (.slice Ao42 t395.length co42 : Value).ownBlock ∧ some k_ ≠ (.slice Ao52 t400.length co52 : Value).ownBlock))) (n:=t410.length) (c:=co60) ?_).2.2;exact (zs (zo2_ (k4_ (p:=⟨gb413,1,none⟩) (k4_ (p:=⟨gb413,0,none⟩) (Kd.R_types HO412.out BK413.out (by decide)) (fun _ hk => hk.2) (.int .i64 t409)) (fun _ hk => hk.2) (.slice Ao60 t410.length co60)) (fun _ h_ => h_.1))));(case side2 => exact (Kd.R_reads' HO412.out).2.1);(case side3 => refine (Kd.R_reads' (e:=36) (base:=w.heap.size) (ok:=fun k_ => (some k_ ≠ (v387 : Value).ownBlock ∧ (some k_ ≠ (.slice Ao52 t400.length co52 : Value).ownBlock ∧ some k_ ≠ (.slice Ao60 t410.length co60 : Value).ownBlock))) (n:=t395.length) (c:=co42) ?_).2.2;exact (zs (zo2_ (k4_ (p:=⟨gb413,1,none⟩) (k4_ (p:=⟨gb413,0,none⟩) (Kd.R_types HO397.out BK413.out (by decide)) (fun _ hk => hk.2) (.int .i64 t409)) (fun _ hk => hk.2) (.slice Ao60 t410.length co60)) (fun _ h_ => h_.1))));(case side4 => exact (Kd.R_reads' HO397.out).2.1);rintro e w76 ⟨rfl,hb⟩;replace HO388:=zm0_ (zm8_ (zs (zo2_ (k4_ (p:=⟨gb413,1,none⟩) (k4_ (p:=⟨gb413,0,none⟩) (Kd.R_types HO388.out BK413.out (by decide)) (fun _ hk => hk.2) (.int .i64 t409)) (fun _ hk => hk.2) (.slice Ao60 t410.length co60)) (fun _ h_ => h_.1))) hb);replace HO393:=zm0_ (zm8_ (zs (zo2_ (k4_ (p:=⟨gb413,1,none⟩) (k4_ (p:=⟨gb413,0,none⟩) (Kd.R_types HO393.out BK413.out (by decide)) (fun _ hk => hk.2) (.int .i64 t409)) (fun _ hk => hk.2) (.slice Ao60 t410.length co60)) (fun _ h_ => h_.1))) hb);replace HO397:=zm0_ (zm8_ (zs (zo2_ (k4_ (p:=⟨gb413,1,none⟩) (k4_ (p:=⟨gb413,0,none⟩) (Kd.R_types HO397.out BK413.out (by decide)) (fun _ hk => hk.2) (.int .i64 t409)) (fun _ hk => hk.2) (.slice Ao60 t410.length co60)) (fun _ h_ => h_.1))) hb);replace HO402:=zm0_ (zm8_ (zs (zo2_ (k4_ (p:=⟨gb413,1,none⟩) (k4_ (p:=⟨gb413,0,none⟩) (Kd.R_types HO402.out BK413.out (by decide)) (fun _ hk => hk.2) (.int .i64 t409)) (fun _ hk => hk.2) (.slice Ao60 t410.length co60)) (fun _ h_ => h_.1))) hb);replace HO408:=zm0_ (zm8_ (zs (zo2_ (k4_ (p:=⟨gb413,1,none⟩) (k4_ (p:=⟨gb413,0,none⟩) (Kd.R_types HO408.out BK413.out (by decide)) (fun _ hk => hk.2) (.int .i64 t409)) (fun _ hk => hk.2) (.slice Ao60 t410.length co60)) (fun _ h_ => h_.1))) hb);replace HO412:=zm0_ (zm8_ (zs (zo2_ (k4_ (p:=⟨gb413,1,none⟩) (k4_ (p:=⟨gb413,0,none⟩) (Kd.R_types HO412.out BK413.out (by decide)) (fun _ hk => hk.2) (.int .i64 t409)) (fun _ hk => hk.2) (.slice Ao60 t410.length co60)) (fun _ h_ => h_.1))) hb);replace BK381:=zm0_ (zm5_ (g:=gb381) (o:=.cells #[.int .i64 a0_0,.slice A0_1 l0_1.length c0_1] 24 (0,0)) (by (with_reducible repeat (first|refine k6_ ?_ _|refine k7_ ?_|refine k5_ ?_ _));refine blk_far ?_ NB381_413.out _;(with_reducible repeat (first|refine k6_ ?_ _|refine k7_ ?_|refine k5_ ?_ _));refine blk_far ?_ NB381_413.out _;(with_reducible repeat (first|refine k6_ ?_ _|refine k7_ ?_|refine k5_ ?_ _));exact BK381.out) hb);replace BK382:=zm0_ (zm5_ (g:=gb382) (o:=.cells #[.string a1_0,.string a1_1] 26 (0,0)) (by (with_reducible repeat (first|refine k6_ ?_ _|refine k7_ ?_|refine k5_ ?_ _));refine blk_far ?_ NB382_413.out _;(with_reducible repeat (first|refine k6_ ?_ _|refine k7_ ?_|refine k5_ ?_ _));refine blk_far ?_ NB382_413.out _;(with_reducible repeat (first|refine k6_ ?_ _|refine k7_ ?_|refine k5_ ?_ _));exact BK382.out) hb);replace BK398:=zm0_ (zm5_ (g:=gb398) (o:=.cells #[.int .i64 t394,.slice Ao42 t395.length co42] 32 (0,0)) (by (with_reducible repeat (first|refine k6_ ?_ _|refine k7_ ?_|refine k5_ ?_ _));refine blk_far ?_ NB398_413.out _;(with_reducible repeat (first|refine k6_ ?_ _|refine k7_ ?_|refine k5_ ?_ _));refine blk_far ?_ NB398_413.out _;(with_reducible repeat (first|refine k6_ ?_ _|refine k7_ ?_|refine k5_ ?_ _));exact BK398.out) hb);replace BK403:=zm0_ (zm5_ (g:=gb403) (o:=.cells #[.int .i64 t399,.slice Ao52 t400.length co52] 32 (0,0)) (by (with_reducible repeat (first|refine k6_ ?_ _|refine k7_ ?_|refine k5_ ?_ _));refine blk_far ?_ NB403_413.out _;(with_reducible repeat (first|refine k6_ ?_ _|refine k7_ ?_|refine k5_ ?_ _));refine blk_far ?_ NB403_413.out _;(with_reducible repeat (first|refine k6_ ?_ _|refine k7_ ?_|refine k5_ ?_ _));exact BK403.out) hb);replace BK413:=zm0_ (zm5_ (g:=gb413) (o:=.cells #[.int .i64 t409,.slice Ao60 t410.length co60] 32 (0,0)) (by (with_reducible repeat (first|refine k6_ ?_ _|refine k7_ ?_|refine k5_ ?_ _));refine blk_put (cs:=#[.int .i64 t409,.slice none 0 0]) ?_ 1 _ rfl;(with_reducible repeat (first|refine k6_ ?_ _|refine k7_ ?_|refine k5_ ?_ _));refine blk_put (cs:=#[.int .i64 0,.slice none 0 0]) ?_ 0 _ rfl;(with_reducible repeat (first|refine k6_ ?_ _|refine k7_ ?_|refine k5_ ?_ _));exact BK413.out) hb);replace HB:=zm0_ (zn8_ (zl5 HB GE381 GE382 GE398 GE403 GE413) hb);(try clear hb);(try clear hb2);(try clear hk);(try clear hi)))
     go_meet
     case rel => exact ⟨_,(!t415),zz,H',⟨by first|omega|exact Nat.le_refl _⟩,⟨zr HO393⟩,⟨zr HO408⟩,⟨by (with_reducible repeat (first|apply k1_|apply k2_|apply k3_));exact zo2_ HO397.out (fun _ hk => ⟨(by first|exact hk.2.1|(have hq_:=hk;simp only [ne_eq] at hq_ ⊢;simp only [hq_,not_false_eq_true,and_self])),(by first|exact hk.2.2|(have hq_:=hk;simp only [ne_eq] at hq_ ⊢;simp only [hq_,not_false_eq_true,and_self]))⟩)⟩,⟨by (with_reducible repeat (first|apply k1_|apply k2_|apply k3_));exact zo2_ HO402.out (fun _ hk => ⟨(by first|exact hk.2.1|(have hq_:=hk;simp only [ne_eq] at hq_ ⊢;simp only [hq_,not_false_eq_true,and_self])),(by first|exact hk.2.2|(have hq_:=hk;simp only [ne_eq] at hq_ ⊢;simp only [hq_,not_false_eq_true,and_self]))⟩)⟩,⟨by (with_reducible repeat (first|apply k1_|apply k2_|apply k3_));exact zo2_ HO412.out (fun _ hk => ⟨(by first|exact hk.2.1|(have hq_:=hk;simp only [ne_eq] at hq_ ⊢;simp only [hq_,not_false_eq_true,and_self])),(by first|exact hk.2.2|(have hq_:=hk;simp only [ne_eq] at hq_ ⊢;simp only [hq_,not_false_eq_true,and_self]))⟩)⟩,⟨zb BK381⟩,⟨zb BK382⟩,⟨zb BK398⟩,⟨zb BK403⟩,⟨zb BK413⟩,⟨zl5 HB GE381 GE382 GE398 GE403 GE413⟩⟩
    ·
     replace c63:=Bool.eq_false_iff.mpr c63
     subst c63
     rw [if_neg (show ¬ (false = true) by decide)] at H
     have H':=zm0_ H
     clear H
     obtain ⟨Ao77,co77,eo77⟩:=Kd.R_slice HO408.out
     subst eo77
     obtain ⟨Ao78,co78,eo78⟩:=Kd.R_slice HO393.out
     subst eo78
     go_wp2_with (first|((with_reducible refine gate_callee (f:=11) rfl ?_);refine goesL_ (some 49) rfl rfl Tryz.func11 (by kernel_rfl) rfl #[.slice Ao77 t406.length co77,.slice Ao78 t391.length co78] rfl zy ?_;(with_reducible refine (laws_eqByteS.calls k _ _ t406 _ _ t391 false _ ?side1 ?side2 ?side3 ?side4 A62.out).mono ?_);(case side1 => refine (Kd.R_reads' (e:=5) (base:=w.heap.size) (ok:=fun k_ => some k_ ≠ (.slice Ao78 t391.length co78 : Value).ownBlock) (n:=t406.length) (c:=co77) ?_).2.2;exact (zs (zo2_ (k4_ (p:=⟨gb413,1,none⟩) (k4_ (p:=⟨gb413,0,none⟩) (Kd.R_types HO408.out BK413.out (by decide)) (fun _ hk => hk.2) (.int .i64 t409)) (fun _ hk => hk.2) (.slice Ao60 t410.length co60)) (fun _ h_ => h_.1))));(case side2 => exact (Kd.R_reads' HO408.out).2.1);(case side3 => refine (Kd.R_reads' (e:=5) (base:=w.heap.size) (ok:=fun k_ => some k_ ≠ (.slice Ao77 t406.length co77 : Value).ownBlock) (n:=t391.length) (c:=co78) ?_).2.2;exact (zs (zo2_ (k4_ (p:=⟨gb413,1,none⟩) (k4_ (p:=⟨gb413,0,none⟩) (Kd.R_types HO393.out BK413.out (by decide)) (fun _ hk => hk.2) (.int .i64 t409)) (fun _ hk => hk.2) (.slice Ao60 t410.length co60)) (fun _ h_ => h_.1))));(case side4 => exact (Kd.R_reads' HO393.out).2.1);rintro e w' ⟨rfl,⟨nd,rfl⟩⟩;refine ⟨_,rfl,?_⟩))
     go_meet
     case rel => exact ⟨_,(true),zz,H',⟨by first|omega|exact Nat.le_refl _⟩,⟨by (with_reducible repeat (first|apply k1_|apply k2_|apply k3_));exact zo2_ (k4_ (p:=⟨gb413,1,none⟩) (k4_ (p:=⟨gb413,0,none⟩) (Kd.R_types HO393.out BK413.out (by decide)) (fun _ hk => hk.2) (.int .i64 t409)) (fun _ hk => hk.2) (.slice Ao60 t410.length co60)) (fun _ hk => (by first|exact hk.1|(have hq_:=hk;simp only [ne_eq] at hq_ ⊢;simp only [hq_,not_false_eq_true,and_self])))⟩,⟨by (with_reducible repeat (first|apply k1_|apply k2_|apply k3_));exact zo2_ (k4_ (p:=⟨gb413,1,none⟩) (k4_ (p:=⟨gb413,0,none⟩) (Kd.R_types HO408.out BK413.out (by decide)) (fun _ hk => hk.2) (.int .i64 t409)) (fun _ hk => hk.2) (.slice Ao60 t410.length co60)) (fun _ hk => (by first|exact hk.1|(have hq_:=hk;simp only [ne_eq] at hq_ ⊢;simp only [hq_,not_false_eq_true,and_self])))⟩,⟨by (with_reducible repeat (first|apply k1_|apply k2_|apply k3_));exact zo2_ (k4_ (p:=⟨gb413,1,none⟩) (k4_ (p:=⟨gb413,0,none⟩) (Kd.R_types HO397.out BK413.out (by decide)) (fun _ hk => hk.2) (.int .i64 t409)) (fun _ hk => hk.2) (.slice Ao60 t410.length co60)) (fun _ hk => ⟨(by first|exact hk.1.2.1|(have hq_:=hk;simp only [ne_eq] at hq_ ⊢;simp only [hq_,not_false_eq_true,and_self])),(by first|exact hk.1.2.2|(have hq_:=hk;simp only [ne_eq] at hq_ ⊢;simp only [hq_,not_false_eq_true,and_self]))⟩)⟩,⟨by (with_reducible repeat (first|apply k1_|apply k2_|apply k3_));exact zo2_ (k4_ (p:=⟨gb413,1,none⟩) (k4_ (p:=⟨gb413,0,none⟩) (Kd.R_types HO402.out BK413.out (by decide)) (fun _ hk => hk.2) (.int .i64 t409)) (fun _ hk => hk.2) (.slice Ao60 t410.length co60)) (fun _ hk => ⟨(by first|exact hk.1.2.1|(have hq_:=hk;simp only [ne_eq] at hq_ ⊢;simp only [hq_,not_false_eq_true,and_self])),(by first|exact hk.1.2.2|(have hq_:=hk;simp only [ne_eq] at hq_ ⊢;simp only [hq_,not_false_eq_true,and_self]))⟩)⟩,⟨by (with_reducible repeat (first|apply k1_|apply k2_|apply k3_));exact zo2_ (k4_ (p:=⟨gb413,1,none⟩) (k4_ (p:=⟨gb413,0,none⟩) (Kd.R_types HO412.out BK413.out (by decide)) (fun _ hk => hk.2) (.int .i64 t409)) (fun _ hk => hk.2) (.slice Ao60 t410.length co60)) (fun _ hk => ⟨(by first|exact hk.1.2.1|(have hq_:=hk;simp only [ne_eq] at hq_ ⊢;simp only [hq_,not_false_eq_true,and_self])),(by first|exact hk.1.2.2|(have hq_:=hk;simp only [ne_eq] at hq_ ⊢;simp only [hq_,not_false_eq_true,and_self]))⟩)⟩,⟨by (with_reducible repeat (first|refine k6_ ?_ _|refine k7_ ?_|refine k5_ ?_ _));refine blk_far ?_ NB381_413.out _;(with_reducible repeat (first|refine k6_ ?_ _|refine k7_ ?_|refine k5_ ?_ _));refine blk_far ?_ NB381_413.out _;(with_reducible repeat (first|refine k6_ ?_ _|refine k7_ ?_|refine k5_ ?_ _));exact BK381.out⟩,⟨by (with_reducible repeat (first|refine k6_ ?_ _|refine k7_ ?_|refine k5_ ?_ _));refine blk_far ?_ NB382_413.out _;(with_reducible repeat (first|refine k6_ ?_ _|refine k7_ ?_|refine k5_ ?_ _));refine blk_far ?_ NB382_413.out _;(with_reducible repeat (first|refine k6_ ?_ _|refine k7_ ?_|refine k5_ ?_ _));exact BK382.out⟩,⟨by (with_reducible repeat (first|refine k6_ ?_ _|refine k7_ ?_|refine k5_ ?_ _));refine blk_far ?_ NB398_413.out _;(with_reducible repeat (first|refine k6_ ?_ _|refine k7_ ?_|refine k5_ ?_ _));refine blk_far ?_ NB398_413.out _;(with_reducible repeat (first|refine k6_ ?_ _|refine k7_ ?_|refine k5_ ?_ _));exact BK398.out⟩,⟨by (with_reducible repeat (first|refine k6_ ?_ _|refine k7_ ?_|refine k5_ ?_ _));refine blk_far ?_ NB403_413.out _;(with_reducible repeat (first|refine k6_ ?_ _|refine k7_ ?_|refine k5_ ?_ _));refine blk_far ?_ NB403_413.out _;(with_reducible repeat (first|refine k6_ ?_ _|refine k7_ ?_|refine k5_ ?_ _));exact BK403.out⟩,⟨by (with_reducible repeat (first|refine k6_ ?_ _|refine k7_ ?_|refine k5_ ?_ _));refine blk_put (cs:=#[.int .i64 t409,.slice none 0 0]) ?_ 1 _ rfl;(with_reducible repeat (first|refine k6_ ?_ _|refine k7_ ?_|refine k5_ ?_ _));refine blk_put (cs:=#[.int .i64 0,.slice none 0 0]) ?_ 0 _ rfl;(with_reducible repeat (first|refine k6_ ?_ _|refine k7_ ?_|refine k5_ ?_ _));exact BK413.out⟩,⟨zl5 HB GE381 GE382 GE398 GE403 GE413⟩⟩
   case rest =>
    clear HC26
    try clear c1
    try clear p2
    try clear c6
    try clear c7
    try clear c9
    try clear c10
    try clear c11
    try clear c63
    try clear c67
    try clear c68
    try clear c69
    try clear c70
    try clear c72
    try clear c73
    try clear c74
    try clear hcz71_0
    try clear hcz71_1
    try clear hcz75_0
    try clear hcz75_1
    try clear hfz71_0
    try clear hfz71_1
    try clear hfz75_0
    try clear hfz75_1
    obtain ⟨kq,x56_25,rfl,HA,HJ25,HO_8,HO_11,HO_399001,HO_404001,HO_414001,BK381,BK382,BK398,BK403,BK413,HB⟩:=hcut
    cases kq with
    | zero => exact absurd HA.out (by simp [laws_FnExactPutField.j0])
    | succ kj25 =>
     have H:=HA.out
     clear HA
     simp only [laws_FnExactPutField.j0] at H
     by_cases c79 : x56_25 = true
     ·
      subst c79
      rw [if_pos rfl] at H
      exact absurd H (by simp)
     ·
      replace c79:=Bool.eq_false_iff.mpr c79
      subst c79
      rw [if_neg (show ¬ (false = true) by decide)] at H
      replace H:=zq1_ H
      obtain ⟨⟨t416,t417⟩,A800,H⟩:=H
      replace H : ((laws_eqTable.f kj25 t399 t400 t416 t417).bind fun t420 => (if t420 = true then ((laws_markTable.f kj25 t399 t400 1).bind fun bt421 => (if bt421.1 < 0 then (laws_FnExactPutField.j1 kj25 a2 t391 t406 true a0_0 l0_1 a1_0 a1_1 t394 t395 t409 t410) else ((laws_eqByteS.f kj25 t406 t391).bind fun t423 => (if t423 = true then ((laws_eqTable.f kj25 t409 t410 t394 t395).bind fun t424 => (laws_FnExactPutField.j1 kj25 a2 t391 t406 (!t424) a0_0 l0_1 a1_0 a1_1 t394 t395 t409 t410)) else (laws_FnExactPutField.j1 kj25 a2 t391 t406 true a0_0 l0_1 a1_0 a1_1 t394 t395 t409 t410))))) else (none))) = some r:=H
      have A80:=zm0_ A800
      clear A800
      replace H:=zq1_ H
      obtain ⟨t420,A810,H⟩:=H
      replace H : (if t420 = true then ((laws_markTable.f kj25 t399 t400 1).bind fun bt421 => (if bt421.1 < 0 then (laws_FnExactPutField.j1 kj25 a2 t391 t406 true a0_0 l0_1 a1_0 a1_1 t394 t395 t409 t410) else ((laws_eqByteS.f kj25 t406 t391).bind fun t423 => (if t423 = true then ((laws_eqTable.f kj25 t409 t410 t394 t395).bind fun t424 => (laws_FnExactPutField.j1 kj25 a2 t391 t406 (!t424) a0_0 l0_1 a1_0 a1_1 t394 t395 t409 t410)) else (laws_FnExactPutField.j1 kj25 a2 t391 t406 true a0_0 l0_1 a1_0 a1_1 t394 t395 t409 t410))))) else (none)) = some r:=H
      have A81:=zm0_ A810
      clear A810
      by_cases c82 : t420 = true
      ·
       subst c82
       rw [if_pos rfl] at H
       replace H:=zq1_ H
       obtain ⟨⟨t421,t422⟩,A830,H⟩:=H
       replace H : (if t421 < 0 then (laws_FnExactPutField.j1 kj25 a2 t391 t406 true a0_0 l0_1 a1_0 a1_1 t394 t395 t409 t410) else ((laws_eqByteS.f kj25 t406 t391).bind fun t423 => (if t423 = true then ((laws_eqTable.f kj25 t409 t410 t394 t395).bind fun t424 => (laws_FnExactPutField.j1 kj25 a2 t391 t406 (!t424) a0_0 l0_1 a1_0 a1_1 t394 t395 t409 t410)) else (laws_FnExactPutField.j1 kj25 a2 t391 t406 true a0_0 l0_1 a1_0 a1_1 t394 t395 t409 t410)))) = some r:=H
       have A83:=zm0_ A830
       clear A830
       have HC84:=zm0_ H
       clear H
       try go_wp2
       replace HO_8:=zm0_ (k3_ HO_8.out)
       replace HO_11:=zm0_ (k3_ HO_11.out)
       replace HO_399001:=zm0_ (k3_ HO_399001.out)
       replace HO_404001:=zm0_ (k3_ HO_404001.out)
       replace HO_414001:=zm0_ (k3_ HO_414001.out)
       replace BK381:=zm0_ (k7_ BK381.out)
       replace BK382:=zm0_ (k7_ BK382.out)
       replace BK398:=zm0_ (k7_ BK398.out)
       replace BK403:=zm0_ (k7_ BK403.out)
       replace BK413:=zm0_ (k7_ BK413.out)
       replace HB:=zm0_ (zm4_ HB.out)
       refine start_ (n:=5) (S:=fun w' => w'.cell? ⟨gb403,0,none⟩ = some (.int .i64 t399) ∧ w'.cell? ⟨gb403,1,none⟩ = some (.slice Ao52 t400.length co52) ∧ w'.cell? ⟨gb381,0,none⟩ = some (.int .i64 a0_0) ∧ w'.cell? ⟨gb381,1,none⟩ = some (.slice A0_1 l0_1.length c0_1)) (ds:=[]) #[Z,Z,Z,Z,Z] (by kernel_rfl) rfl rfl ⟨(zm6_ BK403.out 0).trans rfl,(zm6_ BK403.out 1).trans rfl,(zm6_ BK381.out 0).trans rfl,(zm6_ BK381.out 1).trans rfl⟩ (fun hHeld => ?_)
       generalize wc.drew = w85 at HO_8 HO_11 HO_399001 HO_404001 HO_414001 BK381 BK382 BK398 BK403 BK413 HB hHeld ⊢
       refine take_ (i:=0) (N:=some 57) (v:=?_) (a':=?_) #[Y,Z,Z,Z,Z] rfl rfl (by kernel_rfl) (fun _ _ _ h => h) (Or.inl ⟨by rfl,?_⟩) hHeld ?_ ?_
       rotate_left
       ·
        rintro w' ⟨s0,s1,s2,s3⟩
        go_simp
        with_reducible rfl
       rotate_left
       ·
        simp only [Act.put,lA_,lB_,lC_,i64_w,i32_w]
        rfl
       refine take_ (i:=1) (N:=some 58) (v:=?_) (a':=?_) #[Y,Y,Z,Z,Z] rfl rfl (by kernel_rfl) (fun _ _ _ h => h) (Or.inl ⟨by rfl,?_⟩) hHeld ?_ ?_
       rotate_left
       ·
        rintro w' ⟨s0,s1,s2,s3⟩
        go_simp
        with_reducible rfl
       rotate_left
       ·
        simp only [Act.put,lA_,lB_,lC_,i64_w,i32_w]
        rfl
       refine one_ (i:=2) (N:=some 59) #[Y,Y,Y,Z,Z] rfl rfl (by kernel_rfl) (by decide) (fun K hK => ?_)
       refine goes_ Tryz.func8 (by kernel_rfl) rfl #[.agg #[.int .i64 a0_0,.slice A0_1 l0_1.length c0_1]] (by rfl) rfl rfl zy ?_
       with_reducible refine (laws_toTable.calls kj25 a0_0 _ _ l0_1 t416 t417 _ ?side1 ?side2 A80.out).mono ?_
       (case side1 => repeat (first|exact (Kd.C_below HR0_1.out HB.out)|(with_reducible refine Kd.C_alloc ?_ _)|(with_reducible refine Kd.C_drewN ?_ _)|(with_reducible refine Kd.C_drew ?_)))
       (case side2 => exact HC0_1.out)
       rintro e w86 ⟨v418,rfl,ho0,hb⟩
       refine ⟨_,rfl,?_⟩
       replace HO_8:=zm0_ (zm8_ (zr HO_8) hb)
       replace HO_11:=zm0_ (zm8_ (zr HO_11) hb)
       have HO419:=zm0_ (zo1_ (Kd.R_new' (Kd.R_new' (Kd.R_new' ho0 (Kd.R_lt (zr HO_399001))) (Kd.R_lt (zr HO_404001))) (Kd.R_lt (zr HO_414001))) (zn9_ (zl5 HB GE381 GE382 GE398 GE403 GE413)))
       replace HO_399001:=zm0_ (Kd.R_elder' (zr HO_399001) (Kd.R_base ho0) hb)
       replace HO_404001:=zm0_ (Kd.R_elder' (zr HO_404001) (Kd.R_base ho0) hb)
       replace HO_414001:=zm0_ (Kd.R_elder' (zr HO_414001) (Kd.R_base ho0) hb)
       replace BK381:=zm0_ (zm5_ (zb BK381) hb)
       replace BK382:=zm0_ (zm5_ (zb BK382) hb)
       replace BK398:=zm0_ (zm5_ (zb BK398) hb)
       replace BK403:=zm0_ (zm5_ (zb BK403) hb)
       replace BK413:=zm0_ (zm5_ (zb BK413) hb)
       replace HB:=zm0_ (zn8_ (zl5 HB GE381 GE382 GE398 GE403 GE413) hb)
       (try clear hb)
       (try clear hb2)
       (try clear hk)
       (try clear hi)
       (try clear ho0)
       obtain ⟨Ao87,co87,eo87⟩:=Kd.R_slice HO419.out
       (first|subst eo87|(injection eo87 with f1_ f2_ f3_;have f4_:=f1_.symm;have f5_:=f3_.symm;clear f1_ f2_ f3_;subst f4_;subst f5_))
       refine hK.out _ _ ⟨(zm6_ BK403.out 0).trans rfl,(zm6_ BK403.out 1).trans rfl,(zm6_ BK381.out 0).trans rfl,(zm6_ BK381.out 1).trans rfl⟩ (fun hHeld => ?_)
       clear hK K
       refine norm_ (a':=?_) ?_ ?_
       rotate_left
       ·
        show Act.put _ (some 59) _ = _
        simp only [Act.put,lA_,lB_,lC_,i64_w,i32_w]
        rfl
       refine one_ (i:=3) (N:=some 60) #[Y,Y,Y,Y,Z] rfl rfl (by kernel_rfl) (by decide) (fun K hK => ?_)
       refine goes_ Tryz.func12 (by kernel_rfl) rfl #[.agg #[.int .i64 t399,.slice Ao52 t400.length co52],.agg #[.int .i64 t416,.slice Ao87 t417.length co87]] (by rfl) rfl rfl zy ?_
       with_reducible refine (laws_eqTable.calls kj25 t399 _ _ t400 t416 _ _ t417 true _ ?side1 ?side2 ?side3 ?side4 A81.out).mono ?_
       (case side1 => repeat (first|exact (Kd.R_reads' HO_404001.out).2.2|(with_reducible refine Kd.C_alloc ?_ _)|(with_reducible refine Kd.C_drewN ?_ _)|(with_reducible refine Kd.C_drew ?_)))
       (case side2 => exact (Kd.R_reads' HO_404001.out).2.1)
       (case side3 => repeat (first|exact (Kd.R_reads' HO419.out).2.2|(with_reducible refine Kd.C_alloc ?_ _)|(with_reducible refine Kd.C_drewN ?_ _)|(with_reducible refine Kd.C_drew ?_)))
       (case side4 => exact (Kd.R_reads' HO419.out).2.1)
       rintro e w88 ⟨rfl,hb⟩
       refine ⟨_,rfl,?_⟩
       replace HO_8:=zm0_ (zm8_ (zr HO_8) hb)
       replace HO_11:=zm0_ (zm8_ (zr HO_11) hb)
       replace HO_399001:=zm0_ (zm8_ (zr HO_399001) hb)
       replace HO_404001:=zm0_ (zm8_ (zr HO_404001) hb)
       replace HO_414001:=zm0_ (zm8_ (zr HO_414001) hb)
       replace HO419:=zm0_ (zm8_ (zr HO419) hb)
       replace BK381:=zm0_ (zm5_ (zb BK381) hb)
       replace BK382:=zm0_ (zm5_ (zb BK382) hb)
       replace BK398:=zm0_ (zm5_ (zb BK398) hb)
       replace BK403:=zm0_ (zm5_ (zb BK403) hb)
       replace BK413:=zm0_ (zm5_ (zb BK413) hb)
       replace HB:=zm0_ (zn8_ (zl5 HB GE381 GE382 GE398 GE403 GE413) hb)
       (try clear hb)
       (try clear hb2)
       (try clear hk)
       (try clear hi)
       refine hK.out _ _ ⟨(zm6_ BK403.out 0).trans rfl,(zm6_ BK403.out 1).trans rfl,(zm6_ BK381.out 0).trans rfl,(zm6_ BK381.out 1).trans rfl⟩ (fun hHeld => ?_)
       clear hK K
       refine norm_ (a':=?_) ?_ ?_
       rotate_left
       ·
        show Act.put _ (some 60) _ = _
        simp only [Act.put,lA_,lB_,lC_,i64_w,i32_w]
        rfl
       refine pure_ (i:=4) (N:=some 61) (v:=?_) (a':=?_) #[Y,Y,Y,Y,Y] rfl rfl (by kernel_rfl) (fun _ _ _ h => h) (Or.inl ⟨by rfl,?_⟩) ?_ ?_
       rotate_left
       ·
        intro w'
        go_simp
        with_reducible rfl
       rotate_left
       ·
        simp only [Act.put,lA_,lB_,lC_,i64_w,i32_w]
        rfl
       refine done_ (by kernel_rfl) ?_
       have hnb89:=NB403_381.out
       have hnc89:=NB381_403.out
       have hnb90:=NB403_382.out
       have hnc90:=NB382_403.out
       have hnb91:=NB403_398.out
       have hnc91:=NB398_403.out
       have hnb92:=NB403_413.out
       have hnc92:=NB413_403.out
       have hcz93_0 : w88.cell? ⟨gb403,0,none⟩ = some (.int .i64 t399):=(zm6_ BK403.out 0).trans rfl
       have hcz93_1 : w88.cell? ⟨gb403,1,none⟩ = some (.slice Ao52 t400.length co52):=(zm6_ BK403.out 1).trans rfl
       have hfz93_0:=zm7_ BK403.out 0
       have hfz93_1:=zm7_ BK403.out 1
       go_upto_region 17 with (first|((with_reducible refine gate_callee (f:=13) rfl ?_);refine goesL_ (some 64) rfl rfl Tryz.func13 (by kernel_rfl) rfl #[.agg #[.int .i64 t399,.slice Ao52 t400.length co52],.int .i64 1] rfl zy ?_;(with_reducible refine (laws_markTable.calls kj25 t399 (fun k_ => some k_ = (.slice Ao52 t400.length co52 : Value).ownBlock) (.slice Ao52 t400.length co52) t400 1 t421 t422 w _ ?side1 ?side2 A83.out).mono ?_);(case side1 => repeat (first|(with_reducible first|exact HB.out|apply zm3_|apply zm2_|apply zm4_|refine zm1_ ?_ GE381.out|refine zm1_ ?_ GE382.out|refine zm1_ ?_ GE398.out|refine zm1_ ?_ GE403.out|refine zm1_ ?_ GE413.out)|exact HB.out));(case side2 => exact Kd.R_tight rfl HO_404001.out);rintro e w94 ⟨rfl,hy0,hb,hkp⟩;refine ⟨_,rfl,?_⟩;replace HO_8:=zm0_ (zo2_ (ok':=fun k_ => some k_ ≠ (v407 : Value).ownBlock) (Kd.R_keptB ((Kd.R_apart' HO_8.out (Kd.R_typed HO_404001.out) (by decide))) hkp (fun k_ hk_ hs_ => absurd hs_ ((by first|exact hk_.2|(have hq_:=hk_;simp only [ne_eq] at hq_ ⊢;simp only [hq_,not_false_eq_true,and_self]))))) (fun k_ hk_ => (by first|exact hk_.1.1|(have hq_:=hk_.1;simp only [ne_eq] at hq_ ⊢;simp only [hq_,not_false_eq_true,and_self]))));replace HO_11:=zm0_ (zo2_ (ok':=fun k_ => some k_ ≠ (v392 : Value).ownBlock) (Kd.R_keptB ((Kd.R_apart' HO_11.out (Kd.R_typed HO_404001.out) (by decide))) hkp (fun k_ hk_ hs_ => absurd hs_ ((by first|exact hk_.2|(have hq_:=hk_;simp only [ne_eq] at hq_ ⊢;simp only [hq_,not_false_eq_true,and_self]))))) (fun k_ hk_ => (by first|exact hk_.1.1|(have hq_:=hk_.1;simp only [ne_eq] at hq_ ⊢;simp only [hq_,not_false_eq_true,and_self]))));replace HO_399001:=zm0_ (zo2_ (ok':=fun k_ => some k_ ≠ (.slice Ao52 t400.length co52 : Value).ownBlock ∧ some k_ ≠ (.slice Ao60 t410.length co60 : Value).ownBlock ∧ some k_ ≠ (.slice Ao87 t417.length co87 : Value).ownBlock) (Kd.R_keptB (HO_399001.out) hkp (fun k_ hk_ hs_ => absurd hs_ ((by first|exact hk_.1.1|(have hq_:=hk_;simp only [ne_eq] at hq_ ⊢;simp only [hq_,not_false_eq_true,and_self]))))) (fun k_ hk_ => ⟨(by first|exact hk_.1.1.1|(have hq_:=hk_.1;simp only [ne_eq] at hq_ ⊢;simp only [hq_,not_false_eq_true,and_self])),(by first|exact hk_.1.1.2|(have hq_:=hk_.1;simp only [ne_eq] at hq_ ⊢;simp only [hq_,not_false_eq_true,and_self])),(by first|exact hk_.1.2|(have hq_:=hk_.1;simp only [ne_eq] at hq_ ⊢;simp only [hq_,not_false_eq_true,and_self]))⟩));replace HO_414001:=zm0_ (zo2_ (ok':=fun k_ => some k_ ≠ (.slice Ao42 t395.length co42 : Value).ownBlock ∧ some k_ ≠ (.slice Ao52 t400.length co52 : Value).ownBlock ∧ some k_ ≠ (.slice Ao87 t417.length co87 : Value).ownBlock) (Kd.R_keptB (HO_414001.out) hkp (fun k_ hk_ hs_ => absurd hs_ ((by first|exact hk_.1.2|(have hq_:=hk_;simp only [ne_eq] at hq_ ⊢;simp only [hq_,not_false_eq_true,and_self]))))) (fun k_ hk_ => ⟨(by first|exact hk_.1.1.1|(have hq_:=hk_.1;simp only [ne_eq] at hq_ ⊢;simp only [hq_,not_false_eq_true,and_self])),(by first|exact hk_.1.1.2|(have hq_:=hk_.1;simp only [ne_eq] at hq_ ⊢;simp only [hq_,not_false_eq_true,and_self])),(by first|exact hk_.1.2|(have hq_:=hk_.1;simp only [ne_eq] at hq_ ⊢;simp only [hq_,not_false_eq_true,and_self]))⟩));replace BK381:=zm0_ (blk_kept (zb BK381) hkp (fun hs_ => (fun e_ => (Kd.R_ne HO_404001.out BK381.out (by decide)) e_) hs_));replace BK382:=zm0_ (blk_kept (zb BK382) hkp (fun hs_ => (fun e_ => (Kd.R_ne HO_404001.out BK382.out (by decide)) e_) hs_));replace BK398:=zm0_ (blk_kept (zb BK398) hkp (fun hs_ => (fun e_ => (Kd.R_ne HO_404001.out BK398.out (by decide)) e_) hs_));replace BK403:=zm0_ (blk_kept (zb BK403) hkp (fun hs_ => (fun e_ => (Kd.R_ne HO_404001.out BK403.out (by decide)) e_) hs_));replace BK413:=zm0_ (blk_kept (zb BK413) hkp (fun hs_ => (fun e_ => (Kd.R_ne HO_404001.out BK413.out (by decide)) e_) hs_));replace HO_404001:=zm0_ (Kd.R_reok rfl hy0 (fun k_ e_ => HO_404001.out.1 k_ e_));replace HO419:=zm0_ (zo2_ (ok':=fun k_ => some k_ ≠ (.slice Ao42 t395.length co42 : Value).ownBlock ∧ some k_ ≠ (.slice Ao52 t400.length co52 : Value).ownBlock ∧ some k_ ≠ (.slice Ao60 t410.length co60 : Value).ownBlock) (Kd.R_keptB (HO419.out) hkp (fun k_ hk_ hs_ => absurd hs_ ((by first|exact hk_.1.2|(have hq_:=hk_;simp only [ne_eq] at hq_ ⊢;simp only [hq_,not_false_eq_true,and_self]))))) (fun k_ hk_ => ⟨(by first|exact hk_.1.1.1.2|(have hq_:=hk_.1;simp only [ne_eq] at hq_ ⊢;simp only [hq_,not_false_eq_true,and_self])),(by first|exact hk_.1.1.2|(have hq_:=hk_.1;simp only [ne_eq] at hq_ ⊢;simp only [hq_,not_false_eq_true,and_self])),(by first|exact hk_.1.2|(have hq_:=hk_.1;simp only [ne_eq] at hq_ ⊢;simp only [hq_,not_false_eq_true,and_self]))⟩));replace HB:=zm0_ (hb);(try clear hb);(try clear hkp);(try clear hy0)))
       (try simp only [Act.put,lA_,lB_,lC_])
       go_cut [78] (fun v78 wc => ∃ (kq : Nat) (x78_83 : Bool),v78 = .bool x78_83 ∧ Aside0 (laws_FnExactPutField.j1 kq a2 t391 t406 x78_83 a0_0 l0_1 a1_0 a1_1 t394 t395 t409 t410 = some r) ∧ Aside0 (kq ≤ kj25) ∧ Aside0 (Kd.R (Kd.int .u8) 5 wc w.heap.size (fun k_ => some k_ ≠ (v407 : Value).ownBlock) v392 t391) ∧ Aside0 (Kd.R (Kd.int .u8) 5 wc w.heap.size (fun k_ => some k_ ≠ (v392 : Value).ownBlock) v407 t406) ∧ Aside0 (Kd.R k36 36 wc w.heap.size (fun k_ => some k_ ≠ ((.slice Ao52 t400.length co52) : Value).ownBlock ∧ some k_ ≠ ((.slice Ao60 t410.length co60) : Value).ownBlock) (.slice Ao42 t395.length co42) t395) ∧ Aside0 (Kd.R k36 36 wc w.heap.size (fun k_ => some k_ ≠ ((.slice Ao42 t395.length co42) : Value).ownBlock ∧ some k_ ≠ ((.slice Ao60 t410.length co60) : Value).ownBlock) (.slice Ao52 t400.length co52) t422) ∧ Aside0 (Kd.R k36 36 wc w.heap.size (fun k_ => some k_ ≠ ((.slice Ao42 t395.length co42) : Value).ownBlock ∧ some k_ ≠ ((.slice Ao52 t400.length co52) : Value).ownBlock) (.slice Ao60 t410.length co60) t410) ∧ Aside0 (wc.heap[gb381]? = some (.cells #[.int .i64 a0_0,(.slice A0_1 l0_1.length c0_1)] 24 (0,0))) ∧ Aside0 (wc.heap[gb382]? = some (.cells #[.string a1_0,.string a1_1] 26 (0,0))) ∧ Aside0 (wc.heap[gb398]? = some (.cells #[.int .i64 t394,(.slice Ao42 t395.length co42)] 32 (0,0))) ∧ Aside0 (wc.heap[gb403]? = some (.cells #[.int .i64 t399,(.slice Ao52 t400.length co52)] 32 (0,0))) ∧ Aside0 (wc.heap[gb413]? = some (.cells #[.int .i64 t409,(.slice Ao60 t410.length co60)] 32 (0,0))) ∧ Aside0 (Below w.heap.size w wc))
       case first =>
        have H:=HC84.out
        clear HC84
        by_cases c95 : t421 < 0
        ·
         rw [if_pos c95] at H
         have c95b0 : decide (t421 < 0) = true:=decide_eq_true c95
         clear c95
         (first|rw [c95b0]|(simp only [i64_w,i32_w];rw [c95b0])|rw [c95b1]|skip)
         have H':=zm0_ H
         clear H
         go_wp2
         go_meet
         case rel => exact ⟨_,(true),zz,H',⟨by have:=HJ25.out;first|omega|exact Nat.le_refl _⟩,⟨zr HO_8⟩,⟨zr HO_11⟩,⟨by (with_reducible repeat (first|apply k1_|apply k2_|apply k3_));exact zo2_ HO_399001.out (fun _ hk => ⟨(by first|exact hk.1|(have hq_:=hk;simp only [ne_eq] at hq_ ⊢;simp only [hq_,not_false_eq_true,and_self])),(by first|exact hk.2.1|(have hq_:=hk;simp only [ne_eq] at hq_ ⊢;simp only [hq_,not_false_eq_true,and_self]))⟩)⟩,⟨by (with_reducible repeat (first|apply k1_|apply k2_|apply k3_));exact zo2_ HO_404001.out (fun _ hk => ⟨(by first|exact hk.1.1|(have hq_:=hk;simp only [ne_eq] at hq_ ⊢;simp only [hq_,not_false_eq_true,and_self])),(by first|exact hk.1.2|(have hq_:=hk;simp only [ne_eq] at hq_ ⊢;simp only [hq_,not_false_eq_true,and_self]))⟩)⟩,⟨by (with_reducible repeat (first|apply k1_|apply k2_|apply k3_));exact zo2_ HO_414001.out (fun _ hk => ⟨(by first|exact hk.1|(have hq_:=hk;simp only [ne_eq] at hq_ ⊢;simp only [hq_,not_false_eq_true,and_self])),(by first|exact hk.2.1|(have hq_:=hk;simp only [ne_eq] at hq_ ⊢;simp only [hq_,not_false_eq_true,and_self]))⟩)⟩,⟨zb BK381⟩,⟨zb BK382⟩,⟨zb BK398⟩,⟨zb BK403⟩,⟨zb BK413⟩,⟨zl5 HB GE381 GE382 GE398 GE403 GE413⟩⟩
        ·
         rw [if_neg c95] at H
         have c95b0 : decide (t421 < 0) = false:=decide_eq_false c95
         clear c95
         (first|rw [c95b0]|(simp only [i64_w,i32_w];rw [c95b0])|rw [c95b1]|skip)
         replace H:=zq1_ H
         obtain ⟨t423,A960,H⟩:=H
         replace H : (if t423 = true then ((laws_eqTable.f kj25 t409 t410 t394 t395).bind fun t424 => (laws_FnExactPutField.j1 kj25 a2 t391 t406 (!t424) a0_0 l0_1 a1_0 a1_1 t394 t395 t409 t410)) else (laws_FnExactPutField.j1 kj25 a2 t391 t406 true a0_0 l0_1 a1_0 a1_1 t394 t395 t409 t410)) = some r:=H
         have A96:=zm0_ A960
         clear A960
         by_cases c97 : t423 = true
         ·
          subst c97
          rw [if_pos rfl] at H
          replace H:=zq1_ H
          obtain ⟨t424,A980,H⟩:=H
          replace H : (laws_FnExactPutField.j1 kj25 a2 t391 t406 (!t424) a0_0 l0_1 a1_0 a1_1 t394 t395 t409 t410) = some r:=H
          have A98:=zm0_ A980
          clear A980
          have H':=zm0_ H
          clear H
          obtain ⟨Ao99,co99,eo99⟩:=Kd.R_slice HO_11.out
          subst eo99
          obtain ⟨Ao100,co100,eo100⟩:=Kd.R_slice HO_8.out
          subst eo100
          go_wp2_with (first|(go_at_call 11;(with_reducible refine (laws_eqByteS.calls kj25 _ _ t406 _ _ t391 true _ ?side1 ?side2 ?side3 ?side4 A96.out).mono ?_);(case side1 => repeat (first|exact (Kd.R_reads' HO_11.out).2.2|(with_reducible refine Kd.C_alloc ?_ _)|(with_reducible refine Kd.C_drewN ?_ _)|(with_reducible refine Kd.C_drew ?_)));(case side2 => exact (Kd.R_reads' HO_11.out).2.1);(case side3 => repeat (first|exact (Kd.R_reads' HO_8.out).2.2|(with_reducible refine Kd.C_alloc ?_ _)|(with_reducible refine Kd.C_drewN ?_ _)|(with_reducible refine Kd.C_drew ?_)));(case side4 => exact (Kd.R_reads' HO_8.out).2.1);rintro e w' ⟨rfl,⟨nd,rfl⟩⟩;have hnb101:=NB413_381.out;have hnc101:=NB381_413.out;have hnb102:=NB413_382.out;have hnc102:=NB382_413.out;have hnb103:=NB413_398.out;have hnc103:=NB398_413.out;have hnb104:=NB413_403.out;have hnc104:=NB403_413.out;have hcz105_0 : w94.cell? ⟨gb413,0,none⟩ = some (.int .i64 t409):=(zm6_ BK413.out 0).trans rfl;have hcz105_1 : w94.cell? ⟨gb413,1,none⟩ = some (.slice Ao60 t410.length co60):=(zm6_ BK413.out 1).trans rfl;have hfz105_0:=zm7_ BK413.out 0;have hfz105_1:=zm7_ BK413.out 1;have hnb106:=NB398_381.out;have hnc106:=NB381_398.out;have hnb107:=NB398_382.out;have hnc107:=NB382_398.out;have hnb108:=NB398_403.out;have hnc108:=NB403_398.out;have hcz109_0 : w94.cell? ⟨gb398,0,none⟩ = some (.int .i64 t394):=(zm6_ BK398.out 0).trans rfl;have hcz109_1 : w94.cell? ⟨gb398,1,none⟩ = some (.slice Ao42 t395.length co42):=(zm6_ BK398.out 1).trans rfl;have hfz109_0:=zm7_ BK398.out 0;have hfz109_1:=zm7_ BK398.out 1)|(go_at_call 12;(with_reducible refine (laws_eqTable.calls kj25 t409 _ _ t410 t394 _ _ t395 t424 _ ?side1 ?side2 ?side3 ?side4 A98.out).mono ?_);(case side1 => repeat (first|exact (Kd.R_reads' HO_414001.out).2.2|(with_reducible refine Kd.C_alloc ?_ _)|(with_reducible refine Kd.C_drewN ?_ _)|(with_reducible refine Kd.C_drew ?_)));(case side2 => exact (Kd.R_reads' HO_414001.out).2.1);(case side3 => repeat (first|exact (Kd.R_reads' HO_399001.out).2.2|(with_reducible refine Kd.C_alloc ?_ _)|(with_reducible refine Kd.C_drewN ?_ _)|(with_reducible refine Kd.C_drew ?_)));(case side4 => exact (Kd.R_reads' HO_399001.out).2.1);rintro e w110 ⟨rfl,hb⟩;replace HO_8:=zm0_ (zm8_ (zr HO_8) hb);replace HO_11:=zm0_ (zm8_ (zr HO_11) hb);replace HO_399001:=zm0_ (zm8_ (zr HO_399001) hb);replace HO_404001:=zm0_ (zm8_ (zr HO_404001) hb);replace HO_414001:=zm0_ (zm8_ (zr HO_414001) hb);replace HO419:=zm0_ (zm8_ (zr HO419) hb);replace BK381:=zm0_ (zm5_ (zb BK381) hb);replace BK382:=zm0_ (zm5_ (zb BK382) hb);replace BK398:=zm0_ (zm5_ (zb BK398) hb);replace BK403:=zm0_ (zm5_ (zb BK403) hb);replace BK413:=zm0_ (zm5_ (zb BK413) hb);replace HB:=zm0_ (zn8_ (zl5 HB GE381 GE382 GE398 GE403 GE413) hb);(try clear hb);(try clear hb2);(try clear hk);(try clear hi)))
          go_meet
          case rel => exact ⟨_,(!t424),zz,H',⟨by have:=HJ25.out;first|omega|exact Nat.le_refl _⟩,⟨zr HO_8⟩,⟨zr HO_11⟩,⟨by (with_reducible repeat (first|apply k1_|apply k2_|apply k3_));exact zo2_ HO_399001.out (fun _ hk => ⟨(by first|exact hk.1|(have hq_:=hk;simp only [ne_eq] at hq_ ⊢;simp only [hq_,not_false_eq_true,and_self])),(by first|exact hk.2.1|(have hq_:=hk;simp only [ne_eq] at hq_ ⊢;simp only [hq_,not_false_eq_true,and_self]))⟩)⟩,⟨by (with_reducible repeat (first|apply k1_|apply k2_|apply k3_));exact zo2_ HO_404001.out (fun _ hk => ⟨(by first|exact hk.1.1|(have hq_:=hk;simp only [ne_eq] at hq_ ⊢;simp only [hq_,not_false_eq_true,and_self])),(by first|exact hk.1.2|(have hq_:=hk;simp only [ne_eq] at hq_ ⊢;simp only [hq_,not_false_eq_true,and_self]))⟩)⟩,⟨by (with_reducible repeat (first|apply k1_|apply k2_|apply k3_));exact zo2_ HO_414001.out (fun _ hk => ⟨(by first|exact hk.1|(have hq_:=hk;simp only [ne_eq] at hq_ ⊢;simp only [hq_,not_false_eq_true,and_self])),(by first|exact hk.2.1|(have hq_:=hk;simp only [ne_eq] at hq_ ⊢;simp only [hq_,not_false_eq_true,and_self]))⟩)⟩,⟨zb BK381⟩,⟨zb BK382⟩,⟨zb BK398⟩,⟨zb BK403⟩,⟨zb BK413⟩,⟨zl5 HB GE381 GE382 GE398 GE403 GE413⟩⟩
         ·
          replace c97:=Bool.eq_false_iff.mpr c97
          subst c97
          rw [if_neg (show ¬ (false = true) by decide)] at H
          have H':=zm0_ H
          clear H
          obtain ⟨Ao111,co111,eo111⟩:=Kd.R_slice HO_11.out
          subst eo111
          obtain ⟨Ao112,co112,eo112⟩:=Kd.R_slice HO_8.out
          subst eo112
          go_wp2_with (first|(go_at_call 11;(with_reducible refine (laws_eqByteS.calls kj25 _ _ t406 _ _ t391 false _ ?side1 ?side2 ?side3 ?side4 A96.out).mono ?_);(case side1 => repeat (first|exact (Kd.R_reads' HO_11.out).2.2|(with_reducible refine Kd.C_alloc ?_ _)|(with_reducible refine Kd.C_drewN ?_ _)|(with_reducible refine Kd.C_drew ?_)));(case side2 => exact (Kd.R_reads' HO_11.out).2.1);(case side3 => repeat (first|exact (Kd.R_reads' HO_8.out).2.2|(with_reducible refine Kd.C_alloc ?_ _)|(with_reducible refine Kd.C_drewN ?_ _)|(with_reducible refine Kd.C_drew ?_)));(case side4 => exact (Kd.R_reads' HO_8.out).2.1);rintro e w' ⟨rfl,⟨nd,rfl⟩⟩))
          go_meet
          case rel => exact ⟨_,(true),zz,H',⟨by have:=HJ25.out;first|omega|exact Nat.le_refl _⟩,⟨zr HO_8⟩,⟨zr HO_11⟩,⟨by (with_reducible repeat (first|apply k1_|apply k2_|apply k3_));exact zo2_ HO_399001.out (fun _ hk => ⟨(by first|exact hk.1|(have hq_:=hk;simp only [ne_eq] at hq_ ⊢;simp only [hq_,not_false_eq_true,and_self])),(by first|exact hk.2.1|(have hq_:=hk;simp only [ne_eq] at hq_ ⊢;simp only [hq_,not_false_eq_true,and_self]))⟩)⟩,⟨by (with_reducible repeat (first|apply k1_|apply k2_|apply k3_));exact zo2_ HO_404001.out (fun _ hk => ⟨(by first|exact hk.1.1|(have hq_:=hk;simp only [ne_eq] at hq_ ⊢;simp only [hq_,not_false_eq_true,and_self])),(by first|exact hk.1.2|(have hq_:=hk;simp only [ne_eq] at hq_ ⊢;simp only [hq_,not_false_eq_true,and_self]))⟩)⟩,⟨by (with_reducible repeat (first|apply k1_|apply k2_|apply k3_));exact zo2_ HO_414001.out (fun _ hk => ⟨(by first|exact hk.1|(have hq_:=hk;simp only [ne_eq] at hq_ ⊢;simp only [hq_,not_false_eq_true,and_self])),(by first|exact hk.2.1|(have hq_:=hk;simp only [ne_eq] at hq_ ⊢;simp only [hq_,not_false_eq_true,and_self]))⟩)⟩,⟨zb BK381⟩,⟨zb BK382⟩,⟨zb BK398⟩,⟨zb BK403⟩,⟨zb BK413⟩,⟨zl5 HB GE381 GE382 GE398 GE403 GE413⟩⟩
       case rest =>
        clear HC84
        try clear c1
        try clear p2
        try clear c6
        try clear c7
        try clear c8
        try clear c9
        try clear c10
        try clear c11
        try clear c12
        try clear c13
        try clear c63
        try clear c67
        try clear c68
        try clear c69
        try clear c70
        try clear c72
        try clear c73
        try clear c74
        try clear c79
        try clear c82
        try clear c89
        try clear c90
        try clear c91
        try clear c92
        try clear c95
        try clear c95b0
        try clear c95b1
        try clear c97
        try clear c101
        try clear c102
        try clear c103
        try clear c104
        try clear c106
        try clear c107
        try clear c108
        try clear hcz105_0
        try clear hcz105_1
        try clear hcz109_0
        try clear hcz109_1
        try clear hcz71_0
        try clear hcz71_1
        try clear hcz75_0
        try clear hcz75_1
        try clear hcz93_0
        try clear hcz93_1
        try clear hfz105_0
        try clear hfz105_1
        try clear hfz109_0
        try clear hfz109_1
        try clear hfz71_0
        try clear hfz71_1
        try clear hfz75_0
        try clear hfz75_1
        try clear hfz93_0
        try clear hfz93_1
        try clear p2
        obtain ⟨kq,x78_83,rfl,HA,HJ83,HO_8,HO_11,HO_399001,HO_404001,HO_414001,BK381,BK382,BK398,BK403,BK413,HB⟩:=hcut
        have hl404001_83:=(Kd.R_reads' HO_404001.out).1
        rw [hl404001_83] at HO_404001
        (try simp only [hl404001_83])
        (try simp only [hl404001_83] at BK381)
        (try simp only [hl404001_83] at BK382)
        (try simp only [hl404001_83] at BK398)
        (try simp only [hl404001_83] at BK403)
        (try simp only [hl404001_83] at BK413)
        (try simp only [hl404001_83] at HO_8)
        (try simp only [hl404001_83] at HO_11)
        (try simp only [hl404001_83] at HO_399001)
        (try simp only [hl404001_83] at HO_414001)
        cases kq with
        | zero => exact absurd HA.out (by simp [laws_FnExactPutField.j1])
        | succ kj83 =>
         have H:=HA.out
         clear HA
         simp only [laws_FnExactPutField.j1] at H
         by_cases c113 : x78_83 = true
         ·
          subst c113
          rw [if_pos rfl] at H
          exact absurd H (by simp)
         ·
          replace c113:=Bool.eq_false_iff.mpr c113
          subst c113
          rw [if_neg (show ¬ (false = true) by decide)] at H
          replace H:=zq1_ H
          obtain ⟨⟨t425,t426⟩,A1140,H⟩:=H
          replace H : ((laws_markTable.f kj83 t409 t410 t425).bind fun bt427 => ((laws_heldByteS.f kj83 t426 1).bind fun t429 => (if t429 < 0 then (none) else ((laws_heldTable.f kj83 t409 bt427.2 t429).bind fun t430 => (if t430 < 0 then (none) else (if t430 = bt427.1 then ((laws_toTable.f kj83 a0_0 l0_1).bind fun bt431 => ((laws_toField.f a1_0 a1_1).bind fun bt435 => ((impl_PutField.f kj83 bt431.1 bt431.2 bt435.1 bt435.2 a2).bind fun bt437 => ((laws_eqByteS.f kj83 bt437.1 t391).bind fun t445 => (if t445 = true then ((laws_eqTable.f kj83 bt437.2.1 bt437.2.2 t394 t395).bind fun t446 => (laws_FnExactPutField.j2 kj83 t426 bt427.1 (!t446) t409 bt427.2)) else (laws_FnExactPutField.j2 kj83 t426 bt427.1 true t409 bt427.2)))))) else (none))))))) = some r:=H
          have A114:=zm0_ A1140
          clear A1140
          replace H:=zq1_ H
          obtain ⟨⟨t427,t428⟩,A1150,H⟩:=H
          replace H : ((laws_heldByteS.f kj83 t426 1).bind fun t429 => (if t429 < 0 then (none) else ((laws_heldTable.f kj83 t409 t428 t429).bind fun t430 => (if t430 < 0 then (none) else (if t430 = t427 then ((laws_toTable.f kj83 a0_0 l0_1).bind fun bt431 => ((laws_toField.f a1_0 a1_1).bind fun bt435 => ((impl_PutField.f kj83 bt431.1 bt431.2 bt435.1 bt435.2 a2).bind fun bt437 => ((laws_eqByteS.f kj83 bt437.1 t391).bind fun t445 => (if t445 = true then ((laws_eqTable.f kj83 bt437.2.1 bt437.2.2 t394 t395).bind fun t446 => (laws_FnExactPutField.j2 kj83 t426 t427 (!t446) t409 t428)) else (laws_FnExactPutField.j2 kj83 t426 t427 true t409 t428)))))) else (none)))))) = some r:=H
          have A115:=zm0_ A1150
          clear A1150
          replace H:=zq1_ H
          obtain ⟨t429,A1160,H⟩:=H
          replace H : (if t429 < 0 then (none) else ((laws_heldTable.f kj83 t409 t428 t429).bind fun t430 => (if t430 < 0 then (none) else (if t430 = t427 then ((laws_toTable.f kj83 a0_0 l0_1).bind fun bt431 => ((laws_toField.f a1_0 a1_1).bind fun bt435 => ((impl_PutField.f kj83 bt431.1 bt431.2 bt435.1 bt435.2 a2).bind fun bt437 => ((laws_eqByteS.f kj83 bt437.1 t391).bind fun t445 => (if t445 = true then ((laws_eqTable.f kj83 bt437.2.1 bt437.2.2 t394 t395).bind fun t446 => (laws_FnExactPutField.j2 kj83 t426 t427 (!t446) t409 t428)) else (laws_FnExactPutField.j2 kj83 t426 t427 true t409 t428)))))) else (none))))) = some r:=H
          have A116:=zm0_ A1160
          clear A1160
          by_cases c117 : t429 < 0
          ·
           rw [if_pos c117] at H
           exact absurd H (by simp)
          ·
           rw [if_neg c117] at H
           have c117b0 : decide (t429 < 0) = false:=decide_eq_false c117
           clear c117
           replace H:=zq1_ H
           obtain ⟨t430,A1180,H⟩:=H
           replace H : (if t430 < 0 then (none) else (if t430 = t427 then ((laws_toTable.f kj83 a0_0 l0_1).bind fun bt431 => ((laws_toField.f a1_0 a1_1).bind fun bt435 => ((impl_PutField.f kj83 bt431.1 bt431.2 bt435.1 bt435.2 a2).bind fun bt437 => ((laws_eqByteS.f kj83 bt437.1 t391).bind fun t445 => (if t445 = true then ((laws_eqTable.f kj83 bt437.2.1 bt437.2.2 t394 t395).bind fun t446 => (laws_FnExactPutField.j2 kj83 t426 t427 (!t446) t409 t428)) else (laws_FnExactPutField.j2 kj83 t426 t427 true t409 t428)))))) else (none))) = some r:=H
           have A118:=zm0_ A1180
           clear A1180
           by_cases c119 : t430 < 0
           ·
            rw [if_pos c119] at H
            exact absurd H (by simp)
           ·
            rw [if_neg c119] at H
            have c119b0 : decide (t430 < 0) = false:=decide_eq_false c119
            clear c119
            by_cases c120 : t430 = t427
            ·
             rw [if_pos c120] at H
             have c120b0 : (t430 == t427) = true:=beq_iff_eq.mpr c120
             have c120b1 : (t430 != t427) = false:=bne_eq_false_iff_eq.mpr c120
             clear c120
             replace H:=zq1_ H
             obtain ⟨⟨t431,t432⟩,A1210,H⟩:=H
             replace H : ((laws_toField.f a1_0 a1_1).bind fun bt435 => ((impl_PutField.f kj83 t431 t432 bt435.1 bt435.2 a2).bind fun bt437 => ((laws_eqByteS.f kj83 bt437.1 t391).bind fun t445 => (if t445 = true then ((laws_eqTable.f kj83 bt437.2.1 bt437.2.2 t394 t395).bind fun t446 => (laws_FnExactPutField.j2 kj83 t426 t427 (!t446) t409 t428)) else (laws_FnExactPutField.j2 kj83 t426 t427 true t409 t428))))) = some r:=H
             have A121:=zm0_ A1210
             clear A1210
             replace H:=zq1_ H
             obtain ⟨⟨t435,t436⟩,A1220,H⟩:=H
             replace H : ((impl_PutField.f kj83 t431 t432 t435 t436 a2).bind fun bt437 => ((laws_eqByteS.f kj83 bt437.1 t391).bind fun t445 => (if t445 = true then ((laws_eqTable.f kj83 bt437.2.1 bt437.2.2 t394 t395).bind fun t446 => (laws_FnExactPutField.j2 kj83 t426 t427 (!t446) t409 t428)) else (laws_FnExactPutField.j2 kj83 t426 t427 true t409 t428)))) = some r:=H
             have A122:=zm0_ A1220
             clear A1220
             replace H:=zq1_ H
             obtain ⟨⟨t437,t440,t441⟩,A1230,H⟩:=H
             replace H : ((laws_eqByteS.f kj83 t437 t391).bind fun t445 => (if t445 = true then ((laws_eqTable.f kj83 t440 t441 t394 t395).bind fun t446 => (laws_FnExactPutField.j2 kj83 t426 t427 (!t446) t409 t428)) else (laws_FnExactPutField.j2 kj83 t426 t427 true t409 t428))) = some r:=H
             have A123:=zm0_ A1230
             clear A1230
             have HC124:=zm0_ H
             clear H
             obtain ⟨Ao125,co125,eo125⟩:=Kd.R_slice HO_11.out
             subst eo125
             try go_wp2_with (first|((with_reducible refine gate_callee (f:=14) rfl ?_);refine goesL_ (some 81) rfl rfl Tryz.func14 (by kernel_rfl) rfl #[.slice Ao125 t406.length co125,.int .i64 1] rfl zy ?_;(with_reducible refine (laws_markByteS.calls kj83 (fun k_ => some k_ = (.slice Ao125 t406.length co125 : Value).ownBlock) (.slice Ao125 t406.length co125) t406 1 t425 t426 w _ ?side1 ?side2 A114.out).mono ?_);(case side1 => repeat (first|(with_reducible first|exact HB.out|apply zm3_|apply zm2_|apply zm4_|refine zm1_ ?_ GE381.out|refine zm1_ ?_ GE382.out|refine zm1_ ?_ GE398.out|refine zm1_ ?_ GE403.out|refine zm1_ ?_ GE413.out)|exact HB.out));(case side2 => exact Kd.R_tight rfl HO_11.out);rintro e w126 ⟨rfl,hy0,hb,hkp⟩;refine ⟨_,rfl,?_⟩;replace HO_8:=zm0_ (zo2_ (ok':=fun k_ => some k_ ≠ (.slice Ao125 t406.length co125 : Value).ownBlock) (Kd.R_keptB (HO_8.out) hkp (fun k_ hk_ hs_ => absurd hs_ (hk_))) (fun k_ hk_ => hk_.1));replace HO_399001:=zm0_ (zo2_ (ok':=fun k_ => some k_ ≠ (.slice Ao52 t422.length co52 : Value).ownBlock ∧ some k_ ≠ (.slice Ao60 t410.length co60 : Value).ownBlock) (Kd.R_keptB ((Kd.R_apart' HO_399001.out (Kd.R_typed HO_11.out) (by decide))) hkp (fun k_ hk_ hs_ => absurd hs_ ((by first|exact hk_.2|(have hq_:=hk_;simp only [ne_eq] at hq_ ⊢;simp only [hq_,not_false_eq_true,and_self]))))) (fun k_ hk_ => ⟨(by first|exact hk_.1.1.1|(have hq_:=hk_.1;simp only [ne_eq] at hq_ ⊢;simp only [hq_,not_false_eq_true,and_self])),(by first|exact hk_.1.1.2|(have hq_:=hk_.1;simp only [ne_eq] at hq_ ⊢;simp only [hq_,not_false_eq_true,and_self]))⟩));replace HO_404001:=zm0_ (zo2_ (ok':=fun k_ => some k_ ≠ (.slice Ao42 t395.length co42 : Value).ownBlock ∧ some k_ ≠ (.slice Ao60 t410.length co60 : Value).ownBlock) (Kd.R_keptB ((Kd.R_apart' HO_404001.out (Kd.R_typed HO_11.out) (by decide))) hkp (fun k_ hk_ hs_ => absurd hs_ ((by first|exact hk_.2|(have hq_:=hk_;simp only [ne_eq] at hq_ ⊢;simp only [hq_,not_false_eq_true,and_self]))))) (fun k_ hk_ => ⟨(by first|exact hk_.1.1.1|(have hq_:=hk_.1;simp only [ne_eq] at hq_ ⊢;simp only [hq_,not_false_eq_true,and_self])),(by first|exact hk_.1.1.2|(have hq_:=hk_.1;simp only [ne_eq] at hq_ ⊢;simp only [hq_,not_false_eq_true,and_self]))⟩));replace HO_414001:=zm0_ (zo2_ (ok':=fun k_ => some k_ ≠ (.slice Ao42 t395.length co42 : Value).ownBlock ∧ some k_ ≠ (.slice Ao52 t422.length co52 : Value).ownBlock) (Kd.R_keptB ((Kd.R_apart' HO_414001.out (Kd.R_typed HO_11.out) (by decide))) hkp (fun k_ hk_ hs_ => absurd hs_ ((by first|exact hk_.2|(have hq_:=hk_;simp only [ne_eq] at hq_ ⊢;simp only [hq_,not_false_eq_true,and_self]))))) (fun k_ hk_ => ⟨(by first|exact hk_.1.1.1|(have hq_:=hk_.1;simp only [ne_eq] at hq_ ⊢;simp only [hq_,not_false_eq_true,and_self])),(by first|exact hk_.1.1.2|(have hq_:=hk_.1;simp only [ne_eq] at hq_ ⊢;simp only [hq_,not_false_eq_true,and_self]))⟩));replace BK381:=zm0_ (blk_kept (zb BK381) hkp (fun hs_ => (fun e_ => (Kd.R_ne HO_11.out BK381.out (by decide)) e_) hs_));replace BK382:=zm0_ (blk_kept (zb BK382) hkp (fun hs_ => (fun e_ => (Kd.R_ne HO_11.out BK382.out (by decide)) e_) hs_));replace BK398:=zm0_ (blk_kept (zb BK398) hkp (fun hs_ => (fun e_ => (Kd.R_ne HO_11.out BK398.out (by decide)) e_) hs_));replace BK403:=zm0_ (blk_kept (zb BK403) hkp (fun hs_ => (fun e_ => (Kd.R_ne HO_11.out BK403.out (by decide)) e_) hs_));replace BK413:=zm0_ (blk_kept (zb BK413) hkp (fun hs_ => (fun e_ => (Kd.R_ne HO_11.out BK413.out (by decide)) e_) hs_));replace HO_11:=zm0_ (Kd.R_reok rfl hy0 (fun k_ e_ => HO_11.out.1 k_ e_));replace HB:=zm0_ (hb);(try clear hb);(try clear hkp);(try clear hy0);have hnb127:=NB413_381.out;have hnc127:=NB381_413.out;have hnb128:=NB413_382.out;have hnc128:=NB382_413.out;have hnb129:=NB413_398.out;have hnc129:=NB398_413.out;have hnb130:=NB413_403.out;have hnc130:=NB403_413.out;have hcz131_0 : w126.cell? ⟨gb413,0,none⟩ = some (.int .i64 t409):=(zm6_ BK413.out 0).trans rfl;have hcz131_1 : w126.cell? ⟨gb413,1,none⟩ = some (.slice Ao60 t410.length co60):=(zm6_ BK413.out 1).trans rfl;have hfz131_0:=zm7_ BK413.out 0;have hfz131_1:=zm7_ BK413.out 1)|((with_reducible refine gate_callee (f:=13) rfl ?_);refine goesL_ (some 84) rfl rfl Tryz.func13 (by kernel_rfl) rfl #[.agg #[.int .i64 t409,.slice Ao60 t410.length co60],.int .i64 t425] rfl zy ?_;(with_reducible refine (laws_markTable.calls kj83 t409 (fun k_ => some k_ = (.slice Ao60 t410.length co60 : Value).ownBlock) (.slice Ao60 t410.length co60) t410 t425 t427 t428 w _ ?side1 ?side2 A115.out).mono ?_);(case side1 => repeat (first|(with_reducible first|exact HB.out|apply zm3_|apply zm2_|apply zm4_|refine zm1_ ?_ GE381.out|refine zm1_ ?_ GE382.out|refine zm1_ ?_ GE398.out|refine zm1_ ?_ GE403.out|refine zm1_ ?_ GE413.out)|exact HB.out));(case side2 => exact Kd.R_tight rfl HO_414001.out);rintro e w132 ⟨rfl,hy0,hb,hkp⟩;refine ⟨_,rfl,?_⟩;replace HO_8:=zm0_ (zo2_ (ok':=fun k_ => some k_ ≠ (.slice Ao125 t406.length co125 : Value).ownBlock) (Kd.R_keptB ((Kd.R_apart' HO_8.out (Kd.R_typed HO_414001.out) (by decide))) hkp (fun k_ hk_ hs_ => absurd hs_ ((by first|exact hk_.2|(have hq_:=hk_;simp only [ne_eq] at hq_ ⊢;simp only [hq_,not_false_eq_true,and_self]))))) (fun k_ hk_ => (by first|exact hk_.1.1|(have hq_:=hk_.1;simp only [ne_eq] at hq_ ⊢;simp only [hq_,not_false_eq_true,and_self]))));replace HO_11:=zm0_ (zo2_ (ok':=fun k_ => some k_ ≠ (v392 : Value).ownBlock) (Kd.R_keptB ((Kd.R_apart' HO_11.out (Kd.R_typed HO_414001.out) (by decide))) hkp (fun k_ hk_ hs_ => absurd hs_ ((by first|exact hk_.2|(have hq_:=hk_;simp only [ne_eq] at hq_ ⊢;simp only [hq_,not_false_eq_true,and_self]))))) (fun k_ hk_ => (by first|exact hk_.1.1|(have hq_:=hk_.1;simp only [ne_eq] at hq_ ⊢;simp only [hq_,not_false_eq_true,and_self]))));replace HO_399001:=zm0_ (zo2_ (ok':=fun k_ => some k_ ≠ (.slice Ao52 t422.length co52 : Value).ownBlock ∧ some k_ ≠ (.slice Ao60 t410.length co60 : Value).ownBlock) (Kd.R_keptB (HO_399001.out) hkp (fun k_ hk_ hs_ => absurd hs_ ((by first|exact hk_.2|(have hq_:=hk_;simp only [ne_eq] at hq_ ⊢;simp only [hq_,not_false_eq_true,and_self]))))) (fun k_ hk_ => ⟨(by first|exact hk_.1.1|(have hq_:=hk_.1;simp only [ne_eq] at hq_ ⊢;simp only [hq_,not_false_eq_true,and_self])),(by first|exact hk_.1.2|(have hq_:=hk_.1;simp only [ne_eq] at hq_ ⊢;simp only [hq_,not_false_eq_true,and_self]))⟩));replace HO_404001:=zm0_ (zo2_ (ok':=fun k_ => some k_ ≠ (.slice Ao42 t395.length co42 : Value).ownBlock ∧ some k_ ≠ (.slice Ao60 t410.length co60 : Value).ownBlock) (Kd.R_keptB (HO_404001.out) hkp (fun k_ hk_ hs_ => absurd hs_ ((by first|exact hk_.2|(have hq_:=hk_;simp only [ne_eq] at hq_ ⊢;simp only [hq_,not_false_eq_true,and_self]))))) (fun k_ hk_ => ⟨(by first|exact hk_.1.1|(have hq_:=hk_.1;simp only [ne_eq] at hq_ ⊢;simp only [hq_,not_false_eq_true,and_self])),(by first|exact hk_.1.2|(have hq_:=hk_.1;simp only [ne_eq] at hq_ ⊢;simp only [hq_,not_false_eq_true,and_self]))⟩));replace BK381:=zm0_ (blk_kept (zb BK381) hkp (fun hs_ => (fun e_ => (Kd.R_ne HO_414001.out BK381.out (by decide)) e_) hs_));replace BK382:=zm0_ (blk_kept (zb BK382) hkp (fun hs_ => (fun e_ => (Kd.R_ne HO_414001.out BK382.out (by decide)) e_) hs_));replace BK398:=zm0_ (blk_kept (zb BK398) hkp (fun hs_ => (fun e_ => (Kd.R_ne HO_414001.out BK398.out (by decide)) e_) hs_));replace BK403:=zm0_ (blk_kept (zb BK403) hkp (fun hs_ => (fun e_ => (Kd.R_ne HO_414001.out BK403.out (by decide)) e_) hs_));replace BK413:=zm0_ (blk_kept (zb BK413) hkp (fun hs_ => (fun e_ => (Kd.R_ne HO_414001.out BK413.out (by decide)) e_) hs_));replace HO_414001:=zm0_ (Kd.R_reok rfl hy0 (fun k_ e_ => HO_414001.out.1 k_ e_));replace HB:=zm0_ (hb);(try clear hb);(try clear hkp);(try clear hy0))|((with_reducible refine gate_callee (f:=15) rfl ?_);refine goesL_ (some 87) rfl rfl Tryz.func15 (by kernel_rfl) rfl #[.slice Ao125 t426.length co125,.int .i64 1] rfl (by (try simp only [zp1_,zp2_,zp3_]);first|done|(rw [show t426.length = t406.length from (Kd.R_reads' HO_11.out).1.symm] <;> rfl)|rfl|(simp only [zp4_,zp5_];rfl)) ?_;(with_reducible refine (laws_heldByteS.calls kj83 _ _ t426 1 t429 _ ?side1 ?side2 A116.out).mono ?_);(case side1 => repeat (first|exact (Kd.R_reads' HO_11.out).2.2|(with_reducible refine Kd.C_alloc ?_ _)|(with_reducible refine Kd.C_drewN ?_ _)|(with_reducible refine Kd.C_drew ?_)));(case side2 => rw [show t426.length = t406.length from (Kd.R_reads' HO_11.out).1.symm];exact (Kd.R_reads' HO_11.out).2.1);rintro e w' ⟨rfl,⟨nd,rfl⟩⟩;refine ⟨_,rfl,?_⟩;(try (rw [drewN_self w132];generalize hq_ : World.drewN w132 _ = w132;have n0_ : Aside0 (Kd.R (Kd.int .u8) 5 w132 w.heap.size (fun k_ => some k_ ≠ (v392 : Value).ownBlock) (.slice Ao125 t406.length co125) t426):=⟨by rw [← hq_];exact (zr HO_11)⟩;have n1_ : Aside0 (Kd.R k36 36 w132 w.heap.size (fun k_ => some k_ ≠ (.slice Ao52 t422.length co52 : Value).ownBlock ∧ some k_ ≠ (.slice Ao60 t410.length co60 : Value).ownBlock) (.slice Ao42 t395.length co42) t395):=⟨by rw [← hq_];exact (zr HO_399001)⟩;have n2_ : Aside0 (Kd.R k36 36 w132 w.heap.size (fun k_ => some k_ ≠ (.slice Ao42 t395.length co42 : Value).ownBlock ∧ some k_ ≠ (.slice Ao60 t410.length co60 : Value).ownBlock) (.slice Ao52 t422.length co52) t422):=⟨by rw [← hq_];exact (zr HO_404001)⟩;have n3_ : Aside0 (Kd.R k36 36 w132 w.heap.size (fun k_ => some k_ ≠ (.slice Ao42 t395.length co42 : Value).ownBlock ∧ some k_ ≠ (.slice Ao52 t422.length co52 : Value).ownBlock) (.slice Ao60 t410.length co60) t428):=⟨by rw [← hq_];exact (zr HO_414001)⟩;have n4_ : Aside0 (Kd.R (Kd.int .u8) 5 w132 w.heap.size (fun k_ => some k_ ≠ (.slice Ao125 t406.length co125 : Value).ownBlock) v392 t391):=⟨by rw [← hq_];exact (zr HO_8)⟩;have n5_ : Aside0 (w132.heap[gb381]? = some (.cells #[.int .i64 a0_0,.slice A0_1 l0_1.length c0_1] 24 (0,0))):=⟨by rw [← hq_];exact (zb BK381)⟩;have n6_ : Aside0 (w132.heap[gb382]? = some (.cells #[.string a1_0,.string a1_1] 26 (0,0))):=⟨by rw [← hq_];exact (zb BK382)⟩;have n7_ : Aside0 (w132.heap[gb398]? = some (.cells #[.int .i64 t394,.slice Ao42 t395.length co42] 32 (0,0))):=⟨by rw [← hq_];exact (zb BK398)⟩;have n8_ : Aside0 (w132.heap[gb403]? = some (.cells #[.int .i64 t399,.slice Ao52 t422.length co52] 32 (0,0))):=⟨by rw [← hq_];exact (zb BK403)⟩;have n9_ : Aside0 (w132.heap[gb413]? = some (.cells #[.int .i64 t409,.slice Ao60 t410.length co60] 32 (0,0))):=⟨by rw [← hq_];exact (zb BK413)⟩;have n10_ : Aside0 (Below w.heap.size w w132):=⟨by rw [← hq_];exact (zl5 HB GE381 GE382 GE398 GE403 GE413)⟩;clear HO_11 HO_399001 HO_404001 HO_414001 HO_8 BK381 BK382 BK398 BK403 BK413 HB hq_;have HO_11:=n0_;have HO_399001:=n1_;have HO_404001:=n2_;have HO_414001:=n3_;have HO_8:=n4_;have BK381:=n5_;have BK382:=n6_;have BK398:=n7_;have BK403:=n8_;have BK413:=n9_;have HB:=n10_;clear n0_ n1_ n2_ n3_ n4_ n5_ n6_ n7_ n8_ n9_ n10_));have hcz133_0 : w132.cell? ⟨gb413,0,none⟩ = some (.int .i64 t409):=(zm6_ BK413.out 0).trans rfl;have hcz133_1 : w132.cell? ⟨gb413,1,none⟩ = some (.slice Ao60 t410.length co60):=(zm6_ BK413.out 1).trans rfl;have hfz133_0:=zm7_ BK413.out 0;have hfz133_1:=zm7_ BK413.out 1)|((with_reducible refine gate_callee (f:=16) rfl ?_);refine goesL_ (some 92) rfl rfl Tryz.func16 (by kernel_rfl) rfl #[.agg #[.int .i64 t409,.slice Ao60 t428.length co60],.int .i64 t429] rfl (by (try simp only [zp1_,zp2_,zp3_]);first|done|(rw [show t428.length = t410.length from (Kd.R_reads' HO_414001.out).1.symm] <;> rfl)|rfl|(simp only [zp4_,zp5_];rfl)) ?_;(with_reducible refine (laws_heldTable.calls kj83 t409 _ _ t428 t429 t430 _ ?side1 ?side2 A118.out).mono ?_);(case side1 => repeat (first|exact (Kd.R_reads' HO_414001.out).2.2|(with_reducible refine Kd.C_alloc ?_ _)|(with_reducible refine Kd.C_drewN ?_ _)|(with_reducible refine Kd.C_drew ?_)));(case side2 => rw [show t428.length = t410.length from (Kd.R_reads' HO_414001.out).1.symm];exact (Kd.R_reads' HO_414001.out).2.1);rintro e w134 ⟨rfl,hb⟩;refine ⟨_,rfl,?_⟩;replace HO_8:=zm0_ (zm8_ (zr HO_8) hb);replace HO_11:=zm0_ (zm8_ (zr HO_11) hb);replace HO_399001:=zm0_ (zm8_ (zr HO_399001) hb);replace HO_404001:=zm0_ (zm8_ (zr HO_404001) hb);replace HO_414001:=zm0_ (zm8_ (zr HO_414001) hb);replace BK381:=zm0_ (zm5_ (zb BK381) hb);replace BK382:=zm0_ (zm5_ (zb BK382) hb);replace BK398:=zm0_ (zm5_ (zb BK398) hb);replace BK403:=zm0_ (zm5_ (zb BK403) hb);replace BK413:=zm0_ (zm5_ (zb BK413) hb);replace HB:=zm0_ (zn8_ (zl5 HB GE381 GE382 GE398 GE403 GE413) hb);(try clear hb);(try clear hb2);(try clear hk);(try clear hi)))
             replace HO_8:=zm0_ (k3_ HO_8.out)
             replace HO_11:=zm0_ (k3_ HO_11.out)
             replace HO_399001:=zm0_ (k3_ HO_399001.out)
             replace HO_404001:=zm0_ (k3_ HO_404001.out)
             replace HO_414001:=zm0_ (k3_ HO_414001.out)
             replace BK381:=zm0_ (k7_ BK381.out)
             replace BK382:=zm0_ (k7_ BK382.out)
             replace BK398:=zm0_ (k7_ BK398.out)
             replace BK403:=zm0_ (k7_ BK403.out)
             replace BK413:=zm0_ (k7_ BK413.out)
             replace HB:=zm0_ (zm4_ HB.out)
             refine start_ (n:=12) (S:=fun w' => w'.cell? ⟨gb381,0,none⟩ = some (.int .i64 a0_0) ∧ w'.cell? ⟨gb381,1,none⟩ = some (.slice A0_1 l0_1.length c0_1) ∧ w'.cell? ⟨gb382,0,none⟩ = some (.string a1_0) ∧ w'.cell? ⟨gb382,1,none⟩ = some (.string a1_1)) (ds:=[]) #[Z,Z,Z,Z,Z,Z,Z,Z,Z,Z,Z,Z] (by kernel_rfl) rfl rfl ⟨(zm6_ BK381.out 0).trans rfl,(zm6_ BK381.out 1).trans rfl,(zm6_ BK382.out 0).trans rfl,(zm6_ BK382.out 1).trans rfl⟩ (fun hHeld => ?_);refine with_tabW laws_FnExactPutField.tab31 laws_FnExactPutField.bits31 (fun HT_ HW_ => ?_)
             generalize w134.drew = w135 at HO_8 HO_11 HO_399001 HO_404001 HO_414001 BK381 BK382 BK398 BK403 BK413 HB hHeld ⊢
             refine pure_ (i:=4) (N:=some 103) (v:=?_) (a':=?_) #[Z,Z,Z,Z,Y,Z,Z,Z,Z,Z,Z,Z] rfl rfl (any_of HT_.out (by kernel_rfl)) (fun _ _ _ h => h) (Or.inl ⟨by rfl,?_⟩) ?_ ?_
             rotate_left
             ·
              intro w'
              go_simp
              with_reducible rfl
             rotate_left
             ·
              simp only [Act.put,lA_,lB_,lC_,i64_w,i32_w]
              rfl
             refine take_ (i:=0) (N:=some 99) (v:=?_) (a':=?_) #[Y,Z,Z,Z,Y,Z,Z,Z,Z,Z,Z,Z] rfl rfl (take_ofW HT_.out HW_.out (by kernel_rfl)) (fun _ _ _ h => h) (Or.inl ⟨by rfl,?_⟩) hHeld ?_ ?_
             rotate_left
             ·
              rintro w' ⟨s0,s1,s2,s3⟩
              go_simp
              with_reducible rfl
             rotate_left
             ·
              simp only [Act.put,lA_,lB_,lC_,i64_w,i32_w]
              rfl
             refine take_ (i:=2) (N:=some 101) (v:=?_) (a':=?_) #[Y,Z,Y,Z,Y,Z,Z,Z,Z,Z,Z,Z] rfl rfl (take_ofW HT_.out HW_.out (by kernel_rfl)) (fun _ _ _ h => h) (Or.inl ⟨by rfl,?_⟩) hHeld ?_ ?_
             rotate_left
             ·
              rintro w' ⟨s0,s1,s2,s3⟩
              go_simp
              with_reducible rfl
             rotate_left
             ·
              simp only [Act.put,lA_,lB_,lC_,i64_w,i32_w]
              rfl
             refine join_ (σ:=Value × Value × Value × Nat) 2 #[Y,Y,Y,Y,Y,Y,Y,Y,Y,Y,Z,Z] (fun s_ => [(100,.agg #[.int .i64 t431,s_.1]),(102,.agg #[.string t435,.string t436]),(104,.tuple #[s_.2.1,.agg #[.int .i64 t440,s_.2.2.1]]),(17,.pointer (some ⟨s_.2.2.2,0,none⟩)),(98,.tuple #[s_.2.1,.agg #[.int .i64 t440,s_.2.2.1]]),(105,s_.2.1),(106,.agg #[.int .i64 t440,s_.2.2.1])]) (fun s_ w' => (w'.cell? ⟨gb381,0,none⟩ = some (.int .i64 a0_0) ∧ w'.cell? ⟨gb381,1,none⟩ = some (.slice A0_1 l0_1.length c0_1) ∧ w'.cell? ⟨gb382,0,none⟩ = some (.string a1_0) ∧ w'.cell? ⟨gb382,1,none⟩ = some (.string a1_1)) ∧ (Kd.R k36 36 w' w.heap.size (fun k_ => some k_ ≠ (s_.2.2.1 : Value).ownBlock ∧ some k_ ≠ (.slice Ao42 t395.length co42 : Value).ownBlock ∧ some k_ ≠ (.slice Ao52 t422.length co52 : Value).ownBlock ∧ some k_ ≠ (.slice Ao60 t410.length co60 : Value).ownBlock) s_.1 t432) ∧ (Kd.R (Kd.int .u8) 5 w' w.heap.size (fun k_ => some k_ ≠ (.slice Ao125 t406.length co125 : Value).ownBlock ∧ some k_ ≠ (v392 : Value).ownBlock) s_.2.1 t437) ∧ (Kd.R k36 36 w' w.heap.size (fun k_ => some k_ ≠ (s_.1 : Value).ownBlock ∧ some k_ ≠ (.slice Ao42 t395.length co42 : Value).ownBlock ∧ some k_ ≠ (.slice Ao52 t422.length co52 : Value).ownBlock ∧ some k_ ≠ (.slice Ao60 t410.length co60 : Value).ownBlock) s_.2.2.1 t441) ∧ (Kd.R (Kd.int .u8) 5 w' w.heap.size (fun k_ => some k_ ≠ (s_.2.1 : Value).ownBlock ∧ some k_ ≠ (v392 : Value).ownBlock) (.slice Ao125 t406.length co125) t426) ∧ (Kd.R k36 36 w' w.heap.size (fun k_ => some k_ ≠ (s_.1 : Value).ownBlock ∧ some k_ ≠ (s_.2.2.1 : Value).ownBlock ∧ some k_ ≠ (.slice Ao52 t422.length co52 : Value).ownBlock ∧ some k_ ≠ (.slice Ao60 t410.length co60 : Value).ownBlock) (.slice Ao42 t395.length co42) t395) ∧ (Kd.R k36 36 w' w.heap.size (fun k_ => some k_ ≠ (s_.1 : Value).ownBlock ∧ some k_ ≠ (s_.2.2.1 : Value).ownBlock ∧ some k_ ≠ (.slice Ao42 t395.length co42 : Value).ownBlock ∧ some k_ ≠ (.slice Ao60 t410.length co60 : Value).ownBlock) (.slice Ao52 t422.length co52) t422) ∧ (Kd.R k36 36 w' w.heap.size (fun k_ => some k_ ≠ (s_.1 : Value).ownBlock ∧ some k_ ≠ (s_.2.2.1 : Value).ownBlock ∧ some k_ ≠ (.slice Ao42 t395.length co42 : Value).ownBlock ∧ some k_ ≠ (.slice Ao52 t422.length co52 : Value).ownBlock) (.slice Ao60 t410.length co60) t428) ∧ (Kd.R (Kd.int .u8) 5 w' w.heap.size (fun k_ => some k_ ≠ (s_.2.1 : Value).ownBlock ∧ some k_ ≠ (.slice Ao125 t406.length co125 : Value).ownBlock) v392 t391) ∧ (w'.heap[gb381]? = some (.cells #[.int .i64 a0_0,.slice A0_1 l0_1.length c0_1] 24 (0,0))) ∧ (w'.heap[gb382]? = some (.cells #[.string a1_0,.string a1_1] 26 (0,0))) ∧ (w'.heap[gb398]? = some (.cells #[.int .i64 t394,.slice Ao42 t395.length co42] 32 (0,0))) ∧ (w'.heap[gb403]? = some (.cells #[.int .i64 t399,.slice Ao52 t422.length co52] 32 (0,0))) ∧ (w'.heap[gb413]? = some (.cells #[.int .i64 t409,.slice Ao60 t410.length co60] 32 (0,0))) ∧ (w'.heap[s_.2.2.2]? = some (.cells #[.int .i64 0,.slice none 0 0] 32 (0,0))) ∧ (w.heap.size ≤ s_.2.2.2) ∧ (w.heap.size ≤ s_.2.2.2) ∧ (gb381 ≠ s_.2.2.2) ∧ (s_.2.2.2 ≠ gb381) ∧ (gb382 ≠ s_.2.2.2) ∧ (s_.2.2.2 ≠ gb382) ∧ (gb398 ≠ s_.2.2.2) ∧ (s_.2.2.2 ≠ gb398) ∧ (gb403 ≠ s_.2.2.2) ∧ (s_.2.2.2 ≠ gb403) ∧ (gb413 ≠ s_.2.2.2) ∧ (s_.2.2.2 ≠ gb413) ∧ (Below w.heap.size w w')) ?_ ?_
             rotate_left
             ·
              intro hCont
              refine two_ (i:=1) (j:=9) (Ni:=some 100) (Nj:=some 17) #[Y,Y,Y,Z,Y,Z,Z,Z,Z,Z,Z,Z] #[Y,Z,Y,Z,Y,Z,Z,Z,Z,Y,Z,Z] rfl rfl rfl rfl (two_of HT_.out (by kernel_rfl)) (by decide) (by decide) (fun K hK => ?_) (fun K hK => ?_)
              ·
               skip
               refine goes_ Tryz.func8 (by kernel_rfl) rfl #[.agg #[.int .i64 a0_0,.slice A0_1 l0_1.length c0_1]] (by rfl) rfl rfl zy ?_
               with_reducible refine (laws_toTable.calls kj83 a0_0 _ _ l0_1 t431 t432 _ ?side1 ?side2 A121.out).mono ?_
               (case side1 => repeat (first|exact (Kd.C_below HR0_1.out HB.out)|(with_reducible refine Kd.C_alloc ?_ _)|(with_reducible refine Kd.C_drewN ?_ _)|(with_reducible refine Kd.C_drew ?_)))
               (case side2 => exact HC0_1.out)
               rintro e w136 ⟨v433,rfl,ho0,hb⟩
               refine ⟨_,rfl,?_⟩
               replace HO_8:=zm0_ (zm8_ (zr HO_8) hb)
               replace HO_11:=zm0_ (zm8_ (zr HO_11) hb)
               have HO434:=zm0_ (zo1_ (Kd.R_new' (Kd.R_new' (Kd.R_new' ho0 (Kd.R_lt (zr HO_399001))) (Kd.R_lt (zr HO_404001))) (Kd.R_lt (zr HO_414001))) (zn9_ (zl5 HB GE381 GE382 GE398 GE403 GE413)))
               replace HO_399001:=zm0_ (Kd.R_elder' (zr HO_399001) (Kd.R_base ho0) hb)
               replace HO_404001:=zm0_ (Kd.R_elder' (zr HO_404001) (Kd.R_base ho0) hb)
               replace HO_414001:=zm0_ (Kd.R_elder' (zr HO_414001) (Kd.R_base ho0) hb)
               replace BK381:=zm0_ (zm5_ (zb BK381) hb)
               replace BK382:=zm0_ (zm5_ (zb BK382) hb)
               replace BK398:=zm0_ (zm5_ (zb BK398) hb)
               replace BK403:=zm0_ (zm5_ (zb BK403) hb)
               replace BK413:=zm0_ (zm5_ (zb BK413) hb)
               replace HB:=zm0_ (zn8_ (zl5 HB GE381 GE382 GE398 GE403 GE413) hb)
               (try clear hb)
               (try clear hb2)
               (try clear hk)
               (try clear hi)
               (try clear ho0)
               refine hK.out _ _ ⟨(zm6_ BK381.out 0).trans rfl,(zm6_ BK381.out 1).trans rfl,(zm6_ BK382.out 0).trans rfl,(zm6_ BK382.out 1).trans rfl⟩ (fun hHeld => ?_)
               clear hK K
               refine norm_ (a':=?_) ?_ ?_
               rotate_left
               ·
                show Act.put _ (some 100) _ = _
                simp only [Act.put,lA_,lB_,lC_,i64_w,i32_w]
                rfl
               refine two_ (i:=3) (j:=9) (Ni:=some 102) (Nj:=some 17) #[Y,Y,Y,Y,Y,Z,Z,Z,Z,Z,Z,Z] #[Y,Y,Y,Z,Y,Z,Z,Z,Z,Y,Z,Z] rfl rfl rfl rfl (two_of HT_.out (by kernel_rfl)) (by decide) (by decide) (fun K hK => ?_) (fun K hK => ?_)
               ·
                skip
                refine goes_ Tryz.func9 (by kernel_rfl) rfl #[.agg #[.string a1_0,.string a1_1]] (by rfl) rfl rfl zy ?_
                with_reducible refine (laws_toField.calls a1_0 a1_1 t435 t436 _ A122.out).mono ?_
                rintro e w137 ⟨rfl,hb⟩
                refine ⟨_,rfl,?_⟩
                replace HO_8:=zm0_ (zm8_ (zr HO_8) hb)
                replace HO_11:=zm0_ (zm8_ (zr HO_11) hb)
                replace HO_399001:=zm0_ (zm8_ (zr HO_399001) hb)
                replace HO_404001:=zm0_ (zm8_ (zr HO_404001) hb)
                replace HO_414001:=zm0_ (zm8_ (zr HO_414001) hb)
                replace HO434:=zm0_ (zm8_ (zr HO434) hb)
                replace BK381:=zm0_ (zm5_ (zb BK381) hb)
                replace BK382:=zm0_ (zm5_ (zb BK382) hb)
                replace BK398:=zm0_ (zm5_ (zb BK398) hb)
                replace BK403:=zm0_ (zm5_ (zb BK403) hb)
                replace BK413:=zm0_ (zm5_ (zb BK413) hb)
                replace HB:=zm0_ (zn8_ (zl5 HB GE381 GE382 GE398 GE403 GE413) hb)
                (try clear hb)
                (try clear hb2)
                (try clear hk)
                (try clear hi)
                obtain ⟨Ao138,co138,eo138⟩:=Kd.R_slice HO434.out
                (first|subst eo138|(injection eo138 with f1_ f2_ f3_;have f4_:=f1_.symm;have f5_:=f3_.symm;clear f1_ f2_ f3_;subst f4_;subst f5_))
                refine hK.out _ _ ⟨(zm6_ BK381.out 0).trans rfl,(zm6_ BK381.out 1).trans rfl,(zm6_ BK382.out 0).trans rfl,(zm6_ BK382.out 1).trans rfl⟩ (fun hHeld => ?_)
                clear hK K
                refine norm_ (a':=?_) ?_ ?_
                rotate_left
                ·
                 show Act.put _ (some 102) _ = _
                 simp only [Act.put,lA_,lB_,lC_,i64_w,i32_w]
                 rfl
                refine two_ (i:=5) (j:=9) (Ni:=some 104) (Nj:=some 17) #[Y,Y,Y,Y,Y,Y,Z,Z,Z,Z,Z,Z] #[Y,Y,Y,Y,Y,Z,Z,Z,Z,Y,Z,Z] rfl rfl rfl rfl (two_of HT_.out (by kernel_rfl)) (by decide) (by decide) (fun K hK => ?_) (fun K hK => ?_)
                ·
                 skip
                 refine goes_ Tryz.func10 (by kernel_rfl) rfl #[.agg #[.int .i64 t431,.slice Ao138 t432.length co138],.agg #[.string t435,.string t436],.int .i64 a2] (by rfl) rfl rfl zy ?_
                 with_reducible refine (impl_PutField.calls kj83 t431 _ _ t432 t435 t436 a2 t437 t440 t441 _ ?side1 ?side2 ?side3 A123.out).mono ?_
                 (case side1 => repeat (first|exact (Kd.R_reads' HO434.out).2.2|(with_reducible refine Kd.C_alloc ?_ _)|(with_reducible refine Kd.C_drewN ?_ _)|(with_reducible refine Kd.C_drew ?_)))
                 (case side2 => exact (Kd.R_reads' HO434.out).2.1)
                 (case side3 => first|exact ht|(refine tb_below ht ?_;repeat (first|(with_reducible first|exact HB.out|apply zm3_|apply zm2_|apply zm4_|refine zm1_ ?_ GE381.out|refine zm1_ ?_ GE382.out|refine zm1_ ?_ GE398.out|refine zm1_ ?_ GE403.out|refine zm1_ ?_ GE413.out)|exact HB.out)))
                 rintro e w139 ⟨v438,v442,rfl,ho0,ho1,hb⟩
                 refine ⟨_,rfl,?_⟩
                 have HO439:=zm0_ (zo1_ (Kd.R_new' (Kd.R_new' ho0 (Kd.R_lt (zr HO_8))) (Kd.R_lt (zr HO_11))) (zn9_ (zl5 HB GE381 GE382 GE398 GE403 GE413)))
                 replace HO_8:=zm0_ (Kd.R_elder' (zr HO_8) (Kd.R_base ho0) hb)
                 replace HO_11:=zm0_ (Kd.R_elder' (zr HO_11) (Kd.R_base ho0) hb)
                 have HO443:=zm0_ (zo1_ (Kd.R_new' (Kd.R_new' (Kd.R_new' (Kd.R_new' ho1 (Kd.R_lt (zr HO_399001))) (Kd.R_lt (zr HO_404001))) (Kd.R_lt (zr HO_414001))) (Kd.R_lt (zr HO434))) (zn9_ (zl5 HB GE381 GE382 GE398 GE403 GE413)))
                 replace HO_399001:=zm0_ (Kd.R_elder' (zr HO_399001) (Kd.R_base ho1) hb)
                 replace HO_404001:=zm0_ (Kd.R_elder' (zr HO_404001) (Kd.R_base ho1) hb)
                 replace HO_414001:=zm0_ (Kd.R_elder' (zr HO_414001) (Kd.R_base ho1) hb)
                 replace HO434:=zm0_ (Kd.R_elder' (zr HO434) (Kd.R_base ho1) hb)
                 replace BK381:=zm0_ (zm5_ (zb BK381) hb)
                 replace BK382:=zm0_ (zm5_ (zb BK382) hb)
                 replace BK398:=zm0_ (zm5_ (zb BK398) hb)
                 replace BK403:=zm0_ (zm5_ (zb BK403) hb)
                 replace BK413:=zm0_ (zm5_ (zb BK413) hb)
                 replace HB:=zm0_ (zn8_ (zl5 HB GE381 GE382 GE398 GE403 GE413) hb)
                 (try clear hb)
                 (try clear hb2)
                 (try clear hk)
                 (try clear hi)
                 (try clear ho0)
                 (try clear ho1)
                 refine hK.out _ _ ⟨(zm6_ BK381.out 0).trans rfl,(zm6_ BK381.out 1).trans rfl,(zm6_ BK382.out 0).trans rfl,(zm6_ BK382.out 1).trans rfl⟩ (fun hHeld => ?_)
                 clear hK K
                 refine norm_ (a':=?_) ?_ ?_
                 rotate_left
                 ·
                  show Act.put _ (some 104) _ = _
                  simp only [Act.put,lA_,lB_,lC_,i64_w,i32_w]
                  rfl
                 refine pure_ (i:=6) (N:=some 98) (v:=?_) (a':=?_) #[Y,Y,Y,Y,Y,Y,Y,Z,Z,Z,Z,Z] rfl rfl (any_of HT_.out (by kernel_rfl)) (fun _ _ _ h => h) (Or.inl ⟨by rfl,?_⟩) ?_ ?_
                 rotate_left
                 ·
                  intro w'
                  go_simp
                  with_reducible rfl
                 rotate_left
                 ·
                  simp only [Act.put,lA_,lB_,lC_,i64_w,i32_w]
                  rfl
                 refine pure_ (i:=7) (N:=some 105) (v:=?_) (a':=?_) #[Y,Y,Y,Y,Y,Y,Y,Y,Z,Z,Z,Z] rfl rfl (any_of HT_.out (by kernel_rfl)) (fun _ _ _ h => h) (Or.inl ⟨by rfl,?_⟩) ?_ ?_
                 rotate_left
                 ·
                  intro w'
                  go_simp
                  with_reducible rfl
                 rotate_left
                 ·
                  simp only [Act.put,lA_,lB_,lC_,i64_w,i32_w]
                  rfl
                 refine pure_ (i:=8) (N:=some 106) (v:=?_) (a':=?_) #[Y,Y,Y,Y,Y,Y,Y,Y,Y,Z,Z,Z] rfl rfl (any_of HT_.out (by kernel_rfl)) (fun _ _ _ h => h) (Or.inl ⟨by rfl,?_⟩) ?_ ?_
                 rotate_left
                 ·
                  intro w'
                  go_simp
                  with_reducible rfl
                 rotate_left
                 ·
                  simp only [Act.put,lA_,lB_,lC_,i64_w,i32_w]
                  rfl
                 refine one_ (i:=9) (N:=some 17) #[Y,Y,Y,Y,Y,Y,Y,Y,Y,Y,Z,Z] rfl rfl (one_of HT_.out (by kernel_rfl)) (by decide) (fun K hK => ?_)
                 refine box_step ?hg (N:=17) ?hd (cs:=#[.int .i64 0,.slice none 0 0]) (t:=32) ?hr ?_;(case hd => rfl);(case hg => rfl);(case hr => first|(go_simp;done)|(go_simp;rfl))
                 intro gb444 hg w140 hbox hb
                 replace HO_8:=zm0_ (zm8_ (zr HO_8) hb)
                 replace HO_11:=zm0_ (zm8_ (zr HO_11) hb)
                 replace HO_399001:=zm0_ (zm8_ (zr HO_399001) hb)
                 replace HO_404001:=zm0_ (zm8_ (zr HO_404001) hb)
                 replace HO_414001:=zm0_ (zm8_ (zr HO_414001) hb)
                 replace HO434:=zm0_ (zm8_ (zr HO434) hb)
                 replace HO439:=zm0_ (zm8_ (zr HO439) hb)
                 replace HO443:=zm0_ (zm8_ (zr HO443) hb)
                 have BK444:=zm0_ (hbox)
                 have GW444:=zm0_ ((by rw [hg];exact (zn9_ (zl5 HB GE381 GE382 GE398 GE403 GE413)) : w.heap.size ≤ gb444))
                 have GE444:=zm0_ ((by rw [hg];exact (zn9_ (zl5 HB GE381 GE382 GE398 GE403 GE413)) : w.heap.size ≤ gb444))
                 replace HB:=zm0_ (zn8_ (zl5 HB GE381 GE382 GE398 GE403 GE413) hb)
                 have NB381_444:=zm0_ ((by rw [hg];exact Nat.ne_of_lt (zo3_ (g:=gb381) (o:=.cells #[.int .i64 a0_0,.slice A0_1 l0_1.length c0_1] 24 (0,0)) (zb BK381)) : gb381 ≠ gb444))
                 have NB444_381:=zm0_ ((by rw [hg];exact Nat.ne_of_gt (zo3_ (g:=gb381) (o:=.cells #[.int .i64 a0_0,.slice A0_1 l0_1.length c0_1] 24 (0,0)) (zb BK381)) : gb444 ≠ gb381))
                 replace BK381:=zm0_ (zm5_ (zb BK381) hb)
                 have NB382_444:=zm0_ ((by rw [hg];exact Nat.ne_of_lt (zo3_ (g:=gb382) (o:=.cells #[.string a1_0,.string a1_1] 26 (0,0)) (zb BK382)) : gb382 ≠ gb444))
                 have NB444_382:=zm0_ ((by rw [hg];exact Nat.ne_of_gt (zo3_ (g:=gb382) (o:=.cells #[.string a1_0,.string a1_1] 26 (0,0)) (zb BK382)) : gb444 ≠ gb382))
                 replace BK382:=zm0_ (zm5_ (zb BK382) hb)
                 have NB398_444:=zm0_ ((by rw [hg];exact Nat.ne_of_lt (zo3_ (g:=gb398) (o:=.cells #[.int .i64 t394,.slice Ao42 t395.length co42] 32 (0,0)) (zb BK398)) : gb398 ≠ gb444))
                 have NB444_398:=zm0_ ((by rw [hg];exact Nat.ne_of_gt (zo3_ (g:=gb398) (o:=.cells #[.int .i64 t394,.slice Ao42 t395.length co42] 32 (0,0)) (zb BK398)) : gb444 ≠ gb398))
                 replace BK398:=zm0_ (zm5_ (zb BK398) hb)
                 have NB403_444:=zm0_ ((by rw [hg];exact Nat.ne_of_lt (zo3_ (g:=gb403) (o:=.cells #[.int .i64 t399,.slice Ao52 t422.length co52] 32 (0,0)) (zb BK403)) : gb403 ≠ gb444))
                 have NB444_403:=zm0_ ((by rw [hg];exact Nat.ne_of_gt (zo3_ (g:=gb403) (o:=.cells #[.int .i64 t399,.slice Ao52 t422.length co52] 32 (0,0)) (zb BK403)) : gb444 ≠ gb403))
                 replace BK403:=zm0_ (zm5_ (zb BK403) hb)
                 have NB413_444:=zm0_ ((by rw [hg];exact Nat.ne_of_lt (zo3_ (g:=gb413) (o:=.cells #[.int .i64 t409,.slice Ao60 t410.length co60] 32 (0,0)) (zb BK413)) : gb413 ≠ gb444))
                 have NB444_413:=zm0_ ((by rw [hg];exact Nat.ne_of_gt (zo3_ (g:=gb413) (o:=.cells #[.int .i64 t409,.slice Ao60 t410.length co60] 32 (0,0)) (zb BK413)) : gb444 ≠ gb413))
                 replace BK413:=zm0_ (zm5_ (zb BK413) hb)
                 clear hb hbox hg
                 refine hK.out _ _ ⟨(zm6_ BK381.out 0).trans rfl,(zm6_ BK381.out 1).trans rfl,(zm6_ BK382.out 0).trans rfl,(zm6_ BK382.out 1).trans rfl⟩ (fun hHeld => ?_)
                 clear hK K
                 refine norm_ (a':=?_) ?_ ?_
                 rotate_left
                 ·
                  show Act.put _ (some 17) _ = _
                  simp only [Act.put,lA_,lB_,lC_,i64_w,i32_w]
                  rfl
                 exact norm_ (by simp only [putAll,Act.put,lA_,lB_,lC_]) (hCont (.slice Ao138 t432.length co138,v438,v442,gb444) _ ⟨hHeld,(zs (zo2_ HO434.out (fun _ hk => ⟨(by first|exact hk.2|(have hq_:=hk;simp only [ne_eq] at hq_ ⊢;simp only [hq_,not_false_eq_true,and_self])),⟨(by first|exact hk.1.1.1.2|(have hq_:=hk;simp only [ne_eq] at hq_ ⊢;simp only [hq_,not_false_eq_true,and_self])),⟨(by first|exact hk.1.1.2|(have hq_:=hk;simp only [ne_eq] at hq_ ⊢;simp only [hq_,not_false_eq_true,and_self])),(by first|exact hk.1.2|(have hq_:=hk;simp only [ne_eq] at hq_ ⊢;simp only [hq_,not_false_eq_true,and_self]))⟩⟩⟩))),(zs (zo2_ HO439.out (fun _ hk => ⟨(by first|exact hk.2|(have hq_:=hk;simp only [ne_eq] at hq_ ⊢;simp only [hq_,not_false_eq_true,and_self])),(by first|exact hk.1.2|(have hq_:=hk;simp only [ne_eq] at hq_ ⊢;simp only [hq_,not_false_eq_true,and_self]))⟩))),(zs (zo2_ HO443.out (fun _ hk => ⟨(by first|exact hk.2|(have hq_:=hk;simp only [ne_eq] at hq_ ⊢;simp only [hq_,not_false_eq_true,and_self])),⟨(by first|exact hk.1.1.1.2|(have hq_:=hk;simp only [ne_eq] at hq_ ⊢;simp only [hq_,not_false_eq_true,and_self])),⟨(by first|exact hk.1.1.2|(have hq_:=hk;simp only [ne_eq] at hq_ ⊢;simp only [hq_,not_false_eq_true,and_self])),(by first|exact hk.1.2|(have hq_:=hk;simp only [ne_eq] at hq_ ⊢;simp only [hq_,not_false_eq_true,and_self]))⟩⟩⟩))),(zs (zo2_ HO_11.out (fun _ hk => ⟨(by first|exact hk.2|(have hq_:=hk;simp only [ne_eq] at hq_ ⊢;simp only [hq_,not_false_eq_true,and_self])),(by first|exact hk.1|(have hq_:=hk;simp only [ne_eq] at hq_ ⊢;simp only [hq_,not_false_eq_true,and_self]))⟩))),(zs (zo2_ HO_399001.out (fun _ hk => ⟨(by first|exact hk.1.2|(have hq_:=hk;simp only [ne_eq] at hq_ ⊢;simp only [hq_,not_false_eq_true,and_self])),⟨(by first|exact hk.2|(have hq_:=hk;simp only [ne_eq] at hq_ ⊢;simp only [hq_,not_false_eq_true,and_self])),⟨(by first|exact hk.1.1.1|(have hq_:=hk;simp only [ne_eq] at hq_ ⊢;simp only [hq_,not_false_eq_true,and_self])),(by first|exact hk.1.1.2|(have hq_:=hk;simp only [ne_eq] at hq_ ⊢;simp only [hq_,not_false_eq_true,and_self]))⟩⟩⟩))),(zs (zo2_ HO_404001.out (fun _ hk => ⟨(by first|exact hk.1.2|(have hq_:=hk;simp only [ne_eq] at hq_ ⊢;simp only [hq_,not_false_eq_true,and_self])),⟨(by first|exact hk.2|(have hq_:=hk;simp only [ne_eq] at hq_ ⊢;simp only [hq_,not_false_eq_true,and_self])),⟨(by first|exact hk.1.1.1|(have hq_:=hk;simp only [ne_eq] at hq_ ⊢;simp only [hq_,not_false_eq_true,and_self])),(by first|exact hk.1.1.2|(have hq_:=hk;simp only [ne_eq] at hq_ ⊢;simp only [hq_,not_false_eq_true,and_self]))⟩⟩⟩))),(zs (zo2_ HO_414001.out (fun _ hk => ⟨(by first|exact hk.1.2|(have hq_:=hk;simp only [ne_eq] at hq_ ⊢;simp only [hq_,not_false_eq_true,and_self])),⟨(by first|exact hk.2|(have hq_:=hk;simp only [ne_eq] at hq_ ⊢;simp only [hq_,not_false_eq_true,and_self])),⟨(by first|exact hk.1.1.1|(have hq_:=hk;simp only [ne_eq] at hq_ ⊢;simp only [hq_,not_false_eq_true,and_self])),(by first|exact hk.1.1.2|(have hq_:=hk;simp only [ne_eq] at hq_ ⊢;simp only [hq_,not_false_eq_true,and_self]))⟩⟩⟩))),(zs (zo2_ HO_8.out (fun _ hk => ⟨(by first|exact hk.2|(have hq_:=hk;simp only [ne_eq] at hq_ ⊢;simp only [hq_,not_false_eq_true,and_self])),(by first|exact hk.1|(have hq_:=hk;simp only [ne_eq] at hq_ ⊢;simp only [hq_,not_false_eq_true,and_self]))⟩))),(zb BK381),(zb BK382),(zb BK398),(zb BK403),(zb BK413),(zb BK444),GW444.out,GE444.out,NB381_444.out,NB444_381.out,NB382_444.out,NB444_382.out,NB398_444.out,NB444_398.out,NB403_444.out,NB444_403.out,NB413_444.out,NB444_413.out,(by repeat (first|(with_reducible first|exact HB.out|apply zm3_|apply zm2_|apply zm4_|refine zm1_ ?_ GE381.out|refine zm1_ ?_ GE382.out|refine zm1_ ?_ GE398.out|refine zm1_ ?_ GE403.out|refine zm1_ ?_ GE413.out|refine zm1_ ?_ GE444.out)|exact HB.out))⟩)
                ·
                 skip
                 refine box_step ?hg (N:=17) ?hd (cs:=#[.int .i64 0,.slice none 0 0]) (t:=32) ?hr ?_;(case hd => rfl);(case hg => rfl);(case hr => first|(go_simp;done)|(go_simp;rfl))
                 intro gb444 hg w138 hbox hb
                 replace HO_8:=zm0_ (zm8_ (zr HO_8) hb)
                 replace HO_11:=zm0_ (zm8_ (zr HO_11) hb)
                 replace HO_399001:=zm0_ (zm8_ (zr HO_399001) hb)
                 replace HO_404001:=zm0_ (zm8_ (zr HO_404001) hb)
                 replace HO_414001:=zm0_ (zm8_ (zr HO_414001) hb)
                 replace HO434:=zm0_ (zm8_ (zr HO434) hb)
                 have BK444:=zm0_ (hbox)
                 have GW444:=zm0_ ((by rw [hg];exact (zn9_ (zl5 HB GE381 GE382 GE398 GE403 GE413)) : w.heap.size ≤ gb444))
                 have GE444:=zm0_ ((by rw [hg];exact (zn9_ (zl5 HB GE381 GE382 GE398 GE403 GE413)) : w.heap.size ≤ gb444))
                 replace HB:=zm0_ (zn8_ (zl5 HB GE381 GE382 GE398 GE403 GE413) hb)
                 have NB381_444:=zm0_ ((by rw [hg];exact Nat.ne_of_lt (zo3_ (g:=gb381) (o:=.cells #[.int .i64 a0_0,.slice A0_1 l0_1.length c0_1] 24 (0,0)) (zb BK381)) : gb381 ≠ gb444))
                 have NB444_381:=zm0_ ((by rw [hg];exact Nat.ne_of_gt (zo3_ (g:=gb381) (o:=.cells #[.int .i64 a0_0,.slice A0_1 l0_1.length c0_1] 24 (0,0)) (zb BK381)) : gb444 ≠ gb381))
                 replace BK381:=zm0_ (zm5_ (zb BK381) hb)
                 have NB382_444:=zm0_ ((by rw [hg];exact Nat.ne_of_lt (zo3_ (g:=gb382) (o:=.cells #[.string a1_0,.string a1_1] 26 (0,0)) (zb BK382)) : gb382 ≠ gb444))
                 have NB444_382:=zm0_ ((by rw [hg];exact Nat.ne_of_gt (zo3_ (g:=gb382) (o:=.cells #[.string a1_0,.string a1_1] 26 (0,0)) (zb BK382)) : gb444 ≠ gb382))
                 replace BK382:=zm0_ (zm5_ (zb BK382) hb)
                 have NB398_444:=zm0_ ((by rw [hg];exact Nat.ne_of_lt (zo3_ (g:=gb398) (o:=.cells #[.int .i64 t394,.slice Ao42 t395.length co42] 32 (0,0)) (zb BK398)) : gb398 ≠ gb444))
                 have NB444_398:=zm0_ ((by rw [hg];exact Nat.ne_of_gt (zo3_ (g:=gb398) (o:=.cells #[.int .i64 t394,.slice Ao42 t395.length co42] 32 (0,0)) (zb BK398)) : gb444 ≠ gb398))
                 replace BK398:=zm0_ (zm5_ (zb BK398) hb)
                 have NB403_444:=zm0_ ((by rw [hg];exact Nat.ne_of_lt (zo3_ (g:=gb403) (o:=.cells #[.int .i64 t399,.slice Ao52 t422.length co52] 32 (0,0)) (zb BK403)) : gb403 ≠ gb444))
                 have NB444_403:=zm0_ ((by rw [hg];exact Nat.ne_of_gt (zo3_ (g:=gb403) (o:=.cells #[.int .i64 t399,.slice Ao52 t422.length co52] 32 (0,0)) (zb BK403)) : gb444 ≠ gb403))
                 replace BK403:=zm0_ (zm5_ (zb BK403) hb)
                 have NB413_444:=zm0_ ((by rw [hg];exact Nat.ne_of_lt (zo3_ (g:=gb413) (o:=.cells #[.int .i64 t409,.slice Ao60 t410.length co60] 32 (0,0)) (zb BK413)) : gb413 ≠ gb444))
                 have NB444_413:=zm0_ ((by rw [hg];exact Nat.ne_of_gt (zo3_ (g:=gb413) (o:=.cells #[.int .i64 t409,.slice Ao60 t410.length co60] 32 (0,0)) (zb BK413)) : gb444 ≠ gb413))
                 replace BK413:=zm0_ (zm5_ (zb BK413) hb)
                 clear hb hbox hg
                 obtain ⟨Ao139,co139,eo139⟩:=Kd.R_slice HO434.out
                 (first|subst eo139|(injection eo139 with f1_ f2_ f3_;have f4_:=f1_.symm;have f5_:=f3_.symm;clear f1_ f2_ f3_;subst f4_;subst f5_))
                 refine hK.out _ _ ⟨(zm6_ BK381.out 0).trans rfl,(zm6_ BK381.out 1).trans rfl,(zm6_ BK382.out 0).trans rfl,(zm6_ BK382.out 1).trans rfl⟩ (fun hHeld => ?_)
                 clear hK K
                 refine norm_ (a':=?_) ?_ ?_
                 rotate_left
                 ·
                  show Act.put _ (some 17) _ = _
                  simp only [Act.put,lA_,lB_,lC_,i64_w,i32_w]
                  rfl
                 refine one_ (i:=5) (N:=some 104) #[Y,Y,Y,Y,Y,Y,Z,Z,Z,Y,Z,Z] rfl rfl (one_of HT_.out (by kernel_rfl)) (by decide) (fun K hK => ?_)
                 refine goes_ Tryz.func10 (by kernel_rfl) rfl #[.agg #[.int .i64 t431,.slice Ao139 t432.length co139],.agg #[.string t435,.string t436],.int .i64 a2] (by rfl) rfl rfl zy ?_
                 with_reducible refine (impl_PutField.calls kj83 t431 _ _ t432 t435 t436 a2 t437 t440 t441 _ ?side1 ?side2 ?side3 A123.out).mono ?_
                 (case side1 => repeat (first|exact (Kd.R_reads' HO434.out).2.2|(with_reducible refine Kd.C_alloc ?_ _)|(with_reducible refine Kd.C_drewN ?_ _)|(with_reducible refine Kd.C_drew ?_)))
                 (case side2 => exact (Kd.R_reads' HO434.out).2.1)
                 (case side3 => first|exact ht|(refine tb_below ht ?_;repeat (first|(with_reducible first|exact HB.out|apply zm3_|apply zm2_|apply zm4_|refine zm1_ ?_ GE381.out|refine zm1_ ?_ GE382.out|refine zm1_ ?_ GE398.out|refine zm1_ ?_ GE403.out|refine zm1_ ?_ GE413.out|refine zm1_ ?_ GE444.out)|exact HB.out)))
                 rintro e w140 ⟨v438,v442,rfl,ho0,ho1,hb⟩
                 refine ⟨_,rfl,?_⟩
                 have HO439:=zm0_ (zo1_ (Kd.R_new' (Kd.R_new' ho0 (Kd.R_lt (zr HO_8))) (Kd.R_lt (zr HO_11))) (zn9_ (by repeat (first|(with_reducible first|exact HB.out|apply zm3_|apply zm2_|apply zm4_|refine zm1_ ?_ GE381.out|refine zm1_ ?_ GE382.out|refine zm1_ ?_ GE398.out|refine zm1_ ?_ GE403.out|refine zm1_ ?_ GE413.out|refine zm1_ ?_ GE444.out)|exact HB.out))))
                 replace HO_8:=zm0_ (Kd.R_elder' (zr HO_8) (Kd.R_base ho0) hb)
                 replace HO_11:=zm0_ (Kd.R_elder' (zr HO_11) (Kd.R_base ho0) hb)
                 have HO443:=zm0_ (zo1_ (Kd.R_new' (Kd.R_new' (Kd.R_new' (Kd.R_new' ho1 (Kd.R_lt (zr HO_399001))) (Kd.R_lt (zr HO_404001))) (Kd.R_lt (zr HO_414001))) (Kd.R_lt (zr HO434))) (zn9_ (by repeat (first|(with_reducible first|exact HB.out|apply zm3_|apply zm2_|apply zm4_|refine zm1_ ?_ GE381.out|refine zm1_ ?_ GE382.out|refine zm1_ ?_ GE398.out|refine zm1_ ?_ GE403.out|refine zm1_ ?_ GE413.out|refine zm1_ ?_ GE444.out)|exact HB.out))))
                 replace HO_399001:=zm0_ (Kd.R_elder' (zr HO_399001) (Kd.R_base ho1) hb)
                 replace HO_404001:=zm0_ (Kd.R_elder' (zr HO_404001) (Kd.R_base ho1) hb)
                 replace HO_414001:=zm0_ (Kd.R_elder' (zr HO_414001) (Kd.R_base ho1) hb)
                 replace HO434:=zm0_ (Kd.R_elder' (zr HO434) (Kd.R_base ho1) hb)
                 replace BK381:=zm0_ (zm5_ (zb BK381) hb)
                 replace BK382:=zm0_ (zm5_ (zb BK382) hb)
                 replace BK398:=zm0_ (zm5_ (zb BK398) hb)
                 replace BK403:=zm0_ (zm5_ (zb BK403) hb)
                 replace BK413:=zm0_ (zm5_ (zb BK413) hb)
                 replace BK444:=zm0_ (zm5_ (zb BK444) hb)
                 replace HB:=zm0_ (zn8_ (by repeat (first|(with_reducible first|exact HB.out|apply zm3_|apply zm2_|apply zm4_|refine zm1_ ?_ GE381.out|refine zm1_ ?_ GE382.out|refine zm1_ ?_ GE398.out|refine zm1_ ?_ GE403.out|refine zm1_ ?_ GE413.out|refine zm1_ ?_ GE444.out)|exact HB.out)) hb)
                 (try clear hb)
                 (try clear hb2)
                 (try clear hk)
                 (try clear hi)
                 (try clear ho0)
                 (try clear ho1)
                 refine hK.out _ _ ⟨(zm6_ BK381.out 0).trans rfl,(zm6_ BK381.out 1).trans rfl,(zm6_ BK382.out 0).trans rfl,(zm6_ BK382.out 1).trans rfl⟩ (fun hHeld => ?_)
                 clear hK K
                 refine norm_ (a':=?_) ?_ ?_
                 rotate_left
                 ·
                  show Act.put _ (some 104) _ = _
                  simp only [Act.put,lA_,lB_,lC_,i64_w,i32_w]
                  rfl
                 refine pure_ (i:=6) (N:=some 98) (v:=?_) (a':=?_) #[Y,Y,Y,Y,Y,Y,Y,Z,Z,Y,Z,Z] rfl rfl (any_of HT_.out (by kernel_rfl)) (fun _ _ _ h => h) (Or.inl ⟨by rfl,?_⟩) ?_ ?_
                 rotate_left
                 ·
                  intro w'
                  go_simp
                  with_reducible rfl
                 rotate_left
                 ·
                  simp only [Act.put,lA_,lB_,lC_,i64_w,i32_w]
                  rfl
                 refine pure_ (i:=7) (N:=some 105) (v:=?_) (a':=?_) #[Y,Y,Y,Y,Y,Y,Y,Y,Z,Y,Z,Z] rfl rfl (any_of HT_.out (by kernel_rfl)) (fun _ _ _ h => h) (Or.inl ⟨by rfl,?_⟩) ?_ ?_
                 rotate_left
                 ·
                  intro w'
                  go_simp
                  with_reducible rfl
                 rotate_left
                 ·
                  simp only [Act.put,lA_,lB_,lC_,i64_w,i32_w]
                  rfl
                 refine pure_ (i:=8) (N:=some 106) (v:=?_) (a':=?_) #[Y,Y,Y,Y,Y,Y,Y,Y,Y,Y,Z,Z] rfl rfl (any_of HT_.out (by kernel_rfl)) (fun _ _ _ h => h) (Or.inl ⟨by rfl,?_⟩) ?_ ?_
                 rotate_left
                 ·
                  intro w'
                  go_simp
                  with_reducible rfl
                 rotate_left
                 ·
                  simp only [Act.put,lA_,lB_,lC_,i64_w,i32_w]
                  rfl
                 exact norm_ (by simp only [putAll,Act.put,lA_,lB_,lC_]) (hCont (.slice Ao139 t432.length co139,v438,v442,gb444) _ ⟨hHeld,(zs (zo2_ HO434.out (fun _ hk => ⟨(by first|exact hk.2|(have hq_:=hk;simp only [ne_eq] at hq_ ⊢;simp only [hq_,not_false_eq_true,and_self])),⟨(by first|exact hk.1.1.1.2|(have hq_:=hk;simp only [ne_eq] at hq_ ⊢;simp only [hq_,not_false_eq_true,and_self])),⟨(by first|exact hk.1.1.2|(have hq_:=hk;simp only [ne_eq] at hq_ ⊢;simp only [hq_,not_false_eq_true,and_self])),(by first|exact hk.1.2|(have hq_:=hk;simp only [ne_eq] at hq_ ⊢;simp only [hq_,not_false_eq_true,and_self]))⟩⟩⟩))),(zs (zo2_ HO439.out (fun _ hk => ⟨(by first|exact hk.2|(have hq_:=hk;simp only [ne_eq] at hq_ ⊢;simp only [hq_,not_false_eq_true,and_self])),(by first|exact hk.1.2|(have hq_:=hk;simp only [ne_eq] at hq_ ⊢;simp only [hq_,not_false_eq_true,and_self]))⟩))),(zs (zo2_ HO443.out (fun _ hk => ⟨(by first|exact hk.2|(have hq_:=hk;simp only [ne_eq] at hq_ ⊢;simp only [hq_,not_false_eq_true,and_self])),⟨(by first|exact hk.1.1.1.2|(have hq_:=hk;simp only [ne_eq] at hq_ ⊢;simp only [hq_,not_false_eq_true,and_self])),⟨(by first|exact hk.1.1.2|(have hq_:=hk;simp only [ne_eq] at hq_ ⊢;simp only [hq_,not_false_eq_true,and_self])),(by first|exact hk.1.2|(have hq_:=hk;simp only [ne_eq] at hq_ ⊢;simp only [hq_,not_false_eq_true,and_self]))⟩⟩⟩))),(zs (zo2_ HO_11.out (fun _ hk => ⟨(by first|exact hk.2|(have hq_:=hk;simp only [ne_eq] at hq_ ⊢;simp only [hq_,not_false_eq_true,and_self])),(by first|exact hk.1|(have hq_:=hk;simp only [ne_eq] at hq_ ⊢;simp only [hq_,not_false_eq_true,and_self]))⟩))),(zs (zo2_ HO_399001.out (fun _ hk => ⟨(by first|exact hk.1.2|(have hq_:=hk;simp only [ne_eq] at hq_ ⊢;simp only [hq_,not_false_eq_true,and_self])),⟨(by first|exact hk.2|(have hq_:=hk;simp only [ne_eq] at hq_ ⊢;simp only [hq_,not_false_eq_true,and_self])),⟨(by first|exact hk.1.1.1|(have hq_:=hk;simp only [ne_eq] at hq_ ⊢;simp only [hq_,not_false_eq_true,and_self])),(by first|exact hk.1.1.2|(have hq_:=hk;simp only [ne_eq] at hq_ ⊢;simp only [hq_,not_false_eq_true,and_self]))⟩⟩⟩))),(zs (zo2_ HO_404001.out (fun _ hk => ⟨(by first|exact hk.1.2|(have hq_:=hk;simp only [ne_eq] at hq_ ⊢;simp only [hq_,not_false_eq_true,and_self])),⟨(by first|exact hk.2|(have hq_:=hk;simp only [ne_eq] at hq_ ⊢;simp only [hq_,not_false_eq_true,and_self])),⟨(by first|exact hk.1.1.1|(have hq_:=hk;simp only [ne_eq] at hq_ ⊢;simp only [hq_,not_false_eq_true,and_self])),(by first|exact hk.1.1.2|(have hq_:=hk;simp only [ne_eq] at hq_ ⊢;simp only [hq_,not_false_eq_true,and_self]))⟩⟩⟩))),(zs (zo2_ HO_414001.out (fun _ hk => ⟨(by first|exact hk.1.2|(have hq_:=hk;simp only [ne_eq] at hq_ ⊢;simp only [hq_,not_false_eq_true,and_self])),⟨(by first|exact hk.2|(have hq_:=hk;simp only [ne_eq] at hq_ ⊢;simp only [hq_,not_false_eq_true,and_self])),⟨(by first|exact hk.1.1.1|(have hq_:=hk;simp only [ne_eq] at hq_ ⊢;simp only [hq_,not_false_eq_true,and_self])),(by first|exact hk.1.1.2|(have hq_:=hk;simp only [ne_eq] at hq_ ⊢;simp only [hq_,not_false_eq_true,and_self]))⟩⟩⟩))),(zs (zo2_ HO_8.out (fun _ hk => ⟨(by first|exact hk.2|(have hq_:=hk;simp only [ne_eq] at hq_ ⊢;simp only [hq_,not_false_eq_true,and_self])),(by first|exact hk.1|(have hq_:=hk;simp only [ne_eq] at hq_ ⊢;simp only [hq_,not_false_eq_true,and_self]))⟩))),(zb BK381),(zb BK382),(zb BK398),(zb BK403),(zb BK413),(zb BK444),GW444.out,GE444.out,NB381_444.out,NB444_381.out,NB382_444.out,NB444_382.out,NB398_444.out,NB444_398.out,NB403_444.out,NB444_403.out,NB413_444.out,NB444_413.out,(by repeat (first|(with_reducible first|exact HB.out|apply zm3_|apply zm2_|apply zm4_|refine zm1_ ?_ GE381.out|refine zm1_ ?_ GE382.out|refine zm1_ ?_ GE398.out|refine zm1_ ?_ GE403.out|refine zm1_ ?_ GE413.out|refine zm1_ ?_ GE444.out)|exact HB.out))⟩)
               ·
                skip
                refine box_step ?hg (N:=17) ?hd (cs:=#[.int .i64 0,.slice none 0 0]) (t:=32) ?hr ?_;(case hd => rfl);(case hg => rfl);(case hr => first|(go_simp;done)|(go_simp;rfl))
                intro gb444 hg w137 hbox hb
                replace HO_8:=zm0_ (zm8_ (zr HO_8) hb)
                replace HO_11:=zm0_ (zm8_ (zr HO_11) hb)
                replace HO_399001:=zm0_ (zm8_ (zr HO_399001) hb)
                replace HO_404001:=zm0_ (zm8_ (zr HO_404001) hb)
                replace HO_414001:=zm0_ (zm8_ (zr HO_414001) hb)
                replace HO434:=zm0_ (zm8_ (zr HO434) hb)
                have BK444:=zm0_ (hbox)
                have GW444:=zm0_ ((by rw [hg];exact (zn9_ (zl5 HB GE381 GE382 GE398 GE403 GE413)) : w.heap.size ≤ gb444))
                have GE444:=zm0_ ((by rw [hg];exact (zn9_ (zl5 HB GE381 GE382 GE398 GE403 GE413)) : w.heap.size ≤ gb444))
                replace HB:=zm0_ (zn8_ (zl5 HB GE381 GE382 GE398 GE403 GE413) hb)
                have NB381_444:=zm0_ ((by rw [hg];exact Nat.ne_of_lt (zo3_ (g:=gb381) (o:=.cells #[.int .i64 a0_0,.slice A0_1 l0_1.length c0_1] 24 (0,0)) (zb BK381)) : gb381 ≠ gb444))
                have NB444_381:=zm0_ ((by rw [hg];exact Nat.ne_of_gt (zo3_ (g:=gb381) (o:=.cells #[.int .i64 a0_0,.slice A0_1 l0_1.length c0_1] 24 (0,0)) (zb BK381)) : gb444 ≠ gb381))
                replace BK381:=zm0_ (zm5_ (zb BK381) hb)
                have NB382_444:=zm0_ ((by rw [hg];exact Nat.ne_of_lt (zo3_ (g:=gb382) (o:=.cells #[.string a1_0,.string a1_1] 26 (0,0)) (zb BK382)) : gb382 ≠ gb444))
                have NB444_382:=zm0_ ((by rw [hg];exact Nat.ne_of_gt (zo3_ (g:=gb382) (o:=.cells #[.string a1_0,.string a1_1] 26 (0,0)) (zb BK382)) : gb444 ≠ gb382))
                replace BK382:=zm0_ (zm5_ (zb BK382) hb)
                have NB398_444:=zm0_ ((by rw [hg];exact Nat.ne_of_lt (zo3_ (g:=gb398) (o:=.cells #[.int .i64 t394,.slice Ao42 t395.length co42] 32 (0,0)) (zb BK398)) : gb398 ≠ gb444))
                have NB444_398:=zm0_ ((by rw [hg];exact Nat.ne_of_gt (zo3_ (g:=gb398) (o:=.cells #[.int .i64 t394,.slice Ao42 t395.length co42] 32 (0,0)) (zb BK398)) : gb444 ≠ gb398))
                replace BK398:=zm0_ (zm5_ (zb BK398) hb)
                have NB403_444:=zm0_ ((by rw [hg];exact Nat.ne_of_lt (zo3_ (g:=gb403) (o:=.cells #[.int .i64 t399,.slice Ao52 t422.length co52] 32 (0,0)) (zb BK403)) : gb403 ≠ gb444))
                have NB444_403:=zm0_ ((by rw [hg];exact Nat.ne_of_gt (zo3_ (g:=gb403) (o:=.cells #[.int .i64 t399,.slice Ao52 t422.length co52] 32 (0,0)) (zb BK403)) : gb444 ≠ gb403))
                replace BK403:=zm0_ (zm5_ (zb BK403) hb)
                have NB413_444:=zm0_ ((by rw [hg];exact Nat.ne_of_lt (zo3_ (g:=gb413) (o:=.cells #[.int .i64 t409,.slice Ao60 t410.length co60] 32 (0,0)) (zb BK413)) : gb413 ≠ gb444))
                have NB444_413:=zm0_ ((by rw [hg];exact Nat.ne_of_gt (zo3_ (g:=gb413) (o:=.cells #[.int .i64 t409,.slice Ao60 t410.length co60] 32 (0,0)) (zb BK413)) : gb444 ≠ gb413))
                replace BK413:=zm0_ (zm5_ (zb BK413) hb)
                clear hb hbox hg
                refine hK.out _ _ ⟨(zm6_ BK381.out 0).trans rfl,(zm6_ BK381.out 1).trans rfl,(zm6_ BK382.out 0).trans rfl,(zm6_ BK382.out 1).trans rfl⟩ (fun hHeld => ?_)
                clear hK K
                refine norm_ (a':=?_) ?_ ?_
                rotate_left
                ·
                 show Act.put _ (some 17) _ = _
                 simp only [Act.put,lA_,lB_,lC_,i64_w,i32_w]
                 rfl
                refine one_ (i:=3) (N:=some 102) #[Y,Y,Y,Y,Y,Z,Z,Z,Z,Y,Z,Z] rfl rfl (one_of HT_.out (by kernel_rfl)) (by decide) (fun K hK => ?_)
                refine goes_ Tryz.func9 (by kernel_rfl) rfl #[.agg #[.string a1_0,.string a1_1]] (by rfl) rfl rfl zy ?_
                with_reducible refine (laws_toField.calls a1_0 a1_1 t435 t436 _ A122.out).mono ?_
                rintro e w138 ⟨rfl,hb⟩
                refine ⟨_,rfl,?_⟩
                replace HO_8:=zm0_ (zm8_ (zr HO_8) hb)
                replace HO_11:=zm0_ (zm8_ (zr HO_11) hb)
                replace HO_399001:=zm0_ (zm8_ (zr HO_399001) hb)
                replace HO_404001:=zm0_ (zm8_ (zr HO_404001) hb)
                replace HO_414001:=zm0_ (zm8_ (zr HO_414001) hb)
                replace HO434:=zm0_ (zm8_ (zr HO434) hb)
                replace BK381:=zm0_ (zm5_ (zb BK381) hb)
                replace BK382:=zm0_ (zm5_ (zb BK382) hb)
                replace BK398:=zm0_ (zm5_ (zb BK398) hb)
                replace BK403:=zm0_ (zm5_ (zb BK403) hb)
                replace BK413:=zm0_ (zm5_ (zb BK413) hb)
                replace BK444:=zm0_ (zm5_ (zb BK444) hb)
                replace HB:=zm0_ (zn8_ (by repeat (first|(with_reducible first|exact HB.out|apply zm3_|apply zm2_|apply zm4_|refine zm1_ ?_ GE381.out|refine zm1_ ?_ GE382.out|refine zm1_ ?_ GE398.out|refine zm1_ ?_ GE403.out|refine zm1_ ?_ GE413.out|refine zm1_ ?_ GE444.out)|exact HB.out)) hb)
                (try clear hb)
                (try clear hb2)
                (try clear hk)
                (try clear hi)
                obtain ⟨Ao139,co139,eo139⟩:=Kd.R_slice HO434.out
                (first|subst eo139|(injection eo139 with f1_ f2_ f3_;have f4_:=f1_.symm;have f5_:=f3_.symm;clear f1_ f2_ f3_;subst f4_;subst f5_))
                refine hK.out _ _ ⟨(zm6_ BK381.out 0).trans rfl,(zm6_ BK381.out 1).trans rfl,(zm6_ BK382.out 0).trans rfl,(zm6_ BK382.out 1).trans rfl⟩ (fun hHeld => ?_)
                clear hK K
                refine norm_ (a':=?_) ?_ ?_
                rotate_left
                ·
                 show Act.put _ (some 102) _ = _
                 simp only [Act.put,lA_,lB_,lC_,i64_w,i32_w]
                 rfl
                refine one_ (i:=5) (N:=some 104) #[Y,Y,Y,Y,Y,Y,Z,Z,Z,Y,Z,Z] rfl rfl (one_of HT_.out (by kernel_rfl)) (by decide) (fun K hK => ?_)
                refine goes_ Tryz.func10 (by kernel_rfl) rfl #[.agg #[.int .i64 t431,.slice Ao139 t432.length co139],.agg #[.string t435,.string t436],.int .i64 a2] (by rfl) rfl rfl zy ?_
                with_reducible refine (impl_PutField.calls kj83 t431 _ _ t432 t435 t436 a2 t437 t440 t441 _ ?side1 ?side2 ?side3 A123.out).mono ?_
                (case side1 => repeat (first|exact (Kd.R_reads' HO434.out).2.2|(with_reducible refine Kd.C_alloc ?_ _)|(with_reducible refine Kd.C_drewN ?_ _)|(with_reducible refine Kd.C_drew ?_)))
                (case side2 => exact (Kd.R_reads' HO434.out).2.1)
                (case side3 => first|exact ht|(refine tb_below ht ?_;repeat (first|(with_reducible first|exact HB.out|apply zm3_|apply zm2_|apply zm4_|refine zm1_ ?_ GE381.out|refine zm1_ ?_ GE382.out|refine zm1_ ?_ GE398.out|refine zm1_ ?_ GE403.out|refine zm1_ ?_ GE413.out|refine zm1_ ?_ GE444.out)|exact HB.out)))
                rintro e w140 ⟨v438,v442,rfl,ho0,ho1,hb⟩
                refine ⟨_,rfl,?_⟩
                have HO439:=zm0_ (zo1_ (Kd.R_new' (Kd.R_new' ho0 (Kd.R_lt (zr HO_8))) (Kd.R_lt (zr HO_11))) (zn9_ (by repeat (first|(with_reducible first|exact HB.out|apply zm3_|apply zm2_|apply zm4_|refine zm1_ ?_ GE381.out|refine zm1_ ?_ GE382.out|refine zm1_ ?_ GE398.out|refine zm1_ ?_ GE403.out|refine zm1_ ?_ GE413.out|refine zm1_ ?_ GE444.out)|exact HB.out))))
                replace HO_8:=zm0_ (Kd.R_elder' (zr HO_8) (Kd.R_base ho0) hb)
                replace HO_11:=zm0_ (Kd.R_elder' (zr HO_11) (Kd.R_base ho0) hb)
                have HO443:=zm0_ (zo1_ (Kd.R_new' (Kd.R_new' (Kd.R_new' (Kd.R_new' ho1 (Kd.R_lt (zr HO_399001))) (Kd.R_lt (zr HO_404001))) (Kd.R_lt (zr HO_414001))) (Kd.R_lt (zr HO434))) (zn9_ (by repeat (first|(with_reducible first|exact HB.out|apply zm3_|apply zm2_|apply zm4_|refine zm1_ ?_ GE381.out|refine zm1_ ?_ GE382.out|refine zm1_ ?_ GE398.out|refine zm1_ ?_ GE403.out|refine zm1_ ?_ GE413.out|refine zm1_ ?_ GE444.out)|exact HB.out))))
                replace HO_399001:=zm0_ (Kd.R_elder' (zr HO_399001) (Kd.R_base ho1) hb)
                replace HO_404001:=zm0_ (Kd.R_elder' (zr HO_404001) (Kd.R_base ho1) hb)
                replace HO_414001:=zm0_ (Kd.R_elder' (zr HO_414001) (Kd.R_base ho1) hb)
                replace HO434:=zm0_ (Kd.R_elder' (zr HO434) (Kd.R_base ho1) hb)
                replace BK381:=zm0_ (zm5_ (zb BK381) hb)
                replace BK382:=zm0_ (zm5_ (zb BK382) hb)
                replace BK398:=zm0_ (zm5_ (zb BK398) hb)
                replace BK403:=zm0_ (zm5_ (zb BK403) hb)
                replace BK413:=zm0_ (zm5_ (zb BK413) hb)
                replace BK444:=zm0_ (zm5_ (zb BK444) hb)
                replace HB:=zm0_ (zn8_ (by repeat (first|(with_reducible first|exact HB.out|apply zm3_|apply zm2_|apply zm4_|refine zm1_ ?_ GE381.out|refine zm1_ ?_ GE382.out|refine zm1_ ?_ GE398.out|refine zm1_ ?_ GE403.out|refine zm1_ ?_ GE413.out|refine zm1_ ?_ GE444.out)|exact HB.out)) hb)
                (try clear hb)
                (try clear hb2)
                (try clear hk)
                (try clear hi)
                (try clear ho0)
                (try clear ho1)
                refine hK.out _ _ ⟨(zm6_ BK381.out 0).trans rfl,(zm6_ BK381.out 1).trans rfl,(zm6_ BK382.out 0).trans rfl,(zm6_ BK382.out 1).trans rfl⟩ (fun hHeld => ?_)
                clear hK K
                refine norm_ (a':=?_) ?_ ?_
                rotate_left
                ·
                 show Act.put _ (some 104) _ = _
                 simp only [Act.put,lA_,lB_,lC_,i64_w,i32_w]
                 rfl
                refine pure_ (i:=6) (N:=some 98) (v:=?_) (a':=?_) #[Y,Y,Y,Y,Y,Y,Y,Z,Z,Y,Z,Z] rfl rfl (any_of HT_.out (by kernel_rfl)) (fun _ _ _ h => h) (Or.inl ⟨by rfl,?_⟩) ?_ ?_
                rotate_left
                ·
                 intro w'
                 go_simp
                 with_reducible rfl
                rotate_left
                ·
                 simp only [Act.put,lA_,lB_,lC_,i64_w,i32_w]
                 rfl
                refine pure_ (i:=7) (N:=some 105) (v:=?_) (a':=?_) #[Y,Y,Y,Y,Y,Y,Y,Y,Z,Y,Z,Z] rfl rfl (any_of HT_.out (by kernel_rfl)) (fun _ _ _ h => h) (Or.inl ⟨by rfl,?_⟩) ?_ ?_
                rotate_left
                ·
                 intro w'
                 go_simp
                 with_reducible rfl
                rotate_left
                ·
                 simp only [Act.put,lA_,lB_,lC_,i64_w,i32_w]
                 rfl
                refine pure_ (i:=8) (N:=some 106) (v:=?_) (a':=?_) #[Y,Y,Y,Y,Y,Y,Y,Y,Y,Y,Z,Z] rfl rfl (any_of HT_.out (by kernel_rfl)) (fun _ _ _ h => h) (Or.inl ⟨by rfl,?_⟩) ?_ ?_
                rotate_left
                ·
                 intro w'
                 go_simp
                 with_reducible rfl
                rotate_left
                ·
                 simp only [Act.put,lA_,lB_,lC_,i64_w,i32_w]
                 rfl
                exact norm_ (by simp only [putAll,Act.put,lA_,lB_,lC_]) (hCont (.slice Ao139 t432.length co139,v438,v442,gb444) _ ⟨hHeld,(zs (zo2_ HO434.out (fun _ hk => ⟨(by first|exact hk.2|(have hq_:=hk;simp only [ne_eq] at hq_ ⊢;simp only [hq_,not_false_eq_true,and_self])),⟨(by first|exact hk.1.1.1.2|(have hq_:=hk;simp only [ne_eq] at hq_ ⊢;simp only [hq_,not_false_eq_true,and_self])),⟨(by first|exact hk.1.1.2|(have hq_:=hk;simp only [ne_eq] at hq_ ⊢;simp only [hq_,not_false_eq_true,and_self])),(by first|exact hk.1.2|(have hq_:=hk;simp only [ne_eq] at hq_ ⊢;simp only [hq_,not_false_eq_true,and_self]))⟩⟩⟩))),(zs (zo2_ HO439.out (fun _ hk => ⟨(by first|exact hk.2|(have hq_:=hk;simp only [ne_eq] at hq_ ⊢;simp only [hq_,not_false_eq_true,and_self])),(by first|exact hk.1.2|(have hq_:=hk;simp only [ne_eq] at hq_ ⊢;simp only [hq_,not_false_eq_true,and_self]))⟩))),(zs (zo2_ HO443.out (fun _ hk => ⟨(by first|exact hk.2|(have hq_:=hk;simp only [ne_eq] at hq_ ⊢;simp only [hq_,not_false_eq_true,and_self])),⟨(by first|exact hk.1.1.1.2|(have hq_:=hk;simp only [ne_eq] at hq_ ⊢;simp only [hq_,not_false_eq_true,and_self])),⟨(by first|exact hk.1.1.2|(have hq_:=hk;simp only [ne_eq] at hq_ ⊢;simp only [hq_,not_false_eq_true,and_self])),(by first|exact hk.1.2|(have hq_:=hk;simp only [ne_eq] at hq_ ⊢;simp only [hq_,not_false_eq_true,and_self]))⟩⟩⟩))),(zs (zo2_ HO_11.out (fun _ hk => ⟨(by first|exact hk.2|(have hq_:=hk;simp only [ne_eq] at hq_ ⊢;simp only [hq_,not_false_eq_true,and_self])),(by first|exact hk.1|(have hq_:=hk;simp only [ne_eq] at hq_ ⊢;simp only [hq_,not_false_eq_true,and_self]))⟩))),(zs (zo2_ HO_399001.out (fun _ hk => ⟨(by first|exact hk.1.2|(have hq_:=hk;simp only [ne_eq] at hq_ ⊢;simp only [hq_,not_false_eq_true,and_self])),⟨(by first|exact hk.2|(have hq_:=hk;simp only [ne_eq] at hq_ ⊢;simp only [hq_,not_false_eq_true,and_self])),⟨(by first|exact hk.1.1.1|(have hq_:=hk;simp only [ne_eq] at hq_ ⊢;simp only [hq_,not_false_eq_true,and_self])),(by first|exact hk.1.1.2|(have hq_:=hk;simp only [ne_eq] at hq_ ⊢;simp only [hq_,not_false_eq_true,and_self]))⟩⟩⟩))),(zs (zo2_ HO_404001.out (fun _ hk => ⟨(by first|exact hk.1.2|(have hq_:=hk;simp only [ne_eq] at hq_ ⊢;simp only [hq_,not_false_eq_true,and_self])),⟨(by first|exact hk.2|(have hq_:=hk;simp only [ne_eq] at hq_ ⊢;simp only [hq_,not_false_eq_true,and_self])),⟨(by first|exact hk.1.1.1|(have hq_:=hk;simp only [ne_eq] at hq_ ⊢;simp only [hq_,not_false_eq_true,and_self])),(by first|exact hk.1.1.2|(have hq_:=hk;simp only [ne_eq] at hq_ ⊢;simp only [hq_,not_false_eq_true,and_self]))⟩⟩⟩))),(zs (zo2_ HO_414001.out (fun _ hk => ⟨(by first|exact hk.1.2|(have hq_:=hk;simp only [ne_eq] at hq_ ⊢;simp only [hq_,not_false_eq_true,and_self])),⟨(by first|exact hk.2|(have hq_:=hk;simp only [ne_eq] at hq_ ⊢;simp only [hq_,not_false_eq_true,and_self])),⟨(by first|exact hk.1.1.1|(have hq_:=hk;simp only [ne_eq] at hq_ ⊢;simp only [hq_,not_false_eq_true,and_self])),(by first|exact hk.1.1.2|(have hq_:=hk;simp only [ne_eq] at hq_ ⊢;simp only [hq_,not_false_eq_true,and_self]))⟩⟩⟩))),(zs (zo2_ HO_8.out (fun _ hk => ⟨(by first|exact hk.2|(have hq_:=hk;simp only [ne_eq] at hq_ ⊢;simp only [hq_,not_false_eq_true,and_self])),(by first|exact hk.1|(have hq_:=hk;simp only [ne_eq] at hq_ ⊢;simp only [hq_,not_false_eq_true,and_self]))⟩))),(zb BK381),(zb BK382),(zb BK398),(zb BK403),(zb BK413),(zb BK444),GW444.out,GE444.out,NB381_444.out,NB444_381.out,NB382_444.out,NB444_382.out,NB398_444.out,NB444_398.out,NB403_444.out,NB444_403.out,NB413_444.out,NB444_413.out,(by repeat (first|(with_reducible first|exact HB.out|apply zm3_|apply zm2_|apply zm4_|refine zm1_ ?_ GE381.out|refine zm1_ ?_ GE382.out|refine zm1_ ?_ GE398.out|refine zm1_ ?_ GE403.out|refine zm1_ ?_ GE413.out|refine zm1_ ?_ GE444.out)|exact HB.out))⟩)
              ·
               skip
               refine box_step ?hg (N:=17) ?hd (cs:=#[.int .i64 0,.slice none 0 0]) (t:=32) ?hr ?_;(case hd => rfl);(case hg => rfl);(case hr => first|(go_simp;done)|(go_simp;rfl))
               intro gb444 hg w136 hbox hb
               replace HO_8:=zm0_ (zm8_ (zr HO_8) hb)
               replace HO_11:=zm0_ (zm8_ (zr HO_11) hb)
               replace HO_399001:=zm0_ (zm8_ (zr HO_399001) hb)
               replace HO_404001:=zm0_ (zm8_ (zr HO_404001) hb)
               replace HO_414001:=zm0_ (zm8_ (zr HO_414001) hb)
               have BK444:=zm0_ (hbox)
               have GW444:=zm0_ ((by rw [hg];exact (zn9_ (zl5 HB GE381 GE382 GE398 GE403 GE413)) : w.heap.size ≤ gb444))
               have GE444:=zm0_ ((by rw [hg];exact (zn9_ (zl5 HB GE381 GE382 GE398 GE403 GE413)) : w.heap.size ≤ gb444))
               replace HB:=zm0_ (zn8_ (zl5 HB GE381 GE382 GE398 GE403 GE413) hb)
               have NB381_444:=zm0_ ((by rw [hg];exact Nat.ne_of_lt (zo3_ (g:=gb381) (o:=.cells #[.int .i64 a0_0,.slice A0_1 l0_1.length c0_1] 24 (0,0)) (zb BK381)) : gb381 ≠ gb444))
               have NB444_381:=zm0_ ((by rw [hg];exact Nat.ne_of_gt (zo3_ (g:=gb381) (o:=.cells #[.int .i64 a0_0,.slice A0_1 l0_1.length c0_1] 24 (0,0)) (zb BK381)) : gb444 ≠ gb381))
               replace BK381:=zm0_ (zm5_ (zb BK381) hb)
               have NB382_444:=zm0_ ((by rw [hg];exact Nat.ne_of_lt (zo3_ (g:=gb382) (o:=.cells #[.string a1_0,.string a1_1] 26 (0,0)) (zb BK382)) : gb382 ≠ gb444))
               have NB444_382:=zm0_ ((by rw [hg];exact Nat.ne_of_gt (zo3_ (g:=gb382) (o:=.cells #[.string a1_0,.string a1_1] 26 (0,0)) (zb BK382)) : gb444 ≠ gb382))
               replace BK382:=zm0_ (zm5_ (zb BK382) hb)
               have NB398_444:=zm0_ ((by rw [hg];exact Nat.ne_of_lt (zo3_ (g:=gb398) (o:=.cells #[.int .i64 t394,.slice Ao42 t395.length co42] 32 (0,0)) (zb BK398)) : gb398 ≠ gb444))
               have NB444_398:=zm0_ ((by rw [hg];exact Nat.ne_of_gt (zo3_ (g:=gb398) (o:=.cells #[.int .i64 t394,.slice Ao42 t395.length co42] 32 (0,0)) (zb BK398)) : gb444 ≠ gb398))
               replace BK398:=zm0_ (zm5_ (zb BK398) hb)
               have NB403_444:=zm0_ ((by rw [hg];exact Nat.ne_of_lt (zo3_ (g:=gb403) (o:=.cells #[.int .i64 t399,.slice Ao52 t422.length co52] 32 (0,0)) (zb BK403)) : gb403 ≠ gb444))
               have NB444_403:=zm0_ ((by rw [hg];exact Nat.ne_of_gt (zo3_ (g:=gb403) (o:=.cells #[.int .i64 t399,.slice Ao52 t422.length co52] 32 (0,0)) (zb BK403)) : gb444 ≠ gb403))
               replace BK403:=zm0_ (zm5_ (zb BK403) hb)
               have NB413_444:=zm0_ ((by rw [hg];exact Nat.ne_of_lt (zo3_ (g:=gb413) (o:=.cells #[.int .i64 t409,.slice Ao60 t410.length co60] 32 (0,0)) (zb BK413)) : gb413 ≠ gb444))
               have NB444_413:=zm0_ ((by rw [hg];exact Nat.ne_of_gt (zo3_ (g:=gb413) (o:=.cells #[.int .i64 t409,.slice Ao60 t410.length co60] 32 (0,0)) (zb BK413)) : gb444 ≠ gb413))
               replace BK413:=zm0_ (zm5_ (zb BK413) hb)
               clear hb hbox hg
               refine hK.out _ _ ⟨(zm6_ BK381.out 0).trans rfl,(zm6_ BK381.out 1).trans rfl,(zm6_ BK382.out 0).trans rfl,(zm6_ BK382.out 1).trans rfl⟩ (fun hHeld => ?_)
               clear hK K
               refine norm_ (a':=?_) ?_ ?_
               rotate_left
               ·
                show Act.put _ (some 17) _ = _
                simp only [Act.put,lA_,lB_,lC_,i64_w,i32_w]
                rfl
               refine one_ (i:=1) (N:=some 100) #[Y,Y,Y,Z,Y,Z,Z,Z,Z,Y,Z,Z] rfl rfl (one_of HT_.out (by kernel_rfl)) (by decide) (fun K hK => ?_)
               refine goes_ Tryz.func8 (by kernel_rfl) rfl #[.agg #[.int .i64 a0_0,.slice A0_1 l0_1.length c0_1]] (by rfl) rfl rfl zy ?_
               with_reducible refine (laws_toTable.calls kj83 a0_0 _ _ l0_1 t431 t432 _ ?side1 ?side2 A121.out).mono ?_
               (case side1 => repeat (first|exact (Kd.C_below HR0_1.out HB.out)|(with_reducible refine Kd.C_alloc ?_ _)|(with_reducible refine Kd.C_drewN ?_ _)|(with_reducible refine Kd.C_drew ?_)))
               (case side2 => exact HC0_1.out)
               rintro e w137 ⟨v433,rfl,ho0,hb⟩
               refine ⟨_,rfl,?_⟩
               replace HO_8:=zm0_ (zm8_ (zr HO_8) hb)
               replace HO_11:=zm0_ (zm8_ (zr HO_11) hb)
               have HO434:=zm0_ (zo1_ (Kd.R_new' (Kd.R_new' (Kd.R_new' ho0 (Kd.R_lt (zr HO_399001))) (Kd.R_lt (zr HO_404001))) (Kd.R_lt (zr HO_414001))) (zn9_ (by repeat (first|(with_reducible first|exact HB.out|apply zm3_|apply zm2_|apply zm4_|refine zm1_ ?_ GE381.out|refine zm1_ ?_ GE382.out|refine zm1_ ?_ GE398.out|refine zm1_ ?_ GE403.out|refine zm1_ ?_ GE413.out|refine zm1_ ?_ GE444.out)|exact HB.out))))
               replace HO_399001:=zm0_ (Kd.R_elder' (zr HO_399001) (Kd.R_base ho0) hb)
               replace HO_404001:=zm0_ (Kd.R_elder' (zr HO_404001) (Kd.R_base ho0) hb)
               replace HO_414001:=zm0_ (Kd.R_elder' (zr HO_414001) (Kd.R_base ho0) hb)
               replace BK381:=zm0_ (zm5_ (zb BK381) hb)
               replace BK382:=zm0_ (zm5_ (zb BK382) hb)
               replace BK398:=zm0_ (zm5_ (zb BK398) hb)
               replace BK403:=zm0_ (zm5_ (zb BK403) hb)
               replace BK413:=zm0_ (zm5_ (zb BK413) hb)
               replace BK444:=zm0_ (zm5_ (zb BK444) hb)
               replace HB:=zm0_ (zn8_ (by repeat (first|(with_reducible first|exact HB.out|apply zm3_|apply zm2_|apply zm4_|refine zm1_ ?_ GE381.out|refine zm1_ ?_ GE382.out|refine zm1_ ?_ GE398.out|refine zm1_ ?_ GE403.out|refine zm1_ ?_ GE413.out|refine zm1_ ?_ GE444.out)|exact HB.out)) hb)
               (try clear hb)
               (try clear hb2)
               (try clear hk)
               (try clear hi)
               (try clear ho0)
               refine hK.out _ _ ⟨(zm6_ BK381.out 0).trans rfl,(zm6_ BK381.out 1).trans rfl,(zm6_ BK382.out 0).trans rfl,(zm6_ BK382.out 1).trans rfl⟩ (fun hHeld => ?_)
               clear hK K
               refine norm_ (a':=?_) ?_ ?_
               rotate_left
               ·
                show Act.put _ (some 100) _ = _
                simp only [Act.put,lA_,lB_,lC_,i64_w,i32_w]
                rfl
               refine one_ (i:=3) (N:=some 102) #[Y,Y,Y,Y,Y,Z,Z,Z,Z,Y,Z,Z] rfl rfl (one_of HT_.out (by kernel_rfl)) (by decide) (fun K hK => ?_)
               refine goes_ Tryz.func9 (by kernel_rfl) rfl #[.agg #[.string a1_0,.string a1_1]] (by rfl) rfl rfl zy ?_
               with_reducible refine (laws_toField.calls a1_0 a1_1 t435 t436 _ A122.out).mono ?_
               rintro e w138 ⟨rfl,hb⟩
               refine ⟨_,rfl,?_⟩
               replace HO_8:=zm0_ (zm8_ (zr HO_8) hb)
               replace HO_11:=zm0_ (zm8_ (zr HO_11) hb)
               replace HO_399001:=zm0_ (zm8_ (zr HO_399001) hb)
               replace HO_404001:=zm0_ (zm8_ (zr HO_404001) hb)
               replace HO_414001:=zm0_ (zm8_ (zr HO_414001) hb)
               replace HO434:=zm0_ (zm8_ (zr HO434) hb)
               replace BK381:=zm0_ (zm5_ (zb BK381) hb)
               replace BK382:=zm0_ (zm5_ (zb BK382) hb)
               replace BK398:=zm0_ (zm5_ (zb BK398) hb)
               replace BK403:=zm0_ (zm5_ (zb BK403) hb)
               replace BK413:=zm0_ (zm5_ (zb BK413) hb)
               replace BK444:=zm0_ (zm5_ (zb BK444) hb)
               replace HB:=zm0_ (zn8_ (by repeat (first|(with_reducible first|exact HB.out|apply zm3_|apply zm2_|apply zm4_|refine zm1_ ?_ GE381.out|refine zm1_ ?_ GE382.out|refine zm1_ ?_ GE398.out|refine zm1_ ?_ GE403.out|refine zm1_ ?_ GE413.out|refine zm1_ ?_ GE444.out)|exact HB.out)) hb)
               (try clear hb)
               (try clear hb2)
               (try clear hk)
               (try clear hi)
               obtain ⟨Ao139,co139,eo139⟩:=Kd.R_slice HO434.out
               (first|subst eo139|(injection eo139 with f1_ f2_ f3_;have f4_:=f1_.symm;have f5_:=f3_.symm;clear f1_ f2_ f3_;subst f4_;subst f5_))
               refine hK.out _ _ ⟨(zm6_ BK381.out 0).trans rfl,(zm6_ BK381.out 1).trans rfl,(zm6_ BK382.out 0).trans rfl,(zm6_ BK382.out 1).trans rfl⟩ (fun hHeld => ?_)
               clear hK K
               refine norm_ (a':=?_) ?_ ?_
               rotate_left
               ·
                show Act.put _ (some 102) _ = _
                simp only [Act.put,lA_,lB_,lC_,i64_w,i32_w]
                rfl
               refine one_ (i:=5) (N:=some 104) #[Y,Y,Y,Y,Y,Y,Z,Z,Z,Y,Z,Z] rfl rfl (one_of HT_.out (by kernel_rfl)) (by decide) (fun K hK => ?_)
               refine goes_ Tryz.func10 (by kernel_rfl) rfl #[.agg #[.int .i64 t431,.slice Ao139 t432.length co139],.agg #[.string t435,.string t436],.int .i64 a2] (by rfl) rfl rfl zy ?_
               with_reducible refine (impl_PutField.calls kj83 t431 _ _ t432 t435 t436 a2 t437 t440 t441 _ ?side1 ?side2 ?side3 A123.out).mono ?_
               (case side1 => repeat (first|exact (Kd.R_reads' HO434.out).2.2|(with_reducible refine Kd.C_alloc ?_ _)|(with_reducible refine Kd.C_drewN ?_ _)|(with_reducible refine Kd.C_drew ?_)))
               (case side2 => exact (Kd.R_reads' HO434.out).2.1)
               (case side3 => first|exact ht|(refine tb_below ht ?_;repeat (first|(with_reducible first|exact HB.out|apply zm3_|apply zm2_|apply zm4_|refine zm1_ ?_ GE381.out|refine zm1_ ?_ GE382.out|refine zm1_ ?_ GE398.out|refine zm1_ ?_ GE403.out|refine zm1_ ?_ GE413.out|refine zm1_ ?_ GE444.out)|exact HB.out)))
               rintro e w140 ⟨v438,v442,rfl,ho0,ho1,hb⟩
               refine ⟨_,rfl,?_⟩
               have HO439:=zm0_ (zo1_ (Kd.R_new' (Kd.R_new' ho0 (Kd.R_lt (zr HO_8))) (Kd.R_lt (zr HO_11))) (zn9_ (by repeat (first|(with_reducible first|exact HB.out|apply zm3_|apply zm2_|apply zm4_|refine zm1_ ?_ GE381.out|refine zm1_ ?_ GE382.out|refine zm1_ ?_ GE398.out|refine zm1_ ?_ GE403.out|refine zm1_ ?_ GE413.out|refine zm1_ ?_ GE444.out)|exact HB.out))))
               replace HO_8:=zm0_ (Kd.R_elder' (zr HO_8) (Kd.R_base ho0) hb)
               replace HO_11:=zm0_ (Kd.R_elder' (zr HO_11) (Kd.R_base ho0) hb)
               have HO443:=zm0_ (zo1_ (Kd.R_new' (Kd.R_new' (Kd.R_new' (Kd.R_new' ho1 (Kd.R_lt (zr HO_399001))) (Kd.R_lt (zr HO_404001))) (Kd.R_lt (zr HO_414001))) (Kd.R_lt (zr HO434))) (zn9_ (by repeat (first|(with_reducible first|exact HB.out|apply zm3_|apply zm2_|apply zm4_|refine zm1_ ?_ GE381.out|refine zm1_ ?_ GE382.out|refine zm1_ ?_ GE398.out|refine zm1_ ?_ GE403.out|refine zm1_ ?_ GE413.out|refine zm1_ ?_ GE444.out)|exact HB.out))))
               replace HO_399001:=zm0_ (Kd.R_elder' (zr HO_399001) (Kd.R_base ho1) hb)
               replace HO_404001:=zm0_ (Kd.R_elder' (zr HO_404001) (Kd.R_base ho1) hb)
               replace HO_414001:=zm0_ (Kd.R_elder' (zr HO_414001) (Kd.R_base ho1) hb)
               replace HO434:=zm0_ (Kd.R_elder' (zr HO434) (Kd.R_base ho1) hb)
               replace BK381:=zm0_ (zm5_ (zb BK381) hb)
               replace BK382:=zm0_ (zm5_ (zb BK382) hb)
               replace BK398:=zm0_ (zm5_ (zb BK398) hb)
               replace BK403:=zm0_ (zm5_ (zb BK403) hb)
               replace BK413:=zm0_ (zm5_ (zb BK413) hb)
               replace BK444:=zm0_ (zm5_ (zb BK444) hb)
               replace HB:=zm0_ (zn8_ (by repeat (first|(with_reducible first|exact HB.out|apply zm3_|apply zm2_|apply zm4_|refine zm1_ ?_ GE381.out|refine zm1_ ?_ GE382.out|refine zm1_ ?_ GE398.out|refine zm1_ ?_ GE403.out|refine zm1_ ?_ GE413.out|refine zm1_ ?_ GE444.out)|exact HB.out)) hb)
               (try clear hb)
               (try clear hb2)
               (try clear hk)
               (try clear hi)
               (try clear ho0)
               (try clear ho1)
               refine hK.out _ _ ⟨(zm6_ BK381.out 0).trans rfl,(zm6_ BK381.out 1).trans rfl,(zm6_ BK382.out 0).trans rfl,(zm6_ BK382.out 1).trans rfl⟩ (fun hHeld => ?_)
               clear hK K
               refine norm_ (a':=?_) ?_ ?_
               rotate_left
               ·
                show Act.put _ (some 104) _ = _
                simp only [Act.put,lA_,lB_,lC_,i64_w,i32_w]
                rfl
               refine pure_ (i:=6) (N:=some 98) (v:=?_) (a':=?_) #[Y,Y,Y,Y,Y,Y,Y,Z,Z,Y,Z,Z] rfl rfl (any_of HT_.out (by kernel_rfl)) (fun _ _ _ h => h) (Or.inl ⟨by rfl,?_⟩) ?_ ?_
               rotate_left
               ·
                intro w'
                go_simp
                with_reducible rfl
               rotate_left
               ·
                simp only [Act.put,lA_,lB_,lC_,i64_w,i32_w]
                rfl
               refine pure_ (i:=7) (N:=some 105) (v:=?_) (a':=?_) #[Y,Y,Y,Y,Y,Y,Y,Y,Z,Y,Z,Z] rfl rfl (any_of HT_.out (by kernel_rfl)) (fun _ _ _ h => h) (Or.inl ⟨by rfl,?_⟩) ?_ ?_
               rotate_left
               ·
                intro w'
                go_simp
                with_reducible rfl
               rotate_left
               ·
                simp only [Act.put,lA_,lB_,lC_,i64_w,i32_w]
                rfl
               refine pure_ (i:=8) (N:=some 106) (v:=?_) (a':=?_) #[Y,Y,Y,Y,Y,Y,Y,Y,Y,Y,Z,Z] rfl rfl (any_of HT_.out (by kernel_rfl)) (fun _ _ _ h => h) (Or.inl ⟨by rfl,?_⟩) ?_ ?_
               rotate_left
               ·
                intro w'
                go_simp
                with_reducible rfl
               rotate_left
               ·
                simp only [Act.put,lA_,lB_,lC_,i64_w,i32_w]
                rfl
               exact norm_ (by simp only [putAll,Act.put,lA_,lB_,lC_]) (hCont (.slice Ao139 t432.length co139,v438,v442,gb444) _ ⟨hHeld,(zs (zo2_ HO434.out (fun _ hk => ⟨(by first|exact hk.2|(have hq_:=hk;simp only [ne_eq] at hq_ ⊢;simp only [hq_,not_false_eq_true,and_self])),⟨(by first|exact hk.1.1.1.2|(have hq_:=hk;simp only [ne_eq] at hq_ ⊢;simp only [hq_,not_false_eq_true,and_self])),⟨(by first|exact hk.1.1.2|(have hq_:=hk;simp only [ne_eq] at hq_ ⊢;simp only [hq_,not_false_eq_true,and_self])),(by first|exact hk.1.2|(have hq_:=hk;simp only [ne_eq] at hq_ ⊢;simp only [hq_,not_false_eq_true,and_self]))⟩⟩⟩))),(zs (zo2_ HO439.out (fun _ hk => ⟨(by first|exact hk.2|(have hq_:=hk;simp only [ne_eq] at hq_ ⊢;simp only [hq_,not_false_eq_true,and_self])),(by first|exact hk.1.2|(have hq_:=hk;simp only [ne_eq] at hq_ ⊢;simp only [hq_,not_false_eq_true,and_self]))⟩))),(zs (zo2_ HO443.out (fun _ hk => ⟨(by first|exact hk.2|(have hq_:=hk;simp only [ne_eq] at hq_ ⊢;simp only [hq_,not_false_eq_true,and_self])),⟨(by first|exact hk.1.1.1.2|(have hq_:=hk;simp only [ne_eq] at hq_ ⊢;simp only [hq_,not_false_eq_true,and_self])),⟨(by first|exact hk.1.1.2|(have hq_:=hk;simp only [ne_eq] at hq_ ⊢;simp only [hq_,not_false_eq_true,and_self])),(by first|exact hk.1.2|(have hq_:=hk;simp only [ne_eq] at hq_ ⊢;simp only [hq_,not_false_eq_true,and_self]))⟩⟩⟩))),(zs (zo2_ HO_11.out (fun _ hk => ⟨(by first|exact hk.2|(have hq_:=hk;simp only [ne_eq] at hq_ ⊢;simp only [hq_,not_false_eq_true,and_self])),(by first|exact hk.1|(have hq_:=hk;simp only [ne_eq] at hq_ ⊢;simp only [hq_,not_false_eq_true,and_self]))⟩))),(zs (zo2_ HO_399001.out (fun _ hk => ⟨(by first|exact hk.1.2|(have hq_:=hk;simp only [ne_eq] at hq_ ⊢;simp only [hq_,not_false_eq_true,and_self])),⟨(by first|exact hk.2|(have hq_:=hk;simp only [ne_eq] at hq_ ⊢;simp only [hq_,not_false_eq_true,and_self])),⟨(by first|exact hk.1.1.1|(have hq_:=hk;simp only [ne_eq] at hq_ ⊢;simp only [hq_,not_false_eq_true,and_self])),(by first|exact hk.1.1.2|(have hq_:=hk;simp only [ne_eq] at hq_ ⊢;simp only [hq_,not_false_eq_true,and_self]))⟩⟩⟩))),(zs (zo2_ HO_404001.out (fun _ hk => ⟨(by first|exact hk.1.2|(have hq_:=hk;simp only [ne_eq] at hq_ ⊢;simp only [hq_,not_false_eq_true,and_self])),⟨(by first|exact hk.2|(have hq_:=hk;simp only [ne_eq] at hq_ ⊢;simp only [hq_,not_false_eq_true,and_self])),⟨(by first|exact hk.1.1.1|(have hq_:=hk;simp only [ne_eq] at hq_ ⊢;simp only [hq_,not_false_eq_true,and_self])),(by first|exact hk.1.1.2|(have hq_:=hk;simp only [ne_eq] at hq_ ⊢;simp only [hq_,not_false_eq_true,and_self]))⟩⟩⟩))),(zs (zo2_ HO_414001.out (fun _ hk => ⟨(by first|exact hk.1.2|(have hq_:=hk;simp only [ne_eq] at hq_ ⊢;simp only [hq_,not_false_eq_true,and_self])),⟨(by first|exact hk.2|(have hq_:=hk;simp only [ne_eq] at hq_ ⊢;simp only [hq_,not_false_eq_true,and_self])),⟨(by first|exact hk.1.1.1|(have hq_:=hk;simp only [ne_eq] at hq_ ⊢;simp only [hq_,not_false_eq_true,and_self])),(by first|exact hk.1.1.2|(have hq_:=hk;simp only [ne_eq] at hq_ ⊢;simp only [hq_,not_false_eq_true,and_self]))⟩⟩⟩))),(zs (zo2_ HO_8.out (fun _ hk => ⟨(by first|exact hk.2|(have hq_:=hk;simp only [ne_eq] at hq_ ⊢;simp only [hq_,not_false_eq_true,and_self])),(by first|exact hk.1|(have hq_:=hk;simp only [ne_eq] at hq_ ⊢;simp only [hq_,not_false_eq_true,and_self]))⟩))),(zb BK381),(zb BK382),(zb BK398),(zb BK403),(zb BK413),(zb BK444),GW444.out,GE444.out,NB381_444.out,NB444_381.out,NB382_444.out,NB444_382.out,NB398_444.out,NB444_398.out,NB403_444.out,NB444_403.out,NB413_444.out,NB444_413.out,(by repeat (first|(with_reducible first|exact HB.out|apply zm3_|apply zm2_|apply zm4_|refine zm1_ ?_ GE381.out|refine zm1_ ?_ GE382.out|refine zm1_ ?_ GE398.out|refine zm1_ ?_ GE403.out|refine zm1_ ?_ GE413.out|refine zm1_ ?_ GE444.out)|exact HB.out))⟩)
             rintro ⟨v433,v438,v442,gb444⟩ w141 ⟨hS_,h0_,h1_,h2_,h3_,h4_,h5_,h6_,h7_,h8_,h9_,h10_,h11_,h12_,h13_,h14_,h15_,h16_,h17_,h18_,h19_,h20_,h21_,h22_,h23_,h24_,h25_,h26_⟩
             have n0_ : Aside0 (Kd.R k36 36 w141 w.heap.size (fun k_ => some k_ ≠ (v442 : Value).ownBlock ∧ some k_ ≠ (.slice Ao42 t395.length co42 : Value).ownBlock ∧ some k_ ≠ (.slice Ao52 t422.length co52 : Value).ownBlock ∧ some k_ ≠ (.slice Ao60 t410.length co60 : Value).ownBlock) v433 t432):=⟨h0_⟩
             have n1_ : Aside0 (Kd.R (Kd.int .u8) 5 w141 w.heap.size (fun k_ => some k_ ≠ (.slice Ao125 t406.length co125 : Value).ownBlock ∧ some k_ ≠ (v392 : Value).ownBlock) v438 t437):=⟨h1_⟩
             have n2_ : Aside0 (Kd.R k36 36 w141 w.heap.size (fun k_ => some k_ ≠ (v433 : Value).ownBlock ∧ some k_ ≠ (.slice Ao42 t395.length co42 : Value).ownBlock ∧ some k_ ≠ (.slice Ao52 t422.length co52 : Value).ownBlock ∧ some k_ ≠ (.slice Ao60 t410.length co60 : Value).ownBlock) v442 t441):=⟨h2_⟩
             have n3_ : Aside0 (Kd.R (Kd.int .u8) 5 w141 w.heap.size (fun k_ => some k_ ≠ (v438 : Value).ownBlock ∧ some k_ ≠ (v392 : Value).ownBlock) (.slice Ao125 t406.length co125) t426):=⟨h3_⟩
             have n4_ : Aside0 (Kd.R k36 36 w141 w.heap.size (fun k_ => some k_ ≠ (v433 : Value).ownBlock ∧ some k_ ≠ (v442 : Value).ownBlock ∧ some k_ ≠ (.slice Ao52 t422.length co52 : Value).ownBlock ∧ some k_ ≠ (.slice Ao60 t410.length co60 : Value).ownBlock) (.slice Ao42 t395.length co42) t395):=⟨h4_⟩
             have n5_ : Aside0 (Kd.R k36 36 w141 w.heap.size (fun k_ => some k_ ≠ (v433 : Value).ownBlock ∧ some k_ ≠ (v442 : Value).ownBlock ∧ some k_ ≠ (.slice Ao42 t395.length co42 : Value).ownBlock ∧ some k_ ≠ (.slice Ao60 t410.length co60 : Value).ownBlock) (.slice Ao52 t422.length co52) t422):=⟨h5_⟩
             have n6_ : Aside0 (Kd.R k36 36 w141 w.heap.size (fun k_ => some k_ ≠ (v433 : Value).ownBlock ∧ some k_ ≠ (v442 : Value).ownBlock ∧ some k_ ≠ (.slice Ao42 t395.length co42 : Value).ownBlock ∧ some k_ ≠ (.slice Ao52 t422.length co52 : Value).ownBlock) (.slice Ao60 t410.length co60) t428):=⟨h6_⟩
             have n7_ : Aside0 (Kd.R (Kd.int .u8) 5 w141 w.heap.size (fun k_ => some k_ ≠ (v438 : Value).ownBlock ∧ some k_ ≠ (.slice Ao125 t406.length co125 : Value).ownBlock) v392 t391):=⟨h7_⟩
             have n8_ : Aside0 (w141.heap[gb381]? = some (.cells #[.int .i64 a0_0,.slice A0_1 l0_1.length c0_1] 24 (0,0))):=⟨h8_⟩
             have n9_ : Aside0 (w141.heap[gb382]? = some (.cells #[.string a1_0,.string a1_1] 26 (0,0))):=⟨h9_⟩
             have n10_ : Aside0 (w141.heap[gb398]? = some (.cells #[.int .i64 t394,.slice Ao42 t395.length co42] 32 (0,0))):=⟨h10_⟩
             have n11_ : Aside0 (w141.heap[gb403]? = some (.cells #[.int .i64 t399,.slice Ao52 t422.length co52] 32 (0,0))):=⟨h11_⟩
             have n12_ : Aside0 (w141.heap[gb413]? = some (.cells #[.int .i64 t409,.slice Ao60 t410.length co60] 32 (0,0))):=⟨h12_⟩
             have n13_ : Aside0 (w141.heap[gb444]? = some (.cells #[.int .i64 0,.slice none 0 0] 32 (0,0))):=⟨h13_⟩
             have n14_ : Aside0 (w.heap.size ≤ gb444):=⟨h14_⟩
             have n15_ : Aside0 (w.heap.size ≤ gb444):=⟨h15_⟩
             have n16_ : Aside0 (gb381 ≠ gb444):=⟨h16_⟩
             have n17_ : Aside0 (gb444 ≠ gb381):=⟨h17_⟩
             have n18_ : Aside0 (gb382 ≠ gb444):=⟨h18_⟩
             have n19_ : Aside0 (gb444 ≠ gb382):=⟨h19_⟩
             have n20_ : Aside0 (gb398 ≠ gb444):=⟨h20_⟩
             have n21_ : Aside0 (gb444 ≠ gb398):=⟨h21_⟩
             have n22_ : Aside0 (gb403 ≠ gb444):=⟨h22_⟩
             have n23_ : Aside0 (gb444 ≠ gb403):=⟨h23_⟩
             have n24_ : Aside0 (gb413 ≠ gb444):=⟨h24_⟩
             have n25_ : Aside0 (gb444 ≠ gb413):=⟨h25_⟩
             have n26_ : Aside0 (Below w.heap.size w w141):=⟨h26_⟩
             clear HO_8 HO_11 HO_399001 HO_404001 HO_414001 BK381 BK382 BK398 BK403 BK413 HB h0_ h1_ h2_ h3_ h4_ h5_ h6_ h7_ h8_ h9_ h10_ h11_ h12_ h13_ h14_ h15_ h16_ h17_ h18_ h19_ h20_ h21_ h22_ h23_ h24_ h25_ h26_
             have HO434:=n0_
             have HO439:=n1_
             have HO443:=n2_
             have HO_11:=n3_
             have HO_399001:=n4_
             have HO_404001:=n5_
             have HO_414001:=n6_
             have HO_8:=n7_
             have BK381:=n8_
             have BK382:=n9_
             have BK398:=n10_
             have BK403:=n11_
             have BK413:=n12_
             have BK444:=n13_
             have GW444:=n14_
             have GE444:=n15_
             have NB381_444:=n16_
             have NB444_381:=n17_
             have NB382_444:=n18_
             have NB444_382:=n19_
             have NB398_444:=n20_
             have NB444_398:=n21_
             have NB403_444:=n22_
             have NB444_403:=n23_
             have NB413_444:=n24_
             have NB444_413:=n25_
             have HB:=n26_
             clear n0_ n1_ n2_ n3_ n4_ n5_ n6_ n7_ n8_ n9_ n10_ n11_ n12_ n13_ n14_ n15_ n16_ n17_ n18_ n19_ n20_ n21_ n22_ n23_ n24_ n25_ n26_
             have hHeld : w141.cell? ⟨gb381,0,none⟩ = some (.int .i64 a0_0) ∧ w141.cell? ⟨gb381,1,none⟩ = some (.slice A0_1 l0_1.length c0_1) ∧ w141.cell? ⟨gb382,0,none⟩ = some (.string a1_0) ∧ w141.cell? ⟨gb382,1,none⟩ = some (.string a1_1):=hS_
             obtain ⟨Ao143,co143,eo143⟩:=Kd.R_slice HO443.out
             (first|subst eo143|(injection eo143 with f1_ f2_ f3_;have f4_:=f1_.symm;have f5_:=f3_.symm;clear f1_ f2_ f3_;subst f4_;subst f5_))
             refine norm_ (a':=?_) ?_ ?_
             rotate_left
             ·
              simp only [putAll,Act.put,lA_,lB_,lC_]
              rfl
             refine pure_ (i:=10) (N:=some 16) (v:=?_) (a':=?_) #[Y,Y,Y,Y,Y,Y,Y,Y,Y,Y,Y,Z] rfl rfl (any_of HT_.out (by kernel_rfl)) (fun _ _ _ h => h) (Or.inl ⟨by rfl,?_⟩) ?_ ?_
             rotate_left
             ·
              intro w'
              go_simp
              with_reducible rfl
             rotate_left
             ·
              simp only [Act.put,lA_,lB_,lC_,i64_w,i32_w]
              rfl
             refine one_ (i:=11) (N:=none) #[Y,Y,Y,Y,Y,Y,Y,Y,Y,Y,Y,Y] rfl rfl (one_of HT_.out (by kernel_rfl)) (by decide) (fun K hK => ?_)
             have hs142 : w141.cell? ⟨gb444,0,none⟩ = some (.int .i64 0):=(zm6_ BK444.out 0).trans rfl
             have hfs142:=zm7_ BK444.out 0
             have hns142_0:=NB381_444.out
             have hns142_1:=NB382_444.out
             have hns142_2:=NB398_444.out
             have hns142_3:=NB403_444.out
             have hns142_4:=NB413_444.out
             have hms142_0:=NB444_381.out
             have hms142_1:=NB444_382.out
             have hms142_2:=NB444_398.out
             have hms142_3:=NB444_403.out
             have hms142_4:=NB444_413.out
             have hs144 : w141.cell? ⟨gb444,1,none⟩ = some (.slice none 0 0):=(zm6_ BK444.out 1).trans rfl
             have hfs144:=zm7_ BK444.out 1
             have hns144_0:=NB381_444.out
             have hns144_1:=NB382_444.out
             have hns144_2:=NB398_444.out
             have hns144_3:=NB403_444.out
             have hns144_4:=NB413_444.out
             have hms144_0:=NB444_381.out
             have hms144_1:=NB444_382.out
             have hms144_2:=NB444_398.out
             have hms144_3:=NB444_403.out
             have hms144_4:=NB444_413.out
             refine skip_ (w1:=?_) (by rfl) rfl ?_ ?_
             rotate_left
             ·
              go_simp
              rfl
             refine hK.out _ _ ⟨((cell_far (p:=⟨gb444,_,none⟩) NB381_444.out _).trans (((cell_far (p:=⟨gb444,_,none⟩) NB381_444.out _).trans (hHeld.1)))),((cell_far (p:=⟨gb444,_,none⟩) NB381_444.out _).trans (((cell_far (p:=⟨gb444,_,none⟩) NB381_444.out _).trans (hHeld.2.1)))),((cell_far (p:=⟨gb444,_,none⟩) NB382_444.out _).trans (((cell_far (p:=⟨gb444,_,none⟩) NB382_444.out _).trans (hHeld.2.2.1)))),((cell_far (p:=⟨gb444,_,none⟩) NB382_444.out _).trans (((cell_far (p:=⟨gb444,_,none⟩) NB382_444.out _).trans (hHeld.2.2.2))))⟩ (fun hHeld => ?_)
             clear hK K
             refine done_ (done_of HT_.out (by kernel_rfl)) ?_
             go_upto_region 32 with (fail)
             go_cut [116] (fun v116 wc => ∃ (kq : Nat) (x116_123 : Bool),v116 = .bool x116_123 ∧ Aside0 (laws_FnExactPutField.j2 kq t426 t427 x116_123 t409 t428 = some r) ∧ Aside0 (kq ≤ kj83) ∧ Aside0 (Kd.R (Kd.int .u8) 5 wc w.heap.size (fun _ => True) (.slice Ao125 t406.length co125) t426) ∧ Aside0 (Kd.R k36 36 wc w.heap.size (fun k_ => some k_ ≠ ((.slice Ao52 t422.length co52) : Value).ownBlock ∧ some k_ ≠ ((.slice Ao60 t410.length co60) : Value).ownBlock ∧ some k_ ≠ ((.slice Ao143 t441.length co143) : Value).ownBlock) (.slice Ao42 t395.length co42) t395) ∧ Aside0 (Kd.R k36 36 wc w.heap.size (fun k_ => some k_ ≠ ((.slice Ao42 t395.length co42) : Value).ownBlock ∧ some k_ ≠ ((.slice Ao60 t410.length co60) : Value).ownBlock ∧ some k_ ≠ ((.slice Ao143 t441.length co143) : Value).ownBlock) (.slice Ao52 t422.length co52) t422) ∧ Aside0 (Kd.R k36 36 wc w.heap.size (fun k_ => some k_ ≠ ((.slice Ao42 t395.length co42) : Value).ownBlock ∧ some k_ ≠ ((.slice Ao52 t422.length co52) : Value).ownBlock ∧ some k_ ≠ ((.slice Ao143 t441.length co143) : Value).ownBlock) (.slice Ao60 t410.length co60) t428) ∧ Aside0 (Kd.R k36 36 wc w.heap.size (fun k_ => some k_ ≠ ((.slice Ao42 t395.length co42) : Value).ownBlock ∧ some k_ ≠ ((.slice Ao52 t422.length co52) : Value).ownBlock ∧ some k_ ≠ ((.slice Ao60 t410.length co60) : Value).ownBlock) (.slice Ao143 t441.length co143) t441) ∧ Aside0 (wc.heap[gb381]? = some (.cells #[.int .i64 a0_0,(.slice A0_1 l0_1.length c0_1)] 24 (0,0))) ∧ Aside0 (wc.heap[gb382]? = some (.cells #[.string a1_0,.string a1_1] 26 (0,0))) ∧ Aside0 (wc.heap[gb398]? = some (.cells #[.int .i64 t394,(.slice Ao42 t395.length co42)] 32 (0,0))) ∧ Aside0 (wc.heap[gb403]? = some (.cells #[.int .i64 t399,(.slice Ao52 t422.length co52)] 32 (0,0))) ∧ Aside0 (wc.heap[gb413]? = some (.cells #[.int .i64 t409,(.slice Ao60 t410.length co60)] 32 (0,0))) ∧ Aside0 (wc.heap[gb444]? = some (.cells #[.int .i64 t440,(.slice Ao143 t441.length co143)] 32 (0,0))) ∧ Aside0 (Below w.heap.size w wc))
             case first =>
              have H:=HC124.out
              clear HC124
              replace H:=zq1_ H
              obtain ⟨t445,A1450,H⟩:=H
              replace H : (if t445 = true then ((laws_eqTable.f kj83 t440 t441 t394 t395).bind fun t446 => (laws_FnExactPutField.j2 kj83 t426 t427 (!t446) t409 t428)) else (laws_FnExactPutField.j2 kj83 t426 t427 true t409 t428)) = some r:=H
              have A145:=zm0_ A1450
              clear A1450
              by_cases c146 : t445 = true
              ·
               subst c146
               rw [if_pos rfl] at H
               replace H:=zq1_ H
               obtain ⟨t446,A1470,H⟩:=H
               replace H : (laws_FnExactPutField.j2 kj83 t426 t427 (!t446) t409 t428) = some r:=H
               have A147:=zm0_ A1470
               clear A1470
               have H':=zm0_ H
               clear H
               obtain ⟨Ao148,co148,eo148⟩:=Kd.R_slice HO439.out
               subst eo148
               obtain ⟨Ao149,co149,eo149⟩:=Kd.R_slice HO_8.out
               subst eo149
               go_wp2_with (first|((with_reducible refine gate_callee (f:=11) rfl ?_);refine goesL_ (some 109) rfl rfl Tryz.func11 (by kernel_rfl) rfl #[.slice Ao148 t437.length co148,.slice Ao149 t391.length co149] rfl zy ?_;(with_reducible refine (laws_eqByteS.calls kj83 _ _ t437 _ _ t391 true _ ?side1 ?side2 ?side3 ?side4 A145.out).mono ?_);(case side1 => refine (Kd.R_reads' (e:=5) (base:=w.heap.size) (ok:=fun k_ => (some k_ ≠ (.slice Ao125 t406.length co125 : Value).ownBlock ∧ some k_ ≠ (.slice Ao149 t391.length co149 : Value).ownBlock)) (n:=t437.length) (c:=co148) ?_).2.2;exact (zs (zo2_ (k4_ (p:=⟨gb444,1,none⟩) (k4_ (p:=⟨gb444,0,none⟩) (Kd.R_types HO439.out BK444.out (by decide)) (fun _ hk => hk.2) (.int .i64 t440)) (fun _ hk => hk.2) (.slice Ao143 t441.length co143)) (fun _ h_ => h_.1))));(case side2 => exact (Kd.R_reads' HO439.out).2.1);(case side3 => refine (Kd.R_reads' (e:=5) (base:=w.heap.size) (ok:=fun k_ => (some k_ ≠ (.slice Ao148 t437.length co148 : Value).ownBlock ∧ some k_ ≠ (.slice Ao125 t406.length co125 : Value).ownBlock)) (n:=t391.length) (c:=co149) ?_).2.2;exact (zs (zo2_ (k4_ (p:=⟨gb444,1,none⟩) (k4_ (p:=⟨gb444,0,none⟩) (Kd.R_types HO_8.out BK444.out (by decide)) (fun _ hk => hk.2) (.int .i64 t440)) (fun _ hk => hk.2) (.slice Ao143 t441.length co143)) (fun _ h_ => h_.1))));(case side4 => exact (Kd.R_reads' HO_8.out).2.1);rintro e w' ⟨rfl,⟨nd,rfl⟩⟩;refine ⟨_,rfl,?_⟩;have hnb150:=NB444_381.out;have hnc150:=NB381_444.out;have hnb151:=NB444_382.out;have hnc151:=NB382_444.out;have hnb152:=NB444_398.out;have hnc152:=NB398_444.out;have hnb153:=NB444_403.out;have hnc153:=NB403_444.out;have hnb154:=NB444_413.out;have hnc154:=NB413_444.out;have hcz155_0 : w141.cell? ⟨gb444,0,none⟩ = some (.int .i64 0):=(zm6_ BK444.out 0).trans rfl;have hcz155_1 : w141.cell? ⟨gb444,1,none⟩ = some (.slice none 0 0):=(zm6_ BK444.out 1).trans rfl;have hfz155_0:=zm7_ BK444.out 0;have hfz155_1:=zm7_ BK444.out 1;have hnb156:=NB398_381.out;have hnc156:=NB381_398.out;have hnb157:=NB398_382.out;have hnc157:=NB382_398.out;have hnb158:=NB398_403.out;have hnc158:=NB403_398.out;have hnb159:=NB398_413.out;have hnc159:=NB413_398.out;have hcz160_0 : w141.cell? ⟨gb398,0,none⟩ = some (.int .i64 t394):=(zm6_ BK398.out 0).trans rfl;have hcz160_1 : w141.cell? ⟨gb398,1,none⟩ = some (.slice Ao42 t395.length co42):=(zm6_ BK398.out 1).trans rfl;have hfz160_0:=zm7_ BK398.out 0;have hfz160_1:=zm7_ BK398.out 1)|(go_at_call 12;(with_reducible refine (laws_eqTable.calls kj83 t440 _ _ t441 t394 _ _ t395 t446 _ ?side1 ?side2 ?side3 ?side4 A147.out).mono ?_);(case side1 => refine (Kd.R_reads' (e:=36) (base:=w.heap.size) (ok:=fun k_ => (some k_ ≠ (v433 : Value).ownBlock ∧ (some k_ ≠ (.slice Ao42 t395.length co42 : Value).ownBlock ∧ (some k_ ≠ (.slice Ao52 t422.length co52 : Value).ownBlock ∧ some k_ ≠ (.slice Ao60 t410.length co60 : Value).ownBlock)))) (n:=t441.length) (c:=co143) ?_).2.2;exact (zs (zo2_ (k4_ (p:=⟨gb444,1,none⟩) (k4_ (p:=⟨gb444,0,none⟩) (Kd.R_types HO443.out BK444.out (by decide)) (fun _ hk => hk.2) (.int .i64 t440)) (fun _ hk => hk.2) (.slice Ao143 t441.length co143)) (fun _ h_ => h_.1))));(case side2 => exact (Kd.R_reads' HO443.out).2.1);(case side3 => refine (Kd.R_reads' (e:=36) (base:=w.heap.size) (ok:=fun k_ => (some k_ ≠ (v433 : Value).ownBlock ∧ (some k_ ≠ (.slice Ao143 t441.length co143 : Value).ownBlock ∧ (some k_ ≠ (.slice Ao52 t422.length co52 : Value).ownBlock ∧ some k_ ≠ (.slice Ao60 t410.length co60 : Value).ownBlock)))) (n:=t395.length) (c:=co42) ?_).2.2;exact (zs (zo2_ (k4_ (p:=⟨gb444,1,none⟩) (k4_ (p:=⟨gb444,0,none⟩) (Kd.R_types HO_399001.out BK444.out (by decide)) (fun _ hk => hk.2) (.int .i64 t440)) (fun _ hk => hk.2) (.slice Ao143 t441.length co143)) (fun _ h_ => h_.1))));(case side4 => exact (Kd.R_reads' HO_399001.out).2.1);rintro e w161 ⟨rfl,hb⟩;replace HO_8:=zm0_ (zm8_ (zs (zo2_ (k4_ (p:=⟨gb444,1,none⟩) (k4_ (p:=⟨gb444,0,none⟩) (Kd.R_types HO_8.out BK444.out (by decide)) (fun _ hk => hk.2) (.int .i64 t440)) (fun _ hk => hk.2) (.slice Ao143 t441.length co143)) (fun _ h_ => h_.1))) hb);replace HO_11:=zm0_ (zm8_ (zs (zo2_ (k4_ (p:=⟨gb444,1,none⟩) (k4_ (p:=⟨gb444,0,none⟩) (Kd.R_types HO_11.out BK444.out (by decide)) (fun _ hk => hk.2) (.int .i64 t440)) (fun _ hk => hk.2) (.slice Ao143 t441.length co143)) (fun _ h_ => h_.1))) hb);replace HO_399001:=zm0_ (zm8_ (zs (zo2_ (k4_ (p:=⟨gb444,1,none⟩) (k4_ (p:=⟨gb444,0,none⟩) (Kd.R_types HO_399001.out BK444.out (by decide)) (fun _ hk => hk.2) (.int .i64 t440)) (fun _ hk => hk.2) (.slice Ao143 t441.length co143)) (fun _ h_ => h_.1))) hb);replace HO_404001:=zm0_ (zm8_ (zs (zo2_ (k4_ (p:=⟨gb444,1,none⟩) (k4_ (p:=⟨gb444,0,none⟩) (Kd.R_types HO_404001.out BK444.out (by decide)) (fun _ hk => hk.2) (.int .i64 t440)) (fun _ hk => hk.2) (.slice Ao143 t441.length co143)) (fun _ h_ => h_.1))) hb);replace HO_414001:=zm0_ (zm8_ (zs (zo2_ (k4_ (p:=⟨gb444,1,none⟩) (k4_ (p:=⟨gb444,0,none⟩) (Kd.R_types HO_414001.out BK444.out (by decide)) (fun _ hk => hk.2) (.int .i64 t440)) (fun _ hk => hk.2) (.slice Ao143 t441.length co143)) (fun _ h_ => h_.1))) hb);replace HO434:=zm0_ (zm8_ (zs (zo2_ (k4_ (p:=⟨gb444,1,none⟩) (k4_ (p:=⟨gb444,0,none⟩) (Kd.R_types HO434.out BK444.out (by decide)) (fun _ hk => hk.2) (.int .i64 t440)) (fun _ hk => hk.2) (.slice Ao143 t441.length co143)) (fun _ h_ => h_.1))) hb);replace HO439:=zm0_ (zm8_ (zs (zo2_ (k4_ (p:=⟨gb444,1,none⟩) (k4_ (p:=⟨gb444,0,none⟩) (Kd.R_types HO439.out BK444.out (by decide)) (fun _ hk => hk.2) (.int .i64 t440)) (fun _ hk => hk.2) (.slice Ao143 t441.length co143)) (fun _ h_ => h_.1))) hb);replace HO443:=zm0_ (zm8_ (zs (zo2_ (k4_ (p:=⟨gb444,1,none⟩) (k4_ (p:=⟨gb444,0,none⟩) (Kd.R_types HO443.out BK444.out (by decide)) (fun _ hk => hk.2) (.int .i64 t440)) (fun _ hk => hk.2) (.slice Ao143 t441.length co143)) (fun _ h_ => h_.1))) hb);replace BK381:=zm0_ (zm5_ (g:=gb381) (o:=.cells #[.int .i64 a0_0,.slice A0_1 l0_1.length c0_1] 24 (0,0)) (by (with_reducible repeat (first|refine k6_ ?_ _|refine k7_ ?_|refine k5_ ?_ _));refine blk_far ?_ NB381_444.out _;(with_reducible repeat (first|refine k6_ ?_ _|refine k7_ ?_|refine k5_ ?_ _));refine blk_far ?_ NB381_444.out _;(with_reducible repeat (first|refine k6_ ?_ _|refine k7_ ?_|refine k5_ ?_ _));exact BK381.out) hb);replace BK382:=zm0_ (zm5_ (g:=gb382) (o:=.cells #[.string a1_0,.string a1_1] 26 (0,0)) (by (with_reducible repeat (first|refine k6_ ?_ _|refine k7_ ?_|refine k5_ ?_ _));refine blk_far ?_ NB382_444.out _;(with_reducible repeat (first|refine k6_ ?_ _|refine k7_ ?_|refine k5_ ?_ _));refine blk_far ?_ NB382_444.out _;(with_reducible repeat (first|refine k6_ ?_ _|refine k7_ ?_|refine k5_ ?_ _));exact BK382.out) hb);replace BK398:=zm0_ (zm5_ (g:=gb398) (o:=.cells #[.int .i64 t394,.slice Ao42 t395.length co42] 32 (0,0)) (by (with_reducible repeat (first|refine k6_ ?_ _|refine k7_ ?_|refine k5_ ?_ _));refine blk_far ?_ NB398_444.out _;(with_reducible repeat (first|refine k6_ ?_ _|refine k7_ ?_|refine k5_ ?_ _));refine blk_far ?_ NB398_444.out _;(with_reducible repeat (first|refine k6_ ?_ _|refine k7_ ?_|refine k5_ ?_ _));exact BK398.out) hb);replace BK403:=zm0_ (zm5_ (g:=gb403) (o:=.cells #[.int .i64 t399,.slice Ao52 t422.length co52] 32 (0,0)) (by (with_reducible repeat (first|refine k6_ ?_ _|refine k7_ ?_|refine k5_ ?_ _));refine blk_far ?_ NB403_444.out _;(with_reducible repeat (first|refine k6_ ?_ _|refine k7_ ?_|refine k5_ ?_ _));refine blk_far ?_ NB403_444.out _;(with_reducible repeat (first|refine k6_ ?_ _|refine k7_ ?_|refine k5_ ?_ _));exact BK403.out) hb);replace BK413:=zm0_ (zm5_ (g:=gb413) (o:=.cells #[.int .i64 t409,.slice Ao60 t410.length co60] 32 (0,0)) (by (with_reducible repeat (first|refine k6_ ?_ _|refine k7_ ?_|refine k5_ ?_ _));refine blk_far ?_ NB413_444.out _;(with_reducible repeat (first|refine k6_ ?_ _|refine k7_ ?_|refine k5_ ?_ _));refine blk_far ?_ NB413_444.out _;(with_reducible repeat (first|refine k6_ ?_ _|refine k7_ ?_|refine k5_ ?_ _));exact BK413.out) hb);replace BK444:=zm0_ (zm5_ (g:=gb444) (o:=.cells #[.int .i64 t440,.slice Ao143 t441.length co143] 32 (0,0)) (by (with_reducible repeat (first|refine k6_ ?_ _|refine k7_ ?_|refine k5_ ?_ _));refine blk_put (cs:=#[.int .i64 t440,.slice none 0 0]) ?_ 1 _ rfl;(with_reducible repeat (first|refine k6_ ?_ _|refine k7_ ?_|refine k5_ ?_ _));refine blk_put (cs:=#[.int .i64 0,.slice none 0 0]) ?_ 0 _ rfl;(with_reducible repeat (first|refine k6_ ?_ _|refine k7_ ?_|refine k5_ ?_ _));exact BK444.out) hb);replace HB:=zm0_ (zn8_ (by repeat (first|(with_reducible first|exact HB.out|apply zm3_|apply zm2_|apply zm4_|refine zm1_ ?_ GE381.out|refine zm1_ ?_ GE382.out|refine zm1_ ?_ GE398.out|refine zm1_ ?_ GE403.out|refine zm1_ ?_ GE413.out|refine zm1_ ?_ GE444.out)|exact HB.out)) hb);(try clear hb);(try clear hb2);(try clear hk);(try clear hi)))
               go_meet
               case rel => exact ⟨_,(!t446),zz,H',⟨by have:=HJ25.out;have:=HJ83.out;first|omega|exact Nat.le_refl _⟩,⟨by (try simp only [hl404001_83]);(with_reducible repeat (first|apply k1_|apply k2_|apply k3_));exact zo2_ HO_11.out (fun _ hk => trivial)⟩,⟨by (try simp only [hl404001_83]);(with_reducible repeat (first|apply k1_|apply k2_|apply k3_));exact zo2_ HO_399001.out (fun _ hk => ⟨(by first|exact hk.2.2.1|(have hq_:=hk;simp only [ne_eq] at hq_ ⊢;simp only [hq_,not_false_eq_true,and_self])),⟨(by first|exact hk.2.2.2|(have hq_:=hk;simp only [ne_eq] at hq_ ⊢;simp only [hq_,not_false_eq_true,and_self])),(by first|exact hk.2.1|(have hq_:=hk;simp only [ne_eq] at hq_ ⊢;simp only [hq_,not_false_eq_true,and_self]))⟩⟩)⟩,⟨by (try simp only [hl404001_83]);(with_reducible repeat (first|apply k1_|apply k2_|apply k3_));exact zo2_ HO_404001.out (fun _ hk => ⟨(by first|exact hk.2.2.1|(have hq_:=hk;simp only [ne_eq] at hq_ ⊢;simp only [hq_,not_false_eq_true,and_self])),⟨(by first|exact hk.2.2.2|(have hq_:=hk;simp only [ne_eq] at hq_ ⊢;simp only [hq_,not_false_eq_true,and_self])),(by first|exact hk.2.1|(have hq_:=hk;simp only [ne_eq] at hq_ ⊢;simp only [hq_,not_false_eq_true,and_self]))⟩⟩)⟩,⟨by (try simp only [hl404001_83]);(with_reducible repeat (first|apply k1_|apply k2_|apply k3_));exact zo2_ HO_414001.out (fun _ hk => ⟨(by first|exact hk.2.2.1|(have hq_:=hk;simp only [ne_eq] at hq_ ⊢;simp only [hq_,not_false_eq_true,and_self])),⟨(by first|exact hk.2.2.2|(have hq_:=hk;simp only [ne_eq] at hq_ ⊢;simp only [hq_,not_false_eq_true,and_self])),(by first|exact hk.2.1|(have hq_:=hk;simp only [ne_eq] at hq_ ⊢;simp only [hq_,not_false_eq_true,and_self]))⟩⟩)⟩,⟨by (try simp only [hl404001_83]);(with_reducible repeat (first|apply k1_|apply k2_|apply k3_));exact zo2_ HO443.out (fun _ hk => ⟨(by first|exact hk.2.1|(have hq_:=hk;simp only [ne_eq] at hq_ ⊢;simp only [hq_,not_false_eq_true,and_self])),⟨(by first|exact hk.2.2.1|(have hq_:=hk;simp only [ne_eq] at hq_ ⊢;simp only [hq_,not_false_eq_true,and_self])),(by first|exact hk.2.2.2|(have hq_:=hk;simp only [ne_eq] at hq_ ⊢;simp only [hq_,not_false_eq_true,and_self]))⟩⟩)⟩,⟨by (try simp only [hl404001_83]);(with_reducible repeat (first|refine k6_ ?_ _|refine k7_ ?_|refine k5_ ?_ _));exact BK381.out⟩,⟨by (try simp only [hl404001_83]);(with_reducible repeat (first|refine k6_ ?_ _|refine k7_ ?_|refine k5_ ?_ _));exact BK382.out⟩,⟨by (try simp only [hl404001_83]);(with_reducible repeat (first|refine k6_ ?_ _|refine k7_ ?_|refine k5_ ?_ _));exact BK398.out⟩,⟨by (try simp only [hl404001_83]);(with_reducible repeat (first|refine k6_ ?_ _|refine k7_ ?_|refine k5_ ?_ _));exact BK403.out⟩,⟨by (try simp only [hl404001_83]);(with_reducible repeat (first|refine k6_ ?_ _|refine k7_ ?_|refine k5_ ?_ _));exact BK413.out⟩,⟨by (try simp only [hl404001_83]);(with_reducible repeat (first|refine k6_ ?_ _|refine k7_ ?_|refine k5_ ?_ _));exact BK444.out⟩,⟨by repeat (first|(with_reducible first|exact HB.out|apply zm3_|apply zm2_|apply zm4_|refine zm1_ ?_ GE381.out|refine zm1_ ?_ GE382.out|refine zm1_ ?_ GE398.out|refine zm1_ ?_ GE403.out|refine zm1_ ?_ GE413.out|refine zm1_ ?_ GE444.out)|exact HB.out)⟩⟩
              ·
               replace c146:=Bool.eq_false_iff.mpr c146
               subst c146
               rw [if_neg (show ¬ (false = true) by decide)] at H
               have H':=zm0_ H
               clear H
               obtain ⟨Ao162,co162,eo162⟩:=Kd.R_slice HO439.out
               subst eo162
               obtain ⟨Ao163,co163,eo163⟩:=Kd.R_slice HO_8.out
               subst eo163
               go_wp2_with (first|((with_reducible refine gate_callee (f:=11) rfl ?_);refine goesL_ (some 109) rfl rfl Tryz.func11 (by kernel_rfl) rfl #[.slice Ao162 t437.length co162,.slice Ao163 t391.length co163] rfl zy ?_;(with_reducible refine (laws_eqByteS.calls kj83 _ _ t437 _ _ t391 false _ ?side1 ?side2 ?side3 ?side4 A145.out).mono ?_);(case side1 => refine (Kd.R_reads' (e:=5) (base:=w.heap.size) (ok:=fun k_ => (some k_ ≠ (.slice Ao125 t406.length co125 : Value).ownBlock ∧ some k_ ≠ (.slice Ao163 t391.length co163 : Value).ownBlock)) (n:=t437.length) (c:=co162) ?_).2.2;exact (zs (zo2_ (k4_ (p:=⟨gb444,1,none⟩) (k4_ (p:=⟨gb444,0,none⟩) (Kd.R_types HO439.out BK444.out (by decide)) (fun _ hk => hk.2) (.int .i64 t440)) (fun _ hk => hk.2) (.slice Ao143 t441.length co143)) (fun _ h_ => h_.1))));(case side2 => exact (Kd.R_reads' HO439.out).2.1);(case side3 => refine (Kd.R_reads' (e:=5) (base:=w.heap.size) (ok:=fun k_ => (some k_ ≠ (.slice Ao162 t437.length co162 : Value).ownBlock ∧ some k_ ≠ (.slice Ao125 t406.length co125 : Value).ownBlock)) (n:=t391.length) (c:=co163) ?_).2.2;exact (zs (zo2_ (k4_ (p:=⟨gb444,1,none⟩) (k4_ (p:=⟨gb444,0,none⟩) (Kd.R_types HO_8.out BK444.out (by decide)) (fun _ hk => hk.2) (.int .i64 t440)) (fun _ hk => hk.2) (.slice Ao143 t441.length co143)) (fun _ h_ => h_.1))));(case side4 => exact (Kd.R_reads' HO_8.out).2.1);rintro e w' ⟨rfl,⟨nd,rfl⟩⟩;refine ⟨_,rfl,?_⟩))
               go_meet
               case rel => exact ⟨_,(true),zz,H',⟨by have:=HJ25.out;have:=HJ83.out;first|omega|exact Nat.le_refl _⟩,⟨by (try simp only [hl404001_83]);(with_reducible repeat (first|apply k1_|apply k2_|apply k3_));exact zo2_ (k4_ (p:=⟨gb444,1,none⟩) (k4_ (p:=⟨gb444,0,none⟩) (Kd.R_types HO_11.out BK444.out (by decide)) (fun _ hk => hk.2) (.int .i64 t440)) (fun _ hk => hk.2) (.slice Ao143 t441.length co143)) (fun _ hk => trivial)⟩,⟨by (try simp only [hl404001_83]);(with_reducible repeat (first|apply k1_|apply k2_|apply k3_));exact zo2_ (k4_ (p:=⟨gb444,1,none⟩) (k4_ (p:=⟨gb444,0,none⟩) (Kd.R_types HO_399001.out BK444.out (by decide)) (fun _ hk => hk.2) (.int .i64 t440)) (fun _ hk => hk.2) (.slice Ao143 t441.length co143)) (fun _ hk => ⟨(by first|exact hk.1.2.2.1|(have hq_:=hk;simp only [ne_eq] at hq_ ⊢;simp only [hq_,not_false_eq_true,and_self])),⟨(by first|exact hk.1.2.2.2|(have hq_:=hk;simp only [ne_eq] at hq_ ⊢;simp only [hq_,not_false_eq_true,and_self])),(by first|exact hk.1.2.1|(have hq_:=hk;simp only [ne_eq] at hq_ ⊢;simp only [hq_,not_false_eq_true,and_self]))⟩⟩)⟩,⟨by (try simp only [hl404001_83]);(with_reducible repeat (first|apply k1_|apply k2_|apply k3_));exact zo2_ (k4_ (p:=⟨gb444,1,none⟩) (k4_ (p:=⟨gb444,0,none⟩) (Kd.R_types HO_404001.out BK444.out (by decide)) (fun _ hk => hk.2) (.int .i64 t440)) (fun _ hk => hk.2) (.slice Ao143 t441.length co143)) (fun _ hk => ⟨(by first|exact hk.1.2.2.1|(have hq_:=hk;simp only [ne_eq] at hq_ ⊢;simp only [hq_,not_false_eq_true,and_self])),⟨(by first|exact hk.1.2.2.2|(have hq_:=hk;simp only [ne_eq] at hq_ ⊢;simp only [hq_,not_false_eq_true,and_self])),(by first|exact hk.1.2.1|(have hq_:=hk;simp only [ne_eq] at hq_ ⊢;simp only [hq_,not_false_eq_true,and_self]))⟩⟩)⟩,⟨by (try simp only [hl404001_83]);(with_reducible repeat (first|apply k1_|apply k2_|apply k3_));exact zo2_ (k4_ (p:=⟨gb444,1,none⟩) (k4_ (p:=⟨gb444,0,none⟩) (Kd.R_types HO_414001.out BK444.out (by decide)) (fun _ hk => hk.2) (.int .i64 t440)) (fun _ hk => hk.2) (.slice Ao143 t441.length co143)) (fun _ hk => ⟨(by first|exact hk.1.2.2.1|(have hq_:=hk;simp only [ne_eq] at hq_ ⊢;simp only [hq_,not_false_eq_true,and_self])),⟨(by first|exact hk.1.2.2.2|(have hq_:=hk;simp only [ne_eq] at hq_ ⊢;simp only [hq_,not_false_eq_true,and_self])),(by first|exact hk.1.2.1|(have hq_:=hk;simp only [ne_eq] at hq_ ⊢;simp only [hq_,not_false_eq_true,and_self]))⟩⟩)⟩,⟨by (try simp only [hl404001_83]);(with_reducible repeat (first|apply k1_|apply k2_|apply k3_));exact zo2_ (k4_ (p:=⟨gb444,1,none⟩) (k4_ (p:=⟨gb444,0,none⟩) (Kd.R_types HO443.out BK444.out (by decide)) (fun _ hk => hk.2) (.int .i64 t440)) (fun _ hk => hk.2) (.slice Ao143 t441.length co143)) (fun _ hk => ⟨(by first|exact hk.1.2.1|(have hq_:=hk;simp only [ne_eq] at hq_ ⊢;simp only [hq_,not_false_eq_true,and_self])),⟨(by first|exact hk.1.2.2.1|(have hq_:=hk;simp only [ne_eq] at hq_ ⊢;simp only [hq_,not_false_eq_true,and_self])),(by first|exact hk.1.2.2.2|(have hq_:=hk;simp only [ne_eq] at hq_ ⊢;simp only [hq_,not_false_eq_true,and_self]))⟩⟩)⟩,⟨by (try simp only [hl404001_83]);(with_reducible repeat (first|refine k6_ ?_ _|refine k7_ ?_|refine k5_ ?_ _));refine blk_far ?_ NB381_444.out _;(with_reducible repeat (first|refine k6_ ?_ _|refine k7_ ?_|refine k5_ ?_ _));refine blk_far ?_ NB381_444.out _;(with_reducible repeat (first|refine k6_ ?_ _|refine k7_ ?_|refine k5_ ?_ _));exact BK381.out⟩,⟨by (try simp only [hl404001_83]);(with_reducible repeat (first|refine k6_ ?_ _|refine k7_ ?_|refine k5_ ?_ _));refine blk_far ?_ NB382_444.out _;(with_reducible repeat (first|refine k6_ ?_ _|refine k7_ ?_|refine k5_ ?_ _));refine blk_far ?_ NB382_444.out _;(with_reducible repeat (first|refine k6_ ?_ _|refine k7_ ?_|refine k5_ ?_ _));exact BK382.out⟩,⟨by (try simp only [hl404001_83]);(with_reducible repeat (first|refine k6_ ?_ _|refine k7_ ?_|refine k5_ ?_ _));refine blk_far ?_ NB398_444.out _;(with_reducible repeat (first|refine k6_ ?_ _|refine k7_ ?_|refine k5_ ?_ _));refine blk_far ?_ NB398_444.out _;(with_reducible repeat (first|refine k6_ ?_ _|refine k7_ ?_|refine k5_ ?_ _));exact BK398.out⟩,⟨by (try simp only [hl404001_83]);(with_reducible repeat (first|refine k6_ ?_ _|refine k7_ ?_|refine k5_ ?_ _));refine blk_far ?_ NB403_444.out _;(with_reducible repeat (first|refine k6_ ?_ _|refine k7_ ?_|refine k5_ ?_ _));refine blk_far ?_ NB403_444.out _;(with_reducible repeat (first|refine k6_ ?_ _|refine k7_ ?_|refine k5_ ?_ _));exact BK403.out⟩,⟨by (try simp only [hl404001_83]);(with_reducible repeat (first|refine k6_ ?_ _|refine k7_ ?_|refine k5_ ?_ _));refine blk_far ?_ NB413_444.out _;(with_reducible repeat (first|refine k6_ ?_ _|refine k7_ ?_|refine k5_ ?_ _));refine blk_far ?_ NB413_444.out _;(with_reducible repeat (first|refine k6_ ?_ _|refine k7_ ?_|refine k5_ ?_ _));exact BK413.out⟩,⟨by (try simp only [hl404001_83]);(with_reducible repeat (first|refine k6_ ?_ _|refine k7_ ?_|refine k5_ ?_ _));refine blk_put (cs:=#[.int .i64 t440,.slice none 0 0]) ?_ 1 _ rfl;(with_reducible repeat (first|refine k6_ ?_ _|refine k7_ ?_|refine k5_ ?_ _));refine blk_put (cs:=#[.int .i64 0,.slice none 0 0]) ?_ 0 _ rfl;(with_reducible repeat (first|refine k6_ ?_ _|refine k7_ ?_|refine k5_ ?_ _));exact BK444.out⟩,⟨by repeat (first|(with_reducible first|exact HB.out|apply zm3_|apply zm2_|apply zm4_|refine zm1_ ?_ GE381.out|refine zm1_ ?_ GE382.out|refine zm1_ ?_ GE398.out|refine zm1_ ?_ GE403.out|refine zm1_ ?_ GE413.out|refine zm1_ ?_ GE444.out)|exact HB.out)⟩⟩
             case rest =>
              clear HC124
              try clear c1
              try clear p2
              try clear c8
              try clear c9
              try clear c10
              try clear c11
              try clear c14
              try clear c15
              try clear c146
              try clear c150
              try clear c151
              try clear c152
              try clear c153
              try clear c154
              try clear c156
              try clear c157
              try clear c158
              try clear c159
              try clear hcz155_0
              try clear hcz155_1
              try clear hcz160_0
              try clear hcz160_1
              try clear hfz155_0
              try clear hfz155_1
              try clear hfz160_0
              try clear hfz160_1
              obtain ⟨kq,x116_123,rfl,HA,HJ123,HO_11,HO_399001,HO_404001,HO_414001,HO_445001,BK381,BK382,BK398,BK403,BK413,BK444,HB⟩:=hcut
              have hl11_123:=(Kd.R_reads' HO_11.out).1
              rw [hl11_123] at HO_11
              (try simp only [hl11_123])
              (try simp only [hl11_123] at BK381)
              (try simp only [hl11_123] at BK382)
              (try simp only [hl11_123] at BK398)
              (try simp only [hl11_123] at BK403)
              (try simp only [hl11_123] at BK413)
              (try simp only [hl11_123] at BK444)
              (try simp only [hl11_123] at HO_399001)
              (try simp only [hl11_123] at HO_404001)
              (try simp only [hl11_123] at HO_414001)
              (try simp only [hl11_123] at HO_445001)
              have hl414001_123:=(Kd.R_reads' HO_414001.out).1
              rw [hl414001_123] at HO_414001
              (try simp only [hl414001_123])
              (try simp only [hl414001_123] at BK381)
              (try simp only [hl414001_123] at BK382)
              (try simp only [hl414001_123] at BK398)
              (try simp only [hl414001_123] at BK403)
              (try simp only [hl414001_123] at BK413)
              (try simp only [hl414001_123] at BK444)
              (try simp only [hl414001_123] at HO_11)
              (try simp only [hl414001_123] at HO_399001)
              (try simp only [hl414001_123] at HO_404001)
              (try simp only [hl414001_123] at HO_445001)
              cases kq with
              | zero => exact absurd HA.out (by simp [laws_FnExactPutField.j2])
              | succ kj123 =>
               have H:=HA.out
               clear HA
               simp only [laws_FnExactPutField.j2] at H
               by_cases c164 : x116_123 = true
               ·
                subst c164
                rw [if_pos rfl] at H
                exact absurd H (by simp)
               ·
                replace c164:=Bool.eq_false_iff.mpr c164
                subst c164
                rw [if_neg (show ¬ (false = true) by decide)] at H
                replace H:=zq1_ H
                obtain ⟨t447,A1650,H⟩:=H
                replace H : (if t447 < 0 then (none) else ((laws_heldTable.f kj123 t409 t428 t447).bind fun t448 => (if t448 < 0 then (none) else (if t448 = t427 then (some true) else (none))))) = some r:=H
                have A165:=zm0_ A1650
                clear A1650
                by_cases c166 : t447 < 0
                ·
                 rw [if_pos c166] at H
                 exact absurd H (by simp)
                ·
                 rw [if_neg c166] at H
                 have c166b0 : decide (t447 < 0) = false:=decide_eq_false c166
                 clear c166
                 replace H:=zq1_ H
                 obtain ⟨t448,A1670,H⟩:=H
                 replace H : (if t448 < 0 then (none) else (if t448 = t427 then (some true) else (none))) = some r:=H
                 have A167:=zm0_ A1670
                 clear A1670
                 by_cases c168 : t448 < 0
                 ·
                  rw [if_pos c168] at H
                  exact absurd H (by simp)
                 ·
                  rw [if_neg c168] at H
                  have c168b0 : decide (t448 < 0) = false:=decide_eq_false c168
                  clear c168
                  by_cases c169 : t448 = t427
                  ·
                   rw [if_pos c169] at H
                   have c169b0 : (t448 == t427) = true:=beq_iff_eq.mpr c169
                   have c169b1 : (t448 != t427) = false:=bne_eq_false_iff_eq.mpr c169
                   clear c169
                   obtain rfl:=Option.some.inj H
                   go_wp2_with (first|((with_reducible refine gate_callee (f:=15) rfl ?_);refine goesL_ (some 119) rfl rfl Tryz.func15 (by kernel_rfl) rfl #[.slice Ao125 t426.length co125,.int .i64 1] rfl zy ?_;(with_reducible refine (laws_heldByteS.calls kj123 _ _ t426 1 t447 _ ?side1 ?side2 A165.out).mono ?_);(case side1 => repeat (first|exact (Kd.R_reads' HO_11.out).2.2|(with_reducible refine Kd.C_alloc ?_ _)|(with_reducible refine Kd.C_drewN ?_ _)|(with_reducible refine Kd.C_drew ?_)));(case side2 => exact (Kd.R_reads' HO_11.out).2.1);rintro e w' ⟨rfl,⟨nd,rfl⟩⟩;refine ⟨_,rfl,?_⟩;have hnb170:=NB413_381.out;have hnc170:=NB381_413.out;have hnb171:=NB413_382.out;have hnc171:=NB382_413.out;have hnb172:=NB413_398.out;have hnc172:=NB398_413.out;have hnb173:=NB413_403.out;have hnc173:=NB403_413.out;have hnb174:=NB413_444.out;have hnc174:=NB444_413.out;have hcz175_0 : wc.cell? ⟨gb413,0,none⟩ = some (.int .i64 t409):=(zm6_ BK413.out 0).trans rfl;have hcz175_1 : wc.cell? ⟨gb413,1,none⟩ = some (.slice Ao60 t428.length co60):=(zm6_ BK413.out 1).trans rfl;have hfz175_0:=zm7_ BK413.out 0;have hfz175_1:=zm7_ BK413.out 1)|((with_reducible refine gate_callee (f:=16) rfl ?_);refine goesL_ (some 124) rfl rfl Tryz.func16 (by kernel_rfl) rfl #[.agg #[.int .i64 t409,.slice Ao60 t428.length co60],.int .i64 t447] rfl zy ?_;(with_reducible refine (laws_heldTable.calls kj123 t409 _ _ t428 t447 t448 _ ?side1 ?side2 A167.out).mono ?_);(case side1 => repeat (first|exact (Kd.R_reads' HO_414001.out).2.2|(with_reducible refine Kd.C_alloc ?_ _)|(with_reducible refine Kd.C_drewN ?_ _)|(with_reducible refine Kd.C_drew ?_)));(case side2 => exact (Kd.R_reads' HO_414001.out).2.1);rintro e w176 ⟨rfl,hb⟩;refine ⟨_,rfl,?_⟩;replace HO_11:=zm0_ (zm8_ (zr HO_11) hb);replace HO_399001:=zm0_ (zm8_ (zr HO_399001) hb);replace HO_404001:=zm0_ (zm8_ (zr HO_404001) hb);replace HO_414001:=zm0_ (zm8_ (zr HO_414001) hb);replace HO_445001:=zm0_ (zm8_ (zr HO_445001) hb);replace BK381:=zm0_ (zm5_ (zb BK381) hb);replace BK382:=zm0_ (zm5_ (zb BK382) hb);replace BK398:=zm0_ (zm5_ (zb BK398) hb);replace BK403:=zm0_ (zm5_ (zb BK403) hb);replace BK413:=zm0_ (zm5_ (zb BK413) hb);replace BK444:=zm0_ (zm5_ (zb BK444) hb);replace HB:=zm0_ (zn8_ (by repeat (first|(with_reducible first|exact HB.out|apply zm3_|apply zm2_|apply zm4_|refine zm1_ ?_ GE381.out|refine zm1_ ?_ GE382.out|refine zm1_ ?_ GE398.out|refine zm1_ ?_ GE403.out|refine zm1_ ?_ GE413.out|refine zm1_ ?_ GE444.out)|exact HB.out)) hb);(try clear hb);(try clear hb2);(try clear hk);(try clear hi)))
                   go_ret
                   exact ⟨ze,by repeat (first|(with_reducible first|exact HB.out|apply zm3_|apply zm2_|apply zm4_|refine zm1_ ?_ GE381.out|refine zm1_ ?_ GE382.out|refine zm1_ ?_ GE398.out|refine zm1_ ?_ GE403.out|refine zm1_ ?_ GE413.out|refine zm1_ ?_ GE444.out)|exact HB.out)⟩
                  ·
                   rw [if_neg c169] at H
                   exact absurd H (by simp)
            ·
             rw [if_neg c120] at H
             exact absurd H (by simp)
      ·
       replace c82:=Bool.eq_false_iff.mpr c82
       subst c82
       rw [if_neg (show ¬ (false = true) by decide)] at H
       exact absurd H (by simp)
/-- THE ONE PURE STATEMENT of laws_FnExactPutField. -/
def laws_FnExactPutField.Pure : Prop:=∀ (a0_0 : Int) (l0_1 : List (S26)) (a1_0 : ByteArray) (a1_1 : ByteArray) (a2 : Int),(Lit.int .i64 a0_0).wf = true → l0_1.length ≤ 9223372036854775807 → (∀ x ∈ l0_1,x.f0.size ≤ 9223372036854775807 ∧ x.f1.size ≤ 9223372036854775807) → a1_0.size ≤ 9223372036854775807 → a1_1.size ≤ 9223372036854775807 → (Lit.int .i64 a2).wf = true → ∃ k,laws_FnExactPutField.f k a0_0 l0_1 a1_0 a1_1 a2 = some true
end Go.Proofs.YthflimnpiglgbaaGreatDoor.A
end
