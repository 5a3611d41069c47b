/- Functions of the program and of the reference as plain Lean functions, that the machine's calls answer as they do, and laws of these. Written in part by a program of this session, out of the translation. Condition: each theorem's own. -/
import Derived.Test.YthflimnpiglgbaaGreatDoorPg1
import Derived.Test.YthflimnpiglgbaaGreatDoorPg2
import Derived.Test.YthflimnpiglgbaaGreatDoorPg3
section
namespace Go.Proofs.YthflimnpiglgbaaGreatDoor.A
open Go.RowKit Go.Proofs.YthflimnpiglgbaaGreatDoorW.PrintWords Go.Proofs.YthflimnpiglgbaaGreatDoorW.PrintLast Go.Proofs.YthflimnpiglgbaaGreatDoorW.PrintMore
attribute [local go_sem] max2_int min2_int max_two min_two max_three min_three max_four min_four   -- for this text's walks alone
set_option linter.unusedVariables false
set_option linter.unusedSimpArgs false

def impl_inRange.f (a0 : Int) (a1 : Int) (a2 : Int) : Option (Bool):=if a0 ≥ a1 then (some (decide (a0 ≤ a2))) else (some false)
set_option maxHeartbeats 8000000 in
set_option maxRecDepth 100000 in
theorem impl_inRange.calls (a0 : Int) (a1 : Int) (a2 : Int) (r : Bool) (w : World) (h : impl_inRange.f a0 a1 a2 = some r) :
 Calls Tryz.prog 32 #[.int .i64 a0,.int .i64 a1,.int .i64 a2] w fun e w' => e = .returned (.bool r) ∧ Drawn0 w w':=by
 have H : (if a0 ≥ a1 then (some (decide (a0 ≤ a2))) else (some false)) = some r:=h
 clear h
 by_cases c4 : a0 ≥ a1
 ·
  rw [if_pos c4] at H
  have c4b0 : decide (a1 ≤ a0) = true:=decide_eq_true c4
  clear c4
  obtain rfl:=Option.some.inj H
  go_enter Tryz.func32,Tryz.ntmps32
  go_wp2
  go_ret
  exact ⟨by first|rfl|(simp;done)|(simp [*];done),by repeat (first|exact Drawn0.refl _|apply Drawn0.step)⟩
 ·
  rw [if_neg c4] at H
  have c4b0 : decide (a1 ≤ a0) = false:=decide_eq_false c4
  clear c4
  obtain rfl:=Option.some.inj H
  go_enter Tryz.func32,Tryz.ntmps32
  go_wp2
  go_ret
  exact ⟨by first|rfl|(simp;done)|(simp [*];done),by repeat (first|exact Drawn0.refl _|apply Drawn0.step)⟩
def impl_sizeOf.f (a0_0 : ByteArray) (a0_1 : ByteArray) : Option (Int):=some (wrap64 ((wrap64 ((a0_0.size : Int) + (a0_1.size : Int))) + 32))
set_option maxHeartbeats 8000000 in
set_option maxRecDepth 100000 in
theorem impl_sizeOf.calls (a0_0 : ByteArray) (a0_1 : ByteArray) (r : Int) (w : World) (h : impl_sizeOf.f a0_0 a0_1 = some r) :
 Calls Tryz.prog 52 #[.agg #[.string a0_0,.string a0_1]] w fun e w' => e = .returned (.int .i64 r) ∧ Below w.heap.size w w':=by
 have hu36:=Tryz.underlying36
 have HB:=zm0_ (Below.refl w.heap.size w)
 have H : (some (wrap64 ((wrap64 ((a0_0.size : Int) + (a0_1.size : Int))) + 32))) = some r:=h
 clear h
 obtain rfl:=Option.some.inj H
 go_enter Tryz.func52,Tryz.ntmps52
 go_wp2_with (first|((with_reducible refine gate_dst (N:=1) rfl ?_);refine box_event ?hg (N:=1) ?hd (cs:=#[.string a0_0,.string a0_1]) (t:=36) ?hr ?_;(case hd => rfl);(case hg => rfl);(case hr => first|(go_simp;done)|(go_simp;rfl));intro gb279 hg w2 hbox hb;have BK279:=zm0_ (hbox);have GW279:=zm0_ ((by rw [hg];exact (zn9_ (zl HB)) : w.heap.size ≤ gb279));have GE279:=zm0_ ((by rw [hg];exact (zn9_ (zl HB)) : w.heap.size ≤ gb279));replace HB:=zm0_ (zn8_ (zl HB) hb);clear hb hbox hg;have hcz3_0 : w2.cell? ⟨gb279,0,none⟩ = some (.string a0_0):=(zm6_ BK279.out 0).trans rfl;have hcz3_1 : w2.cell? ⟨gb279,1,none⟩ = some (.string a0_1):=(zm6_ BK279.out 1).trans rfl;have hfz3_0:=zm7_ BK279.out 0;have hfz3_1:=zm7_ BK279.out 1))
 go_ret
 exact ⟨ze,by repeat (first|(with_reducible first|exact HB.out|apply zm3_|apply zm2_|apply zm4_|refine zm1_ ?_ GE279.out)|exact HB.out)⟩
def impl_SizeOf.l0 : Nat → Int → List (S36) → Int → Int → Option (Int)
 | 0,_,_,_,_ => none
 | k + 1,x3,x7,x8,x9 => if x9 < x8 then (if 0 ≤ x9 then (if x9 < (x7.length : Int) then ((impl_sizeOf.f ((rd_T36 x7 x9).f0) ((rd_T36 x7 x9).f1)).bind fun t283 => (impl_SizeOf.l0 k (wrap64 (x3 + t283)) x7 x8 (wrap64 (x9 + 1)))) else (none)) else (none)) else (some x3)
def impl_SizeOf.f (k : Nat) (a0_0 : Int) (l0_1 : List (S36)) : Option (Int):=impl_SizeOf.l0 k 0 l0_1 (l0_1.length : Int) 0
theorem impl_SizeOf.mono_l : ∀ k,(∀ y0 y1 y2 y3,LeO (impl_SizeOf.l0 k y0 y1 y2 y3) (impl_SizeOf.l0 (k + 1) y0 y1 y2 y3))
 | 0 => fun _ _ _ _ r h => by simp [impl_SizeOf.l0] at h
 | k + 1 => by
  have ih0:=impl_SizeOf.mono_l k
  ·
   intro y0 y1 y2 y3
   unfold impl_SizeOf.l0
   repeat' first
   | (with_reducible exact ih0 _ _ _ _)
   | (with_reducible exact LeO.refl _)
   | (with_reducible exact LeO.none _)
   | (with_reducible refine LeO.ite ?_ ?_)
   | (with_reducible refine LeO.bind ?_ (fun _ => ?_))
   | exact ih0 _ _ _ _
   | exact LeO.none _
   | refine LeO.ite ?_ ?_
   | refine LeO.bind ?_ (fun _ => ?_)
theorem impl_SizeOf.mono : ∀ a0 a1 k,LeO (impl_SizeOf.f k a0 a1) (impl_SizeOf.f (k + 1) a0 a1):=by
 intro a0 a1 k
 have ih0:=impl_SizeOf.mono_l k
 unfold impl_SizeOf.f
 repeat' first
  | (with_reducible exact ih0 _ _ _ _)
  | (with_reducible exact LeO.refl _)
  | (with_reducible exact LeO.none _)
  | (with_reducible refine LeO.ite ?_ ?_)
  | (with_reducible refine LeO.bind ?_ (fun _ => ?_))
  | exact ih0 _ _ _ _
  | exact LeO.none _
  | refine LeO.ite ?_ ?_
  | refine LeO.bind ?_ (fun _ => ?_)
set_option maxHeartbeats 8000000 in
set_option maxRecDepth 100000 in
theorem impl_SizeOf.calls (k : Nat) (a0_0 : Int) (A0_1 : Option Addr) (c0_1 : Nat) (l0_1 : List (S36)) (r : Int) (w : World) (hr0_1 : Kd.C k36 w A0_1 l0_1.length l0_1) (hc0_1 : l0_1.length ≤ c0_1) (h : impl_SizeOf.f k a0_0 l0_1 = some r) :
 Calls Tryz.prog 43 #[.agg #[.int .i64 a0_0,.slice A0_1 l0_1.length c0_1]] w fun e w' => e = .returned (.int .i64 r) ∧ Below w.heap.size w w':=by
 have hu32:=Tryz.underlying32
 have hu36:=Tryz.underlying36
 have HR0_1:=zm0_ hr0_1
 have HC0_1:=zm0_ hc0_1
 clear hr0_1 hc0_1
 have HB:=zm0_ (Below.refl w.heap.size w)
 have H : (impl_SizeOf.l0 k 0 l0_1 (l0_1.length : Int) 0) = some r:=h
 clear h
 have H':=zm0_ H
 clear H
 go_enter Tryz.func43,Tryz.ntmps43
 go_wp2_with (first|((with_reducible refine gate_dst (N:=1) rfl ?_);refine box_event ?hg (N:=1) ?hd (cs:=#[.int .i64 a0_0,.slice A0_1 l0_1.length c0_1]) (t:=32) ?hr ?_;(case hd => rfl);(case hg => rfl);(case hr => first|(go_simp;done)|(go_simp;rfl));intro gb280 hg w2 hbox hb;have BK280:=zm0_ (hbox);have GW280:=zm0_ ((by rw [hg];exact (zn9_ (zl HB)) : w.heap.size ≤ gb280));have GE280:=zm0_ ((by rw [hg];exact (zn9_ (zl HB)) : w.heap.size ≤ gb280));replace HB:=zm0_ (zn8_ (zl HB) hb);clear hb hbox hg;have hcz3_0 : w2.cell? ⟨gb280,0,none⟩ = some (.int .i64 a0_0):=(zm6_ BK280.out 0).trans rfl;have hcz3_1 : w2.cell? ⟨gb280,1,none⟩ = some (.slice A0_1 l0_1.length c0_1):=(zm6_ BK280.out 1).trans rfl;have hfz3_0:=zm7_ BK280.out 0;have hfz3_1:=zm7_ BK280.out 1))
 go_loopg [3,9] k (fun kq v3 v9 w' => ∃ (x3_1 : Int) (x9_1 : Int),v3 = .int .i64 x3_1 ∧ v9 = .int .i64 x9_1 ∧ Aside0 (impl_SizeOf.l0 kq x3_1 l0_1 (l0_1.length : Int) x9_1 = some r) ∧ Aside0 (kq ≤ k) ∧ Aside0 (w'.heap[gb280]? = some (.cells #[.int .i64 a0_0,(.slice A0_1 l0_1.length c0_1)] 32 (0,0))) ∧ Aside0 (Below w.heap.size w w'))
 case atStart => exact ⟨(0),(0),zz,zz,H',⟨Nat.le_refl _⟩,⟨zb BK280⟩,⟨zl1 HB GE280⟩⟩
 case round =>
  clear H'
  try clear p2
  try clear hcz3_0
  try clear hcz3_1
  try clear hfz3_0
  try clear hfz3_1
  obtain ⟨x3_1,x9_1,rfl,rfl,HA,HK1,BK280,HB⟩:=hrel
  cases gk with
  | zero => exact absurd HA.out (by simp [impl_SizeOf.l0])
  | succ k1 =>
   have H:=HA.out
   clear HA
   simp only [impl_SizeOf.l0] at H
   by_cases c4 : x9_1 < (l0_1.length : Int)
   ·
    rw [if_pos c4] at H
    have c4b0 : decide (x9_1 < (l0_1.length : Int)) = true:=decide_eq_true c4
    clear c4
    by_cases c5 : 0 ≤ x9_1
    ·
     rw [if_pos c5] at H
     have c5b0 : decide (0 ≤ x9_1) = true:=decide_eq_true c5
     clear c5
     by_cases c6 : x9_1 < (l0_1.length : Int)
     ·
      rw [if_pos c6] at H
      have c6b0 : decide (x9_1 < (l0_1.length : Int)) = true:=decide_eq_true c6
      clear c6
      replace H:=zq1_ H
      obtain ⟨t283,A70,H⟩:=H
      replace H : (impl_SizeOf.l0 k1 (wrap64 (x3_1 + t283)) l0_1 (l0_1.length : Int) (wrap64 (x9_1 + 1))) = some r:=H
      have A7:=zm0_ A70
      clear A70
      have H':=zm0_ H
      clear H
      have p281 : 0 ≤ (x9_1 : Int):=of_decide_eq_true (by first|(with_reducible assumption)|assumption)
      have q281 : x9_1 < (l0_1.length : Int):=of_decide_eq_true (by first|(with_reducible assumption)|assumption)
      obtain ⟨ad281,e281,hx281_0,hx281_1⟩:=at_T36 HR0_1.out x9_1 p281 q281
      cases e281
      replace hx281_0:=(HB.out.cell (zq2_ w _ hx281_0)).trans hx281_0
      replace hx281_1:=(HB.out.cell (zq2_ w _ hx281_1)).trans hx281_1
      replace p281:=eq_true p281
      replace q281:=eq_true q281
      go_wp2_with (first|((with_reducible refine gate_dst (N:=5) rfl ?_);refine box_event ?hg (N:=5) ?hd (cs:=#[.string (⟨#[]⟩ : ByteArray),.string (⟨#[]⟩ : ByteArray)]) (t:=36) ?hr ?_;(case hd => rfl);(case hg => rfl);(case hr => first|(go_simp;done)|(go_simp;rfl));intro gb282 hg w8 hbox hb;have BK282:=zm0_ (hbox);have GW282:=zm0_ ((by rw [hg];exact (zn9_ (zl1 HB GE280)) : w.heap.size ≤ gb282));have GE282:=zm0_ ((by rw [hg];exact (zn9_ (zl1 HB GE280)) : w.heap.size ≤ gb282));replace HB:=zm0_ (zn8_ (zl1 HB GE280) hb);have NB280_282:=zm0_ ((by rw [hg];exact Nat.ne_of_lt (zo3_ (g:=gb280) (o:=.cells #[.int .i64 a0_0,.slice (some ad281) l0_1.length c0_1] 32 (0,0)) (zb BK280)) : gb280 ≠ gb282));have NB282_280:=zm0_ ((by rw [hg];exact Nat.ne_of_gt (zo3_ (g:=gb280) (o:=.cells #[.int .i64 a0_0,.slice (some ad281) l0_1.length c0_1] 32 (0,0)) (zb BK280)) : gb282 ≠ gb280));replace BK280:=zm0_ (zm5_ (zb BK280) hb);clear hb hbox hg;have hnb9:=NB282_280.out;have hnc9:=NB280_282.out;have hcz10_0 : w8.cell? ⟨gb282,0,none⟩ = some (.string (⟨#[]⟩ : ByteArray)):=(zm6_ BK282.out 0).trans rfl;have hcz10_1 : w8.cell? ⟨gb282,1,none⟩ = some (.string (⟨#[]⟩ : ByteArray)):=(zm6_ BK282.out 1).trans rfl;have hfz10_0:=zm7_ BK282.out 0;have hfz10_1:=zm7_ BK282.out 1)|((with_reducible refine gate_callee (f:=52) rfl ?_);refine goesL_ (some 15) rfl rfl Tryz.func52 (by kernel_rfl) rfl #[.agg #[.string ((rd_T36 l0_1 x9_1).f0),.string ((rd_T36 l0_1 x9_1).f1)]] rfl zy ?_;(with_reducible refine (impl_sizeOf.calls ((rd_T36 l0_1 x9_1).f0) ((rd_T36 l0_1 x9_1).f1) t283 _ A7.out).mono ?_);rintro e w11 ⟨rfl,hb⟩;refine ⟨_,rfl,?_⟩;replace BK280:=zm0_ (zm5_ (g:=gb280) (o:=.cells #[.int .i64 a0_0,.slice (some ad281) l0_1.length c0_1] 32 (0,0)) (by (with_reducible repeat (first|refine k6_ ?_ _|refine k7_ ?_|refine k5_ ?_ _));refine blk_far ?_ NB280_282.out _;(with_reducible repeat (first|refine k6_ ?_ _|refine k7_ ?_|refine k5_ ?_ _));refine blk_far ?_ NB280_282.out _;(with_reducible repeat (first|refine k6_ ?_ _|refine k7_ ?_|refine k5_ ?_ _));exact BK280.out) hb);replace BK282:=zm0_ (zm5_ (g:=gb282) (o:=.cells #[.string ((rd_T36 l0_1 x9_1).f0),.string ((rd_T36 l0_1 x9_1).f1)] 36 (0,0)) (by (with_reducible repeat (first|refine k6_ ?_ _|refine k7_ ?_|refine k5_ ?_ _));refine blk_put (cs:=#[.string ((rd_T36 l0_1 x9_1).f0),.string (⟨#[]⟩ : ByteArray)]) ?_ 1 _ rfl;(with_reducible repeat (first|refine k6_ ?_ _|refine k7_ ?_|refine k5_ ?_ _));refine blk_put (cs:=#[.string (⟨#[]⟩ : ByteArray),.string (⟨#[]⟩ : ByteArray)]) ?_ 0 _ rfl;(with_reducible repeat (first|refine k6_ ?_ _|refine k7_ ?_|refine k5_ ?_ _));exact BK282.out) hb);replace HB:=zm0_ (zn8_ (zl2 HB GE280 GE282) hb);(try clear hb);(try clear hb2);(try clear hk);(try clear hi)))
      go_roundg k1
      case measure => have:=HK1.out;omega
      case rel => exact ⟨(wrap64 (x3_1 + t283)),(wrap64 (x9_1 + 1)),zz,zz,H',⟨by have:=HK1.out;omega⟩,⟨zb BK280⟩,⟨zl2 HB GE280 GE282⟩⟩
     ·
      rw [if_neg c6] at H
      exact absurd H (by simp)
    ·
     rw [if_neg c5] at H
     exact absurd H (by simp)
   ·
    rw [if_neg c4] at H
    have c4b0 : decide (x9_1 < (l0_1.length : Int)) = false:=decide_eq_false c4
    clear c4
    obtain rfl:=Option.some.inj H
    go_wp2
    go_ret
    exact ⟨ze,by repeat (first|(with_reducible first|exact HB.out|apply zm3_|apply zm2_|apply zm4_|refine zm1_ ?_ GE280.out)|exact HB.out)⟩
end Go.Proofs.YthflimnpiglgbaaGreatDoor.A
end
section
namespace Go.Proofs.YthflimnpiglgbaaGreatDoor.A
open Go.RowKit Go.Proofs.YthflimnpiglgbaaGreatDoorW.PrintWords Go.Proofs.YthflimnpiglgbaaGreatDoorW.PrintLast Go.Proofs.YthflimnpiglgbaaGreatDoorW.PrintMore
attribute [local go_sem] max2_int min2_int max_two min_two max_three min_three max_four min_four   -- for this text's walks alone
set_option linter.unusedVariables false
set_option linter.unusedSimpArgs false

def impl_TableOk.f (k : Nat) (a0_0 : Int) (l0_1 : List (S36)) : Option (Bool):=(impl_inRange.f a0_0 0 4096).bind fun t285 => (if t285 = true then ((impl_SizeOf.f k a0_0 l0_1).bind fun t286 => (some (decide (t286 ≤ a0_0)))) else (some false))
theorem impl_TableOk.mono : ∀ a0 a1 k,LeO (impl_TableOk.f k a0 a1) (impl_TableOk.f (k + 1) a0 a1):=by
 intro a0 a1 k
 unfold impl_TableOk.f
 repeat' first
  | (with_reducible exact impl_SizeOf.mono _ _ _)
  | (with_reducible exact LeO.refl _)
  | (with_reducible exact LeO.none _)
  | (with_reducible refine LeO.ite ?_ ?_)
  | (with_reducible refine LeO.bind ?_ (fun _ => ?_))
  | exact impl_SizeOf.mono _ _ _
  | exact LeO.none _
  | refine LeO.ite ?_ ?_
  | refine LeO.bind ?_ (fun _ => ?_)
def impl_TableOk.T1 : Bool × List (List Nat × List Nat):=(true,[([],[]),([0],[0]),([1],[1]),([2,2],[2]),([3],[3]),([4,3,3],[3,4]),([3],[3]),([6,3],[3,6]),([5,7,3],[3,5,7]),([3,8],[3,8]),([9,5,0,1,2,3,4,5,6,7,8,9],[9])])
def impl_TableOk.B1 : List Nat:=[0,1,3,7,15,31,15,79,255,511,1023]
theorem impl_TableOk.tab1 : rtab .any (opsOf Tryz.f33 1) = impl_TableOk.T1:=by kernel_rfl
theorem impl_TableOk.bits1 : waitsOk impl_TableOk.T1.2 impl_TableOk.B1 = true:=by kernel_rfl
set_option maxHeartbeats 8000000 in
set_option maxRecDepth 100000 in
theorem impl_TableOk.calls (k : Nat) (a0_0 : Int) (A0_1 : Option Addr) (c0_1 : Nat) (l0_1 : List (S36)) (r : Bool) (w : World) (hr0_1 : Kd.C k36 w A0_1 l0_1.length l0_1) (hc0_1 : l0_1.length ≤ c0_1) (h : impl_TableOk.f k a0_0 l0_1 = some r) :
 Calls Tryz.prog 33 #[.agg #[.int .i64 a0_0,.slice A0_1 l0_1.length c0_1]] w fun e w' => e = .returned (.bool r) ∧ Below w.heap.size w w':=by
 have hu32:=Tryz.underlying32
 have HR0_1:=zm0_ hr0_1
 have HC0_1:=zm0_ hc0_1
 clear hr0_1 hc0_1
 have HB:=zm0_ (Below.refl w.heap.size w)
 have H : ((impl_inRange.f a0_0 0 4096).bind fun t285 => (if t285 = true then ((impl_SizeOf.f k a0_0 l0_1).bind fun t286 => (some (decide (t286 ≤ a0_0)))) else (some false))) = some r:=h
 clear h
 replace H:=zq1_ H
 obtain ⟨t285,A20,H⟩:=H
 replace H : (if t285 = true then ((impl_SizeOf.f k a0_0 l0_1).bind fun t286 => (some (decide (t286 ≤ a0_0)))) else (some false)) = some r:=H
 have A2:=zm0_ A20
 clear A20
 by_cases c3 : t285 = true
 ·
  subst c3
  rw [if_pos rfl] at H
  replace H:=zq1_ H
  obtain ⟨t286,A40,H⟩:=H
  replace H : (some (decide (t286 ≤ a0_0))) = some r:=H
  have A4:=zm0_ A40
  clear A40
  obtain rfl:=Option.some.inj H
  go_enter Tryz.func33,Tryz.ntmps33
  try go_wp2_with (first|((with_reducible refine gate_dst (N:=1) rfl ?_);refine box_event ?hg (N:=1) ?hd (cs:=#[.int .i64 a0_0,.slice A0_1 l0_1.length c0_1]) (t:=32) ?hr ?_;(case hd => rfl);(case hg => rfl);(case hr => first|(go_simp;done)|(go_simp;rfl));intro gb284 hg w5 hbox hb;have BK284:=zm0_ (hbox);have GW284:=zm0_ ((by rw [hg];exact (zn9_ (zl HB)) : w.heap.size ≤ gb284));have GE284:=zm0_ ((by rw [hg];exact (zn9_ (zl HB)) : w.heap.size ≤ gb284));replace HB:=zm0_ (zn8_ (zl HB) hb);clear hb hbox hg))
  replace BK284:=zm0_ (k7_ BK284.out)
  replace HB:=zm0_ (zm4_ HB.out)
  refine start_ (n:=11) (S:=fun w' => w'.cell? ⟨gb284,0,none⟩ = some (.int .i64 a0_0) ∧ w'.cell? ⟨gb284,1,none⟩ = some (.slice A0_1 l0_1.length c0_1)) (ds:=[]) #[Z,Z,Z,Z,Z,Z,Z,Z,Z,Z,Z] (by kernel_rfl) rfl rfl ⟨(zm6_ BK284.out 0).trans rfl,(zm6_ BK284.out 1).trans rfl⟩ (fun hHeld => ?_);refine with_tabW impl_TableOk.tab1 impl_TableOk.bits1 (fun HT_ HW_ => ?_)
  generalize w5.drew = w6 at BK284 HB hHeld ⊢
  refine pure_ (i:=0) (N:=some 3) (v:=?_) (a':=?_) #[Y,Z,Z,Z,Z,Z,Z,Z,Z,Z,Z] rfl rfl (any_of HT_.out (by kernel_rfl)) (fun _ _ _ h => h) (Or.inl ⟨by rfl,?_⟩) ?_ ?_
  rotate_left
  ·
   intro w'
   go_simp
   with_reducible rfl
  rotate_left
  ·
   simp only [Act.put,lA_,lB_,lC_,i64_w,i32_w]
   rfl
  refine take_ (i:=1) (N:=some 4) (v:=?_) (a':=?_) #[Y,Y,Z,Z,Z,Z,Z,Z,Z,Z,Z] rfl rfl (take_ofW HT_.out HW_.out (by kernel_rfl)) (fun _ _ _ h => h) (Or.inl ⟨by rfl,?_⟩) hHeld ?_ ?_
  rotate_left
  ·
   rintro w' ⟨s0,s1⟩
   go_simp
   with_reducible rfl
  rotate_left
  ·
   simp only [Act.put,lA_,lB_,lC_,i64_w,i32_w]
   rfl
  refine one_ (i:=2) (N:=some 5) #[Y,Y,Y,Z,Z,Z,Z,Z,Z,Z,Z] rfl rfl (one_of HT_.out (by kernel_rfl)) (by decide) (fun K hK => ?_)
  refine goes_ Tryz.func32 (by kernel_rfl) rfl #[.int .i64 a0_0,.int .i64 0,.int .i64 4096] (by rfl) rfl rfl zy ?_
  with_reducible refine (impl_inRange.calls a0_0 0 4096 true _ A2.out).mono ?_
  rintro e w' ⟨rfl,⟨nd,rfl⟩⟩
  refine ⟨_,rfl,?_⟩
  refine hK.out _ _ ⟨(zm6_ BK284.out 0).trans rfl,(zm6_ BK284.out 1).trans rfl⟩ (fun hHeld => ?_)
  clear hK K
  refine norm_ (a':=?_) ?_ ?_
  rotate_left
  ·
   show Act.put _ (some 5) _ = _
   simp only [Act.put,lA_,lB_,lC_,i64_w,i32_w]
   rfl
  refine pure_ (i:=3) (N:=some 6) (v:=?_) (a':=?_) #[Y,Y,Y,Y,Z,Z,Z,Z,Z,Z,Z] rfl rfl (any_of HT_.out (by kernel_rfl)) (fun _ _ _ h => h) (Or.inl ⟨by rfl,?_⟩) ?_ ?_
  rotate_left
  ·
   intro w'
   go_simp
   with_reducible rfl
  rotate_left
  ·
   simp only [Act.put,lA_,lB_,lC_,i64_w,i32_w]
   rfl
  refine pure_ (i:=6) (N:=some 9) (v:=?_) (a':=?_) #[Y,Y,Y,Y,Z,Z,Y,Z,Z,Z,Z] rfl rfl (any_of HT_.out (by kernel_rfl)) (fun _ _ _ h => h) (Or.inl ⟨by rfl,?_⟩) ?_ ?_
  rotate_left
  ·
   intro w'
   go_simp
   with_reducible rfl
  rotate_left
  ·
   simp only [Act.put,lA_,lB_,lC_,i64_w,i32_w]
   rfl
  refine take_ (i:=4) (N:=some 7) (v:=?_) (a':=?_) #[Y,Y,Y,Y,Y,Z,Y,Z,Z,Z,Z] rfl rfl (take_ofW HT_.out HW_.out (by kernel_rfl)) (fun _ _ _ h => h) (Or.inl ⟨by rfl,?_⟩) hHeld ?_ ?_
  rotate_left
  ·
   rintro w' ⟨s0,s1⟩
   go_simp
   with_reducible rfl
  rotate_left
  ·
   simp only [Act.put,lA_,lB_,lC_,i64_w,i32_w]
   rfl
  refine take_ (i:=7) (N:=some 10) (v:=?_) (a':=?_) #[Y,Y,Y,Y,Y,Z,Y,Y,Z,Z,Z] rfl rfl (take_ofW HT_.out HW_.out (by kernel_rfl)) (fun _ _ _ h => h) (Or.inl ⟨by rfl,?_⟩) hHeld ?_ ?_
  rotate_left
  ·
   rintro w' ⟨s0,s1⟩
   go_simp
   with_reducible rfl
  rotate_left
  ·
   simp only [Act.put,lA_,lB_,lC_,i64_w,i32_w]
   rfl
  refine one_ (i:=5) (N:=some 8) #[Y,Y,Y,Y,Y,Y,Y,Y,Z,Z,Z] rfl rfl (one_of HT_.out (by kernel_rfl)) (by decide) (fun K hK => ?_)
  refine goes_ Tryz.func43 (by kernel_rfl) rfl #[.agg #[.int .i64 a0_0,.slice A0_1 l0_1.length c0_1]] (by rfl) rfl rfl zy ?_
  with_reducible refine (impl_SizeOf.calls k a0_0 _ _ l0_1 t286 _ ?side1 ?side2 A4.out).mono ?_
  (case side1 => repeat (first|exact (Kd.C_below HR0_1.out (zl1 HB GE284))|(with_reducible refine Kd.C_alloc ?_ _)|(with_reducible refine Kd.C_drewN ?_ _)|(with_reducible refine Kd.C_drew ?_)))
  (case side2 => exact HC0_1.out)
  rintro e w7 ⟨rfl,hb⟩
  refine ⟨_,rfl,?_⟩
  replace BK284:=zm0_ (zm5_ (zb BK284) hb)
  replace HB:=zm0_ (zn8_ (zl1 HB GE284) hb)
  (try clear hb)
  (try clear hb2)
  (try clear hk)
  (try clear hi)
  refine hK.out _ _ ⟨(zm6_ BK284.out 0).trans rfl,(zm6_ BK284.out 1).trans rfl⟩ (fun hHeld => ?_)
  clear hK K
  refine norm_ (a':=?_) ?_ ?_
  rotate_left
  ·
   show Act.put _ (some 8) _ = _
   simp only [Act.put,lA_,lB_,lC_,i64_w,i32_w]
   rfl
  refine pure_ (i:=8) (N:=some 11) (v:=?_) (a':=?_) #[Y,Y,Y,Y,Y,Y,Y,Y,Y,Z,Z] rfl rfl (any_of HT_.out (by kernel_rfl)) (fun _ _ _ h => h) (Or.inl ⟨by rfl,?_⟩) ?_ ?_
  rotate_left
  ·
   intro w'
   go_simp
   with_reducible rfl
  rotate_left
  ·
   simp only [Act.put,lA_,lB_,lC_,i64_w,i32_w]
   rfl
  refine pure_ (i:=9) (N:=some 12) (v:=?_) (a':=?_) #[Y,Y,Y,Y,Y,Y,Y,Y,Y,Y,Z] rfl rfl (any_of HT_.out (by kernel_rfl)) (fun _ _ _ h => h) (Or.inl ⟨by rfl,?_⟩) ?_ ?_
  rotate_left
  ·
   intro w'
   go_simp
   with_reducible rfl
  rotate_left
  ·
   simp only [Act.put,lA_,lB_,lC_,i64_w,i32_w]
   rfl
  refine pure_ (i:=10) (N:=some 2) (v:=?_) (a':=?_) #[Y,Y,Y,Y,Y,Y,Y,Y,Y,Y,Y] rfl rfl (any_of HT_.out (by kernel_rfl)) (fun _ _ _ h => h) (Or.inl ⟨by rfl,?_⟩) ?_ ?_
  rotate_left
  ·
   intro w'
   go_simp
   with_reducible rfl
  rotate_left
  ·
   simp only [Act.put,lA_,lB_,lC_,i64_w,i32_w]
   rfl
  refine done_ (done_of HT_.out (by kernel_rfl)) ?_
  try go_wp2
  go_ret
  exact ⟨ze,by repeat (first|(with_reducible first|exact HB.out|apply zm3_|apply zm2_|apply zm4_|refine zm1_ ?_ GE284.out)|exact HB.out)⟩
 ·
  replace c3:=Bool.eq_false_iff.mpr c3
  subst c3
  rw [if_neg (show ¬ (false = true) by decide)] at H
  obtain rfl:=Option.some.inj H
  go_enter Tryz.func33,Tryz.ntmps33
  try go_wp2_with (first|((with_reducible refine gate_dst (N:=1) rfl ?_);refine box_event ?hg (N:=1) ?hd (cs:=#[.int .i64 a0_0,.slice A0_1 l0_1.length c0_1]) (t:=32) ?hr ?_;(case hd => rfl);(case hg => rfl);(case hr => first|(go_simp;done)|(go_simp;rfl));intro gb284 hg w8 hbox hb;have BK284:=zm0_ (hbox);have GW284:=zm0_ ((by rw [hg];exact (zn9_ (zl HB)) : w.heap.size ≤ gb284));have GE284:=zm0_ ((by rw [hg];exact (zn9_ (zl HB)) : w.heap.size ≤ gb284));replace HB:=zm0_ (zn8_ (zl HB) hb);clear hb hbox hg))
  replace BK284:=zm0_ (k7_ BK284.out)
  replace HB:=zm0_ (zm4_ HB.out)
  refine start_ (n:=11) (S:=fun w' => w'.cell? ⟨gb284,0,none⟩ = some (.int .i64 a0_0) ∧ w'.cell? ⟨gb284,1,none⟩ = some (.slice A0_1 l0_1.length c0_1)) (ds:=[]) #[Z,Z,Z,Z,Z,Z,Z,Z,Z,Z,Z] (by kernel_rfl) rfl rfl ⟨(zm6_ BK284.out 0).trans rfl,(zm6_ BK284.out 1).trans rfl⟩ (fun hHeld => ?_);refine with_tabW impl_TableOk.tab1 impl_TableOk.bits1 (fun HT_ HW_ => ?_)
  generalize w8.drew = w9 at BK284 HB hHeld ⊢
  refine pure_ (i:=0) (N:=some 3) (v:=?_) (a':=?_) #[Y,Z,Z,Z,Z,Z,Z,Z,Z,Z,Z] rfl rfl (any_of HT_.out (by kernel_rfl)) (fun _ _ _ h => h) (Or.inl ⟨by rfl,?_⟩) ?_ ?_
  rotate_left
  ·
   intro w'
   go_simp
   with_reducible rfl
  rotate_left
  ·
   simp only [Act.put,lA_,lB_,lC_,i64_w,i32_w]
   rfl
  refine take_ (i:=1) (N:=some 4) (v:=?_) (a':=?_) #[Y,Y,Z,Z,Z,Z,Z,Z,Z,Z,Z] rfl rfl (take_ofW HT_.out HW_.out (by kernel_rfl)) (fun _ _ _ h => h) (Or.inl ⟨by rfl,?_⟩) hHeld ?_ ?_
  rotate_left
  ·
   rintro w' ⟨s0,s1⟩
   go_simp
   with_reducible rfl
  rotate_left
  ·
   simp only [Act.put,lA_,lB_,lC_,i64_w,i32_w]
   rfl
  refine one_ (i:=2) (N:=some 5) #[Y,Y,Y,Z,Z,Z,Z,Z,Z,Z,Z] rfl rfl (one_of HT_.out (by kernel_rfl)) (by decide) (fun K hK => ?_)
  refine goes_ Tryz.func32 (by kernel_rfl) rfl #[.int .i64 a0_0,.int .i64 0,.int .i64 4096] (by rfl) rfl rfl zy ?_
  with_reducible refine (impl_inRange.calls a0_0 0 4096 false _ A2.out).mono ?_
  rintro e w' ⟨rfl,⟨nd,rfl⟩⟩
  refine ⟨_,rfl,?_⟩
  refine hK.out _ _ ⟨(zm6_ BK284.out 0).trans rfl,(zm6_ BK284.out 1).trans rfl⟩ (fun hHeld => ?_)
  clear hK K
  refine norm_ (a':=?_) ?_ ?_
  rotate_left
  ·
   show Act.put _ (some 5) _ = _
   simp only [Act.put,lA_,lB_,lC_,i64_w,i32_w]
   rfl
  refine pure_ (i:=3) (N:=some 6) (v:=?_) (a':=?_) #[Y,Y,Y,Y,Z,Z,Z,Z,Z,Z,Z] rfl rfl (any_of HT_.out (by kernel_rfl)) (fun _ _ _ h => h) (Or.inl ⟨by rfl,?_⟩) ?_ ?_
  rotate_left
  ·
   intro w'
   go_simp
   with_reducible rfl
  rotate_left
  ·
   simp only [Act.put,lA_,lB_,lC_,i64_w,i32_w]
   rfl
  refine pure_ (i:=4) (N:=some 7) (v:=undef) (a':=?_) #[Y,Y,Y,Y,Y,Z,Z,Z,Z,Z,Z] rfl rfl (any_of HT_.out (by kernel_rfl)) (fun _ _ _ h => h) (Or.inr ⟨by rfl,rfl⟩) ?_ ?_
  rotate_left
  ·
   simp only [Act.put,lA_,lB_,lC_,i64_w,i32_w]
   rfl
  refine pure_ (i:=5) (N:=some 8) (v:=undef) (a':=?_) #[Y,Y,Y,Y,Y,Y,Z,Z,Z,Z,Z] rfl rfl (any_of HT_.out (by kernel_rfl)) (fun _ _ _ h => h) (Or.inr ⟨by rfl,rfl⟩) ?_ ?_
  rotate_left
  ·
   simp only [Act.put,lA_,lB_,lC_,i64_w,i32_w]
   rfl
  refine pure_ (i:=6) (N:=some 9) (v:=undef) (a':=?_) #[Y,Y,Y,Y,Y,Y,Y,Z,Z,Z,Z] rfl rfl (any_of HT_.out (by kernel_rfl)) (fun _ _ _ h => h) (Or.inr ⟨by rfl,rfl⟩) ?_ ?_
  rotate_left
  ·
   simp only [Act.put,lA_,lB_,lC_,i64_w,i32_w]
   rfl
  refine pure_ (i:=7) (N:=some 10) (v:=undef) (a':=?_) #[Y,Y,Y,Y,Y,Y,Y,Y,Z,Z,Z] rfl rfl (any_of HT_.out (by kernel_rfl)) (fun _ _ _ h => h) (Or.inr ⟨by rfl,rfl⟩) ?_ ?_
  rotate_left
  ·
   simp only [Act.put,lA_,lB_,lC_,i64_w,i32_w]
   rfl
  refine pure_ (i:=8) (N:=some 11) (v:=undef) (a':=?_) #[Y,Y,Y,Y,Y,Y,Y,Y,Y,Z,Z] rfl rfl (any_of HT_.out (by kernel_rfl)) (fun _ _ _ h => h) (Or.inr ⟨by rfl,rfl⟩) ?_ ?_
  rotate_left
  ·
   simp only [Act.put,lA_,lB_,lC_,i64_w,i32_w]
   rfl
  refine pure_ (i:=9) (N:=some 12) (v:=?_) (a':=?_) #[Y,Y,Y,Y,Y,Y,Y,Y,Y,Y,Z] rfl rfl (any_of HT_.out (by kernel_rfl)) (fun _ _ _ h => h) (Or.inl ⟨by rfl,?_⟩) ?_ ?_
  rotate_left
  ·
   intro w'
   go_simp
   with_reducible rfl
  rotate_left
  ·
   simp only [Act.put,lA_,lB_,lC_,i64_w,i32_w]
   rfl
  refine pure_ (i:=10) (N:=some 2) (v:=?_) (a':=?_) #[Y,Y,Y,Y,Y,Y,Y,Y,Y,Y,Y] rfl rfl (any_of HT_.out (by kernel_rfl)) (fun _ _ _ h => h) (Or.inl ⟨by rfl,?_⟩) ?_ ?_
  rotate_left
  ·
   intro w'
   go_simp
   with_reducible rfl
  rotate_left
  ·
   simp only [Act.put,lA_,lB_,lC_,i64_w,i32_w]
   rfl
  refine done_ (done_of HT_.out (by kernel_rfl)) ?_
  try go_wp2
  go_ret
  exact ⟨ze,by repeat (first|(with_reducible first|exact HB.out|apply zm3_|apply zm2_|apply zm4_|refine zm1_ ?_ GE284.out)|exact HB.out)⟩
end Go.Proofs.YthflimnpiglgbaaGreatDoor.A
end
section
namespace Go.Proofs.YthflimnpiglgbaaGreatDoor.A
open Go.RowKit Go.Proofs.YthflimnpiglgbaaGreatDoorW.PrintWords Go.Proofs.YthflimnpiglgbaaGreatDoorW.PrintLast Go.Proofs.YthflimnpiglgbaaGreatDoorW.PrintMore
attribute [local go_sem] max2_int min2_int max_two min_two max_three min_three max_four min_four   -- for this text's walks alone
set_option linter.unusedVariables false
set_option linter.unusedSimpArgs false

/-- slices.Grow of a nil row: a row of no elements,in new memory,or nil. -/
def impl_Field_60.f (l0 : List S36) (a1 : Int) : Option (List S36):=if l0.length = 0 ∧ 0 ≤ a1 ∧ a1 ≤ 1099511627776 then some [] else none
set_option maxHeartbeats 8000000 in
set_option maxRecDepth 100000 in
theorem impl_Field_60.calls (A0 : Option Addr) (c0 : Nat) (l0 : List S36) (a1 : Int) (r : List S36) (w : World) (hr0 : Kd.C k36 w A0 l0.length l0) (hc0 : l0.length ≤ c0) (hz : A0 = none ∧ c0 = 0) (h : impl_Field_60.f l0 a1 = some r) : Calls Tryz.prog 60 #[.slice A0 l0.length c0,.int .i64 a1] w fun e w' => ∃ v0_ : Value,e = .returned v0_ ∧ Kd.R k36 36 w' w.heap.size (fun _ => True) v0_ r ∧ Below w.heap.size w w':=by
 obtain ⟨rfl,rfl⟩:=hz
 unfold impl_Field_60.f at h
 by_cases hh : l0.length = 0 ∧ 0 ≤ a1 ∧ a1 ≤ 1099511627776
 ·
  rw [if_pos hh] at h
  obtain rfl:=Option.some.inj h
  obtain ⟨h1,h2,h3⟩:=hh
  rw [h1]
  clear hr0 hc0 h h1
  obtain ⟨n,rfl⟩ : ∃ n : Nat,a1 = (n : Int):=⟨a1.toNat,by omega⟩
  have hw0 : wrap64 ((0 : Int) - 0) = 0:=by unfold wrap64;omega
  have hwn : wrap64 ((n : Int) - 0) = (n : Int):=by unfold wrap64;omega
  have c1 : ¬ ((n : Int) < 0):=by omega
  rcases Nat.eq_zero_or_pos n with hn|hn
  ·
   subst hn
   go_enter Tryz.func60,Tryz.ntmps60
   go_wp2
   go_ret
   exact ⟨_,rfl,Kd.R_nil _ _ _ _ _,Below.refl _ _⟩
  ·
   have c2 : ((n : Int) > 0):=by omega
   obtain ⟨i,hi,hz,hsz,hby⟩:=info_parts info36
   have happ:=Lib.run_append_nil_zeros (P:=Tryz.prog) w 30 3 30 36 i _ .i64 .i64 Tryz.underlying30 Tryz.underlying3 hi hz n hn (by rw [hsz];omega) (by omega) (by rw [hby];omega)
   generalize hcap : grownCap w n 0 36 = cap at happ
   have g1 : n ≤ cap:=by rw [← hcap];exact grownCap_ge w n 0 36
   have g2 : cap ≤ maxLen:=by rw [← hcap];exact grownCap_le_maxLen w n 0 36 (by unfold maxLen;omega)
   generalize hZ : (Builtin.zeroCells (Value.cells (.agg #[(.string ⟨#[]⟩),(.string ⟨#[]⟩)])) n ++ Builtin.zeroCells (Value.cells (.agg #[(.string ⟨#[]⟩),(.string ⟨#[]⟩)])) (cap - n)) = Z at happ
   have hZs : Z.size = cap * 2:=by rw [← hZ];simp [size_zeroCells,Value.cells];omega
   clear hcap hZ
   go_enter Tryz.func60,Tryz.ntmps60
   go_wp2_with (at_builtin;refine Lib.wpList_append_run _ rfl _ _ _ _ rfl _ _ rfl rfl _ _ happ ?_)
   go_ret
   refine ⟨_,rfl,⟨fun k hk => trivial,[],⟨rfl,.inr ⟨w.heap.size,cap,Z,rfl,Nat.le_refl _,heap_alloc_new _ _,Nat.zero_le _,g2,hZs,by simp⟩⟩,⟨rfl,fun j p hj => by simp at hj⟩⟩,?_⟩
   exact ((Below.refl w.heap.size w).drew).alloc (Nat.le_refl _) _
 ·
  rw [if_neg hh] at h
  cases h
end Go.Proofs.YthflimnpiglgbaaGreatDoor.A
end
section
namespace Go.Proofs.YthflimnpiglgbaaGreatDoor.A
open Go.RowKit Go.Proofs.YthflimnpiglgbaaGreatDoorW.PrintWords Go.Proofs.YthflimnpiglgbaaGreatDoorW.PrintLast Go.Proofs.YthflimnpiglgbaaGreatDoorW.PrintMore
attribute [local go_sem] max2_int min2_int max_two min_two max_three min_three max_four min_four   -- for this text's walks alone
set_option linter.unusedVariables false
set_option linter.unusedSimpArgs false

mutual
def impl_Field_53.l0 : Nat → List (List (S36)) → Int → List (List (S36)) → Int → Int → Option ((List (S36)))
 | 0,_,_,_,_,_ => none
 | k + 1,x0,x3,x9,x10,x11 => if x11 < x10 then (if 0 ≤ x11 then (if x11 < (x9.length : Int) then (if (wrap64 (x3 + ((rd_L5 x9 x11).length : Int))) < 0 then (none) else (impl_Field_53.l0 k x0 (wrap64 (x3 + ((rd_L5 x9 x11).length : Int))) x9 x10 (wrap64 (x11 + 1)))) else (none)) else (none)) else ((impl_Field_60.f ([] : List (S36)) x3).bind fun t288 => (impl_Field_53.l1 k t288 x0 (x0.length : Int) 0))
def impl_Field_53.l1 : Nat → List (S36) → List (List (S36)) → Int → Int → Option ((List (S36)))
 | 0,_,_,_,_ => none
 | k + 1,x6,x25,x26,x27 => if x27 < x26 then (if 0 ≤ x27 then (if x27 < (x25.length : Int) then (if x6.length + (rd_L5 x25 x27).length < 4398046511104 then (impl_Field_53.l1 k (x6 ++ (rd_L5 x25 x27)) x25 x26 (wrap64 (x27 + 1))) else (none)) else (none)) else (none)) else (some x6)
end
def impl_Field_53.f (k : Nat) (l0 : List (List (S36))) : Option ((List (S36))):=impl_Field_53.l0 k l0 0 l0 (l0.length : Int) 0
theorem impl_Field_53.mono_l : ∀ k,(∀ y0 y1 y2 y3 y4,LeO (impl_Field_53.l0 k y0 y1 y2 y3 y4) (impl_Field_53.l0 (k + 1) y0 y1 y2 y3 y4)) ∧ (∀ y0 y1 y2 y3,LeO (impl_Field_53.l1 k y0 y1 y2 y3) (impl_Field_53.l1 (k + 1) y0 y1 y2 y3))
 | 0 => ⟨fun _ _ _ _ _ r h => by simp [impl_Field_53.l0] at h,fun _ _ _ _ r h => by simp [impl_Field_53.l1] at h⟩
 | k + 1 => by
  obtain ⟨ih0,ih1⟩:=impl_Field_53.mono_l k
  refine ⟨?_,?_⟩
  ·
   intro y0 y1 y2 y3 y4
   unfold impl_Field_53.l0
   repeat' first
   | (with_reducible exact ih0 _ _ _ _ _)
   | (with_reducible exact ih1 _ _ _ _)
   | (with_reducible exact LeO.refl _)
   | (with_reducible exact LeO.none _)
   | (with_reducible refine LeO.ite ?_ ?_)
   | (with_reducible refine LeO.bind ?_ (fun _ => ?_))
   | exact ih0 _ _ _ _ _
   | exact ih1 _ _ _ _
   | exact LeO.none _
   | refine LeO.ite ?_ ?_
   | refine LeO.bind ?_ (fun _ => ?_)
  ·
   intro y0 y1 y2 y3
   unfold impl_Field_53.l1
   repeat' first
   | (with_reducible exact ih0 _ _ _ _ _)
   | (with_reducible exact ih1 _ _ _ _)
   | (with_reducible exact LeO.refl _)
   | (with_reducible exact LeO.none _)
   | (with_reducible refine LeO.ite ?_ ?_)
   | (with_reducible refine LeO.bind ?_ (fun _ => ?_))
   | exact ih0 _ _ _ _ _
   | exact ih1 _ _ _ _
   | exact LeO.none _
   | refine LeO.ite ?_ ?_
   | refine LeO.bind ?_ (fun _ => ?_)
theorem impl_Field_53.mono : ∀ a0 k,LeO (impl_Field_53.f k a0) (impl_Field_53.f (k + 1) a0):=by
 intro a0 k
 obtain ⟨ih0,ih1⟩:=impl_Field_53.mono_l k
 unfold impl_Field_53.f
 repeat' first
  | (with_reducible exact ih0 _ _ _ _ _)
  | (with_reducible exact ih1 _ _ _ _)
  | (with_reducible exact LeO.refl _)
  | (with_reducible exact LeO.none _)
  | (with_reducible refine LeO.ite ?_ ?_)
  | (with_reducible refine LeO.bind ?_ (fun _ => ?_))
  | exact ih0 _ _ _ _ _
  | exact ih1 _ _ _ _
  | exact LeO.none _
  | refine LeO.ite ?_ ?_
  | refine LeO.bind ?_ (fun _ => ?_)
set_option maxHeartbeats 8000000 in
set_option maxRecDepth 100000 in
theorem impl_Field_53.calls (k : Nat) (A0 : Option Addr) (c0 : Nat) (l0 : List (List (S36))) (r : List (S36)) (w : World) (hr0 : Kd.C (Kd.slice 36 k36) w A0 l0.length l0) (hc0 : l0.length ≤ c0) (h : impl_Field_53.f k l0 = some r) :
 Calls Tryz.prog 53 #[.slice A0 l0.length c0] w fun e w' => ∃ v0_ : Value,e = .returned (v0_) ∧ Kd.R k36 36 w' w.heap.size (fun _ => True) v0_ r ∧ Below w.heap.size w w':=by
 have HR0:=zm0_ hr0
 have HC0:=zm0_ hc0
 clear hr0 hc0
 have HB:=zm0_ (Below.refl w.heap.size w)
 have H : (impl_Field_53.l0 k l0 0 l0 (l0.length : Int) 0) = some r:=h
 clear h
 have H':=zm0_ H
 clear H
 go_enter Tryz.func53,Tryz.ntmps53
 go_wp2
 go_loopg [3,11] k (fun kq v3 v11 w' => ∃ (x3_1 : Int) (x11_1 : Int),v3 = .int .i64 x3_1 ∧ v11 = .int .i64 x11_1 ∧ Aside0 (impl_Field_53.l0 kq l0 x3_1 l0 (l0.length : Int) x11_1 = some r) ∧ Aside0 (kq ≤ k) ∧ Aside0 (Below w.heap.size w w'))
 case atStart => exact ⟨(0),(0),zz,zz,H',⟨Nat.le_refl _⟩,⟨zl HB⟩⟩
 case round =>
  clear H'
  obtain ⟨x3_1,x11_1,rfl,rfl,HA,HK1,HB⟩:=hrel
  cases gk with
  | zero => exact absurd HA.out (by simp [impl_Field_53.l0])
  | succ k1 =>
   have H:=HA.out
   clear HA
   simp only [impl_Field_53.l0] at H
   by_cases c2 : x11_1 < (l0.length : Int)
   ·
    rw [if_pos c2] at H
    have c2b0 : decide (x11_1 < (l0.length : Int)) = true:=decide_eq_true c2
    clear c2
    by_cases c3 : 0 ≤ x11_1
    ·
     rw [if_pos c3] at H
     have c3b0 : decide (0 ≤ x11_1) = true:=decide_eq_true c3
     clear c3
     by_cases c4 : x11_1 < (l0.length : Int)
     ·
      rw [if_pos c4] at H
      have c4b0 : decide (x11_1 < (l0.length : Int)) = true:=decide_eq_true c4
      clear c4
      by_cases c5 : (wrap64 (x3_1 + ((rd_L5 l0 x11_1).length : Int))) < 0
      ·
       rw [if_pos c5] at H
       exact absurd H (by simp)
      ·
       rw [if_neg c5] at H
       have c5b0 : decide ((wrap64 (x3_1 + ((rd_L5 l0 x11_1).length : Int))) < 0) = false:=decide_eq_false c5
       clear c5
       have H':=zm0_ H
       clear H
       have p287 : 0 ≤ (x11_1 : Int):=of_decide_eq_true (by first|(with_reducible assumption)|assumption)
       have q287 : x11_1 < (l0.length : Int):=of_decide_eq_true (by first|(with_reducible assumption)|assumption)
       obtain ⟨ad287,A287_0,c287_0,e287,hx287_0,hl287_0,hi287_0⟩:=at_L5 HR0.out x11_1 p287 q287
       cases e287
       replace hx287_0:=(HB.out.cell (zq2_ w _ hx287_0)).trans hx287_0
       have HR287_0:=zm0_ hi287_0
       have HC287_0:=zm0_ hl287_0
       clear hi287_0 hl287_0
       replace p287:=eq_true p287
       replace q287:=eq_true q287
       go_wp2
       go_roundg k1
       case measure => have:=HK1.out;omega
       case rel => exact ⟨(wrap64 (x3_1 + ((rd_L5 l0 x11_1).length : Int))),(wrap64 (x11_1 + 1)),zz,zz,H',⟨by have:=HK1.out;omega⟩,⟨zl HB⟩⟩
     ·
      rw [if_neg c4] at H
      exact absurd H (by simp)
    ·
     rw [if_neg c3] at H
     exact absurd H (by simp)
   ·
    rw [if_neg c2] at H
    have c2b0 : decide (x11_1 < (l0.length : Int)) = false:=decide_eq_false c2
    clear c2
    replace H:=zq1_ H
    obtain ⟨t288,A60,H⟩:=H
    replace H : (impl_Field_53.l1 k1 t288 l0 (l0.length : Int) 0) = some r:=H
    have A6:=zm0_ A60
    clear A60
    have H':=zm0_ H
    clear H
    go_wp2_with (first|((with_reducible refine gate_callee (f:=60) rfl ?_);refine goesL_ (some 24) rfl rfl Tryz.func60 (by kernel_rfl) rfl #[.slice none 0 0,.int .i64 x3_1] rfl zy ?_;(refine (impl_Field_60.calls _ _ ([] : List (S36)) x3_1 t288 _ ?side1 ?side2 ?side3 A6.out).mono ?_);(case side1 => exact Kd.C_nil _ _);(case side2 => exact Nat.le_refl _);(case side3 => exact ⟨rfl,rfl⟩);rintro e w7 ⟨v289,rfl,ho0,hb⟩;refine ⟨_,rfl,?_⟩;have HO290:=zm0_ (zo1_ ho0 (zn9_ (zl HB)));replace HB:=zm0_ (zn8_ (zl HB) hb);(try clear hb);(try clear hb2);(try clear hk);(try clear hi);(try clear ho0)))
    go_loopg [6,27] k1 (fun kq v6 v27 w' => ∃ (x6_2 : List (S36)) (x27_2 : Int),v27 = .int .i64 x27_2 ∧ Aside0 (impl_Field_53.l1 kq x6_2 l0 (l0.length : Int) x27_2 = some r) ∧ Aside0 (kq ≤ k1) ∧ Aside0 (Kd.R k36 36 w' w.heap.size (fun _ => True) v6 x6_2) ∧ Aside0 (Below w.heap.size w w'))
    case atStart => exact ⟨(t288),(0),zz,H',⟨Nat.le_refl _⟩,⟨zr HO290⟩,⟨zl HB⟩⟩
    case round =>
     clear H'
     try clear c2
     try clear c2b0
     try clear p2
     try clear q2
     try clear hx2
     try clear c3
     try clear c3b0
     try clear c4
     try clear c4b0
     try clear c5
     try clear c5b0
     try clear c6
     try clear p6
     try clear hx287_0
     try clear p287
     try clear q287
     obtain ⟨x6_2,x27_2,rfl,HA,HK2,HO_6,HB⟩:=hrel
     cases gk with
     | zero => exact absurd HA.out (by simp [impl_Field_53.l1])
     | succ k2 =>
      have H:=HA.out
      clear HA
      simp only [impl_Field_53.l1] at H
      by_cases c8 : x27_2 < (l0.length : Int)
      ·
       rw [if_pos c8] at H
       have c8b0 : decide (x27_2 < (l0.length : Int)) = true:=decide_eq_true c8
       clear c8
       by_cases c9 : 0 ≤ x27_2
       ·
        rw [if_pos c9] at H
        have c9b0 : decide (0 ≤ x27_2) = true:=decide_eq_true c9
        clear c9
        by_cases c10 : x27_2 < (l0.length : Int)
        ·
         rw [if_pos c10] at H
         have c10b0 : decide (x27_2 < (l0.length : Int)) = true:=decide_eq_true c10
         clear c10
         by_cases c11 : x6_2.length + (rd_L5 l0 x27_2).length < 4398046511104
         ·
          rw [if_pos c11] at H
          have LMc11:=zm0_ c11
          clear c11
          obtain ⟨y292,hy292⟩ : ∃ y_ : List (S36),y_ = (x6_2 ++ (rd_L5 l0 x27_2)):=⟨_,rfl⟩
          replace H : (impl_Field_53.l1 k2 y292 l0 (l0.length : Int) (wrap64 (x27_2 + 1))) = some r:=by first|(rw [hy292];with_reducible exact H)|(have H2_:=(Option.bind_some _ _).symm.trans H;rw [hy292];with_reducible exact H2_)|(have H2_:=(Option.bind_some _ _).symm.trans H;with_reducible exact H2_)|with_reducible exact H|(rw [hy292];exact H)|exact H
          have Ny292:=zm0_ hy292
          clear hy292
          have H':=zm0_ H
          clear H
          have p291 : 0 ≤ (x27_2 : Int):=of_decide_eq_true (by first|(with_reducible assumption)|assumption)
          have q291 : x27_2 < (l0.length : Int):=of_decide_eq_true (by first|(with_reducible assumption)|assumption)
          obtain ⟨ad291,A291_0,c291_0,e291,hx291_0,hl291_0,hi291_0⟩:=at_L5 HR0.out x27_2 p291 q291
          cases e291
          replace hx291_0:=(HB.out.cell (zq2_ w _ hx291_0)).trans hx291_0
          have HR291_0:=zm0_ hi291_0
          have HC291_0:=zm0_ hl291_0
          clear hi291_0 hl291_0
          replace p291:=eq_true p291
          replace q291:=eq_true q291
          go_wp2_with (first|((with_reducible refine gate_builtin (b:=.append) (xs:=#[.tmp 31,.tmp 32]) rfl ?_);at_builtin;refine Kd.R_append_rows k36 (w0:=w) w.heap.size rfl (.tmp 31) (.tmp 32) 30 36 (.agg #[(.string ⟨#[]⟩),(.string ⟨#[]⟩)]) 32 rfl Tryz.underlying30 info36 rfl (by decide) (by omega) u6 x6_2 (rd_L5 l0 x27_2) _ _ _ (fun _ => True) (fun _ => False) rfl rfl ?aO ?aR (fun _ _ h => h) (fun _ h => h.elim) ?aF ?aB ?aS ?aL ?_;(case aR => repeat (first|exact (Kd.C_below HR291_0.out HB.out)|(with_reducible refine Kd.C_alloc ?_ _)|(with_reducible refine Kd.C_drewN ?_ _)|(with_reducible refine Kd.C_drew ?_)));(case aB => exact (zl HB));(case aF => exact (fun _ _ => trivial));(case aO => exact (zr HO_6));(case aS => exact (zn9_ (zl HB)));(case aL => have:=LMc11.out;omega);intro v293 w12 ho hb hg hat;(first|(with_reducible rw [← Ny292.out] at ho)|(simp only [Int.reduceToNat] at ho;with_reducible rw [← Ny292.out] at ho)|rw [← Ny292.out] at ho);replace HB:=zm0_ (hb);have HO294:=zm0_ (ho);clear HO_6;clear ho hb hg hat))
          go_roundg k2
          case measure => have:=HK1.out;have:=HK2.out;omega
          case rel => exact ⟨(y292),(wrap64 (x27_2 + 1)),zz,H',⟨by have:=HK1.out;have:=HK2.out;omega⟩,⟨zr HO294⟩,⟨zl HB⟩⟩
         ·
          rw [if_neg c11] at H
          exact absurd H (by simp)
        ·
         rw [if_neg c10] at H
         exact absurd H (by simp)
       ·
        rw [if_neg c9] at H
        exact absurd H (by simp)
      ·
       rw [if_neg c8] at H
       have c8b0 : decide (x27_2 < (l0.length : Int)) = false:=decide_eq_false c8
       clear c8
       obtain rfl:=Option.some.inj H
       go_wp2
       go_ret
       exact ⟨_,ze,by (with_reducible repeat (first|apply k1_|apply k2_|apply k3_));exact HO_6.out,by repeat (first|(with_reducible first|exact HB.out|apply zm3_|apply zm2_|apply zm4_)|exact HB.out)⟩
end Go.Proofs.YthflimnpiglgbaaGreatDoor.A
end
section
namespace Go.Proofs.YthflimnpiglgbaaGreatDoor.A
open Go.RowKit Go.Proofs.YthflimnpiglgbaaGreatDoorW.PrintWords Go.Proofs.YthflimnpiglgbaaGreatDoorW.PrintLast Go.Proofs.YthflimnpiglgbaaGreatDoorW.PrintMore
attribute [local go_sem] max2_int min2_int max_two min_two max_three min_three max_four min_four   -- for this text's walks alone
set_option linter.unusedVariables false
set_option linter.unusedSimpArgs false

def impl_firstFields.l0 : Nat → List (S36) → List ByteArray → Int → Int → Option ((List (S36)))
 | 0,_,_,_,_ => none
 | k + 1,x1,x7,x8,x9 => if x9 < x8 then (if 0 ≤ x9 then (if x9 < (x7.length : Int) then ((strings_Cut.f (rdOf ByteArray.empty x7 x9) (⟨#[61]⟩ : ByteArray)).bind fun bt299 => (if x1.length < 4398046511104 then (impl_firstFields.l0 k (x1 ++ [(⟨bt299.1,bt299.2.1⟩ : S36)]) x7 x8 (wrap64 (x9 + 1))) else (none))) else (none)) else (none)) else (some x1)
def impl_firstFields.f (k : Nat)  : Option ((List (S36))):=(strings_Split.f (⟨#[58,97,117,116,104,111,114,105,116,121,124,58,109,101,116,104,111,100,61,71,69,84,124,58,109,101,116,104,111,100,61,80,79,83,84,124,58,112,97,116,104,61,47,124,58,112,97,116,104,61,47,105,110,100,101,120,46,104,116,109,108,124,58,115,99,104,101,109,101,61,104,116,116,112,124,58,115,99,104,101,109,101,61,104,116,116,112,115,124,58,115,116,97,116,117,115,61,50,48,48,124,58,115,116,97,116,117,115,61,50,48,52,124,58,115,116,97,116,117,115,61,50,48,54,124,58,115,116,97,116,117,115,61,51,48,52,124,58,115,116,97,116,117,115,61,52,48,48,124,58,115,116,97,116,117,115,61,52,48,52,124,58,115,116,97,116,117,115,61,53,48,48,124,97,99,99,101,112,116,45,99,104,97,114,115,101,116,124,97,99,99,101,112,116,45,101,110,99,111,100,105,110,103,61,103,122,105,112,44,32,100,101,102,108,97,116,101,124,97,99,99,101,112,116,45,108,97,110,103,117,97,103,101,124,97,99,99,101,112,116,45,114,97,110,103,101,115,124,97,99,99,101,112,116,124,97,99,99,101,115,115,45,99,111,110,116,114,111,108,45,97,108,108,111,119,45,111,114,105,103,105,110,124,97,103,101,124,97,108,108,111,119,124,97,117,116,104,111,114,105,122,97,116,105,111,110,124,99,97,99,104,101,45,99,111,110,116,114,111,108,124,99,111,110,116,101,110,116,45,100,105,115,112,111,115,105,116,105,111,110,124,99,111,110,116,101,110,116,45,101,110,99,111,100,105,110,103,124,99,111,110,116,101,110,116,45,108,97,110,103,117,97,103,101,124,99,111,110,116,101,110,116,45,108,101,110,103,116,104,124,99,111,110,116,101,110,116,45,108,111,99,97,116,105,111,110,124,99,111,110,116,101,110,116,45,114,97,110,103,101,124,99,111,110,116,101,110,116,45,116,121,112,101,124,99,111,111,107,105,101,124,100,97,116,101,124,101,116,97,103,124,101,120,112,101,99,116,124,101,120,112,105,114,101,115,124,102,114,111,109,124,104,111,115,116,124,105,102,45,109,97,116,99,104,124,105,102,45,109,111,100,105,102,105,101,100,45,115,105,110,99,101,124,105,102,45,110,111,110,101,45,109,97,116,99,104,124,105,102,45,114,97,110,103,101,124,105,102,45,117,110,109,111,100,105,102,105,101,100,45,115,105,110,99,101,124,108,97,115,116,45,109,111,100,105,102,105,101,100,124,108,105,110,107,124,108,111,99,97,116,105,111,110,124,109,97,120,45,102,111,114,119,97,114,100,115,124,112,114,111,120,121,45,97,117,116,104,101,110,116,105,99,97,116,101,124,112,114,111,120,121,45,97,117,116,104,111,114,105,122,97,116,105,111,110,124,114,97,110,103,101,124,114,101,102,101,114,101,114,124,114,101,102,114,101,115,104,124,114,101,116,114,121,45,97,102,116,101,114,124,115,101,114,118,101,114,124,115,101,116,45,99,111,111,107,105,101,124,115,116,114,105,99,116,45,116,114,97,110,115,112,111,114,116,45,115,101,99,117,114,105,116,121,124,116,114,97,110,115,102,101,114,45,101,110,99,111,100,105,110,103,124,117,115,101,114,45,97,103,101,110,116,124,118,97,114,121,124,118,105,97,124,119,119,119,45,97,117,116,104,101,110,116,105,99,97,116,101]⟩ : ByteArray) (⟨#[124]⟩ : ByteArray)).bind fun t295 => (impl_firstFields.l0 k ([] : List (S36)) t295 (t295.length : Int) 0)
theorem impl_firstFields.mono_l : ∀ k,(∀ y0 y1 y2 y3,LeO (impl_firstFields.l0 k y0 y1 y2 y3) (impl_firstFields.l0 (k + 1) y0 y1 y2 y3))
 | 0 => fun _ _ _ _ r h => by simp [impl_firstFields.l0] at h
 | k + 1 => by
  have ih0:=impl_firstFields.mono_l k
  ·
   intro y0 y1 y2 y3
   unfold impl_firstFields.l0
   repeat' first
   | (with_reducible exact ih0 _ _ _ _)
   | (with_reducible exact LeO.refl _)
   | (with_reducible exact LeO.none _)
   | (with_reducible refine LeO.ite ?_ ?_)
   | (with_reducible refine LeO.bind ?_ (fun _ => ?_))
   | exact ih0 _ _ _ _
   | exact LeO.none _
   | refine LeO.ite ?_ ?_
   | refine LeO.bind ?_ (fun _ => ?_)
theorem impl_firstFields.mono : ∀ k,LeO (impl_firstFields.f k ) (impl_firstFields.f (k + 1) ):=by
 intro  k
 have ih0:=impl_firstFields.mono_l k
 unfold impl_firstFields.f
 repeat' first
  | (with_reducible exact ih0 _ _ _ _)
  | (with_reducible exact LeO.refl _)
  | (with_reducible exact LeO.none _)
  | (with_reducible refine LeO.ite ?_ ?_)
  | (with_reducible refine LeO.bind ?_ (fun _ => ?_))
  | exact ih0 _ _ _ _
  | exact LeO.none _
  | refine LeO.ite ?_ ?_
  | refine LeO.bind ?_ (fun _ => ?_)
set_option maxHeartbeats 8000000 in
set_option maxRecDepth 100000 in
theorem impl_firstFields.calls (k : Nat)  (r : List (S36)) (w : World) (ht : TB w) (h : impl_firstFields.f k  = some r) :
 Calls Tryz.prog 54 #[] w fun e w' => ∃ v0_ : Value,e = .returned (v0_) ∧ Kd.R k36 36 w' w.heap.size (fun _ => True) v0_ r ∧ Below w.heap.size w w':=by
 have hu36:=Tryz.underlying36
 have HB:=zm0_ (Below.refl w.heap.size w)
 have H : ((strings_Split.f (⟨#[58,97,117,116,104,111,114,105,116,121,124,58,109,101,116,104,111,100,61,71,69,84,124,58,109,101,116,104,111,100,61,80,79,83,84,124,58,112,97,116,104,61,47,124,58,112,97,116,104,61,47,105,110,100,101,120,46,104,116,109,108,124,58,115,99,104,101,109,101,61,104,116,116,112,124,58,115,99,104,101,109,101,61,104,116,116,112,115,124,58,115,116,97,116,117,115,61,50,48,48,124,58,115,116,97,116,117,115,61,50,48,52,124,58,115,116,97,116,117,115,61,50,48,54,124,58,115,116,97,116,117,115,61,51,48,52,124,58,115,116,97,116,117,115,61,52,48,48,124,58,115,116,97,116,117,115,61,52,48,52,124,58,115,116,97,116,117,115,61,53,48,48,124,97,99,99,101,112,116,45,99,104,97,114,115,101,116,124,97,99,99,101,112,116,45,101,110,99,111,100,105,110,103,61,103,122,105,112,44,32,100,101,102,108,97,116,101,124,97,99,99,101,112,116,45,108,97,110,103,117,97,103,101,124,97,99,99,101,112,116,45,114,97,110,103,101,115,124,97,99,99,101,112,116,124,97,99,99,101,115,115,45,99,111,110,116,114,111,108,45,97,108,108,111,119,45,111,114,105,103,105,110,124,97,103,101,124,97,108,108,111,119,124,97,117,116,104,111,114,105,122,97,116,105,111,110,124,99,97,99,104,101,45,99,111,110,116,114,111,108,124,99,111,110,116,101,110,116,45,100,105,115,112,111,115,105,116,105,111,110,124,99,111,110,116,101,110,116,45,101,110,99,111,100,105,110,103,124,99,111,110,116,101,110,116,45,108,97,110,103,117,97,103,101,124,99,111,110,116,101,110,116,45,108,101,110,103,116,104,124,99,111,110,116,101,110,116,45,108,111,99,97,116,105,111,110,124,99,111,110,116,101,110,116,45,114,97,110,103,101,124,99,111,110,116,101,110,116,45,116,121,112,101,124,99,111,111,107,105,101,124,100,97,116,101,124,101,116,97,103,124,101,120,112,101,99,116,124,101,120,112,105,114,101,115,124,102,114,111,109,124,104,111,115,116,124,105,102,45,109,97,116,99,104,124,105,102,45,109,111,100,105,102,105,101,100,45,115,105,110,99,101,124,105,102,45,110,111,110,101,45,109,97,116,99,104,124,105,102,45,114,97,110,103,101,124,105,102,45,117,110,109,111,100,105,102,105,101,100,45,115,105,110,99,101,124,108,97,115,116,45,109,111,100,105,102,105,101,100,124,108,105,110,107,124,108,111,99,97,116,105,111,110,124,109,97,120,45,102,111,114,119,97,114,100,115,124,112,114,111,120,121,45,97,117,116,104,101,110,116,105,99,97,116,101,124,112,114,111,120,121,45,97,117,116,104,111,114,105,122,97,116,105,111,110,124,114,97,110,103,101,124,114,101,102,101,114,101,114,124,114,101,102,114,101,115,104,124,114,101,116,114,121,45,97,102,116,101,114,124,115,101,114,118,101,114,124,115,101,116,45,99,111,111,107,105,101,124,115,116,114,105,99,116,45,116,114,97,110,115,112,111,114,116,45,115,101,99,117,114,105,116,121,124,116,114,97,110,115,102,101,114,45,101,110,99,111,100,105,110,103,124,117,115,101,114,45,97,103,101,110,116,124,118,97,114,121,124,118,105,97,124,119,119,119,45,97,117,116,104,101,110,116,105,99,97,116,101]⟩ : ByteArray) (⟨#[124]⟩ : ByteArray)).bind fun t295 => (impl_firstFields.l0 k ([] : List (S36)) t295 (t295.length : Int) 0)) = some r:=h
 clear h
 replace H:=zq1_ H
 obtain ⟨t295,A10,H⟩:=H
 replace H : (impl_firstFields.l0 k ([] : List (S36)) t295 (t295.length : Int) 0) = some r:=H
 have A1:=zm0_ A10
 clear A10
 have H':=zm0_ H
 clear H
 go_enter Tryz.func54,Tryz.ntmps54
 go_wp2_with (first|((with_reducible refine gate_callee (f:=61) rfl ?_);refine goesL_ (some 7) rfl rfl Tryz.func61 (by kernel_rfl) rfl #[.string (⟨#[58,97,117,116,104,111,114,105,116,121,124,58,109,101,116,104,111,100,61,71,69,84,124,58,109,101,116,104,111,100,61,80,79,83,84,124,58,112,97,116,104,61,47,124,58,112,97,116,104,61,47,105,110,100,101,120,46,104,116,109,108,124,58,115,99,104,101,109,101,61,104,116,116,112,124,58,115,99,104,101,109,101,61,104,116,116,112,115,124,58,115,116,97,116,117,115,61,50,48,48,124,58,115,116,97,116,117,115,61,50,48,52,124,58,115,116,97,116,117,115,61,50,48,54,124,58,115,116,97,116,117,115,61,51,48,52,124,58,115,116,97,116,117,115,61,52,48,48,124,58,115,116,97,116,117,115,61,52,48,52,124,58,115,116,97,116,117,115,61,53,48,48,124,97,99,99,101,112,116,45,99,104,97,114,115,101,116,124,97,99,99,101,112,116,45,101,110,99,111,100,105,110,103,61,103,122,105,112,44,32,100,101,102,108,97,116,101,124,97,99,99,101,112,116,45,108,97,110,103,117,97,103,101,124,97,99,99,101,112,116,45,114,97,110,103,101,115,124,97,99,99,101,112,116,124,97,99,99,101,115,115,45,99,111,110,116,114,111,108,45,97,108,108,111,119,45,111,114,105,103,105,110,124,97,103,101,124,97,108,108,111,119,124,97,117,116,104,111,114,105,122,97,116,105,111,110,124,99,97,99,104,101,45,99,111,110,116,114,111,108,124,99,111,110,116,101,110,116,45,100,105,115,112,111,115,105,116,105,111,110,124,99,111,110,116,101,110,116,45,101,110,99,111,100,105,110,103,124,99,111,110,116,101,110,116,45,108,97,110,103,117,97,103,101,124,99,111,110,116,101,110,116,45,108,101,110,103,116,104,124,99,111,110,116,101,110,116,45,108,111,99,97,116,105,111,110,124,99,111,110,116,101,110,116,45,114,97,110,103,101,124,99,111,110,116,101,110,116,45,116,121,112,101,124,99,111,111,107,105,101,124,100,97,116,101,124,101,116,97,103,124,101,120,112,101,99,116,124,101,120,112,105,114,101,115,124,102,114,111,109,124,104,111,115,116,124,105,102,45,109,97,116,99,104,124,105,102,45,109,111,100,105,102,105,101,100,45,115,105,110,99,101,124,105,102,45,110,111,110,101,45,109,97,116,99,104,124,105,102,45,114,97,110,103,101,124,105,102,45,117,110,109,111,100,105,102,105,101,100,45,115,105,110,99,101,124,108,97,115,116,45,109,111,100,105,102,105,101,100,124,108,105,110,107,124,108,111,99,97,116,105,111,110,124,109,97,120,45,102,111,114,119,97,114,100,115,124,112,114,111,120,121,45,97,117,116,104,101,110,116,105,99,97,116,101,124,112,114,111,120,121,45,97,117,116,104,111,114,105,122,97,116,105,111,110,124,114,97,110,103,101,124,114,101,102,101,114,101,114,124,114,101,102,114,101,115,104,124,114,101,116,114,121,45,97,102,116,101,114,124,115,101,114,118,101,114,124,115,101,116,45,99,111,111,107,105,101,124,115,116,114,105,99,116,45,116,114,97,110,115,112,111,114,116,45,115,101,99,117,114,105,116,121,124,116,114,97,110,115,102,101,114,45,101,110,99,111,100,105,110,103,124,117,115,101,114,45,97,103,101,110,116,124,118,97,114,121,124,118,105,97,124,119,119,119,45,97,117,116,104,101,110,116,105,99,97,116,101]⟩ : ByteArray),.string (⟨#[124]⟩ : ByteArray)] rfl zy ?_;(with_reducible refine (strings_Split.calls (⟨#[58,97,117,116,104,111,114,105,116,121,124,58,109,101,116,104,111,100,61,71,69,84,124,58,109,101,116,104,111,100,61,80,79,83,84,124,58,112,97,116,104,61,47,124,58,112,97,116,104,61,47,105,110,100,101,120,46,104,116,109,108,124,58,115,99,104,101,109,101,61,104,116,116,112,124,58,115,99,104,101,109,101,61,104,116,116,112,115,124,58,115,116,97,116,117,115,61,50,48,48,124,58,115,116,97,116,117,115,61,50,48,52,124,58,115,116,97,116,117,115,61,50,48,54,124,58,115,116,97,116,117,115,61,51,48,52,124,58,115,116,97,116,117,115,61,52,48,48,124,58,115,116,97,116,117,115,61,52,48,52,124,58,115,116,97,116,117,115,61,53,48,48,124,97,99,99,101,112,116,45,99,104,97,114,115,101,116,124,97,99,99,101,112,116,45,101,110,99,111,100,105,110,103,61,103,122,105,112,44,32,100,101,102,108,97,116,101,124,97,99,99,101,112,116,45,108,97,110,103,117,97,103,101,124,97,99,99,101,112,116,45,114,97,110,103,101,115,124,97,99,99,101,112,116,124,97,99,99,101,115,115,45,99,111,110,116,114,111,108,45,97,108,108,111,119,45,111,114,105,103,105,110,124,97,103,101,124,97,108,108,111,119,124,97,117,116,104,111,114,105,122,97,116,105,111,110,124,99,97,99,104,101,45,99,111,110,116,114,111,108,124,99,111,110,116,101,110,116,45,100,105,115,112,111,115,105,116,105,111,110,124,99,111,110,116,101,110,116,45,101,110,99,111,100,105,110,103,124,99,111,110,116,101,110,116,45,108,97,110,103,117,97,103,101,124,99,111,110,116,101,110,116,45,108,101,110,103,116,104,124,99,111,110,116,101,110,116,45,108,111,99,97,116,105,111,110,124,99,111,110,116,101,110,116,45,114,97,110,103,101,124,99,111,110,116,101,110,116,45,116,121,112,101,124,99,111,111,107,105,101,124,100,97,116,101,124,101,116,97,103,124,101,120,112,101,99,116,124,101,120,112,105,114,101,115,124,102,114,111,109,124,104,111,115,116,124,105,102,45,109,97,116,99,104,124,105,102,45,109,111,100,105,102,105,101,100,45,115,105,110,99,101,124,105,102,45,110,111,110,101,45,109,97,116,99,104,124,105,102,45,114,97,110,103,101,124,105,102,45,117,110,109,111,100,105,102,105,101,100,45,115,105,110,99,101,124,108,97,115,116,45,109,111,100,105,102,105,101,100,124,108,105,110,107,124,108,111,99,97,116,105,111,110,124,109,97,120,45,102,111,114,119,97,114,100,115,124,112,114,111,120,121,45,97,117,116,104,101,110,116,105,99,97,116,101,124,112,114,111,120,121,45,97,117,116,104,111,114,105,122,97,116,105,111,110,124,114,97,110,103,101,124,114,101,102,101,114,101,114,124,114,101,102,114,101,115,104,124,114,101,116,114,121,45,97,102,116,101,114,124,115,101,114,118,101,114,124,115,101,116,45,99,111,111,107,105,101,124,115,116,114,105,99,116,45,116,114,97,110,115,112,111,114,116,45,115,101,99,117,114,105,116,121,124,116,114,97,110,115,102,101,114,45,101,110,99,111,100,105,110,103,124,117,115,101,114,45,97,103,101,110,116,124,118,97,114,121,124,118,105,97,124,119,119,119,45,97,117,116,104,101,110,116,105,99,97,116,101]⟩ : ByteArray) (⟨#[124]⟩ : ByteArray) t295 _ ?side1 A1.out).mono ?_);(case side1 => first|exact ht|(refine tb_below ht ?_;repeat (first|(with_reducible first|exact HB.out|apply zm3_|apply zm2_|apply zm4_)|exact HB.out)));rintro e w2 ⟨v296,rfl,ho0,hb⟩;refine ⟨_,rfl,?_⟩;have HO297:=zm0_ (zo1_ ho0 (zn9_ (zl HB)));replace HB:=zm0_ (zn8_ (zl HB) hb);(try clear hb);(try clear hb2);(try clear hk);(try clear hi);(try clear ho0);obtain ⟨Ao3,co3,eo3⟩:=Kd.R_slice HO297.out;subst eo3))
 go_loopg [1,9] k (fun kq v1 v9 w' => ∃ (x1_1 : List (S36)) (x9_1 : Int),v9 = .int .i64 x9_1 ∧ Aside0 (impl_firstFields.l0 kq x1_1 t295 (t295.length : Int) x9_1 = some r) ∧ Aside0 (kq ≤ k) ∧ Aside0 (Kd.R k36 36 w' w.heap.size (fun _ => True) v1 x1_1) ∧ Aside0 (Kd.R Kd.string 9 w' w.heap.size (fun _ => True) (.slice Ao3 t295.length co3) t295) ∧ Aside0 (Below w.heap.size w w'))
 case atStart => exact ⟨(([] : List (S36))),(0),zz,H',⟨Nat.le_refl _⟩,⟨by first|exact Kd.R_nil _ _ _ _ _|exact Kd.N_nil _ _ _ _ _|exact Kd.V_nil _ _ _ _ _|exact Kd.Q_nil _ _ _ _ _|exact Kd.S_nil _ _ _ _ _⟩,⟨zr HO297⟩,⟨zl HB⟩⟩
 case round =>
  clear H'
  try clear p2
  obtain ⟨x1_1,x9_1,rfl,HA,HK1,HO_1,HO_7,HB⟩:=hrel
  cases gk with
  | zero => exact absurd HA.out (by simp [impl_firstFields.l0])
  | succ k1 =>
   have H:=HA.out
   clear HA
   simp only [impl_firstFields.l0] at H
   by_cases c4 : x9_1 < (t295.length : Int)
   ·
    rw [if_pos c4] at H
    have c4b0 : decide (x9_1 < (t295.length : Int)) = true:=decide_eq_true c4
    clear c4
    by_cases c5 : 0 ≤ x9_1
    ·
     rw [if_pos c5] at H
     have c5b0 : decide (0 ≤ x9_1) = true:=decide_eq_true c5
     clear c5
     by_cases c6 : x9_1 < (t295.length : Int)
     ·
      rw [if_pos c6] at H
      have c6b0 : decide (x9_1 < (t295.length : Int)) = true:=decide_eq_true c6
      clear c6
      replace H:=zq1_ H
      obtain ⟨⟨t299,t300,t301⟩,A70,H⟩:=H
      replace H : (if x1_1.length < 4398046511104 then (impl_firstFields.l0 k1 (x1_1 ++ [(⟨t299,t300⟩ : S36)]) t295 (t295.length : Int) (wrap64 (x9_1 + 1))) else (none)) = some r:=H
      have A7:=zm0_ A70
      clear A70
      by_cases c8 : x1_1.length < 4398046511104
      ·
       rw [if_pos c8] at H
       have LMc8:=zm0_ c8
       clear c8
       obtain ⟨y302,hy302⟩ : ∃ y_ : List (S36),y_ = (x1_1 ++ [(⟨t299,t300⟩ : S36)]):=⟨_,rfl⟩
       replace H : (impl_firstFields.l0 k1 y302 t295 (t295.length : Int) (wrap64 (x9_1 + 1))) = some r:=by first|(rw [hy302];with_reducible exact H)|(have H2_:=(Option.bind_some _ _).symm.trans H;rw [hy302];with_reducible exact H2_)|(have H2_:=(Option.bind_some _ _).symm.trans H;with_reducible exact H2_)|with_reducible exact H|(rw [hy302];exact H)|exact H
       have Ny302:=zm0_ hy302
       clear hy302
       have H':=zm0_ H
       clear H
       have p298 : 0 ≤ (x9_1 : Int):=of_decide_eq_true (by first|(with_reducible assumption)|assumption)
       have q298 : x9_1 < (t295.length : Int):=of_decide_eq_true (by first|(with_reducible assumption)|assumption)
       obtain ⟨ad298,e298,hx298_0⟩:=Kd.at_string (Kd.R_reads' HO_7.out).2.2 x9_1 p298 q298
       cases e298
       replace p298:=eq_true p298
       replace q298:=eq_true q298
       go_wp2_with (first|((with_reducible refine gate_callee (f:=62) rfl ?_);refine goesL_ (some 15) rfl rfl Tryz.func62 (by kernel_rfl) rfl #[.string (rdOf ByteArray.empty t295 x9_1),.string (⟨#[61]⟩ : ByteArray)] rfl zy ?_;(with_reducible refine (strings_Cut.calls (rdOf ByteArray.empty t295 x9_1) (⟨#[61]⟩ : ByteArray) t299 t300 t301 _ ?side1 A7.out).mono ?_);(case side1 => first|exact ht|(refine tb_below ht ?_;repeat (first|(with_reducible first|exact HB.out|apply zm3_|apply zm2_|apply zm4_)|exact HB.out)));rintro e w' ⟨rfl,⟨nd,rfl⟩⟩;refine ⟨_,rfl,?_⟩)|((with_reducible refine gate_builtin (b:=.append) (xs:=#[.tmp 19,.tmp 23]) rfl ?_);at_builtin;refine Kd.R_append k36 (w0:=w) w.heap.size rfl (.tmp 19) (.tmp 23) 30 36 (.agg #[(.string ⟨#[]⟩),(.string ⟨#[]⟩)]) 32 rfl Tryz.underlying30 info36 rfl (by decide) (by omega) u1 x1_1 (⟨t299,t300⟩ : S36) [.string t299,.string t300] (fun _ => True) (fun _ => False) rfl rfl ?aP (fun _ hk => hk.elim) ?aF ?aO ?aB ?aS ?aL ?_;(case aP => exact k36_mkM _ _ _ (⟨t299,t300⟩ : S36));(case aB => exact (zl HB));(case aF => exact (fun _ _ => trivial));(case aO => exact (zr HO_1));(case aS => exact (zn9_ (zl HB)));(case aL => have:=LMc8.out;omega);intro v303 w9 ho hb hg hat;(first|(with_reducible rw [← Ny302.out] at ho)|(simp only [Int.reduceToNat] at ho;with_reducible rw [← Ny302.out] at ho)|rw [← Ny302.out] at ho);replace HO_7:=zm0_ (Kd.R_over' (zr HO_7) (Kd.R_typed (zr HO_1)) (by decide) hg);replace HB:=zm0_ (hb);have HO304:=zm0_ (ho);clear HO_1;clear ho hb hg hat))
       go_roundg k1
       case measure => have:=HK1.out;omega
       case rel => exact ⟨(y302),(wrap64 (x9_1 + 1)),zz,H',⟨by have:=HK1.out;omega⟩,⟨zr HO304⟩,⟨zr HO_7⟩,⟨zl HB⟩⟩
      ·
       rw [if_neg c8] at H
       exact absurd H (by simp)
     ·
      rw [if_neg c6] at H
      exact absurd H (by simp)
    ·
     rw [if_neg c5] at H
     exact absurd H (by simp)
   ·
    rw [if_neg c4] at H
    have c4b0 : decide (x9_1 < (t295.length : Int)) = false:=decide_eq_false c4
    clear c4
    obtain rfl:=Option.some.inj H
    go_wp2
    go_ret
    exact ⟨_,ze,by (with_reducible repeat (first|apply k1_|apply k2_|apply k3_));exact HO_1.out,by repeat (first|(with_reducible first|exact HB.out|apply zm3_|apply zm2_|apply zm4_)|exact HB.out)⟩
end Go.Proofs.YthflimnpiglgbaaGreatDoor.A
end
section
namespace Go.Proofs.YthflimnpiglgbaaGreatDoor.A
open Go.RowKit Go.Proofs.YthflimnpiglgbaaGreatDoorW.PrintWords Go.Proofs.YthflimnpiglgbaaGreatDoorW.PrintLast Go.Proofs.YthflimnpiglgbaaGreatDoorW.PrintMore
attribute [local go_sem] max2_int min2_int max_two min_two max_three min_three max_four min_four   -- for this text's walks alone
set_option linter.unusedVariables false
set_option linter.unusedSimpArgs false

attribute [local go_sem high] eqA36
def impl_FindField.l0 : Nat → Int → List (S36) → Int → Int → ByteArray → ByteArray → Option (Int × Bool)
 | 0,_,_,_,_,_,_ => none
 | k + 1,x6,x13,x14,x15,x307000,x307001 => if x15 < x14 then (if 0 ≤ x15 then (if x15 < (x13.length : Int) then (if ((((rd_T36 x13 x15).f0).toList) == x307000.toList && ((((rd_T36 x13 x15).f1).toList) == x307001.toList)) = true then (some (wrap64 (x15 + 1),true)) else (if x6 = 0 then (if ((rd_T36 x13 x15).f0).toList = x307000.toList then (impl_FindField.l0 k (wrap64 (x15 + 1)) x13 x14 (wrap64 (x15 + 1)) x307000 x307001) else (impl_FindField.l0 k x6 x13 x14 (wrap64 (x15 + 1)) x307000 x307001)) else (impl_FindField.l0 k x6 x13 x14 (wrap64 (x15 + 1)) x307000 x307001))) else (none)) else (none)) else (some (x6,false))
def impl_FindField.f (k : Nat) (a0_0 : Int) (l0_1 : List (S36)) (a1_0 : ByteArray) (a1_1 : ByteArray) : Option (Int × Bool):=(impl_firstFields.f k).bind fun t307 => ((impl_Field_53.f k (([t307,l0_1] : List (List (S36))))).bind fun t313 => (impl_FindField.l0 k 0 t313 (t313.length : Int) 0 a1_0 a1_1))
theorem impl_FindField.mono_l : ∀ k,(∀ y0 y1 y2 y3 y4 y5,LeO (impl_FindField.l0 k y0 y1 y2 y3 y4 y5) (impl_FindField.l0 (k + 1) y0 y1 y2 y3 y4 y5))
 | 0 => fun _ _ _ _ _ _ r h => by simp [impl_FindField.l0] at h
 | k + 1 => by
  have ih0:=impl_FindField.mono_l k
  ·
   intro y0 y1 y2 y3 y4 y5
   unfold impl_FindField.l0
   repeat' first
   | (with_reducible exact ih0 _ _ _ _ _ _)
   | (with_reducible exact impl_Field_53.mono _ _)
   | (with_reducible exact impl_firstFields.mono _)
   | (with_reducible exact LeO.refl _)
   | (with_reducible exact LeO.none _)
   | (with_reducible refine LeO.ite ?_ ?_)
   | (with_reducible refine LeO.bind ?_ (fun _ => ?_))
   | exact ih0 _ _ _ _ _ _
   | exact impl_Field_53.mono _ _
   | exact impl_firstFields.mono _
   | exact LeO.none _
   | refine LeO.ite ?_ ?_
   | refine LeO.bind ?_ (fun _ => ?_)
theorem impl_FindField.mono : ∀ a0 a1 a2 a3 k,LeO (impl_FindField.f k a0 a1 a2 a3) (impl_FindField.f (k + 1) a0 a1 a2 a3):=by
 intro a0 a1 a2 a3 k
 have ih0:=impl_FindField.mono_l k
 unfold impl_FindField.f
 repeat' first
  | (with_reducible exact ih0 _ _ _ _ _ _)
  | (with_reducible exact impl_Field_53.mono _ _)
  | (with_reducible exact impl_firstFields.mono _)
  | (with_reducible exact LeO.refl _)
  | (with_reducible exact LeO.none _)
  | (with_reducible refine LeO.ite ?_ ?_)
  | (with_reducible refine LeO.bind ?_ (fun _ => ?_))
  | exact ih0 _ _ _ _ _ _
  | exact impl_Field_53.mono _ _
  | exact impl_firstFields.mono _
  | exact LeO.none _
  | refine LeO.ite ?_ ?_
  | refine LeO.bind ?_ (fun _ => ?_)
set_option maxHeartbeats 8000000 in
set_option maxRecDepth 100000 in
theorem impl_FindField.calls (k : Nat) (a0_0 : Int) (P0_1_ : Nat → Prop) (A0_1 : Option Addr) (c0_1 : Nat) (l0_1 : List (S36)) (a1_0 : ByteArray) (a1_1 : ByteArray) (r1 : Int) (r2 : Bool) (w : World) (hs0_1 : Kd.V k36 36 w w.heap.size (fun k_ => P0_1_ k_) (.slice A0_1 l0_1.length c0_1) l0_1) (ht : TB w) (h : impl_FindField.f k a0_0 l0_1 a1_0 a1_1 = some (r1,r2)) :
 Calls Tryz.prog 44 #[.agg #[.int .i64 a0_0,.slice A0_1 l0_1.length c0_1],.agg #[.string a1_0,.string a1_1]] w fun e w' => e = .returned (.tuple #[.int .i64 r1,.bool r2]) ∧ Below w.heap.size w w':=by
 have hu32:=Tryz.underlying32
 have hu36:=Tryz.underlying36
 have HO0_1:=zm0_ (show Kd.V k36 36 w w.heap.size (fun k_ => (P0_1_ k_ ∨ w.heap.size ≤ k_)) (.slice A0_1 l0_1.length c0_1) l0_1 from Kd.V_mono hs0_1 (fun k_ hk => .inl hk))
 have HB:=zm0_ (Below.refl w.heap.size w)
 have H : ((impl_firstFields.f k).bind fun t307 => ((impl_Field_53.f k (([t307,l0_1] : List (List (S36))))).bind fun t313 => (impl_FindField.l0 k 0 t313 (t313.length : Int) 0 a1_0 a1_1))) = some (r1,r2):=h
 clear h
 replace H:=zq1_ H
 obtain ⟨t307,A30,H⟩:=H
 replace H : ((impl_Field_53.f k (([t307,l0_1] : List (List (S36))))).bind fun t313 => (impl_FindField.l0 k 0 t313 (t313.length : Int) 0 a1_0 a1_1)) = some (r1,r2):=H
 have A3:=zm0_ A30
 clear A30
 obtain ⟨y310,hy310⟩ : ∃ y_ : List (List (S36)),y_ = (([t307,l0_1] : List (List (S36)))):=⟨_,rfl⟩
 replace H : ((impl_Field_53.f k y310).bind fun t313 => (impl_FindField.l0 k 0 t313 (t313.length : Int) 0 a1_0 a1_1)) = some (r1,r2):=by first|(rw [hy310];with_reducible exact H)|(have H2_:=(Option.bind_some _ _).symm.trans H;rw [hy310];with_reducible exact H2_)|(have H2_:=(Option.bind_some _ _).symm.trans H;with_reducible exact H2_)|with_reducible exact H|(rw [hy310];exact H)|exact H
 have Ny310:=zm0_ hy310
 clear hy310
 replace H:=zq1_ H
 obtain ⟨t313,A40,H⟩:=H
 replace H : (impl_FindField.l0 k 0 t313 (t313.length : Int) 0 a1_0 a1_1) = some (r1,r2):=H
 have A4:=zm0_ A40
 clear A40
 have H':=zm0_ H
 clear H
 go_enter Tryz.func44,Tryz.ntmps44
 try go_wp2_with (first|((with_reducible refine gate_dst (N:=2) rfl ?_);refine box_event ?hg (N:=2) ?hd (cs:=#[.int .i64 a0_0,.slice A0_1 l0_1.length c0_1]) (t:=32) ?hr ?_;(case hd => rfl);(case hg => rfl);(case hr => first|(go_simp;done)|(go_simp;rfl));intro gb305 hg w5 hbox hb;replace HO0_1:=zm0_ (zm9_ (Kd.V_elderB (by (with_reducible repeat (first|apply zn5_|apply zn6_|apply zn7_));exact HO0_1.out) gb305 (Nat.le_of_eq hg.symm)) hb);have BK305:=zm0_ (hbox);have GW305:=zm0_ ((by rw [hg];exact (zn9_ (zl HB)) : w.heap.size ≤ gb305));have GE305:=zm0_ ((by rw [hg];exact (zn9_ (zl HB)) : w.heap.size ≤ gb305));replace HB:=zm0_ (zn8_ (zl HB) hb);clear hb hbox hg)|((with_reducible refine gate_dst (N:=3) rfl ?_);refine box_event ?hg (N:=3) ?hd (cs:=#[.string a1_0,.string a1_1]) (t:=36) ?hr ?_;(case hd => rfl);(case hg => rfl);(case hr => first|(go_simp;done)|(go_simp;rfl));intro gb306 hg w6 hbox hb;replace HO0_1:=zm0_ (zm9_ (Kd.V_elderB (by (with_reducible repeat (first|apply zn5_|apply zn6_|apply zn7_));exact HO0_1.out) gb306 (Nat.le_of_eq hg.symm)) hb);have BK306:=zm0_ (hbox);have GW306:=zm0_ ((by rw [hg];exact (zn9_ (zl1 HB GE305)) : w.heap.size ≤ gb306));have GE306:=zm0_ ((by rw [hg];exact (zn9_ (zl1 HB GE305)) : w.heap.size ≤ gb306));replace HB:=zm0_ (zn8_ (zl1 HB GE305) hb);have NB305_306:=zm0_ ((by rw [hg];exact Nat.ne_of_lt (zo3_ (g:=gb305) (o:=.cells #[.int .i64 a0_0,.slice A0_1 l0_1.length c0_1] 32 (0,0)) (zb BK305)) : gb305 ≠ gb306));have NB306_305:=zm0_ ((by rw [hg];exact Nat.ne_of_gt (zo3_ (g:=gb305) (o:=.cells #[.int .i64 a0_0,.slice A0_1 l0_1.length c0_1] 32 (0,0)) (zb BK305)) : gb306 ≠ gb305));replace BK305:=zm0_ (zm5_ (zb BK305) hb);clear hb hbox hg))
 replace HO0_1:=zm0_ (zn7_ HO0_1.out)
 replace BK305:=zm0_ (k7_ BK305.out)
 replace BK306:=zm0_ (k7_ BK306.out)
 replace HB:=zm0_ (zm4_ HB.out)
 refine start_ (n:=7) (S:=fun w' => w'.cell? ⟨gb305,0,none⟩ = some (.int .i64 a0_0) ∧ w'.cell? ⟨gb305,1,none⟩ = some (.slice A0_1 l0_1.length c0_1)) (ds:=[]) #[Z,Z,Z,Z,Z,Z,Z] (by kernel_rfl) rfl rfl ⟨(zm6_ BK305.out 0).trans rfl,(zm6_ BK305.out 1).trans rfl⟩ (fun hHeld => ?_)
 generalize w6.drew = w7 at HO0_1 BK305 BK306 HB hHeld ⊢
 refine pure_ (i:=1) (N:=some 10) (v:=?_) (a':=?_) #[Z,Y,Z,Z,Z,Z,Z] rfl rfl (by kernel_rfl) (fun _ _ _ h => h) (Or.inl ⟨by rfl,?_⟩) ?_ ?_
 rotate_left
 ·
  intro w'
  go_simp
  with_reducible rfl
 rotate_left
 ·
  simp only [Act.put,lA_,lB_,lC_,i64_w,i32_w]
  rfl
 refine pure_ (i:=6) (N:=some 15) (v:=?_) (a':=?_) #[Z,Y,Z,Z,Z,Z,Y] rfl rfl (by kernel_rfl) (fun _ _ _ h => h) (Or.inl ⟨by rfl,?_⟩) ?_ ?_
 rotate_left
 ·
  intro w'
  go_simp
  with_reducible rfl
 rotate_left
 ·
  simp only [Act.put,lA_,lB_,lC_,i64_w,i32_w]
  rfl
 refine take_ (i:=2) (N:=some 11) (v:=?_) (a':=?_) #[Z,Y,Y,Z,Z,Z,Y] rfl rfl (by kernel_rfl) (fun _ _ _ h => h) (Or.inl ⟨by rfl,?_⟩) hHeld ?_ ?_
 rotate_left
 ·
  rintro w' ⟨s0,s1⟩
  go_simp
  with_reducible rfl
 rotate_left
 ·
  simp only [Act.put,lA_,lB_,lC_,i64_w,i32_w]
  rfl
 refine one_ (i:=0) (N:=some 9) #[Y,Y,Y,Z,Z,Z,Y] rfl rfl (by kernel_rfl) (by decide) (fun K hK => ?_)
 refine goes_ Tryz.func54 (by kernel_rfl) rfl #[] (by rfl) rfl rfl zy ?_
 with_reducible refine (impl_firstFields.calls k  t307 _ ?side1 A3.out).mono ?_
 (case side1 => first|exact ht|(refine tb_below ht ?_;repeat (first|(with_reducible first|exact HB.out|apply zm3_|apply zm2_|apply zm4_|refine zm1_ ?_ GE305.out|refine zm1_ ?_ GE306.out)|exact HB.out)))
 rintro e w8 ⟨v308,rfl,ho0,hb⟩
 refine ⟨_,rfl,?_⟩
 replace HO0_1:=zm0_ (Kd.V_elder' (by (with_reducible repeat (first|apply zn5_|apply zn6_|apply zn7_));exact HO0_1.out) (Kd.R_base ho0) hb)
 have HO309:=zm0_ (zo1_ (Kd.R_newB (Kd.R_newM (M:=fun k_ => (w.heap.size ≤ k_)) ho0 (zn9_ (zl2 HB GE305 GE306)) (fun k_ h_ => h_)) (g:=gb306) (o:=.cells #[.string a1_0,.string a1_1] 36 (0,0)) (zb BK306)) (zn9_ (zl2 HB GE305 GE306)))
 replace BK305:=zm0_ (zm5_ (zb BK305) hb)
 replace BK306:=zm0_ (zm5_ (zb BK306) hb)
 replace HB:=zm0_ (zn8_ (zl2 HB GE305 GE306) hb)
 (try clear hb)
 (try clear hb2)
 (try clear hk)
 (try clear hi)
 (try clear ho0)
 obtain ⟨Ao9,co9,eo9⟩:=Kd.R_slice HO309.out
 (first|subst eo9|(injection eo9 with f1_ f2_ f3_;have f4_:=f1_.symm;have f5_:=f3_.symm;clear f1_ f2_ f3_;subst f4_;subst f5_))
 refine hK.out _ _ ⟨(zm6_ BK305.out 0).trans rfl,(zm6_ BK305.out 1).trans rfl⟩ (fun hHeld => ?_)
 clear hK K
 refine norm_ (a':=?_) ?_ ?_
 rotate_left
 ·
  show Act.put _ (some 9) _ = _
  simp only [Act.put,lA_,lB_,lC_,i64_w,i32_w]
  rfl
 refine one_ (i:=3) (N:=some 12) #[Y,Y,Y,Y,Z,Z,Y] rfl rfl (by kernel_rfl) (by decide) (fun K hK => ?_)
 refine Kd.N_lit_step (Kd.slice 36 k36) _ 30 ?hg (N':=12) ?hd (xs:=([t307,l0_1] : List (List (S36)))) (inner:=[.slice Ao9 t307.length co9,.slice A0_1 l0_1.length c0_1]) (ok:=(fun k_ => (P0_1_ k_ ∨ w.heap.size ≤ k_) ∧ k_ ≠ gb305 ∧ k_ ≠ gb306)) (okp:=(fun k_ => (P0_1_ k_ ∨ w.heap.size ≤ k_) ∧ k_ ≠ gb305 ∧ k_ ≠ gb306)) ?hr ?hp (fun _ hk => hk) ((show ∀ k_,w8.heap.size ≤ k_ → (fun k_ => (P0_1_ k_ ∨ w.heap.size ≤ k_) ∧ k_ ≠ gb305 ∧ k_ ≠ gb306) k_ from fun k_ hk => ⟨(.inr (Nat.le_trans (zn9_ (zl2 HB GE305 GE306)) hk)),Kd.freshB (g:=gb305) (o:=.cells #[.int .i64 a0_0,.slice A0_1 l0_1.length c0_1] 32 (0,0)) (zb BK305) k_ hk,Kd.freshB (g:=gb306) (o:=.cells #[.string a1_0,.string a1_1] 36 (0,0)) (zb BK306) k_ hk⟩) _ (Nat.le_refl _)) (Below.refl _ _) (Nat.le_refl _) (by simp) ?_;(case hd => rfl);(case hg => rfl);(case hr => first|(go_simp;done)|(go_simp;rfl));(case hp => exact (Reps.one (show Kd.FK (Kd.slice 36 k36) _ _ t307 [.slice Ao9 t307.length co9] from (Kd.FK_slice_mk (Kd.R_reads' (zo2_ (ok':=(fun k_ => (P0_1_ k_ ∨ w.heap.size ≤ k_) ∧ k_ ≠ gb305 ∧ k_ ≠ gb306)) (Kd.R_types (HO309.out) BK305.out (by decide)) (fun k_ hk => ⟨(.inr (hk.1.1.1)),⟨(by first|exact hk.2|(have hq_:=hk;simp only [ne_eq] at hq_ ⊢;simp only [hq_,not_false_eq_true,and_self])),(by first|exact hk.1.2|(have hq_:=hk;simp only [ne_eq] at hq_ ⊢;simp only [hq_,not_false_eq_true,and_self]))⟩⟩))).2.1 (Kd.R_F (zo2_ (ok':=(fun k_ => (P0_1_ k_ ∨ w.heap.size ≤ k_) ∧ k_ ≠ gb305 ∧ k_ ≠ gb306)) (Kd.R_types (HO309.out) BK305.out (by decide)) (fun k_ hk => ⟨(.inr (hk.1.1.1)),⟨(by first|exact hk.2|(have hq_:=hk;simp only [ne_eq] at hq_ ⊢;simp only [hq_,not_false_eq_true,and_self])),(by first|exact hk.1.2|(have hq_:=hk;simp only [ne_eq] at hq_ ⊢;simp only [hq_,not_false_eq_true,and_self]))⟩⟩))))) (Reps.one (show Kd.FK (Kd.slice 36 k36) _ _ l0_1 [.slice A0_1 l0_1.length c0_1] from (Kd.FK_slice_mk (Kd.V_reads' (Kd.V_mono (ok':=(fun k_ => (P0_1_ k_ ∨ w.heap.size ≤ k_) ∧ k_ ≠ gb305 ∧ k_ ≠ gb306)) (HO0_1.out) (fun k_ hk => ⟨hk.1.1.1,⟨(by first|exact hk.1.1.2|(have hq_:=hk;simp only [ne_eq] at hq_ ⊢;simp only [hq_,not_false_eq_true,and_self])),(by first|exact hk.1.2|(have hq_:=hk;simp only [ne_eq] at hq_ ⊢;simp only [hq_,not_false_eq_true,and_self]))⟩⟩))).2.1 (Kd.V_F (Kd.V_mono (ok':=(fun k_ => (P0_1_ k_ ∨ w.heap.size ≤ k_) ∧ k_ ≠ gb305 ∧ k_ ≠ gb306)) (HO0_1.out) (fun k_ hk => ⟨hk.1.1.1,⟨(by first|exact hk.1.1.2|(have hq_:=hk;simp only [ne_eq] at hq_ ⊢;simp only [hq_,not_false_eq_true,and_self])),(by first|exact hk.1.2|(have hq_:=hk;simp only [ne_eq] at hq_ ⊢;simp only [hq_,not_false_eq_true,and_self]))⟩⟩))))) (Reps.none _ _))))
 intro v311 w10 ho11 hb hg_ hnew_
 clear hg_ hnew_
 (first|rw [← Ny310.out] at ho11|(simp only [Int.reduceToNat] at ho11;rw [← Ny310.out] at ho11))
 replace HO0_1:=zm0_ (Kd.V_elder' (by (with_reducible repeat (first|apply zn5_|apply zn6_|apply zn7_));exact HO0_1.out) (Kd.N_base ho11) hb)
 have HO312:=zm0_ (Kd.N_lower ho11 (zn9_ (zl2 HB GE305 GE306)))
 replace BK305:=zm0_ (zm5_ (zb BK305) hb)
 replace BK306:=zm0_ (zm5_ (zb BK306) hb)
 replace HB:=zm0_ (zn8_ (zl2 HB GE305 GE306) hb)
 clear HO309 hb ho11
 obtain ⟨Ao12,co12,eo12⟩:=Kd.N_slice HO312.out
 (first|subst eo12|(injection eo12 with f1_ f2_ f3_;have f4_:=f1_.symm;have f5_:=f3_.symm;clear f1_ f2_ f3_;subst f4_;subst f5_))
 refine hK.out _ _ ⟨(zm6_ BK305.out 0).trans rfl,(zm6_ BK305.out 1).trans rfl⟩ (fun hHeld => ?_)
 clear hK K
 refine norm_ (a':=?_) ?_ ?_
 rotate_left
 ·
  show Act.put _ (some 12) _ = _
  simp only [Act.put,lA_,lB_,lC_,i64_w,i32_w]
  rfl
 refine one_ (i:=4) (N:=some 13) #[Y,Y,Y,Y,Y,Z,Y] rfl rfl (by kernel_rfl) (by decide) (fun K hK => ?_)
 refine goes_ Tryz.func53 (by kernel_rfl) rfl #[.slice Ao12 y310.length co12] (by rfl) rfl rfl zy ?_
 with_reducible refine (impl_Field_53.calls k _ _ y310 t313 _ ?side1 ?side2 A4.out).mono ?_
 (case side1 => repeat (first|exact (Kd.N_reads' HO312.out).2.2|(with_reducible refine Kd.C_alloc ?_ _)|(with_reducible refine Kd.C_drewN ?_ _)|(with_reducible refine Kd.C_drew ?_)))
 (case side2 => exact (Kd.N_reads' HO312.out).2.1)
 rintro e w13 ⟨v314,rfl,ho0,hb⟩
 refine ⟨_,rfl,?_⟩
 replace HO0_1:=zm0_ (Kd.V_elder' (by (with_reducible repeat (first|apply zn5_|apply zn6_|apply zn7_));exact HO0_1.out) (Kd.R_base ho0) hb)
 replace HO312:=zm0_ (Kd.N_elder' (by (with_reducible repeat (first|apply Kd.N_alloc|apply Kd.N_drewN|apply Kd.N_drew));exact HO312.out) (Kd.R_base ho0) hb)
 have HO315:=zm0_ (zo1_ (Kd.R_newB (Kd.R_newM (M:=fun k_ => (w.heap.size ≤ k_)) ho0 (zn9_ (zl2 HB GE305 GE306)) (fun k_ h_ => h_)) (g:=gb306) (o:=.cells #[.string a1_0,.string a1_1] 36 (0,0)) (zb BK306)) (zn9_ (zl2 HB GE305 GE306)))
 replace BK305:=zm0_ (zm5_ (zb BK305) hb)
 replace BK306:=zm0_ (zm5_ (zb BK306) hb)
 replace HB:=zm0_ (zn8_ (zl2 HB GE305 GE306) hb)
 (try clear hb)
 (try clear hb2)
 (try clear hk)
 (try clear hi)
 (try clear ho0)
 obtain ⟨Ao14,co14,eo14⟩:=Kd.R_slice HO315.out
 (first|subst eo14|(injection eo14 with f1_ f2_ f3_;have f4_:=f1_.symm;have f5_:=f3_.symm;clear f1_ f2_ f3_;subst f4_;subst f5_))
 refine hK.out _ _ ⟨(zm6_ BK305.out 0).trans rfl,(zm6_ BK305.out 1).trans rfl⟩ (fun hHeld => ?_)
 clear hK K
 refine norm_ (a':=?_) ?_ ?_
 rotate_left
 ·
  show Act.put _ (some 13) _ = _
  simp only [Act.put,lA_,lB_,lC_,i64_w,i32_w]
  rfl
 refine pure_ (i:=5) (N:=some 14) (v:=?_) (a':=?_) #[Y,Y,Y,Y,Y,Y,Y] rfl rfl (by kernel_rfl) (fun _ _ _ h => h) (Or.inl ⟨by rfl,?_⟩) ?_ ?_
 rotate_left
 ·
  intro w'
  go_simp
  with_reducible rfl
 rotate_left
 ·
  simp only [Act.put,lA_,lB_,lC_,i64_w,i32_w]
  rfl
 refine done_ (by kernel_rfl) ?_
 try go_wp2
 go_loopg [6,15] k (fun kq v6 v15 w' => ∃ (x6_1 : Int) (x15_1 : Int),v6 = .int .i64 x6_1 ∧ v15 = .int .i64 x15_1 ∧ Aside0 (impl_FindField.l0 kq x6_1 t313 (t313.length : Int) x15_1 a1_0 a1_1 = some (r1,r2)) ∧ Aside0 (kq ≤ k) ∧ Aside0 (Kd.R k36 36 w' w.heap.size (fun k_ => (w.heap.size ≤ k_) ∧ k_ ≠ gb306) (.slice Ao14 t313.length co14) t313) ∧ Aside0 (Kd.V k36 36 w' w.heap.size (fun k_ => (P0_1_ k_ ∨ w.heap.size ≤ k_) ∧ some k_ ≠ ((.slice Ao14 t313.length co14) : Value).ownBlock ∧ k_ ≠ gb305 ∧ k_ ≠ gb306) (.slice A0_1 l0_1.length c0_1) l0_1) ∧ Aside0 (w'.heap[gb305]? = some (.cells #[.int .i64 a0_0,(.slice A0_1 l0_1.length c0_1)] 32 (0,0))) ∧ Aside0 (w'.heap[gb306]? = some (.cells #[.string a1_0,.string a1_1] 36 (0,0))) ∧ Aside0 (Below w.heap.size w w'))
 case atStart => exact ⟨(0),(0),zz,zz,H',⟨Nat.le_refl _⟩,⟨by (with_reducible repeat (first|apply k1_|apply k2_|apply k3_));exact zo2_ HO315.out (fun _ hk => ⟨hk.1.1,(by first|exact hk.2|(have hq_:=hk;simp only [ne_eq] at hq_ ⊢;simp only [hq_,not_false_eq_true,and_self]))⟩)⟩,⟨by (with_reducible repeat (first|apply zn5_|apply zn6_|apply zn7_));exact Kd.V_mono HO0_1.out (fun _ hk => ⟨hk.1.1.1.1.1,⟨(by first|exact hk.2|(have hq_:=hk;simp only [ne_eq] at hq_ ⊢;simp only [hq_,not_false_eq_true,and_self])),⟨(by first|exact hk.1.1.1.1.2|(have hq_:=hk;simp only [ne_eq] at hq_ ⊢;simp only [hq_,not_false_eq_true,and_self])),(by first|exact hk.1.1.1.2|(have hq_:=hk;simp only [ne_eq] at hq_ ⊢;simp only [hq_,not_false_eq_true,and_self]))⟩⟩⟩)⟩,⟨zb BK305⟩,⟨zb BK306⟩,⟨zl2 HB GE305 GE306⟩⟩
 case round =>
  clear H'
  try clear p2
  try clear c4
  try clear c5
  obtain ⟨x6_1,x15_1,rfl,rfl,HA,HK1,HO_13,HO_306001,BK305,BK306,HB⟩:=hrel
  cases gk with
  | zero => exact absurd HA.out (by simp [impl_FindField.l0])
  | succ k1 =>
   have H:=HA.out
   clear HA
   simp only [impl_FindField.l0] at H
   by_cases c15 : x15_1 < (t313.length : Int)
   ·
    rw [if_pos c15] at H
    have c15b0 : decide (x15_1 < (t313.length : Int)) = true:=decide_eq_true c15
    clear c15
    by_cases c16 : 0 ≤ x15_1
    ·
     rw [if_pos c16] at H
     have c16b0 : decide (0 ≤ x15_1) = true:=decide_eq_true c16
     clear c16
     by_cases c17 : x15_1 < (t313.length : Int)
     ·
      rw [if_pos c17] at H
      have c17b0 : decide (x15_1 < (t313.length : Int)) = true:=decide_eq_true c17
      clear c17
      by_cases c18 : ((((rd_T36 t313 x15_1).f0).toList) == a1_0.toList && ((((rd_T36 t313 x15_1).f1).toList) == a1_1.toList)) = true
      ·
       rw [if_pos c18] at H
       have c18b0 : ((((rd_T36 t313 x15_1).f0).toList) == a1_0.toList && ((((rd_T36 t313 x15_1).f1).toList) == a1_1.toList)) = true:=c18
       (try (have c18b1 : decide ((((rd_T36 t313 x15_1).f0).toList) = a1_0.toList && ((((rd_T36 t313 x15_1).f1).toList) == a1_1.toList)) = true:=by simpa using c18))
       (try (have c18b2 : ((((rd_T36 t313 x15_1).f0).toList) == a1_0.toList && ((((rd_T36 t313 x15_1).f1).toList) == a1_1.toList)) = true:=by simpa using c18))
       clear c18
       simp only [Option.some.injEq,Prod.mk.injEq] at H
       obtain ⟨rfl,rfl⟩:=H
       have p316 : 0 ≤ (x15_1 : Int):=of_decide_eq_true (by first|(with_reducible assumption)|assumption)
       have q316 : x15_1 < (t313.length : Int):=of_decide_eq_true (by first|(with_reducible assumption)|assumption)
       obtain ⟨ad316,e316,hx316_0,hx316_1⟩:=at_T36 (Kd.R_reads' HO_13.out).2.2 x15_1 p316 q316
       cases e316
       replace p316:=eq_true p316
       replace q316:=eq_true q316
       go_wp2_with (first|((with_reducible refine gate_dst (N:=8) rfl ?_);refine box_event ?hg (N:=8) ?hd (cs:=#[.string (⟨#[]⟩ : ByteArray),.string (⟨#[]⟩ : ByteArray)]) (t:=36) ?hr ?_;(case hd => rfl);(case hg => rfl);(case hr => first|(go_simp;done)|(go_simp;rfl));intro gb317 hg w19 hbox hb;replace HO_13:=zm0_ (zm8_ (Kd.R_elderB (zr HO_13) gb317 (Nat.le_of_eq hg.symm)) hb);replace HO_306001:=zm0_ (zm9_ (Kd.V_elderB (by (with_reducible repeat (first|apply zn5_|apply zn6_|apply zn7_));exact HO_306001.out) gb317 (Nat.le_of_eq hg.symm)) hb);have BK317:=zm0_ (hbox);have GW317:=zm0_ ((by rw [hg];exact (zn9_ (zl2 HB GE305 GE306)) : w.heap.size ≤ gb317));have GE317:=zm0_ ((by rw [hg];exact (zn9_ (zl2 HB GE305 GE306)) : w.heap.size ≤ gb317));replace HB:=zm0_ (zn8_ (zl2 HB GE305 GE306) hb);have NB305_317:=zm0_ ((by rw [hg];exact Nat.ne_of_lt (zo3_ (g:=gb305) (o:=.cells #[.int .i64 a0_0,.slice A0_1 l0_1.length c0_1] 32 (0,0)) (zb BK305)) : gb305 ≠ gb317));have NB317_305:=zm0_ ((by rw [hg];exact Nat.ne_of_gt (zo3_ (g:=gb305) (o:=.cells #[.int .i64 a0_0,.slice A0_1 l0_1.length c0_1] 32 (0,0)) (zb BK305)) : gb317 ≠ gb305));replace BK305:=zm0_ (zm5_ (zb BK305) hb);have NB306_317:=zm0_ ((by rw [hg];exact Nat.ne_of_lt (zo3_ (g:=gb306) (o:=.cells #[.string a1_0,.string a1_1] 36 (0,0)) (zb BK306)) : gb306 ≠ gb317));have NB317_306:=zm0_ ((by rw [hg];exact Nat.ne_of_gt (zo3_ (g:=gb306) (o:=.cells #[.string a1_0,.string a1_1] 36 (0,0)) (zb BK306)) : gb317 ≠ gb306));replace BK306:=zm0_ (zm5_ (zb BK306) hb);clear hb hbox hg;have hnb20:=NB317_305.out;have hnc20:=NB305_317.out;have hnb21:=NB317_306.out;have hnc21:=NB306_317.out;have hcz22_0 : w19.cell? ⟨gb317,0,none⟩ = some (.string (⟨#[]⟩ : ByteArray)):=(zm6_ BK317.out 0).trans rfl;have hcz22_1 : w19.cell? ⟨gb317,1,none⟩ = some (.string (⟨#[]⟩ : ByteArray)):=(zm6_ BK317.out 1).trans rfl;have hfz22_0:=zm7_ BK317.out 0;have hfz22_1:=zm7_ BK317.out 1;have hnb23:=NB306_305.out;have hnc23:=NB305_306.out;have hcz24_0 : w19.cell? ⟨gb306,0,none⟩ = some (.string a1_0):=(zm6_ BK306.out 0).trans rfl;have hcz24_1 : w19.cell? ⟨gb306,1,none⟩ = some (.string a1_1):=(zm6_ BK306.out 1).trans rfl;have hfz24_0:=zm7_ BK306.out 0;have hfz24_1:=zm7_ BK306.out 1))
       go_ret2
       exact ⟨ze,by repeat (first|(with_reducible first|exact HB.out|apply zm3_|apply zm2_|apply zm4_|refine zm1_ ?_ GE305.out|refine zm1_ ?_ GE306.out|refine zm1_ ?_ GE317.out)|exact HB.out)⟩
      ·
       rw [if_neg c18] at H
       have c18b0 : ((((rd_T36 t313 x15_1).f0).toList) == a1_0.toList && ((((rd_T36 t313 x15_1).f1).toList) == a1_1.toList)) = false:=by simpa using c18
       (try (have c18b1 : decide ((((rd_T36 t313 x15_1).f0).toList) = a1_0.toList && ((((rd_T36 t313 x15_1).f1).toList) == a1_1.toList)) = false:=by simpa using c18))
       (try (have c18b2 : ((((rd_T36 t313 x15_1).f0).toList) == a1_0.toList && ((((rd_T36 t313 x15_1).f1).toList) == a1_1.toList)) = false:=by simpa using c18))
       (try (have c18b3 : ¬ ((((rd_T36 t313 x15_1).f0).toList) = a1_0.toList && ((((rd_T36 t313 x15_1).f1).toList) == a1_1.toList)):=by simpa using c18))
       clear c18
       by_cases c25 : x6_1 = 0
       ·
        rw [if_pos c25] at H
        have c25b0 : (x6_1 == 0) = true:=beq_iff_eq.mpr c25
        have c25b1 : (x6_1 != 0) = false:=bne_eq_false_iff_eq.mpr c25
        clear c25
        by_cases c26 : ((rd_T36 t313 x15_1).f0).toList = a1_0.toList
        ·
         rw [if_pos c26] at H
         have c26b0 : (((rd_T36 t313 x15_1).f0).toList == a1_0.toList) = true:=beq_iff_eq.mpr c26
         (try (have c26b9 : ((((rd_T36 t313 x15_1).f1).toList) == a1_1.toList) = false:=by simpa [c26b0] using c18b0))
         have c26b1 : (((rd_T36 t313 x15_1).f0).toList != a1_0.toList) = false:=bne_eq_false_iff_eq.mpr c26
         clear c26
         have H':=zm0_ H
         clear H
         have p316 : 0 ≤ (x15_1 : Int):=of_decide_eq_true (by first|(with_reducible assumption)|assumption)
         have q316 : x15_1 < (t313.length : Int):=of_decide_eq_true (by first|(with_reducible assumption)|assumption)
         obtain ⟨ad316,e316,hx316_0,hx316_1⟩:=at_T36 (Kd.R_reads' HO_13.out).2.2 x15_1 p316 q316
         cases e316
         replace p316:=eq_true p316
         replace q316:=eq_true q316
         go_wp2_with (first|((with_reducible refine gate_dst (N:=8) rfl ?_);refine box_event ?hg (N:=8) ?hd (cs:=#[.string (⟨#[]⟩ : ByteArray),.string (⟨#[]⟩ : ByteArray)]) (t:=36) ?hr ?_;(case hd => rfl);(case hg => rfl);(case hr => first|(go_simp;done)|(go_simp;rfl));intro gb317 hg w27 hbox hb;replace HO_13:=zm0_ (zm8_ (Kd.R_elderB (zr HO_13) gb317 (Nat.le_of_eq hg.symm)) hb);replace HO_306001:=zm0_ (zm9_ (Kd.V_elderB (by (with_reducible repeat (first|apply zn5_|apply zn6_|apply zn7_));exact HO_306001.out) gb317 (Nat.le_of_eq hg.symm)) hb);have BK317:=zm0_ (hbox);have GW317:=zm0_ ((by rw [hg];exact (zn9_ (zl2 HB GE305 GE306)) : w.heap.size ≤ gb317));have GE317:=zm0_ ((by rw [hg];exact (zn9_ (zl2 HB GE305 GE306)) : w.heap.size ≤ gb317));replace HB:=zm0_ (zn8_ (zl2 HB GE305 GE306) hb);have NB305_317:=zm0_ ((by rw [hg];exact Nat.ne_of_lt (zo3_ (g:=gb305) (o:=.cells #[.int .i64 a0_0,.slice A0_1 l0_1.length c0_1] 32 (0,0)) (zb BK305)) : gb305 ≠ gb317));have NB317_305:=zm0_ ((by rw [hg];exact Nat.ne_of_gt (zo3_ (g:=gb305) (o:=.cells #[.int .i64 a0_0,.slice A0_1 l0_1.length c0_1] 32 (0,0)) (zb BK305)) : gb317 ≠ gb305));replace BK305:=zm0_ (zm5_ (zb BK305) hb);have NB306_317:=zm0_ ((by rw [hg];exact Nat.ne_of_lt (zo3_ (g:=gb306) (o:=.cells #[.string a1_0,.string a1_1] 36 (0,0)) (zb BK306)) : gb306 ≠ gb317));have NB317_306:=zm0_ ((by rw [hg];exact Nat.ne_of_gt (zo3_ (g:=gb306) (o:=.cells #[.string a1_0,.string a1_1] 36 (0,0)) (zb BK306)) : gb317 ≠ gb306));replace BK306:=zm0_ (zm5_ (zb BK306) hb);clear hb hbox hg;have hnb28:=NB317_305.out;have hnc28:=NB305_317.out;have hnb29:=NB317_306.out;have hnc29:=NB306_317.out;have hcz30_0 : w27.cell? ⟨gb317,0,none⟩ = some (.string (⟨#[]⟩ : ByteArray)):=(zm6_ BK317.out 0).trans rfl;have hcz30_1 : w27.cell? ⟨gb317,1,none⟩ = some (.string (⟨#[]⟩ : ByteArray)):=(zm6_ BK317.out 1).trans rfl;have hfz30_0:=zm7_ BK317.out 0;have hfz30_1:=zm7_ BK317.out 1;have hnb31:=NB306_305.out;have hnc31:=NB305_306.out;have hcz32_0 : w27.cell? ⟨gb306,0,none⟩ = some (.string a1_0):=(zm6_ BK306.out 0).trans rfl;have hcz32_1 : w27.cell? ⟨gb306,1,none⟩ = some (.string a1_1):=(zm6_ BK306.out 1).trans rfl;have hfz32_0:=zm7_ BK306.out 0;have hfz32_1:=zm7_ BK306.out 1))
         go_roundg k1
         case measure => have:=HK1.out;omega
         case rel => exact ⟨(wrap64 (x15_1 + 1)),(wrap64 (x15_1 + 1)),zz,zz,H',⟨by have:=HK1.out;omega⟩,⟨by (with_reducible repeat (first|apply k1_|apply k2_|apply k3_));exact zo2_ (k4_ (p:=⟨gb317,1,none⟩) (k4_ (p:=⟨gb317,0,none⟩) (zo2_ HO_13.out (fun k_ hk => (⟨hk,(by first|exact hk.2|(have hq_:=hk;simp only [ne_eq] at hq_ ⊢;simp only [hq_,not_false_eq_true,and_self]))⟩ : _ ∧ k_ ≠ gb317))) (fun _ hk => hk.2) (.string ((rd_T36 t313 x15_1).f0))) (fun _ hk => hk.2) (.string ((rd_T36 t313 x15_1).f1))) (fun _ hk => ⟨hk.1.1.1,(by first|exact hk.1.1.2|(have hq_:=hk;simp only [ne_eq] at hq_ ⊢;simp only [hq_,not_false_eq_true,and_self]))⟩)⟩,⟨by (with_reducible repeat (first|apply zn5_|apply zn6_|apply zn7_));exact Kd.V_mono (Kd.V_far (p:=⟨gb317,1,none⟩) (Kd.V_far (p:=⟨gb317,0,none⟩) (Kd.V_mono HO_306001.out (fun k_ hk => (⟨hk,(by first|exact hk.2|(have hq_:=hk;simp only [ne_eq] at hq_ ⊢;simp only [hq_,not_false_eq_true,and_self]))⟩ : _ ∧ k_ ≠ gb317))) (fun _ hk => hk.2) (.string ((rd_T36 t313 x15_1).f0))) (fun _ hk => hk.2) (.string ((rd_T36 t313 x15_1).f1))) (fun _ hk => ⟨hk.1.1.1,⟨(by first|exact hk.1.1.2.1|(have hq_:=hk;simp only [ne_eq] at hq_ ⊢;simp only [hq_,not_false_eq_true,and_self])),⟨(by first|exact hk.1.1.2.2.1|(have hq_:=hk;simp only [ne_eq] at hq_ ⊢;simp only [hq_,not_false_eq_true,and_self])),(by first|exact hk.1.1.2.2.2|(have hq_:=hk;simp only [ne_eq] at hq_ ⊢;simp only [hq_,not_false_eq_true,and_self]))⟩⟩⟩)⟩,⟨by (with_reducible repeat (first|refine k6_ ?_ _|refine k7_ ?_|refine k5_ ?_ _));refine blk_far ?_ NB305_317.out _;(with_reducible repeat (first|refine k6_ ?_ _|refine k7_ ?_|refine k5_ ?_ _));refine blk_far ?_ NB305_317.out _;(with_reducible repeat (first|refine k6_ ?_ _|refine k7_ ?_|refine k5_ ?_ _));exact BK305.out⟩,⟨by (with_reducible repeat (first|refine k6_ ?_ _|refine k7_ ?_|refine k5_ ?_ _));refine blk_far ?_ NB306_317.out _;(with_reducible repeat (first|refine k6_ ?_ _|refine k7_ ?_|refine k5_ ?_ _));refine blk_far ?_ NB306_317.out _;(with_reducible repeat (first|refine k6_ ?_ _|refine k7_ ?_|refine k5_ ?_ _));exact BK306.out⟩,⟨zl3 HB GE305 GE306 GE317⟩⟩
        ·
         rw [if_neg c26] at H
         have c26b0 : (((rd_T36 t313 x15_1).f0).toList == a1_0.toList) = false:=beq_eq_false_iff_ne.mpr c26
         have c26b1 : (((rd_T36 t313 x15_1).f0).toList != a1_0.toList) = true:=bne_iff_ne.mpr c26
         have H':=zm0_ H
         clear H
         have p316 : 0 ≤ (x15_1 : Int):=of_decide_eq_true (by first|(with_reducible assumption)|assumption)
         have q316 : x15_1 < (t313.length : Int):=of_decide_eq_true (by first|(with_reducible assumption)|assumption)
         obtain ⟨ad316,e316,hx316_0,hx316_1⟩:=at_T36 (Kd.R_reads' HO_13.out).2.2 x15_1 p316 q316
         cases e316
         replace p316:=eq_true p316
         replace q316:=eq_true q316
         go_wp2_with (first|((with_reducible refine gate_dst (N:=8) rfl ?_);refine box_event ?hg (N:=8) ?hd (cs:=#[.string (⟨#[]⟩ : ByteArray),.string (⟨#[]⟩ : ByteArray)]) (t:=36) ?hr ?_;(case hd => rfl);(case hg => rfl);(case hr => first|(go_simp;done)|(go_simp;rfl));intro gb317 hg w33 hbox hb;replace HO_13:=zm0_ (zm8_ (Kd.R_elderB (zr HO_13) gb317 (Nat.le_of_eq hg.symm)) hb);replace HO_306001:=zm0_ (zm9_ (Kd.V_elderB (by (with_reducible repeat (first|apply zn5_|apply zn6_|apply zn7_));exact HO_306001.out) gb317 (Nat.le_of_eq hg.symm)) hb);have BK317:=zm0_ (hbox);have GW317:=zm0_ ((by rw [hg];exact (zn9_ (zl2 HB GE305 GE306)) : w.heap.size ≤ gb317));have GE317:=zm0_ ((by rw [hg];exact (zn9_ (zl2 HB GE305 GE306)) : w.heap.size ≤ gb317));replace HB:=zm0_ (zn8_ (zl2 HB GE305 GE306) hb);have NB305_317:=zm0_ ((by rw [hg];exact Nat.ne_of_lt (zo3_ (g:=gb305) (o:=.cells #[.int .i64 a0_0,.slice A0_1 l0_1.length c0_1] 32 (0,0)) (zb BK305)) : gb305 ≠ gb317));have NB317_305:=zm0_ ((by rw [hg];exact Nat.ne_of_gt (zo3_ (g:=gb305) (o:=.cells #[.int .i64 a0_0,.slice A0_1 l0_1.length c0_1] 32 (0,0)) (zb BK305)) : gb317 ≠ gb305));replace BK305:=zm0_ (zm5_ (zb BK305) hb);have NB306_317:=zm0_ ((by rw [hg];exact Nat.ne_of_lt (zo3_ (g:=gb306) (o:=.cells #[.string a1_0,.string a1_1] 36 (0,0)) (zb BK306)) : gb306 ≠ gb317));have NB317_306:=zm0_ ((by rw [hg];exact Nat.ne_of_gt (zo3_ (g:=gb306) (o:=.cells #[.string a1_0,.string a1_1] 36 (0,0)) (zb BK306)) : gb317 ≠ gb306));replace BK306:=zm0_ (zm5_ (zb BK306) hb);clear hb hbox hg;have hnb34:=NB317_305.out;have hnc34:=NB305_317.out;have hnb35:=NB317_306.out;have hnc35:=NB306_317.out;have hcz36_0 : w33.cell? ⟨gb317,0,none⟩ = some (.string (⟨#[]⟩ : ByteArray)):=(zm6_ BK317.out 0).trans rfl;have hcz36_1 : w33.cell? ⟨gb317,1,none⟩ = some (.string (⟨#[]⟩ : ByteArray)):=(zm6_ BK317.out 1).trans rfl;have hfz36_0:=zm7_ BK317.out 0;have hfz36_1:=zm7_ BK317.out 1;have hnb37:=NB306_305.out;have hnc37:=NB305_306.out;have hcz38_0 : w33.cell? ⟨gb306,0,none⟩ = some (.string a1_0):=(zm6_ BK306.out 0).trans rfl;have hcz38_1 : w33.cell? ⟨gb306,1,none⟩ = some (.string a1_1):=(zm6_ BK306.out 1).trans rfl;have hfz38_0:=zm7_ BK306.out 0;have hfz38_1:=zm7_ BK306.out 1))
         go_roundg k1
         case measure => have:=HK1.out;omega
         case rel => exact ⟨(x6_1),(wrap64 (x15_1 + 1)),zz,zz,H',⟨by have:=HK1.out;omega⟩,⟨by (with_reducible repeat (first|apply k1_|apply k2_|apply k3_));exact zo2_ (k4_ (p:=⟨gb317,1,none⟩) (k4_ (p:=⟨gb317,0,none⟩) (zo2_ HO_13.out (fun k_ hk => (⟨hk,(by first|exact hk.2|(have hq_:=hk;simp only [ne_eq] at hq_ ⊢;simp only [hq_,not_false_eq_true,and_self]))⟩ : _ ∧ k_ ≠ gb317))) (fun _ hk => hk.2) (.string ((rd_T36 t313 x15_1).f0))) (fun _ hk => hk.2) (.string ((rd_T36 t313 x15_1).f1))) (fun _ hk => ⟨hk.1.1.1,(by first|exact hk.1.1.2|(have hq_:=hk;simp only [ne_eq] at hq_ ⊢;simp only [hq_,not_false_eq_true,and_self]))⟩)⟩,⟨by (with_reducible repeat (first|apply zn5_|apply zn6_|apply zn7_));exact Kd.V_mono (Kd.V_far (p:=⟨gb317,1,none⟩) (Kd.V_far (p:=⟨gb317,0,none⟩) (Kd.V_mono HO_306001.out (fun k_ hk => (⟨hk,(by first|exact hk.2|(have hq_:=hk;simp only [ne_eq] at hq_ ⊢;simp only [hq_,not_false_eq_true,and_self]))⟩ : _ ∧ k_ ≠ gb317))) (fun _ hk => hk.2) (.string ((rd_T36 t313 x15_1).f0))) (fun _ hk => hk.2) (.string ((rd_T36 t313 x15_1).f1))) (fun _ hk => ⟨hk.1.1.1,⟨(by first|exact hk.1.1.2.1|(have hq_:=hk;simp only [ne_eq] at hq_ ⊢;simp only [hq_,not_false_eq_true,and_self])),⟨(by first|exact hk.1.1.2.2.1|(have hq_:=hk;simp only [ne_eq] at hq_ ⊢;simp only [hq_,not_false_eq_true,and_self])),(by first|exact hk.1.1.2.2.2|(have hq_:=hk;simp only [ne_eq] at hq_ ⊢;simp only [hq_,not_false_eq_true,and_self]))⟩⟩⟩)⟩,⟨by (with_reducible repeat (first|refine k6_ ?_ _|refine k7_ ?_|refine k5_ ?_ _));refine blk_far ?_ NB305_317.out _;(with_reducible repeat (first|refine k6_ ?_ _|refine k7_ ?_|refine k5_ ?_ _));refine blk_far ?_ NB305_317.out _;(with_reducible repeat (first|refine k6_ ?_ _|refine k7_ ?_|refine k5_ ?_ _));exact BK305.out⟩,⟨by (with_reducible repeat (first|refine k6_ ?_ _|refine k7_ ?_|refine k5_ ?_ _));refine blk_far ?_ NB306_317.out _;(with_reducible repeat (first|refine k6_ ?_ _|refine k7_ ?_|refine k5_ ?_ _));refine blk_far ?_ NB306_317.out _;(with_reducible repeat (first|refine k6_ ?_ _|refine k7_ ?_|refine k5_ ?_ _));exact BK306.out⟩,⟨zl3 HB GE305 GE306 GE317⟩⟩
       ·
        rw [if_neg c25] at H
        have c25b0 : (x6_1 == 0) = false:=beq_eq_false_iff_ne.mpr c25
        have c25b1 : (x6_1 != 0) = true:=bne_iff_ne.mpr c25
        have H':=zm0_ H
        clear H
        have p316 : 0 ≤ (x15_1 : Int):=of_decide_eq_true (by first|(with_reducible assumption)|assumption)
        have q316 : x15_1 < (t313.length : Int):=of_decide_eq_true (by first|(with_reducible assumption)|assumption)
        obtain ⟨ad316,e316,hx316_0,hx316_1⟩:=at_T36 (Kd.R_reads' HO_13.out).2.2 x15_1 p316 q316
        cases e316
        replace p316:=eq_true p316
        replace q316:=eq_true q316
        go_wp2_with (first|((with_reducible refine gate_dst (N:=8) rfl ?_);refine box_event ?hg (N:=8) ?hd (cs:=#[.string (⟨#[]⟩ : ByteArray),.string (⟨#[]⟩ : ByteArray)]) (t:=36) ?hr ?_;(case hd => rfl);(case hg => rfl);(case hr => first|(go_simp;done)|(go_simp;rfl));intro gb317 hg w39 hbox hb;replace HO_13:=zm0_ (zm8_ (Kd.R_elderB (zr HO_13) gb317 (Nat.le_of_eq hg.symm)) hb);replace HO_306001:=zm0_ (zm9_ (Kd.V_elderB (by (with_reducible repeat (first|apply zn5_|apply zn6_|apply zn7_));exact HO_306001.out) gb317 (Nat.le_of_eq hg.symm)) hb);have BK317:=zm0_ (hbox);have GW317:=zm0_ ((by rw [hg];exact (zn9_ (zl2 HB GE305 GE306)) : w.heap.size ≤ gb317));have GE317:=zm0_ ((by rw [hg];exact (zn9_ (zl2 HB GE305 GE306)) : w.heap.size ≤ gb317));replace HB:=zm0_ (zn8_ (zl2 HB GE305 GE306) hb);have NB305_317:=zm0_ ((by rw [hg];exact Nat.ne_of_lt (zo3_ (g:=gb305) (o:=.cells #[.int .i64 a0_0,.slice A0_1 l0_1.length c0_1] 32 (0,0)) (zb BK305)) : gb305 ≠ gb317));have NB317_305:=zm0_ ((by rw [hg];exact Nat.ne_of_gt (zo3_ (g:=gb305) (o:=.cells #[.int .i64 a0_0,.slice A0_1 l0_1.length c0_1] 32 (0,0)) (zb BK305)) : gb317 ≠ gb305));replace BK305:=zm0_ (zm5_ (zb BK305) hb);have NB306_317:=zm0_ ((by rw [hg];exact Nat.ne_of_lt (zo3_ (g:=gb306) (o:=.cells #[.string a1_0,.string a1_1] 36 (0,0)) (zb BK306)) : gb306 ≠ gb317));have NB317_306:=zm0_ ((by rw [hg];exact Nat.ne_of_gt (zo3_ (g:=gb306) (o:=.cells #[.string a1_0,.string a1_1] 36 (0,0)) (zb BK306)) : gb317 ≠ gb306));replace BK306:=zm0_ (zm5_ (zb BK306) hb);clear hb hbox hg;have hnb40:=NB317_305.out;have hnc40:=NB305_317.out;have hnb41:=NB317_306.out;have hnc41:=NB306_317.out;have hcz42_0 : w39.cell? ⟨gb317,0,none⟩ = some (.string (⟨#[]⟩ : ByteArray)):=(zm6_ BK317.out 0).trans rfl;have hcz42_1 : w39.cell? ⟨gb317,1,none⟩ = some (.string (⟨#[]⟩ : ByteArray)):=(zm6_ BK317.out 1).trans rfl;have hfz42_0:=zm7_ BK317.out 0;have hfz42_1:=zm7_ BK317.out 1;have hnb43:=NB306_305.out;have hnc43:=NB305_306.out;have hcz44_0 : w39.cell? ⟨gb306,0,none⟩ = some (.string a1_0):=(zm6_ BK306.out 0).trans rfl;have hcz44_1 : w39.cell? ⟨gb306,1,none⟩ = some (.string a1_1):=(zm6_ BK306.out 1).trans rfl;have hfz44_0:=zm7_ BK306.out 0;have hfz44_1:=zm7_ BK306.out 1))
        go_roundg k1
        case measure => have:=HK1.out;omega
        case rel => exact ⟨(x6_1),(wrap64 (x15_1 + 1)),zz,zz,H',⟨by have:=HK1.out;omega⟩,⟨by (with_reducible repeat (first|apply k1_|apply k2_|apply k3_));exact zo2_ (k4_ (p:=⟨gb317,1,none⟩) (k4_ (p:=⟨gb317,0,none⟩) (zo2_ HO_13.out (fun k_ hk => (⟨hk,(by first|exact hk.2|(have hq_:=hk;simp only [ne_eq] at hq_ ⊢;simp only [hq_,not_false_eq_true,and_self]))⟩ : _ ∧ k_ ≠ gb317))) (fun _ hk => hk.2) (.string ((rd_T36 t313 x15_1).f0))) (fun _ hk => hk.2) (.string ((rd_T36 t313 x15_1).f1))) (fun _ hk => ⟨hk.1.1.1,(by first|exact hk.1.1.2|(have hq_:=hk;simp only [ne_eq] at hq_ ⊢;simp only [hq_,not_false_eq_true,and_self]))⟩)⟩,⟨by (with_reducible repeat (first|apply zn5_|apply zn6_|apply zn7_));exact Kd.V_mono (Kd.V_far (p:=⟨gb317,1,none⟩) (Kd.V_far (p:=⟨gb317,0,none⟩) (Kd.V_mono HO_306001.out (fun k_ hk => (⟨hk,(by first|exact hk.2|(have hq_:=hk;simp only [ne_eq] at hq_ ⊢;simp only [hq_,not_false_eq_true,and_self]))⟩ : _ ∧ k_ ≠ gb317))) (fun _ hk => hk.2) (.string ((rd_T36 t313 x15_1).f0))) (fun _ hk => hk.2) (.string ((rd_T36 t313 x15_1).f1))) (fun _ hk => ⟨hk.1.1.1,⟨(by first|exact hk.1.1.2.1|(have hq_:=hk;simp only [ne_eq] at hq_ ⊢;simp only [hq_,not_false_eq_true,and_self])),⟨(by first|exact hk.1.1.2.2.1|(have hq_:=hk;simp only [ne_eq] at hq_ ⊢;simp only [hq_,not_false_eq_true,and_self])),(by first|exact hk.1.1.2.2.2|(have hq_:=hk;simp only [ne_eq] at hq_ ⊢;simp only [hq_,not_false_eq_true,and_self]))⟩⟩⟩)⟩,⟨by (with_reducible repeat (first|refine k6_ ?_ _|refine k7_ ?_|refine k5_ ?_ _));refine blk_far ?_ NB305_317.out _;(with_reducible repeat (first|refine k6_ ?_ _|refine k7_ ?_|refine k5_ ?_ _));refine blk_far ?_ NB305_317.out _;(with_reducible repeat (first|refine k6_ ?_ _|refine k7_ ?_|refine k5_ ?_ _));exact BK305.out⟩,⟨by (with_reducible repeat (first|refine k6_ ?_ _|refine k7_ ?_|refine k5_ ?_ _));refine blk_far ?_ NB306_317.out _;(with_reducible repeat (first|refine k6_ ?_ _|refine k7_ ?_|refine k5_ ?_ _));refine blk_far ?_ NB306_317.out _;(with_reducible repeat (first|refine k6_ ?_ _|refine k7_ ?_|refine k5_ ?_ _));exact BK306.out⟩,⟨zl3 HB GE305 GE306 GE317⟩⟩
     ·
      rw [if_neg c17] at H
      exact absurd H (by simp)
    ·
     rw [if_neg c16] at H
     exact absurd H (by simp)
   ·
    rw [if_neg c15] at H
    have c15b0 : decide (x15_1 < (t313.length : Int)) = false:=decide_eq_false c15
    clear c15
    simp only [Option.some.injEq,Prod.mk.injEq] at H
    obtain ⟨rfl,rfl⟩:=H
    go_wp2
    go_ret2
    exact ⟨ze,by repeat (first|(with_reducible first|exact HB.out|apply zm3_|apply zm2_|apply zm4_|refine zm1_ ?_ GE305.out|refine zm1_ ?_ GE306.out)|exact HB.out)⟩
end Go.Proofs.YthflimnpiglgbaaGreatDoor.A
end
section
namespace Go.Proofs.YthflimnpiglgbaaGreatDoor.A
open Go.RowKit Go.Proofs.YthflimnpiglgbaaGreatDoorW.PrintWords Go.Proofs.YthflimnpiglgbaaGreatDoorW.PrintLast Go.Proofs.YthflimnpiglgbaaGreatDoorW.PrintMore
attribute [local go_sem] max2_int min2_int max_two min_two max_three min_three max_four min_four   -- for this text's walks alone
set_option linter.unusedVariables false
set_option linter.unusedSimpArgs false

def impl_putPrefix.l0 : Nat → List Int → Int → Option (List Int)
 | 0,_,_ => none
 | k + 1,x0,x3 => if x3 > 127 then (if x0.length < 140737488355328 then (impl_putPrefix.l0 k (x0 ++ [(Go.bits .or .i64 128 (Go.bits .and .i64 x3 127)) % 256]) (x3 / 128)) else (none)) else (if x0.length < 140737488355328 then (some (x0 ++ [(x3) % 256])) else (none))
def impl_putPrefix.f (k : Nat) (l0 : List Int) (a1 : Int) (a2 : Int) (a3 : Int) : Option (List Int):=if 0 ≤ (IntKind.u64.wrap (a1)) then (if (mx 0 (mn a3 16777216)) < (wrap64 ((shl .i64 1 (IntKind.u64.wrap (a1))) - 1)) then (if l0.length < 140737488355328 then (some (l0 ++ [(Go.bits .or .i64 (Go.bits .and .i64 a2 (Go.bits .andNot .i64 255 (wrap64 ((shl .i64 1 (IntKind.u64.wrap (a1))) - 1)))) (mx 0 (mn a3 16777216))) % 256])) else (none)) else (if l0.length < 140737488355328 then (impl_putPrefix.l0 k (l0 ++ [(Go.bits .or .i64 (Go.bits .and .i64 a2 (Go.bits .andNot .i64 255 (wrap64 ((shl .i64 1 (IntKind.u64.wrap (a1))) - 1)))) (wrap64 ((shl .i64 1 (IntKind.u64.wrap (a1))) - 1))) % 256]) (wrap64 ((mx 0 (mn a3 16777216)) - (wrap64 ((shl .i64 1 (IntKind.u64.wrap (a1))) - 1))))) else (none))) else (none)
theorem impl_putPrefix.mono_l : ∀ k,(∀ y0 y1,LeO (impl_putPrefix.l0 k y0 y1) (impl_putPrefix.l0 (k + 1) y0 y1))
 | 0 => fun _ _ r h => by simp [impl_putPrefix.l0] at h
 | k + 1 => by
  have ih0:=impl_putPrefix.mono_l k
  ·
   intro y0 y1
   unfold impl_putPrefix.l0
   repeat' first
   | (with_reducible exact ih0 _ _)
   | (with_reducible exact LeO.refl _)
   | (with_reducible exact LeO.none _)
   | (with_reducible refine LeO.ite ?_ ?_)
   | (with_reducible refine LeO.bind ?_ (fun _ => ?_))
   | exact ih0 _ _
   | exact LeO.none _
   | refine LeO.ite ?_ ?_
   | refine LeO.bind ?_ (fun _ => ?_)
theorem impl_putPrefix.mono : ∀ a0 a1 a2 a3 k,LeO (impl_putPrefix.f k a0 a1 a2 a3) (impl_putPrefix.f (k + 1) a0 a1 a2 a3):=by
 intro a0 a1 a2 a3 k
 have ih0:=impl_putPrefix.mono_l k
 unfold impl_putPrefix.f
 repeat' first
  | (with_reducible exact ih0 _ _)
  | (with_reducible exact LeO.refl _)
  | (with_reducible exact LeO.none _)
  | (with_reducible refine LeO.ite ?_ ?_)
  | (with_reducible refine LeO.bind ?_ (fun _ => ?_))
  | exact ih0 _ _
  | exact LeO.none _
  | refine LeO.ite ?_ ?_
  | refine LeO.bind ?_ (fun _ => ?_)
set_option maxHeartbeats 8000000 in
set_option maxRecDepth 100000 in
theorem impl_putPrefix.calls (k : Nat) (P0_ : Nat → Prop) (u9000_ : Value) (l0 : List Int) (a1 : Int) (a2 : Int) (a3 : Int) (r : List Int) (w0 w : World) (hB : Below w0.heap.size w0 w) (ho0 : Kd.R (Kd.int .u8) 5 w w0.heap.size P0_ u9000_ l0) (h : impl_putPrefix.f k l0 a1 a2 a3 = some r) :
 Calls Tryz.prog 45 #[u9000_,.int .i64 a1,.int .i64 a2,.int .i64 a3] w fun e w' => ∃ v0_ : Value,e = .returned (v0_) ∧ Kd.R (Kd.int .u8) 5 w' w0.heap.size (fun k_ => (P0_ k_ ∨ w.heap.size ≤ k_)) v0_ r ∧ Below w0.heap.size w0 w' ∧ Kept w w' (fun k_ => P0_ k_):=by
 have HO0:=zm0_ (show Kd.R (Kd.int .u8) 5 w w0.heap.size (fun k_ => (P0_ k_ ∨ w.heap.size ≤ k_)) u9000_ l0 from zo2_ ho0 (fun k_ hk => (.inl hk)))
 have HK:=zm0_ (Kept.refl w (fun k_ => P0_ k_))
 have HW0:=zm0_ hB.size
 have HB:=zm0_ hB
 clear hB
 have H : (if 0 ≤ (IntKind.u64.wrap (a1)) then (if (mx 0 (mn a3 16777216)) < (wrap64 ((shl .i64 1 (IntKind.u64.wrap (a1))) - 1)) then (if l0.length < 140737488355328 then (some (l0 ++ [(Go.bits .or .i64 (Go.bits .and .i64 a2 (Go.bits .andNot .i64 255 (wrap64 ((shl .i64 1 (IntKind.u64.wrap (a1))) - 1)))) (mx 0 (mn a3 16777216))) % 256])) else (none)) else (if l0.length < 140737488355328 then (impl_putPrefix.l0 k (l0 ++ [(Go.bits .or .i64 (Go.bits .and .i64 a2 (Go.bits .andNot .i64 255 (wrap64 ((shl .i64 1 (IntKind.u64.wrap (a1))) - 1)))) (wrap64 ((shl .i64 1 (IntKind.u64.wrap (a1))) - 1))) % 256]) (wrap64 ((mx 0 (mn a3 16777216)) - (wrap64 ((shl .i64 1 (IntKind.u64.wrap (a1))) - 1))))) else (none))) else (none)) = some r:=h
 clear h
 obtain ⟨ji5,hji5⟩ : ∃ j_ : Int,(mn a3 16777216) = j_:=⟨_,rfl⟩
 replace H : (if 0 ≤ (IntKind.u64.wrap (a1)) then (if (mx 0 (ji5)) < (wrap64 ((shl .i64 1 (IntKind.u64.wrap (a1))) - 1)) then (if l0.length < 140737488355328 then (some (l0 ++ [(Go.bits .or .i64 (Go.bits .and .i64 a2 (Go.bits .andNot .i64 255 (wrap64 ((shl .i64 1 (IntKind.u64.wrap (a1))) - 1)))) (mx 0 (ji5))) % 256])) else (none)) else (if l0.length < 140737488355328 then (impl_putPrefix.l0 k (l0 ++ [(Go.bits .or .i64 (Go.bits .and .i64 a2 (Go.bits .andNot .i64 255 (wrap64 ((shl .i64 1 (IntKind.u64.wrap (a1))) - 1)))) (wrap64 ((shl .i64 1 (IntKind.u64.wrap (a1))) - 1))) % 256]) (wrap64 ((mx 0 (ji5)) - (wrap64 ((shl .i64 1 (IntKind.u64.wrap (a1))) - 1))))) else (none))) else (none)) = some r:=by first|(rw [hji5] at H;exact H)|(simp only [hji5] at H ⊢;exact H)
 (try (have hji5h : ji5 ≤ 16777216:=by (rw [← hji5];unfold mn;(repeat' split) <;> omega)))
 (try (have hji5g : ji5 ≤ 64:=by omega))
 have hji5_ : (if 16777216 < a3 then 16777216 else a3) = ji5:=hji5
 obtain ⟨ji6,hji6⟩ : ∃ j_ : Int,(mx 0 (ji5)) = j_:=⟨_,rfl⟩
 replace H : (if 0 ≤ (IntKind.u64.wrap (a1)) then (if (ji6) < (wrap64 ((shl .i64 1 (IntKind.u64.wrap (a1))) - 1)) then (if l0.length < 140737488355328 then (some (l0 ++ [(Go.bits .or .i64 (Go.bits .and .i64 a2 (Go.bits .andNot .i64 255 (wrap64 ((shl .i64 1 (IntKind.u64.wrap (a1))) - 1)))) (ji6)) % 256])) else (none)) else (if l0.length < 140737488355328 then (impl_putPrefix.l0 k (l0 ++ [(Go.bits .or .i64 (Go.bits .and .i64 a2 (Go.bits .andNot .i64 255 (wrap64 ((shl .i64 1 (IntKind.u64.wrap (a1))) - 1)))) (wrap64 ((shl .i64 1 (IntKind.u64.wrap (a1))) - 1))) % 256]) (wrap64 ((ji6) - (wrap64 ((shl .i64 1 (IntKind.u64.wrap (a1))) - 1))))) else (none))) else (none)) = some r:=by first|(rw [hji6] at H;exact H)|(simp only [hji6] at H ⊢;exact H)
 have hji6_ : (if 0 < (ji5) then (ji5) else 0) = ji6:=hji6
 obtain ⟨ji7,hji7⟩ : ∃ j_ : Int,(IntKind.u64.wrap (a1)) = j_:=⟨_,rfl⟩
 replace H : (if 0 ≤ (ji7) then (if (ji6) < (wrap64 ((shl .i64 1 (ji7)) - 1)) then (if l0.length < 140737488355328 then (some (l0 ++ [(Go.bits .or .i64 (Go.bits .and .i64 a2 (Go.bits .andNot .i64 255 (wrap64 ((shl .i64 1 (ji7)) - 1)))) (ji6)) % 256])) else (none)) else (if l0.length < 140737488355328 then (impl_putPrefix.l0 k (l0 ++ [(Go.bits .or .i64 (Go.bits .and .i64 a2 (Go.bits .andNot .i64 255 (wrap64 ((shl .i64 1 (ji7)) - 1)))) (wrap64 ((shl .i64 1 (ji7)) - 1))) % 256]) (wrap64 ((ji6) - (wrap64 ((shl .i64 1 (ji7)) - 1))))) else (none))) else (none)) = some r:=by first|(rw [hji7] at H;exact H)|(simp only [hji7] at H ⊢;exact H)
 by_cases c8 : 0 ≤ (ji7)
 ·
  rw [if_pos c8] at H
  have c8b0:=eq_true c8
  have c8b1 : decide (0 ≤ (ji7)) = true:=decide_eq_true c8
  clear c8
  obtain ⟨ji9,hji9⟩ : ∃ j_ : Int,(shl .i64 1 (ji7)) = j_:=⟨_,rfl⟩
  replace H : (if (ji6) < (wrap64 ((ji9) - 1)) then (if l0.length < 140737488355328 then (some (l0 ++ [(Go.bits .or .i64 (Go.bits .and .i64 a2 (Go.bits .andNot .i64 255 (wrap64 ((ji9) - 1)))) (ji6)) % 256])) else (none)) else (if l0.length < 140737488355328 then (impl_putPrefix.l0 k (l0 ++ [(Go.bits .or .i64 (Go.bits .and .i64 a2 (Go.bits .andNot .i64 255 (wrap64 ((ji9) - 1)))) (wrap64 ((ji9) - 1))) % 256]) (wrap64 ((ji6) - (wrap64 ((ji9) - 1))))) else (none))) = some r:=by first|(rw [hji9] at H;exact H)|(simp only [hji9] at H ⊢;exact H)
  have hji9_ : (IntKind.i64.wrap (1 * 2 ^ min (ji7).toNat 64)) = ji9:=hji9
  have hji9z : (ji7) ≤ 64 → (IntKind.i64.wrap (1 * 2 ^ (ji7).toNat)) = ji9:=shl_small hji9
  have hji9u : (IntKind.i64.wrap (2 ^ min (ji7).toNat 64)) = ji9:=by have h_:=hji9_;rw [Int.one_mul] at h_;exact h_
  have hji9v : (ji7) ≤ 64 → (IntKind.i64.wrap (2 ^ (ji7).toNat)) = ji9:=fun hle_ => by have h_:=hji9z hle_;rw [Int.one_mul] at h_;exact h_
  have hji9y : (wrap64 (1 * 2 ^ min (ji7).toNat 64)) = ji9:=(i64_w _).symm.trans hji9_
  have hji9x : (ji7) ≤ 64 → (wrap64 (1 * 2 ^ (ji7).toNat)) = ji9:=fun h_ => (i64_w _).symm.trans (hji9z h_)
  by_cases c10 : (ji6) < (wrap64 ((ji9) - 1))
  ·
   rw [if_pos c10] at H
   have c10b0 : decide ((ji6) < (wrap64 ((ji9) - 1))) = true:=decide_eq_true c10
   clear c10
   by_cases c11 : l0.length < 140737488355328
   ·
    rw [if_pos c11] at H
    have LMc11:=zm0_ c11
    clear c11
    obtain ⟨y318,hy318⟩ : ∃ y_ : List Int,y_ = (l0 ++ [(Go.bits .or .i64 (Go.bits .and .i64 a2 (Go.bits .andNot .i64 255 (wrap64 ((ji9) - 1)))) (ji6)) % 256]):=⟨_,rfl⟩
    replace H : (some y318) = some r:=by first|(rw [hy318];with_reducible exact H)|(have H2_:=(Option.bind_some _ _).symm.trans H;rw [hy318];with_reducible exact H2_)|(have H2_:=(Option.bind_some _ _).symm.trans H;with_reducible exact H2_)|with_reducible exact H|(rw [hy318];exact H)|exact H
    have Ny318:=zm0_ hy318
    clear hy318
    obtain rfl:=Option.some.inj H
    go_enter Tryz.func45,Tryz.ntmps45
    go_wp2_with (first|((with_reducible refine gate_builtin (b:=.append) (xs:=#[.tmp 24,.tmp 29]) rfl ?_);at_builtin;refine Kd.R_append (Kd.int .u8) (w0:=w0) w0.heap.size rfl (.tmp 24) (.tmp 29) 29 5 (.int .u8 0) 1 rfl Tryz.underlying29 info5 rfl (by decide) (by omega) u9000_ l0 ((Go.bits .or .i64 (Go.bits .and .i64 a2 (Go.bits .andNot .i64 255 (wrap64 ((ji9) - 1)))) (ji6)) % 256) [.int .u8 ((Go.bits .or .i64 (Go.bits .and .i64 a2 (Go.bits .andNot .i64 255 (wrap64 ((ji9) - 1)))) (ji6)) % 256)] (fun k_ => (P0_ k_ ∨ w.heap.size ≤ k_)) (fun _ => False) rfl rfl ?aP (fun _ hk => hk.elim) ?aF ?aO ?aB ?aS ?aL ?_;(case aP => exact rfl);(case aB => exact (zl HB));(case aF => exact (fun k_ hk => (.inr (Nat.le_trans (by first|exact HK.out.1|exact (show Kept w _ (fun k_ => P0_ k_) from by repeat (first|(with_reducible first|exact HK.out|apply Kept.alloc|apply Kept.drewN|apply Kept.drew)|exact HK.out)).1) hk))));(case aO => exact (zr HO0));(case aS => exact (zn9_ (zl HB)));(case aL => have:=LMc11.out;omega);intro v319 w12 ho hb hg hat;(first|(with_reducible rw [← Ny318.out] at ho)|(simp only [Int.reduceToNat] at ho;with_reducible rw [← Ny318.out] at ho)|rw [← Ny318.out] at ho);replace HB:=zm0_ (hb);replace HK:=zm0_ (Kept.of_grown (S:=(fun k_ => P0_ k_)) hg (by repeat (first|(with_reducible first|exact HK.out|apply Kept.alloc|apply Kept.drewN|apply Kept.drew)|exact HK.out)) (fun k_ e_ => (HO0.out.1 k_ e_)));have HO320:=zm0_ (ho);clear HO0;clear ho hb hg hat))
    go_ret
    exact ⟨_,by first|rfl|(simp [errW_none,errW_some] <;> rfl)|(simp only [← hji5,← hji6,← hji7,← hji9];first|rfl|(simp [errW_none,errW_some] <;> rfl))|(simp [*,errW_none,errW_some] <;> rfl),by (with_reducible repeat (first|apply k1_|apply k2_|apply k3_));exact HO320.out,by repeat (first|(with_reducible first|exact HB.out|apply zm3_|apply zm2_|apply zm4_)|exact HB.out),by repeat (first|(with_reducible first|exact HK.out|apply Kept.alloc|apply Kept.drewN|apply Kept.drew)|exact HK.out)⟩
   ·
    rw [if_neg c11] at H
    exact absurd H (by simp)
  ·
   rw [if_neg c10] at H
   have c10b0 : decide ((ji6) < (wrap64 ((ji9) - 1))) = false:=decide_eq_false c10
   clear c10
   by_cases c13 : l0.length < 140737488355328
   ·
    rw [if_pos c13] at H
    have LMc13:=zm0_ c13
    clear c13
    obtain ⟨y321,hy321⟩ : ∃ y_ : List Int,y_ = (l0 ++ [(Go.bits .or .i64 (Go.bits .and .i64 a2 (Go.bits .andNot .i64 255 (wrap64 ((ji9) - 1)))) (wrap64 ((ji9) - 1))) % 256]):=⟨_,rfl⟩
    replace H : (impl_putPrefix.l0 k y321 (wrap64 ((ji6) - (wrap64 ((ji9) - 1))))) = some r:=by first|(rw [hy321];with_reducible exact H)|(have H2_:=(Option.bind_some _ _).symm.trans H;rw [hy321];with_reducible exact H2_)|(have H2_:=(Option.bind_some _ _).symm.trans H;with_reducible exact H2_)|with_reducible exact H|(rw [hy321];exact H)|exact H
    have Ny321:=zm0_ hy321
    clear hy321
    have H':=zm0_ H
    clear H
    go_enter Tryz.func45,Tryz.ntmps45
    go_wp2_with (first|((with_reducible refine gate_builtin (b:=.append) (xs:=#[.tmp 31,.tmp 36]) rfl ?_);at_builtin;refine Kd.R_append (Kd.int .u8) (w0:=w0) w0.heap.size rfl (.tmp 31) (.tmp 36) 29 5 (.int .u8 0) 1 rfl Tryz.underlying29 info5 rfl (by decide) (by omega) u9000_ l0 ((Go.bits .or .i64 (Go.bits .and .i64 a2 (Go.bits .andNot .i64 255 (wrap64 ((ji9) - 1)))) (wrap64 ((ji9) - 1))) % 256) [.int .u8 ((Go.bits .or .i64 (Go.bits .and .i64 a2 (Go.bits .andNot .i64 255 (wrap64 ((ji9) - 1)))) (wrap64 ((ji9) - 1))) % 256)] (fun k_ => (P0_ k_ ∨ w.heap.size ≤ k_)) (fun _ => False) rfl rfl ?aP (fun _ hk => hk.elim) ?aF ?aO ?aB ?aS ?aL ?_;(case aP => exact rfl);(case aB => exact (zl HB));(case aF => exact (fun k_ hk => (.inr (Nat.le_trans (by first|exact HK.out.1|exact (show Kept w _ (fun k_ => P0_ k_) from by repeat (first|(with_reducible first|exact HK.out|apply Kept.alloc|apply Kept.drewN|apply Kept.drew)|exact HK.out)).1) hk))));(case aO => exact (zr HO0));(case aS => exact (zn9_ (zl HB)));(case aL => have:=LMc13.out;omega);intro v322 w14 ho hb hg hat;(first|(with_reducible rw [← Ny321.out] at ho)|(simp only [Int.reduceToNat] at ho;with_reducible rw [← Ny321.out] at ho)|rw [← Ny321.out] at ho);replace HB:=zm0_ (hb);replace HK:=zm0_ (Kept.of_grown (S:=(fun k_ => P0_ k_)) hg (by repeat (first|(with_reducible first|exact HK.out|apply Kept.alloc|apply Kept.drewN|apply Kept.drew)|exact HK.out)) (fun k_ e_ => (HO0.out.1 k_ e_)));have HO323:=zm0_ (ho);clear HO0;clear ho hb hg hat))
    go_loopg [0,3] k (fun kq v0 v3 w' => ∃ (x0_1 : List Int) (x3_1 : Int),v3 = .int .i64 x3_1 ∧ Aside0 (impl_putPrefix.l0 kq x0_1 x3_1 = some r) ∧ Aside0 (kq ≤ k) ∧ Aside0 (Kd.R (Kd.int .u8) 5 w' w0.heap.size (fun k_ => (P0_ k_ ∨ w.heap.size ≤ k_)) v0 x0_1) ∧ Aside0 (Kept w w' (fun k_ => P0_ k_)) ∧ Aside0 (Below w0.heap.size w0 w'))
    case atStart => exact ⟨(y321),(wrap64 ((ji6) - (wrap64 ((ji9) - 1)))),(by first|rfl|(simp;done)|(simp only [← hji6,← hji9] <;> (first|rfl|simp))|(simp [*];done)),H',⟨Nat.le_refl _⟩,⟨zr HO323⟩,⟨by repeat (first|(with_reducible first|exact HK.out|apply Kept.alloc|apply Kept.drewN|apply Kept.drew)|exact HK.out)⟩,⟨zl HB⟩⟩
    case round =>
     clear H'
     try clear c1
     try clear p2
     try clear c4
     try clear p6
     try clear c8
     try clear c8b0
     try clear c8b1
     try clear c10
     try clear c10b0
     try clear c11
     try clear c13
     obtain ⟨x0_1,x3_1,rfl,HA,HK1,HO_0,HK,HB⟩:=hrel
     cases gk with
     | zero => exact absurd HA.out (by simp [impl_putPrefix.l0])
     | succ k1 =>
      have H:=HA.out
      clear HA
      simp only [impl_putPrefix.l0] at H
      by_cases c15 : x3_1 > 127
      ·
       rw [if_pos c15] at H
       have c15b0 : decide (127 < x3_1) = true:=decide_eq_true c15
       clear c15
       by_cases c16 : x0_1.length < 140737488355328
       ·
        rw [if_pos c16] at H
        have LMc16:=zm0_ c16
        clear c16
        obtain ⟨y324,hy324⟩ : ∃ y_ : List Int,y_ = (x0_1 ++ [(Go.bits .or .i64 128 (Go.bits .and .i64 x3_1 127)) % 256]):=⟨_,rfl⟩
        replace H : (impl_putPrefix.l0 k1 y324 (x3_1 / 128)) = some r:=by first|(rw [hy324];with_reducible exact H)|(have H2_:=(Option.bind_some _ _).symm.trans H;rw [hy324];with_reducible exact H2_)|(have H2_:=(Option.bind_some _ _).symm.trans H;with_reducible exact H2_)|with_reducible exact H|(rw [hy324];exact H)|exact H
        have Ny324:=zm0_ hy324
        clear hy324
        have H':=zm0_ H
        clear H
        go_wp2_with (first|((with_reducible refine gate_builtin (b:=.append) (xs:=#[.tmp 43,.tmp 48]) rfl ?_);at_builtin;refine Kd.R_append (Kd.int .u8) (w0:=w0) w0.heap.size rfl (.tmp 43) (.tmp 48) 29 5 (.int .u8 0) 1 rfl Tryz.underlying29 info5 rfl (by decide) (by omega) u0 x0_1 ((Go.bits .or .i64 128 (Go.bits .and .i64 x3_1 127)) % 256) [.int .u8 ((Go.bits .or .i64 128 (Go.bits .and .i64 x3_1 127)) % 256)] (fun k_ => (P0_ k_ ∨ w.heap.size ≤ k_)) (fun _ => False) rfl rfl ?aP (fun _ hk => hk.elim) ?aF ?aO ?aB ?aS ?aL ?_;(case aP => exact rfl);(case aB => exact (zl HB));(case aF => exact (fun k_ hk => (.inr (Nat.le_trans (by first|exact HK.out.1|exact (show Kept w _ (fun k_ => P0_ k_) from by repeat (first|(with_reducible first|exact HK.out|apply Kept.alloc|apply Kept.drewN|apply Kept.drew)|exact HK.out)).1) hk))));(case aO => exact (zr HO_0));(case aS => exact (zn9_ (zl HB)));(case aL => have:=LMc16.out;omega);intro v325 w17 ho hb hg hat;(first|(with_reducible rw [← Ny324.out] at ho)|(simp only [Int.reduceToNat] at ho;with_reducible rw [← Ny324.out] at ho)|rw [← Ny324.out] at ho);replace HB:=zm0_ (hb);replace HK:=zm0_ (Kept.of_grown (S:=(fun k_ => P0_ k_)) hg (by repeat (first|(with_reducible first|exact HK.out|apply Kept.alloc|apply Kept.drewN|apply Kept.drew)|exact HK.out)) (fun k_ e_ => (HO_0.out.1 k_ e_)));have HO326:=zm0_ (ho);clear HO_0;clear ho hb hg hat))
        go_roundg k1
        case measure => have:=HK1.out;omega
        case rel => exact ⟨(y324),(x3_1 / 128),zz,H',⟨by have:=HK1.out;omega⟩,⟨zr HO326⟩,⟨by repeat (first|(with_reducible first|exact HK.out|apply Kept.alloc|apply Kept.drewN|apply Kept.drew)|exact HK.out)⟩,⟨zl HB⟩⟩
       ·
        rw [if_neg c16] at H
        exact absurd H (by simp)
      ·
       rw [if_neg c15] at H
       have c15b0 : decide (127 < x3_1) = false:=decide_eq_false c15
       clear c15
       by_cases c18 : x0_1.length < 140737488355328
       ·
        rw [if_pos c18] at H
        have LMc18:=zm0_ c18
        clear c18
        obtain ⟨y327,hy327⟩ : ∃ y_ : List Int,y_ = (x0_1 ++ [(x3_1) % 256]):=⟨_,rfl⟩
        replace H : (some y327) = some r:=by first|(rw [hy327];with_reducible exact H)|(have H2_:=(Option.bind_some _ _).symm.trans H;rw [hy327];with_reducible exact H2_)|(have H2_:=(Option.bind_some _ _).symm.trans H;with_reducible exact H2_)|with_reducible exact H|(rw [hy327];exact H)|exact H
        have Ny327:=zm0_ hy327
        clear hy327
        obtain rfl:=Option.some.inj H
        go_wp2_with (first|((with_reducible refine gate_builtin (b:=.append) (xs:=#[.tmp 52,.tmp 55]) rfl ?_);at_builtin;refine Kd.R_append (Kd.int .u8) (w0:=w0) w0.heap.size rfl (.tmp 52) (.tmp 55) 29 5 (.int .u8 0) 1 rfl Tryz.underlying29 info5 rfl (by decide) (by omega) u0 x0_1 ((x3_1) % 256) [.int .u8 ((x3_1) % 256)] (fun k_ => (P0_ k_ ∨ w.heap.size ≤ k_)) (fun _ => False) rfl rfl ?aP (fun _ hk => hk.elim) ?aF ?aO ?aB ?aS ?aL ?_;(case aP => exact rfl);(case aB => exact (zl HB));(case aF => exact (fun k_ hk => (.inr (Nat.le_trans (by first|exact HK.out.1|exact (show Kept w _ (fun k_ => P0_ k_) from by repeat (first|(with_reducible first|exact HK.out|apply Kept.alloc|apply Kept.drewN|apply Kept.drew)|exact HK.out)).1) hk))));(case aO => exact (zr HO_0));(case aS => exact (zn9_ (zl HB)));(case aL => have:=LMc18.out;omega);intro v328 w19 ho hb hg hat;(first|(with_reducible rw [← Ny327.out] at ho)|(simp only [Int.reduceToNat] at ho;with_reducible rw [← Ny327.out] at ho)|rw [← Ny327.out] at ho);replace HB:=zm0_ (hb);replace HK:=zm0_ (Kept.of_grown (S:=(fun k_ => P0_ k_)) hg (by repeat (first|(with_reducible first|exact HK.out|apply Kept.alloc|apply Kept.drewN|apply Kept.drew)|exact HK.out)) (fun k_ e_ => (HO_0.out.1 k_ e_)));have HO329:=zm0_ (ho);clear HO_0;clear ho hb hg hat))
        go_ret
        exact ⟨_,by first|rfl|(simp [errW_none,errW_some] <;> rfl)|(simp only [← hji5,← hji6,← hji7,← hji9];first|rfl|(simp [errW_none,errW_some] <;> rfl))|(simp [*,errW_none,errW_some] <;> rfl),by (with_reducible repeat (first|apply k1_|apply k2_|apply k3_));exact HO329.out,by repeat (first|(with_reducible first|exact HB.out|apply zm3_|apply zm2_|apply zm4_)|exact HB.out),by repeat (first|(with_reducible first|exact HK.out|apply Kept.alloc|apply Kept.drewN|apply Kept.drew)|exact HK.out)⟩
       ·
        rw [if_neg c18] at H
        exact absurd H (by simp)
   ·
    rw [if_neg c13] at H
    exact absurd H (by simp)
 ·
  rw [if_neg c8] at H
  exact absurd H (by simp)
end Go.Proofs.YthflimnpiglgbaaGreatDoor.A
end
section
namespace Go.Proofs.YthflimnpiglgbaaGreatDoor.A
open Go.RowKit Go.Proofs.YthflimnpiglgbaaGreatDoorW.PrintWords Go.Proofs.YthflimnpiglgbaaGreatDoorW.PrintLast Go.Proofs.YthflimnpiglgbaaGreatDoorW.PrintMore
attribute [local go_sem] max2_int min2_int max_two min_two max_three min_three max_four min_four   -- for this text's walks alone
set_option linter.unusedVariables false
set_option linter.unusedSimpArgs false

def impl_formOf.f (a0 : Int) : Option (Int × Int):=if a0 = 1 then (some (6,64)) else (if a0 = 2 then (some (4,0)) else (some (4,16)))
set_option maxHeartbeats 8000000 in
set_option maxRecDepth 100000 in
theorem impl_formOf.calls (a0 : Int) (r1 : Int) (r2 : Int) (w : World) (h : impl_formOf.f a0 = some (r1,r2)) :
 Calls Tryz.prog 46 #[.int .i64 a0] w fun e w' => e = .returned (.tuple #[.int .i64 r1,.int .i64 r2]) ∧ Drawn0 w w':=by
 have H : (if a0 = 1 then (some (6,64)) else (if a0 = 2 then (some (4,0)) else (some (4,16)))) = some (r1,r2):=h
 clear h
 by_cases c2 : a0 = 1
 ·
  rw [if_pos c2] at H
  have c2b0 : (a0 == 1) = true:=beq_iff_eq.mpr c2
  have c2b1 : (a0 != 1) = false:=bne_eq_false_iff_eq.mpr c2
  clear c2
  simp only [Option.some.injEq,Prod.mk.injEq] at H
  obtain ⟨rfl,rfl⟩:=H
  go_enter Tryz.func46,Tryz.ntmps46
  go_wp2
  go_ret2
  exact ⟨by first|rfl|(simp;done)|(simp [*];done),by repeat (first|exact Drawn0.refl _|apply Drawn0.step)⟩
 ·
  rw [if_neg c2] at H
  have c2b0 : (a0 == 1) = false:=beq_eq_false_iff_ne.mpr c2
  have c2b1 : (a0 != 1) = true:=bne_iff_ne.mpr c2
  by_cases c3 : a0 = 2
  ·
   rw [if_pos c3] at H
   have c3b0 : (a0 == 2) = true:=beq_iff_eq.mpr c3
   have c3b1 : (a0 != 2) = false:=bne_eq_false_iff_eq.mpr c3
   clear c3
   simp only [Option.some.injEq,Prod.mk.injEq] at H
   obtain ⟨rfl,rfl⟩:=H
   go_enter Tryz.func46,Tryz.ntmps46
   go_wp2
   go_ret2
   exact ⟨by first|rfl|(simp;done)|(simp [*];done),by repeat (first|exact Drawn0.refl _|apply Drawn0.step)⟩
  ·
   rw [if_neg c3] at H
   have c3b0 : (a0 == 2) = false:=beq_eq_false_iff_ne.mpr c3
   have c3b1 : (a0 != 2) = true:=bne_iff_ne.mpr c3
   simp only [Option.some.injEq,Prod.mk.injEq] at H
   obtain ⟨rfl,rfl⟩:=H
   go_enter Tryz.func46,Tryz.ntmps46
   go_wp2
   go_ret2
   exact ⟨by first|rfl|(simp;done)|(simp [*];done),by repeat (first|exact Drawn0.refl _|apply Drawn0.step)⟩
-- NOT PRINTED: function 95 (strconv_lower)
-- NOT PRINTED: function 96 (strconv_underscoreOK)
-- NOT PRINTED: function 88 (strconv_ParseUint)
-- NOT PRINTED: function 75 (strconv_ParseInt)
-- NOT PRINTED: function 68 (strconv_Atoi_68)
-- NOT PRINTED: function 89 (stringslite_Clone)
-- NOT PRINTED: function 76 (strconv_syntaxError)
-- NOT PRINTED: function 77 (strconv_rangeError)
def errors_New.f (a0 : ByteArray) : Option (Option Int):=none
set_option maxHeartbeats 8000000 in
set_option maxRecDepth 100000 in
theorem errors_New.calls (a0 : ByteArray) (r : Option Int) (w : World) (h : errors_New.f a0 = some r) :
 Calls Tryz.prog 90 #[.string a0] w fun e w' => e = .returned (errW r) ∧ Below w.heap.size w w':=by
 have hu123:=Tryz.underlying123
 have hu88:=Tryz.underlying88
 have HB:=zm0_ (Below.refl w.heap.size w)
 have H : (none) = some r:=h
 clear h
 exact absurd H (by simp)
-- NOT PRINTED: function 99 (strconv_small)
-- NOT PRINTED: function 103 (strconv_log10Pow2)
-- NOT PRINTED: function 104 (bits_Len64)
-- NOT PRINTED: function 105 (strconv_bool2_int)
-- NOT PRINTED: function 100 (strconv_numDigits)
-- NOT PRINTED: function 101 (strconv_formatBase10)
-- NOT PRINTED: function 106 (strconv_isPowerOfTwo)
-- NOT PRINTED: function 108 (bits_TrailingZeros32)
-- NOT PRINTED: function 109 (bits_TrailingZeros64)
-- NOT PRINTED: function 107 (bits_TrailingZeros)
-- NOT PRINTED: function 102 (strconv_formatBits)
-- NOT PRINTED: function 98 (strconv_FormatInt)
-- NOT PRINTED: function 97 (strconv_Itoa_97)
-- NOT PRINTED: function 91 (strconv_Itoa_91)
-- NOT PRINTED: function 78 (strconv_baseError)
-- NOT PRINTED: function 79 (strconv_bitSizeError)
-- NOT PRINTED: function 69 (strconv_toError)
-- NOT PRINTED: function 63 (strconv_Atoi_63)
-- NOT PRINTED: function 55 (impl_codesOf)
-- NOT PRINTED: function 56 (impl_huffLen)
-- NOT PRINTED: function 57 (impl_huff)
end Go.Proofs.YthflimnpiglgbaaGreatDoor.A
end
section
namespace Go.Proofs.YthflimnpiglgbaaGreatDoor.A
open Go.RowKit Go.Proofs.YthflimnpiglgbaaGreatDoorW.PrintWords Go.Proofs.YthflimnpiglgbaaGreatDoorW.PrintLast Go.Proofs.YthflimnpiglgbaaGreatDoorW.PrintMore
attribute [local go_sem] max2_int min2_int max_two min_two max_three min_three max_four min_four   -- for this text's walks alone
set_option linter.unusedVariables false
set_option linter.unusedSimpArgs false

def impl_putString.f (k : Nat) (l0 : List Int) (a1 : ByteArray) : Option (List Int):=if a1.size ≤ 140737488355328 then (if Go.Proofs.YthflimnpiglgbaaGreatDoor.LibHuff.hlen a1 < (a1.size : Int) then ((impl_putPrefix.f k l0 7 128 (Go.Proofs.YthflimnpiglgbaaGreatDoor.LibHuff.hlen a1)).bind fun t => Go.Proofs.YthflimnpiglgbaaGreatDoor.LibHuffB.hf0 k a1 Go.Proofs.YthflimnpiglgbaaGreatDoor.LibHuff.lensI Go.Proofs.YthflimnpiglgbaaGreatDoor.LibHuff.bitsI t 0 0 0) else ((impl_putPrefix.f k l0 7 0 (a1.size : Int)).bind fun t => (if t.length + a1.size ≤ 140737488355328 then some (t ++ bytesOf a1) else none))) else none
theorem impl_putString.mono : ∀ a0 a1 k,LeO (impl_putString.f k a0 a1) (impl_putString.f (k + 1) a0 a1):=by
 intro a0 a1 k
 unfold impl_putString.f
 refine LeO.ite (LeO.ite (LeO.bind (impl_putPrefix.mono _ _ _ _ _) (fun _ => Go.Proofs.YthflimnpiglgbaaGreatDoor.LibHuffB.hf_mono _ _ _ _ _ _ _ _)) (LeO.bind (impl_putPrefix.mono _ _ _ _ _) (fun _ => LeO.refl _))) (LeO.none _)
set_option maxHeartbeats 8000000 in
set_option maxRecDepth 100000 in
theorem impl_putString.calls (k : Nat) (P0_ : Nat → Prop) (u9000_ : Value) (l0 : List Int) (a1 : ByteArray) (r : List Int) (w0 w : World) (hB : Below w0.heap.size w0 w) (ho0 : Kd.R (Kd.int .u8) 5 w w0.heap.size P0_ u9000_ l0) (ht : TB w) (h : impl_putString.f k l0 a1 = some r) :
 Calls Tryz.prog 47 #[u9000_,.string a1] w fun e w' => ∃ v0_ : Value,e = .returned (v0_) ∧ Kd.R (Kd.int .u8) 5 w' w0.heap.size (fun k_ => (P0_ k_ ∨ w.heap.size ≤ k_)) v0_ r ∧ Below w0.heap.size w0 w' ∧ Kept w w' (fun k_ => P0_ k_):=by
 obtain ⟨m,hm⟩:=ht
 have HM:=zm0_ hm
 have HB:=zm0_ hB
 have HO:=zm0_ (zo2_ (Kd.R_bound ho0) (fun k hk => (⟨hk.1,hk.2.2.1⟩ : P0_ k ∧ k < w.heap.size)))
 clear hm hB ho0
 unfold impl_putString.f at h
 by_cases hs : a1.size ≤ 140737488355328
 ·
  rw [if_pos hs] at h
  have HS:=zm0_ hs
  clear hs
  obtain ⟨n,hn⟩ : ∃ n,n = Go.Proofs.YthflimnpiglgbaaGreatDoor.LibHuff.hlen a1:=⟨_,rfl⟩
  rw [← hn] at h
  have HN:=zm0_ hn
  clear hn
  by_cases hlt : n < (a1.size : Int)
  ·
   rw [if_pos hlt] at h
   have hlt' : decide (n < (a1.size : Int)) = true:=decide_eq_true hlt
   obtain ⟨t,h1,h2⟩:=zq1_ h
   have H1:=zm0_ h1
   have H2:=zm0_ h2
   clear h h1 h2 hlt
   go_enter Tryz.func47,Tryz.ntmps47
   go_wp2_with (first|(go_at_call 55;(with_reducible refine (Go.Proofs.YthflimnpiglgbaaGreatDoor.LibCodes.codesOf_calls m _ HM).mono ?_);rintro e w1 ⟨g,rfl,hg,hA,hB1⟩;have HA:=zm0_ hA;have HB1:=zm0_ hB1;have HG:=zm0_ hg;clear hA hB1 hg)|(go_at_call 56;(with_reducible refine (Go.Proofs.YthflimnpiglgbaaGreatDoor.LibHuff.huffLen_calls _ _ _ HA.out HS.out).mono ?_);rintro e w2 ⟨rfl,⟨nd,rfl⟩⟩;rw [← HN.out])|(go_at_call 45;(with_reducible refine (impl_putPrefix.calls k (fun k => P0_ k ∧ k < w.heap.size) _ l0 7 128 n t w0 _ (below_then HB.out HB.out.size (zm2_ HB1.out _)) (k2_ (zm8_ HO.out HB1.out) _) H1.out).mono ?_);rintro e w3 ⟨v3,rfl,hR3,hB3,hK3⟩;have HR3:=zm0_ hR3;have HB3:=zm0_ hB3;have HK3:=zm0_ hK3;have HA3:=zm0_ (show Go.Proofs.YthflimnpiglgbaaGreatDoor.LibLens.Arr 86 w3 g Go.Proofs.YthflimnpiglgbaaGreatDoor.LibLens.codes from (hK3.2 g HA.out.lt (fun e_ => by have h1_:=e_.2;have h2_:=HG.out;omega)).trans HA.out);clear hR3 hB3 hK3)|(go_at_call 57;(with_reducible refine (Go.Proofs.YthflimnpiglgbaaGreatDoor.LibHuffB.huff_calls k _ _ _ t a1 r w0 _ HB3.out HA3.out HR3.out H2.out).mono ?_);rintro e w4 ⟨v4,rfl,hR4,hB4,hK4⟩;have HR4:=zm0_ hR4;have HB4:=zm0_ hB4;have HK4:=zm0_ hK4;clear hR4 hB4 hK4))
   go_ret
   refine ⟨_,rfl,zo2_ HR4.out (fun k hk => ?_),HB4.out,?_⟩
   ·
    have s1 : w.heap.size ≤ w1.heap.size:=HB1.out.size
    have s2 : w1.heap.size ≤ w3.heap.size:=HK3.out.1
    rcases hk with (hk|hk)|hk
    ·
     exact .inl hk.1
    ·
     exact .inr (Nat.le_trans s1 hk)
    ·
     exact .inr (Nat.le_trans s1 (Nat.le_trans s2 hk))
   ·
    have s1 : w.heap.size ≤ w1.heap.size:=HB1.out.size
    refine Kept.then_ (Kept.then_ (Kept.drewN (Kept.of_below HB1.out (fun k_ => P0_ k_)) _) HK3.out (fun k hk => .inl hk.1)) HK4.out (fun k hk => ?_)
    rcases hk with hk|hk
    ·
     exact .inl hk.1
    ·
     exact .inr (Nat.le_trans s1 hk)
  ·
   rw [if_neg hlt] at h
   have hlt' : decide (n < (a1.size : Int)) = false:=decide_eq_false hlt
   obtain ⟨t,h1,h2⟩:=zq1_ h
   by_cases hl : t.length + a1.size ≤ 140737488355328
   ·
    rw [if_pos hl] at h2
    obtain rfl:=Option.some.inj h2
    have H1:=zm0_ h1
    have HL:=zm0_ hl
    clear h h1 h2 hlt hl
    go_enter Tryz.func47,Tryz.ntmps47
    go_wp2_with (first|(go_at_call 55;(with_reducible refine (Go.Proofs.YthflimnpiglgbaaGreatDoor.LibCodes.codesOf_calls m _ HM).mono ?_);rintro e w1 ⟨g,rfl,hg,hA,hB1⟩;have HA:=zm0_ hA;have HB1:=zm0_ hB1;have HG:=zm0_ hg;clear hA hB1 hg)|(go_at_call 56;(with_reducible refine (Go.Proofs.YthflimnpiglgbaaGreatDoor.LibHuff.huffLen_calls _ _ _ HA.out HS.out).mono ?_);rintro e w2 ⟨rfl,⟨nd,rfl⟩⟩;rw [← HN.out])|(go_at_call 45;(with_reducible refine (impl_putPrefix.calls k (fun k => P0_ k ∧ k < w.heap.size) _ l0 7 0 _ t w0 _ (below_then HB.out HB.out.size (zm2_ HB1.out _)) (k2_ (zm8_ HO.out HB1.out) _) H1.out).mono ?_);rintro e w3 ⟨v3,rfl,hR3,hB3,hK3⟩;have HR3:=zm0_ hR3;have HB3:=zm0_ hB3;have HK3:=zm0_ hK3;clear hR3 hB3 hK3)|((with_reducible refine gate_builtin (b:=.append) (xs:=#[.tmp 24,.tmp 25]) rfl ?_);at_builtin;refine Go.Proofs.YthflimnpiglgbaaGreatDoor.LibStr.R_append_str (w0:=w0) w0.heap.size rfl (.tmp 24) (.tmp 25) 29 9 5 rfl Tryz.underlying29 Tryz.underlying9 info5 v3 t a1 (fun k_ => (P0_ k_ ∧ k_ < w.heap.size) ∨ w1.heap.size ≤ k_) rfl rfl (fun k_ hk => .inr (Nat.le_trans HK3.out.1 hk)) HR3.out HB3.out HB3.out.size HL.out ?_;intro v4 w4 ho hb hg hat;have HR4:=zm0_ ho;have HB4:=zm0_ hb;have HG4:=zm0_ hg;clear ho hb hg hat))
    go_ret
    have s1 : w.heap.size ≤ w1.heap.size:=HB1.out.size
    refine ⟨_,rfl,zo2_ HR4.out (fun k hk => ?_),HB4.out,?_⟩
    ·
     rcases hk with hk|hk
     ·
      exact .inl hk.1
     ·
      exact .inr (Nat.le_trans s1 hk)
    ·
     refine Kept.of_grown HG4.out (Kept.then_ (Kept.drewN (Kept.of_below HB1.out (fun k_ => P0_ k_)) _) HK3.out (fun k hk => .inl hk.1)) (fun k hk => ?_)
     rcases HR3.out.1 k hk with h|h
     ·
      exact .inl h.1
     ·
      exact .inr (Nat.le_trans s1 h)
   ·
    rw [if_neg hl] at h2
    cases h2
 ·
  rw [if_neg hs] at h
  cases h
-- NOT PRINTED: function 64 (impl_Field_64)
end Go.Proofs.YthflimnpiglgbaaGreatDoor.A
end
