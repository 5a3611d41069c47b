/- Functions of the program and of the reference as plain Lean functions, that the machine's calls answer as they do, and laws of these. Written in part by a program of this session, out of the translation. Condition: each theorem's own. -/
import Derived.Test.YthflimnpiglgbaaGreatDoorPf1
section
namespace Go.Proofs.YthflimnpiglgbaaGreatDoor.A
open Go.RowKit Go.Proofs.YthflimnpiglgbaaGreatDoorW.PrintWords Go.Proofs.YthflimnpiglgbaaGreatDoorW.PrintLast Go.Proofs.YthflimnpiglgbaaGreatDoorW.PrintMore
attribute [local go_sem] max2_int min2_int max_two min_two max_three min_three max_four min_four   -- for this text's walks alone
set_option linter.unusedVariables false
set_option linter.unusedSimpArgs false

def laws_eqByteS.l0 : Nat → List Int → List Int → Int → Option (Bool)
 | 0,_,_,_ => none
 | k + 1,x0,x1,x5 => if x5 < (x0.length : Int) then (if 0 ≤ x5 then (if x5 < (x1.length : Int) then (if (rd x0 x5) = (rd x1 x5) then (laws_eqByteS.l0 k x0 x1 (wrap64 (x5 + 1))) else (some false)) else (none)) else (none)) else (some true)
def laws_eqByteS.f (k : Nat) (l0 : List Int) (l1 : List Int) : Option (Bool):=if (l0.length : Int) = (l1.length : Int) then (laws_eqByteS.l0 k l0 l1 0) else (some false)
theorem laws_eqByteS.mono_l : ∀ k,(∀ y0 y1 y2,LeO (laws_eqByteS.l0 k y0 y1 y2) (laws_eqByteS.l0 (k + 1) y0 y1 y2))
 | 0 => fun _ _ _ r h => by simp [laws_eqByteS.l0] at h
 | k + 1 => by
  have ih0:=laws_eqByteS.mono_l k
  ·
   intro y0 y1 y2
   unfold laws_eqByteS.l0
   repeat' first
   | (with_reducible exact ih0 _ _ _)
   | (with_reducible exact LeO.refl _)
   | (with_reducible exact LeO.none _)
   | (with_reducible refine LeO.ite ?_ ?_)
   | (with_reducible refine LeO.bind ?_ (fun _ => ?_))
   | exact ih0 _ _ _
   | exact LeO.none _
   | refine LeO.ite ?_ ?_
   | refine LeO.bind ?_ (fun _ => ?_)
theorem laws_eqByteS.mono : ∀ a0 a1 k,LeO (laws_eqByteS.f k a0 a1) (laws_eqByteS.f (k + 1) a0 a1):=by
 intro a0 a1 k
 have ih0:=laws_eqByteS.mono_l k
 unfold laws_eqByteS.f
 repeat' first
  | (with_reducible exact ih0 _ _ _)
  | (with_reducible exact LeO.refl _)
  | (with_reducible exact LeO.none _)
  | (with_reducible refine LeO.ite ?_ ?_)
  | (with_reducible refine LeO.bind ?_ (fun _ => ?_))
  | exact ih0 _ _ _
  | exact LeO.none _
  | refine LeO.ite ?_ ?_
  | refine LeO.bind ?_ (fun _ => ?_)
set_option maxHeartbeats 8000000 in
set_option maxRecDepth 100000 in
theorem laws_eqByteS.calls (k : Nat) (A0 : Option Addr) (c0 : Nat) (l0 : List Int) (A1 : Option Addr) (c1 : Nat) (l1 : List Int) (r : Bool) (w : World) (hr0 : Kd.C (Kd.int .u8) w A0 l0.length l0) (hc0 : l0.length ≤ c0) (hr1 : Kd.C (Kd.int .u8) w A1 l1.length l1) (hc1 : l1.length ≤ c1) (h : laws_eqByteS.f k l0 l1 = some r) :
 Calls Tryz.prog 11 #[.slice A0 l0.length c0,.slice A1 l1.length c1] w fun e w' => e = .returned (.bool r) ∧ Drawn0 w w':=by
 have HR0:=zm0_ hr0
 have HC0:=zm0_ hc0
 clear hr0 hc0
 have HR1:=zm0_ hr1
 have HC1:=zm0_ hc1
 clear hr1 hc1
 have H : (if (l0.length : Int) = (l1.length : Int) then (laws_eqByteS.l0 k l0 l1 0) else (some false)) = some r:=h
 clear h
 by_cases c3 : (l0.length : Int) = (l1.length : Int)
 ·
  rw [if_pos c3] at H
  have c3b0 : ((l0.length : Int) == (l1.length : Int)) = true:=beq_iff_eq.mpr c3
  have c3b1 : ((l0.length : Int) != (l1.length : Int)) = false:=bne_eq_false_iff_eq.mpr c3
  have c3b2 : (l0.length == l1.length) = true:=by first|simpa using c3|(simp at c3 ⊢;omega)
  clear c3
  have H':=zm0_ H
  clear H
  go_enter Tryz.func11,Tryz.ntmps11
  go_wp2
  repeat (go_quiet (fail);try go_wp2)
  go_loopg [5] k (fun kq v5 w' => ∃ (x5_1 : Int),v5 = .int .i64 x5_1 ∧ Aside0 (laws_eqByteS.l0 kq l0 l1 x5_1 = some r) ∧ Aside0 (kq ≤ k) ∧ Drawn0 w w')
  case atStart => exact ⟨(0),zz,H',⟨Nat.le_refl _⟩,by repeat (first|exact Drawn0.refl _|apply Drawn0.step)⟩
  case round =>
   clear H'
   try clear c1
   try clear p2
   try clear c3
   try clear c3b0
   try clear c3b1
   try clear c3b2
   obtain ⟨x5_1,rfl,HA,HK1,⟨m1,rfl⟩⟩:=hrel
   cases gk with
   | zero => exact absurd HA.out (by simp [laws_eqByteS.l0])
   | succ k1 =>
    have H:=HA.out
    clear HA
    simp only [laws_eqByteS.l0] at H
    by_cases c4 : x5_1 < (l0.length : Int)
    ·
     rw [if_pos c4] at H
     have c4b0 : decide (x5_1 < (l0.length : Int)) = true:=decide_eq_true c4
     clear c4
     by_cases c5 : 0 ≤ x5_1
     ·
      rw [if_pos c5] at H
      have c5b0 : decide (0 ≤ x5_1) = true:=decide_eq_true c5
      clear c5
      by_cases c6 : x5_1 < (l1.length : Int)
      ·
       rw [if_pos c6] at H
       have c6b0 : decide (x5_1 < (l1.length : Int)) = true:=decide_eq_true c6
       clear c6
       by_cases c7 : (rd l0 x5_1) = (rd l1 x5_1)
       ·
        rw [if_pos c7] at H
        have c7b0 : ((rd l0 x5_1) == (rd l1 x5_1)) = true:=beq_iff_eq.mpr c7
        have c7b1 : ((rd l0 x5_1) != (rd l1 x5_1)) = false:=bne_eq_false_iff_eq.mpr c7
        clear c7
        have H':=zm0_ H
        clear H
        have p353 : 0 ≤ (x5_1 : Int):=of_decide_eq_true (by first|(with_reducible assumption)|assumption)
        have q353 : x5_1 < (l0.length : Int):=of_decide_eq_true (by first|(with_reducible assumption)|assumption)
        obtain ⟨ad353,e353,hx353_0⟩:=Kd.at_int HR0.out x5_1 p353 q353
        cases e353
        replace p353:=eq_true p353
        replace q353:=eq_true q353
        have p354 : 0 ≤ (x5_1 : Int):=of_decide_eq_true (by first|(with_reducible assumption)|assumption)
        have q354 : x5_1 < (l1.length : Int):=of_decide_eq_true (by first|(with_reducible assumption)|assumption)
        obtain ⟨ad354,e354,hx354_0⟩:=Kd.at_int HR1.out x5_1 p354 q354
        cases e354
        replace p354:=eq_true p354
        replace q354:=eq_true q354
        go_wp2
        repeat (go_quiet (fail);try go_wp2)
        go_roundg k1
        case measure => have:=HK1.out;omega
        case rel => exact ⟨(wrap64 (x5_1 + 1)),zz,H',⟨by have:=HK1.out;omega⟩,by repeat (first|exact Drawn0.refl _|apply Drawn0.step)⟩
       ·
        rw [if_neg c7] at H
        have c7b0 : ((rd l0 x5_1) == (rd l1 x5_1)) = false:=beq_eq_false_iff_ne.mpr c7
        have c7b1 : ((rd l0 x5_1) != (rd l1 x5_1)) = true:=bne_iff_ne.mpr c7
        obtain rfl:=Option.some.inj H
        have p353 : 0 ≤ (x5_1 : Int):=of_decide_eq_true (by first|(with_reducible assumption)|assumption)
        have q353 : x5_1 < (l0.length : Int):=of_decide_eq_true (by first|(with_reducible assumption)|assumption)
        obtain ⟨ad353,e353,hx353_0⟩:=Kd.at_int HR0.out x5_1 p353 q353
        cases e353
        replace p353:=eq_true p353
        replace q353:=eq_true q353
        have p354 : 0 ≤ (x5_1 : Int):=of_decide_eq_true (by first|(with_reducible assumption)|assumption)
        have q354 : x5_1 < (l1.length : Int):=of_decide_eq_true (by first|(with_reducible assumption)|assumption)
        obtain ⟨ad354,e354,hx354_0⟩:=Kd.at_int HR1.out x5_1 p354 q354
        cases e354
        replace p354:=eq_true p354
        replace q354:=eq_true q354
        go_wp2
        repeat (go_quiet (fail);try go_wp2)
        go_ret
        exact ⟨by first|rfl|(simp;done)|(simp [*];done),by repeat (first|exact Drawn0.refl _|apply Drawn0.step)⟩
      ·
       rw [if_neg c6] at H
       exact absurd H (by simp)
     ·
      rw [if_neg c5] at H
      exact absurd H (by simp)
    ·
     rw [if_neg c4] at H
     have c4b0 : decide (x5_1 < (l0.length : Int)) = false:=decide_eq_false c4
     clear c4
     obtain rfl:=Option.some.inj H
     go_wp2
     repeat (go_quiet (fail);try go_wp2)
     go_ret
     exact ⟨by first|rfl|(simp;done)|(simp [*];done),by repeat (first|exact Drawn0.refl _|apply Drawn0.step)⟩
 ·
  rw [if_neg c3] at H
  have c3b0 : ((l0.length : Int) == (l1.length : Int)) = false:=beq_eq_false_iff_ne.mpr c3
  have c3b1 : ((l0.length : Int) != (l1.length : Int)) = true:=bne_iff_ne.mpr c3
  have c3b2 : (l0.length == l1.length) = false:=by first|simpa using c3|(simp at c3 ⊢;omega)
  obtain rfl:=Option.some.inj H
  go_enter Tryz.func11,Tryz.ntmps11
  go_wp2
  repeat (go_quiet (fail);try go_wp2)
  go_ret
  exact ⟨by first|rfl|(simp;done)|(simp [*];done),by repeat (first|exact Drawn0.refl _|apply Drawn0.step)⟩
end Go.Proofs.YthflimnpiglgbaaGreatDoor.A
end
section
namespace Go.Proofs.YthflimnpiglgbaaGreatDoor.A
open Go.RowKit Go.Proofs.YthflimnpiglgbaaGreatDoorW.PrintWords Go.Proofs.YthflimnpiglgbaaGreatDoorW.PrintLast Go.Proofs.YthflimnpiglgbaaGreatDoorW.PrintMore
attribute [local go_sem] max2_int min2_int max_two min_two max_three min_three max_four min_four   -- for this text's walks alone
set_option linter.unusedVariables false
set_option linter.unusedSimpArgs false

def laws_eqField.f (a0_0 : ByteArray) (a0_1 : ByteArray) (a1_0 : ByteArray) (a1_1 : ByteArray) : Option (Bool):=if a0_0.toList = a1_0.toList then (if a0_1.toList = a1_1.toList then (some true) else (some false)) else (some false)
set_option maxHeartbeats 8000000 in
set_option maxRecDepth 100000 in
theorem laws_eqField.calls (a0_0 : ByteArray) (a0_1 : ByteArray) (a1_0 : ByteArray) (a1_1 : ByteArray) (r : Bool) (w : World) (h : laws_eqField.f a0_0 a0_1 a1_0 a1_1 = some r) :
 Calls Tryz.prog 36 #[.agg #[.string a0_0,.string a0_1],.agg #[.string a1_0,.string a1_1]] w fun e w' => e = .returned (.bool r) ∧ Below w.heap.size w w':=by
 have hu36:=Tryz.underlying36
 have HB:=zm0_ (Below.refl w.heap.size w)
 have H : (if a0_0.toList = a1_0.toList then (if a0_1.toList = a1_1.toList then (some true) else (some false)) else (some false)) = some r:=h
 clear h
 by_cases c3 : a0_0.toList = a1_0.toList
 ·
  rw [if_pos c3] at H
  have c3b0 : (a0_0.toList == a1_0.toList) = true:=beq_iff_eq.mpr c3
  have c3b1 : (a0_0.toList != a1_0.toList) = false:=bne_eq_false_iff_eq.mpr c3
  clear c3
  by_cases c4 : a0_1.toList = a1_1.toList
  ·
   rw [if_pos c4] at H
   have c4b0 : (a0_1.toList == a1_1.toList) = true:=beq_iff_eq.mpr c4
   have c4b1 : (a0_1.toList != a1_1.toList) = false:=bne_eq_false_iff_eq.mpr c4
   clear c4
   obtain rfl:=Option.some.inj H
   go_enter Tryz.func36,Tryz.ntmps36
   go_wp2_with (first|((with_reducible refine gate_dst (N:=2) rfl ?_);refine box_event ?hg (N:=2) ?hd (cs:=#[.string a0_0,.string a0_1]) (t:=36) ?hr ?_;(case hd => rfl);(case hg => rfl);(case hr => first|(go_simp;done)|(go_simp;rfl));intro gb355 hg w5 hbox hb;have BK355:=zm0_ (hbox);have GW355:=zm0_ ((by rw [hg];exact (zn9_ (zl HB)) : w.heap.size ≤ gb355));have GE355:=zm0_ ((by rw [hg];exact (zn9_ (zl HB)) : w.heap.size ≤ gb355));replace HB:=zm0_ (zn8_ (zl HB) hb);clear hb hbox hg)|((with_reducible refine gate_dst (N:=3) rfl ?_);refine box_event ?hg (N:=3) ?hd (cs:=#[.string a1_0,.string a1_1]) (t:=36) ?hr ?_;(case hd => rfl);(case hg => rfl);(case hr => first|(go_simp;done)|(go_simp;rfl));intro gb356 hg w6 hbox hb;have BK356:=zm0_ (hbox);have GW356:=zm0_ ((by rw [hg];exact (zn9_ (zl1 HB GE355)) : w.heap.size ≤ gb356));have GE356:=zm0_ ((by rw [hg];exact (zn9_ (zl1 HB GE355)) : w.heap.size ≤ gb356));replace HB:=zm0_ (zn8_ (zl1 HB GE355) hb);have NB355_356:=zm0_ ((by rw [hg];exact Nat.ne_of_lt (zo3_ (g:=gb355) (o:=.cells #[.string a0_0,.string a0_1] 36 (0,0)) (zb BK355)) : gb355 ≠ gb356));have NB356_355:=zm0_ ((by rw [hg];exact Nat.ne_of_gt (zo3_ (g:=gb355) (o:=.cells #[.string a0_0,.string a0_1] 36 (0,0)) (zb BK355)) : gb356 ≠ gb355));replace BK355:=zm0_ (zm5_ (zb BK355) hb);clear hb hbox hg;have hnb7:=NB355_356.out;have hnc7:=NB356_355.out;have hcz8_0 : w6.cell? ⟨gb355,0,none⟩ = some (.string a0_0):=(zm6_ BK355.out 0).trans rfl;have hcz8_1 : w6.cell? ⟨gb355,1,none⟩ = some (.string a0_1):=(zm6_ BK355.out 1).trans rfl;have hfz8_0:=zm7_ BK355.out 0;have hfz8_1:=zm7_ BK355.out 1;have hcz9_0 : w6.cell? ⟨gb356,0,none⟩ = some (.string a1_0):=(zm6_ BK356.out 0).trans rfl;have hcz9_1 : w6.cell? ⟨gb356,1,none⟩ = some (.string a1_1):=(zm6_ BK356.out 1).trans rfl;have hfz9_0:=zm7_ BK356.out 0;have hfz9_1:=zm7_ BK356.out 1))
   go_ret
   exact ⟨ze,by repeat (first|(with_reducible first|exact HB.out|apply zm3_|apply zm2_|apply zm4_|refine zm1_ ?_ GE355.out|refine zm1_ ?_ GE356.out)|exact HB.out)⟩
  ·
   rw [if_neg c4] at H
   have c4b0 : (a0_1.toList == a1_1.toList) = false:=beq_eq_false_iff_ne.mpr c4
   have c4b1 : (a0_1.toList != a1_1.toList) = true:=bne_iff_ne.mpr c4
   obtain rfl:=Option.some.inj H
   go_enter Tryz.func36,Tryz.ntmps36
   go_wp2_with (first|((with_reducible refine gate_dst (N:=2) rfl ?_);refine box_event ?hg (N:=2) ?hd (cs:=#[.string a0_0,.string a0_1]) (t:=36) ?hr ?_;(case hd => rfl);(case hg => rfl);(case hr => first|(go_simp;done)|(go_simp;rfl));intro gb355 hg w10 hbox hb;have BK355:=zm0_ (hbox);have GW355:=zm0_ ((by rw [hg];exact (zn9_ (zl HB)) : w.heap.size ≤ gb355));have GE355:=zm0_ ((by rw [hg];exact (zn9_ (zl HB)) : w.heap.size ≤ gb355));replace HB:=zm0_ (zn8_ (zl HB) hb);clear hb hbox hg)|((with_reducible refine gate_dst (N:=3) rfl ?_);refine box_event ?hg (N:=3) ?hd (cs:=#[.string a1_0,.string a1_1]) (t:=36) ?hr ?_;(case hd => rfl);(case hg => rfl);(case hr => first|(go_simp;done)|(go_simp;rfl));intro gb356 hg w11 hbox hb;have BK356:=zm0_ (hbox);have GW356:=zm0_ ((by rw [hg];exact (zn9_ (zl1 HB GE355)) : w.heap.size ≤ gb356));have GE356:=zm0_ ((by rw [hg];exact (zn9_ (zl1 HB GE355)) : w.heap.size ≤ gb356));replace HB:=zm0_ (zn8_ (zl1 HB GE355) hb);have NB355_356:=zm0_ ((by rw [hg];exact Nat.ne_of_lt (zo3_ (g:=gb355) (o:=.cells #[.string a0_0,.string a0_1] 36 (0,0)) (zb BK355)) : gb355 ≠ gb356));have NB356_355:=zm0_ ((by rw [hg];exact Nat.ne_of_gt (zo3_ (g:=gb355) (o:=.cells #[.string a0_0,.string a0_1] 36 (0,0)) (zb BK355)) : gb356 ≠ gb355));replace BK355:=zm0_ (zm5_ (zb BK355) hb);clear hb hbox hg;have hnb12:=NB355_356.out;have hnc12:=NB356_355.out;have hcz13_0 : w11.cell? ⟨gb355,0,none⟩ = some (.string a0_0):=(zm6_ BK355.out 0).trans rfl;have hcz13_1 : w11.cell? ⟨gb355,1,none⟩ = some (.string a0_1):=(zm6_ BK355.out 1).trans rfl;have hfz13_0:=zm7_ BK355.out 0;have hfz13_1:=zm7_ BK355.out 1;have hcz14_0 : w11.cell? ⟨gb356,0,none⟩ = some (.string a1_0):=(zm6_ BK356.out 0).trans rfl;have hcz14_1 : w11.cell? ⟨gb356,1,none⟩ = some (.string a1_1):=(zm6_ BK356.out 1).trans rfl;have hfz14_0:=zm7_ BK356.out 0;have hfz14_1:=zm7_ BK356.out 1))
   go_ret
   exact ⟨ze,by repeat (first|(with_reducible first|exact HB.out|apply zm3_|apply zm2_|apply zm4_|refine zm1_ ?_ GE355.out|refine zm1_ ?_ GE356.out)|exact HB.out)⟩
 ·
  rw [if_neg c3] at H
  have c3b0 : (a0_0.toList == a1_0.toList) = false:=beq_eq_false_iff_ne.mpr c3
  have c3b1 : (a0_0.toList != a1_0.toList) = true:=bne_iff_ne.mpr c3
  obtain rfl:=Option.some.inj H
  go_enter Tryz.func36,Tryz.ntmps36
  go_wp2_with (first|((with_reducible refine gate_dst (N:=2) rfl ?_);refine box_event ?hg (N:=2) ?hd (cs:=#[.string a0_0,.string a0_1]) (t:=36) ?hr ?_;(case hd => rfl);(case hg => rfl);(case hr => first|(go_simp;done)|(go_simp;rfl));intro gb355 hg w15 hbox hb;have BK355:=zm0_ (hbox);have GW355:=zm0_ ((by rw [hg];exact (zn9_ (zl HB)) : w.heap.size ≤ gb355));have GE355:=zm0_ ((by rw [hg];exact (zn9_ (zl HB)) : w.heap.size ≤ gb355));replace HB:=zm0_ (zn8_ (zl HB) hb);clear hb hbox hg)|((with_reducible refine gate_dst (N:=3) rfl ?_);refine box_event ?hg (N:=3) ?hd (cs:=#[.string a1_0,.string a1_1]) (t:=36) ?hr ?_;(case hd => rfl);(case hg => rfl);(case hr => first|(go_simp;done)|(go_simp;rfl));intro gb356 hg w16 hbox hb;have BK356:=zm0_ (hbox);have GW356:=zm0_ ((by rw [hg];exact (zn9_ (zl1 HB GE355)) : w.heap.size ≤ gb356));have GE356:=zm0_ ((by rw [hg];exact (zn9_ (zl1 HB GE355)) : w.heap.size ≤ gb356));replace HB:=zm0_ (zn8_ (zl1 HB GE355) hb);have NB355_356:=zm0_ ((by rw [hg];exact Nat.ne_of_lt (zo3_ (g:=gb355) (o:=.cells #[.string a0_0,.string a0_1] 36 (0,0)) (zb BK355)) : gb355 ≠ gb356));have NB356_355:=zm0_ ((by rw [hg];exact Nat.ne_of_gt (zo3_ (g:=gb355) (o:=.cells #[.string a0_0,.string a0_1] 36 (0,0)) (zb BK355)) : gb356 ≠ gb355));replace BK355:=zm0_ (zm5_ (zb BK355) hb);clear hb hbox hg;have hnb17:=NB355_356.out;have hnc17:=NB356_355.out;have hcz18_0 : w16.cell? ⟨gb355,0,none⟩ = some (.string a0_0):=(zm6_ BK355.out 0).trans rfl;have hcz18_1 : w16.cell? ⟨gb355,1,none⟩ = some (.string a0_1):=(zm6_ BK355.out 1).trans rfl;have hfz18_0:=zm7_ BK355.out 0;have hfz18_1:=zm7_ BK355.out 1;have hcz19_0 : w16.cell? ⟨gb356,0,none⟩ = some (.string a1_0):=(zm6_ BK356.out 0).trans rfl;have hcz19_1 : w16.cell? ⟨gb356,1,none⟩ = some (.string a1_1):=(zm6_ BK356.out 1).trans rfl;have hfz19_0:=zm7_ BK356.out 0;have hfz19_1:=zm7_ BK356.out 1))
  go_ret
  exact ⟨ze,by repeat (first|(with_reducible first|exact HB.out|apply zm3_|apply zm2_|apply zm4_|refine zm1_ ?_ GE355.out|refine zm1_ ?_ GE356.out)|exact HB.out)⟩
end Go.Proofs.YthflimnpiglgbaaGreatDoor.A
end
section
namespace Go.Proofs.YthflimnpiglgbaaGreatDoor.A
open Go.RowKit Go.Proofs.YthflimnpiglgbaaGreatDoorW.PrintWords Go.Proofs.YthflimnpiglgbaaGreatDoorW.PrintLast Go.Proofs.YthflimnpiglgbaaGreatDoorW.PrintMore
attribute [local go_sem] max2_int min2_int max_two min_two max_three min_three max_four min_four   -- for this text's walks alone
set_option linter.unusedVariables false
set_option linter.unusedSimpArgs false

def laws_eqFieldS.l0 : Nat → List (S36) → List (S36) → Int → Option (Bool)
 | 0,_,_,_ => none
 | k + 1,x0,x1,x5 => if x5 < (x0.length : Int) then (if 0 ≤ x5 then (if x5 < (x1.length : Int) then ((laws_eqField.f ((rd_T36 x0 x5).f0) ((rd_T36 x0 x5).f1) ((rd_T36 x1 x5).f0) ((rd_T36 x1 x5).f1)).bind fun t359 => (if t359 = true then (laws_eqFieldS.l0 k x0 x1 (wrap64 (x5 + 1))) else (some false))) else (none)) else (none)) else (some true)
def laws_eqFieldS.f (k : Nat) (l0 : List (S36)) (l1 : List (S36)) : Option (Bool):=if (l0.length : Int) = (l1.length : Int) then (laws_eqFieldS.l0 k l0 l1 0) else (some false)
theorem laws_eqFieldS.mono_l : ∀ k,(∀ y0 y1 y2,LeO (laws_eqFieldS.l0 k y0 y1 y2) (laws_eqFieldS.l0 (k + 1) y0 y1 y2))
 | 0 => fun _ _ _ r h => by simp [laws_eqFieldS.l0] at h
 | k + 1 => by
  have ih0:=laws_eqFieldS.mono_l k
  ·
   intro y0 y1 y2
   unfold laws_eqFieldS.l0
   repeat' first
   | (with_reducible exact ih0 _ _ _)
   | (with_reducible exact LeO.refl _)
   | (with_reducible exact LeO.none _)
   | (with_reducible refine LeO.ite ?_ ?_)
   | (with_reducible refine LeO.bind ?_ (fun _ => ?_))
   | exact ih0 _ _ _
   | exact LeO.none _
   | refine LeO.ite ?_ ?_
   | refine LeO.bind ?_ (fun _ => ?_)
theorem laws_eqFieldS.mono : ∀ a0 a1 k,LeO (laws_eqFieldS.f k a0 a1) (laws_eqFieldS.f (k + 1) a0 a1):=by
 intro a0 a1 k
 have ih0:=laws_eqFieldS.mono_l k
 unfold laws_eqFieldS.f
 repeat' first
  | (with_reducible exact ih0 _ _ _)
  | (with_reducible exact LeO.refl _)
  | (with_reducible exact LeO.none _)
  | (with_reducible refine LeO.ite ?_ ?_)
  | (with_reducible refine LeO.bind ?_ (fun _ => ?_))
  | exact ih0 _ _ _
  | exact LeO.none _
  | refine LeO.ite ?_ ?_
  | refine LeO.bind ?_ (fun _ => ?_)
def laws_eqFieldS.T6 : Bool × List (List Nat × List Nat):=(true,[([],[]),([],[]),([0,1],[0,1]),([2],[2]),([],[]),([],[]),([4,5],[4,5]),([6],[6]),([3,7],[3,7]),([8],[8])])
def laws_eqFieldS.B6 : List Nat:=[0,0,3,7,0,0,48,112,255,511]
theorem laws_eqFieldS.tab6 : rtab .any (opsOf Tryz.f21 6) = laws_eqFieldS.T6:=by kernel_rfl
theorem laws_eqFieldS.bits6 : waitsOk laws_eqFieldS.T6.2 laws_eqFieldS.B6 = true:=by kernel_rfl
set_option maxHeartbeats 8000000 in
set_option maxRecDepth 100000 in
theorem laws_eqFieldS.calls (k : Nat) (A0 : Option Addr) (c0 : Nat) (l0 : List (S36)) (A1 : Option Addr) (c1 : Nat) (l1 : List (S36)) (r : Bool) (w : World) (hr0 : Kd.C k36 w A0 l0.length l0) (hc0 : l0.length ≤ c0) (hr1 : Kd.C k36 w A1 l1.length l1) (hc1 : l1.length ≤ c1) (h : laws_eqFieldS.f k l0 l1 = some r) :
 Calls Tryz.prog 21 #[.slice A0 l0.length c0,.slice A1 l1.length c1] w fun e w' => e = .returned (.bool r) ∧ Below w.heap.size w w':=by
 have hu36:=Tryz.underlying36
 have HR0:=zm0_ hr0
 have HC0:=zm0_ hc0
 clear hr0 hc0
 have HR1:=zm0_ hr1
 have HC1:=zm0_ hc1
 clear hr1 hc1
 have HB:=zm0_ (Below.refl w.heap.size w)
 have H : (if (l0.length : Int) = (l1.length : Int) then (laws_eqFieldS.l0 k l0 l1 0) else (some false)) = some r:=h
 clear h
 by_cases c3 : (l0.length : Int) = (l1.length : Int)
 ·
  rw [if_pos c3] at H
  have c3b0 : ((l0.length : Int) == (l1.length : Int)) = true:=beq_iff_eq.mpr c3
  have c3b1 : ((l0.length : Int) != (l1.length : Int)) = false:=bne_eq_false_iff_eq.mpr c3
  have c3b2 : (l0.length == l1.length) = true:=by first|simpa using c3|(simp at c3 ⊢;omega)
  clear c3
  have H':=zm0_ H
  clear H
  go_enter Tryz.func21,Tryz.ntmps21
  go_wp2
  go_loopg [5] k (fun kq v5 w' => ∃ (x5_1 : Int),v5 = .int .i64 x5_1 ∧ Aside0 (laws_eqFieldS.l0 kq l0 l1 x5_1 = some r) ∧ Aside0 (kq ≤ k) ∧ Aside0 (Below w.heap.size w w'))
  case atStart => exact ⟨(0),zz,H',⟨Nat.le_refl _⟩,⟨zl HB⟩⟩
  case round =>
   clear H'
   try clear c1
   try clear c2
   try clear p2
   try clear c3
   try clear c3b0
   try clear c3b1
   try clear c3b2
   obtain ⟨x5_1,rfl,HA,HK1,HB⟩:=hrel
   cases gk with
   | zero => exact absurd HA.out (by simp [laws_eqFieldS.l0])
   | succ k1 =>
    have H:=HA.out
    clear HA
    simp only [laws_eqFieldS.l0] at H
    by_cases c4 : x5_1 < (l0.length : Int)
    ·
     rw [if_pos c4] at H
     have c4b0 : decide (x5_1 < (l0.length : Int)) = true:=decide_eq_true c4
     clear c4
     by_cases c5 : 0 ≤ x5_1
     ·
      rw [if_pos c5] at H
      have c5b0 : decide (0 ≤ x5_1) = true:=decide_eq_true c5
      clear c5
      by_cases c6 : x5_1 < (l1.length : Int)
      ·
       rw [if_pos c6] at H
       have c6b0 : decide (x5_1 < (l1.length : Int)) = true:=decide_eq_true c6
       clear c6
       replace H:=zq1_ H
       obtain ⟨t359,A70,H⟩:=H
       replace H : (if t359 = true then (laws_eqFieldS.l0 k1 l0 l1 (wrap64 (x5_1 + 1))) else (some false)) = some r:=H
       have A7:=zm0_ A70
       clear A70
       by_cases c8 : t359 = true
       ·
        subst c8
        rw [if_pos rfl] at H
        have H':=zm0_ H
        clear H
        try go_wp2
        replace HB:=zm0_ (zm4_ HB.out)
        have p357 : 0 ≤ (x5_1 : Int):=of_decide_eq_true (by first|(with_reducible assumption)|assumption)
        have q357 : x5_1 < (l0.length : Int):=of_decide_eq_true (by first|(with_reducible assumption)|assumption)
        obtain ⟨ad357,e357,hx357_0,hx357_1⟩:=at_T36 HR0.out x5_1 p357 q357
        have hw357_1:=hx357_1
        have hw357_0:=hx357_0
        cases e357
        replace hx357_0:=(HB.out.cell (zq2_ w _ hx357_0)).trans hx357_0
        replace hx357_1:=(HB.out.cell (zq2_ w _ hx357_1)).trans hx357_1
        replace p357:=eq_true p357
        replace q357:=eq_true q357
        have p358 : 0 ≤ (x5_1 : Int):=of_decide_eq_true (by first|(with_reducible assumption)|assumption)
        have q358 : x5_1 < (l1.length : Int):=of_decide_eq_true (by first|(with_reducible assumption)|assumption)
        obtain ⟨ad358,e358,hx358_0,hx358_1⟩:=at_T36 HR1.out x5_1 p358 q358
        have hw358_1:=hx358_1
        have hw358_0:=hx358_0
        cases e358
        replace hx358_0:=(HB.out.cell (zq2_ w _ hx358_0)).trans hx358_0
        replace hx358_1:=(HB.out.cell (zq2_ w _ hx358_1)).trans hx358_1
        replace p358:=eq_true p358
        replace q358:=eq_true q358
        refine start_ (n:=10) (S:=fun w' => w'.cell? (ad357.add ((x5_1).toNat * 2)) = some (.string ((rd_T36 l0 x5_1).f0)) ∧ w'.cell? ⟨(ad357.add ((x5_1).toNat * 2)).block,(ad357.add ((x5_1).toNat * 2)).off + 1,none⟩ = some (.string ((rd_T36 l0 x5_1).f1)) ∧ w'.cell? (ad358.add ((x5_1).toNat * 2)) = some (.string ((rd_T36 l1 x5_1).f0)) ∧ w'.cell? ⟨(ad358.add ((x5_1).toNat * 2)).block,(ad358.add ((x5_1).toNat * 2)).off + 1,none⟩ = some (.string ((rd_T36 l1 x5_1).f1))) (ds:=[]) #[Z,Z,Z,Z,Z,Z,Z,Z,Z,Z] (by kernel_rfl) rfl rfl ⟨((HB.out.cell (zq2_ w _ hw357_0)).trans hw357_0),((HB.out.cell (zq2_ w _ hw357_1)).trans hw357_1),((HB.out.cell (zq2_ w _ hw358_0)).trans hw358_0),((HB.out.cell (zq2_ w _ hw358_1)).trans hw358_1)⟩ (fun hHeld => ?_);refine with_tabW laws_eqFieldS.tab6 laws_eqFieldS.bits6 (fun HT_ HW_ => ?_)
        generalize wr.drew = w9 at HB hx357_0 hx357_1 hx358_0 hx358_1 hHeld ⊢
        refine pure_ (i:=0) (N:=some 17) (v:=?_) (a':=?_) #[Y,Z,Z,Z,Z,Z,Z,Z,Z,Z] rfl rfl (any_of HT_.out (by kernel_rfl)) (fun _ _ _ h => h) (Or.inl ⟨by rfl,?_⟩) ?_ ?_
        rotate_left
        ·
         intro w'
         go_simp
         with_reducible rfl
        rotate_left
        ·
         simp only [Act.put,lA_,lB_,lC_,i64_w,i32_w]
         rfl
        refine pure_ (i:=1) (N:=some 18) (v:=?_) (a':=?_) #[Y,Y,Z,Z,Z,Z,Z,Z,Z,Z] rfl rfl (any_of HT_.out (by kernel_rfl)) (fun _ _ _ h => h) (Or.inl ⟨by rfl,?_⟩) ?_ ?_
        rotate_left
        ·
         intro w'
         go_simp
         with_reducible rfl
        rotate_left
        ·
         simp only [Act.put,lA_,lB_,lC_,i64_w,i32_w]
         rfl
        refine pure_ (i:=2) (N:=some 19) (v:=?_) (a':=?_) #[Y,Y,Y,Z,Z,Z,Z,Z,Z,Z] rfl rfl (any_of HT_.out (by kernel_rfl)) (fun _ _ _ h => h) (Or.inl ⟨by rfl,?_⟩) ?_ ?_
        rotate_left
        ·
         intro w'
         go_simp
         with_reducible rfl
        rotate_left
        ·
         simp only [Act.put,lA_,lB_,lC_,i64_w,i32_w]
         rfl
        refine pure_ (i:=4) (N:=some 21) (v:=?_) (a':=?_) #[Y,Y,Y,Z,Y,Z,Z,Z,Z,Z] rfl rfl (any_of HT_.out (by kernel_rfl)) (fun _ _ _ h => h) (Or.inl ⟨by rfl,?_⟩) ?_ ?_
        rotate_left
        ·
         intro w'
         go_simp
         with_reducible rfl
        rotate_left
        ·
         simp only [Act.put,lA_,lB_,lC_,i64_w,i32_w]
         rfl
        refine pure_ (i:=5) (N:=some 22) (v:=?_) (a':=?_) #[Y,Y,Y,Z,Y,Y,Z,Z,Z,Z] rfl rfl (any_of HT_.out (by kernel_rfl)) (fun _ _ _ h => h) (Or.inl ⟨by rfl,?_⟩) ?_ ?_
        rotate_left
        ·
         intro w'
         go_simp
         with_reducible rfl
        rotate_left
        ·
         simp only [Act.put,lA_,lB_,lC_,i64_w,i32_w]
         rfl
        refine pure_ (i:=6) (N:=some 23) (v:=?_) (a':=?_) #[Y,Y,Y,Z,Y,Y,Y,Z,Z,Z] rfl rfl (any_of HT_.out (by kernel_rfl)) (fun _ _ _ h => h) (Or.inl ⟨by rfl,?_⟩) ?_ ?_
        rotate_left
        ·
         intro w'
         go_simp
         with_reducible rfl
        rotate_left
        ·
         simp only [Act.put,lA_,lB_,lC_,i64_w,i32_w]
         rfl
        refine take_ (i:=3) (N:=some 20) (v:=?_) (a':=?_) #[Y,Y,Y,Y,Y,Y,Y,Z,Z,Z] rfl rfl (take_ofW HT_.out HW_.out (by kernel_rfl)) (fun _ _ _ h => h) (Or.inl ⟨by rfl,?_⟩) hHeld ?_ ?_
        rotate_left
        ·
         rintro w' ⟨s0,s1,s2,s3⟩
         go_simp
         with_reducible rfl
        rotate_left
        ·
         simp only [Act.put,lA_,lB_,lC_,i64_w,i32_w]
         rfl
        refine take_ (i:=7) (N:=some 24) (v:=?_) (a':=?_) #[Y,Y,Y,Y,Y,Y,Y,Y,Z,Z] rfl rfl (take_ofW HT_.out HW_.out (by kernel_rfl)) (fun _ _ _ h => h) (Or.inl ⟨by rfl,?_⟩) hHeld ?_ ?_
        rotate_left
        ·
         rintro w' ⟨s0,s1,s2,s3⟩
         go_simp
         with_reducible rfl
        rotate_left
        ·
         simp only [Act.put,lA_,lB_,lC_,i64_w,i32_w]
         rfl
        refine one_ (i:=8) (N:=some 25) #[Y,Y,Y,Y,Y,Y,Y,Y,Y,Z] rfl rfl (one_of HT_.out (by kernel_rfl)) (by decide) (fun K hK => ?_)
        refine goes_ Tryz.func36 (by kernel_rfl) rfl #[.agg #[.string ((rd_T36 l0 x5_1).f0),.string ((rd_T36 l0 x5_1).f1)],.agg #[.string ((rd_T36 l1 x5_1).f0),.string ((rd_T36 l1 x5_1).f1)]] (by rfl) rfl rfl zy ?_
        with_reducible refine (laws_eqField.calls ((rd_T36 l0 x5_1).f0) ((rd_T36 l0 x5_1).f1) ((rd_T36 l1 x5_1).f0) ((rd_T36 l1 x5_1).f1) true _ A7.out).mono ?_
        rintro e w10 ⟨rfl,hb⟩
        refine ⟨_,rfl,?_⟩
        replace HB:=zm0_ (zn8_ (zl HB) hb)
        (try clear hb)
        (try clear hb2)
        (try clear hk)
        (try clear hi)
        refine hK.out _ _ ⟨((HB.out.cell (zq2_ w _ hw357_0)).trans hw357_0),((HB.out.cell (zq2_ w _ hw357_1)).trans hw357_1),((HB.out.cell (zq2_ w _ hw358_0)).trans hw358_0),((HB.out.cell (zq2_ w _ hw358_1)).trans hw358_1)⟩ (fun hHeld => ?_)
        clear hK K
        refine norm_ (a':=?_) ?_ ?_
        rotate_left
        ·
         show Act.put _ (some 25) _ = _
         simp only [Act.put,lA_,lB_,lC_,i64_w,i32_w]
         rfl
        refine pure_ (i:=9) (N:=some 26) (v:=?_) (a':=?_) #[Y,Y,Y,Y,Y,Y,Y,Y,Y,Y] rfl rfl (any_of HT_.out (by kernel_rfl)) (fun _ _ _ h => h) (Or.inl ⟨by rfl,?_⟩) ?_ ?_
        rotate_left
        ·
         intro w'
         go_simp
         with_reducible rfl
        rotate_left
        ·
         simp only [Act.put,lA_,lB_,lC_,i64_w,i32_w]
         rfl
        refine done_ (done_of HT_.out (by kernel_rfl)) ?_
        try go_wp2
        go_roundg k1
        case measure => have:=HK1.out;omega
        case rel => exact ⟨(wrap64 (x5_1 + 1)),zz,H',⟨by have:=HK1.out;omega⟩,⟨zl HB⟩⟩
       ·
        replace c8:=Bool.eq_false_iff.mpr c8
        subst c8
        rw [if_neg (show ¬ (false = true) by decide)] at H
        obtain rfl:=Option.some.inj H
        try go_wp2
        replace HB:=zm0_ (zm4_ HB.out)
        have p357 : 0 ≤ (x5_1 : Int):=of_decide_eq_true (by first|(with_reducible assumption)|assumption)
        have q357 : x5_1 < (l0.length : Int):=of_decide_eq_true (by first|(with_reducible assumption)|assumption)
        obtain ⟨ad357,e357,hx357_0,hx357_1⟩:=at_T36 HR0.out x5_1 p357 q357
        have hw357_1:=hx357_1
        have hw357_0:=hx357_0
        cases e357
        replace hx357_0:=(HB.out.cell (zq2_ w _ hx357_0)).trans hx357_0
        replace hx357_1:=(HB.out.cell (zq2_ w _ hx357_1)).trans hx357_1
        replace p357:=eq_true p357
        replace q357:=eq_true q357
        have p358 : 0 ≤ (x5_1 : Int):=of_decide_eq_true (by first|(with_reducible assumption)|assumption)
        have q358 : x5_1 < (l1.length : Int):=of_decide_eq_true (by first|(with_reducible assumption)|assumption)
        obtain ⟨ad358,e358,hx358_0,hx358_1⟩:=at_T36 HR1.out x5_1 p358 q358
        have hw358_1:=hx358_1
        have hw358_0:=hx358_0
        cases e358
        replace hx358_0:=(HB.out.cell (zq2_ w _ hx358_0)).trans hx358_0
        replace hx358_1:=(HB.out.cell (zq2_ w _ hx358_1)).trans hx358_1
        replace p358:=eq_true p358
        replace q358:=eq_true q358
        refine start_ (n:=10) (S:=fun w' => w'.cell? (ad357.add ((x5_1).toNat * 2)) = some (.string ((rd_T36 l0 x5_1).f0)) ∧ w'.cell? ⟨(ad357.add ((x5_1).toNat * 2)).block,(ad357.add ((x5_1).toNat * 2)).off + 1,none⟩ = some (.string ((rd_T36 l0 x5_1).f1)) ∧ w'.cell? (ad358.add ((x5_1).toNat * 2)) = some (.string ((rd_T36 l1 x5_1).f0)) ∧ w'.cell? ⟨(ad358.add ((x5_1).toNat * 2)).block,(ad358.add ((x5_1).toNat * 2)).off + 1,none⟩ = some (.string ((rd_T36 l1 x5_1).f1))) (ds:=[]) #[Z,Z,Z,Z,Z,Z,Z,Z,Z,Z] (by kernel_rfl) rfl rfl ⟨((HB.out.cell (zq2_ w _ hw357_0)).trans hw357_0),((HB.out.cell (zq2_ w _ hw357_1)).trans hw357_1),((HB.out.cell (zq2_ w _ hw358_0)).trans hw358_0),((HB.out.cell (zq2_ w _ hw358_1)).trans hw358_1)⟩ (fun hHeld => ?_);refine with_tabW laws_eqFieldS.tab6 laws_eqFieldS.bits6 (fun HT_ HW_ => ?_)
        generalize wr.drew = w11 at HB hx357_0 hx357_1 hx358_0 hx358_1 hHeld ⊢
        refine pure_ (i:=0) (N:=some 17) (v:=?_) (a':=?_) #[Y,Z,Z,Z,Z,Z,Z,Z,Z,Z] rfl rfl (any_of HT_.out (by kernel_rfl)) (fun _ _ _ h => h) (Or.inl ⟨by rfl,?_⟩) ?_ ?_
        rotate_left
        ·
         intro w'
         go_simp
         with_reducible rfl
        rotate_left
        ·
         simp only [Act.put,lA_,lB_,lC_,i64_w,i32_w]
         rfl
        refine pure_ (i:=1) (N:=some 18) (v:=?_) (a':=?_) #[Y,Y,Z,Z,Z,Z,Z,Z,Z,Z] rfl rfl (any_of HT_.out (by kernel_rfl)) (fun _ _ _ h => h) (Or.inl ⟨by rfl,?_⟩) ?_ ?_
        rotate_left
        ·
         intro w'
         go_simp
         with_reducible rfl
        rotate_left
        ·
         simp only [Act.put,lA_,lB_,lC_,i64_w,i32_w]
         rfl
        refine pure_ (i:=2) (N:=some 19) (v:=?_) (a':=?_) #[Y,Y,Y,Z,Z,Z,Z,Z,Z,Z] rfl rfl (any_of HT_.out (by kernel_rfl)) (fun _ _ _ h => h) (Or.inl ⟨by rfl,?_⟩) ?_ ?_
        rotate_left
        ·
         intro w'
         go_simp
         with_reducible rfl
        rotate_left
        ·
         simp only [Act.put,lA_,lB_,lC_,i64_w,i32_w]
         rfl
        refine pure_ (i:=4) (N:=some 21) (v:=?_) (a':=?_) #[Y,Y,Y,Z,Y,Z,Z,Z,Z,Z] rfl rfl (any_of HT_.out (by kernel_rfl)) (fun _ _ _ h => h) (Or.inl ⟨by rfl,?_⟩) ?_ ?_
        rotate_left
        ·
         intro w'
         go_simp
         with_reducible rfl
        rotate_left
        ·
         simp only [Act.put,lA_,lB_,lC_,i64_w,i32_w]
         rfl
        refine pure_ (i:=5) (N:=some 22) (v:=?_) (a':=?_) #[Y,Y,Y,Z,Y,Y,Z,Z,Z,Z] rfl rfl (any_of HT_.out (by kernel_rfl)) (fun _ _ _ h => h) (Or.inl ⟨by rfl,?_⟩) ?_ ?_
        rotate_left
        ·
         intro w'
         go_simp
         with_reducible rfl
        rotate_left
        ·
         simp only [Act.put,lA_,lB_,lC_,i64_w,i32_w]
         rfl
        refine pure_ (i:=6) (N:=some 23) (v:=?_) (a':=?_) #[Y,Y,Y,Z,Y,Y,Y,Z,Z,Z] rfl rfl (any_of HT_.out (by kernel_rfl)) (fun _ _ _ h => h) (Or.inl ⟨by rfl,?_⟩) ?_ ?_
        rotate_left
        ·
         intro w'
         go_simp
         with_reducible rfl
        rotate_left
        ·
         simp only [Act.put,lA_,lB_,lC_,i64_w,i32_w]
         rfl
        refine take_ (i:=3) (N:=some 20) (v:=?_) (a':=?_) #[Y,Y,Y,Y,Y,Y,Y,Z,Z,Z] rfl rfl (take_ofW HT_.out HW_.out (by kernel_rfl)) (fun _ _ _ h => h) (Or.inl ⟨by rfl,?_⟩) hHeld ?_ ?_
        rotate_left
        ·
         rintro w' ⟨s0,s1,s2,s3⟩
         go_simp
         with_reducible rfl
        rotate_left
        ·
         simp only [Act.put,lA_,lB_,lC_,i64_w,i32_w]
         rfl
        refine take_ (i:=7) (N:=some 24) (v:=?_) (a':=?_) #[Y,Y,Y,Y,Y,Y,Y,Y,Z,Z] rfl rfl (take_ofW HT_.out HW_.out (by kernel_rfl)) (fun _ _ _ h => h) (Or.inl ⟨by rfl,?_⟩) hHeld ?_ ?_
        rotate_left
        ·
         rintro w' ⟨s0,s1,s2,s3⟩
         go_simp
         with_reducible rfl
        rotate_left
        ·
         simp only [Act.put,lA_,lB_,lC_,i64_w,i32_w]
         rfl
        refine one_ (i:=8) (N:=some 25) #[Y,Y,Y,Y,Y,Y,Y,Y,Y,Z] rfl rfl (one_of HT_.out (by kernel_rfl)) (by decide) (fun K hK => ?_)
        refine goes_ Tryz.func36 (by kernel_rfl) rfl #[.agg #[.string ((rd_T36 l0 x5_1).f0),.string ((rd_T36 l0 x5_1).f1)],.agg #[.string ((rd_T36 l1 x5_1).f0),.string ((rd_T36 l1 x5_1).f1)]] (by rfl) rfl rfl zy ?_
        with_reducible refine (laws_eqField.calls ((rd_T36 l0 x5_1).f0) ((rd_T36 l0 x5_1).f1) ((rd_T36 l1 x5_1).f0) ((rd_T36 l1 x5_1).f1) false _ A7.out).mono ?_
        rintro e w12 ⟨rfl,hb⟩
        refine ⟨_,rfl,?_⟩
        replace HB:=zm0_ (zn8_ (zl HB) hb)
        (try clear hb)
        (try clear hb2)
        (try clear hk)
        (try clear hi)
        refine hK.out _ _ ⟨((HB.out.cell (zq2_ w _ hw357_0)).trans hw357_0),((HB.out.cell (zq2_ w _ hw357_1)).trans hw357_1),((HB.out.cell (zq2_ w _ hw358_0)).trans hw358_0),((HB.out.cell (zq2_ w _ hw358_1)).trans hw358_1)⟩ (fun hHeld => ?_)
        clear hK K
        refine norm_ (a':=?_) ?_ ?_
        rotate_left
        ·
         show Act.put _ (some 25) _ = _
         simp only [Act.put,lA_,lB_,lC_,i64_w,i32_w]
         rfl
        refine pure_ (i:=9) (N:=some 26) (v:=?_) (a':=?_) #[Y,Y,Y,Y,Y,Y,Y,Y,Y,Y] rfl rfl (any_of HT_.out (by kernel_rfl)) (fun _ _ _ h => h) (Or.inl ⟨by rfl,?_⟩) ?_ ?_
        rotate_left
        ·
         intro w'
         go_simp
         with_reducible rfl
        rotate_left
        ·
         simp only [Act.put,lA_,lB_,lC_,i64_w,i32_w]
         rfl
        refine done_ (done_of HT_.out (by kernel_rfl)) ?_
        try go_wp2
        go_ret
        exact ⟨ze,by repeat (first|(with_reducible first|exact HB.out|apply zm3_|apply zm2_|apply zm4_)|exact HB.out)⟩
      ·
       rw [if_neg c6] at H
       exact absurd H (by simp)
     ·
      rw [if_neg c5] at H
      exact absurd H (by simp)
    ·
     rw [if_neg c4] at H
     have c4b0 : decide (x5_1 < (l0.length : Int)) = false:=decide_eq_false c4
     clear c4
     obtain rfl:=Option.some.inj H
     go_wp2
     go_ret
     exact ⟨ze,by repeat (first|(with_reducible first|exact HB.out|apply zm3_|apply zm2_|apply zm4_)|exact HB.out)⟩
 ·
  rw [if_neg c3] at H
  have c3b0 : ((l0.length : Int) == (l1.length : Int)) = false:=beq_eq_false_iff_ne.mpr c3
  have c3b1 : ((l0.length : Int) != (l1.length : Int)) = true:=bne_iff_ne.mpr c3
  have c3b2 : (l0.length == l1.length) = false:=by first|simpa using c3|(simp at c3 ⊢;omega)
  obtain rfl:=Option.some.inj H
  go_enter Tryz.func21,Tryz.ntmps21
  go_wp2
  go_ret
  exact ⟨ze,by repeat (first|(with_reducible first|exact HB.out|apply zm3_|apply zm2_|apply zm4_)|exact HB.out)⟩
end Go.Proofs.YthflimnpiglgbaaGreatDoor.A
end
section
namespace Go.Proofs.YthflimnpiglgbaaGreatDoor.A
open Go.RowKit Go.Proofs.YthflimnpiglgbaaGreatDoorW.PrintWords Go.Proofs.YthflimnpiglgbaaGreatDoorW.PrintLast Go.Proofs.YthflimnpiglgbaaGreatDoorW.PrintMore
attribute [local go_sem] max2_int min2_int max_two min_two max_three min_three max_four min_four   -- for this text's walks alone
set_option linter.unusedVariables false
set_option linter.unusedSimpArgs false

def laws_eqTable.f (k : Nat) (a0_0 : Int) (l0_1 : List (S36)) (a1_0 : Int) (l1_1 : List (S36)) : Option (Bool):=if a0_0 = a1_0 then ((laws_eqFieldS.f k l0_1 l1_1).bind fun t362 => (if t362 = true then (some true) else (some false))) else (some false)
theorem laws_eqTable.mono : ∀ a0 a1 a2 a3 k,LeO (laws_eqTable.f k a0 a1 a2 a3) (laws_eqTable.f (k + 1) a0 a1 a2 a3):=by
 intro a0 a1 a2 a3 k
 unfold laws_eqTable.f
 repeat' first
  | (with_reducible exact laws_eqFieldS.mono _ _ _)
  | (with_reducible exact LeO.refl _)
  | (with_reducible exact LeO.none _)
  | (with_reducible refine LeO.ite ?_ ?_)
  | (with_reducible refine LeO.bind ?_ (fun _ => ?_))
  | exact laws_eqFieldS.mono _ _ _
  | exact LeO.none _
  | refine LeO.ite ?_ ?_
  | refine LeO.bind ?_ (fun _ => ?_)
set_option maxHeartbeats 8000000 in
set_option maxRecDepth 100000 in
theorem laws_eqTable.calls (k : Nat) (a0_0 : Int) (A0_1 : Option Addr) (c0_1 : Nat) (l0_1 : List (S36)) (a1_0 : Int) (A1_1 : Option Addr) (c1_1 : Nat) (l1_1 : List (S36)) (r : Bool) (w : World) (hr0_1 : Kd.C k36 w A0_1 l0_1.length l0_1) (hc0_1 : l0_1.length ≤ c0_1) (hr1_1 : Kd.C k36 w A1_1 l1_1.length l1_1) (hc1_1 : l1_1.length ≤ c1_1) (h : laws_eqTable.f k a0_0 l0_1 a1_0 l1_1 = some r) :
 Calls Tryz.prog 12 #[.agg #[.int .i64 a0_0,.slice A0_1 l0_1.length c0_1],.agg #[.int .i64 a1_0,.slice A1_1 l1_1.length c1_1]] w fun e w' => e = .returned (.bool r) ∧ Below w.heap.size w w':=by
 have hu32:=Tryz.underlying32
 have HR0_1:=zm0_ hr0_1
 have HC0_1:=zm0_ hc0_1
 clear hr0_1 hc0_1
 have HR1_1:=zm0_ hr1_1
 have HC1_1:=zm0_ hc1_1
 clear hr1_1 hc1_1
 have HB:=zm0_ (Below.refl w.heap.size w)
 have H : (if a0_0 = a1_0 then ((laws_eqFieldS.f k l0_1 l1_1).bind fun t362 => (if t362 = true then (some true) else (some false))) else (some false)) = some r:=h
 clear h
 by_cases c3 : a0_0 = a1_0
 ·
  rw [if_pos c3] at H
  have c3b0 : (a0_0 == a1_0) = true:=beq_iff_eq.mpr c3
  have c3b1 : (a0_0 != a1_0) = false:=bne_eq_false_iff_eq.mpr c3
  clear c3
  replace H:=zq1_ H
  obtain ⟨t362,A40,H⟩:=H
  replace H : (if t362 = true then (some true) else (some false)) = some r:=H
  have A4:=zm0_ A40
  clear A40
  by_cases c5 : t362 = true
  ·
   subst c5
   rw [if_pos rfl] at H
   obtain rfl:=Option.some.inj H
   go_enter Tryz.func12,Tryz.ntmps12
   go_wp2_with (first|((with_reducible refine gate_dst (N:=2) rfl ?_);refine box_event ?hg (N:=2) ?hd (cs:=#[.int .i64 a0_0,.slice A0_1 l0_1.length c0_1]) (t:=32) ?hr ?_;(case hd => rfl);(case hg => rfl);(case hr => first|(go_simp;done)|(go_simp;rfl));intro gb360 hg w6 hbox hb;have BK360:=zm0_ (hbox);have GW360:=zm0_ ((by rw [hg];exact (zn9_ (zl HB)) : w.heap.size ≤ gb360));have GE360:=zm0_ ((by rw [hg];exact (zn9_ (zl HB)) : w.heap.size ≤ gb360));replace HB:=zm0_ (zn8_ (zl HB) hb);clear hb hbox hg)|((with_reducible refine gate_dst (N:=3) rfl ?_);refine box_event ?hg (N:=3) ?hd (cs:=#[.int .i64 a1_0,.slice A1_1 l1_1.length c1_1]) (t:=32) ?hr ?_;(case hd => rfl);(case hg => rfl);(case hr => first|(go_simp;done)|(go_simp;rfl));intro gb361 hg w7 hbox hb;have BK361:=zm0_ (hbox);have GW361:=zm0_ ((by rw [hg];exact (zn9_ (zl1 HB GE360)) : w.heap.size ≤ gb361));have GE361:=zm0_ ((by rw [hg];exact (zn9_ (zl1 HB GE360)) : w.heap.size ≤ gb361));replace HB:=zm0_ (zn8_ (zl1 HB GE360) hb);have NB360_361:=zm0_ ((by rw [hg];exact Nat.ne_of_lt (zo3_ (g:=gb360) (o:=.cells #[.int .i64 a0_0,.slice A0_1 l0_1.length c0_1] 32 (0,0)) (zb BK360)) : gb360 ≠ gb361));have NB361_360:=zm0_ ((by rw [hg];exact Nat.ne_of_gt (zo3_ (g:=gb360) (o:=.cells #[.int .i64 a0_0,.slice A0_1 l0_1.length c0_1] 32 (0,0)) (zb BK360)) : gb361 ≠ gb360));replace BK360:=zm0_ (zm5_ (zb BK360) hb);clear hb hbox hg;have hnb8:=NB360_361.out;have hnc8:=NB361_360.out;have hcz9_0 : w7.cell? ⟨gb360,0,none⟩ = some (.int .i64 a0_0):=(zm6_ BK360.out 0).trans rfl;have hcz9_1 : w7.cell? ⟨gb360,1,none⟩ = some (.slice A0_1 l0_1.length c0_1):=(zm6_ BK360.out 1).trans rfl;have hfz9_0:=zm7_ BK360.out 0;have hfz9_1:=zm7_ BK360.out 1;have hcz10_0 : w7.cell? ⟨gb361,0,none⟩ = some (.int .i64 a1_0):=(zm6_ BK361.out 0).trans rfl;have hcz10_1 : w7.cell? ⟨gb361,1,none⟩ = some (.slice A1_1 l1_1.length c1_1):=(zm6_ BK361.out 1).trans rfl;have hfz10_0:=zm7_ BK361.out 0;have hfz10_1:=zm7_ BK361.out 1)|((with_reducible refine gate_callee (f:=21) rfl ?_);refine goesL_ (some 14) rfl rfl Tryz.func21 (by kernel_rfl) rfl #[.slice A0_1 l0_1.length c0_1,.slice A1_1 l1_1.length c1_1] rfl zy ?_;(with_reducible refine (laws_eqFieldS.calls k _ _ l0_1 _ _ l1_1 true _ ?side1 ?side2 ?side3 ?side4 A4.out).mono ?_);(case side1 => repeat (first|exact (Kd.C_below HR0_1.out HB.out)|(with_reducible refine Kd.C_alloc ?_ _)|(with_reducible refine Kd.C_drewN ?_ _)|(with_reducible refine Kd.C_drew ?_)));(case side2 => exact HC0_1.out);(case side3 => repeat (first|exact (Kd.C_below HR1_1.out HB.out)|(with_reducible refine Kd.C_alloc ?_ _)|(with_reducible refine Kd.C_drewN ?_ _)|(with_reducible refine Kd.C_drew ?_)));(case side4 => exact HC1_1.out);rintro e w11 ⟨rfl,hb⟩;refine ⟨_,rfl,?_⟩;replace BK360:=zm0_ (zm5_ (zb BK360) hb);replace BK361:=zm0_ (zm5_ (zb BK361) hb);replace HB:=zm0_ (zn8_ (zl2 HB GE360 GE361) hb);(try clear hb);(try clear hb2);(try clear hk);(try clear hi)))
   go_ret
   exact ⟨ze,by repeat (first|(with_reducible first|exact HB.out|apply zm3_|apply zm2_|apply zm4_|refine zm1_ ?_ GE360.out|refine zm1_ ?_ GE361.out)|exact HB.out)⟩
  ·
   replace c5:=Bool.eq_false_iff.mpr c5
   subst c5
   rw [if_neg (show ¬ (false = true) by decide)] at H
   obtain rfl:=Option.some.inj H
   go_enter Tryz.func12,Tryz.ntmps12
   go_wp2_with (first|((with_reducible refine gate_dst (N:=2) rfl ?_);refine box_event ?hg (N:=2) ?hd (cs:=#[.int .i64 a0_0,.slice A0_1 l0_1.length c0_1]) (t:=32) ?hr ?_;(case hd => rfl);(case hg => rfl);(case hr => first|(go_simp;done)|(go_simp;rfl));intro gb360 hg w12 hbox hb;have BK360:=zm0_ (hbox);have GW360:=zm0_ ((by rw [hg];exact (zn9_ (zl HB)) : w.heap.size ≤ gb360));have GE360:=zm0_ ((by rw [hg];exact (zn9_ (zl HB)) : w.heap.size ≤ gb360));replace HB:=zm0_ (zn8_ (zl HB) hb);clear hb hbox hg)|((with_reducible refine gate_dst (N:=3) rfl ?_);refine box_event ?hg (N:=3) ?hd (cs:=#[.int .i64 a1_0,.slice A1_1 l1_1.length c1_1]) (t:=32) ?hr ?_;(case hd => rfl);(case hg => rfl);(case hr => first|(go_simp;done)|(go_simp;rfl));intro gb361 hg w13 hbox hb;have BK361:=zm0_ (hbox);have GW361:=zm0_ ((by rw [hg];exact (zn9_ (zl1 HB GE360)) : w.heap.size ≤ gb361));have GE361:=zm0_ ((by rw [hg];exact (zn9_ (zl1 HB GE360)) : w.heap.size ≤ gb361));replace HB:=zm0_ (zn8_ (zl1 HB GE360) hb);have NB360_361:=zm0_ ((by rw [hg];exact Nat.ne_of_lt (zo3_ (g:=gb360) (o:=.cells #[.int .i64 a0_0,.slice A0_1 l0_1.length c0_1] 32 (0,0)) (zb BK360)) : gb360 ≠ gb361));have NB361_360:=zm0_ ((by rw [hg];exact Nat.ne_of_gt (zo3_ (g:=gb360) (o:=.cells #[.int .i64 a0_0,.slice A0_1 l0_1.length c0_1] 32 (0,0)) (zb BK360)) : gb361 ≠ gb360));replace BK360:=zm0_ (zm5_ (zb BK360) hb);clear hb hbox hg;have hnb14:=NB360_361.out;have hnc14:=NB361_360.out;have hcz15_0 : w13.cell? ⟨gb360,0,none⟩ = some (.int .i64 a0_0):=(zm6_ BK360.out 0).trans rfl;have hcz15_1 : w13.cell? ⟨gb360,1,none⟩ = some (.slice A0_1 l0_1.length c0_1):=(zm6_ BK360.out 1).trans rfl;have hfz15_0:=zm7_ BK360.out 0;have hfz15_1:=zm7_ BK360.out 1;have hcz16_0 : w13.cell? ⟨gb361,0,none⟩ = some (.int .i64 a1_0):=(zm6_ BK361.out 0).trans rfl;have hcz16_1 : w13.cell? ⟨gb361,1,none⟩ = some (.slice A1_1 l1_1.length c1_1):=(zm6_ BK361.out 1).trans rfl;have hfz16_0:=zm7_ BK361.out 0;have hfz16_1:=zm7_ BK361.out 1)|((with_reducible refine gate_callee (f:=21) rfl ?_);refine goesL_ (some 14) rfl rfl Tryz.func21 (by kernel_rfl) rfl #[.slice A0_1 l0_1.length c0_1,.slice A1_1 l1_1.length c1_1] rfl zy ?_;(with_reducible refine (laws_eqFieldS.calls k _ _ l0_1 _ _ l1_1 false _ ?side1 ?side2 ?side3 ?side4 A4.out).mono ?_);(case side1 => repeat (first|exact (Kd.C_below HR0_1.out HB.out)|(with_reducible refine Kd.C_alloc ?_ _)|(with_reducible refine Kd.C_drewN ?_ _)|(with_reducible refine Kd.C_drew ?_)));(case side2 => exact HC0_1.out);(case side3 => repeat (first|exact (Kd.C_below HR1_1.out HB.out)|(with_reducible refine Kd.C_alloc ?_ _)|(with_reducible refine Kd.C_drewN ?_ _)|(with_reducible refine Kd.C_drew ?_)));(case side4 => exact HC1_1.out);rintro e w17 ⟨rfl,hb⟩;refine ⟨_,rfl,?_⟩;replace BK360:=zm0_ (zm5_ (zb BK360) hb);replace BK361:=zm0_ (zm5_ (zb BK361) hb);replace HB:=zm0_ (zn8_ (zl2 HB GE360 GE361) hb);(try clear hb);(try clear hb2);(try clear hk);(try clear hi)))
   go_ret
   exact ⟨ze,by repeat (first|(with_reducible first|exact HB.out|apply zm3_|apply zm2_|apply zm4_|refine zm1_ ?_ GE360.out|refine zm1_ ?_ GE361.out)|exact HB.out)⟩
 ·
  rw [if_neg c3] at H
  have c3b0 : (a0_0 == a1_0) = false:=beq_eq_false_iff_ne.mpr c3
  have c3b1 : (a0_0 != a1_0) = true:=bne_iff_ne.mpr c3
  obtain rfl:=Option.some.inj H
  go_enter Tryz.func12,Tryz.ntmps12
  go_wp2_with (first|((with_reducible refine gate_dst (N:=2) rfl ?_);refine box_event ?hg (N:=2) ?hd (cs:=#[.int .i64 a0_0,.slice A0_1 l0_1.length c0_1]) (t:=32) ?hr ?_;(case hd => rfl);(case hg => rfl);(case hr => first|(go_simp;done)|(go_simp;rfl));intro gb360 hg w18 hbox hb;have BK360:=zm0_ (hbox);have GW360:=zm0_ ((by rw [hg];exact (zn9_ (zl HB)) : w.heap.size ≤ gb360));have GE360:=zm0_ ((by rw [hg];exact (zn9_ (zl HB)) : w.heap.size ≤ gb360));replace HB:=zm0_ (zn8_ (zl HB) hb);clear hb hbox hg)|((with_reducible refine gate_dst (N:=3) rfl ?_);refine box_event ?hg (N:=3) ?hd (cs:=#[.int .i64 a1_0,.slice A1_1 l1_1.length c1_1]) (t:=32) ?hr ?_;(case hd => rfl);(case hg => rfl);(case hr => first|(go_simp;done)|(go_simp;rfl));intro gb361 hg w19 hbox hb;have BK361:=zm0_ (hbox);have GW361:=zm0_ ((by rw [hg];exact (zn9_ (zl1 HB GE360)) : w.heap.size ≤ gb361));have GE361:=zm0_ ((by rw [hg];exact (zn9_ (zl1 HB GE360)) : w.heap.size ≤ gb361));replace HB:=zm0_ (zn8_ (zl1 HB GE360) hb);have NB360_361:=zm0_ ((by rw [hg];exact Nat.ne_of_lt (zo3_ (g:=gb360) (o:=.cells #[.int .i64 a0_0,.slice A0_1 l0_1.length c0_1] 32 (0,0)) (zb BK360)) : gb360 ≠ gb361));have NB361_360:=zm0_ ((by rw [hg];exact Nat.ne_of_gt (zo3_ (g:=gb360) (o:=.cells #[.int .i64 a0_0,.slice A0_1 l0_1.length c0_1] 32 (0,0)) (zb BK360)) : gb361 ≠ gb360));replace BK360:=zm0_ (zm5_ (zb BK360) hb);clear hb hbox hg;have hnb20:=NB360_361.out;have hnc20:=NB361_360.out;have hcz21_0 : w19.cell? ⟨gb360,0,none⟩ = some (.int .i64 a0_0):=(zm6_ BK360.out 0).trans rfl;have hcz21_1 : w19.cell? ⟨gb360,1,none⟩ = some (.slice A0_1 l0_1.length c0_1):=(zm6_ BK360.out 1).trans rfl;have hfz21_0:=zm7_ BK360.out 0;have hfz21_1:=zm7_ BK360.out 1;have hcz22_0 : w19.cell? ⟨gb361,0,none⟩ = some (.int .i64 a1_0):=(zm6_ BK361.out 0).trans rfl;have hcz22_1 : w19.cell? ⟨gb361,1,none⟩ = some (.slice A1_1 l1_1.length c1_1):=(zm6_ BK361.out 1).trans rfl;have hfz22_0:=zm7_ BK361.out 0;have hfz22_1:=zm7_ BK361.out 1))
  go_ret
  exact ⟨ze,by repeat (first|(with_reducible first|exact HB.out|apply zm3_|apply zm2_|apply zm4_|refine zm1_ ?_ GE360.out|refine zm1_ ?_ GE361.out)|exact HB.out)⟩
end Go.Proofs.YthflimnpiglgbaaGreatDoor.A
end
section
namespace Go.Proofs.YthflimnpiglgbaaGreatDoor.A
open Go.RowKit Go.Proofs.YthflimnpiglgbaaGreatDoorW.PrintWords Go.Proofs.YthflimnpiglgbaaGreatDoorW.PrintLast Go.Proofs.YthflimnpiglgbaaGreatDoorW.PrintMore
attribute [local go_sem] max2_int min2_int max_two min_two max_three min_three max_four min_four   -- for this text's walks alone
set_option linter.unusedVariables false
set_option linter.unusedSimpArgs false

def laws_markText.l0 : Nat → Int → ByteArray → Option (ByteArray)
 | 0,_,_ => none
 | k + 1,x0,x3 => if x0 > 0 then ((some (([(wrap64 (48 + (Int.tmod x0 10))) % 256] : List Int) : List Int)).bind fun y363 => (if (strOfNums y363).size + x3.size ≤ 9223372036854775807 then (laws_markText.l0 k (wrap64 (Int.tdiv x0 10)) ((strOfNums y363) ++ x3)) else (none))) else (if 1 + x3.size ≤ 9223372036854775807 then (some ((⟨#[109]⟩ : ByteArray) ++ x3)) else (none))
def laws_markText.f (k : Nat) (a0 : Int) : Option (ByteArray):=if a0 ≤ 0 then (some (⟨#[109,48]⟩ : ByteArray)) else (laws_markText.l0 k a0 (⟨#[]⟩ : ByteArray))
theorem laws_markText.mono_l : ∀ k,(∀ y0 y1,LeO (laws_markText.l0 k y0 y1) (laws_markText.l0 (k + 1) y0 y1))
 | 0 => fun _ _ r h => by simp [laws_markText.l0] at h
 | k + 1 => by
  have ih0:=laws_markText.mono_l k
  ·
   intro y0 y1
   unfold laws_markText.l0
   repeat' first
   | (with_reducible exact ih0 _ _)
   | (with_reducible exact LeO.refl _)
   | (with_reducible exact LeO.none _)
   | (with_reducible refine LeO.ite ?_ ?_)
   | (with_reducible refine LeO.bind ?_ (fun _ => ?_))
   | exact ih0 _ _
   | exact LeO.none _
   | refine LeO.ite ?_ ?_
   | refine LeO.bind ?_ (fun _ => ?_)
theorem laws_markText.mono : ∀ a0 k,LeO (laws_markText.f k a0) (laws_markText.f (k + 1) a0):=by
 intro a0 k
 have ih0:=laws_markText.mono_l k
 unfold laws_markText.f
 repeat' first
  | (with_reducible exact ih0 _ _)
  | (with_reducible exact LeO.refl _)
  | (with_reducible exact LeO.none _)
  | (with_reducible refine LeO.ite ?_ ?_)
  | (with_reducible refine LeO.bind ?_ (fun _ => ?_))
  | exact ih0 _ _
  | exact LeO.none _
  | refine LeO.ite ?_ ?_
  | refine LeO.bind ?_ (fun _ => ?_)
set_option maxHeartbeats 8000000 in
set_option maxRecDepth 100000 in
theorem laws_markText.calls (k : Nat) (a0 : Int) (r : ByteArray) (w : World) (h : laws_markText.f k a0 = some r) :
 Calls Tryz.prog 37 #[.int .i64 a0] w fun e w' => e = .returned (.string r) ∧ Below w.heap.size w w':=by
 have HB:=zm0_ (Below.refl w.heap.size w)
 have H : (if a0 ≤ 0 then (some (⟨#[109,48]⟩ : ByteArray)) else (laws_markText.l0 k a0 (⟨#[]⟩ : ByteArray))) = some r:=h
 clear h
 by_cases c2 : a0 ≤ 0
 ·
  rw [if_pos c2] at H
  have c2b0 : decide (a0 ≤ 0) = true:=decide_eq_true c2
  clear c2
  obtain rfl:=Option.some.inj H
  go_enter Tryz.func37,Tryz.ntmps37
  go_wp2
  go_ret
  exact ⟨ze,by repeat (first|(with_reducible first|exact HB.out|apply zm3_|apply zm2_|apply zm4_)|exact HB.out)⟩
 ·
  rw [if_neg c2] at H
  have c2b0 : decide (a0 ≤ 0) = false:=decide_eq_false c2
  clear c2
  have H':=zm0_ H
  clear H
  go_enter Tryz.func37,Tryz.ntmps37
  go_wp2
  go_loopg [0,3] k (fun kq v0 v3 w' => ∃ (x0_1 : Int) (x3_1 : ByteArray),v0 = .int .i64 x0_1 ∧ v3 = .string x3_1 ∧ Aside0 (laws_markText.l0 kq x0_1 x3_1 = some r) ∧ Aside0 (kq ≤ k) ∧ Aside0 (Below w.heap.size w w'))
  case atStart => exact ⟨(a0),((⟨#[]⟩ : ByteArray)),zz,zz,H',⟨Nat.le_refl _⟩,⟨zl HB⟩⟩
  case round =>
   clear H'
   try clear c2
   try clear c2b0
   try clear p2
   obtain ⟨x0_1,x3_1,rfl,rfl,HA,HK1,HB⟩:=hrel
   cases gk with
   | zero => exact absurd HA.out (by simp [laws_markText.l0])
   | succ k1 =>
    have H:=HA.out
    clear HA
    simp only [laws_markText.l0] at H
    by_cases c3 : x0_1 > 0
    ·
     rw [if_pos c3] at H
     have c3b0 : decide (0 < x0_1) = true:=decide_eq_true c3
     clear c3
     obtain ⟨y363,hy363⟩ : ∃ y_ : List Int,y_ = (([(wrap64 (48 + (Int.tmod x0_1 10))) % 256] : List Int)):=⟨_,rfl⟩
     replace H : (if (strOfNums y363).size + x3_1.size ≤ 9223372036854775807 then (laws_markText.l0 k1 (wrap64 (Int.tdiv x0_1 10)) ((strOfNums y363) ++ x3_1)) else (none)) = some r:=by first|(rw [hy363];with_reducible exact H)|(have H2_:=(Option.bind_some _ _).symm.trans H;rw [hy363];with_reducible exact H2_)|(have H2_:=(Option.bind_some _ _).symm.trans H;with_reducible exact H2_)|with_reducible exact H|(rw [hy363];exact H)|exact H
     have Ny363:=zm0_ hy363
     clear hy363
     by_cases c4 : (strOfNums y363).size + x3_1.size ≤ 9223372036854775807
     ·
      rw [if_pos c4] at H
      have c4b0:=eq_true c4
      have c4b1 : decide ((strOfNums y363).size + x3_1.size ≤ 9223372036854775807) = true:=decide_eq_true c4
      try have c4b2 : (9223372036854775807 < (strOfNums y363).size + x3_1.size) = False:=eq_false (Nat.not_lt.2 c4)
      have H':=zm0_ H
      clear H
      go_wp2_with (first|((with_reducible refine gate_dst (N:=12) rfl ?_);refine Kd.R_lit (Kd.int .u8) _ 5 ?hg (N:=12) ?hd (xs:=([(wrap64 (48 + (Int.tmod x0_1 10))) % 256] : List Int)) (inner:=[.int .u8 ((wrap64 (48 + (Int.tmod x0_1 10))) % 256)]) (ok:=fun _ => True) (okp:=fun _ => True) ?hr ?hp (fun _ hk => hk) trivial (Below.refl _ _) (Nat.le_refl _) (by simp) ?_;(case hd => rfl);(case hg => rfl);(case hr => first|(go_simp;done)|(go_simp;rfl));(case hp => exact (Reps.one (show Kd.M (Kd.int .u8) _ _ _ ((wrap64 (48 + (Int.tmod x0_1 10))) % 256) [.int .u8 ((wrap64 (48 + (Int.tmod x0_1 10))) % 256)] from rfl) (Reps.none _ _)));intro v364 w5 ho6 hb hg_ hnew_;clear hg_ hnew_;(first|rw [← Ny363.out] at ho6|(simp only [Int.reduceToNat] at ho6;rw [← Ny363.out] at ho6));have HO365:=zm0_ (zo1_ ho6 (zn9_ (zl HB)));replace HB:=zm0_ (zn8_ (zl HB) hb);clear hb ho6;have hcv7:=own_string (P:=Tryz.prog) Tryz.underlying29 Tryz.underlying5 Tryz.underlying9 (Kd.own_of_R HO365.out)))
      go_roundg k1
      case measure => have:=HK1.out;omega
      case rel => exact ⟨(wrap64 (Int.tdiv x0_1 10)),((strOfNums y363) ++ x3_1),zz,zz,H',⟨by have:=HK1.out;omega⟩,⟨zl HB⟩⟩
     ·
      rw [if_neg c4] at H
      exact absurd H (by simp)
    ·
     rw [if_neg c3] at H
     have c3b0 : decide (0 < x0_1) = false:=decide_eq_false c3
     clear c3
     by_cases c8 : 1 + x3_1.size ≤ 9223372036854775807
     ·
      rw [if_pos c8] at H
      have c8b0:=eq_true c8
      have c8b1 : decide (1 + x3_1.size ≤ 9223372036854775807) = true:=decide_eq_true c8
      try have c8b2 : (9223372036854775807 < 1 + x3_1.size) = False:=eq_false (Nat.not_lt.2 c8)
      obtain rfl:=Option.some.inj H
      go_wp2
      go_ret
      exact ⟨ze,by repeat (first|(with_reducible first|exact HB.out|apply zm3_|apply zm2_|apply zm4_)|exact HB.out)⟩
     ·
      rw [if_neg c8] at H
      exact absurd H (by simp)
end Go.Proofs.YthflimnpiglgbaaGreatDoor.A
end
section
namespace Go.Proofs.YthflimnpiglgbaaGreatDoor.A
open Go.RowKit Go.Proofs.YthflimnpiglgbaaGreatDoorW.PrintWords Go.Proofs.YthflimnpiglgbaaGreatDoorW.PrintLast Go.Proofs.YthflimnpiglgbaaGreatDoorW.PrintMore
attribute [local go_sem] max2_int min2_int max_two min_two max_three min_three max_four min_four   -- for this text's walks alone
set_option linter.unusedVariables false
set_option linter.unusedSimpArgs false

def laws_markFieldS.l0 : Nat → List (S36) → Int → Int → Option (Int × (List (S36)))
 | 0,_,_,_ => none
 | k + 1,x0,x1,x5 => if x5 < (x0.length : Int) then ((laws_markText.f k x1).bind fun t366 => (if 0 ≤ x5 then ((some (x0.set (x5 : Int).toNat (⟨t366,(rd_T36 x0 x5).f1⟩ : S36) : List (S36))).bind fun y367 => ((laws_markText.f k (wrap64 (x1 + 1))).bind fun t368 => (laws_markFieldS.l0 k (y367.set (x5 : Int).toNat (⟨(rd_T36 y367 x5).f0,t368⟩ : S36)) (wrap64 ((wrap64 (x1 + 1)) + 1)) (wrap64 (x5 + 1))))) else (none))) else (some (x1,x0))
def laws_markFieldS.f (k : Nat) (l0 : List (S36)) (a1 : Int) : Option (Int × (List (S36))):=laws_markFieldS.l0 k l0 a1 0
theorem laws_markFieldS.mono_l : ∀ k,(∀ y0 y1 y2,LeO (laws_markFieldS.l0 k y0 y1 y2) (laws_markFieldS.l0 (k + 1) y0 y1 y2))
 | 0 => fun _ _ _ r h => by simp [laws_markFieldS.l0] at h
 | k + 1 => by
  have ih0:=laws_markFieldS.mono_l k
  ·
   intro y0 y1 y2
   unfold laws_markFieldS.l0
   repeat' first
   | (with_reducible exact ih0 _ _ _)
   | (with_reducible exact laws_markText.mono _ _)
   | (with_reducible exact LeO.refl _)
   | (with_reducible exact LeO.none _)
   | (with_reducible refine LeO.ite ?_ ?_)
   | (with_reducible refine LeO.bind ?_ (fun _ => ?_))
   | exact ih0 _ _ _
   | exact laws_markText.mono _ _
   | exact LeO.none _
   | refine LeO.ite ?_ ?_
   | refine LeO.bind ?_ (fun _ => ?_)
theorem laws_markFieldS.mono : ∀ a0 a1 k,LeO (laws_markFieldS.f k a0 a1) (laws_markFieldS.f (k + 1) a0 a1):=by
 intro a0 a1 k
 have ih0:=laws_markFieldS.mono_l k
 unfold laws_markFieldS.f
 repeat' first
  | (with_reducible exact ih0 _ _ _)
  | (with_reducible exact laws_markText.mono _ _)
  | (with_reducible exact LeO.refl _)
  | (with_reducible exact LeO.none _)
  | (with_reducible refine LeO.ite ?_ ?_)
  | (with_reducible refine LeO.bind ?_ (fun _ => ?_))
  | exact ih0 _ _ _
  | exact laws_markText.mono _ _
  | exact LeO.none _
  | refine LeO.ite ?_ ?_
  | refine LeO.bind ?_ (fun _ => ?_)
set_option maxHeartbeats 8000000 in
set_option maxRecDepth 100000 in
theorem laws_markFieldS.calls (k : Nat) (P0_ : Nat → Prop) (u9000_ : Value) (l0 : List (S36)) (a1 : Int) (r1 : Int) (r2 : List (S36)) (w0 w : World) (hB : Below w0.heap.size w0 w) (ho0 : Kd.R k36 36 w w0.heap.size P0_ u9000_ l0) (h : laws_markFieldS.f k l0 a1 = some (r1,r2)) :
 Calls Tryz.prog 22 #[u9000_,.int .i64 a1] w fun e w' => e = .returned (.int .i64 r1) ∧ Kd.R k36 36 w' w0.heap.size (fun k_ => (P0_ k_ ∨ w.heap.size ≤ k_)) u9000_ r2 ∧ Below w0.heap.size w0 w' ∧ Kept w w' (fun k_ => P0_ k_):=by
 have HO0:=zm0_ (show Kd.R k36 36 w w0.heap.size (fun k_ => (P0_ k_ ∨ w.heap.size ≤ k_)) u9000_ l0 from zo2_ ho0 (fun k_ hk => (.inl hk)))
 have HK:=zm0_ (Kept.refl w (fun k_ => P0_ k_))
 have HW0:=zm0_ hB.size
 have HB:=zm0_ hB
 clear hB
 have H : (laws_markFieldS.l0 k l0 a1 0) = some (r1,r2):=h
 clear h
 have H':=zm0_ H
 clear H
 go_enter Tryz.func22,Tryz.ntmps22
 go_wp2
 go_loopg [1,5] k (fun kq v1 v5 w' => ∃ (x0_1 : List (S36)) (x1_1 : Int) (x5_1 : Int),v1 = .int .i64 x1_1 ∧ v5 = .int .i64 x5_1 ∧ Aside0 (laws_markFieldS.l0 kq x0_1 x1_1 x5_1 = some (r1,r2)) ∧ Aside0 (kq ≤ k) ∧ Aside0 (Kd.R k36 36 w' w0.heap.size (fun k_ => (P0_ k_ ∨ w.heap.size ≤ k_)) u9000_ x0_1) ∧ Aside0 (Kept w w' (fun k_ => P0_ k_)) ∧ Aside0 (Below w0.heap.size w0 w'))
 case atStart => exact ⟨(l0),(a1),(0),zz,zz,H',⟨Nat.le_refl _⟩,⟨zr HO0⟩,⟨by repeat (first|(with_reducible first|exact HK.out|apply Kept.alloc|apply Kept.drewN|apply Kept.drew)|exact HK.out)⟩,⟨zl HB⟩⟩
 case round =>
  clear H'
  try clear c2
  try clear p2
  obtain ⟨x0_1,x1_1,x5_1,rfl,rfl,HA,HK1,HO_0,HK,HB⟩:=hrel
  cases gk with
  | zero => exact absurd HA.out (by simp [laws_markFieldS.l0])
  | succ k1 =>
   have H:=HA.out
   clear HA
   simp only [laws_markFieldS.l0] at H
   by_cases c3 : x5_1 < (x0_1.length : Int)
   ·
    rw [if_pos c3] at H
    have c3b0 : decide (x5_1 < (x0_1.length : Int)) = true:=decide_eq_true c3
    clear c3
    replace H:=zq1_ H
    obtain ⟨t366,A40,H⟩:=H
    replace H : (if 0 ≤ x5_1 then ((some (x0_1.set (x5_1 : Int).toNat (⟨t366,(rd_T36 x0_1 x5_1).f1⟩ : S36) : List (S36))).bind fun y367 => ((laws_markText.f k1 (wrap64 (x1_1 + 1))).bind fun t368 => (laws_markFieldS.l0 k1 (y367.set (x5_1 : Int).toNat (⟨(rd_T36 y367 x5_1).f0,t368⟩ : S36)) (wrap64 ((wrap64 (x1_1 + 1)) + 1)) (wrap64 (x5_1 + 1))))) else (none)) = some (r1,r2):=H
    have A4:=zm0_ A40
    clear A40
    by_cases c5 : 0 ≤ x5_1
    ·
     rw [if_pos c5] at H
     have c5b0 : decide (0 ≤ x5_1) = true:=decide_eq_true c5
     clear c5
     obtain ⟨y367,hy367⟩ : ∃ y_ : List (S36),y_ = (x0_1.set (x5_1 : Int).toNat (⟨t366,(rd_T36 x0_1 x5_1).f1⟩ : S36)):=⟨_,rfl⟩
     replace H : ((laws_markText.f k1 (wrap64 (x1_1 + 1))).bind fun t368 => (laws_markFieldS.l0 k1 (y367.set (x5_1 : Int).toNat (⟨(rd_T36 y367 x5_1).f0,t368⟩ : S36)) (wrap64 ((wrap64 (x1_1 + 1)) + 1)) (wrap64 (x5_1 + 1)))) = some (r1,r2):=by first|(rw [hy367];with_reducible exact H)|(have H2_:=(Option.bind_some _ _).symm.trans H;rw [hy367];with_reducible exact H2_)|(have H2_:=(Option.bind_some _ _).symm.trans H;with_reducible exact H2_)|with_reducible exact H|(rw [hy367];exact H)|exact H
     have Ny367:=zm0_ hy367
     clear hy367
     replace H:=zq1_ H
     obtain ⟨t368,A70,H⟩:=H
     replace H : (laws_markFieldS.l0 k1 (y367.set (x5_1 : Int).toNat (⟨(rd_T36 y367 x5_1).f0,t368⟩ : S36)) (wrap64 ((wrap64 (x1_1 + 1)) + 1)) (wrap64 (x5_1 + 1))) = some (r1,r2):=H
     have A7:=zm0_ A70
     clear A70
     obtain ⟨y369,hy369⟩ : ∃ y_ : List (S36),y_ = (y367.set (x5_1 : Int).toNat (⟨(rd_T36 y367 x5_1).f0,t368⟩ : S36)):=⟨_,rfl⟩
     replace H : (laws_markFieldS.l0 k1 y369 (wrap64 ((wrap64 (x1_1 + 1)) + 1)) (wrap64 (x5_1 + 1))) = some (r1,r2):=by first|(rw [hy369];with_reducible exact H)|(have H2_:=(Option.bind_some _ _).symm.trans H;rw [hy369];with_reducible exact H2_)|(have H2_:=(Option.bind_some _ _).symm.trans H;with_reducible exact H2_)|with_reducible exact H|(rw [hy369];exact H)|exact H
     have Ny369:=zm0_ hy369
     clear hy369
     have H':=zm0_ H
     clear H
     obtain ⟨Ao9,co9,eo9⟩:=Kd.R_slice HO_0.out
     subst eo9
     go_wp2_with (first|((with_reducible refine gate_callee (f:=37) rfl ?_);refine goesL_ (some 15) rfl rfl Tryz.func37 (by kernel_rfl) rfl #[.int .i64 x1_1] rfl zy ?_;(with_reducible refine (laws_markText.calls k1 x1_1 t366 _ A4.out).mono ?_);rintro e w10 ⟨rfl,hb⟩;refine ⟨_,rfl,?_⟩;replace HO_0:=zm0_ (zm8_ (zr HO_0) hb);replace HK:=zm0_ (Kept.below (S:=(fun k_ => P0_ k_)) (by repeat (first|(with_reducible first|exact HK.out|apply Kept.alloc|apply Kept.drewN|apply Kept.drew)|exact HK.out)) hb);replace HB:=zm0_ (zn8_ (zl HB) hb);(try clear hb);(try clear hb2);(try clear hk);(try clear hi);have p6 : 0 ≤ (x5_1 : Int):=of_decide_eq_true (by first|(with_reducible assumption)|assumption);have q6 : (x5_1 : Int) < ((x0_1.length : Int) : Int):=of_decide_eq_true (by first|(with_reducible assumption)|assumption);obtain ⟨go6,co6,eo6,gb6,gl6,cl6,HG6⟩:=Kd.R_form HO_0.out (by omega);(first|cases eo6|(injection eo6 with ea_ en_ ec_;(first|subst ea_|(injection ea_ with ea_;subst ea_));subst ec_;clear en_));have GB6:=zm0_ gb6;have GG6:=zm0_ HG6;clear gb6 gl6 HG6;have HMgo6:=zm0_ (show (P0_ go6 ∨ w.heap.size ≤ go6) from (HO_0.out.1 _ rfl));obtain ⟨ce6,hcl6,hM6,hcc6,hfr6⟩:=Kd.R_elem HO_0.out z36 (x5_1 : Int) p6 q6;obtain rfl:=k36_openM hM6;have hx6_0 : w10.cell? ⟨go6,(x5_1 : Int).toNat * 2,none⟩ = some (.string ((rd_T36 x0_1 x5_1).f0)):=hcc6 0 _ rfl;have hx6_1 : w10.cell? ⟨go6,(x5_1 : Int).toNat * 2 + 1,none⟩ = some (.string ((rd_T36 x0_1 x5_1).f1)):=hcc6 1 _ rfl;have hf6_0 : w10.frozen? ⟨go6,(x5_1 : Int).toNat * 2,none⟩ = false:=hfr6 0;have hf6_1 : w10.frozen? ⟨go6,(x5_1 : Int).toNat * 2 + 1,none⟩ = false:=hfr6 1;clear hcl6 hcc6 hfr6 hM6;replace p6:=eq_true p6;replace q6:=eq_true q6;have HX11:=zm0_ (show Kd.R k36 36 w10 w0.heap.size (fun k_ => (P0_ k_ ∨ w.heap.size ≤ k_)) (.slice (some ⟨go6,0,none⟩) x0_1.length co9) x0_1 from (zr HO_0));obtain ⟨ce11,hcl11,hM11,hcc11,hfr11⟩:=Kd.R_elem HX11.out z36 (x5_1 : Int) (of_decide_eq_true (by first|(with_reducible assumption)|assumption)) (by have h_ : (x5_1 : Int) < ((x0_1.length : Int) : Int):=of_decide_eq_true (by first|(with_reducible assumption)|assumption);first|exact h_|(have e_:=(Kd.R_reads' HO_0.out).1;omega)|simpa using h_);obtain rfl:=k36_openM hM11;have HP11:=Kd.R_seg HX11.out (x5_1 : Int) (of_decide_eq_true (by first|(with_reducible assumption)|assumption)) (by have h_ : (x5_1 : Int) < ((x0_1.length : Int) : Int):=of_decide_eq_true (by first|(with_reducible assumption)|assumption);first|exact h_|(have e_:=(Kd.R_reads' HO_0.out).1;omega)|simpa using h_) (seg:=[.string t366]) (j:=0) hcl11 hcc11 (show 1 ≤ 2 from by decide) (x':=(⟨t366,(rd_T36 x0_1 x5_1).f1⟩ : S36)) (k36_mkM _ _ _ (⟨t366,(rd_T36 x0_1 x5_1).f1⟩ : S36) ) (fun _ hk => hk);have hx11_0:=hcc11 0 _ rfl;(try simp only [show (k36).sz = 2 from rfl,Nat.mul_one,Nat.add_zero] at hx11_0);have hf11_0:=hfr11 0;(try simp only [show (k36).sz = 2 from rfl,Nat.mul_one,Nat.add_zero] at hf11_0);clear hcl11 hcc11 hfr11 hM11)|((with_reducible refine gate_store (t:=9) (p:=17) rfl ?_);refine store_event (t:=9) (p:=17) (v:=?vo_w12) (w1:=(w10.setCell ⟨go6,(x5_1 : Int).toNat * 2,none⟩ (.string t366))) ?hg ?ho ?hn ?hr ?_;(case ho => rfl);(case hg => rfl);(case hn => rfl);(case hr => first|(go_simp;done)|(go_simp;rfl));intro w12 hw;have hg : w10.grownBy w12 (some go6):=(by rw [hw];exact HP11.2);have hp_ : Kd.R k36 36 w12 w0.heap.size (fun k_ => (P0_ k_ ∨ w.heap.size ≤ k_)) (.slice (some ⟨go6,0,none⟩) x0_1.length co9) y367:=(by rw [hw,Ny367.out];exact HP11.1);clear HP11;replace HB:=zm0_ ((by rw [hw];exact zm1_ (HB.out) GB6.out : Below w0.heap.size w0 w12));replace HK:=zm0_ (Kept.of_grown (S:=(fun k_ => P0_ k_)) hg (by repeat (first|(with_reducible first|exact HK.out|apply Kept.alloc|apply Kept.drewN|apply Kept.drew)|exact HK.out)) (fun k_ e_ => (HO_0.out.1 k_ e_)));replace HO_0:=zm0_ (hp_);clear hg hw hp_)|((with_reducible refine gate_callee (f:=37) rfl ?_);refine goesL_ (some 23) rfl rfl Tryz.func37 (by kernel_rfl) rfl #[.int .i64 (wrap64 (x1_1 + 1))] rfl zy ?_;(with_reducible refine (laws_markText.calls k1 (wrap64 (x1_1 + 1)) t368 _ A7.out).mono ?_);rintro e w13 ⟨rfl,hb⟩;refine ⟨_,rfl,?_⟩;replace HO_0:=zm0_ (zm8_ (zr HO_0) hb);replace HK:=zm0_ (Kept.below (S:=(fun k_ => P0_ k_)) (by repeat (first|(with_reducible first|exact HK.out|apply Kept.alloc|apply Kept.drewN|apply Kept.drew)|exact HK.out)) hb);replace HB:=zm0_ (zn8_ (zl HB) hb);(try clear hb);(try clear hb2);(try clear hk);(try clear hi);have p8 : 0 ≤ (x5_1 : Int):=of_decide_eq_true (by first|(with_reducible assumption)|assumption);have q8 : (x5_1 : Int) < ((x0_1.length : Int) : Int):=of_decide_eq_true (by first|(with_reducible assumption)|assumption);obtain ⟨ce8,hcl8,hM8,hcc8,hfr8⟩:=Kd.R_elem HO_0.out z36 (x5_1 : Int) p8 q8;obtain rfl:=k36_openM hM8;have hx8_0 : w13.cell? ⟨go6,(x5_1 : Int).toNat * 2,none⟩ = some (.string ((rd_T36 y367 x5_1).f0)):=hcc8 0 _ rfl;have hx8_1 : w13.cell? ⟨go6,(x5_1 : Int).toNat * 2 + 1,none⟩ = some (.string ((rd_T36 y367 x5_1).f1)):=hcc8 1 _ rfl;have hf8_0 : w13.frozen? ⟨go6,(x5_1 : Int).toNat * 2,none⟩ = false:=hfr8 0;have hf8_1 : w13.frozen? ⟨go6,(x5_1 : Int).toNat * 2 + 1,none⟩ = false:=hfr8 1;clear hcl8 hcc8 hfr8 hM8;replace p8:=eq_true p8;replace q8:=eq_true q8;have HX14:=zm0_ (show Kd.R k36 36 w13 w0.heap.size (fun k_ => (P0_ k_ ∨ w.heap.size ≤ k_)) (.slice (some ⟨go6,0,none⟩) x0_1.length co9) y367 from (zr HO_0));obtain ⟨ce14,hcl14,hM14,hcc14,hfr14⟩:=Kd.R_elem HX14.out z36 (x5_1 : Int) (of_decide_eq_true (by first|(with_reducible assumption)|assumption)) (by have h_ : (x5_1 : Int) < ((x0_1.length : Int) : Int):=of_decide_eq_true (by first|(with_reducible assumption)|assumption);first|exact h_|(have e_:=(Kd.R_reads' HO_0.out).1;omega)|simpa using h_);obtain rfl:=k36_openM hM14;have HP14:=Kd.R_seg HX14.out (x5_1 : Int) (of_decide_eq_true (by first|(with_reducible assumption)|assumption)) (by have h_ : (x5_1 : Int) < ((x0_1.length : Int) : Int):=of_decide_eq_true (by first|(with_reducible assumption)|assumption);first|exact h_|(have e_:=(Kd.R_reads' HO_0.out).1;omega)|simpa using h_) (seg:=[.string t368]) (j:=1) hcl14 hcc14 (show 2 ≤ 2 from by decide) (x':=(⟨(rd_T36 y367 x5_1).f0,t368⟩ : S36)) (k36_mkM _ _ _ (⟨(rd_T36 y367 x5_1).f0,t368⟩ : S36) ) (fun _ hk => hk);have hx14_1:=hcc14 1 _ rfl;(try simp only [show (k36).sz = 2 from rfl,Nat.mul_one,Nat.add_zero] at hx14_1);have hf14_1:=hfr14 1;(try simp only [show (k36).sz = 2 from rfl,Nat.mul_one,Nat.add_zero] at hf14_1);clear hcl14 hcc14 hfr14 hM14)|((with_reducible refine gate_store (t:=9) (p:=25) rfl ?_);refine store_event (t:=9) (p:=25) (v:=?vo_w15) (w1:=(w13.setCell ⟨go6,(x5_1 : Int).toNat * 2 + 1,none⟩ (.string t368))) ?hg ?ho ?hn ?hr ?_;(case ho => rfl);(case hg => rfl);(case hn => rfl);(case hr => first|(go_simp;done)|(go_simp;rfl));intro w15 hw;have hg : w13.grownBy w15 (some go6):=(by rw [hw];exact HP14.2);have hp_ : Kd.R k36 36 w15 w0.heap.size (fun k_ => (P0_ k_ ∨ w.heap.size ≤ k_)) (.slice (some ⟨go6,0,none⟩) x0_1.length co9) y369:=(by rw [hw,Ny369.out];exact HP14.1);clear HP14;replace HB:=zm0_ ((by rw [hw];exact zm1_ (HB.out) GB6.out : Below w0.heap.size w0 w15));replace HK:=zm0_ (Kept.of_grown (S:=(fun k_ => P0_ k_)) hg (by repeat (first|(with_reducible first|exact HK.out|apply Kept.alloc|apply Kept.drewN|apply Kept.drew)|exact HK.out)) (fun k_ e_ => (HO_0.out.1 k_ e_)));replace HO_0:=zm0_ (hp_);clear hg hw hp_))
     go_roundg k1
     case measure => have:=HK1.out;omega
     case rel => exact ⟨(y369),(wrap64 ((wrap64 (x1_1 + 1)) + 1)),(wrap64 (x5_1 + 1)),zz,zz,H',⟨by have:=HK1.out;omega⟩,⟨zr HO_0⟩,⟨by repeat (first|(with_reducible first|exact HK.out|apply Kept.alloc|apply Kept.drewN|apply Kept.drew)|exact HK.out)⟩,⟨zl HB⟩⟩
    ·
     rw [if_neg c5] at H
     exact absurd H (by simp)
   ·
    rw [if_neg c3] at H
    have c3b0 : decide (x5_1 < (x0_1.length : Int)) = false:=decide_eq_false c3
    clear c3
    simp only [Option.some.injEq,Prod.mk.injEq] at H
    obtain ⟨rfl,rfl⟩:=H
    obtain ⟨Ao16,co16,eo16⟩:=Kd.R_slice HO_0.out
    subst eo16
    go_wp2
    go_ret
    exact ⟨ze,by (with_reducible repeat (first|apply k1_|apply k2_|apply k3_));exact HO_0.out,by repeat (first|(with_reducible first|exact HB.out|apply zm3_|apply zm2_|apply zm4_)|exact HB.out),by repeat (first|(with_reducible first|exact HK.out|apply Kept.alloc|apply Kept.drewN|apply Kept.drew)|exact HK.out)⟩
end Go.Proofs.YthflimnpiglgbaaGreatDoor.A
end
section
namespace Go.Proofs.YthflimnpiglgbaaGreatDoor.A
open Go.RowKit Go.Proofs.YthflimnpiglgbaaGreatDoorW.PrintWords Go.Proofs.YthflimnpiglgbaaGreatDoorW.PrintLast Go.Proofs.YthflimnpiglgbaaGreatDoorW.PrintMore
attribute [local go_sem] max2_int min2_int max_two min_two max_three min_three max_four min_four   -- for this text's walks alone
set_option linter.unusedVariables false
set_option linter.unusedSimpArgs false

def laws_markTable.f (k : Nat) (a0_0 : Int) (l0_1 : List (S36)) (a1 : Int) : Option (Int × (List (S36))):=(laws_markFieldS.f k l0_1 a1).bind fun bt371 => (some (bt371.1,bt371.2))
theorem laws_markTable.mono : ∀ a0 a1 a2 k,LeO (laws_markTable.f k a0 a1 a2) (laws_markTable.f (k + 1) a0 a1 a2):=by
 intro a0 a1 a2 k
 unfold laws_markTable.f
 repeat' first
  | (with_reducible exact laws_markFieldS.mono _ _ _)
  | (with_reducible exact LeO.refl _)
  | (with_reducible exact LeO.none _)
  | (with_reducible refine LeO.ite ?_ ?_)
  | (with_reducible refine LeO.bind ?_ (fun _ => ?_))
  | exact laws_markFieldS.mono _ _ _
  | exact LeO.none _
  | refine LeO.ite ?_ ?_
  | refine LeO.bind ?_ (fun _ => ?_)
set_option maxHeartbeats 8000000 in
set_option maxRecDepth 100000 in
theorem laws_markTable.calls (k : Nat) (a0_0 : Int) (P0_1_ : Nat → Prop) (u9000_ : Value) (l0_1 : List (S36)) (a1 : Int) (r1 : Int) (r2 : List (S36)) (w0 w : World) (hB : Below w0.heap.size w0 w) (ho0_1 : Kd.R k36 36 w w0.heap.size P0_1_ u9000_ l0_1) (h : laws_markTable.f k a0_0 l0_1 a1 = some (r1,r2)) :
 Calls Tryz.prog 13 #[.agg #[.int .i64 a0_0,u9000_],.int .i64 a1] w fun e w' => e = .returned (.int .i64 r1) ∧ Kd.R k36 36 w' w0.heap.size (fun k_ => (P0_1_ k_ ∨ w.heap.size ≤ k_)) u9000_ r2 ∧ Below w0.heap.size w0 w' ∧ Kept w w' (fun k_ => P0_1_ k_):=by
 have hu32:=Tryz.underlying32
 have HO0_1:=zm0_ (show Kd.R k36 36 w w0.heap.size (fun k_ => (P0_1_ k_ ∨ w.heap.size ≤ k_)) u9000_ l0_1 from zo2_ ho0_1 (fun k_ hk => (.inl hk)))
 have HK:=zm0_ (Kept.refl w (fun k_ => P0_1_ k_))
 have HW0:=zm0_ hB.size
 have HB:=zm0_ hB
 clear hB
 have H : ((laws_markFieldS.f k l0_1 a1).bind fun bt371 => (some (bt371.1,bt371.2))) = some (r1,r2):=h
 clear h
 replace H:=zq1_ H
 obtain ⟨⟨t371,t372⟩,A30,H⟩:=H
 replace H : (some (t371,t372)) = some (r1,r2):=H
 have A3:=zm0_ A30
 clear A30
 simp only [Option.some.injEq,Prod.mk.injEq] at H
 obtain ⟨rfl,rfl⟩:=H
 obtain ⟨Ao4,co4,eo4⟩:=Kd.R_slice HO0_1.out
 subst eo4
 go_enter Tryz.func13,Tryz.ntmps13
 go_wp2_with (first|((with_reducible refine gate_dst (N:=2) rfl ?_);refine box_event ?hg (N:=2) ?hd (cs:=#[.int .i64 a0_0,.slice Ao4 l0_1.length co4]) (t:=32) ?hr ?_;(case hd => rfl);(case hg => rfl);(case hr => first|(go_simp;done)|(go_simp;rfl));intro gb370 hg w5 hbox hb;replace HO0_1:=zm0_ (zm8_ (zr HO0_1) hb);have BK370:=zm0_ (hbox);have GW370:=zm0_ ((by rw [hg];exact (by first|exact HK.out.1|exact (show Kept w _ (fun k_ => P0_1_ k_) from by repeat (first|(with_reducible first|exact HK.out|apply Kept.alloc|apply Kept.drewN|apply Kept.drew)|exact HK.out)).1) : w.heap.size ≤ gb370));replace HK:=zm0_ (Kept.below (S:=(fun k_ => P0_1_ k_)) (by repeat (first|(with_reducible first|exact HK.out|apply Kept.alloc|apply Kept.drewN|apply Kept.drew)|exact HK.out)) hb);have GE370:=zm0_ ((by rw [hg];exact (zn9_ (zl HB)) : w0.heap.size ≤ gb370));replace HB:=zm0_ (zn8_ (zl HB) hb);clear hb hbox hg;have hcz6_0 : w5.cell? ⟨gb370,0,none⟩ = some (.int .i64 a0_0):=(zm6_ BK370.out 0).trans rfl;have hcz6_1 : w5.cell? ⟨gb370,1,none⟩ = some (.slice Ao4 l0_1.length co4):=(zm6_ BK370.out 1).trans rfl;have hfz6_0:=zm7_ BK370.out 0;have hfz6_1:=zm7_ BK370.out 1)|((with_reducible refine gate_callee (f:=22) rfl ?_);refine goesL_ (some 8) rfl rfl Tryz.func22 (by kernel_rfl) rfl #[.slice Ao4 l0_1.length co4,.int .i64 a1] rfl zy ?_;(with_reducible refine (laws_markFieldS.calls k (fun k_ => some k_ = (.slice Ao4 l0_1.length co4 : Value).ownBlock) (.slice Ao4 l0_1.length co4) l0_1 a1 t371 t372 w0 _ ?side1 ?side2 A3.out).mono ?_);(case side1 => repeat (first|(with_reducible first|exact HB.out|apply zm3_|apply zm2_|apply zm4_|refine zm1_ ?_ GE370.out)|exact HB.out));(case side2 => exact Kd.R_tight rfl HO0_1.out);rintro e w7 ⟨rfl,hy0,hb,hkp⟩;refine ⟨_,rfl,?_⟩;replace BK370:=zm0_ (blk_kept (zb BK370) hkp (fun hs_ => (fun e_ => (Kd.R_ne HO0_1.out BK370.out (by decide)) e_) hs_));replace HK:=zm0_ (Kept.then_ (S:=(fun k_ => P0_1_ k_)) (by repeat (first|(with_reducible first|exact HK.out|apply Kept.alloc|apply Kept.drewN|apply Kept.drew|refine Kept.setCell ?_ (.inr GW370.out) _)|exact HK.out)) hkp (fun k_ hs_ => (fun e_ => (HO0_1.out.1 k_ e_.symm)) hs_));replace HO0_1:=zm0_ (Kd.R_reok rfl hy0 (fun k_ e_ => HO0_1.out.1 k_ e_));replace HB:=zm0_ (hb);(try clear hb);(try clear hkp);(try clear hy0)))
 go_ret
 exact ⟨ze,by (with_reducible repeat (first|apply k1_|apply k2_|apply k3_));exact HO0_1.out,by repeat (first|(with_reducible first|exact HB.out|apply zm3_|apply zm2_|apply zm4_|refine zm1_ ?_ GE370.out)|exact HB.out),by repeat (first|(with_reducible first|exact HK.out|apply Kept.alloc|apply Kept.drewN|apply Kept.drew|refine Kept.setCell ?_ (.inr GW370.out) _)|exact HK.out)⟩
def laws_markByteS.l0 : Nat → List Int → Int → Int → Option (Int × List Int)
 | 0,_,_,_ => none
 | k + 1,x0,x1,x5 => if x5 < (x0.length : Int) then (if 0 ≤ x5 then (laws_markByteS.l0 k (x0.set (x5 : Int).toNat ((x1) % 256)) (wrap64 (x1 + 1)) (wrap64 (x5 + 1))) else (none)) else (some (x1,x0))
def laws_markByteS.f (k : Nat) (l0 : List Int) (a1 : Int) : Option (Int × List Int):=laws_markByteS.l0 k l0 a1 0
theorem laws_markByteS.mono_l : ∀ k,(∀ y0 y1 y2,LeO (laws_markByteS.l0 k y0 y1 y2) (laws_markByteS.l0 (k + 1) y0 y1 y2))
 | 0 => fun _ _ _ r h => by simp [laws_markByteS.l0] at h
 | k + 1 => by
  have ih0:=laws_markByteS.mono_l k
  ·
   intro y0 y1 y2
   unfold laws_markByteS.l0
   repeat' first
   | (with_reducible exact ih0 _ _ _)
   | (with_reducible exact LeO.refl _)
   | (with_reducible exact LeO.none _)
   | (with_reducible refine LeO.ite ?_ ?_)
   | (with_reducible refine LeO.bind ?_ (fun _ => ?_))
   | exact ih0 _ _ _
   | exact LeO.none _
   | refine LeO.ite ?_ ?_
   | refine LeO.bind ?_ (fun _ => ?_)
theorem laws_markByteS.mono : ∀ a0 a1 k,LeO (laws_markByteS.f k a0 a1) (laws_markByteS.f (k + 1) a0 a1):=by
 intro a0 a1 k
 have ih0:=laws_markByteS.mono_l k
 unfold laws_markByteS.f
 repeat' first
  | (with_reducible exact ih0 _ _ _)
  | (with_reducible exact LeO.refl _)
  | (with_reducible exact LeO.none _)
  | (with_reducible refine LeO.ite ?_ ?_)
  | (with_reducible refine LeO.bind ?_ (fun _ => ?_))
  | exact ih0 _ _ _
  | exact LeO.none _
  | refine LeO.ite ?_ ?_
  | refine LeO.bind ?_ (fun _ => ?_)
set_option maxHeartbeats 8000000 in
set_option maxRecDepth 100000 in
theorem laws_markByteS.calls (k : Nat) (P0_ : Nat → Prop) (u9000_ : Value) (l0 : List Int) (a1 : Int) (r1 : Int) (r2 : List Int) (w0 w : World) (hB : Below w0.heap.size w0 w) (ho0 : Kd.R (Kd.int .u8) 5 w w0.heap.size P0_ u9000_ l0) (h : laws_markByteS.f k l0 a1 = some (r1,r2)) :
 Calls Tryz.prog 14 #[u9000_,.int .i64 a1] w fun e w' => e = .returned (.int .i64 r1) ∧ Kd.R (Kd.int .u8) 5 w' w0.heap.size (fun k_ => (P0_ k_ ∨ w.heap.size ≤ k_)) u9000_ r2 ∧ Below w0.heap.size w0 w' ∧ Kept w w' (fun k_ => P0_ k_):=by
 have HO0:=zm0_ (show Kd.R (Kd.int .u8) 5 w w0.heap.size (fun k_ => (P0_ k_ ∨ w.heap.size ≤ k_)) u9000_ l0 from zo2_ ho0 (fun k_ hk => (.inl hk)))
 have HK:=zm0_ (Kept.refl w (fun k_ => P0_ k_))
 have HW0:=zm0_ hB.size
 have HB:=zm0_ hB
 clear hB
 have H : (laws_markByteS.l0 k l0 a1 0) = some (r1,r2):=h
 clear h
 have H':=zm0_ H
 clear H
 go_enter Tryz.func14,Tryz.ntmps14
 go_wp2
 go_loopg [1,5] k (fun kq v1 v5 w' => ∃ (x0_1 : List Int) (x1_1 : Int) (x5_1 : Int),v1 = .int .i64 x1_1 ∧ v5 = .int .i64 x5_1 ∧ Aside0 (laws_markByteS.l0 kq x0_1 x1_1 x5_1 = some (r1,r2)) ∧ Aside0 (kq ≤ k) ∧ Aside0 (Kd.R (Kd.int .u8) 5 w' w0.heap.size (fun k_ => (P0_ k_ ∨ w.heap.size ≤ k_)) u9000_ x0_1) ∧ Aside0 (Kept w w' (fun k_ => P0_ k_)) ∧ Aside0 (Below w0.heap.size w0 w'))
 case atStart => exact ⟨(l0),(a1),(0),zz,zz,H',⟨Nat.le_refl _⟩,⟨zr HO0⟩,⟨by repeat (first|(with_reducible first|exact HK.out|apply Kept.alloc|apply Kept.drewN|apply Kept.drew)|exact HK.out)⟩,⟨zl HB⟩⟩
 case round =>
  clear H'
  try clear c1
  try clear p2
  obtain ⟨x0_1,x1_1,x5_1,rfl,rfl,HA,HK1,HO_0,HK,HB⟩:=hrel
  cases gk with
  | zero => exact absurd HA.out (by simp [laws_markByteS.l0])
  | succ k1 =>
   have H:=HA.out
   clear HA
   simp only [laws_markByteS.l0] at H
   by_cases c3 : x5_1 < (x0_1.length : Int)
   ·
    rw [if_pos c3] at H
    have c3b0 : decide (x5_1 < (x0_1.length : Int)) = true:=decide_eq_true c3
    clear c3
    by_cases c4 : 0 ≤ x5_1
    ·
     rw [if_pos c4] at H
     have c4b0 : decide (0 ≤ x5_1) = true:=decide_eq_true c4
     clear c4
     obtain ⟨y373,hy373⟩ : ∃ y_ : List Int,y_ = (x0_1.set (x5_1 : Int).toNat ((x1_1) % 256)):=⟨_,rfl⟩
     replace H : (laws_markByteS.l0 k1 y373 (wrap64 (x1_1 + 1)) (wrap64 (x5_1 + 1))) = some (r1,r2):=by first|(rw [hy373];with_reducible exact H)|(have H2_:=(Option.bind_some _ _).symm.trans H;rw [hy373];with_reducible exact H2_)|(have H2_:=(Option.bind_some _ _).symm.trans H;with_reducible exact H2_)|with_reducible exact H|(rw [hy373];exact H)|exact H
     have Ny373:=zm0_ hy373
     clear hy373
     have H':=zm0_ H
     clear H
     obtain ⟨Ao6,co6,eo6⟩:=Kd.R_slice HO_0.out
     subst eo6
     have p5 : 0 ≤ (x5_1 : Int):=of_decide_eq_true (by first|(with_reducible assumption)|assumption)
     have q5 : (x5_1 : Int) < ((x0_1.length : Int) : Int):=of_decide_eq_true (by first|(with_reducible assumption)|assumption)
     obtain ⟨go5,co5,eo5,gb5,gl5,cl5,HG5⟩:=Kd.R_form HO_0.out (by omega)
     (first|cases eo5|(injection eo5 with ea_ en_ ec_;(first|subst ea_|(injection ea_ with ea_;subst ea_));subst ec_;clear en_))
     have GB5:=zm0_ gb5
     have GG5:=zm0_ HG5
     clear gb5 gl5 HG5
     have HMgo5:=zm0_ (show (P0_ go5 ∨ w.heap.size ≤ go5) from (HO_0.out.1 _ rfl))
     obtain ⟨hx5_0,hf5_0⟩:=Kd.R_celln 0 HO_0.out (x5_1 : Int) p5 q5
     replace p5:=eq_true p5
     replace q5:=eq_true q5
     have HP7:=Kd.R_putg HO_0.out (x5_1 : Int) ((x1_1) % 256)
     go_wp2_with (first|((with_reducible refine gate_store (t:=5) (p:=16) rfl ?_);refine store_event (t:=5) (p:=16) (v:=?vo_w8) (w1:=(wr.setCell ⟨go5,(x5_1 : Int).toNat,none⟩ (.int .u8 ((x1_1) % 256)))) ?hg ?ho ?hn ?hr ?_;(case ho => rfl);(case hg => rfl);(case hn => rfl);(case hr => first|(go_simp;done)|(go_simp;rfl));intro w8 hw;have hg : wr.grownBy w8 (some go5):=(by rw [hw];exact HP7.2);have hp_ : Kd.R (Kd.int .u8) 5 w8 w0.heap.size (fun k_ => (P0_ k_ ∨ w.heap.size ≤ k_)) (.slice (some ⟨go5,0,none⟩) x0_1.length co6) y373:=(by rw [hw,Ny373.out];exact HP7.1);clear HP7;replace HB:=zm0_ ((by rw [hw];exact zm1_ (HB.out) GB5.out : Below w0.heap.size w0 w8));replace HK:=zm0_ (Kept.of_grown (S:=(fun k_ => P0_ k_)) hg (by repeat (first|(with_reducible first|exact HK.out|apply Kept.alloc|apply Kept.drewN|apply Kept.drew)|exact HK.out)) (fun k_ e_ => (HO_0.out.1 k_ e_)));replace HO_0:=zm0_ (hp_);clear hg hw hp_))
     go_roundg k1
     case measure => have:=HK1.out;omega
     case rel => exact ⟨(y373),(wrap64 (x1_1 + 1)),(wrap64 (x5_1 + 1)),zz,zz,H',⟨by have:=HK1.out;omega⟩,⟨zr HO_0⟩,⟨by repeat (first|(with_reducible first|exact HK.out|apply Kept.alloc|apply Kept.drewN|apply Kept.drew)|exact HK.out)⟩,⟨zl HB⟩⟩
    ·
     rw [if_neg c4] at H
     exact absurd H (by simp)
   ·
    rw [if_neg c3] at H
    have c3b0 : decide (x5_1 < (x0_1.length : Int)) = false:=decide_eq_false c3
    clear c3
    simp only [Option.some.injEq,Prod.mk.injEq] at H
    obtain ⟨rfl,rfl⟩:=H
    obtain ⟨Ao9,co9,eo9⟩:=Kd.R_slice HO_0.out
    subst eo9
    go_wp2
    go_ret
    exact ⟨ze,by (with_reducible repeat (first|apply k1_|apply k2_|apply k3_));exact HO_0.out,by repeat (first|(with_reducible first|exact HB.out|apply zm3_|apply zm2_|apply zm4_)|exact HB.out),by repeat (first|(with_reducible first|exact HK.out|apply Kept.alloc|apply Kept.drewN|apply Kept.drew)|exact HK.out)⟩
end Go.Proofs.YthflimnpiglgbaaGreatDoor.A
end
section
namespace Go.Proofs.YthflimnpiglgbaaGreatDoor.A
open Go.RowKit Go.Proofs.YthflimnpiglgbaaGreatDoorW.PrintWords Go.Proofs.YthflimnpiglgbaaGreatDoorW.PrintLast Go.Proofs.YthflimnpiglgbaaGreatDoorW.PrintMore
attribute [local go_sem] max2_int min2_int max_two min_two max_three min_three max_four min_four   -- for this text's walks alone
set_option linter.unusedVariables false
set_option linter.unusedSimpArgs false

def laws_heldByteS.l0 : Nat → List Int → Int → Int → Option (Int)
 | 0,_,_,_ => none
 | k + 1,x0,x1,x5 => if x5 < (x0.length : Int) then (if 0 ≤ x5 then (if (rd x0 x5) = ((x1) % 256) then (laws_heldByteS.l0 k x0 (wrap64 (x1 + 1)) (wrap64 (x5 + 1))) else (some (-1))) else (none)) else (some x1)
def laws_heldByteS.f (k : Nat) (l0 : List Int) (a1 : Int) : Option (Int):=laws_heldByteS.l0 k l0 a1 0
theorem laws_heldByteS.mono_l : ∀ k,(∀ y0 y1 y2,LeO (laws_heldByteS.l0 k y0 y1 y2) (laws_heldByteS.l0 (k + 1) y0 y1 y2))
 | 0 => fun _ _ _ r h => by simp [laws_heldByteS.l0] at h
 | k + 1 => by
  have ih0:=laws_heldByteS.mono_l k
  ·
   intro y0 y1 y2
   unfold laws_heldByteS.l0
   repeat' first
   | (with_reducible exact ih0 _ _ _)
   | (with_reducible exact LeO.refl _)
   | (with_reducible exact LeO.none _)
   | (with_reducible refine LeO.ite ?_ ?_)
   | (with_reducible refine LeO.bind ?_ (fun _ => ?_))
   | exact ih0 _ _ _
   | exact LeO.none _
   | refine LeO.ite ?_ ?_
   | refine LeO.bind ?_ (fun _ => ?_)
theorem laws_heldByteS.mono : ∀ a0 a1 k,LeO (laws_heldByteS.f k a0 a1) (laws_heldByteS.f (k + 1) a0 a1):=by
 intro a0 a1 k
 have ih0:=laws_heldByteS.mono_l k
 unfold laws_heldByteS.f
 repeat' first
  | (with_reducible exact ih0 _ _ _)
  | (with_reducible exact LeO.refl _)
  | (with_reducible exact LeO.none _)
  | (with_reducible refine LeO.ite ?_ ?_)
  | (with_reducible refine LeO.bind ?_ (fun _ => ?_))
  | exact ih0 _ _ _
  | exact LeO.none _
  | refine LeO.ite ?_ ?_
  | refine LeO.bind ?_ (fun _ => ?_)
set_option maxHeartbeats 8000000 in
set_option maxRecDepth 100000 in
theorem laws_heldByteS.calls (k : Nat) (A0 : Option Addr) (c0 : Nat) (l0 : List Int) (a1 : Int) (r : Int) (w : World) (hr0 : Kd.C (Kd.int .u8) w A0 l0.length l0) (hc0 : l0.length ≤ c0) (h : laws_heldByteS.f k l0 a1 = some r) :
 Calls Tryz.prog 15 #[.slice A0 l0.length c0,.int .i64 a1] w fun e w' => e = .returned (.int .i64 r) ∧ Drawn0 w w':=by
 have HR0:=zm0_ hr0
 have HC0:=zm0_ hc0
 clear hr0 hc0
 have H : (laws_heldByteS.l0 k l0 a1 0) = some r:=h
 clear h
 have H':=zm0_ H
 clear H
 go_enter Tryz.func15,Tryz.ntmps15
 go_wp2
 go_loopg [1,5] k (fun kq v1 v5 w' => ∃ (x1_1 : Int) (x5_1 : Int),v1 = .int .i64 x1_1 ∧ v5 = .int .i64 x5_1 ∧ Aside0 (laws_heldByteS.l0 kq l0 x1_1 x5_1 = some r) ∧ Aside0 (kq ≤ k) ∧ Drawn0 w w')
 case atStart => exact ⟨(a1),(0),zz,zz,H',⟨Nat.le_refl _⟩,by repeat (first|exact Drawn0.refl _|apply Drawn0.step)⟩
 case round =>
  clear H'
  try clear c1
  try clear p2
  obtain ⟨x1_1,x5_1,rfl,rfl,HA,HK1,⟨m1,rfl⟩⟩:=hrel
  cases gk with
  | zero => exact absurd HA.out (by simp [laws_heldByteS.l0])
  | succ k1 =>
   have H:=HA.out
   clear HA
   simp only [laws_heldByteS.l0] at H
   by_cases c3 : x5_1 < (l0.length : Int)
   ·
    rw [if_pos c3] at H
    have c3b0 : decide (x5_1 < (l0.length : Int)) = true:=decide_eq_true c3
    clear c3
    by_cases c4 : 0 ≤ x5_1
    ·
     rw [if_pos c4] at H
     have c4b0 : decide (0 ≤ x5_1) = true:=decide_eq_true c4
     clear c4
     by_cases c5 : (rd l0 x5_1) = ((x1_1) % 256)
     ·
      rw [if_pos c5] at H
      have c5b0 : ((rd l0 x5_1) == ((x1_1) % 256)) = true:=beq_iff_eq.mpr c5
      have c5b1 : ((rd l0 x5_1) != ((x1_1) % 256)) = false:=bne_eq_false_iff_eq.mpr c5
      clear c5
      have H':=zm0_ H
      clear H
      have p374 : 0 ≤ (x5_1 : Int):=of_decide_eq_true (by first|(with_reducible assumption)|assumption)
      have q374 : x5_1 < (l0.length : Int):=of_decide_eq_true (by first|(with_reducible assumption)|assumption)
      obtain ⟨ad374,e374,hx374_0⟩:=Kd.at_int HR0.out x5_1 p374 q374
      cases e374
      replace p374:=eq_true p374
      replace q374:=eq_true q374
      go_wp2
      go_roundg k1
      case measure => have:=HK1.out;omega
      case rel => exact ⟨(wrap64 (x1_1 + 1)),(wrap64 (x5_1 + 1)),zz,zz,H',⟨by have:=HK1.out;omega⟩,by repeat (first|exact Drawn0.refl _|apply Drawn0.step)⟩
     ·
      rw [if_neg c5] at H
      have c5b0 : ((rd l0 x5_1) == ((x1_1) % 256)) = false:=beq_eq_false_iff_ne.mpr c5
      have c5b1 : ((rd l0 x5_1) != ((x1_1) % 256)) = true:=bne_iff_ne.mpr c5
      obtain rfl:=Option.some.inj H
      have p374 : 0 ≤ (x5_1 : Int):=of_decide_eq_true (by first|(with_reducible assumption)|assumption)
      have q374 : x5_1 < (l0.length : Int):=of_decide_eq_true (by first|(with_reducible assumption)|assumption)
      obtain ⟨ad374,e374,hx374_0⟩:=Kd.at_int HR0.out x5_1 p374 q374
      cases e374
      replace p374:=eq_true p374
      replace q374:=eq_true q374
      go_wp2
      go_ret
      exact ⟨by first|rfl|(simp;done)|(simp [*];done),by repeat (first|exact Drawn0.refl _|apply Drawn0.step)⟩
    ·
     rw [if_neg c4] at H
     exact absurd H (by simp)
   ·
    rw [if_neg c3] at H
    have c3b0 : decide (x5_1 < (l0.length : Int)) = false:=decide_eq_false c3
    clear c3
    obtain rfl:=Option.some.inj H
    go_wp2
    go_ret
    exact ⟨by first|rfl|(simp;done)|(simp [*];done),by repeat (first|exact Drawn0.refl _|apply Drawn0.step)⟩
end Go.Proofs.YthflimnpiglgbaaGreatDoor.A
end
section
namespace Go.Proofs.YthflimnpiglgbaaGreatDoor.A
open Go.RowKit Go.Proofs.YthflimnpiglgbaaGreatDoorW.PrintWords Go.Proofs.YthflimnpiglgbaaGreatDoorW.PrintLast Go.Proofs.YthflimnpiglgbaaGreatDoorW.PrintMore
attribute [local go_sem] max2_int min2_int max_two min_two max_three min_three max_four min_four   -- for this text's walks alone
set_option linter.unusedVariables false
set_option linter.unusedSimpArgs false

def laws_heldFieldS.l0 : Nat → List (S36) → Int → Int → Option (Int)
 | 0,_,_,_ => none
 | k + 1,x0,x1,x5 => if x5 < (x0.length : Int) then (if 0 ≤ x5 then ((laws_markText.f k x1).bind fun t376 => (if ((rd_T36 x0 x5).f0).toList = t376.toList then ((laws_markText.f k (wrap64 (x1 + 1))).bind fun t378 => (if ((rd_T36 x0 x5).f1).toList = t378.toList then (laws_heldFieldS.l0 k x0 (wrap64 ((wrap64 (x1 + 1)) + 1)) (wrap64 (x5 + 1))) else (some (-1)))) else (some (-1)))) else (none)) else (some x1)
def laws_heldFieldS.f (k : Nat) (l0 : List (S36)) (a1 : Int) : Option (Int):=laws_heldFieldS.l0 k l0 a1 0
theorem laws_heldFieldS.mono_l : ∀ k,(∀ y0 y1 y2,LeO (laws_heldFieldS.l0 k y0 y1 y2) (laws_heldFieldS.l0 (k + 1) y0 y1 y2))
 | 0 => fun _ _ _ r h => by simp [laws_heldFieldS.l0] at h
 | k + 1 => by
  have ih0:=laws_heldFieldS.mono_l k
  ·
   intro y0 y1 y2
   unfold laws_heldFieldS.l0
   repeat' first
   | (with_reducible exact ih0 _ _ _)
   | (with_reducible exact laws_markText.mono _ _)
   | (with_reducible exact LeO.refl _)
   | (with_reducible exact LeO.none _)
   | (with_reducible refine LeO.ite ?_ ?_)
   | (with_reducible refine LeO.bind ?_ (fun _ => ?_))
   | exact ih0 _ _ _
   | exact laws_markText.mono _ _
   | exact LeO.none _
   | refine LeO.ite ?_ ?_
   | refine LeO.bind ?_ (fun _ => ?_)
theorem laws_heldFieldS.mono : ∀ a0 a1 k,LeO (laws_heldFieldS.f k a0 a1) (laws_heldFieldS.f (k + 1) a0 a1):=by
 intro a0 a1 k
 have ih0:=laws_heldFieldS.mono_l k
 unfold laws_heldFieldS.f
 repeat' first
  | (with_reducible exact ih0 _ _ _)
  | (with_reducible exact laws_markText.mono _ _)
  | (with_reducible exact LeO.refl _)
  | (with_reducible exact LeO.none _)
  | (with_reducible refine LeO.ite ?_ ?_)
  | (with_reducible refine LeO.bind ?_ (fun _ => ?_))
  | exact ih0 _ _ _
  | exact laws_markText.mono _ _
  | exact LeO.none _
  | refine LeO.ite ?_ ?_
  | refine LeO.bind ?_ (fun _ => ?_)
def laws_heldFieldS.T4 : Bool × List (List Nat × List Nat):=(true,[([],[]),([],[]),([0,1],[0,1]),([2],[2]),([3],[3]),([],[]),([5],[5]),([4,6],[4,6])])
def laws_heldFieldS.B4 : List Nat:=[0,0,3,7,15,0,32,127]
theorem laws_heldFieldS.tab4 : rtab .any (opsOf Tryz.f35 4) = laws_heldFieldS.T4:=by kernel_rfl
theorem laws_heldFieldS.bits4 : waitsOk laws_heldFieldS.T4.2 laws_heldFieldS.B4 = true:=by kernel_rfl
def laws_heldFieldS.T7 : Bool × List (List Nat × List Nat):=(true,[([],[]),([],[]),([0,1],[0,1]),([2],[2]),([3],[3]),([],[]),([5],[5]),([4,6],[4,6])])
def laws_heldFieldS.B7 : List Nat:=[0,0,3,7,15,0,32,127]
theorem laws_heldFieldS.tab7 : rtab .any (opsOf Tryz.f35 7) = laws_heldFieldS.T7:=by kernel_rfl
theorem laws_heldFieldS.bits7 : waitsOk laws_heldFieldS.T7.2 laws_heldFieldS.B7 = true:=by kernel_rfl
set_option maxHeartbeats 8000000 in
set_option maxRecDepth 100000 in
theorem laws_heldFieldS.calls (k : Nat) (A0 : Option Addr) (c0 : Nat) (l0 : List (S36)) (a1 : Int) (r : Int) (w : World) (hr0 : Kd.C k36 w A0 l0.length l0) (hc0 : l0.length ≤ c0) (h : laws_heldFieldS.f k l0 a1 = some r) :
 Calls Tryz.prog 35 #[.slice A0 l0.length c0,.int .i64 a1] w fun e w' => e = .returned (.int .i64 r) ∧ Below w.heap.size w w':=by
 have HR0:=zm0_ hr0
 have HC0:=zm0_ hc0
 clear hr0 hc0
 have HB:=zm0_ (Below.refl w.heap.size w)
 have H : (laws_heldFieldS.l0 k l0 a1 0) = some r:=h
 clear h
 have H':=zm0_ H
 clear H
 go_enter Tryz.func35,Tryz.ntmps35
 go_wp2
 go_loopg [1,5] k (fun kq v1 v5 w' => ∃ (x1_1 : Int) (x5_1 : Int),v1 = .int .i64 x1_1 ∧ v5 = .int .i64 x5_1 ∧ Aside0 (laws_heldFieldS.l0 kq l0 x1_1 x5_1 = some r) ∧ Aside0 (kq ≤ k) ∧ Aside0 (Below w.heap.size w w'))
 case atStart => exact ⟨(a1),(0),zz,zz,H',⟨Nat.le_refl _⟩,⟨zl HB⟩⟩
 case round =>
  clear H'
  try clear p2
  obtain ⟨x1_1,x5_1,rfl,rfl,HA,HK1,HB⟩:=hrel
  cases gk with
  | zero => exact absurd HA.out (by simp [laws_heldFieldS.l0])
  | succ k1 =>
   have H:=HA.out
   clear HA
   simp only [laws_heldFieldS.l0] at H
   by_cases c3 : x5_1 < (l0.length : Int)
   ·
    rw [if_pos c3] at H
    have c3b0 : decide (x5_1 < (l0.length : Int)) = true:=decide_eq_true c3
    clear c3
    by_cases c4 : 0 ≤ x5_1
    ·
     rw [if_pos c4] at H
     have c4b0 : decide (0 ≤ x5_1) = true:=decide_eq_true c4
     clear c4
     replace H:=zq1_ H
     obtain ⟨t376,A50,H⟩:=H
     replace H : (if ((rd_T36 l0 x5_1).f0).toList = t376.toList then ((laws_markText.f k1 (wrap64 (x1_1 + 1))).bind fun t378 => (if ((rd_T36 l0 x5_1).f1).toList = t378.toList then (laws_heldFieldS.l0 k1 l0 (wrap64 ((wrap64 (x1_1 + 1)) + 1)) (wrap64 (x5_1 + 1))) else (some (-1)))) else (some (-1))) = some r:=H
     have A5:=zm0_ A50
     clear A50
     by_cases c6 : ((rd_T36 l0 x5_1).f0).toList = t376.toList
     ·
      rw [if_pos c6] at H
      have c6b0 : (((rd_T36 l0 x5_1).f0).toList == t376.toList) = true:=beq_iff_eq.mpr c6
      have c6b1 : (((rd_T36 l0 x5_1).f0).toList != t376.toList) = false:=bne_eq_false_iff_eq.mpr c6
      clear c6
      replace H:=zq1_ H
      obtain ⟨t378,A70,H⟩:=H
      replace H : (if ((rd_T36 l0 x5_1).f1).toList = t378.toList then (laws_heldFieldS.l0 k1 l0 (wrap64 ((wrap64 (x1_1 + 1)) + 1)) (wrap64 (x5_1 + 1))) else (some (-1))) = some r:=H
      have A7:=zm0_ A70
      clear A70
      by_cases c8 : ((rd_T36 l0 x5_1).f1).toList = t378.toList
      ·
       rw [if_pos c8] at H
       have c8b0 : (((rd_T36 l0 x5_1).f1).toList == t378.toList) = true:=beq_iff_eq.mpr c8
       have c8b1 : (((rd_T36 l0 x5_1).f1).toList != t378.toList) = false:=bne_eq_false_iff_eq.mpr c8
       clear c8
       have H':=zm0_ H
       clear H
       try go_wp2
       replace HB:=zm0_ (zm4_ HB.out)
       have p375 : 0 ≤ (x5_1 : Int):=of_decide_eq_true (by first|(with_reducible assumption)|assumption)
       have q375 : x5_1 < (l0.length : Int):=of_decide_eq_true (by first|(with_reducible assumption)|assumption)
       obtain ⟨ad375,e375,hx375_0,hx375_1⟩:=at_T36 HR0.out x5_1 p375 q375
       have hw375_1:=hx375_1
       have hw375_0:=hx375_0
       cases e375
       replace hx375_0:=(HB.out.cell (zq2_ w _ hx375_0)).trans hx375_0
       replace hx375_1:=(HB.out.cell (zq2_ w _ hx375_1)).trans hx375_1
       replace p375:=eq_true p375
       replace q375:=eq_true q375
       refine start_ (n:=8) (S:=fun w' => w'.cell? (ad375.add ((x5_1).toNat * 2)) = some (.string ((rd_T36 l0 x5_1).f0)) ∧ w'.cell? ⟨(ad375.add ((x5_1).toNat * 2)).block,(ad375.add ((x5_1).toNat * 2)).off + 1,none⟩ = some (.string ((rd_T36 l0 x5_1).f1))) (ds:=[]) #[Z,Z,Z,Z,Z,Z,Z,Z] (by kernel_rfl) rfl rfl ⟨((HB.out.cell (zq2_ w _ hw375_0)).trans hw375_0),((HB.out.cell (zq2_ w _ hw375_1)).trans hw375_1)⟩ (fun hHeld => ?_);refine with_tabW laws_heldFieldS.tab4 laws_heldFieldS.bits4 (fun HT_ HW_ => ?_)
       generalize wr.drew = w9 at HB hx375_0 hx375_1 hHeld ⊢
       refine pure_ (i:=0) (N:=some 12) (v:=?_) (a':=?_) #[Y,Z,Z,Z,Z,Z,Z,Z] rfl rfl (any_of HT_.out (by kernel_rfl)) (fun _ _ _ h => h) (Or.inl ⟨by rfl,?_⟩) ?_ ?_
       rotate_left
       ·
        intro w'
        go_simp
        with_reducible rfl
       rotate_left
       ·
        simp only [Act.put,lA_,lB_,lC_,i64_w,i32_w]
        rfl
       refine pure_ (i:=1) (N:=some 13) (v:=?_) (a':=?_) #[Y,Y,Z,Z,Z,Z,Z,Z] rfl rfl (any_of HT_.out (by kernel_rfl)) (fun _ _ _ h => h) (Or.inl ⟨by rfl,?_⟩) ?_ ?_
       rotate_left
       ·
        intro w'
        go_simp
        with_reducible rfl
       rotate_left
       ·
        simp only [Act.put,lA_,lB_,lC_,i64_w,i32_w]
        rfl
       refine pure_ (i:=2) (N:=some 14) (v:=?_) (a':=?_) #[Y,Y,Y,Z,Z,Z,Z,Z] rfl rfl (any_of HT_.out (by kernel_rfl)) (fun _ _ _ h => h) (Or.inl ⟨by rfl,?_⟩) ?_ ?_
       rotate_left
       ·
        intro w'
        go_simp
        with_reducible rfl
       rotate_left
       ·
        simp only [Act.put,lA_,lB_,lC_,i64_w,i32_w]
        rfl
       refine pure_ (i:=3) (N:=some 15) (v:=?_) (a':=?_) #[Y,Y,Y,Y,Z,Z,Z,Z] rfl rfl (any_of HT_.out (by kernel_rfl)) (fun _ _ _ h => h) (Or.inl ⟨by rfl,?_⟩) ?_ ?_
       rotate_left
       ·
        intro w'
        go_simp
        with_reducible rfl
       rotate_left
       ·
        simp only [Act.put,lA_,lB_,lC_,i64_w,i32_w]
        rfl
       refine pure_ (i:=5) (N:=some 17) (v:=?_) (a':=?_) #[Y,Y,Y,Y,Z,Y,Z,Z] rfl rfl (any_of HT_.out (by kernel_rfl)) (fun _ _ _ h => h) (Or.inl ⟨by rfl,?_⟩) ?_ ?_
       rotate_left
       ·
        intro w'
        go_simp
        with_reducible rfl
       rotate_left
       ·
        simp only [Act.put,lA_,lB_,lC_,i64_w,i32_w]
        rfl
       refine take_ (i:=4) (N:=some 16) (v:=?_) (a':=?_) #[Y,Y,Y,Y,Y,Y,Z,Z] rfl rfl (take_ofW HT_.out HW_.out (by kernel_rfl)) (fun _ _ _ h => h) (Or.inl ⟨by rfl,?_⟩) hHeld ?_ ?_
       rotate_left
       ·
        rintro w' ⟨s0,s1⟩
        go_simp
        with_reducible rfl
       rotate_left
       ·
        simp only [Act.put,lA_,lB_,lC_,i64_w,i32_w]
        rfl
       refine one_ (i:=6) (N:=some 18) #[Y,Y,Y,Y,Y,Y,Y,Z] rfl rfl (one_of HT_.out (by kernel_rfl)) (by decide) (fun K hK => ?_)
       refine goes_ Tryz.func37 (by kernel_rfl) rfl #[.int .i64 x1_1] (by rfl) rfl rfl zy ?_
       with_reducible refine (laws_markText.calls k1 x1_1 t376 _ A5.out).mono ?_
       rintro e w10 ⟨rfl,hb⟩
       refine ⟨_,rfl,?_⟩
       replace HB:=zm0_ (zn8_ (zl HB) hb)
       (try clear hb)
       (try clear hb2)
       (try clear hk)
       (try clear hi)
       refine hK.out _ _ ⟨((HB.out.cell (zq2_ w _ hw375_0)).trans hw375_0),((HB.out.cell (zq2_ w _ hw375_1)).trans hw375_1)⟩ (fun hHeld => ?_)
       clear hK K
       refine norm_ (a':=?_) ?_ ?_
       rotate_left
       ·
        show Act.put _ (some 18) _ = _
        simp only [Act.put,lA_,lB_,lC_,i64_w,i32_w]
        rfl
       refine pure_ (i:=7) (N:=some 19) (v:=?_) (a':=?_) #[Y,Y,Y,Y,Y,Y,Y,Y] rfl rfl (any_of HT_.out (by kernel_rfl)) (fun _ _ _ h => h) (Or.inl ⟨by rfl,?_⟩) ?_ ?_
       rotate_left
       ·
        intro w'
        go_simp
        with_reducible rfl
       rotate_left
       ·
        simp only [Act.put,lA_,lB_,lC_,i64_w,i32_w]
        rfl
       refine done_ (done_of HT_.out (by kernel_rfl)) ?_
       try go_wp2
       replace HB:=zm0_ (zm4_ HB.out)
       have p377 : 0 ≤ (x5_1 : Int):=of_decide_eq_true (by first|(with_reducible assumption)|assumption)
       have q377 : x5_1 < (l0.length : Int):=of_decide_eq_true (by first|(with_reducible assumption)|assumption)
       obtain ⟨ad377,e377,hx377_0,hx377_1⟩:=at_T36 HR0.out x5_1 p377 q377
       have hw377_1:=hx377_1
       have hw377_0:=hx377_0
       obtain rfl : ad375 = ad377:=(by injection e377)
       replace hx377_0:=(HB.out.cell (zq2_ w _ hx377_0)).trans hx377_0
       replace hx377_1:=(HB.out.cell (zq2_ w _ hx377_1)).trans hx377_1
       replace p377:=eq_true p377
       replace q377:=eq_true q377
       refine start_ (n:=8) (S:=fun w' => w'.cell? (ad375.add ((x5_1).toNat * 2)) = some (.string ((rd_T36 l0 x5_1).f0)) ∧ w'.cell? ⟨(ad375.add ((x5_1).toNat * 2)).block,(ad375.add ((x5_1).toNat * 2)).off + 1,none⟩ = some (.string ((rd_T36 l0 x5_1).f1))) (ds:=[]) #[Z,Z,Z,Z,Z,Z,Z,Z] (by kernel_rfl) rfl rfl ⟨((HB.out.cell (zq2_ w _ hw377_0)).trans hw377_0),((HB.out.cell (zq2_ w _ hw377_1)).trans hw377_1)⟩ (fun hHeld => ?_);refine with_tabW laws_heldFieldS.tab7 laws_heldFieldS.bits7 (fun HT_ HW_ => ?_)
       generalize w10.drew = w11 at HB hx377_0 hx377_1 hHeld ⊢
       refine pure_ (i:=0) (N:=some 22) (v:=?_) (a':=?_) #[Y,Z,Z,Z,Z,Z,Z,Z] rfl rfl (any_of HT_.out (by kernel_rfl)) (fun _ _ _ h => h) (Or.inl ⟨by rfl,?_⟩) ?_ ?_
       rotate_left
       ·
        intro w'
        go_simp
        with_reducible rfl
       rotate_left
       ·
        simp only [Act.put,lA_,lB_,lC_,i64_w,i32_w]
        rfl
       refine pure_ (i:=1) (N:=some 23) (v:=?_) (a':=?_) #[Y,Y,Z,Z,Z,Z,Z,Z] rfl rfl (any_of HT_.out (by kernel_rfl)) (fun _ _ _ h => h) (Or.inl ⟨by rfl,?_⟩) ?_ ?_
       rotate_left
       ·
        intro w'
        go_simp
        with_reducible rfl
       rotate_left
       ·
        simp only [Act.put,lA_,lB_,lC_,i64_w,i32_w]
        rfl
       refine pure_ (i:=2) (N:=some 24) (v:=?_) (a':=?_) #[Y,Y,Y,Z,Z,Z,Z,Z] rfl rfl (any_of HT_.out (by kernel_rfl)) (fun _ _ _ h => h) (Or.inl ⟨by rfl,?_⟩) ?_ ?_
       rotate_left
       ·
        intro w'
        go_simp
        with_reducible rfl
       rotate_left
       ·
        simp only [Act.put,lA_,lB_,lC_,i64_w,i32_w]
        rfl
       refine pure_ (i:=3) (N:=some 25) (v:=?_) (a':=?_) #[Y,Y,Y,Y,Z,Z,Z,Z] rfl rfl (any_of HT_.out (by kernel_rfl)) (fun _ _ _ h => h) (Or.inl ⟨by rfl,?_⟩) ?_ ?_
       rotate_left
       ·
        intro w'
        go_simp
        with_reducible rfl
       rotate_left
       ·
        simp only [Act.put,lA_,lB_,lC_,i64_w,i32_w]
        rfl
       refine pure_ (i:=5) (N:=some 27) (v:=?_) (a':=?_) #[Y,Y,Y,Y,Z,Y,Z,Z] rfl rfl (any_of HT_.out (by kernel_rfl)) (fun _ _ _ h => h) (Or.inl ⟨by rfl,?_⟩) ?_ ?_
       rotate_left
       ·
        intro w'
        go_simp
        with_reducible rfl
       rotate_left
       ·
        simp only [Act.put,lA_,lB_,lC_,i64_w,i32_w]
        rfl
       refine take_ (i:=4) (N:=some 26) (v:=?_) (a':=?_) #[Y,Y,Y,Y,Y,Y,Z,Z] rfl rfl (take_ofW HT_.out HW_.out (by kernel_rfl)) (fun _ _ _ h => h) (Or.inl ⟨by rfl,?_⟩) hHeld ?_ ?_
       rotate_left
       ·
        rintro w' ⟨s0,s1⟩
        go_simp
        with_reducible rfl
       rotate_left
       ·
        simp only [Act.put,lA_,lB_,lC_,i64_w,i32_w]
        rfl
       refine one_ (i:=6) (N:=some 28) #[Y,Y,Y,Y,Y,Y,Y,Z] rfl rfl (one_of HT_.out (by kernel_rfl)) (by decide) (fun K hK => ?_)
       refine goes_ Tryz.func37 (by kernel_rfl) rfl #[.int .i64 (wrap64 (x1_1 + 1))] (by rfl) rfl rfl zy ?_
       with_reducible refine (laws_markText.calls k1 (wrap64 (x1_1 + 1)) t378 _ A7.out).mono ?_
       rintro e w12 ⟨rfl,hb⟩
       refine ⟨_,rfl,?_⟩
       replace HB:=zm0_ (zn8_ (zl HB) hb)
       (try clear hb)
       (try clear hb2)
       (try clear hk)
       (try clear hi)
       refine hK.out _ _ ⟨((HB.out.cell (zq2_ w _ hw377_0)).trans hw377_0),((HB.out.cell (zq2_ w _ hw377_1)).trans hw377_1)⟩ (fun hHeld => ?_)
       clear hK K
       refine norm_ (a':=?_) ?_ ?_
       rotate_left
       ·
        show Act.put _ (some 28) _ = _
        simp only [Act.put,lA_,lB_,lC_,i64_w,i32_w]
        rfl
       refine pure_ (i:=7) (N:=some 29) (v:=?_) (a':=?_) #[Y,Y,Y,Y,Y,Y,Y,Y] rfl rfl (any_of HT_.out (by kernel_rfl)) (fun _ _ _ h => h) (Or.inl ⟨by rfl,?_⟩) ?_ ?_
       rotate_left
       ·
        intro w'
        go_simp
        with_reducible rfl
       rotate_left
       ·
        simp only [Act.put,lA_,lB_,lC_,i64_w,i32_w]
        rfl
       refine done_ (done_of HT_.out (by kernel_rfl)) ?_
       try go_wp2
       go_roundg k1
       case measure => have:=HK1.out;omega
       case rel => exact ⟨(wrap64 ((wrap64 (x1_1 + 1)) + 1)),(wrap64 (x5_1 + 1)),zz,zz,H',⟨by have:=HK1.out;omega⟩,⟨zl HB⟩⟩
      ·
       rw [if_neg c8] at H
       have c8b0 : (((rd_T36 l0 x5_1).f1).toList == t378.toList) = false:=beq_eq_false_iff_ne.mpr c8
       have c8b1 : (((rd_T36 l0 x5_1).f1).toList != t378.toList) = true:=bne_iff_ne.mpr c8
       obtain rfl:=Option.some.inj H
       try go_wp2
       replace HB:=zm0_ (zm4_ HB.out)
       have p375 : 0 ≤ (x5_1 : Int):=of_decide_eq_true (by first|(with_reducible assumption)|assumption)
       have q375 : x5_1 < (l0.length : Int):=of_decide_eq_true (by first|(with_reducible assumption)|assumption)
       obtain ⟨ad375,e375,hx375_0,hx375_1⟩:=at_T36 HR0.out x5_1 p375 q375
       have hw375_1:=hx375_1
       have hw375_0:=hx375_0
       cases e375
       replace hx375_0:=(HB.out.cell (zq2_ w _ hx375_0)).trans hx375_0
       replace hx375_1:=(HB.out.cell (zq2_ w _ hx375_1)).trans hx375_1
       replace p375:=eq_true p375
       replace q375:=eq_true q375
       refine start_ (n:=8) (S:=fun w' => w'.cell? (ad375.add ((x5_1).toNat * 2)) = some (.string ((rd_T36 l0 x5_1).f0)) ∧ w'.cell? ⟨(ad375.add ((x5_1).toNat * 2)).block,(ad375.add ((x5_1).toNat * 2)).off + 1,none⟩ = some (.string ((rd_T36 l0 x5_1).f1))) (ds:=[]) #[Z,Z,Z,Z,Z,Z,Z,Z] (by kernel_rfl) rfl rfl ⟨((HB.out.cell (zq2_ w _ hw375_0)).trans hw375_0),((HB.out.cell (zq2_ w _ hw375_1)).trans hw375_1)⟩ (fun hHeld => ?_);refine with_tabW laws_heldFieldS.tab4 laws_heldFieldS.bits4 (fun HT_ HW_ => ?_)
       generalize wr.drew = w13 at HB hx375_0 hx375_1 hHeld ⊢
       refine pure_ (i:=0) (N:=some 12) (v:=?_) (a':=?_) #[Y,Z,Z,Z,Z,Z,Z,Z] rfl rfl (any_of HT_.out (by kernel_rfl)) (fun _ _ _ h => h) (Or.inl ⟨by rfl,?_⟩) ?_ ?_
       rotate_left
       ·
        intro w'
        go_simp
        with_reducible rfl
       rotate_left
       ·
        simp only [Act.put,lA_,lB_,lC_,i64_w,i32_w]
        rfl
       refine pure_ (i:=1) (N:=some 13) (v:=?_) (a':=?_) #[Y,Y,Z,Z,Z,Z,Z,Z] rfl rfl (any_of HT_.out (by kernel_rfl)) (fun _ _ _ h => h) (Or.inl ⟨by rfl,?_⟩) ?_ ?_
       rotate_left
       ·
        intro w'
        go_simp
        with_reducible rfl
       rotate_left
       ·
        simp only [Act.put,lA_,lB_,lC_,i64_w,i32_w]
        rfl
       refine pure_ (i:=2) (N:=some 14) (v:=?_) (a':=?_) #[Y,Y,Y,Z,Z,Z,Z,Z] rfl rfl (any_of HT_.out (by kernel_rfl)) (fun _ _ _ h => h) (Or.inl ⟨by rfl,?_⟩) ?_ ?_
       rotate_left
       ·
        intro w'
        go_simp
        with_reducible rfl
       rotate_left
       ·
        simp only [Act.put,lA_,lB_,lC_,i64_w,i32_w]
        rfl
       refine pure_ (i:=3) (N:=some 15) (v:=?_) (a':=?_) #[Y,Y,Y,Y,Z,Z,Z,Z] rfl rfl (any_of HT_.out (by kernel_rfl)) (fun _ _ _ h => h) (Or.inl ⟨by rfl,?_⟩) ?_ ?_
       rotate_left
       ·
        intro w'
        go_simp
        with_reducible rfl
       rotate_left
       ·
        simp only [Act.put,lA_,lB_,lC_,i64_w,i32_w]
        rfl
       refine pure_ (i:=5) (N:=some 17) (v:=?_) (a':=?_) #[Y,Y,Y,Y,Z,Y,Z,Z] rfl rfl (any_of HT_.out (by kernel_rfl)) (fun _ _ _ h => h) (Or.inl ⟨by rfl,?_⟩) ?_ ?_
       rotate_left
       ·
        intro w'
        go_simp
        with_reducible rfl
       rotate_left
       ·
        simp only [Act.put,lA_,lB_,lC_,i64_w,i32_w]
        rfl
       refine take_ (i:=4) (N:=some 16) (v:=?_) (a':=?_) #[Y,Y,Y,Y,Y,Y,Z,Z] rfl rfl (take_ofW HT_.out HW_.out (by kernel_rfl)) (fun _ _ _ h => h) (Or.inl ⟨by rfl,?_⟩) hHeld ?_ ?_
       rotate_left
       ·
        rintro w' ⟨s0,s1⟩
        go_simp
        with_reducible rfl
       rotate_left
       ·
        simp only [Act.put,lA_,lB_,lC_,i64_w,i32_w]
        rfl
       refine one_ (i:=6) (N:=some 18) #[Y,Y,Y,Y,Y,Y,Y,Z] rfl rfl (one_of HT_.out (by kernel_rfl)) (by decide) (fun K hK => ?_)
       refine goes_ Tryz.func37 (by kernel_rfl) rfl #[.int .i64 x1_1] (by rfl) rfl rfl zy ?_
       with_reducible refine (laws_markText.calls k1 x1_1 t376 _ A5.out).mono ?_
       rintro e w14 ⟨rfl,hb⟩
       refine ⟨_,rfl,?_⟩
       replace HB:=zm0_ (zn8_ (zl HB) hb)
       (try clear hb)
       (try clear hb2)
       (try clear hk)
       (try clear hi)
       refine hK.out _ _ ⟨((HB.out.cell (zq2_ w _ hw375_0)).trans hw375_0),((HB.out.cell (zq2_ w _ hw375_1)).trans hw375_1)⟩ (fun hHeld => ?_)
       clear hK K
       refine norm_ (a':=?_) ?_ ?_
       rotate_left
       ·
        show Act.put _ (some 18) _ = _
        simp only [Act.put,lA_,lB_,lC_,i64_w,i32_w]
        rfl
       refine pure_ (i:=7) (N:=some 19) (v:=?_) (a':=?_) #[Y,Y,Y,Y,Y,Y,Y,Y] rfl rfl (any_of HT_.out (by kernel_rfl)) (fun _ _ _ h => h) (Or.inl ⟨by rfl,?_⟩) ?_ ?_
       rotate_left
       ·
        intro w'
        go_simp
        with_reducible rfl
       rotate_left
       ·
        simp only [Act.put,lA_,lB_,lC_,i64_w,i32_w]
        rfl
       refine done_ (done_of HT_.out (by kernel_rfl)) ?_
       try go_wp2
       replace HB:=zm0_ (zm4_ HB.out)
       have p377 : 0 ≤ (x5_1 : Int):=of_decide_eq_true (by first|(with_reducible assumption)|assumption)
       have q377 : x5_1 < (l0.length : Int):=of_decide_eq_true (by first|(with_reducible assumption)|assumption)
       obtain ⟨ad377,e377,hx377_0,hx377_1⟩:=at_T36 HR0.out x5_1 p377 q377
       have hw377_1:=hx377_1
       have hw377_0:=hx377_0
       obtain rfl : ad375 = ad377:=(by injection e377)
       replace hx377_0:=(HB.out.cell (zq2_ w _ hx377_0)).trans hx377_0
       replace hx377_1:=(HB.out.cell (zq2_ w _ hx377_1)).trans hx377_1
       replace p377:=eq_true p377
       replace q377:=eq_true q377
       refine start_ (n:=8) (S:=fun w' => w'.cell? (ad375.add ((x5_1).toNat * 2)) = some (.string ((rd_T36 l0 x5_1).f0)) ∧ w'.cell? ⟨(ad375.add ((x5_1).toNat * 2)).block,(ad375.add ((x5_1).toNat * 2)).off + 1,none⟩ = some (.string ((rd_T36 l0 x5_1).f1))) (ds:=[]) #[Z,Z,Z,Z,Z,Z,Z,Z] (by kernel_rfl) rfl rfl ⟨((HB.out.cell (zq2_ w _ hw377_0)).trans hw377_0),((HB.out.cell (zq2_ w _ hw377_1)).trans hw377_1)⟩ (fun hHeld => ?_);refine with_tabW laws_heldFieldS.tab7 laws_heldFieldS.bits7 (fun HT_ HW_ => ?_)
       generalize w14.drew = w15 at HB hx377_0 hx377_1 hHeld ⊢
       refine pure_ (i:=0) (N:=some 22) (v:=?_) (a':=?_) #[Y,Z,Z,Z,Z,Z,Z,Z] rfl rfl (any_of HT_.out (by kernel_rfl)) (fun _ _ _ h => h) (Or.inl ⟨by rfl,?_⟩) ?_ ?_
       rotate_left
       ·
        intro w'
        go_simp
        with_reducible rfl
       rotate_left
       ·
        simp only [Act.put,lA_,lB_,lC_,i64_w,i32_w]
        rfl
       refine pure_ (i:=1) (N:=some 23) (v:=?_) (a':=?_) #[Y,Y,Z,Z,Z,Z,Z,Z] rfl rfl (any_of HT_.out (by kernel_rfl)) (fun _ _ _ h => h) (Or.inl ⟨by rfl,?_⟩) ?_ ?_
       rotate_left
       ·
        intro w'
        go_simp
        with_reducible rfl
       rotate_left
       ·
        simp only [Act.put,lA_,lB_,lC_,i64_w,i32_w]
        rfl
       refine pure_ (i:=2) (N:=some 24) (v:=?_) (a':=?_) #[Y,Y,Y,Z,Z,Z,Z,Z] rfl rfl (any_of HT_.out (by kernel_rfl)) (fun _ _ _ h => h) (Or.inl ⟨by rfl,?_⟩) ?_ ?_
       rotate_left
       ·
        intro w'
        go_simp
        with_reducible rfl
       rotate_left
       ·
        simp only [Act.put,lA_,lB_,lC_,i64_w,i32_w]
        rfl
       refine pure_ (i:=3) (N:=some 25) (v:=?_) (a':=?_) #[Y,Y,Y,Y,Z,Z,Z,Z] rfl rfl (any_of HT_.out (by kernel_rfl)) (fun _ _ _ h => h) (Or.inl ⟨by rfl,?_⟩) ?_ ?_
       rotate_left
       ·
        intro w'
        go_simp
        with_reducible rfl
       rotate_left
       ·
        simp only [Act.put,lA_,lB_,lC_,i64_w,i32_w]
        rfl
       refine pure_ (i:=5) (N:=some 27) (v:=?_) (a':=?_) #[Y,Y,Y,Y,Z,Y,Z,Z] rfl rfl (any_of HT_.out (by kernel_rfl)) (fun _ _ _ h => h) (Or.inl ⟨by rfl,?_⟩) ?_ ?_
       rotate_left
       ·
        intro w'
        go_simp
        with_reducible rfl
       rotate_left
       ·
        simp only [Act.put,lA_,lB_,lC_,i64_w,i32_w]
        rfl
       refine take_ (i:=4) (N:=some 26) (v:=?_) (a':=?_) #[Y,Y,Y,Y,Y,Y,Z,Z] rfl rfl (take_ofW HT_.out HW_.out (by kernel_rfl)) (fun _ _ _ h => h) (Or.inl ⟨by rfl,?_⟩) hHeld ?_ ?_
       rotate_left
       ·
        rintro w' ⟨s0,s1⟩
        go_simp
        with_reducible rfl
       rotate_left
       ·
        simp only [Act.put,lA_,lB_,lC_,i64_w,i32_w]
        rfl
       refine one_ (i:=6) (N:=some 28) #[Y,Y,Y,Y,Y,Y,Y,Z] rfl rfl (one_of HT_.out (by kernel_rfl)) (by decide) (fun K hK => ?_)
       refine goes_ Tryz.func37 (by kernel_rfl) rfl #[.int .i64 (wrap64 (x1_1 + 1))] (by rfl) rfl rfl zy ?_
       with_reducible refine (laws_markText.calls k1 (wrap64 (x1_1 + 1)) t378 _ A7.out).mono ?_
       rintro e w16 ⟨rfl,hb⟩
       refine ⟨_,rfl,?_⟩
       replace HB:=zm0_ (zn8_ (zl HB) hb)
       (try clear hb)
       (try clear hb2)
       (try clear hk)
       (try clear hi)
       refine hK.out _ _ ⟨((HB.out.cell (zq2_ w _ hw377_0)).trans hw377_0),((HB.out.cell (zq2_ w _ hw377_1)).trans hw377_1)⟩ (fun hHeld => ?_)
       clear hK K
       refine norm_ (a':=?_) ?_ ?_
       rotate_left
       ·
        show Act.put _ (some 28) _ = _
        simp only [Act.put,lA_,lB_,lC_,i64_w,i32_w]
        rfl
       refine pure_ (i:=7) (N:=some 29) (v:=?_) (a':=?_) #[Y,Y,Y,Y,Y,Y,Y,Y] rfl rfl (any_of HT_.out (by kernel_rfl)) (fun _ _ _ h => h) (Or.inl ⟨by rfl,?_⟩) ?_ ?_
       rotate_left
       ·
        intro w'
        go_simp
        with_reducible rfl
       rotate_left
       ·
        simp only [Act.put,lA_,lB_,lC_,i64_w,i32_w]
        rfl
       refine done_ (done_of HT_.out (by kernel_rfl)) ?_
       try go_wp2
       go_ret
       exact ⟨ze,by repeat (first|(with_reducible first|exact HB.out|apply zm3_|apply zm2_|apply zm4_)|exact HB.out)⟩
     ·
      rw [if_neg c6] at H
      have c6b0 : (((rd_T36 l0 x5_1).f0).toList == t376.toList) = false:=beq_eq_false_iff_ne.mpr c6
      have c6b1 : (((rd_T36 l0 x5_1).f0).toList != t376.toList) = true:=bne_iff_ne.mpr c6
      obtain rfl:=Option.some.inj H
      try go_wp2
      replace HB:=zm0_ (zm4_ HB.out)
      have p375 : 0 ≤ (x5_1 : Int):=of_decide_eq_true (by first|(with_reducible assumption)|assumption)
      have q375 : x5_1 < (l0.length : Int):=of_decide_eq_true (by first|(with_reducible assumption)|assumption)
      obtain ⟨ad375,e375,hx375_0,hx375_1⟩:=at_T36 HR0.out x5_1 p375 q375
      have hw375_1:=hx375_1
      have hw375_0:=hx375_0
      cases e375
      replace hx375_0:=(HB.out.cell (zq2_ w _ hx375_0)).trans hx375_0
      replace hx375_1:=(HB.out.cell (zq2_ w _ hx375_1)).trans hx375_1
      replace p375:=eq_true p375
      replace q375:=eq_true q375
      refine start_ (n:=8) (S:=fun w' => w'.cell? (ad375.add ((x5_1).toNat * 2)) = some (.string ((rd_T36 l0 x5_1).f0)) ∧ w'.cell? ⟨(ad375.add ((x5_1).toNat * 2)).block,(ad375.add ((x5_1).toNat * 2)).off + 1,none⟩ = some (.string ((rd_T36 l0 x5_1).f1))) (ds:=[]) #[Z,Z,Z,Z,Z,Z,Z,Z] (by kernel_rfl) rfl rfl ⟨((HB.out.cell (zq2_ w _ hw375_0)).trans hw375_0),((HB.out.cell (zq2_ w _ hw375_1)).trans hw375_1)⟩ (fun hHeld => ?_);refine with_tabW laws_heldFieldS.tab4 laws_heldFieldS.bits4 (fun HT_ HW_ => ?_)
      generalize wr.drew = w17 at HB hx375_0 hx375_1 hHeld ⊢
      refine pure_ (i:=0) (N:=some 12) (v:=?_) (a':=?_) #[Y,Z,Z,Z,Z,Z,Z,Z] rfl rfl (any_of HT_.out (by kernel_rfl)) (fun _ _ _ h => h) (Or.inl ⟨by rfl,?_⟩) ?_ ?_
      rotate_left
      ·
       intro w'
       go_simp
       with_reducible rfl
      rotate_left
      ·
       simp only [Act.put,lA_,lB_,lC_,i64_w,i32_w]
       rfl
      refine pure_ (i:=1) (N:=some 13) (v:=?_) (a':=?_) #[Y,Y,Z,Z,Z,Z,Z,Z] rfl rfl (any_of HT_.out (by kernel_rfl)) (fun _ _ _ h => h) (Or.inl ⟨by rfl,?_⟩) ?_ ?_
      rotate_left
      ·
       intro w'
       go_simp
       with_reducible rfl
      rotate_left
      ·
       simp only [Act.put,lA_,lB_,lC_,i64_w,i32_w]
       rfl
      refine pure_ (i:=2) (N:=some 14) (v:=?_) (a':=?_) #[Y,Y,Y,Z,Z,Z,Z,Z] rfl rfl (any_of HT_.out (by kernel_rfl)) (fun _ _ _ h => h) (Or.inl ⟨by rfl,?_⟩) ?_ ?_
      rotate_left
      ·
       intro w'
       go_simp
       with_reducible rfl
      rotate_left
      ·
       simp only [Act.put,lA_,lB_,lC_,i64_w,i32_w]
       rfl
      refine pure_ (i:=3) (N:=some 15) (v:=?_) (a':=?_) #[Y,Y,Y,Y,Z,Z,Z,Z] rfl rfl (any_of HT_.out (by kernel_rfl)) (fun _ _ _ h => h) (Or.inl ⟨by rfl,?_⟩) ?_ ?_
      rotate_left
      ·
       intro w'
       go_simp
       with_reducible rfl
      rotate_left
      ·
       simp only [Act.put,lA_,lB_,lC_,i64_w,i32_w]
       rfl
      refine pure_ (i:=5) (N:=some 17) (v:=?_) (a':=?_) #[Y,Y,Y,Y,Z,Y,Z,Z] rfl rfl (any_of HT_.out (by kernel_rfl)) (fun _ _ _ h => h) (Or.inl ⟨by rfl,?_⟩) ?_ ?_
      rotate_left
      ·
       intro w'
       go_simp
       with_reducible rfl
      rotate_left
      ·
       simp only [Act.put,lA_,lB_,lC_,i64_w,i32_w]
       rfl
      refine take_ (i:=4) (N:=some 16) (v:=?_) (a':=?_) #[Y,Y,Y,Y,Y,Y,Z,Z] rfl rfl (take_ofW HT_.out HW_.out (by kernel_rfl)) (fun _ _ _ h => h) (Or.inl ⟨by rfl,?_⟩) hHeld ?_ ?_
      rotate_left
      ·
       rintro w' ⟨s0,s1⟩
       go_simp
       with_reducible rfl
      rotate_left
      ·
       simp only [Act.put,lA_,lB_,lC_,i64_w,i32_w]
       rfl
      refine one_ (i:=6) (N:=some 18) #[Y,Y,Y,Y,Y,Y,Y,Z] rfl rfl (one_of HT_.out (by kernel_rfl)) (by decide) (fun K hK => ?_)
      refine goes_ Tryz.func37 (by kernel_rfl) rfl #[.int .i64 x1_1] (by rfl) rfl rfl zy ?_
      with_reducible refine (laws_markText.calls k1 x1_1 t376 _ A5.out).mono ?_
      rintro e w18 ⟨rfl,hb⟩
      refine ⟨_,rfl,?_⟩
      replace HB:=zm0_ (zn8_ (zl HB) hb)
      (try clear hb)
      (try clear hb2)
      (try clear hk)
      (try clear hi)
      refine hK.out _ _ ⟨((HB.out.cell (zq2_ w _ hw375_0)).trans hw375_0),((HB.out.cell (zq2_ w _ hw375_1)).trans hw375_1)⟩ (fun hHeld => ?_)
      clear hK K
      refine norm_ (a':=?_) ?_ ?_
      rotate_left
      ·
       show Act.put _ (some 18) _ = _
       simp only [Act.put,lA_,lB_,lC_,i64_w,i32_w]
       rfl
      refine pure_ (i:=7) (N:=some 19) (v:=?_) (a':=?_) #[Y,Y,Y,Y,Y,Y,Y,Y] rfl rfl (any_of HT_.out (by kernel_rfl)) (fun _ _ _ h => h) (Or.inl ⟨by rfl,?_⟩) ?_ ?_
      rotate_left
      ·
       intro w'
       go_simp
       with_reducible rfl
      rotate_left
      ·
       simp only [Act.put,lA_,lB_,lC_,i64_w,i32_w]
       rfl
      refine done_ (done_of HT_.out (by kernel_rfl)) ?_
      try go_wp2
      go_ret
      exact ⟨ze,by repeat (first|(with_reducible first|exact HB.out|apply zm3_|apply zm2_|apply zm4_)|exact HB.out)⟩
    ·
     rw [if_neg c4] at H
     exact absurd H (by simp)
   ·
    rw [if_neg c3] at H
    have c3b0 : decide (x5_1 < (l0.length : Int)) = false:=decide_eq_false c3
    clear c3
    obtain rfl:=Option.some.inj H
    go_wp2
    go_ret
    exact ⟨ze,by repeat (first|(with_reducible first|exact HB.out|apply zm3_|apply zm2_|apply zm4_)|exact HB.out)⟩
end Go.Proofs.YthflimnpiglgbaaGreatDoor.A
end
section
namespace Go.Proofs.YthflimnpiglgbaaGreatDoor.A
open Go.RowKit Go.Proofs.YthflimnpiglgbaaGreatDoorW.PrintWords Go.Proofs.YthflimnpiglgbaaGreatDoorW.PrintLast Go.Proofs.YthflimnpiglgbaaGreatDoorW.PrintMore
attribute [local go_sem] max2_int min2_int max_two min_two max_three min_three max_four min_four   -- for this text's walks alone
set_option linter.unusedVariables false
set_option linter.unusedSimpArgs false

def laws_heldTable.f (k : Nat) (a0_0 : Int) (l0_1 : List (S36)) (a1 : Int) : Option (Int):=(laws_heldFieldS.f k l0_1 a1).bind fun t380 => (if t380 < 0 then (some (-1)) else (some t380))
theorem laws_heldTable.mono : ∀ a0 a1 a2 k,LeO (laws_heldTable.f k a0 a1 a2) (laws_heldTable.f (k + 1) a0 a1 a2):=by
 intro a0 a1 a2 k
 unfold laws_heldTable.f
 repeat' first
  | (with_reducible exact laws_heldFieldS.mono _ _ _)
  | (with_reducible exact LeO.refl _)
  | (with_reducible exact LeO.none _)
  | (with_reducible refine LeO.ite ?_ ?_)
  | (with_reducible refine LeO.bind ?_ (fun _ => ?_))
  | exact laws_heldFieldS.mono _ _ _
  | exact LeO.none _
  | refine LeO.ite ?_ ?_
  | refine LeO.bind ?_ (fun _ => ?_)
set_option maxHeartbeats 8000000 in
set_option maxRecDepth 100000 in
theorem laws_heldTable.calls (k : Nat) (a0_0 : Int) (A0_1 : Option Addr) (c0_1 : Nat) (l0_1 : List (S36)) (a1 : Int) (r : Int) (w : World) (hr0_1 : Kd.C k36 w A0_1 l0_1.length l0_1) (hc0_1 : l0_1.length ≤ c0_1) (h : laws_heldTable.f k a0_0 l0_1 a1 = some r) :
 Calls Tryz.prog 16 #[.agg #[.int .i64 a0_0,.slice A0_1 l0_1.length c0_1],.int .i64 a1] w fun e w' => e = .returned (.int .i64 r) ∧ Below w.heap.size w w':=by
 have hu32:=Tryz.underlying32
 have HR0_1:=zm0_ hr0_1
 have HC0_1:=zm0_ hc0_1
 clear hr0_1 hc0_1
 have HB:=zm0_ (Below.refl w.heap.size w)
 have H : ((laws_heldFieldS.f k l0_1 a1).bind fun t380 => (if t380 < 0 then (some (-1)) else (some t380))) = some r:=h
 clear h
 replace H:=zq1_ H
 obtain ⟨t380,A30,H⟩:=H
 replace H : (if t380 < 0 then (some (-1)) else (some t380)) = some r:=H
 have A3:=zm0_ A30
 clear A30
 by_cases c4 : t380 < 0
 ·
  rw [if_pos c4] at H
  have c4b0 : decide (t380 < 0) = true:=decide_eq_true c4
  clear c4
  obtain rfl:=Option.some.inj H
  go_enter Tryz.func16,Tryz.ntmps16
  go_wp2_with (first|((with_reducible refine gate_dst (N:=2) rfl ?_);refine box_event ?hg (N:=2) ?hd (cs:=#[.int .i64 a0_0,.slice A0_1 l0_1.length c0_1]) (t:=32) ?hr ?_;(case hd => rfl);(case hg => rfl);(case hr => first|(go_simp;done)|(go_simp;rfl));intro gb379 hg w5 hbox hb;have BK379:=zm0_ (hbox);have GW379:=zm0_ ((by rw [hg];exact (zn9_ (zl HB)) : w.heap.size ≤ gb379));have GE379:=zm0_ ((by rw [hg];exact (zn9_ (zl HB)) : w.heap.size ≤ gb379));replace HB:=zm0_ (zn8_ (zl HB) hb);clear hb hbox hg;have hcz6_0 : w5.cell? ⟨gb379,0,none⟩ = some (.int .i64 a0_0):=(zm6_ BK379.out 0).trans rfl;have hcz6_1 : w5.cell? ⟨gb379,1,none⟩ = some (.slice A0_1 l0_1.length c0_1):=(zm6_ BK379.out 1).trans rfl;have hfz6_0:=zm7_ BK379.out 0;have hfz6_1:=zm7_ BK379.out 1)|((with_reducible refine gate_callee (f:=35) rfl ?_);refine goesL_ (some 8) rfl rfl Tryz.func35 (by kernel_rfl) rfl #[.slice A0_1 l0_1.length c0_1,.int .i64 a1] rfl zy ?_;(with_reducible refine (laws_heldFieldS.calls k _ _ l0_1 a1 t380 _ ?side1 ?side2 A3.out).mono ?_);(case side1 => repeat (first|exact (Kd.C_below HR0_1.out HB.out)|(with_reducible refine Kd.C_alloc ?_ _)|(with_reducible refine Kd.C_drewN ?_ _)|(with_reducible refine Kd.C_drew ?_)));(case side2 => exact HC0_1.out);rintro e w7 ⟨rfl,hb⟩;refine ⟨_,rfl,?_⟩;replace BK379:=zm0_ (zm5_ (zb BK379) hb);replace HB:=zm0_ (zn8_ (zl1 HB GE379) hb);(try clear hb);(try clear hb2);(try clear hk);(try clear hi)))
  go_ret
  exact ⟨ze,by repeat (first|(with_reducible first|exact HB.out|apply zm3_|apply zm2_|apply zm4_|refine zm1_ ?_ GE379.out)|exact HB.out)⟩
 ·
  rw [if_neg c4] at H
  have c4b0 : decide (t380 < 0) = false:=decide_eq_false c4
  clear c4
  obtain rfl:=Option.some.inj H
  go_enter Tryz.func16,Tryz.ntmps16
  go_wp2_with (first|((with_reducible refine gate_dst (N:=2) rfl ?_);refine box_event ?hg (N:=2) ?hd (cs:=#[.int .i64 a0_0,.slice A0_1 l0_1.length c0_1]) (t:=32) ?hr ?_;(case hd => rfl);(case hg => rfl);(case hr => first|(go_simp;done)|(go_simp;rfl));intro gb379 hg w8 hbox hb;have BK379:=zm0_ (hbox);have GW379:=zm0_ ((by rw [hg];exact (zn9_ (zl HB)) : w.heap.size ≤ gb379));have GE379:=zm0_ ((by rw [hg];exact (zn9_ (zl HB)) : w.heap.size ≤ gb379));replace HB:=zm0_ (zn8_ (zl HB) hb);clear hb hbox hg;have hcz9_0 : w8.cell? ⟨gb379,0,none⟩ = some (.int .i64 a0_0):=(zm6_ BK379.out 0).trans rfl;have hcz9_1 : w8.cell? ⟨gb379,1,none⟩ = some (.slice A0_1 l0_1.length c0_1):=(zm6_ BK379.out 1).trans rfl;have hfz9_0:=zm7_ BK379.out 0;have hfz9_1:=zm7_ BK379.out 1)|((with_reducible refine gate_callee (f:=35) rfl ?_);refine goesL_ (some 8) rfl rfl Tryz.func35 (by kernel_rfl) rfl #[.slice A0_1 l0_1.length c0_1,.int .i64 a1] rfl zy ?_;(with_reducible refine (laws_heldFieldS.calls k _ _ l0_1 a1 t380 _ ?side1 ?side2 A3.out).mono ?_);(case side1 => repeat (first|exact (Kd.C_below HR0_1.out HB.out)|(with_reducible refine Kd.C_alloc ?_ _)|(with_reducible refine Kd.C_drewN ?_ _)|(with_reducible refine Kd.C_drew ?_)));(case side2 => exact HC0_1.out);rintro e w10 ⟨rfl,hb⟩;refine ⟨_,rfl,?_⟩;replace BK379:=zm0_ (zm5_ (zb BK379) hb);replace HB:=zm0_ (zn8_ (zl1 HB GE379) hb);(try clear hb);(try clear hb2);(try clear hk);(try clear hi)))
  go_ret
  exact ⟨ze,by repeat (first|(with_reducible first|exact HB.out|apply zm3_|apply zm2_|apply zm4_|refine zm1_ ?_ GE379.out)|exact HB.out)⟩
end Go.Proofs.YthflimnpiglgbaaGreatDoor.A
end
