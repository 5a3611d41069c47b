/- Functions of the program and of the reference as plain Lean functions, that the machine's calls answer as they do, and laws of these. Written in part by a program of this session, out of the translation. Condition: each theorem's own. -/
import Derived.Test.YthflimnpiglgbaaGreatDoorPg1
import Derived.Test.YthflimnpiglgbaaGreatDoorPg2
import Derived.KernelRfl
import Derived.Lib.Split
import Derived.Lib.Atoi
import Derived.Test.YthflimnpiglgbaaGreatDoorV1
import Derived.Great.Walk
import Derived.WalkKit
import Derived.BigCall
import Derived.Deep.LoopGhost
import Derived.RegionTactic
import Derived.BigRegion
import Derived.Lib.AppendStr
section
namespace Go.Proofs.YthflimnpiglgbaaGreatDoor.A
open Go.RowKit Go.Proofs.YthflimnpiglgbaaGreatDoorW.PrintWords Go.Proofs.YthflimnpiglgbaaGreatDoorW.PrintLast Go.Proofs.YthflimnpiglgbaaGreatDoorW.PrintMore
attribute [local go_sem] max2_int min2_int max_two min_two max_three min_three max_four min_four   -- for this text's walks alone
set_option linter.unusedVariables false
set_option linter.unusedSimpArgs false

mutual
def spec_PutPrefix.j0 : Nat → Int → Int → Int → List Int → Bool → Option (List Int)
 | 0,_,_,_,_,_ => none
 | k + 1,x1,x2,x3,x9,x21 => if x21 = true then (some x9) else (if x3 > 16777216 then (spec_PutPrefix.j1 k x1 x2 16777216 x9) else (spec_PutPrefix.j1 k x1 x2 x3 x9))
def spec_PutPrefix.j1 : Nat → Int → Int → Int → List Int → Option (List Int)
 | 0,_,_,_,_ => none
 | k + 1,x1,x2,x3,x9 => if x3 < 0 then (spec_PutPrefix.j2 k x1 x2 0 x9) else (spec_PutPrefix.j2 k x1 x2 x3 x9)
def spec_PutPrefix.j2 : Nat → Int → Int → Int → List Int → Option (List Int)
 | 0,_,_,_,_ => none
 | k + 1,x1,x2,x3,x9 => if 0 ≤ (IntKind.u64.wrap (x1)) then (if x3 < (wrap64 ((shl .i64 1 (IntKind.u64.wrap (x1))) - 1)) then (if x9.length < 140737488355328 then (some (x9 ++ [(Go.bits .or .i64 (Go.bits .andNot .i64 x2 (wrap64 ((shl .i64 1 (IntKind.u64.wrap (x1))) - 1))) x3) % 256])) else (none)) else (if x9.length < 140737488355328 then (spec_PutPrefix.l0 k (wrap64 (x3 - (wrap64 ((shl .i64 1 (IntKind.u64.wrap (x1))) - 1)))) (x9 ++ [(Go.bits .or .i64 (Go.bits .andNot .i64 x2 (wrap64 ((shl .i64 1 (IntKind.u64.wrap (x1))) - 1))) (wrap64 ((shl .i64 1 (IntKind.u64.wrap (x1))) - 1))) % 256])) else (none))) else (none)
def spec_PutPrefix.l0 : Nat → Int → List Int → Option (List Int)
 | 0,_,_ => none
 | k + 1,x3,x9 => if x3 > 127 then (if x9.length < 140737488355328 then (spec_PutPrefix.l0 k (x3 / 128) (x9 ++ [(Go.bits .or .i64 (Go.bits .and .i64 x3 127) 128) % 256])) else (none)) else (if x9.length < 140737488355328 then (some (x9 ++ [(x3) % 256])) else (none))
end
def spec_PutPrefix.f (k : Nat) (l0 : List Int) (a1 : Int) (a2 : Int) (a3 : Int) : Option (List Int):=(some (([] : List Int) : List Int)).bind fun y132 => (if y132.length + l0.length < 140737488355328 then ((some (y132 ++ l0 : List Int)).bind fun y135 => ((spec_l1In.f a1 1 8).bind fun t138 => (if t138 = true then ((spec_l1In.f a2 0 255).bind fun t139 => (spec_PutPrefix.j0 k a1 a2 a3 y135 (!t139))) else (spec_PutPrefix.j0 k a1 a2 a3 y135 true)))) else (none))
theorem spec_PutPrefix.mono_l : ∀ k,(∀ y0 y1 y2 y3 y4,LeO (spec_PutPrefix.j0 k y0 y1 y2 y3 y4) (spec_PutPrefix.j0 (k + 1) y0 y1 y2 y3 y4)) ∧ (∀ y0 y1 y2 y3,LeO (spec_PutPrefix.j1 k y0 y1 y2 y3) (spec_PutPrefix.j1 (k + 1) y0 y1 y2 y3)) ∧ (∀ y0 y1 y2 y3,LeO (spec_PutPrefix.j2 k y0 y1 y2 y3) (spec_PutPrefix.j2 (k + 1) y0 y1 y2 y3)) ∧ (∀ y0 y1,LeO (spec_PutPrefix.l0 k y0 y1) (spec_PutPrefix.l0 (k + 1) y0 y1))
 | 0 => ⟨fun _ _ _ _ _ r h => by simp [spec_PutPrefix.j0] at h,fun _ _ _ _ r h => by simp [spec_PutPrefix.j1] at h,fun _ _ _ _ r h => by simp [spec_PutPrefix.j2] at h,fun _ _ r h => by simp [spec_PutPrefix.l0] at h⟩
 | k + 1 => by
  obtain ⟨ih0,ih1,ih2,ih3⟩:=spec_PutPrefix.mono_l k
  refine ⟨?_,?_,?_,?_⟩
  ·
   intro y0 y1 y2 y3 y4
   unfold spec_PutPrefix.j0
   repeat' first
   | (with_reducible exact ih0 _ _ _ _ _)
   | (with_reducible exact ih1 _ _ _ _)
   | (with_reducible exact ih2 _ _ _ _)
   | (with_reducible exact ih3 _ _)
   | (with_reducible exact LeO.refl _)
   | (with_reducible exact LeO.none _)
   | (with_reducible refine LeO.ite ?_ ?_)
   | (with_reducible refine LeO.bind ?_ (fun _ => ?_))
   | exact ih0 _ _ _ _ _
   | exact ih1 _ _ _ _
   | exact ih2 _ _ _ _
   | exact ih3 _ _
   | exact LeO.none _
   | refine LeO.ite ?_ ?_
   | refine LeO.bind ?_ (fun _ => ?_)
  ·
   intro y0 y1 y2 y3
   unfold spec_PutPrefix.j1
   repeat' first
   | (with_reducible exact ih0 _ _ _ _ _)
   | (with_reducible exact ih1 _ _ _ _)
   | (with_reducible exact ih2 _ _ _ _)
   | (with_reducible exact ih3 _ _)
   | (with_reducible exact LeO.refl _)
   | (with_reducible exact LeO.none _)
   | (with_reducible refine LeO.ite ?_ ?_)
   | (with_reducible refine LeO.bind ?_ (fun _ => ?_))
   | exact ih0 _ _ _ _ _
   | exact ih1 _ _ _ _
   | exact ih2 _ _ _ _
   | exact ih3 _ _
   | exact LeO.none _
   | refine LeO.ite ?_ ?_
   | refine LeO.bind ?_ (fun _ => ?_)
  ·
   intro y0 y1 y2 y3
   unfold spec_PutPrefix.j2
   repeat' first
   | (with_reducible exact ih0 _ _ _ _ _)
   | (with_reducible exact ih1 _ _ _ _)
   | (with_reducible exact ih2 _ _ _ _)
   | (with_reducible exact ih3 _ _)
   | (with_reducible exact LeO.refl _)
   | (with_reducible exact LeO.none _)
   | (with_reducible refine LeO.ite ?_ ?_)
   | (with_reducible refine LeO.bind ?_ (fun _ => ?_))
   | exact ih0 _ _ _ _ _
   | exact ih1 _ _ _ _
   | exact ih2 _ _ _ _
   | exact ih3 _ _
   | exact LeO.none _
   | refine LeO.ite ?_ ?_
   | refine LeO.bind ?_ (fun _ => ?_)
  ·
   intro y0 y1
   unfold spec_PutPrefix.l0
   repeat' first
   | (with_reducible exact ih0 _ _ _ _ _)
   | (with_reducible exact ih1 _ _ _ _)
   | (with_reducible exact ih2 _ _ _ _)
   | (with_reducible exact ih3 _ _)
   | (with_reducible exact LeO.refl _)
   | (with_reducible exact LeO.none _)
   | (with_reducible refine LeO.ite ?_ ?_)
   | (with_reducible refine LeO.bind ?_ (fun _ => ?_))
   | exact ih0 _ _ _ _ _
   | exact ih1 _ _ _ _
   | exact ih2 _ _ _ _
   | exact ih3 _ _
   | exact LeO.none _
   | refine LeO.ite ?_ ?_
   | refine LeO.bind ?_ (fun _ => ?_)
theorem spec_PutPrefix.mono : ∀ a0 a1 a2 a3 k,LeO (spec_PutPrefix.f k a0 a1 a2 a3) (spec_PutPrefix.f (k + 1) a0 a1 a2 a3):=by
 intro a0 a1 a2 a3 k
 obtain ⟨ih0,ih1,ih2,ih3⟩:=spec_PutPrefix.mono_l k
 unfold spec_PutPrefix.f
 repeat' first
  | (with_reducible exact ih0 _ _ _ _ _)
  | (with_reducible exact ih1 _ _ _ _)
  | (with_reducible exact ih2 _ _ _ _)
  | (with_reducible exact ih3 _ _)
  | (with_reducible exact LeO.refl _)
  | (with_reducible exact LeO.none _)
  | (with_reducible refine LeO.ite ?_ ?_)
  | (with_reducible refine LeO.bind ?_ (fun _ => ?_))
  | exact ih0 _ _ _ _ _
  | exact ih1 _ _ _ _
  | exact ih2 _ _ _ _
  | exact ih3 _ _
  | exact LeO.none _
  | refine LeO.ite ?_ ?_
  | refine LeO.bind ?_ (fun _ => ?_)
set_option maxHeartbeats 8000000 in
set_option maxRecDepth 100000 in
theorem spec_PutPrefix.calls (k : Nat) (A0 : Option Addr) (c0 : Nat) (l0 : List Int) (a1 : Int) (a2 : Int) (a3 : Int) (r : List Int) (w : World) (hr0 : Kd.C (Kd.int .u8) w A0 l0.length l0) (hc0 : l0.length ≤ c0) (h : spec_PutPrefix.f k l0 a1 a2 a3 = some r) :
 Calls Tryz.prog 27 #[.slice A0 l0.length c0,.int .i64 a1,.int .i64 a2,.int .i64 a3] w fun e w' => ∃ v0_ : Value,e = .returned (v0_) ∧ Kd.R (Kd.int .u8) 5 w' w.heap.size (fun _ => True) v0_ r ∧ Below w.heap.size w w':=by
 have HR0:=zm0_ hr0
 have HC0:=zm0_ hc0
 clear hr0 hc0
 have HB:=zm0_ (Below.refl w.heap.size w)
 have H : ((some (([] : List Int) : List Int)).bind fun y132 => (if y132.length + l0.length < 140737488355328 then ((some (y132 ++ l0 : List Int)).bind fun y135 => ((spec_l1In.f a1 1 8).bind fun t138 => (if t138 = true then ((spec_l1In.f a2 0 255).bind fun t139 => (spec_PutPrefix.j0 k a1 a2 a3 y135 (!t139))) else (spec_PutPrefix.j0 k a1 a2 a3 y135 true)))) else (none))) = some r:=h
 clear h
 obtain ⟨y132,hy132⟩ : ∃ y_ : List Int,y_ = (([] : List Int)):=⟨_,rfl⟩
 replace H : (if y132.length + l0.length < 140737488355328 then ((some (y132 ++ l0 : List Int)).bind fun y135 => ((spec_l1In.f a1 1 8).bind fun t138 => (if t138 = true then ((spec_l1In.f a2 0 255).bind fun t139 => (spec_PutPrefix.j0 k a1 a2 a3 y135 (!t139))) else (spec_PutPrefix.j0 k a1 a2 a3 y135 true)))) else (none)) = some r:=by first|(rw [hy132];with_reducible exact H)|(have H2_:=(Option.bind_some _ _).symm.trans H;rw [hy132];with_reducible exact H2_)|(have H2_:=(Option.bind_some _ _).symm.trans H;with_reducible exact H2_)|with_reducible exact H|(rw [hy132];exact H)|exact H
 have Ny132:=zm0_ hy132
 clear hy132
 by_cases c5 : y132.length + l0.length < 140737488355328
 ·
  rw [if_pos c5] at H
  have LMc5:=zm0_ c5
  clear c5
  obtain ⟨y135,hy135⟩ : ∃ y_ : List Int,y_ = (y132 ++ l0):=⟨_,rfl⟩
  replace H : ((spec_l1In.f a1 1 8).bind fun t138 => (if t138 = true then ((spec_l1In.f a2 0 255).bind fun t139 => (spec_PutPrefix.j0 k a1 a2 a3 y135 (!t139))) else (spec_PutPrefix.j0 k a1 a2 a3 y135 true))) = some r:=by first|(rw [hy135];with_reducible exact H)|(have H2_:=(Option.bind_some _ _).symm.trans H;rw [hy135];with_reducible exact H2_)|(have H2_:=(Option.bind_some _ _).symm.trans H;with_reducible exact H2_)|with_reducible exact H|(rw [hy135];exact H)|exact H
  have Ny135:=zm0_ hy135
  clear hy135
  have HC6:=zm0_ H
  clear H
  go_enter Tryz.func27,Tryz.ntmps27
  go_upto_region 2 with (first|((with_reducible refine gate_dst (N:=11) rfl ?_);refine Kd.R_lit (Kd.int .u8) _ 5 ?hg (N:=11) ?hd (xs:=([] : List Int)) (inner:=[]) (ok:=fun _ => True) (okp:=fun _ => True) ?hr ?hp (fun _ hk => hk) trivial (Below.refl _ _) (Nat.le_refl _) (by simp) ?_;(case hd => rfl);(case hg => rfl);(case hr => first|(go_simp;done)|(go_simp;rfl));(case hp => exact (Reps.none _ _));intro v133 w7 ho8 hb hg_ hnew_;clear hg_ hnew_;(first|rw [← Ny132.out] at ho8|(simp only [Int.reduceToNat] at ho8;rw [← Ny132.out] at ho8));have HO134:=zm0_ (zo1_ ho8 (zn9_ (zl HB)));replace HB:=zm0_ (zn8_ (zl HB) hb);clear hb ho8)|((with_reducible refine gate_builtin (b:=.append) (xs:=#[.tmp 11,.tmp 12]) rfl ?_);at_builtin;refine Kd.R_append_rows (Kd.int .u8) (w0:=w) w.heap.size rfl (.tmp 11) (.tmp 12) 29 5 (.int .u8 0) 1 rfl Tryz.underlying29 info5 rfl (by decide) (by omega) v133 y132 l0 _ _ _ (fun _ => True) (fun _ => False) rfl rfl ?aO ?aR (fun _ _ h => h) (fun _ h => h.elim) ?aF ?aB ?aS ?aL ?_;(case aR => repeat (first|exact (Kd.C_below HR0.out HB.out)|(with_reducible refine Kd.C_alloc ?_ _)|(with_reducible refine Kd.C_drewN ?_ _)|(with_reducible refine Kd.C_drew ?_)));(case aB => exact (zl HB));(case aF => exact (fun _ _ => trivial));(case aO => exact (zr HO134));(case aS => exact (zn9_ (zl HB)));(case aL => have:=LMc5.out;omega);intro v136 w9 ho hb hg hat;(first|(with_reducible rw [← Ny135.out] at ho)|(simp only [Int.reduceToNat] at ho;with_reducible rw [← Ny135.out] at ho)|rw [← Ny135.out] at ho);replace HB:=zm0_ (hb);have HO137:=zm0_ (ho);clear HO134;clear ho hb hg hat))
  (try simp only [Act.put,lA_,lB_,lC_])
  go_cut [21] (fun v21 wc => ∃ (kq : Nat) (x21_5 : Bool),v21 = .bool x21_5 ∧ Aside0 (spec_PutPrefix.j0 kq a1 a2 a3 y135 x21_5 = some r) ∧ Aside0 (kq ≤ k) ∧ Aside0 (Kd.R (Kd.int .u8) 5 wc w.heap.size (fun _ => True) v136 y135) ∧ Aside0 (Below w.heap.size w wc))
  case first =>
   have H:=HC6.out
   clear HC6
   replace H:=zq1_ H
   obtain ⟨t138,A100,H⟩:=H
   replace H : (if t138 = true then ((spec_l1In.f a2 0 255).bind fun t139 => (spec_PutPrefix.j0 k a1 a2 a3 y135 (!t139))) else (spec_PutPrefix.j0 k a1 a2 a3 y135 true)) = some r:=H
   have A10:=zm0_ A100
   clear A100
   by_cases c11 : t138 = true
   ·
    subst c11
    rw [if_pos rfl] at H
    replace H:=zq1_ H
    obtain ⟨t139,A120,H⟩:=H
    replace H : (spec_PutPrefix.j0 k a1 a2 a3 y135 (!t139)) = some r:=H
    have A12:=zm0_ A120
    clear A120
    have H':=zm0_ H
    clear H
    go_wp2_with (first|((with_reducible refine gate_callee (f:=25) rfl ?_);refine goesL_ (some 15) rfl rfl Tryz.func25 (by kernel_rfl) rfl #[.int .i64 a1,.int .i64 1,.int .i64 8] rfl zy ?_;(with_reducible refine (spec_l1In.calls a1 1 8 true _ A10.out).mono ?_);rintro e w' ⟨rfl,⟨nd,rfl⟩⟩;refine ⟨_,rfl,?_⟩)|(go_at_call 25;(with_reducible refine (spec_l1In.calls a2 0 255 t139 _ A12.out).mono ?_);rintro e w' ⟨rfl,⟨nd,rfl⟩⟩))
    go_meet
    case rel => exact ⟨_,(!t139),zz,H',⟨by first|omega|exact Nat.le_refl _⟩,⟨zr HO137⟩,⟨zl HB⟩⟩
   ·
    replace c11:=Bool.eq_false_iff.mpr c11
    subst c11
    rw [if_neg (show ¬ (false = true) by decide)] at H
    have H':=zm0_ H
    clear H
    go_wp2_with (first|((with_reducible refine gate_callee (f:=25) rfl ?_);refine goesL_ (some 15) rfl rfl Tryz.func25 (by kernel_rfl) rfl #[.int .i64 a1,.int .i64 1,.int .i64 8] rfl zy ?_;(with_reducible refine (spec_l1In.calls a1 1 8 false _ A10.out).mono ?_);rintro e w' ⟨rfl,⟨nd,rfl⟩⟩;refine ⟨_,rfl,?_⟩))
    go_meet
    case rel => exact ⟨_,(true),zz,H',⟨by first|omega|exact Nat.le_refl _⟩,⟨zr HO137⟩,⟨zl HB⟩⟩
  case rest =>
   clear HC6
   try clear c1
   try clear c2
   try clear p2
   try clear c5
   try clear c11
   obtain ⟨kq,x21_5,rfl,HA,HJ5,HO_9,HB⟩:=hcut
   cases kq with
   | zero => exact absurd HA.out (by simp [spec_PutPrefix.j0])
   | succ kj5 =>
    have H:=HA.out
    clear HA
    simp only [spec_PutPrefix.j0] at H
    by_cases c13 : x21_5 = true
    ·
     subst c13
     rw [if_pos rfl] at H
     obtain rfl:=Option.some.inj H
     go_wp2
     go_ret
     exact ⟨_,ze,by (with_reducible repeat (first|apply k1_|apply k2_|apply k3_));exact HO_9.out,by repeat (first|(with_reducible first|exact HB.out|apply zm3_|apply zm2_|apply zm4_)|exact HB.out)⟩
    ·
     replace c13:=Bool.eq_false_iff.mpr c13
     subst c13
     rw [if_neg (show ¬ (false = true) by decide)] at H
     have HC14:=zm0_ H
     clear H
     go_upto_if 24 with (fail)
     go_cut [3] (fun v3 wc => ∃ (kq : Nat) (x3_13 : Int),v3 = .int .i64 x3_13 ∧ Aside0 (spec_PutPrefix.j1 kq a1 a2 x3_13 y135 = some r) ∧ Aside0 (kq ≤ kj5) ∧ Aside0 (Kd.R (Kd.int .u8) 5 wc w.heap.size (fun _ => True) v136 y135) ∧ Aside0 (Below w.heap.size w wc))
     case first =>
      have H:=HC14.out
      clear HC14
      by_cases c15 : a3 > 16777216
      ·
       rw [if_pos c15] at H
       have c15b0 : decide (16777216 < a3) = true:=decide_eq_true c15
       clear c15
       (first|rw [c15b0]|(simp only [i64_w,i32_w];rw [c15b0])|rw [c15b1]|skip)
       have H':=zm0_ H
       clear H
       go_wp2
       go_meet
       case rel => exact ⟨_,(16777216),zz,H',⟨by have:=HJ5.out;first|omega|exact Nat.le_refl _⟩,⟨zr HO_9⟩,⟨zl HB⟩⟩
      ·
       rw [if_neg c15] at H
       have c15b0 : decide (16777216 < a3) = false:=decide_eq_false c15
       clear c15
       (first|rw [c15b0]|(simp only [i64_w,i32_w];rw [c15b0])|rw [c15b1]|skip)
       have H':=zm0_ H
       clear H
       go_wp2
       go_meet
       case rel => exact ⟨_,(a3),zz,H',⟨by have:=HJ5.out;first|omega|exact Nat.le_refl _⟩,⟨zr HO_9⟩,⟨zl HB⟩⟩
     case rest =>
      clear HC14
      try clear c1
      try clear c2
      try clear p2
      try clear c5
      try clear c11
      try clear c13
      try clear c15
      try clear c15b0
      try clear c15b1
      try clear p2
      obtain ⟨kq,x3_13,rfl,HA,HJ13,HO_9,HB⟩:=hcut
      cases kq with
      | zero => exact absurd HA.out (by simp [spec_PutPrefix.j1])
      | succ kj13 =>
       have H:=HA.out
       clear HA
       simp only [spec_PutPrefix.j1] at H
       have HC16:=zm0_ H
       clear H
       go_upto_if 26 with (fail)
       go_cut [3] (fun v3 wc => ∃ (kq : Nat) (x3_15 : Int),v3 = .int .i64 x3_15 ∧ Aside0 (spec_PutPrefix.j2 kq a1 a2 x3_15 y135 = some r) ∧ Aside0 (kq ≤ kj13) ∧ Aside0 (Kd.R (Kd.int .u8) 5 wc w.heap.size (fun _ => True) v136 y135) ∧ Aside0 (Below w.heap.size w wc))
       case first =>
        have H:=HC16.out
        clear HC16
        by_cases c17 : x3_13 < 0
        ·
         rw [if_pos c17] at H
         have c17b0 : decide (x3_13 < 0) = true:=decide_eq_true c17
         clear c17
         (first|rw [c17b0]|(simp only [i64_w,i32_w];rw [c17b0])|rw [c17b1]|skip)
         have H':=zm0_ H
         clear H
         go_wp2
         go_meet
         case rel => exact ⟨_,(0),zz,H',⟨by have:=HJ5.out;have:=HJ13.out;first|omega|exact Nat.le_refl _⟩,⟨zr HO_9⟩,⟨zl HB⟩⟩
        ·
         rw [if_neg c17] at H
         have c17b0 : decide (x3_13 < 0) = false:=decide_eq_false c17
         clear c17
         (first|rw [c17b0]|(simp only [i64_w,i32_w];rw [c17b0])|rw [c17b1]|skip)
         have H':=zm0_ H
         clear H
         go_wp2
         go_meet
         case rel => exact ⟨_,(x3_13),zz,H',⟨by have:=HJ5.out;have:=HJ13.out;first|omega|exact Nat.le_refl _⟩,⟨zr HO_9⟩,⟨zl HB⟩⟩
       case rest =>
        clear HC16
        try clear c1
        try clear c2
        try clear p2
        try clear c5
        try clear c11
        try clear c13
        try clear c15
        try clear c15b0
        try clear c15b1
        try clear c17
        try clear c17b0
        try clear c17b1
        try clear p2
        obtain ⟨kq,x3_15,rfl,HA,HJ15,HO_9,HB⟩:=hcut
        cases kq with
        | zero => exact absurd HA.out (by simp [spec_PutPrefix.j2])
        | succ kj15 =>
         have H:=HA.out
         clear HA
         simp only [spec_PutPrefix.j2] at H
         obtain ⟨ji18,hji18⟩ : ∃ j_ : Int,(IntKind.u64.wrap (a1)) = j_:=⟨_,rfl⟩
         replace H : (if 0 ≤ (ji18) then (if x3_15 < (wrap64 ((shl .i64 1 (ji18)) - 1)) then (if y135.length < 140737488355328 then (some (y135 ++ [(Go.bits .or .i64 (Go.bits .andNot .i64 a2 (wrap64 ((shl .i64 1 (ji18)) - 1))) x3_15) % 256])) else (none)) else (if y135.length < 140737488355328 then (spec_PutPrefix.l0 kj15 (wrap64 (x3_15 - (wrap64 ((shl .i64 1 (ji18)) - 1)))) (y135 ++ [(Go.bits .or .i64 (Go.bits .andNot .i64 a2 (wrap64 ((shl .i64 1 (ji18)) - 1))) (wrap64 ((shl .i64 1 (ji18)) - 1))) % 256])) else (none))) else (none)) = some r:=by first|(rw [hji18] at H;exact H)|(simp only [hji18] at H ⊢;exact H)
         by_cases c19 : 0 ≤ (ji18)
         ·
          rw [if_pos c19] at H
          have c19b0:=eq_true c19
          have c19b1 : decide (0 ≤ (ji18)) = true:=decide_eq_true c19
          clear c19
          obtain ⟨ji20,hji20⟩ : ∃ j_ : Int,(shl .i64 1 (ji18)) = j_:=⟨_,rfl⟩
          replace H : (if x3_15 < (wrap64 ((ji20) - 1)) then (if y135.length < 140737488355328 then (some (y135 ++ [(Go.bits .or .i64 (Go.bits .andNot .i64 a2 (wrap64 ((ji20) - 1))) x3_15) % 256])) else (none)) else (if y135.length < 140737488355328 then (spec_PutPrefix.l0 kj15 (wrap64 (x3_15 - (wrap64 ((ji20) - 1)))) (y135 ++ [(Go.bits .or .i64 (Go.bits .andNot .i64 a2 (wrap64 ((ji20) - 1))) (wrap64 ((ji20) - 1))) % 256])) else (none))) = some r:=by first|(rw [hji20] at H;exact H)|(simp only [hji20] at H ⊢;exact H)
          have hji20_ : (IntKind.i64.wrap (1 * 2 ^ min (ji18).toNat 64)) = ji20:=hji20
          have hji20z : (ji18) ≤ 64 → (IntKind.i64.wrap (1 * 2 ^ (ji18).toNat)) = ji20:=shl_small hji20
          have hji20u : (IntKind.i64.wrap (2 ^ min (ji18).toNat 64)) = ji20:=by have h_:=hji20_;rw [Int.one_mul] at h_;exact h_
          have hji20v : (ji18) ≤ 64 → (IntKind.i64.wrap (2 ^ (ji18).toNat)) = ji20:=fun hle_ => by have h_:=hji20z hle_;rw [Int.one_mul] at h_;exact h_
          have hji20y : (wrap64 (1 * 2 ^ min (ji18).toNat 64)) = ji20:=(i64_w _).symm.trans hji20_
          have hji20x : (ji18) ≤ 64 → (wrap64 (1 * 2 ^ (ji18).toNat)) = ji20:=fun h_ => (i64_w _).symm.trans (hji20z h_)
          by_cases c21 : x3_15 < (wrap64 ((ji20) - 1))
          ·
           rw [if_pos c21] at H
           have c21b0 : decide (x3_15 < (wrap64 ((ji20) - 1))) = true:=decide_eq_true c21
           clear c21
           by_cases c22 : y135.length < 140737488355328
           ·
            rw [if_pos c22] at H
            have LMc22:=zm0_ c22
            clear c22
            obtain ⟨y140,hy140⟩ : ∃ y_ : List Int,y_ = (y135 ++ [(Go.bits .or .i64 (Go.bits .andNot .i64 a2 (wrap64 ((ji20) - 1))) x3_15) % 256]):=⟨_,rfl⟩
            replace H : (some y140) = some r:=by first|(rw [hy140];with_reducible exact H)|(have H2_:=(Option.bind_some _ _).symm.trans H;rw [hy140];with_reducible exact H2_)|(have H2_:=(Option.bind_some _ _).symm.trans H;with_reducible exact H2_)|with_reducible exact H|(rw [hy140];exact H)|exact H
            have Ny140:=zm0_ hy140
            clear hy140
            obtain rfl:=Option.some.inj H
            go_wp2_with (first|((with_reducible refine gate_builtin (b:=.append) (xs:=#[.tmp 37,.tmp 42]) rfl ?_);at_builtin;refine Kd.R_append (Kd.int .u8) (w0:=w) w.heap.size rfl (.tmp 37) (.tmp 42) 29 5 (.int .u8 0) 1 rfl Tryz.underlying29 info5 rfl (by decide) (by omega) v136 y135 ((Go.bits .or .i64 (Go.bits .andNot .i64 a2 (wrap64 ((ji20) - 1))) x3_15) % 256) [.int .u8 ((Go.bits .or .i64 (Go.bits .andNot .i64 a2 (wrap64 ((ji20) - 1))) x3_15) % 256)] (fun _ => True) (fun _ => False) rfl rfl ?aP (fun _ hk => hk.elim) ?aF ?aO ?aB ?aS ?aL ?_;(case aP => exact rfl);(case aB => exact (zl HB));(case aF => exact (fun _ _ => trivial));(case aO => exact (zr HO_9));(case aS => exact (zn9_ (zl HB)));(case aL => have:=LMc22.out;omega);intro v141 w23 ho hb hg hat;(first|(with_reducible rw [← Ny140.out] at ho)|(simp only [Int.reduceToNat] at ho;with_reducible rw [← Ny140.out] at ho)|rw [← Ny140.out] at ho);replace HB:=zm0_ (hb);have HO142:=zm0_ (ho);clear HO_9;clear ho hb hg hat))
            go_ret
            exact ⟨_,by first|rfl|(simp [errW_none,errW_some] <;> rfl)|(simp only [← hji18,← hji20];first|rfl|(simp [errW_none,errW_some] <;> rfl))|(simp [*,errW_none,errW_some] <;> rfl),by (with_reducible repeat (first|apply k1_|apply k2_|apply k3_));exact HO142.out,by repeat (first|(with_reducible first|exact HB.out|apply zm3_|apply zm2_|apply zm4_)|exact HB.out)⟩
           ·
            rw [if_neg c22] at H
            exact absurd H (by simp)
          ·
           rw [if_neg c21] at H
           have c21b0 : decide (x3_15 < (wrap64 ((ji20) - 1))) = false:=decide_eq_false c21
           clear c21
           by_cases c24 : y135.length < 140737488355328
           ·
            rw [if_pos c24] at H
            have LMc24:=zm0_ c24
            clear c24
            obtain ⟨y143,hy143⟩ : ∃ y_ : List Int,y_ = (y135 ++ [(Go.bits .or .i64 (Go.bits .andNot .i64 a2 (wrap64 ((ji20) - 1))) (wrap64 ((ji20) - 1))) % 256]):=⟨_,rfl⟩
            replace H : (spec_PutPrefix.l0 kj15 (wrap64 (x3_15 - (wrap64 ((ji20) - 1)))) y143) = some r:=by first|(rw [hy143];with_reducible exact H)|(have H2_:=(Option.bind_some _ _).symm.trans H;rw [hy143];with_reducible exact H2_)|(have H2_:=(Option.bind_some _ _).symm.trans H;with_reducible exact H2_)|with_reducible exact H|(rw [hy143];exact H)|exact H
            have Ny143:=zm0_ hy143
            clear hy143
            have H':=zm0_ H
            clear H
            go_wp2_with (first|((with_reducible refine gate_builtin (b:=.append) (xs:=#[.tmp 44,.tmp 49]) rfl ?_);at_builtin;refine Kd.R_append (Kd.int .u8) (w0:=w) w.heap.size rfl (.tmp 44) (.tmp 49) 29 5 (.int .u8 0) 1 rfl Tryz.underlying29 info5 rfl (by decide) (by omega) v136 y135 ((Go.bits .or .i64 (Go.bits .andNot .i64 a2 (wrap64 ((ji20) - 1))) (wrap64 ((ji20) - 1))) % 256) [.int .u8 ((Go.bits .or .i64 (Go.bits .andNot .i64 a2 (wrap64 ((ji20) - 1))) (wrap64 ((ji20) - 1))) % 256)] (fun _ => True) (fun _ => False) rfl rfl ?aP (fun _ hk => hk.elim) ?aF ?aO ?aB ?aS ?aL ?_;(case aP => exact rfl);(case aB => exact (zl HB));(case aF => exact (fun _ _ => trivial));(case aO => exact (zr HO_9));(case aS => exact (zn9_ (zl HB)));(case aL => have:=LMc24.out;omega);intro v144 w25 ho hb hg hat;(first|(with_reducible rw [← Ny143.out] at ho)|(simp only [Int.reduceToNat] at ho;with_reducible rw [← Ny143.out] at ho)|rw [← Ny143.out] at ho);replace HB:=zm0_ (hb);have HO145:=zm0_ (ho);clear HO_9;clear ho hb hg hat))
            go_loopg [3,9] kj15 (fun kq v3 v9 w' => ∃ (x3_4 : Int) (x9_4 : List Int),v3 = .int .i64 x3_4 ∧ Aside0 (spec_PutPrefix.l0 kq x3_4 x9_4 = some r) ∧ Aside0 (kq ≤ kj15) ∧ Aside0 (Kd.R (Kd.int .u8) 5 w' w.heap.size (fun _ => True) v9 x9_4) ∧ Aside0 (Below w.heap.size w w'))
            case atStart => exact ⟨(wrap64 (x3_15 - (wrap64 ((ji20) - 1)))),(y143),(by first|rfl|(simp;done)|(simp only [← hji20] <;> (first|rfl|simp))|(simp [*];done)),H',⟨Nat.le_refl _⟩,⟨zr HO145⟩,⟨zl HB⟩⟩
            case round =>
             clear H'
             try clear c1
             try clear c2
             try clear p2
             try clear c5
             try clear p6
             try clear c11
             try clear c13
             try clear c15
             try clear c15b0
             try clear c15b1
             try clear c17
             try clear c17b0
             try clear c17b1
             try clear c19
             try clear c19b0
             try clear c19b1
             try clear c21
             try clear c21b0
             try clear c22
             try clear c24
             try clear c25
             try clear p2
             obtain ⟨x3_4,x9_4,rfl,HA,HK4,HO_9,HB⟩:=hrel
             cases gk with
             | zero => exact absurd HA.out (by simp [spec_PutPrefix.l0])
             | succ k4 =>
              have H:=HA.out
              clear HA
              simp only [spec_PutPrefix.l0] at H
              by_cases c26 : x3_4 > 127
              ·
               rw [if_pos c26] at H
               have c26b0 : decide (127 < x3_4) = true:=decide_eq_true c26
               clear c26
               by_cases c27 : x9_4.length < 140737488355328
               ·
                rw [if_pos c27] at H
                have LMc27:=zm0_ c27
                clear c27
                obtain ⟨y146,hy146⟩ : ∃ y_ : List Int,y_ = (x9_4 ++ [(Go.bits .or .i64 (Go.bits .and .i64 x3_4 127) 128) % 256]):=⟨_,rfl⟩
                replace H : (spec_PutPrefix.l0 k4 (x3_4 / 128) y146) = some r:=by first|(rw [hy146];with_reducible exact H)|(have H2_:=(Option.bind_some _ _).symm.trans H;rw [hy146];with_reducible exact H2_)|(have H2_:=(Option.bind_some _ _).symm.trans H;with_reducible exact H2_)|with_reducible exact H|(rw [hy146];exact H)|exact H
                have Ny146:=zm0_ hy146
                clear hy146
                have H':=zm0_ H
                clear H
                go_wp2_with (first|((with_reducible refine gate_builtin (b:=.append) (xs:=#[.tmp 56,.tmp 61]) rfl ?_);at_builtin;refine Kd.R_append (Kd.int .u8) (w0:=w) w.heap.size rfl (.tmp 56) (.tmp 61) 29 5 (.int .u8 0) 1 rfl Tryz.underlying29 info5 rfl (by decide) (by omega) u9 x9_4 ((Go.bits .or .i64 (Go.bits .and .i64 x3_4 127) 128) % 256) [.int .u8 ((Go.bits .or .i64 (Go.bits .and .i64 x3_4 127) 128) % 256)] (fun _ => True) (fun _ => False) rfl rfl ?aP (fun _ hk => hk.elim) ?aF ?aO ?aB ?aS ?aL ?_;(case aP => exact rfl);(case aB => exact (zl HB));(case aF => exact (fun _ _ => trivial));(case aO => exact (zr HO_9));(case aS => exact (zn9_ (zl HB)));(case aL => have:=LMc27.out;omega);intro v147 w28 ho hb hg hat;(first|(with_reducible rw [← Ny146.out] at ho)|(simp only [Int.reduceToNat] at ho;with_reducible rw [← Ny146.out] at ho)|rw [← Ny146.out] at ho);replace HB:=zm0_ (hb);have HO148:=zm0_ (ho);clear HO_9;clear ho hb hg hat))
                go_roundg k4
                case measure => have:=HJ5.out;have:=HJ13.out;have:=HJ15.out;have:=HK4.out;omega
                case rel => exact ⟨(x3_4 / 128),(y146),zz,H',⟨by have:=HJ5.out;have:=HJ13.out;have:=HJ15.out;have:=HK4.out;omega⟩,⟨zr HO148⟩,⟨zl HB⟩⟩
               ·
                rw [if_neg c27] at H
                exact absurd H (by simp)
              ·
               rw [if_neg c26] at H
               have c26b0 : decide (127 < x3_4) = false:=decide_eq_false c26
               clear c26
               by_cases c29 : x9_4.length < 140737488355328
               ·
                rw [if_pos c29] at H
                have LMc29:=zm0_ c29
                clear c29
                obtain ⟨y149,hy149⟩ : ∃ y_ : List Int,y_ = (x9_4 ++ [(x3_4) % 256]):=⟨_,rfl⟩
                replace H : (some y149) = some r:=by first|(rw [hy149];with_reducible exact H)|(have H2_:=(Option.bind_some _ _).symm.trans H;rw [hy149];with_reducible exact H2_)|(have H2_:=(Option.bind_some _ _).symm.trans H;with_reducible exact H2_)|with_reducible exact H|(rw [hy149];exact H)|exact H
                have Ny149:=zm0_ hy149
                clear hy149
                obtain rfl:=Option.some.inj H
                go_wp2_with (first|((with_reducible refine gate_builtin (b:=.append) (xs:=#[.tmp 65,.tmp 68]) rfl ?_);at_builtin;refine Kd.R_append (Kd.int .u8) (w0:=w) w.heap.size rfl (.tmp 65) (.tmp 68) 29 5 (.int .u8 0) 1 rfl Tryz.underlying29 info5 rfl (by decide) (by omega) u9 x9_4 ((x3_4) % 256) [.int .u8 ((x3_4) % 256)] (fun _ => True) (fun _ => False) rfl rfl ?aP (fun _ hk => hk.elim) ?aF ?aO ?aB ?aS ?aL ?_;(case aP => exact rfl);(case aB => exact (zl HB));(case aF => exact (fun _ _ => trivial));(case aO => exact (zr HO_9));(case aS => exact (zn9_ (zl HB)));(case aL => have:=LMc29.out;omega);intro v150 w30 ho hb hg hat;(first|(with_reducible rw [← Ny149.out] at ho)|(simp only [Int.reduceToNat] at ho;with_reducible rw [← Ny149.out] at ho)|rw [← Ny149.out] at ho);replace HB:=zm0_ (hb);have HO151:=zm0_ (ho);clear HO_9;clear ho hb hg hat))
                go_ret
                exact ⟨_,by first|rfl|(simp [errW_none,errW_some] <;> rfl)|(simp only [← hji18,← hji20];first|rfl|(simp [errW_none,errW_some] <;> rfl))|(simp [*,errW_none,errW_some] <;> rfl),by (with_reducible repeat (first|apply k1_|apply k2_|apply k3_));exact HO151.out,by repeat (first|(with_reducible first|exact HB.out|apply zm3_|apply zm2_|apply zm4_)|exact HB.out)⟩
               ·
                rw [if_neg c29] at H
                exact absurd H (by simp)
           ·
            rw [if_neg c24] at H
            exact absurd H (by simp)
         ·
          rw [if_neg c19] at H
          exact absurd H (by simp)
 ·
  rw [if_neg c5] at H
  exact absurd H (by simp)
end Go.Proofs.YthflimnpiglgbaaGreatDoor.A
end
section
set_option linter.unusedVariables false
set_option linter.unusedSimpArgs false
namespace Go.Proofs.YthflimnpiglgbaaGreatDoor.LibLens
open Go Go.RowKit Go.Proofs.YthflimnpiglgbaaGreatDoorW.PrintWords
theorem ix {k : Nat} (h : 0 < k) : ∃ m, k = m + 1 := ⟨k - 1, by omega⟩
/-! Cutting at one byte -/
theorem ix_hit (c : UInt8) (p r : List UInt8) (h : c ∉ p) : Lib.index (p ++ c :: r) [c] = p.length := by
  rw [Lib.index_one]
  induction p with
  | nil => simp [Lib.indexByte]
  | cons b p ih =>
    have hb : (b == c) = false := by
      rw [beq_eq_false_iff_ne]
      intro e; exact h (by rw [e]; exact List.mem_cons_self ..)
    have hi := ih (fun e => h (List.mem_cons_of_mem _ e))
    rw [List.cons_append, Lib.indexByte, hb, hi]
    have : (((p.length : Int)) == -1) = false := by rw [beq_eq_false_iff_ne]; omega
    rw [this]
    simp
theorem ix_miss (c : UInt8) (p : List UInt8) (h : c ∉ p) : Lib.index p [c] = -1 := by
  rw [Lib.index_one]
  induction p with
  | nil => rfl
  | cons b p ih =>
    have hb : (b == c) = false := by
      rw [beq_eq_false_iff_ne]
      intro e; exact h (by rw [e]; exact List.mem_cons_self ..)
    rw [Lib.indexByte, hb, ih (fun e => h (List.mem_cons_of_mem _ e))]
    simp
def bar : List (List UInt8) → List UInt8
  | [] => []
  | [p] => p
  | p :: q :: ps => p ++ 32 :: bar (q :: ps)
theorem split_bar (ps : List (List UInt8)) : ∀ p, (∀ q ∈ p :: ps, (32 : UInt8) ∉ q) → Lib.splitK [32] 0 ps.length (bar (p :: ps)) = p :: ps := by
  induction ps with
  | nil => intro p _; rfl
  | cons q ps ih =>
    intro p h
    have hp := h p (List.mem_cons_self ..)
    have e : bar (p :: q :: ps) = p ++ 32 :: bar (q :: ps) := rfl
    have hi := ix_hit 32 p (bar (q :: ps)) hp
    rw [List.length_cons, Lib.splitK, e, hi]
    have hm : (((p.length : Int)) == -1) = false := by rw [beq_eq_false_iff_ne]; omega
    rw [hm, if_neg (by decide), Int.toNat_natCast]
    have e1 : (p ++ 32 :: bar (q :: ps)).take (p.length + 0) = p := by simp
    have e2 : (p ++ 32 :: bar (q :: ps)).drop (p.length + [(32 : UInt8)].length) = bar (q :: ps) := by
      rw [List.drop_append]; simp
    rw [e1, e2, ih q (fun x hx => h x (List.mem_cons_of_mem _ hx))]
theorem count_bar (ps : List (List UInt8)) : ∀ p fuel, (∀ q ∈ p :: ps, (32 : UInt8) ∉ q) → ps.length < fuel → Lib.countFrom [32] fuel (bar (p :: ps)) = ps.length := by
  induction ps with
  | nil =>
    intro p fuel h hf
    obtain ⟨f, rfl⟩ := ix (show 0 < fuel by omega)
    rw [Lib.countFrom, show bar [p] = p from rfl, ix_miss 32 p (h p (List.mem_cons_self ..))]
    rfl
  | cons q ps ih =>
    intro p fuel h hf
    obtain ⟨f, rfl⟩ := ix (show 0 < fuel by omega)
    have hp := h p (List.mem_cons_self ..)
    have e : bar (p :: q :: ps) = p ++ 32 :: bar (q :: ps) := rfl
    have hi := ix_hit 32 p (bar (q :: ps)) hp
    rw [Lib.countFrom, e, hi]
    have hm : (((p.length : Int)) == -1) = false := by rw [beq_eq_false_iff_ne]; omega
    rw [hm, if_neg (by decide), Int.toNat_natCast]
    have e2 : (p ++ 32 :: bar (q :: ps)).drop (p.length + [(32 : UInt8)].length) = bar (q :: ps) := by
      rw [List.drop_append]; simp
    rw [e2, ih q f (fun x hx => h x (List.mem_cons_of_mem _ hx)) (by simp at hf; omega), List.length_cons]
    omega
theorem bar_length (ps : List (List UInt8)) : ∀ p, ps.length ≤ (bar (p :: ps)).length := by
  induction ps with
  | nil => intro p; simp
  | cons q ps ih =>
    intro p
    have e : bar (p :: q :: ps) = p ++ 32 :: bar (q :: ps) := rfl
    have := ih q
    rw [e, List.length_append, List.length_cons, List.length_cons]
    omega
theorem bytes_ext {a b : ByteArray} (h : a.data.toList = b.data.toList) : a = b := by
  cases a; cases b; simp at h; rw [h]
/-! The lengths -/
set_option maxRecDepth 100000 in
def lens : List Nat :=
  13 :: 23 :: 28 :: 28 :: 28 :: 28 :: 28 :: 28 :: 28 :: 24 :: 30 :: 28 :: 28 :: 30 :: 28 :: 28 :: 28 :: 28 :: 28 :: 28 :: 28 :: 28 :: 30 :: 28 :: 28 :: 
  28 :: 28 :: 28 :: 28 :: 28 :: 28 :: 28 :: 6 :: 10 :: 10 :: 12 :: 13 :: 6 :: 8 :: 11 :: 10 :: 10 :: 8 :: 11 :: 8 :: 6 :: 6 :: 6 :: 5 :: 5 :: 5 :: 6 :: 
  6 :: 6 :: 6 :: 6 :: 6 :: 6 :: 7 :: 8 :: 15 :: 6 :: 12 :: 10 :: 13 :: 6 :: 7 :: 7 :: 7 :: 7 :: 7 :: 7 :: 7 :: 7 :: 7 :: 7 :: 7 :: 7 :: 7 :: 7 :: 7 :: 7 :: 
  7 :: 7 :: 7 :: 7 :: 7 :: 7 :: 8 :: 7 :: 8 :: 13 :: 19 :: 13 :: 14 :: 6 :: 15 :: 5 :: 6 :: 5 :: 6 :: 5 :: 6 :: 6 :: 6 :: 5 :: 7 :: 7 :: 6 :: 6 :: 6 :: 
  5 :: 6 :: 7 :: 6 :: 5 :: 5 :: 6 :: 7 :: 7 :: 7 :: 7 :: 7 :: 15 :: 11 :: 14 :: 13 :: 28 :: 20 :: 22 :: 20 :: 20 :: 22 :: 22 :: 22 :: 23 :: 22 :: 23 :: 
  23 :: 23 :: 23 :: 23 :: 24 :: 23 :: 24 :: 24 :: 22 :: 23 :: 24 :: 23 :: 23 :: 23 :: 23 :: 21 :: 22 :: 23 :: 22 :: 23 :: 23 :: 24 :: 22 :: 21 :: 20 :: 
  22 :: 22 :: 23 :: 23 :: 21 :: 23 :: 22 :: 22 :: 24 :: 21 :: 22 :: 23 :: 23 :: 21 :: 21 :: 22 :: 21 :: 23 :: 22 :: 23 :: 23 :: 20 :: 22 :: 22 :: 22 :: 
  23 :: 22 :: 22 :: 23 :: 26 :: 26 :: 20 :: 19 :: 22 :: 23 :: 22 :: 25 :: 26 :: 26 :: 26 :: 27 :: 27 :: 26 :: 24 :: 25 :: 19 :: 21 :: 26 :: 27 :: 27 :: 
  26 :: 27 :: 24 :: 21 :: 21 :: 26 :: 26 :: 28 :: 27 :: 27 :: 27 :: 20 :: 24 :: 20 :: 21 :: 22 :: 21 :: 21 :: 23 :: 22 :: 22 :: 25 :: 25 :: 24 :: 24 :: 
  26 :: 23 :: 26 :: 27 :: 26 :: 26 :: 27 :: 27 :: 27 :: 27 :: 27 :: 28 :: 27 :: 27 :: 27 :: 27 :: 27 :: 26 :: 30 :: []
def txt (n : Nat) : List UInt8 := if n < 10 then UInt8.ofNat (48 + n) :: [] else UInt8.ofNat (48 + n / 10) :: UInt8.ofNat (48 + n % 10) :: []
def parts : List (List UInt8) := lens.map txt
def strs : List ByteArray := parts.map fun q => ⟨q.toArray⟩
set_option maxRecDepth 100000 in
theorem parts_bar : ∀ q ∈ parts, (32 : UInt8) ∉ q := by decide +kernel
set_option maxRecDepth 100000 in
theorem lens_len : lens.length = 257 := by decide +kernel
set_option maxRecDepth 100000 in
theorem parts_len : parts.length = 257 := by decide +kernel
theorem strs_len : strs.length = 257 := by unfold strs; rw [List.length_map, parts_len]
set_option maxRecDepth 100000 in
theorem atoi_all : ∀ n ∈ lens, Lib.atoi (txt n) = some (n : Int) ∧ (txt n).length ≤ 18 := by decide +kernel
theorem str_at (k : Nat) (h : k < 257) : Lib.atoi (strs.getD k ByteArray.empty).data.toList = some ((lens.getD k 0 : Nat) : Int) ∧ (strs.getD k ByteArray.empty).size ≤ 18 := by
  have hl := lens_len
  have hk : k < lens.length := by omega
  have e : strs.getD k ByteArray.empty = ⟨(txt lens[k]).toArray⟩ := by
    simp [strs, parts, List.getD_eq_getElem?_getD, List.getElem?_eq_getElem hk]
  have e2 : lens.getD k 0 = lens[k] := by simp [List.getD_eq_getElem?_getD, List.getElem?_eq_getElem hk]
  obtain ⟨h1, h2⟩ := atoi_all _ (List.getElem_mem hk)
  rw [e, e2]
  refine ⟨h1, ?_⟩
  show (txt lens[k]).toArray.size ≤ 18
  rw [List.size_toArray]
  exact h2
theorem split_text (s : ByteArray) (hs : s.data.toList = bar parts) : Lib.countB s (⟨#[32]⟩ : ByteArray) = 256 ∧ Lib.splitB (⟨#[32]⟩ : ByteArray) 0 256 s = strs := by
  obtain ⟨p, ps, hp⟩ : ∃ p ps, parts = p :: ps := ⟨_, _, rfl⟩
  have hall : ∀ q ∈ p :: ps, (32 : UInt8) ∉ q := by rw [← hp]; exact parts_bar
  have htl : ps.length = 256 := by
    have := parts_len
    rw [hp, List.length_cons] at this
    omega
  have e2 : (ByteArray.mk #[32]).data.toList = [32] := rfl
  have hc : Lib.countB s (⟨#[32]⟩ : ByteArray) = 256 := by
    show Lib.count s.data.toList [32] = 256
    rw [hs, hp]
    unfold Lib.count
    have := bar_length ps p
    rw [count_bar _ _ _ hall (by omega), htl]
  have hd := Lib.splitB_data (⟨#[32]⟩ : ByteArray) 0 256 s
  rw [e2, hs, hp] at hd
  have hk := split_bar ps p hall
  rw [htl] at hk
  rw [hk, ← hp] at hd
  refine ⟨hc, ?_⟩
  unfold strs
  rw [← hd, List.map_map]
  conv => lhs; rw [← List.map_id (Lib.splitB (⟨#[32]⟩ : ByteArray) 0 256 s)]
  apply List.map_congr_left
  intro x _
  apply bytes_ext
  simp
/-! The codes -/
/-- One round over all bytes: those of one length get the next codes. -/
def pass (size : Int) : List (Int × Int) → Int → List (Int × Int) × Int
  | [], nx => ([], nx)
  | (b, s) :: l, nx => if s = size then ((nx, s) :: (pass size l (wrap64 (nx + 1))).1, (pass size l (wrap64 (nx + 1))).2) else ((b, s) :: (pass size l nx).1, (pass size l nx).2)
/-- The codes of at most n bits, and the next one. -/
def upto : Nat → List (Int × Int) × Int
  | 0 => (lens.map (fun (n : Nat) => ((0 : Int), (n : Int))), 0)
  | n + 1 => pass ((n : Int) + 1) (upto n).1 (wrap64 ((upto n).2 * 2))
theorem pass_len (size : Int) (l : List (Int × Int)) : ∀ nx, (pass size l nx).1.length = l.length := by
  induction l with
  | nil => intro nx; rfl
  | cons p l ih =>
    intro nx
    obtain ⟨b, s⟩ := p
    unfold pass
    split
    · simp [ih]
    · simp [ih]
theorem pass_append (size : Int) (a b : List (Int × Int)) : ∀ nx, pass size (a ++ b) nx = ((pass size a nx).1 ++ (pass size b (pass size a nx).2).1, (pass size b (pass size a nx).2).2) := by
  induction a with
  | nil => intro nx; rfl
  | cons p a ih =>
    intro nx
    obtain ⟨x, s⟩ := p
    rw [List.cons_append]
    by_cases h : s = size
    · simp only [pass, if_pos h, ih, List.cons_append]
    · simp only [pass, if_neg h, ih, List.cons_append]
theorem upto_len (n : Nat) : (upto n).1.length = 257 := by
  induction n with
  | zero => unfold upto; rw [List.length_map, lens_len]
  | succ n ih => unfold upto; rw [pass_len, ih]
/-- The state inside a round: k bytes are done. -/
def midA (size : Int) (l : List (Int × Int)) (nx : Int) (k : Nat) : List (Int × Int) := (pass size (l.take k) nx).1 ++ l.drop k
def midN (size : Int) (l : List (Int × Int)) (nx : Int) (k : Nat) : Int := (pass size (l.take k) nx).2
theorem mid_zero (size : Int) (l : List (Int × Int)) (nx : Int) : midA size l nx 0 = l ∧ midN size l nx 0 = nx := ⟨rfl, rfl⟩
theorem mid_all (size : Int) (l : List (Int × Int)) (nx : Int) (k : Nat) (h : l.length ≤ k) : midA size l nx k = (pass size l nx).1 ∧ midN size l nx k = (pass size l nx).2 := by
  unfold midA midN
  rw [List.take_of_length_le h, List.drop_of_length_le h, List.append_nil]
  exact ⟨rfl, rfl⟩
theorem midA_len (size : Int) (l : List (Int × Int)) (nx : Int) (k : Nat) : (midA size l nx k).length = l.length := by
  unfold midA
  rw [List.length_append, pass_len, List.length_take, List.length_drop]
  omega
theorem midA_at (size : Int) (l : List (Int × Int)) (nx : Int) (k : Nat) (h : k < l.length) : (midA size l nx k).getD k (0, 0) = l.getD k (0, 0) := by
  unfold midA
  have h1 : (pass size (l.take k) nx).1.length = k := by rw [pass_len, List.length_take]; omega
  rw [List.getD_eq_getElem?_getD, List.getD_eq_getElem?_getD, List.getElem?_append_right (by omega), h1, Nat.sub_self, List.getElem?_drop]
  simp
theorem mid_succ (size : Int) (l : List (Int × Int)) (nx : Int) (k : Nat) (h : k < l.length) :
    ((l.getD k (0, 0)).2 = size → midA size l nx (k + 1) = (midA size l nx k).set k (midN size l nx k, (l.getD k (0, 0)).2) ∧ midN size l nx (k + 1) = wrap64 (midN size l nx k + 1)) ∧
    ((l.getD k (0, 0)).2 ≠ size → midA size l nx (k + 1) = midA size l nx k ∧ midN size l nx (k + 1) = midN size l nx k) := by
  have h1 : (pass size (l.take k) nx).1.length = k := by rw [pass_len, List.length_take]; omega
  have e : l.getD k (0, 0) = l[k] := by simp [List.getD_eq_getElem?_getD, List.getElem?_eq_getElem h]
  have et : l.take (k + 1) = l.take k ++ [l[k]] := by rw [List.take_succ_eq_append_getElem h]
  have ed : l.drop k = l[k] :: l.drop (k + 1) := List.drop_eq_getElem_cons h
  rw [e]
  unfold midA midN
  rw [et, pass_append, ed]
  generalize l[k] = p
  obtain ⟨b, s⟩ := p
  refine ⟨fun hs => ?_, fun hs => ?_⟩
  · have hs' : s = size := hs
    simp only [pass, if_pos hs']
    refine ⟨?_, trivial⟩
    rw [List.set_append_right _ _ (by omega), h1, Nat.sub_self]
    simp
  · have hs' : ¬ s = size := hs
    simp only [pass, if_neg hs']
    refine ⟨?_, trivial⟩
    simp
set_option maxRecDepth 100000 in
def codes : List (Int × Int) :=
  (8184, 13) :: (8388568, 23) :: (268435426, 28) :: (268435427, 28) :: (268435428, 28) :: (268435429, 28) :: (268435430, 28) :: (268435431, 28) :: 
  (268435432, 28) :: (16777194, 24) :: (1073741820, 30) :: (268435433, 28) :: (268435434, 28) :: (1073741821, 30) :: (268435435, 28) :: (268435436, 28) :: 
  (268435437, 28) :: (268435438, 28) :: (268435439, 28) :: (268435440, 28) :: (268435441, 28) :: (268435442, 28) :: (1073741822, 30) :: (268435443, 28) :: 
  (268435444, 28) :: (268435445, 28) :: (268435446, 28) :: (268435447, 28) :: (268435448, 28) :: (268435449, 28) :: (268435450, 28) :: (268435451, 28) :: 
  (20, 6) :: (1016, 10) :: (1017, 10) :: (4090, 12) :: (8185, 13) :: (21, 6) :: (248, 8) :: (2042, 11) :: (1018, 10) :: (1019, 10) :: (249, 8) :: 
  (2043, 11) :: (250, 8) :: (22, 6) :: (23, 6) :: (24, 6) :: (0, 5) :: (1, 5) :: (2, 5) :: (25, 6) :: (26, 6) :: (27, 6) :: (28, 6) :: (29, 6) :: 
  (30, 6) :: (31, 6) :: (92, 7) :: (251, 8) :: (32764, 15) :: (32, 6) :: (4091, 12) :: (1020, 10) :: (8186, 13) :: (33, 6) :: (93, 7) :: (94, 7) :: 
  (95, 7) :: (96, 7) :: (97, 7) :: (98, 7) :: (99, 7) :: (100, 7) :: (101, 7) :: (102, 7) :: (103, 7) :: (104, 7) :: (105, 7) :: (106, 7) :: (107, 7) :: 
  (108, 7) :: (109, 7) :: (110, 7) :: (111, 7) :: (112, 7) :: (113, 7) :: (114, 7) :: (252, 8) :: (115, 7) :: (253, 8) :: (8187, 13) :: (524272, 19) :: 
  (8188, 13) :: (16380, 14) :: (34, 6) :: (32765, 15) :: (3, 5) :: (35, 6) :: (4, 5) :: (36, 6) :: (5, 5) :: (37, 6) :: (38, 6) :: (39, 6) :: (6, 5) :: 
  (116, 7) :: (117, 7) :: (40, 6) :: (41, 6) :: (42, 6) :: (7, 5) :: (43, 6) :: (118, 7) :: (44, 6) :: (8, 5) :: (9, 5) :: (45, 6) :: (119, 7) :: 
  (120, 7) :: (121, 7) :: (122, 7) :: (123, 7) :: (32766, 15) :: (2044, 11) :: (16381, 14) :: (8189, 13) :: (268435452, 28) :: (1048550, 20) :: 
  (4194258, 22) :: (1048551, 20) :: (1048552, 20) :: (4194259, 22) :: (4194260, 22) :: (4194261, 22) :: (8388569, 23) :: (4194262, 22) :: (8388570, 23) :: 
  (8388571, 23) :: (8388572, 23) :: (8388573, 23) :: (8388574, 23) :: (16777195, 24) :: (8388575, 23) :: (16777196, 24) :: (16777197, 24) :: 
  (4194263, 22) :: (8388576, 23) :: (16777198, 24) :: (8388577, 23) :: (8388578, 23) :: (8388579, 23) :: (8388580, 23) :: (2097116, 21) :: (4194264, 22) :: 
  (8388581, 23) :: (4194265, 22) :: (8388582, 23) :: (8388583, 23) :: (16777199, 24) :: (4194266, 22) :: (2097117, 21) :: (1048553, 20) :: (4194267, 22) :: 
  (4194268, 22) :: (8388584, 23) :: (8388585, 23) :: (2097118, 21) :: (8388586, 23) :: (4194269, 22) :: (4194270, 22) :: (16777200, 24) :: (2097119, 21) :: 
  (4194271, 22) :: (8388587, 23) :: (8388588, 23) :: (2097120, 21) :: (2097121, 21) :: (4194272, 22) :: (2097122, 21) :: (8388589, 23) :: (4194273, 22) :: 
  (8388590, 23) :: (8388591, 23) :: (1048554, 20) :: (4194274, 22) :: (4194275, 22) :: (4194276, 22) :: (8388592, 23) :: (4194277, 22) :: (4194278, 22) :: 
  (8388593, 23) :: (67108832, 26) :: (67108833, 26) :: (1048555, 20) :: (524273, 19) :: (4194279, 22) :: (8388594, 23) :: (4194280, 22) :: 
  (33554412, 25) :: (67108834, 26) :: (67108835, 26) :: (67108836, 26) :: (134217694, 27) :: (134217695, 27) :: (67108837, 26) :: (16777201, 24) :: 
  (33554413, 25) :: (524274, 19) :: (2097123, 21) :: (67108838, 26) :: (134217696, 27) :: (134217697, 27) :: (67108839, 26) :: (134217698, 27) :: 
  (16777202, 24) :: (2097124, 21) :: (2097125, 21) :: (67108840, 26) :: (67108841, 26) :: (268435453, 28) :: (134217699, 27) :: (134217700, 27) :: 
  (134217701, 27) :: (1048556, 20) :: (16777203, 24) :: (1048557, 20) :: (2097126, 21) :: (4194281, 22) :: (2097127, 21) :: (2097128, 21) :: 
  (8388595, 23) :: (4194282, 22) :: (4194283, 22) :: (33554414, 25) :: (33554415, 25) :: (16777204, 24) :: (16777205, 24) :: (67108842, 26) :: 
  (8388596, 23) :: (67108843, 26) :: (134217702, 27) :: (67108844, 26) :: (67108845, 26) :: (134217703, 27) :: (134217704, 27) :: (134217705, 27) :: 
  (134217706, 27) :: (134217707, 27) :: (268435454, 28) :: (134217708, 27) :: (134217709, 27) :: (134217710, 27) :: (134217711, 27) :: (134217712, 27) :: 
  (67108846, 26) :: (1073741823, 30) :: []
set_option maxRecDepth 100000 in
theorem codes_upto : (upto 30).1 = codes := by decide +kernel
set_option maxRecDepth 100000 in
theorem codes_len : codes.length = 257 := by decide +kernel
set_option maxRecDepth 100000 in
theorem codes_lens : codes.map (fun p => p.2) = lens.map (fun (n : Nat) => (n : Int)) := by decide +kernel
/-- What the texts' loop has read: k lengths. -/
def readA (k : Nat) : List (Int × Int) := (lens.take k).map (fun (n : Nat) => ((0 : Int), (n : Int))) ++ List.replicate (257 - k) (0, 0)
theorem readA_len (k : Nat) (h : k ≤ 257) : (readA k).length = 257 := by
  have := lens_len
  unfold readA
  rw [List.length_append, List.length_map, List.length_take, List.length_replicate]
  omega
theorem readA_succ (k : Nat) (h : k < 257) : readA (k + 1) = (readA k).set k (0, ((lens.getD k 0 : Nat) : Int)) := by
  have hl := lens_len
  have hk : k < lens.length := by omega
  have e2 : lens.getD k 0 = lens[k] := by simp [List.getD_eq_getElem?_getD, List.getElem?_eq_getElem hk]
  have h1 : ((lens.take k).map (fun (n : Nat) => ((0 : Int), (n : Int)))).length = k := by rw [List.length_map, List.length_take]; omega
  unfold readA
  rw [e2, List.take_succ_eq_append_getElem hk, List.map_append, List.set_append_right _ _ (by omega), h1, Nat.sub_self]
  have e3 : 257 - k = (257 - (k + 1)) + 1 := by omega
  rw [e3, List.replicate_succ, List.set_cons_zero, List.append_assoc]
  rfl
theorem readA_zero : readA 0 = List.replicate 257 (0, 0) := rfl
theorem readA_at (k : Nat) (h : k < 257) : (readA k).getD k (0, 0) = (0, 0) := by
  have hl := lens_len
  have h1 : ((lens.take k).map (fun (n : Nat) => ((0 : Int), (n : Int)))).length = k := by rw [List.length_map, List.length_take]; omega
  unfold readA
  rw [List.getD_eq_getElem?_getD, List.getElem?_append_right (by omega), h1, Nat.sub_self]
  rw [List.getElem?_replicate, if_pos (by omega)]
  rfl
theorem readA_all : readA 257 = (upto 0).1 := by
  have hl := lens_len
  unfold readA upto
  rw [List.take_of_length_le (by omega)]
  simp
/-! A block that holds such a list -/
def cellsOf : List (Int × Int) → List Value
  | [] => []
  | p :: l => .int .i64 p.1 :: .int .i64 p.2 :: cellsOf l
theorem cellsOf_len (l : List (Int × Int)) : (cellsOf l).length = 2 * l.length := by
  induction l with
  | nil => rfl
  | cons p l ih => simp only [cellsOf, List.length_cons, ih]; omega
theorem cellsOf_bits (l : List (Int × Int)) : ∀ i, i < l.length → (cellsOf l)[2 * i]? = some (.int .i64 (l.getD i (0, 0)).1) := by
  induction l with
  | nil => intro i h; simp at h
  | cons p l ih =>
    intro i h
    cases i with
    | zero => simp [cellsOf]
    | succ i =>
      have e : 2 * (i + 1) = 2 * i + 1 + 1 := by omega
      rw [e, cellsOf, List.getElem?_cons_succ, List.getElem?_cons_succ, ih i (by simp at h; omega)]
      simp
theorem cellsOf_size (l : List (Int × Int)) : ∀ i, i < l.length → (cellsOf l)[2 * i + 1]? = some (.int .i64 (l.getD i (0, 0)).2) := by
  induction l with
  | nil => intro i h; simp at h
  | cons p l ih =>
    intro i h
    cases i with
    | zero => simp [cellsOf]
    | succ i =>
      have e : 2 * (i + 1) + 1 = (2 * i + 1) + 1 + 1 := by omega
      rw [e, cellsOf, List.getElem?_cons_succ, List.getElem?_cons_succ, ih i (by simp at h; omega)]
      simp
theorem cellsOf_set_bits (l : List (Int × Int)) (x : Int) : ∀ i, i < l.length → (cellsOf l).set (2 * i) (.int .i64 x) = cellsOf (l.set i (x, (l.getD i (0, 0)).2)) := by
  induction l with
  | nil => intro i h; simp at h
  | cons p l ih =>
    intro i h
    cases i with
    | zero => simp [cellsOf]
    | succ i =>
      have e : 2 * (i + 1) = 2 * i + 1 + 1 := by omega
      rw [e, cellsOf, List.set_cons_succ, List.set_cons_succ, ih i (by simp at h; omega), List.set_cons_succ, cellsOf]
      simp
theorem cellsOf_set_size (l : List (Int × Int)) (x : Int) : ∀ i, i < l.length → (cellsOf l).set (2 * i + 1) (.int .i64 x) = cellsOf (l.set i ((l.getD i (0, 0)).1, x)) := by
  induction l with
  | nil => intro i h; simp at h
  | cons p l ih =>
    intro i h
    cases i with
    | zero => simp [cellsOf]
    | succ i =>
      have e : 2 * (i + 1) + 1 = (2 * i + 1) + 1 + 1 := by omega
      rw [e, cellsOf, List.set_cons_succ, List.set_cons_succ, ih i (by simp at h; omega), List.set_cons_succ, cellsOf]
      simp
/-- Block g holds the list l as an array of the type t. -/
def Arr (t : Nat) (w : World) (g : Nat) (l : List (Int × Int)) : Prop := w.heap[g]? = some (.cells (cellsOf l).toArray t (0, 0))
section
variable {t : Nat} {w w1 : World} {g : Nat} {l : List (Int × Int)}
theorem Arr.bits (h : Arr t w g l) (i : Nat) (hi : i < l.length) : w.cell? ⟨g, i * 2, none⟩ = some (.int .i64 (l.getD i (0, 0)).1) := by
  rw [blk_cell h, Nat.mul_comm]
  simpa using cellsOf_bits l i hi
theorem Arr.size (h : Arr t w g l) (i : Nat) (hi : i < l.length) : w.cell? ⟨g, i * 2 + 1, none⟩ = some (.int .i64 (l.getD i (0, 0)).2) := by
  rw [blk_cell h, Nat.mul_comm]
  simpa using cellsOf_size l i hi
theorem Arr.free (h : Arr t w g l) (j : Nat) : w.frozen? ⟨g, j, none⟩ = false := blk_frozen h j
theorem Arr.set_bits (h : Arr t w g l) (i : Nat) (hi : i < l.length) (x : Int) : Arr t (w.setCell ⟨g, i * 2, none⟩ (.int .i64 x)) g (l.set i (x, (l.getD i (0, 0)).2)) := by
  have := blk_set h (2 * i) (.int .i64 x)
  unfold Arr
  rw [Nat.mul_comm, this, ← cellsOf_set_bits l x i hi]
  simp
theorem Arr.set_size (h : Arr t w g l) (i : Nat) (hi : i < l.length) (x : Int) : Arr t (w.setCell ⟨g, i * 2 + 1, none⟩ (.int .i64 x)) g (l.set i ((l.getD i (0, 0)).1, x)) := by
  have := blk_set h (2 * i + 1) (.int .i64 x)
  unfold Arr
  rw [Nat.mul_comm, this, ← cellsOf_set_size l x i hi]
  simp
theorem Arr.drewN (h : Arr t w g l) (n : Nat) : Arr t (w.drewN n) g l := h
theorem Arr.drew (h : Arr t w g l) : Arr t w.drew g l := h
theorem Arr.alloc (h : Arr t w g l) (o : Obj) : Arr t (w.alloc o) g l := ((Below.refl w.heap.size w).alloc (Nat.le_refl _) o |>.block g (blk_lt h)).trans h
theorem Arr.set_far (h : Arr t w g l) {p : Addr} (hp : g ≠ p.block) (u : Value) : Arr t (w.setCell p u) g l := blk_far h hp u
theorem Arr.grown (h : Arr t w g l) {row : Option Nat} (hg : w.grownBy w1 row) (hne : some g ≠ row) : Arr t w1 g l := blk_grown h hg hne
theorem Arr.lt (h : Arr t w g l) : g < w.heap.size := blk_lt h
theorem Arr.below (h : Arr t w g l) (hb : Below w.heap.size w w1) : Arr t w1 g l := (hb.block g h.lt).trans h
end
end Go.Proofs.YthflimnpiglgbaaGreatDoor.LibLens
namespace Go.Proofs.YthflimnpiglgbaaGreatDoor.LibCodes
open Go Go.RowKit Go.Proofs.YthflimnpiglgbaaGreatDoorW.PrintWords Go.Proofs.YthflimnpiglgbaaGreatDoor.LibLens
theorem run_alloc (w : World) : (Instr.alloc 86 true (.tuple #[])).run Tryz.prog w = .ok (.pointer (some ⟨w.heap.size, 0, none⟩)) (w.alloc (.cells (cellsOf (List.replicate 257 (0, 0))).toArray 86)) := by kernel_rfl
theorem split_calls (s : ByteArray) (m : Int) (w : World) (hm : w.cell? ⟨0, 0, none⟩ = some (.int .i64 m)) (hs : s.data.toList = bar parts) (hz : s.size < 4294967281) :
    Calls Tryz.prog 61 #[.string s, .string ⟨#[32]⟩] w fun e w' => ∃ b, e = .returned (.slice (some ⟨b, 0, none⟩) 257 257) ∧ w.heap.size ≤ b ∧ w'.heap[b]? = some (.cells (strs.map Value.string).toArray 9 (0, 0)) ∧ Below w.heap.size w w' := by
  obtain ⟨h1, h2⟩ := split_text s hs
  refine (Tryz.strings_Split s ⟨#[32]⟩ m w hz hm (by decide)).mono ?_
  rintro e w' ⟨rfl, rfl⟩
  rw [h1, h2]
  refine ⟨w.heap.size, rfl, Nat.le_refl _, ?_, (Below.refl _ w).alloc (Nat.le_refl _) _⟩
  exact (MapKept.heap_alloc w _).1
theorem atoi_calls (s : ByteArray) (n : Int) (hl : s.size ≤ 18) (h : Lib.atoi s.data.toList = some n) (w : World) :
    Calls Tryz.prog 63 #[.string s] w fun e w' => e = .returned (.tuple #[.int .i64 n, .nilIface]) ∧ Below w.heap.size w w' := by
  refine (Tryz.strconv_Atoi s n hl h w).mono ?_
  rintro e w' ⟨rfl, t, rfl⟩
  exact ⟨rfl, bytes_below (Below.refl _ w) (Nat.le_refl _) 5 t⟩
theorem wpList_alloc62 {ops : Array Oper} {rest : List Oper} {o : Oper} {a : Act} {w : World} {Q : Exit → Act → World → Prop} (hg : o.guard = none) (dst : Option Tmp) (hdst : o.dst = dst) (ho : o.op = .alloc 86)
    (h : ∀ g w1, w.heap.size ≤ g → Arr 86 w1 g (List.replicate 257 (0, 0)) → Below w.heap.size w w1 → w.heap.size + 1 = w1.heap.size → wpList Tryz.prog ops Q rest (a.put dst (.pointer (some ⟨g, 0, none⟩))) w1) : wpList Tryz.prog ops Q (o :: rest) a w := by
  refine Go.Great.wpList_runTo hg dst hdst (.pointer (some ⟨w.heap.size, 0, none⟩)) (w.alloc (.cells (cellsOf (List.replicate 257 (0, 0))).toArray 86)) ?_ (h _ _ (Nat.le_refl _) ?_ ((Below.refl _ w).alloc (Nat.le_refl _) _) ?_)
  · obtain ⟨d, op, ty, ps, af, gd⟩ := o
    obtain rfl : op = .alloc 86 := ho
    kernel_rfl
  · exact (MapKept.heap_alloc w _).1
  · generalize (cellsOf (List.replicate 257 (0, 0))).toArray = cs
    simp
set_option maxHeartbeats 1600000 in
set_option maxRecDepth 100000 in
theorem codesOf_calls (m : Int) (w : World) (hm : Aside0 (w.cell? ⟨0, 0, none⟩ = some (.int .i64 m))) :
    Calls Tryz.prog 55 #[] w fun e w' => ∃ g, e = .returned (.pointer (some ⟨g, 0, none⟩)) ∧ w.heap.size ≤ g ∧ Arr 86 w' g codes ∧ Below w.heap.size w w' := by
  go_enter Tryz.func55, Tryz.ntmps55
  go_wp2_with (first | ((with_reducible refine wpList_alloc62 rfl _ rfl rfl ?_); intro g w1 hg HA0 HB0 hz0) | (go_at_call 61; refine (split_calls _ m _ (pw_cell_below HB0 hm.out) (by kernel_rfl) (by decide +kernel)).mono ?_; rintro e w2 ⟨b, rfl, hb0, hS0, HB2⟩))
  have HA1 := HA0.below HB2
  have HB1 := below_then HB0 HB0.size HB2
  have hgb : g ≠ b := by have := HA0.lt; omega
  have HS : Aside0 (w2.heap[b]? = some (.cells (strs.map Value.string).toArray 9 (0, 0))) := ⟨hS0⟩
  have HG : Aside0 (w.heap.size ≤ g ∧ w.heap.size ≤ b) := ⟨hg, by have := HB0.size; omega⟩
  clear hz0 HA0 HB0 HB2 hS0 hb0 hg
  go_loopw [9] (fun v9 wr => ∃ k : Nat, k ≤ 257 ∧ v9 = .int .i64 k ∧ Aside0 (Arr 86 wr g (readA k)) ∧ Aside0 (wr.heap[b]? = some (.cells (strs.map Value.string).toArray 9 (0, 0))) ∧ Aside0 (Below w.heap.size w wr)) (fun v9 _ => 257 - (intOf v9).toNat)
  case atStart => exact ⟨0, by omega, rfl, ⟨by rw [readA_zero]; exact HA1⟩, HS, ⟨HB1⟩⟩
  case round =>
    clear HA1 HB1 HS
    obtain ⟨k, hk, rfl, HA, HS, HB⟩ := hrel
    by_cases hlt : k < 257
    · obtain ⟨s, hs⟩ : ∃ s, s = strs.getD k ByteArray.empty := ⟨_, rfl⟩
      obtain ⟨n, hn⟩ : ∃ n : Int, n = ((lens.getD k 0 : Nat) : Int) := ⟨_, rfl⟩
      have hcell : wr.cell? ⟨b, k, none⟩ = some (.string s) := by
        have hl := strs_len
        rw [blk_cell HS.out, hs]
        simp [List.getD_eq_getElem?_getD, List.getElem?_eq_getElem (show k < strs.length by omega)]
      have hat := str_at k hlt
      rw [← hs, ← hn] at hat
      have HT := Aside0.mk hat
      have HN := Aside0.mk hn
      clear hat hs hn
      go_wp2_with (go_at_call 63; refine (atoi_calls s n HT.out.2 HT.out.1 _).mono ?_; rintro e w3 ⟨rfl, HB3⟩; have HA3 := Aside0.mk (HA.out.below HB3); have HS3 := Aside0.mk (blk_below HS.out HB3); have hc3 := HA3.out.size k (by rw [readA_len k hk]; exact hlt); rw [readA_at k hlt] at hc3; have hf3 := HA3.out.free (k * 2 + 1); have HW3 := Aside0.mk HB3; clear HB3)
      go_roundw
      case rel =>
        refine ⟨k + 1, by omega, by go_num, ⟨?_⟩, ⟨?_⟩, ⟨?_⟩⟩
        · rw [readA_succ k hlt, ← HN.out]
          have := HA3.out.set_size k (by rw [readA_len k hk]; exact hlt) n
          rw [readA_at k hlt] at this
          exact this
        · exact blk_far HS3.out (by exact fun e => hgb e.symm) _
        · exact (below_then HB.out HB.out.size HW3.out).setCell (by exact HG.out.1) _
      case measure => simp [intOf]; omega
    · obtain rfl : k = 257 := by omega
      have HA1 := Aside0.mk HA.out
      rw [readA_all] at HA1
      clear HA HS
      go_wp2
      go_loopw [5, 4] (fun v5 v4 wr => ∃ s : Nat, s ≤ 30 ∧ v5 = .int .i64 ((s : Int) + 1) ∧ v4 = .int .i64 (upto s).2 ∧ Aside0 (Arr 86 wr g (upto s).1) ∧ Aside0 (Below w.heap.size w wr)) (fun v5 _ _ => 31 - (intOf v5).toNat)
      case atStart => exact ⟨0, by omega, rfl, rfl, HA1, HB⟩
      case round =>
        clear HA1 HB
        obtain ⟨s, hs, rfl, rfl, HA, HB⟩ := hrel
        by_cases hlt2 : s < 30
        · obtain ⟨l, hl⟩ : ∃ l, l = (upto s).1 := ⟨_, rfl⟩
          obtain ⟨n0, hn0⟩ : ∃ n0, n0 = (upto s).2 := ⟨_, rfl⟩
          have hll : l.length = 257 := by rw [hl, upto_len]
          rw [← hl] at HA
          rw [← hn0]
          have HU := Aside0.mk (And.intro hl hn0)
          have HL := Aside0.mk hll
          clear hl hn0 hll
          have hd : decide ((s : Int) + 1 ≤ 30) = true := decide_eq_true (by omega)
          go_wp2
          go_loopw [29, 4] (fun v29 v4 wr => ∃ k : Nat, k ≤ 257 ∧ v29 = .int .i64 k ∧ v4 = .int .i64 (midN ((s : Int) + 1) l (wrap64 (n0 * 2)) k) ∧ Aside0 (Arr 86 wr g (midA ((s : Int) + 1) l (wrap64 (n0 * 2)) k)) ∧ Aside0 (Below w.heap.size w wr)) (fun v29 _ _ => 257 - (intOf v29).toNat)
          case atStart => exact ⟨0, by omega, rfl, rfl, HA, HB⟩
          case round =>
            clear HA HB
            obtain ⟨k, hk, rfl, rfl, HA, HB⟩ := hrel
            by_cases hlt : k < 257
            · have hkl : k < l.length := by rw [HL.out]; exact hlt
              have hml : k < (midA ((s : Int) + 1) l (wrap64 (n0 * 2)) k).length := by rw [midA_len]; exact hkl
              obtain ⟨m1, m2⟩ := mid_succ ((s : Int) + 1) l (wrap64 (n0 * 2)) k hkl
              have hsz := HA.out.size k hml
              have hbt := HA.out.bits k hml
              rw [midA_at _ _ _ _ hkl] at hsz hbt
              have HM := Aside0.mk hml
              clear hml hkl
              obtain ⟨A0, hA0⟩ : ∃ A0, A0 = midA ((s : Int) + 1) l (wrap64 (n0 * 2)) k := ⟨_, rfl⟩
              obtain ⟨N0, hN0⟩ : ∃ N0, N0 = midN ((s : Int) + 1) l (wrap64 (n0 * 2)) k := ⟨_, rfl⟩
              have hpat : (A0.getD k (0, 0)) = l.getD k (0, 0) := by rw [hA0]; exact midA_at _ _ _ _ (by rw [HL.out]; exact hlt)
              rw [← hA0, ← hN0] at m1 m2
              rw [← hA0] at HA HM
              rw [← hN0]
              obtain ⟨p, hp⟩ : ∃ p, p = l.getD k (0, 0) := ⟨_, rfl⟩
              rw [← hp] at m1 m2 hsz hbt hpat
              have HPA := Aside0.mk hpat
              obtain ⟨b0, s0⟩ := p
              have hf := HA.out.free (k * 2)
              by_cases hs0 : s0 = (s : Int) + 1
              · have M := Aside0.mk (m1 hs0)
                clear m1 m2 hA0 hN0 hp hpat
                subst hs0
                go_wp2
                go_roundw
                case rel =>
                  refine ⟨k + 1, by omega, by go_num, ?_, ⟨?_⟩, ⟨?_⟩⟩
                  · rw [M.out.2]
                  · rw [M.out.1]
                    have := HA.out.set_bits k HM.out N0
                    rw [HPA.out] at this
                    exact this
                  · exact HB.out.setCell (by exact HG.out.1) _
                case measure => simp [intOf]; omega
              · have M := Aside0.mk (m2 hs0)
                have hb0 : (s0 == (s : Int) + 1) = false := beq_eq_false_iff_ne.2 hs0
                clear m1 m2 hA0 hN0 hp hpat
                go_wp2
                go_roundw
                case rel =>
                  refine ⟨k + 1, by omega, by go_num, ?_, ⟨?_⟩, HB⟩
                  · rw [M.out.2]
                  · rw [M.out.1]
                    exact HA.out
                case measure => simp [intOf]; omega
            · obtain rfl : k = 257 := by omega
              obtain ⟨e1, e2⟩ := mid_all ((s : Int) + 1) l (wrap64 (n0 * 2)) 257 (by rw [HL.out]; omega)
              have HE := Aside0.mk (And.intro e1 e2)
              clear e1 e2
              go_wp2
              go_roundw
              case rel =>
                have h1 := HU.out.1
                have h2 := HU.out.2
                have e : upto (s + 1) = pass ((s : Int) + 1) (upto s).1 (wrap64 ((upto s).2 * 2)) := rfl
                refine ⟨s + 1, by omega, by go_num, ?_, ⟨?_⟩, HB⟩
                · rw [e, ← h1, ← h2, HE.out.2]
                · rw [e, ← h1, ← h2]
                  have := HA.out
                  rw [HE.out.1] at this
                  exact this
              case measure => simp [intOf]; omega
        · obtain rfl : s = 30 := by omega
          have HA1 := Aside0.mk HA.out
          rw [codes_upto] at HA1
          go_wp2
          go_ret
          exact ⟨g, rfl, HG.out.1, HA1.out, HB.out⟩
end Go.Proofs.YthflimnpiglgbaaGreatDoor.LibCodes
namespace Go.Proofs.YthflimnpiglgbaaGreatDoor.LibHuff
open Go Go.RowKit Go.Proofs.YthflimnpiglgbaaGreatDoorW.PrintWords Go.Proofs.YthflimnpiglgbaaGreatDoorW.PrintLast Go.Proofs.YthflimnpiglgbaaGreatDoorW.PrintMore Go.Proofs.YthflimnpiglgbaaGreatDoor.LibLens Go.Proofs.YthflimnpiglgbaaGreatDoor.LibCodes Go.Proofs.YthflimnpiglgbaaGreatDoor.A
attribute [local go_sem] max2_int min2_int max_two min_two max_three min_three max_four min_four
def lensI : List Int := codes.map (fun p => p.2)
def bitsI : List Int := codes.map (fun p => p.1)
theorem lensI_len : lensI.length = 257 := by unfold lensI; rw [List.length_map, codes_len]
theorem bitsI_len : bitsI.length = 257 := by unfold bitsI; rw [List.length_map, codes_len]
theorem lensI_at (i : Int) (h : i.toNat < 257) : rd lensI i = (codes.getD i.toNat (0, 0)).2 := by
  have hl := codes_len
  simp [rd, lensI, List.getD_eq_getElem?_getD, List.getElem?_eq_getElem (show i.toNat < codes.length by omega)]
theorem bitsI_at (i : Int) (h : i.toNat < 257) : rd bitsI i = (codes.getD i.toNat (0, 0)).1 := by
  have hl := codes_len
  simp [rd, bitsI, List.getD_eq_getElem?_getD, List.getElem?_eq_getElem (show i.toNat < codes.length by omega)]
theorem code_cells {w : World} {g : Nat} (h : Arr 86 w g codes) (i : Int) (h1 : i.toNat < 257) :
    w.cell? ⟨g, i.toNat * 2, none⟩ = some (.int .i64 (rd bitsI i)) ∧ w.cell? ⟨g, i.toNat * 2 + 1, none⟩ = some (.int .i64 (rd lensI i)) := by
  have hl := codes_len
  rw [lensI_at i h1, bitsI_at i h1]
  exact ⟨h.bits _ (by omega), h.size _ (by omega)⟩
/-- The sum of the lengths of the first bytes' codes. -/
def hsum (s : ByteArray) : Nat → Int
  | 0 => 0
  | k + 1 => wrap64 (hsum s k + rd lensI (bt s k))
def hlen (s : ByteArray) : Int := wrap64 (Int.tdiv (wrap64 (hsum s s.size + 7)) 8)
set_option maxHeartbeats 1600000 in
set_option maxRecDepth 100000 in
theorem huffLen_calls (g : Nat) (s : ByteArray) (w : World) (hA : Arr 86 w g codes) (hs : s.size ≤ 140737488355328) :
    Calls Tryz.prog 56 #[.pointer (some ⟨g, 0, none⟩), .string s] w fun e w' => e = .returned (.int .i64 (hlen s)) ∧ Drawn0 w w' := by
  have HA := Aside0.mk hA
  have HD := Aside0.mk (Drawn0.refl w)
  clear hA
  go_enter Tryz.func56, Tryz.ntmps56
  go_wp2
  go_loopw [5, 6] (fun v5 v6 wr => ∃ k : Nat, k ≤ s.size ∧ v6 = .int .i64 k ∧ v5 = .int .i64 (hsum s k) ∧ Aside0 (Arr 86 wr g codes) ∧ Aside0 (Drawn0 w wr)) (fun _ v6 _ => s.size - (intOf v6).toNat)
  case atStart => exact ⟨0, by omega, rfl, rfl, HA, HD⟩
  case round =>
    clear HA HD
    obtain ⟨k, hk, rfl, rfl, HA, HD⟩ := hrel
    by_cases hlt : k < s.size
    · have hb := bt_range s (k : Int)
      have hx : ((s[k]'hlt).toNat : Int) = bt s (k : Int) := bt_at s (k : Int) hlt
      obtain ⟨x, hxx⟩ : ∃ x, x = bt s (k : Int) := ⟨_, rfl⟩
      rw [← hxx] at hb hx
      have hs1 : hsum s (k + 1) = wrap64 (hsum s k + rd lensI x) := by rw [hxx]; rfl
      have HS1 := Aside0.mk hs1
      clear hs1 hxx
      obtain ⟨hc0, hc1⟩ := code_cells HA.out x (by omega)
      have hb1 : decide (x < 257) = true := decide_eq_true (by omega)
      go_wp2
      go_quiet (fail)
      go_wp2
      go_roundw
      case rel => exact ⟨k + 1, by omega, by go_num, by rw [HS1.out], ⟨by (with_reducible repeat (first | apply Arr.drewN | apply Arr.drew)); exact HA.out⟩, ⟨by exact HD.out.step _⟩⟩
      case measure => simp [intOf]; omega
    · obtain rfl : k = s.size := by omega
      go_wp2
      go_ret
      exact ⟨rfl, HD.out⟩
end Go.Proofs.YthflimnpiglgbaaGreatDoor.LibHuff
namespace Go.Proofs.YthflimnpiglgbaaGreatDoor.LibL3
open Go Go.RowKit Go.Proofs.YthflimnpiglgbaaGreatDoorW.PrintWords Go.Proofs.YthflimnpiglgbaaGreatDoorW.PrintLast Go.Proofs.YthflimnpiglgbaaGreatDoorW.PrintMore Go.Proofs.YthflimnpiglgbaaGreatDoor.LibLens Go.Proofs.YthflimnpiglgbaaGreatDoor.LibHuff Go.Proofs.YthflimnpiglgbaaGreatDoor.A
set_option maxHeartbeats 1600000 in
set_option maxRecDepth 100000 in
theorem l3Lens_calls (w : World) : Calls Tryz.prog 50 #[] w fun e w' => ∃ v0_ : Value, e = .returned (v0_) ∧ Kd.R (Kd.int .i64) 3 w' w.heap.size (fun _ => True) v0_ lensI ∧ Below w.heap.size w w' := by
  have HB := Aside0.mk (Below.refl w.heap.size w)
  obtain ⟨xs, hxs⟩ : ∃ xs, xs = lensI := ⟨_, rfl⟩
  have HX := Aside0.mk hxs
  rw [← hxs]
  clear hxs
  go_enter Tryz.func50, Tryz.ntmps50
  go_wp2_with ((with_reducible refine gate_dst (N := 1) rfl ?_); refine Kd.R_lit (Kd.int .i64) (w0 := w) w.heap.size 3 rfl (N := 1) rfl (xs := xs) (inner := xs.map (Value.int .i64)) (ok := fun _ => True) (okp := fun _ => True) ?hr (Kd.reps_scalar _) (fun _ _ => trivial) trivial HB.out (Nat.le_refl _) (by rw [HX.out, lensI_len]; decide) ?_; (case hr => rw [HX.out]; kernel_rfl); intro v1 w1 ho hb hg hx; have HO := Aside0.mk ho; have HW := Aside0.mk hb; clear ho hb hg hx)
  go_ret
  exact ⟨_, rfl, HO.out, HW.out⟩
end Go.Proofs.YthflimnpiglgbaaGreatDoor.LibL3
namespace Go.Proofs.YthflimnpiglgbaaGreatDoor.LibHuffB
open Go Go.RowKit Go.Proofs.YthflimnpiglgbaaGreatDoorW.PrintWords Go.Proofs.YthflimnpiglgbaaGreatDoorW.PrintLast Go.Proofs.YthflimnpiglgbaaGreatDoorW.PrintMore Go.Proofs.YthflimnpiglgbaaGreatDoor.LibLens Go.Proofs.YthflimnpiglgbaaGreatDoor.LibHuff Go.Proofs.YthflimnpiglgbaaGreatDoor.A
attribute [local go_sem] max2_int min2_int max_two min_two max_three min_three max_four min_four
mutual
def hf0 : Nat → ByteArray → List Int → List Int → List Int → Int → Int → Int → Option (List Int)
 | 0, _, _, _, _, _, _, _ => none
 | k + 1, x0, x3, x4, x5, x6, x7, x8 => if x8 < (x0.size : Int) then (if 0 ≤ x8 then (if 0 ≤ (bt x0 x8) then (if (bt x0 x8) < (x3.length : Int) then (if 0 ≤ (IntKind.u64.wrap (rd x3 (bt x0 x8))) then (if (bt x0 x8) < (x4.length : Int) then (hf1 k x0 x3 x4 x5 (Go.bits .or .i64 (shl .i64 x6 (IntKind.u64.wrap (rd x3 (bt x0 x8)))) (rd x4 (bt x0 x8))) (wrap64 (x7 + (rd x3 (bt x0 x8)))) x8) else (none)) else (none)) else (none)) else (none)) else (none)) else (if x7 > 0 then (if 0 ≤ (IntKind.u64.wrap (wrap64 (8 - x7))) then (if x5.length < 140737488355328 then (some (x5 ++ [(Go.bits .or .i64 (shl .i64 x6 (IntKind.u64.wrap (wrap64 (8 - x7)))) (wrap64 ((shl .i64 1 (IntKind.u64.wrap (wrap64 (8 - x7)))) - 1))) % 256])) else (none)) else (none)) else (some x5))
def hf1 : Nat → ByteArray → List Int → List Int → List Int → Int → Int → Int → Option (List Int)
 | 0, _, _, _, _, _, _, _ => none
 | k + 1, x0, x3, x4, x5, x6, x7, x8 => if x7 ≥ 8 then (if 0 ≤ (IntKind.u64.wrap (wrap64 (x7 - 8))) then (if x5.length < 140737488355328 then (hf1 k x0 x3 x4 (x5 ++ [(shr .i64 x6 (IntKind.u64.wrap (wrap64 (x7 - 8)))) % 256]) (Go.bits .and .i64 x6 (wrap64 ((shl .i64 1 (IntKind.u64.wrap (wrap64 (x7 - 8)))) - 1))) (wrap64 (x7 - 8)) x8) else (none)) else (none)) else (hf0 k x0 x3 x4 x5 x6 x7 (wrap64 (x8 + 1)))
end
theorem hf_mono_l : ∀ k, (∀ y0 y1 y2 y3 y4 y5 y6, LeO (hf0 k y0 y1 y2 y3 y4 y5 y6) (hf0 (k + 1) y0 y1 y2 y3 y4 y5 y6)) ∧ (∀ y0 y1 y2 y3 y4 y5 y6, LeO (hf1 k y0 y1 y2 y3 y4 y5 y6) (hf1 (k + 1) y0 y1 y2 y3 y4 y5 y6))
 | 0 => ⟨fun _ _ _ _ _ _ _ r h => by simp [hf0] at h, fun _ _ _ _ _ _ _ r h => by simp [hf1] at h⟩
 | k + 1 => by
  obtain ⟨ih0, ih1⟩ := hf_mono_l k
  refine ⟨?_, ?_⟩
  · intro y0 y1 y2 y3 y4 y5 y6
    unfold hf0
    repeat' first
    | (with_reducible exact ih1 _ _ _ _ _ _ _)
    | (with_reducible exact LeO.refl _)
    | (with_reducible exact LeO.none _)
    | (with_reducible refine LeO.ite ?_ ?_)
  · intro y0 y1 y2 y3 y4 y5 y6
    unfold hf1
    repeat' first
    | (with_reducible exact ih0 _ _ _ _ _ _ _)
    | (with_reducible exact ih1 _ _ _ _ _ _ _)
    | (with_reducible exact LeO.refl _)
    | (with_reducible exact LeO.none _)
    | (with_reducible refine LeO.ite ?_ ?_)
theorem hf_mono (k : Nat) (s : ByteArray) (a b l : List Int) (x y z : Int) : LeO (hf0 k s a b l x y z) (hf0 (k + 1) s a b l x y z) := (hf_mono_l k).1 _ _ _ _ _ _ _
set_option maxHeartbeats 8000000 in
set_option maxRecDepth 100000 in
theorem huff_calls (k g : Nat) (P0_ : Nat → Prop) (u9000_ : Value) (l0 : List Int) (s : ByteArray) (r : List Int) (w0 w : World) (hB : Below w0.heap.size w0 w) (hA : Arr 86 w g codes) (ho0 : Kd.R (Kd.int .u8) 5 w w0.heap.size P0_ u9000_ l0) (h : hf0 k s lensI bitsI l0 0 0 0 = some r) :
    Calls Tryz.prog 57 #[.pointer (some ⟨g, 0, none⟩), u9000_, .string s] w fun e w' => ∃ v0_ : Value, e = .returned (v0_) ∧ Kd.R (Kd.int .u8) 5 w' w0.heap.size (fun k_ => (P0_ k_ ∨ w.heap.size ≤ k_)) v0_ r ∧ Below w0.heap.size w0 w' ∧ Kept w w' (fun k_ => P0_ k_) := by
  have HO := Aside0.mk (show Kd.R (Kd.int .u8) 5 w w0.heap.size (fun k_ => (P0_ k_ ∨ w.heap.size ≤ k_)) u9000_ l0 from Kd.R_mono ho0 (fun k_ hk => (.inl hk)))
  have HK := Aside0.mk (Kept.refl w (fun k_ => P0_ k_))
  have HW0 := Aside0.mk hB.size
  have HB := Aside0.mk hB
  have HA := Aside0.mk hA
  have H' := Aside0.mk h
  clear hB hA h ho0
  go_enter Tryz.func57, Tryz.ntmps57
  go_wp2
  go_loopg [1, 7, 8, 9] k (fun kq v1 v7 v8 v9 w' => ∃ (x5 : List Int) (x6 x7 x8 : Int), v7 = .int .i64 x6 ∧ v8 = .int .i64 x7 ∧ v9 = .int .i64 x8 ∧ Aside0 (hf0 kq s lensI bitsI x5 x6 x7 x8 = some r) ∧ Aside0 (kq ≤ k) ∧ Aside0 (Kd.R (Kd.int .u8) 5 w' w0.heap.size (fun k_ => (P0_ k_ ∨ w.heap.size ≤ k_)) v1 x5) ∧ Aside0 (Kept w w' (fun k_ => P0_ k_)) ∧ Aside0 (Below w0.heap.size w0 w') ∧ Aside0 (Arr 86 w' g codes))
  case atStart => exact ⟨l0, 0, 0, 0, rfl, rfl, rfl, H', ⟨Nat.le_refl _⟩, HO, HK, HB, HA⟩
  case round =>
    clear H' HO HK HB HA
    obtain ⟨x5, x6, x7, x8, rfl, rfl, rfl, HH, HK1, HO, HK, HB, HA⟩ := hrel
    cases gk with
    | zero => exact absurd HH.out (by simp [hf0])
    | succ k1 =>
      have H := HH.out
      clear HH
      simp only [hf0] at H
      by_cases c8 : x8 < (s.size : Int)
      · rw [if_pos c8] at H
        by_cases c9 : 0 ≤ x8
        · rw [if_pos c9] at H
          have hx : ∀ h, ((s[x8.toNat]'h).toNat : Int) = bt s x8 := bt_at s x8
          obtain ⟨x, hxx⟩ : ∃ x, x = bt s x8 := ⟨_, rfl⟩
          have hb := bt_range s x8
          rw [← hxx] at hb hx H
          rw [if_pos hb.1, if_pos (by rw [lensI_len]; omega)] at H
          have hb1 : decide (x < 257) = true := decide_eq_true (by omega)
          have hb0 : decide (0 ≤ x) = true := decide_eq_true (by omega)
          obtain ⟨hc0, hc1⟩ := code_cells HA.out x (by omega)
          obtain ⟨sz, hsz⟩ : ∃ sz, sz = rd lensI x := ⟨_, rfl⟩
          obtain ⟨bi, hbi⟩ : ∃ bi, bi = rd bitsI x := ⟨_, rfl⟩
          rw [← hsz] at H hc1
          rw [← hbi] at hc0 H
          obtain ⟨ji13, hji13⟩ : ∃ j_ : Int, (IntKind.u64.wrap sz) = j_ := ⟨_, rfl⟩
          rw [hji13] at H
          by_cases c14 : 0 ≤ ji13
          · rw [if_pos c14, if_pos (by rw [bitsI_len]; omega)] at H
            obtain ⟨ji15, hji15⟩ : ∃ j_ : Int, (shl .i64 x6 ji13) = j_ := ⟨_, rfl⟩
            rw [hji15] at H
            have hji15_ : (IntKind.i64.wrap (x6 * 2 ^ min ji13.toNat 64)) = ji15 := hji15
            have hji15y : (wrap64 (x6 * 2 ^ min ji13.toNat 64)) = ji15 := (i64_w _).symm.trans hji15_
            have H' := Aside0.mk H
            clear H hsz hbi hxx
            have c8b0 : decide (x8 < (s.size : Int)) = true := decide_eq_true c8
            have c9b0 : decide (0 ≤ x8) = true := decide_eq_true c9
            have C8 := Aside0.mk c8
            have C9 := Aside0.mk c9
            replace c8 := eq_true c8
            replace c9 := eq_true c9
            have c14b1 : decide (0 ≤ (ji13)) = true := decide_eq_true c14
            replace c14 := eq_true c14
            have hgl := HA.out.lt
            have hgn : g ≠ wr.heap.size := by omega
            go_wp2
            go_region
            all_goals go_wp2
            have n0_ := Aside0.mk (Kd.R_drew (Kd.R_alloc HO.out (.cells #[Value.int IntKind.i64 bi, Value.int IntKind.i64 sz] 85)))
            have n1_ := Aside0.mk (Kept.drew (Kept.alloc HK.out (.cells #[Value.int IntKind.i64 bi, Value.int IntKind.i64 sz] 85)))
            have n2_ := Aside0.mk (below_drew (HB.out.alloc HB.out.size (.cells #[Value.int IntKind.i64 bi, Value.int IntKind.i64 sz] 85)))
            have n3_ := Aside0.mk (Arr.drew (Arr.alloc HA.out (.cells #[Value.int IntKind.i64 bi, Value.int IntKind.i64 sz] 85)))
            clear HO HK HB HA hc0 hc1 hgl hgn
            go_loopg [1, 7, 8] k1 (fun kq v1 v7 v8 w' => ∃ (x5 : List Int) (x6 x7 : Int), v7 = .int .i64 x6 ∧ v8 = .int .i64 x7 ∧ Aside0 (hf1 kq s lensI bitsI x5 x6 x7 x8 = some r) ∧ Aside0 (kq ≤ k1) ∧ Aside0 (Kd.R (Kd.int .u8) 5 w' w0.heap.size (fun k_ => (P0_ k_ ∨ w.heap.size ≤ k_)) v1 x5) ∧ Aside0 (Kept w w' (fun k_ => P0_ k_)) ∧ Aside0 (Below w0.heap.size w0 w') ∧ Aside0 (Arr 86 w' g codes))
            case atStart => exact ⟨x5, _, _, by first | rfl | (rw [← hji15y]), rfl, H', ⟨Nat.le_refl _⟩, n0_, n1_, n2_, n3_⟩
            case round =>
              clear H' n0_ n1_ n2_ n3_ hji15 hji15_ hji15y hji13 hx hb hb0 hb1 c14 c14b1
              obtain ⟨x5, x6, x7, rfl, rfl, HH, HK2, HO, HK, HB, HA⟩ := hrel
              cases gk with
              | zero => exact absurd HH.out (by simp [hf1])
              | succ k2 =>
                have H := HH.out
                clear HH
                simp only [hf1] at H
                by_cases c21 : x7 ≥ 8
                · rw [if_pos c21] at H
                  have c21b0 : decide (8 ≤ x7) = true := decide_eq_true c21
                  clear c21
                  obtain ⟨ji22, hji22⟩ : ∃ j_ : Int, (IntKind.u64.wrap (wrap64 (x7 - 8))) = j_ := ⟨_, rfl⟩
                  rw [hji22] at H
                  by_cases c23 : 0 ≤ (ji22)
                  · rw [if_pos c23] at H
                    have c23b0 := eq_true c23
                    have c23b1 : decide (0 ≤ (ji22)) = true := decide_eq_true c23
                    clear c23
                    obtain ⟨ji24, hji24⟩ : ∃ j_ : Int, (shr .i64 x6 (ji22)) = j_ := ⟨_, rfl⟩
                    rw [hji24] at H
                    have hji24_ : (x6 / 2 ^ min (ji22).toNat 64) = ji24 := hji24
                    by_cases c25 : x5.length < 140737488355328
                    · rw [if_pos c25] at H
                      have LM := Aside0.mk c25
                      clear c25
                      obtain ⟨ji27, hji27⟩ : ∃ j_ : Int, (shl .i64 1 ji22) = j_ := ⟨_, rfl⟩
                      rw [hji27] at H
                      have hji27_ : (IntKind.i64.wrap (1 * 2 ^ min ji22.toNat 64)) = ji27 := hji27
                      have hji27y : (wrap64 (1 * 2 ^ min ji22.toNat 64)) = ji27 := (i64_w _).symm.trans hji27_
                      have hji27u : (IntKind.i64.wrap (2 ^ min ji22.toNat 64)) = ji27 := by have h_ := hji27_; rw [Int.one_mul] at h_; exact h_
                      have hji27w : (wrap64 (2 ^ min ji22.toNat 64)) = ji27 := by have h_ := hji27y; rw [Int.one_mul] at h_; exact h_
                      have H' := Aside0.mk H
                      clear H
                      go_wp2_with (first | ((with_reducible refine gate_builtin (b := .append) (xs := #[.tmp 41, .tmp 47]) rfl ?_); at_builtin; refine Kd.R_append (Kd.int .u8) (w0 := w0) w0.heap.size rfl (.tmp 41) (.tmp 47) 29 5 (.int .u8 0) 1 rfl Tryz.underlying29 info5 rfl (by decide) (by omega) u1 x5 (ji24 % 256) [.int .u8 (ji24 % 256)] (fun k_ => (P0_ k_ ∨ w.heap.size ≤ k_)) (fun _ => False) rfl rfl rfl (fun _ hk => hk.elim) (fun k_ hk => (.inr (Nat.le_trans HK.out.1 hk))) HO.out HB.out (below_size HB.out) (by have := LM.out; omega) ?_; intro v1 w1 ho hb hg hat; have n0_ := Aside0.mk ho; have n1_ := Aside0.mk (Kept.of_grown (S := (fun k_ => P0_ k_)) hg HK.out (fun k_ e_ => (HO.out.1 k_ e_))); have n2_ := Aside0.mk hb; have n3_ := Aside0.mk (Arr.grown HA.out hg (Kd.R_ne HO.out HA.out (by decide))); clear HO HK HB HA ho hb hg hat; have HO := n0_; have HK := n1_; have HB := n2_; have HA := n3_; clear n0_ n1_ n2_ n3_))
                      go_roundg k2
                      case measure => have := HK1.out; have := HK2.out; omega
                      case rel => exact ⟨_, _, _, by first | rfl | (simp; done) | (simp only [← hji27] <;> (first | rfl | simp)) | (simp [*]; done), by first | rfl | (simp; done) | (simp [*]; done), H', ⟨by have := HK1.out; have := HK2.out; omega⟩, HO, HK, HB, HA⟩
                    · rw [if_neg c25] at H
                      exact absurd H (by simp)
                  · rw [if_neg c23] at H
                    exact absurd H (by simp)
                · rw [if_neg c21] at H
                  have c21b0 : decide (8 ≤ x7) = false := decide_eq_false c21
                  clear c21
                  have H' := Aside0.mk H
                  clear H
                  go_wp2
                  go_roundg k2
                  case measure => have := HK1.out; have := HK2.out; omega
                  case rel => exact ⟨x5, x6, x7, _, rfl, rfl, rfl, H', ⟨by have := HK1.out; have := HK2.out; omega⟩, HO, HK, HB, HA⟩
          · rw [if_neg c14] at H
            exact absurd H (by simp)
        · rw [if_neg c9] at H
          exact absurd H (by simp)
      · rw [if_neg c8] at H
        have c8b0 : decide (x8 < (s.size : Int)) = false := decide_eq_false c8
        clear c8
        by_cases c29 : x7 > 0
        · rw [if_pos c29] at H
          have c29b0 : decide (0 < x7) = true := decide_eq_true c29
          clear c29
          obtain ⟨ji30, hji30⟩ : ∃ j_ : Int, (IntKind.u64.wrap (wrap64 (8 - x7))) = j_ := ⟨_, rfl⟩
          rw [hji30] at H
          by_cases c31 : 0 ≤ (ji30)
          · rw [if_pos c31] at H
            have c31b0 := eq_true c31
            have c31b1 : decide (0 ≤ (ji30)) = true := decide_eq_true c31
            clear c31
            obtain ⟨ji32, hji32⟩ : ∃ j_ : Int, (shl .i64 x6 ji30) = j_ := ⟨_, rfl⟩
            rw [hji32] at H
            have hji32_ : (IntKind.i64.wrap (x6 * 2 ^ min ji30.toNat 64)) = ji32 := hji32
            have hji32y : (wrap64 (x6 * 2 ^ min ji30.toNat 64)) = ji32 := (i64_w _).symm.trans hji32_
            obtain ⟨ji34, hji34⟩ : ∃ j_ : Int, (shl .i64 1 ji30) = j_ := ⟨_, rfl⟩
            rw [hji34] at H
            have hji34_ : (IntKind.i64.wrap (1 * 2 ^ min ji30.toNat 64)) = ji34 := hji34
            have hji34y : (wrap64 (1 * 2 ^ min ji30.toNat 64)) = ji34 := (i64_w _).symm.trans hji34_
            have hji34u : (IntKind.i64.wrap (2 ^ min ji30.toNat 64)) = ji34 := by have h_ := hji34_; rw [Int.one_mul] at h_; exact h_
            have hji34w : (wrap64 (2 ^ min ji30.toNat 64)) = ji34 := by have h_ := hji34y; rw [Int.one_mul] at h_; exact h_
            by_cases c35 : x5.length < 140737488355328
            · rw [if_pos c35] at H
              have LM := Aside0.mk c35
              clear c35
              obtain rfl := Option.some.inj H
              clear H
              go_wp2_with (first | ((with_reducible refine gate_builtin (b := .append) (xs := #[.tmp 60, .tmp 69]) rfl ?_); at_builtin; refine Kd.R_append (Kd.int .u8) (w0 := w0) w0.heap.size rfl (.tmp 60) (.tmp 69) 29 5 (.int .u8 0) 1 rfl Tryz.underlying29 info5 rfl (by decide) (by omega) u1 x5 ((Go.bits .or .i64 ji32 (wrap64 (ji34 - 1))) % 256) [.int .u8 ((Go.bits .or .i64 ji32 (wrap64 (ji34 - 1))) % 256)] (fun k_ => (P0_ k_ ∨ w.heap.size ≤ k_)) (fun _ => False) rfl rfl rfl (fun _ hk => hk.elim) (fun k_ hk => (.inr (Nat.le_trans HK.out.1 hk))) HO.out HB.out (below_size HB.out) (by have := LM.out; omega) ?_; intro v1 w1 ho hb hg hat; have n0_ := Aside0.mk ho; have n1_ := Aside0.mk (Kept.of_grown (S := (fun k_ => P0_ k_)) hg HK.out (fun k_ e_ => (HO.out.1 k_ e_))); have n2_ := Aside0.mk hb; have n3_ := Aside0.mk (Arr.grown HA.out hg (Kd.R_ne HO.out HA.out (by decide))); clear HO HK HB HA ho hb hg hat; have HO := n0_; have HK := n1_; have HB := n2_; have HA := n3_; clear n0_ n1_ n2_ n3_))
              go_ret
              exact ⟨_, rfl, HO.out, HB.out, HK.out⟩
            · rw [if_neg c35] at H
              exact absurd H (by simp)
          · rw [if_neg c31] at H
            exact absurd H (by simp)
        · rw [if_neg c29] at H
          have c29b0 : decide (0 < x7) = false := decide_eq_false c29
          clear c29
          obtain rfl := Option.some.inj H
          clear H
          go_wp2
          go_ret
          exact ⟨_, rfl, HO.out, HB.out, HK.out⟩
end Go.Proofs.YthflimnpiglgbaaGreatDoor.LibHuffB
namespace Go.Proofs.YthflimnpiglgbaaGreatDoor.LibStr
open Go.Lib
open Go Go.RowKit Go.Proofs.YthflimnpiglgbaaGreatDoorW.PrintWords Go.Proofs.YthflimnpiglgbaaGreatDoorW.PrintLast Go.Proofs.YthflimnpiglgbaaGreatDoorW.PrintMore
variable {P : Program}
theorem own_string_at (w : World) (base : Nat) (t u ty e : TypeId) (i : TypeInfo) (ht : P.underlying t = some (.slice e)) (hu : P.underlying u = some .string) (hi : P.info? e = some i) (hz : i.zero = some (.int .u8 0))
    (hsize : i.size = 1) (hby : i.bytes = 1) (v : Value) (n : Nat) (xs : List Value) (hown : w.ownsRow base e 1 v n xs) (s : ByteArray)
    (h63 : n + s.size ≤ maxLen) (hbytes : n + s.size ≤ 140737488355328) (hbase : base ≤ w.heap.size) :
    ∃ v' w', (Builtin.append_ #[t, u] ty #[v, .string s]).run P w = .ok v' w' ∧ w'.ownsRow base e 1 v' (n + s.size) (xs ++ strCells s) ∧ w.grownBy w' v.ownBlock ∧
      (v'.ownBlock = v.ownBlock ∨ ∃ b, v'.ownBlock = some b ∧ w.heap.size ≤ b) := by
  obtain ⟨v', w', hr, h1, h2, h3⟩ := run_append_own_string (P := P) w base t u ty e i ht hu hi hz hsize hby v n xs hown s h63 hbytes hbase
  refine ⟨v', w', hr, h1, h2, ?_⟩
  have hxl : xs.length = n := by simpa using hown.1
  rcases hown.2 with ⟨rfl, rfl⟩ | ⟨g, cap, cur, rfl, hbg, hg, hnc, hcm, hcs, htake⟩
  · by_cases hm : s.size = 0
    · left
      rw [h3.2 ⟨rfl, hm⟩]
    · right
      have hr2 := run_append_nil_string (P := P) w t u ty e i (.int .u8 0) ht hu hi hz s (by omega) (by simp only [maxLen] at h63; omega) (by rw [hby]; omega)
      rw [hr2] at hr
      obtain ⟨rfl, rfl⟩ := Result.ok.inj hr
      exact ⟨_, rfl, Nat.le_refl _⟩
  · by_cases hroom : n + s.size ≤ cap
    · left
      have hfit : n + s.size ≤ cur.size := by
        have : cur.size = cap := by simpa using hcs
        omega
      have hr2 := run_append_room_string (P := P) w t u ty e i ht hu hi hsize g n cap cur hg s hroom hfit
      rw [hr2] at hr
      obtain ⟨rfl, rfl⟩ := Result.ok.inj hr
      rfl
    · right
      have holds : ∀ j u, xs[j]? = some u → w.cell? ((⟨g, 0, none⟩ : Addr).add j) = some u := hown.cells (g := g) rfl
      have hr2 := run_append_grow_string (P := P) w t u ty e i (.int .u8 0) ht hu hi hz ⟨g, 0, none⟩ n cap xs (by rw [hsize]; simpa using hxl) holds s (by omega) (by simp only [maxLen] at h63; omega) (by rw [hby]; exact growslice_fits (by omega) (by omega))
      rw [hr2] at hr
      obtain ⟨rfl, rfl⟩ := Result.ok.inj hr
      exact ⟨_, rfl, Nat.le_refl _⟩
theorem R_append_str {ops : Array Oper} {rest : List Oper} {o : Oper} {a : Act} {Q : Exit → Act → World → Prop} {w0 W : World} (base : Nat) (hgd : o.guard = none) (s x : Operand) (t u e : TypeId)
    (ho : o.op = .call { callee := .builtin .append, args := #[s, x], argTypes := #[t, u] })
    (ht : P.underlying t = some (.slice e)) (hu : P.underlying u = some .string) (hinfo : (P.info? e).map (fun i => (i.zero, i.size, i.bytes)) = some (some (.int .u8 0), 1, 1))
    (v : Value) (xs : List Int) (y : ByteArray) (ok : Nat → Prop) (hs : a.eval s = v) (hx : a.eval x = .string y) (hfresh : ∀ k, W.heap.size ≤ k → ok k)
    (HO : Kd.R (Kd.int .u8) e W base ok v xs) (HB : Below base w0 W) (hbase : base ≤ W.heap.size) (hl : xs.length + y.size ≤ 140737488355328)
    (h : ∀ v1 w1, Kd.R (Kd.int .u8) e w1 base ok v1 (xs ++ bytesOf y) → Below base w0 w1 → W.grownBy w1 v.ownBlock → (v1.ownBlock = v.ownBlock ∨ ∃ b, v1.ownBlock = some b ∧ W.heap.size ≤ b) → wpList P ops Q rest (a.put o.dst v1) w1) :
    wpList P ops Q (o :: rest) a W := by
  obtain ⟨i0, hi, hzz⟩ := Option.map_eq_some_iff.1 hinfo
  simp only [Prod.mk.injEq] at hzz
  obtain ⟨hz0, hz1, hz2⟩ := hzz
  have hown := Kd.own_of_R HO
  refine wpList_plain hgd fun K hK => ?_
  obtain ⟨v', w', hr, h2, h3, h4⟩ := own_string_at (P := P) W base t u o.type e i0 ht hu hi hz0 hz1 hz2 v xs.length _ hown y (by simp only [maxLen]; omega) hl hbase
  unfold Oper.wp execOp
  simp only [ho, resolve, invoke, builtin, Sem.run_bind, Sem.run_pure, Result.andThen_ok, List.map_toArray, List.map_cons, List.map_nil, hs, hx, hr]
  refine hK _ _ (h v' w' ?_ (HB.grown h3 hbase (own_base hown)) h3 h4)
  have hl2 : (xs ++ bytesOf y).length = xs.length + y.size := by rw [List.length_append, bytesOf_length]
  have hc : encs (Value.int .u8) (xs ++ bytesOf y) = encs (Value.int .u8) xs ++ Lib.strCells y := by
    simp [encs, bytesOf, Go.Lib.strCells]
  refine Kd.R_of_own (enc := Value.int .u8) (by rw [hl2, hc]; exact h2) (fun k hk => ?_)
  rcases h4 with h4 | ⟨b, hb, hle⟩
  · exact HO.1 k (by rw [← h4]; exact hk)
  · rw [hb] at hk
    cases hk
    exact hfresh _ hle
end Go.Proofs.YthflimnpiglgbaaGreatDoor.LibStr
end
section
namespace Go.Proofs.YthflimnpiglgbaaGreatDoor.A
open Go.RowKit Go.Proofs.YthflimnpiglgbaaGreatDoorW.PrintWords Go.Proofs.YthflimnpiglgbaaGreatDoorW.PrintLast Go.Proofs.YthflimnpiglgbaaGreatDoorW.PrintMore
attribute [local go_sem] max2_int min2_int max_two min_two max_three min_three max_four min_four   -- for this text's walks alone
set_option linter.unusedVariables false
set_option linter.unusedSimpArgs false

def spec_l5Mode.f (a0 : Int) : Option (Int × Int):=if a0 = 1 then (some (6,64)) else (if a0 = 3 then (some (4,16)) else (some (4,0)))
set_option maxHeartbeats 8000000 in
set_option maxRecDepth 100000 in
theorem spec_l5Mode.calls (a0 : Int) (r1 : Int) (r2 : Int) (w : World) (h : spec_l5Mode.f a0 = some (r1,r2)) :
 Calls Tryz.prog 28 #[.int .i64 a0] w fun e w' => e = .returned (.tuple #[.int .i64 r1,.int .i64 r2]) ∧ Drawn0 w w':=by
 have H : (if a0 = 1 then (some (6,64)) else (if a0 = 3 then (some (4,16)) else (some (4,0)))) = some (r1,r2):=h
 clear h
 by_cases c2 : a0 = 1
 ·
  rw [if_pos c2] at H
  have c2b0 : (a0 == 1) = true:=beq_iff_eq.mpr c2
  have c2b1 : (a0 != 1) = false:=bne_eq_false_iff_eq.mpr c2
  clear c2
  simp only [Option.some.injEq,Prod.mk.injEq] at H
  obtain ⟨rfl,rfl⟩:=H
  go_enter Tryz.func28,Tryz.ntmps28
  go_wp2
  go_ret2
  exact ⟨by first|rfl|(simp;done)|(simp [*];done),by repeat (first|exact Drawn0.refl _|apply Drawn0.step)⟩
 ·
  rw [if_neg c2] at H
  have c2b0 : (a0 == 1) = false:=beq_eq_false_iff_ne.mpr c2
  have c2b1 : (a0 != 1) = true:=bne_iff_ne.mpr c2
  by_cases c3 : a0 = 3
  ·
   rw [if_pos c3] at H
   have c3b0 : (a0 == 3) = true:=beq_iff_eq.mpr c3
   have c3b1 : (a0 != 3) = false:=bne_eq_false_iff_eq.mpr c3
   clear c3
   simp only [Option.some.injEq,Prod.mk.injEq] at H
   obtain ⟨rfl,rfl⟩:=H
   go_enter Tryz.func28,Tryz.ntmps28
   go_wp2
   go_ret2
   exact ⟨by first|rfl|(simp;done)|(simp [*];done),by repeat (first|exact Drawn0.refl _|apply Drawn0.step)⟩
  ·
   rw [if_neg c3] at H
   have c3b0 : (a0 == 3) = false:=beq_eq_false_iff_ne.mpr c3
   have c3b1 : (a0 != 3) = true:=bne_iff_ne.mpr c3
   simp only [Option.some.injEq,Prod.mk.injEq] at H
   obtain ⟨rfl,rfl⟩:=H
   go_enter Tryz.func28,Tryz.ntmps28
   go_wp2
   go_ret2
   exact ⟨by first|rfl|(simp;done)|(simp [*];done),by repeat (first|exact Drawn0.refl _|apply Drawn0.step)⟩
def spec_l3Lens.f  : Option (List Int):=some Go.Proofs.YthflimnpiglgbaaGreatDoor.LibHuff.lensI
theorem spec_l3Lens.calls  (r : List Int) (w : World) (h : spec_l3Lens.f  = some r) : Calls Tryz.prog 50 #[] w fun e w' => ∃ v0_ : Value,e = .returned (v0_) ∧ Kd.R (Kd.int .i64) 3 w' w.heap.size (fun _ => True) v0_ r ∧ Below w.heap.size w w':=by
 obtain rfl:=Option.some.inj h
 exact Go.Proofs.YthflimnpiglgbaaGreatDoor.LibL3.l3Lens_calls w
end Go.Proofs.YthflimnpiglgbaaGreatDoor.A
end
section
namespace Go.Proofs.YthflimnpiglgbaaGreatDoor.A
open Go.RowKit Go.Proofs.YthflimnpiglgbaaGreatDoorW.PrintWords Go.Proofs.YthflimnpiglgbaaGreatDoorW.PrintLast Go.Proofs.YthflimnpiglgbaaGreatDoorW.PrintMore
attribute [local go_sem] max2_int min2_int max_two min_two max_three min_three max_four min_four   -- for this text's walks alone
set_option linter.unusedVariables false
set_option linter.unusedSimpArgs false

mutual
def spec_l3Codes.l0 : Nat → List Int → List Int → Int → Int → Int → Option (List Int)
 | 0,_,_,_,_,_ => none
 | k + 1,x1,x2,x3,x4,x5 => if x5 ≤ 30 then (spec_l3Codes.l1 k x1 x2 x3 x4 x5 0) else (some x2)
def spec_l3Codes.l1 : Nat → List Int → List Int → Int → Int → Int → Int → Option (List Int)
 | 0,_,_,_,_,_,_ => none
 | k + 1,x1,x2,x3,x4,x5,x6 => if x6 ≤ 256 then (if 0 ≤ x6 then (if x6 < (x1.length : Int) then (if (rd x1 x6) = x5 then (if x4 > 0 then (if 0 ≤ (IntKind.u64.wrap (wrap64 (x5 - x4))) then (if x6 < (x2.length : Int) then (spec_l3Codes.l1 k x1 (x2.set (x6 : Int).toNat (shl .i64 (wrap64 (x3 + 1)) (IntKind.u64.wrap (wrap64 (x5 - x4))))) (shl .i64 (wrap64 (x3 + 1)) (IntKind.u64.wrap (wrap64 (x5 - x4)))) x5 x5 (wrap64 (x6 + 1))) else (none)) else (none)) else (if x6 < (x2.length : Int) then (spec_l3Codes.l1 k x1 (x2.set (x6 : Int).toNat x3) x3 x5 x5 (wrap64 (x6 + 1))) else (none))) else (spec_l3Codes.l1 k x1 x2 x3 x4 x5 (wrap64 (x6 + 1)))) else (none)) else (none)) else (spec_l3Codes.l0 k x1 x2 x3 x4 (wrap64 (x5 + 1)))
end
def spec_l3Codes.f (k : Nat)  : Option (List Int):=(spec_l3Lens.f).bind fun t152 => (spec_l3Codes.l0 k t152 (List.replicate 257 0) 0 0 1)
theorem spec_l3Codes.mono_l : ∀ k,(∀ y0 y1 y2 y3 y4,LeO (spec_l3Codes.l0 k y0 y1 y2 y3 y4) (spec_l3Codes.l0 (k + 1) y0 y1 y2 y3 y4)) ∧ (∀ y0 y1 y2 y3 y4 y5,LeO (spec_l3Codes.l1 k y0 y1 y2 y3 y4 y5) (spec_l3Codes.l1 (k + 1) y0 y1 y2 y3 y4 y5))
 | 0 => ⟨fun _ _ _ _ _ r h => by simp [spec_l3Codes.l0] at h,fun _ _ _ _ _ _ r h => by simp [spec_l3Codes.l1] at h⟩
 | k + 1 => by
  obtain ⟨ih0,ih1⟩:=spec_l3Codes.mono_l k
  refine ⟨?_,?_⟩
  ·
   intro y0 y1 y2 y3 y4
   unfold spec_l3Codes.l0
   repeat' first
   | (with_reducible exact ih0 _ _ _ _ _)
   | (with_reducible exact ih1 _ _ _ _ _ _)
   | (with_reducible exact LeO.refl _)
   | (with_reducible exact LeO.none _)
   | (with_reducible refine LeO.ite ?_ ?_)
   | (with_reducible refine LeO.bind ?_ (fun _ => ?_))
   | exact ih0 _ _ _ _ _
   | exact ih1 _ _ _ _ _ _
   | exact LeO.none _
   | refine LeO.ite ?_ ?_
   | refine LeO.bind ?_ (fun _ => ?_)
  ·
   intro y0 y1 y2 y3 y4 y5
   unfold spec_l3Codes.l1
   repeat' first
   | (with_reducible exact ih0 _ _ _ _ _)
   | (with_reducible exact ih1 _ _ _ _ _ _)
   | (with_reducible exact LeO.refl _)
   | (with_reducible exact LeO.none _)
   | (with_reducible refine LeO.ite ?_ ?_)
   | (with_reducible refine LeO.bind ?_ (fun _ => ?_))
   | exact ih0 _ _ _ _ _
   | exact ih1 _ _ _ _ _ _
   | exact LeO.none _
   | refine LeO.ite ?_ ?_
   | refine LeO.bind ?_ (fun _ => ?_)
theorem spec_l3Codes.mono : ∀ k,LeO (spec_l3Codes.f k ) (spec_l3Codes.f (k + 1) ):=by
 intro  k
 obtain ⟨ih0,ih1⟩:=spec_l3Codes.mono_l k
 unfold spec_l3Codes.f
 repeat' first
  | (with_reducible exact ih0 _ _ _ _ _)
  | (with_reducible exact ih1 _ _ _ _ _ _)
  | (with_reducible exact LeO.refl _)
  | (with_reducible exact LeO.none _)
  | (with_reducible refine LeO.ite ?_ ?_)
  | (with_reducible refine LeO.bind ?_ (fun _ => ?_))
  | exact ih0 _ _ _ _ _
  | exact ih1 _ _ _ _ _ _
  | exact LeO.none _
  | refine LeO.ite ?_ ?_
  | refine LeO.bind ?_ (fun _ => ?_)
set_option maxHeartbeats 8000000 in
set_option maxRecDepth 100000 in
theorem spec_l3Codes.calls (k : Nat)  (r : List Int) (w : World) (h : spec_l3Codes.f k  = some r) :
 Calls Tryz.prog 51 #[] w fun e w' => ∃ v0_ : Value,e = .returned (v0_) ∧ Kd.R (Kd.int .i64) 3 w' w.heap.size (fun _ => True) v0_ r ∧ Below w.heap.size w w':=by
 have HB:=zm0_ (Below.refl w.heap.size w)
 have H : ((spec_l3Lens.f).bind fun t152 => (spec_l3Codes.l0 k t152 (List.replicate 257 0) 0 0 1)) = some r:=h
 clear h
 replace H:=zq1_ H
 obtain ⟨t152,A10,H⟩:=H
 replace H : (spec_l3Codes.l0 k t152 (List.replicate 257 0) 0 0 1) = some r:=H
 have A1:=zm0_ A10
 clear A10
 obtain ⟨y155,hy155⟩ : ∃ y_ : List Int,y_ = (List.replicate 257 0):=⟨_,rfl⟩
 replace H : (spec_l3Codes.l0 k t152 y155 0 0 1) = some r:=by first|(rw [hy155];with_reducible exact H)|(have H2_:=(Option.bind_some _ _).symm.trans H;rw [hy155];with_reducible exact H2_)|(have H2_:=(Option.bind_some _ _).symm.trans H;with_reducible exact H2_)|with_reducible exact H|(rw [hy155];exact H)|exact H
 have Ny155:=zm0_ hy155
 clear hy155
 have H':=zm0_ H
 clear H
 go_enter Tryz.func51,Tryz.ntmps51
 go_wp2_with (first|((with_reducible refine gate_callee (f:=50) rfl ?_);refine goesL_ (some 7) rfl rfl Tryz.func50 (by kernel_rfl) rfl #[] rfl zy ?_;(with_reducible refine (spec_l3Lens.calls  t152 _ A1.out).mono ?_);rintro e w2 ⟨v153,rfl,ho0,hb⟩;refine ⟨_,rfl,?_⟩;have HO154:=zm0_ (zo1_ ho0 (zn9_ (zl HB)));replace HB:=zm0_ (zn8_ (zl HB) hb);(try clear hb);(try clear hb2);(try clear hk);(try clear hi);(try clear ho0))|((with_reducible refine gate_dst (N:=8) rfl ?_);refine Kd.R_make (Kd.int .i64) _ 3 rfl (N:=8) rfl 70 _ _ rfl 257 rfl rfl Tryz.underlying70 (.int .i64 0) 8 info3 rfl (by decide) (by omega) 0 (ok:=fun _ => True) (okp:=fun _ => True) rfl (fun _ hk => hk) trivial (by omega) (by omega) (Below.refl _ _) (Nat.le_refl _) ?_;intro v156 w3 ho4 hb hg_ hnew_;clear hg_ hnew_;(first|rw [← Ny155.out] at ho4|(simp only [Int.reduceToNat] at ho4;rw [← Ny155.out] at ho4));have HO157:=zm0_ (zo1_ (Kd.R_new' ho4 (Kd.R_lt (zr HO154))) (zn9_ (zl HB)));replace HO154:=zm0_ (Kd.R_elder' (zr HO154) (Kd.R_base ho4) hb);replace HB:=zm0_ (zn8_ (zl HB) hb);clear hb ho4))
 go_loopg [3,4,5] k (fun kq v3 v4 v5 w' => ∃ (x2_1 : List Int) (x3_1 : Int) (x4_1 : Int) (x5_1 : Int),v3 = .int .i64 x3_1 ∧ v4 = .int .i64 x4_1 ∧ v5 = .int .i64 x5_1 ∧ Aside0 (spec_l3Codes.l0 kq t152 x2_1 x3_1 x4_1 x5_1 = some r) ∧ Aside0 (kq ≤ k) ∧ Aside0 (Kd.R (Kd.int .i64) 3 w' w.heap.size (fun k_ => some k_ ≠ (v156 : Value).ownBlock) v153 t152) ∧ Aside0 (Kd.R (Kd.int .i64) 3 w' w.heap.size (fun k_ => some k_ ≠ (v153 : Value).ownBlock) v156 x2_1) ∧ Aside0 (Below w.heap.size w w'))
 case atStart => exact ⟨(y155),(0),(0),(1),zz,zz,zz,H',⟨Nat.le_refl _⟩,⟨by (with_reducible repeat (first|apply k1_|apply k2_|apply k3_));exact zo2_ HO154.out (fun _ hk => (by first|exact hk.2|(have hq_:=hk;simp only [ne_eq] at hq_ ⊢;simp only [hq_,not_false_eq_true,and_self])))⟩,⟨by (with_reducible repeat (first|apply k1_|apply k2_|apply k3_));exact zo2_ HO157.out (fun _ hk => (by first|exact hk.2|(have hq_:=hk;simp only [ne_eq] at hq_ ⊢;simp only [hq_,not_false_eq_true,and_self])))⟩,⟨zl HB⟩⟩
 case round =>
  clear H'
  try clear p2
  obtain ⟨x2_1,x3_1,x4_1,x5_1,rfl,rfl,rfl,HA,HK1,HO_1,HO_2,HB⟩:=hrel
  cases gk with
  | zero => exact absurd HA.out (by simp [spec_l3Codes.l0])
  | succ k1 =>
   have H:=HA.out
   clear HA
   simp only [spec_l3Codes.l0] at H
   by_cases c5 : x5_1 ≤ 30
   ·
    rw [if_pos c5] at H
    have c5b0 : decide (x5_1 ≤ 30) = true:=decide_eq_true c5
    clear c5
    have H':=zm0_ H
    clear H
    go_wp2
    go_loopg [3,4,6] k1 (fun kq v3 v4 v6 w' => ∃ (x2_2 : List Int) (x3_2 : Int) (x4_2 : Int) (x6_2 : Int),v3 = .int .i64 x3_2 ∧ v4 = .int .i64 x4_2 ∧ v6 = .int .i64 x6_2 ∧ Aside0 (spec_l3Codes.l1 kq t152 x2_2 x3_2 x4_2 x5_1 x6_2 = some r) ∧ Aside0 (kq ≤ k1) ∧ Aside0 (Kd.R (Kd.int .i64) 3 w' w.heap.size (fun k_ => some k_ ≠ (v156 : Value).ownBlock) v153 t152) ∧ Aside0 (Kd.R (Kd.int .i64) 3 w' w.heap.size (fun k_ => some k_ ≠ (v153 : Value).ownBlock) v156 x2_2) ∧ Aside0 (Below w.heap.size w w'))
    case atStart => exact ⟨(x2_1),(x3_1),(x4_1),(0),zz,zz,zz,H',⟨Nat.le_refl _⟩,⟨zr HO_1⟩,⟨zr HO_2⟩,⟨zl HB⟩⟩
    case round =>
     clear H'
     try clear p2
     try clear c5
     try clear c5b0
     try clear p2
     obtain ⟨x2_2,x3_2,x4_2,x6_2,rfl,rfl,rfl,HA,HK2,HO_1,HO_2,HB⟩:=hrel
     cases gk with
     | zero => exact absurd HA.out (by simp [spec_l3Codes.l1])
     | succ k2 =>
      have H:=HA.out
      clear HA
      simp only [spec_l3Codes.l1] at H
      by_cases c6 : x6_2 ≤ 256
      ·
       rw [if_pos c6] at H
       have c6b0 : decide (x6_2 ≤ 256) = true:=decide_eq_true c6
       clear c6
       by_cases c7 : 0 ≤ x6_2
       ·
        rw [if_pos c7] at H
        have c7b0 : decide (0 ≤ x6_2) = true:=decide_eq_true c7
        clear c7
        by_cases c8 : x6_2 < (t152.length : Int)
        ·
         rw [if_pos c8] at H
         have c8b0 : decide (x6_2 < (t152.length : Int)) = true:=decide_eq_true c8
         clear c8
         by_cases c9 : (rd t152 x6_2) = x5_1
         ·
          rw [if_pos c9] at H
          have c9b0 : ((rd t152 x6_2) == x5_1) = true:=beq_iff_eq.mpr c9
          have c9b1 : ((rd t152 x6_2) != x5_1) = false:=bne_eq_false_iff_eq.mpr c9
          clear c9
          by_cases c10 : x4_2 > 0
          ·
           rw [if_pos c10] at H
           have c10b0 : decide (0 < x4_2) = true:=decide_eq_true c10
           clear c10
           obtain ⟨ji11,hji11⟩ : ∃ j_ : Int,(IntKind.u64.wrap (wrap64 (x5_1 - x4_2))) = j_:=⟨_,rfl⟩
           replace H : (if 0 ≤ (ji11) then (if x6_2 < (x2_2.length : Int) then (spec_l3Codes.l1 k2 t152 (x2_2.set (x6_2 : Int).toNat (shl .i64 (wrap64 (x3_2 + 1)) (ji11))) (shl .i64 (wrap64 (x3_2 + 1)) (ji11)) x5_1 x5_1 (wrap64 (x6_2 + 1))) else (none)) else (none)) = some r:=by first|(rw [hji11] at H;exact H)|(simp only [hji11] at H ⊢;exact H)
           by_cases c12 : 0 ≤ (ji11)
           ·
            rw [if_pos c12] at H
            have c12b0:=eq_true c12
            have c12b1 : decide (0 ≤ (ji11)) = true:=decide_eq_true c12
            clear c12
            obtain ⟨ji13,hji13⟩ : ∃ j_ : Int,(shl .i64 (wrap64 (x3_2 + 1)) (ji11)) = j_:=⟨_,rfl⟩
            replace H : (if x6_2 < (x2_2.length : Int) then (spec_l3Codes.l1 k2 t152 (x2_2.set (x6_2 : Int).toNat (ji13)) ji13 x5_1 x5_1 (wrap64 (x6_2 + 1))) else (none)) = some r:=by first|(rw [hji13] at H;exact H)|(simp only [hji13] at H ⊢;exact H)
            have hji13_ : (IntKind.i64.wrap ((wrap64 (x3_2 + 1)) * 2 ^ min (ji11).toNat 64)) = ji13:=hji13
            have hji13z : (ji11) ≤ 64 → (IntKind.i64.wrap ((wrap64 (x3_2 + 1)) * 2 ^ (ji11).toNat)) = ji13:=shl_small hji13
            have hji13y : (wrap64 ((wrap64 (x3_2 + 1)) * 2 ^ min (ji11).toNat 64)) = ji13:=(i64_w _).symm.trans hji13_
            have hji13x : (ji11) ≤ 64 → (wrap64 ((wrap64 (x3_2 + 1)) * 2 ^ (ji11).toNat)) = ji13:=fun h_ => (i64_w _).symm.trans (hji13z h_)
            by_cases c14 : x6_2 < (x2_2.length : Int)
            ·
             rw [if_pos c14] at H
             have c14b0 : decide (x6_2 < (x2_2.length : Int)) = true:=decide_eq_true c14
             clear c14
             obtain ⟨y159,hy159⟩ : ∃ y_ : List Int,y_ = (x2_2.set (x6_2 : Int).toNat (ji13)):=⟨_,rfl⟩
             replace H : (spec_l3Codes.l1 k2 t152 y159 ji13 x5_1 x5_1 (wrap64 (x6_2 + 1))) = some r:=by first|(rw [hy159];with_reducible exact H)|(have H2_:=(Option.bind_some _ _).symm.trans H;rw [hy159];with_reducible exact H2_)|(have H2_:=(Option.bind_some _ _).symm.trans H;with_reducible exact H2_)|with_reducible exact H|(rw [hy159];exact H)|exact H
             have Ny159:=zm0_ hy159
             clear hy159
             have H':=zm0_ H
             clear H
             obtain ⟨Ao16,co16,eo16⟩:=Kd.R_slice HO_1.out
             subst eo16
             have p158 : 0 ≤ (x6_2 : Int):=of_decide_eq_true (by first|(with_reducible assumption)|assumption)
             have q158 : x6_2 < (t152.length : Int):=of_decide_eq_true (by first|(with_reducible assumption)|assumption)
             obtain ⟨ad158,e158,hx158_0⟩:=Kd.at_int (Kd.R_reads' HO_1.out).2.2 x6_2 p158 q158
             cases e158
             replace p158:=eq_true p158
             replace q158:=eq_true q158
             have p15 : 0 ≤ (x6_2 : Int):=of_decide_eq_true (by first|(with_reducible assumption)|assumption)
             have q15 : (x6_2 : Int) < ((x2_2.length : Int) : Int):=of_decide_eq_true (by first|(with_reducible assumption)|assumption)
             obtain ⟨go15,co15,eo15,gb15,gl15,cl15,HG15⟩:=Kd.R_form HO_2.out (by omega)
             (first|cases eo15|(injection eo15 with ea_ en_ ec_;(first|subst ea_|(injection ea_ with ea_;subst ea_));subst ec_;clear en_))
             have GB15:=zm0_ gb15
             have GG15:=zm0_ HG15
             clear gb15 gl15 HG15
             obtain ⟨hx15_0,hf15_0⟩:=Kd.R_celln 0 HO_2.out (x6_2 : Int) p15 q15
             replace p15:=eq_true p15
             replace q15:=eq_true q15
             have HP17:=Kd.R_putg HO_2.out (x6_2 : Int) ji13
             go_wp2_with (first|((with_reducible refine gate_store (t:=3) (p:=36) rfl ?_);refine store_event (t:=3) (p:=36) (v:=?vo_w18) (w1:=(wr.setCell ⟨go15,(x6_2 : Int).toNat,none⟩ (.int .i64 ji13))) ?hg ?ho ?hn ?hr ?_;(case ho => rfl);(case hg => rfl);(case hn => rfl);(case hr => first|(go_simp;done)|(go_simp;rfl));intro w18 hw;have hg : wr.grownBy w18 (some go15):=(by rw [hw];exact HP17.2);have hp_ : Kd.R (Kd.int .i64) 3 w18 w.heap.size (fun k_ => some k_ ≠ (.slice (some ad158) t152.length co16 : Value).ownBlock) (.slice (some ⟨go15,0,none⟩) x2_2.length co15) y159:=(by rw [hw,Ny159.out];exact HP17.1);clear HP17;replace HO_1:=zm0_ (Kd.R_after (v:=(.slice (some ⟨go15,0,none⟩) x2_2.length co15)) (v1:=(.slice (some ⟨go15,0,none⟩) x2_2.length co15)) (ok:=(fun _ => True)) (zs (zo2_ HO_1.out (fun _ hk => ⟨trivial,hk⟩))) hg (.inl rfl));replace HO_2:=zm0_ (hp_);replace HB:=zm0_ ((by rw [hw];exact zm1_ (HB.out) GB15.out : Below w.heap.size w w18));clear hg hw hp_))
             go_roundg k2
             case measure => have:=HK1.out;have:=HK2.out;omega
             case rel => exact ⟨(y159),(ji13),(x5_1),(wrap64 (x6_2 + 1)),(by first|rfl|(simp;done)|(simp only [← hji13] <;> (first|rfl|simp))|(simp [*];done)),zz,zz,H',⟨by have:=HK1.out;have:=HK2.out;omega⟩,⟨by (with_reducible repeat (first|apply k1_|apply k2_|apply k3_));exact zo2_ HO_1.out (fun _ hk => (by first|exact hk.2|(have hq_:=hk;simp only [ne_eq] at hq_ ⊢;simp only [hq_,not_false_eq_true,and_self])))⟩,⟨zr HO_2⟩,⟨zl HB⟩⟩
            ·
             rw [if_neg c14] at H
             exact absurd H (by simp)
           ·
            rw [if_neg c12] at H
            exact absurd H (by simp)
          ·
           rw [if_neg c10] at H
           have c10b0 : decide (0 < x4_2) = false:=decide_eq_false c10
           clear c10
           by_cases c19 : x6_2 < (x2_2.length : Int)
           ·
            rw [if_pos c19] at H
            have c19b0 : decide (x6_2 < (x2_2.length : Int)) = true:=decide_eq_true c19
            clear c19
            obtain ⟨y160,hy160⟩ : ∃ y_ : List Int,y_ = (x2_2.set (x6_2 : Int).toNat x3_2):=⟨_,rfl⟩
            replace H : (spec_l3Codes.l1 k2 t152 y160 x3_2 x5_1 x5_1 (wrap64 (x6_2 + 1))) = some r:=by first|(rw [hy160];with_reducible exact H)|(have H2_:=(Option.bind_some _ _).symm.trans H;rw [hy160];with_reducible exact H2_)|(have H2_:=(Option.bind_some _ _).symm.trans H;with_reducible exact H2_)|with_reducible exact H|(rw [hy160];exact H)|exact H
            have Ny160:=zm0_ hy160
            clear hy160
            have H':=zm0_ H
            clear H
            obtain ⟨Ao21,co21,eo21⟩:=Kd.R_slice HO_1.out
            subst eo21
            have p158 : 0 ≤ (x6_2 : Int):=of_decide_eq_true (by first|(with_reducible assumption)|assumption)
            have q158 : x6_2 < (t152.length : Int):=of_decide_eq_true (by first|(with_reducible assumption)|assumption)
            obtain ⟨ad158,e158,hx158_0⟩:=Kd.at_int (Kd.R_reads' HO_1.out).2.2 x6_2 p158 q158
            cases e158
            replace p158:=eq_true p158
            replace q158:=eq_true q158
            have p20 : 0 ≤ (x6_2 : Int):=of_decide_eq_true (by first|(with_reducible assumption)|assumption)
            have q20 : (x6_2 : Int) < ((x2_2.length : Int) : Int):=of_decide_eq_true (by first|(with_reducible assumption)|assumption)
            obtain ⟨go20,co20,eo20,gb20,gl20,cl20,HG20⟩:=Kd.R_form HO_2.out (by omega)
            (first|cases eo20|(injection eo20 with ea_ en_ ec_;(first|subst ea_|(injection ea_ with ea_;subst ea_));subst ec_;clear en_))
            have GB20:=zm0_ gb20
            have GG20:=zm0_ HG20
            clear gb20 gl20 HG20
            obtain ⟨hx20_0,hf20_0⟩:=Kd.R_celln 0 HO_2.out (x6_2 : Int) p20 q20
            replace p20:=eq_true p20
            replace q20:=eq_true q20
            have HP22:=Kd.R_putg HO_2.out (x6_2 : Int) x3_2
            go_wp2_with (first|((with_reducible refine gate_store (t:=3) (p:=36) rfl ?_);refine store_event (t:=3) (p:=36) (v:=?vo_w23) (w1:=(wr.setCell ⟨go20,(x6_2 : Int).toNat,none⟩ (.int .i64 x3_2))) ?hg ?ho ?hn ?hr ?_;(case ho => rfl);(case hg => rfl);(case hn => rfl);(case hr => first|(go_simp;done)|(go_simp;rfl));intro w23 hw;have hg : wr.grownBy w23 (some go20):=(by rw [hw];exact HP22.2);have hp_ : Kd.R (Kd.int .i64) 3 w23 w.heap.size (fun k_ => some k_ ≠ (.slice (some ad158) t152.length co21 : Value).ownBlock) (.slice (some ⟨go20,0,none⟩) x2_2.length co20) y160:=(by rw [hw,Ny160.out];exact HP22.1);clear HP22;replace HO_1:=zm0_ (Kd.R_after (v:=(.slice (some ⟨go20,0,none⟩) x2_2.length co20)) (v1:=(.slice (some ⟨go20,0,none⟩) x2_2.length co20)) (ok:=(fun _ => True)) (zs (zo2_ HO_1.out (fun _ hk => ⟨trivial,hk⟩))) hg (.inl rfl));replace HO_2:=zm0_ (hp_);replace HB:=zm0_ ((by rw [hw];exact zm1_ (HB.out) GB20.out : Below w.heap.size w w23));clear hg hw hp_))
            go_roundg k2
            case measure => have:=HK1.out;have:=HK2.out;omega
            case rel => exact ⟨(y160),(x3_2),(x5_1),(wrap64 (x6_2 + 1)),zz,zz,zz,H',⟨by have:=HK1.out;have:=HK2.out;omega⟩,⟨by (with_reducible repeat (first|apply k1_|apply k2_|apply k3_));exact zo2_ HO_1.out (fun _ hk => (by first|exact hk.2|(have hq_:=hk;simp only [ne_eq] at hq_ ⊢;simp only [hq_,not_false_eq_true,and_self])))⟩,⟨zr HO_2⟩,⟨zl HB⟩⟩
           ·
            rw [if_neg c19] at H
            exact absurd H (by simp)
         ·
          rw [if_neg c9] at H
          have c9b0 : ((rd t152 x6_2) == x5_1) = false:=beq_eq_false_iff_ne.mpr c9
          have c9b1 : ((rd t152 x6_2) != x5_1) = true:=bne_iff_ne.mpr c9
          have H':=zm0_ H
          clear H
          obtain ⟨Ao24,co24,eo24⟩:=Kd.R_slice HO_1.out
          subst eo24
          have p158 : 0 ≤ (x6_2 : Int):=of_decide_eq_true (by first|(with_reducible assumption)|assumption)
          have q158 : x6_2 < (t152.length : Int):=of_decide_eq_true (by first|(with_reducible assumption)|assumption)
          obtain ⟨ad158,e158,hx158_0⟩:=Kd.at_int (Kd.R_reads' HO_1.out).2.2 x6_2 p158 q158
          cases e158
          replace p158:=eq_true p158
          replace q158:=eq_true q158
          go_wp2
          go_roundg k2
          case measure => have:=HK1.out;have:=HK2.out;omega
          case rel => exact ⟨(x2_2),(x3_2),(x4_2),(wrap64 (x6_2 + 1)),zz,zz,zz,H',⟨by have:=HK1.out;have:=HK2.out;omega⟩,⟨zr HO_1⟩,⟨zr HO_2⟩,⟨zl HB⟩⟩
        ·
         rw [if_neg c8] at H
         exact absurd H (by simp)
       ·
        rw [if_neg c7] at H
        exact absurd H (by simp)
      ·
       rw [if_neg c6] at H
       have c6b0 : decide (x6_2 ≤ 256) = false:=decide_eq_false c6
       clear c6
       have H':=zm0_ H
       clear H
       go_wp2
       go_roundg k2
       case measure => have:=HK1.out;have:=HK2.out;omega
       case rel => exact ⟨(x2_2),(x3_2),(x4_2),(wrap64 (x5_1 + 1)),zz,zz,zz,H',⟨by have:=HK1.out;have:=HK2.out;omega⟩,⟨zr HO_1⟩,⟨zr HO_2⟩,⟨zl HB⟩⟩
   ·
    rw [if_neg c5] at H
    have c5b0 : decide (x5_1 ≤ 30) = false:=decide_eq_false c5
    clear c5
    obtain rfl:=Option.some.inj H
    go_wp2
    go_ret
    exact ⟨_,ze,by (with_reducible repeat (first|apply k1_|apply k2_|apply k3_));exact zo2_ HO_2.out (fun _ hk => trivial),by repeat (first|(with_reducible first|exact HB.out|apply zm3_|apply zm2_|apply zm4_)|exact HB.out)⟩
end Go.Proofs.YthflimnpiglgbaaGreatDoor.A
end
section
namespace Go.Proofs.YthflimnpiglgbaaGreatDoor.A
open Go.RowKit Go.Proofs.YthflimnpiglgbaaGreatDoorW.PrintWords Go.Proofs.YthflimnpiglgbaaGreatDoorW.PrintLast Go.Proofs.YthflimnpiglgbaaGreatDoorW.PrintMore
attribute [local go_sem] max2_int min2_int max_two min_two max_three min_three max_four min_four   -- for this text's walks alone
set_option linter.unusedVariables false
set_option linter.unusedSimpArgs false

mutual
def spec_Huff.l0 : Nat → ByteArray → List Int → List Int → List Int → Int → Int → Int → Option (List Int)
 | 0,_,_,_,_,_,_,_ => none
 | k + 1,x0,x3,x4,x5,x6,x7,x8 => if x8 < (x0.size : Int) then (if 0 ≤ x8 then (if 0 ≤ (bt x0 x8) then (if (bt x0 x8) < (x3.length : Int) then (if 0 ≤ (IntKind.u64.wrap (rd x3 (bt x0 x8))) then (if (bt x0 x8) < (x4.length : Int) then (spec_Huff.l1 k x0 x3 x4 x5 (Go.bits .or .i64 (shl .i64 x6 (IntKind.u64.wrap (rd x3 (bt x0 x8)))) (rd x4 (bt x0 x8))) (wrap64 (x7 + (rd x3 (bt x0 x8)))) x8) else (none)) else (none)) else (none)) else (none)) else (none)) else (if x7 > 0 then (if 0 ≤ (IntKind.u64.wrap (wrap64 (8 - x7))) then (if x5.length < 140737488355328 then (some (x5 ++ [(Go.bits .or .i64 (shl .i64 x6 (IntKind.u64.wrap (wrap64 (8 - x7)))) (wrap64 ((shl .i64 1 (IntKind.u64.wrap (wrap64 (8 - x7)))) - 1))) % 256])) else (none)) else (none)) else (some x5))
def spec_Huff.l1 : Nat → ByteArray → List Int → List Int → List Int → Int → Int → Int → Option (List Int)
 | 0,_,_,_,_,_,_,_ => none
 | k + 1,x0,x3,x4,x5,x6,x7,x8 => if x7 ≥ 8 then (if 0 ≤ (IntKind.u64.wrap (wrap64 (x7 - 8))) then (if x5.length < 140737488355328 then (spec_Huff.l1 k x0 x3 x4 (x5 ++ [(shr .i64 x6 (IntKind.u64.wrap (wrap64 (x7 - 8)))) % 256]) (Go.bits .and .i64 x6 (wrap64 ((shl .i64 1 (IntKind.u64.wrap (wrap64 (x7 - 8)))) - 1))) (wrap64 (x7 - 8)) x8) else (none)) else (none)) else (spec_Huff.l0 k x0 x3 x4 x5 x6 x7 (wrap64 (x8 + 1)))
end
def spec_Huff.f (k : Nat) (a0 : ByteArray) : Option (List Int):=(spec_l3Lens.f).bind fun t161 => ((spec_l3Codes.f k).bind fun t164 => (spec_Huff.l0 k a0 t161 t164 (([] : List Int)) 0 0 0))
theorem spec_Huff.mono_l : ∀ k,(∀ y0 y1 y2 y3 y4 y5 y6,LeO (spec_Huff.l0 k y0 y1 y2 y3 y4 y5 y6) (spec_Huff.l0 (k + 1) y0 y1 y2 y3 y4 y5 y6)) ∧ (∀ y0 y1 y2 y3 y4 y5 y6,LeO (spec_Huff.l1 k y0 y1 y2 y3 y4 y5 y6) (spec_Huff.l1 (k + 1) y0 y1 y2 y3 y4 y5 y6))
 | 0 => ⟨fun _ _ _ _ _ _ _ r h => by simp [spec_Huff.l0] at h,fun _ _ _ _ _ _ _ r h => by simp [spec_Huff.l1] at h⟩
 | k + 1 => by
  obtain ⟨ih0,ih1⟩:=spec_Huff.mono_l k
  refine ⟨?_,?_⟩
  ·
   intro y0 y1 y2 y3 y4 y5 y6
   unfold spec_Huff.l0
   repeat' first
   | (with_reducible exact ih0 _ _ _ _ _ _ _)
   | (with_reducible exact ih1 _ _ _ _ _ _ _)
   | (with_reducible exact spec_l3Codes.mono _)
   | (with_reducible exact LeO.refl _)
   | (with_reducible exact LeO.none _)
   | (with_reducible refine LeO.ite ?_ ?_)
   | (with_reducible refine LeO.bind ?_ (fun _ => ?_))
   | exact ih0 _ _ _ _ _ _ _
   | exact ih1 _ _ _ _ _ _ _
   | exact spec_l3Codes.mono _
   | exact LeO.none _
   | refine LeO.ite ?_ ?_
   | refine LeO.bind ?_ (fun _ => ?_)
  ·
   intro y0 y1 y2 y3 y4 y5 y6
   unfold spec_Huff.l1
   repeat' first
   | (with_reducible exact ih0 _ _ _ _ _ _ _)
   | (with_reducible exact ih1 _ _ _ _ _ _ _)
   | (with_reducible exact spec_l3Codes.mono _)
   | (with_reducible exact LeO.refl _)
   | (with_reducible exact LeO.none _)
   | (with_reducible refine LeO.ite ?_ ?_)
   | (with_reducible refine LeO.bind ?_ (fun _ => ?_))
   | exact ih0 _ _ _ _ _ _ _
   | exact ih1 _ _ _ _ _ _ _
   | exact spec_l3Codes.mono _
   | exact LeO.none _
   | refine LeO.ite ?_ ?_
   | refine LeO.bind ?_ (fun _ => ?_)
theorem spec_Huff.mono : ∀ a0 k,LeO (spec_Huff.f k a0) (spec_Huff.f (k + 1) a0):=by
 intro a0 k
 obtain ⟨ih0,ih1⟩:=spec_Huff.mono_l k
 unfold spec_Huff.f
 repeat' first
  | (with_reducible exact ih0 _ _ _ _ _ _ _)
  | (with_reducible exact ih1 _ _ _ _ _ _ _)
  | (with_reducible exact spec_l3Codes.mono _)
  | (with_reducible exact LeO.refl _)
  | (with_reducible exact LeO.none _)
  | (with_reducible refine LeO.ite ?_ ?_)
  | (with_reducible refine LeO.bind ?_ (fun _ => ?_))
  | exact ih0 _ _ _ _ _ _ _
  | exact ih1 _ _ _ _ _ _ _
  | exact spec_l3Codes.mono _
  | exact LeO.none _
  | refine LeO.ite ?_ ?_
  | refine LeO.bind ?_ (fun _ => ?_)
set_option maxHeartbeats 8000000 in
set_option maxRecDepth 100000 in
theorem spec_Huff.calls (k : Nat) (a0 : ByteArray) (r : List Int) (w : World) (h : spec_Huff.f k a0 = some r) :
 Calls Tryz.prog 40 #[.string a0] w fun e w' => ∃ v0_ : Value,e = .returned (v0_) ∧ Kd.R (Kd.int .u8) 5 w' w.heap.size (fun _ => True) v0_ r ∧ Below w.heap.size w w':=by
 have HB:=zm0_ (Below.refl w.heap.size w)
 have H : ((spec_l3Lens.f).bind fun t161 => ((spec_l3Codes.f k).bind fun t164 => (spec_Huff.l0 k a0 t161 t164 (([] : List Int)) 0 0 0))) = some r:=h
 clear h
 replace H:=zq1_ H
 obtain ⟨t161,A20,H⟩:=H
 replace H : ((spec_l3Codes.f k).bind fun t164 => (spec_Huff.l0 k a0 t161 t164 (([] : List Int)) 0 0 0)) = some r:=H
 have A2:=zm0_ A20
 clear A20
 replace H:=zq1_ H
 obtain ⟨t164,A30,H⟩:=H
 replace H : (spec_Huff.l0 k a0 t161 t164 (([] : List Int)) 0 0 0) = some r:=H
 have A3:=zm0_ A30
 clear A30
 obtain ⟨y167,hy167⟩ : ∃ y_ : List Int,y_ = (([] : List Int)):=⟨_,rfl⟩
 replace H : (spec_Huff.l0 k a0 t161 t164 y167 0 0 0) = some r:=by first|(rw [hy167];with_reducible exact H)|(have H2_:=(Option.bind_some _ _).symm.trans H;rw [hy167];with_reducible exact H2_)|(have H2_:=(Option.bind_some _ _).symm.trans H;with_reducible exact H2_)|with_reducible exact H|(rw [hy167];exact H)|exact H
 have Ny167:=zm0_ hy167
 clear hy167
 have H':=zm0_ H
 clear H
 go_enter Tryz.func40,Tryz.ntmps40
 go_wp2_with (first|(go_at_call 50;(with_reducible refine (spec_l3Lens.calls  t161 _ A2.out).mono ?_);rintro e w4 ⟨v162,rfl,ho0,hb⟩;have HO163:=zm0_ (zo1_ ho0 (zn9_ (zl HB)));replace HB:=zm0_ (zn8_ (zl HB) hb);(try clear hb);(try clear hb2);(try clear hk);(try clear hi);(try clear ho0))|(go_at_call 51;(with_reducible refine (spec_l3Codes.calls k  t164 _ A3.out).mono ?_);rintro e w5 ⟨v165,rfl,ho0,hb⟩;have HO166:=zm0_ (zo1_ (Kd.R_new' ho0 (Kd.R_lt (zr HO163))) (zn9_ (zl HB)));replace HO163:=zm0_ (Kd.R_elder' (zr HO163) (Kd.R_base ho0) hb);replace HB:=zm0_ (zn8_ (zl HB) hb);(try clear hb);(try clear hb2);(try clear hk);(try clear hi);(try clear ho0))|((with_reducible refine gate_dst (N:=11) rfl ?_);refine Kd.R_lit (Kd.int .u8) _ 5 ?hg (N:=11) ?hd (xs:=([] : List Int)) (inner:=[]) (ok:=fun _ => True) (okp:=fun _ => True) ?hr ?hp (fun _ hk => hk) trivial (Below.refl _ _) (Nat.le_refl _) (by simp) ?_;(case hd => rfl);(case hg => rfl);(case hr => first|(go_simp;done)|(go_simp;rfl));(case hp => exact (Reps.none _ _));intro v168 w6 ho7 hb hg_ hnew_;clear hg_ hnew_;(first|rw [← Ny167.out] at ho7|(simp only [Int.reduceToNat] at ho7;rw [← Ny167.out] at ho7));replace HO163:=zm0_ (zm8_ (zr HO163) hb);replace HO166:=zm0_ (zm8_ (zr HO166) hb);have HO169:=zm0_ (zo1_ ho7 (zn9_ (zl HB)));replace HB:=zm0_ (zn8_ (zl HB) hb);clear hb ho7))
 repeat (go_quiet (first|(go_at_call 50;(with_reducible refine (spec_l3Lens.calls  t161 _ A2.out).mono ?_);rintro e w4 ⟨v162,rfl,ho0,hb⟩;have HO163:=zm0_ (zo1_ ho0 (zn9_ (zl HB)));replace HB:=zm0_ (zn8_ (zl HB) hb);(try clear hb);(try clear hb2);(try clear hk);(try clear hi);(try clear ho0))|(go_at_call 51;(with_reducible refine (spec_l3Codes.calls k  t164 _ A3.out).mono ?_);rintro e w5 ⟨v165,rfl,ho0,hb⟩;have HO166:=zm0_ (zo1_ (Kd.R_new' ho0 (Kd.R_lt (zr HO163))) (zn9_ (zl HB)));replace HO163:=zm0_ (Kd.R_elder' (zr HO163) (Kd.R_base ho0) hb);replace HB:=zm0_ (zn8_ (zl HB) hb);(try clear hb);(try clear hb2);(try clear hk);(try clear hi);(try clear ho0))|((with_reducible refine gate_dst (N:=11) rfl ?_);refine Kd.R_lit (Kd.int .u8) _ 5 ?hg (N:=11) ?hd (xs:=([] : List Int)) (inner:=[]) (ok:=fun _ => True) (okp:=fun _ => True) ?hr ?hp (fun _ hk => hk) trivial (Below.refl _ _) (Nat.le_refl _) (by simp) ?_;(case hd => rfl);(case hg => rfl);(case hr => first|(go_simp;done)|(go_simp;rfl));(case hp => exact (Reps.none _ _));intro v168 w6 ho7 hb hg_ hnew_;clear hg_ hnew_;(first|rw [← Ny167.out] at ho7|(simp only [Int.reduceToNat] at ho7;rw [← Ny167.out] at ho7));replace HO163:=zm0_ (zm8_ (zr HO163) hb);replace HO166:=zm0_ (zm8_ (zr HO166) hb);have HO169:=zm0_ (zo1_ ho7 (zn9_ (zl HB)));replace HB:=zm0_ (zn8_ (zl HB) hb);clear hb ho7));try go_wp2_with (first|(go_at_call 50;(with_reducible refine (spec_l3Lens.calls  t161 _ A2.out).mono ?_);rintro e w4 ⟨v162,rfl,ho0,hb⟩;have HO163:=zm0_ (zo1_ ho0 (zn9_ (zl HB)));replace HB:=zm0_ (zn8_ (zl HB) hb);(try clear hb);(try clear hb2);(try clear hk);(try clear hi);(try clear ho0))|(go_at_call 51;(with_reducible refine (spec_l3Codes.calls k  t164 _ A3.out).mono ?_);rintro e w5 ⟨v165,rfl,ho0,hb⟩;have HO166:=zm0_ (zo1_ (Kd.R_new' ho0 (Kd.R_lt (zr HO163))) (zn9_ (zl HB)));replace HO163:=zm0_ (Kd.R_elder' (zr HO163) (Kd.R_base ho0) hb);replace HB:=zm0_ (zn8_ (zl HB) hb);(try clear hb);(try clear hb2);(try clear hk);(try clear hi);(try clear ho0))|((with_reducible refine gate_dst (N:=11) rfl ?_);refine Kd.R_lit (Kd.int .u8) _ 5 ?hg (N:=11) ?hd (xs:=([] : List Int)) (inner:=[]) (ok:=fun _ => True) (okp:=fun _ => True) ?hr ?hp (fun _ hk => hk) trivial (Below.refl _ _) (Nat.le_refl _) (by simp) ?_;(case hd => rfl);(case hg => rfl);(case hr => first|(go_simp;done)|(go_simp;rfl));(case hp => exact (Reps.none _ _));intro v168 w6 ho7 hb hg_ hnew_;clear hg_ hnew_;(first|rw [← Ny167.out] at ho7|(simp only [Int.reduceToNat] at ho7;rw [← Ny167.out] at ho7));replace HO163:=zm0_ (zm8_ (zr HO163) hb);replace HO166:=zm0_ (zm8_ (zr HO166) hb);have HO169:=zm0_ (zo1_ ho7 (zn9_ (zl HB)));replace HB:=zm0_ (zn8_ (zl HB) hb);clear hb ho7)))
 go_loopg [5,6,7,8] k (fun kq v5 v6 v7 v8 w' => ∃ (x5_1 : List Int) (x6_1 : Int) (x7_1 : Int) (x8_1 : Int),v6 = .int .i64 x6_1 ∧ v7 = .int .i64 x7_1 ∧ v8 = .int .i64 x8_1 ∧ Aside0 (spec_Huff.l0 kq a0 t161 t164 x5_1 x6_1 x7_1 x8_1 = some r) ∧ Aside0 (kq ≤ k) ∧ Aside0 (Kd.R (Kd.int .i64) 3 w' w.heap.size (fun k_ => some k_ ≠ (v165 : Value).ownBlock) v162 t161) ∧ Aside0 (Kd.R (Kd.int .i64) 3 w' w.heap.size (fun k_ => some k_ ≠ (v162 : Value).ownBlock) v165 t164) ∧ Aside0 (Kd.R (Kd.int .u8) 5 w' w.heap.size (fun _ => True) v5 x5_1) ∧ Aside0 (Below w.heap.size w w'))
 case atStart => exact ⟨(y167),(0),(0),(0),zz,zz,zz,H',⟨Nat.le_refl _⟩,⟨by (with_reducible repeat (first|apply k1_|apply k2_|apply k3_));exact zo2_ HO163.out (fun _ hk => (by first|exact hk.2|(have hq_:=hk;simp only [ne_eq] at hq_ ⊢;simp only [hq_,not_false_eq_true,and_self])))⟩,⟨by (with_reducible repeat (first|apply k1_|apply k2_|apply k3_));exact zo2_ HO166.out (fun _ hk => (by first|exact hk.2|(have hq_:=hk;simp only [ne_eq] at hq_ ⊢;simp only [hq_,not_false_eq_true,and_self])))⟩,⟨zr HO169⟩,⟨zl HB⟩⟩
 case round =>
  clear H'
  try clear p2
  try clear c4
  obtain ⟨x5_1,x6_1,x7_1,x8_1,rfl,rfl,rfl,HA,HK1,HO_3,HO_4,HO_5,HB⟩:=hrel
  cases gk with
  | zero => exact absurd HA.out (by simp [spec_Huff.l0])
  | succ k1 =>
   have H:=HA.out
   clear HA
   simp only [spec_Huff.l0] at H
   by_cases c8 : x8_1 < (a0.size : Int)
   ·
    rw [if_pos c8] at H
    have c8b0 : decide (x8_1 < (a0.size : Int)) = true:=decide_eq_true c8
    clear c8
    by_cases c9 : 0 ≤ x8_1
    ·
     rw [if_pos c9] at H
     have c9b0 : decide (0 ≤ x8_1) = true:=decide_eq_true c9
     clear c9
     by_cases c11 : 0 ≤ (bt a0 x8_1)
     ·
      rw [if_pos c11] at H
      have c11b0 : decide (0 ≤ (bt a0 x8_1)) = true:=decide_eq_true c11
      clear c11
      by_cases c12 : (bt a0 x8_1) < (t161.length : Int)
      ·
       rw [if_pos c12] at H
       have c12b0 : decide ((bt a0 x8_1) < (t161.length : Int)) = true:=decide_eq_true c12
       clear c12
       obtain ⟨ji13,hji13⟩ : ∃ j_ : Int,(IntKind.u64.wrap (rd t161 (bt a0 x8_1))) = j_:=⟨_,rfl⟩
       replace H : (if 0 ≤ (ji13) then (if (bt a0 x8_1) < (t164.length : Int) then (spec_Huff.l1 k1 a0 t161 t164 x5_1 (Go.bits .or .i64 (shl .i64 x6_1 (ji13)) (rd t164 (bt a0 x8_1))) (wrap64 (x7_1 + (rd t161 (bt a0 x8_1)))) x8_1) else (none)) else (none)) = some r:=by first|(rw [hji13] at H;exact H)|(simp only [hji13] at H ⊢;exact H)
       by_cases c14 : 0 ≤ (ji13)
       ·
        rw [if_pos c14] at H
        have c14b0:=eq_true c14
        have c14b1 : decide (0 ≤ (ji13)) = true:=decide_eq_true c14
        clear c14
        obtain ⟨ji15,hji15⟩ : ∃ j_ : Int,(shl .i64 x6_1 (ji13)) = j_:=⟨_,rfl⟩
        replace H : (if (bt a0 x8_1) < (t164.length : Int) then (spec_Huff.l1 k1 a0 t161 t164 x5_1 (Go.bits .or .i64 (ji15) (rd t164 (bt a0 x8_1))) (wrap64 (x7_1 + (rd t161 (bt a0 x8_1)))) x8_1) else (none)) = some r:=by first|(rw [hji15] at H;exact H)|(simp only [hji15] at H ⊢;exact H)
        have hji15_ : (IntKind.i64.wrap (x6_1 * 2 ^ min (ji13).toNat 64)) = ji15:=hji15
        have hji15z : (ji13) ≤ 64 → (IntKind.i64.wrap (x6_1 * 2 ^ (ji13).toNat)) = ji15:=shl_small hji15
        have hji15y : (wrap64 (x6_1 * 2 ^ min (ji13).toNat 64)) = ji15:=(i64_w _).symm.trans hji15_
        have hji15x : (ji13) ≤ 64 → (wrap64 (x6_1 * 2 ^ (ji13).toNat)) = ji15:=fun h_ => (i64_w _).symm.trans (hji15z h_)
        by_cases c17 : (bt a0 x8_1) < (t164.length : Int)
        ·
         rw [if_pos c17] at H
         have c17b0 : decide ((bt a0 x8_1) < (t164.length : Int)) = true:=decide_eq_true c17
         clear c17
         have H':=zm0_ H
         clear H
         have p10 : 0 ≤ (x8_1 : Int):=of_decide_eq_true (by first|(with_reducible assumption)|assumption)
         have q10 : x8_1 < (a0.size : Int):=of_decide_eq_true (by first|(with_reducible assumption)|assumption)
         have hx10:=bt_at a0 x8_1
         replace p10:=eq_true p10
         replace q10:=eq_true q10
         obtain ⟨Ao19,co19,eo19⟩:=Kd.R_slice HO_3.out
         subst eo19
         have p170 : 0 ≤ ((bt a0 x8_1) : Int):=of_decide_eq_true (by first|(with_reducible assumption)|assumption)
         have q170 : (bt a0 x8_1) < (t161.length : Int):=of_decide_eq_true (by first|(with_reducible assumption)|assumption)
         obtain ⟨ad170,e170,hx170_0⟩:=Kd.at_int (Kd.R_reads' HO_3.out).2.2 (bt a0 x8_1) p170 q170
         cases e170
         replace p170:=eq_true p170
         replace q170:=eq_true q170
         have p16 : 0 ≤ (x8_1 : Int):=of_decide_eq_true (by first|(with_reducible assumption)|assumption)
         have q16 : x8_1 < (a0.size : Int):=of_decide_eq_true (by first|(with_reducible assumption)|assumption)
         have hx16:=bt_at a0 x8_1
         replace p16:=eq_true p16
         replace q16:=eq_true q16
         obtain ⟨Ao20,co20,eo20⟩:=Kd.R_slice HO_4.out
         subst eo20
         have p171 : 0 ≤ ((bt a0 x8_1) : Int):=of_decide_eq_true (by first|(with_reducible assumption)|assumption)
         have q171 : (bt a0 x8_1) < (t164.length : Int):=of_decide_eq_true (by first|(with_reducible assumption)|assumption)
         obtain ⟨ad171,e171,hx171_0⟩:=Kd.at_int (Kd.R_reads' HO_4.out).2.2 (bt a0 x8_1) p171 q171
         cases e171
         replace p171:=eq_true p171
         replace q171:=eq_true q171
         have p18 : 0 ≤ (x8_1 : Int):=of_decide_eq_true (by first|(with_reducible assumption)|assumption)
         have q18 : x8_1 < (a0.size : Int):=of_decide_eq_true (by first|(with_reducible assumption)|assumption)
         have hx18:=bt_at a0 x8_1
         replace p18:=eq_true p18
         replace q18:=eq_true q18
         have p172 : 0 ≤ ((bt a0 x8_1) : Int):=of_decide_eq_true (by first|(with_reducible assumption)|assumption)
         have q172 : (bt a0 x8_1) < (t161.length : Int):=of_decide_eq_true (by first|(with_reducible assumption)|assumption)
         obtain ⟨ad172,e172,hx172_0⟩:=Kd.at_int (Kd.R_reads' HO_3.out).2.2 (bt a0 x8_1) p172 q172
         obtain rfl : ad170 = ad172:=(by injection e172)
         replace p172:=eq_true p172
         replace q172:=eq_true q172
         go_wp2
         repeat (go_quiet (fail);try go_wp2)
         go_loopg [5,6,7] k1 (fun kq v5 v6 v7 w' => ∃ (x5_2 : List Int) (x6_2 : Int) (x7_2 : Int),v6 = .int .i64 x6_2 ∧ v7 = .int .i64 x7_2 ∧ Aside0 (spec_Huff.l1 kq a0 t161 t164 x5_2 x6_2 x7_2 x8_1 = some r) ∧ Aside0 (kq ≤ k1) ∧ Aside0 (Kd.R (Kd.int .i64) 3 w' w.heap.size (fun k_ => some k_ ≠ ((.slice (some ad171) t164.length co20) : Value).ownBlock) (.slice (some ad170) t161.length co19) t161) ∧ Aside0 (Kd.R (Kd.int .i64) 3 w' w.heap.size (fun k_ => some k_ ≠ ((.slice (some ad170) t161.length co19) : Value).ownBlock) (.slice (some ad171) t164.length co20) t164) ∧ Aside0 (Kd.R (Kd.int .u8) 5 w' w.heap.size (fun _ => True) v5 x5_2) ∧ Aside0 (Below w.heap.size w w'))
         case atStart => exact ⟨(x5_1),(Go.bits .or .i64 (ji15) (rd t164 (bt a0 x8_1))),(wrap64 (x7_1 + (rd t161 (bt a0 x8_1)))),(by first|rfl|(simp;done)|(simp only [← hji15] <;> (first|rfl|simp))|(simp [*];done)),zz,H',⟨Nat.le_refl _⟩,⟨zr HO_3⟩,⟨zr HO_4⟩,⟨zr HO_5⟩,⟨zl HB⟩⟩
         case round =>
          clear H'
          try clear c1
          try clear p1
          try clear q1
          try clear hx1
          try clear p2
          try clear c4
          try clear p6
          try clear c8
          try clear c8b0
          try clear c9
          try clear c9b0
          try clear p10
          try clear q10
          try clear hx10
          try clear c11
          try clear c11b0
          try clear c12
          try clear c12b0
          try clear c14
          try clear c14b0
          try clear c14b1
          try clear p16
          try clear q16
          try clear hx16
          try clear c17
          try clear c17b0
          try clear p17
          try clear q17
          try clear hx17
          try clear p18
          try clear q18
          try clear hx18
          try clear hx170_0
          try clear hx171_0
          try clear hx172_0
          try clear p10
          try clear p16
          try clear p170
          try clear p171
          try clear p172
          try clear p18
          try clear p2
          try clear q10
          try clear q16
          try clear q170
          try clear q171
          try clear q172
          try clear q18
          obtain ⟨x5_2,x6_2,x7_2,rfl,rfl,HA,HK2,HO_3,HO_4,HO_5,HB⟩:=hrel
          cases gk with
          | zero => exact absurd HA.out (by simp [spec_Huff.l1])
          | succ k2 =>
           have H:=HA.out
           clear HA
           simp only [spec_Huff.l1] at H
           by_cases c21 : x7_2 ≥ 8
           ·
            rw [if_pos c21] at H
            have c21b0 : decide (8 ≤ x7_2) = true:=decide_eq_true c21
            clear c21
            obtain ⟨ji22,hji22⟩ : ∃ j_ : Int,(IntKind.u64.wrap (wrap64 (x7_2 - 8))) = j_:=⟨_,rfl⟩
            replace H : (if 0 ≤ (ji22) then (if x5_2.length < 140737488355328 then (spec_Huff.l1 k2 a0 t161 t164 (x5_2 ++ [(shr .i64 x6_2 (ji22)) % 256]) (Go.bits .and .i64 x6_2 (wrap64 ((shl .i64 1 (ji22)) - 1))) (wrap64 (x7_2 - 8)) x8_1) else (none)) else (none)) = some r:=by first|(rw [hji22] at H;exact H)|(simp only [hji22] at H ⊢;exact H)
            by_cases c23 : 0 ≤ (ji22)
            ·
             rw [if_pos c23] at H
             have c23b0:=eq_true c23
             have c23b1 : decide (0 ≤ (ji22)) = true:=decide_eq_true c23
             clear c23
             obtain ⟨ji24,hji24⟩ : ∃ j_ : Int,(shr .i64 x6_2 (ji22)) = j_:=⟨_,rfl⟩
             replace H : (if x5_2.length < 140737488355328 then (spec_Huff.l1 k2 a0 t161 t164 (x5_2 ++ [(ji24) % 256]) (Go.bits .and .i64 x6_2 (wrap64 ((shl .i64 1 (ji22)) - 1))) (wrap64 (x7_2 - 8)) x8_1) else (none)) = some r:=by first|(rw [hji24] at H;exact H)|(simp only [hji24] at H ⊢;exact H)
             have hji24_ : (x6_2 / 2 ^ min (ji22).toNat 64) = ji24:=hji24
             have hji24z : (ji22) ≤ 64 → (x6_2 / 2 ^ (ji22).toNat) = ji24:=shr_small hji24
             by_cases c25 : x5_2.length < 140737488355328
             ·
              rw [if_pos c25] at H
              have LMc25:=zm0_ c25
              clear c25
              obtain ⟨y173,hy173⟩ : ∃ y_ : List Int,y_ = (x5_2 ++ [(ji24) % 256]):=⟨_,rfl⟩
              replace H : (spec_Huff.l1 k2 a0 t161 t164 y173 (Go.bits .and .i64 x6_2 (wrap64 ((shl .i64 1 (ji22)) - 1))) (wrap64 (x7_2 - 8)) x8_1) = some r:=by first|(rw [hy173];with_reducible exact H)|(have H2_:=(Option.bind_some _ _).symm.trans H;rw [hy173];with_reducible exact H2_)|(have H2_:=(Option.bind_some _ _).symm.trans H;with_reducible exact H2_)|with_reducible exact H|(rw [hy173];exact H)|exact H
              have Ny173:=zm0_ hy173
              clear hy173
              have c26b0:=eq_true (of_decide_eq_true (by first|(with_reducible assumption)|assumption) : 0 ≤ (ji22))
              obtain ⟨ji27,hji27⟩ : ∃ j_ : Int,(shl .i64 1 (ji22)) = j_:=⟨_,rfl⟩
              replace H : (spec_Huff.l1 k2 a0 t161 t164 y173 (Go.bits .and .i64 x6_2 (wrap64 ((ji27) - 1))) (wrap64 (x7_2 - 8)) x8_1) = some r:=by first|(rw [hji27] at H;exact H)|(simp only [hji27] at H ⊢;exact H)
              have hji27_ : (IntKind.i64.wrap (1 * 2 ^ min (ji22).toNat 64)) = ji27:=hji27
              have hji27z : (ji22) ≤ 64 → (IntKind.i64.wrap (1 * 2 ^ (ji22).toNat)) = ji27:=shl_small hji27
              have hji27u : (IntKind.i64.wrap (2 ^ min (ji22).toNat 64)) = ji27:=by have h_:=hji27_;rw [Int.one_mul] at h_;exact h_
              have hji27v : (ji22) ≤ 64 → (IntKind.i64.wrap (2 ^ (ji22).toNat)) = ji27:=fun hle_ => by have h_:=hji27z hle_;rw [Int.one_mul] at h_;exact h_
              have hji27y : (wrap64 (1 * 2 ^ min (ji22).toNat 64)) = ji27:=(i64_w _).symm.trans hji27_
              have hji27x : (ji22) ≤ 64 → (wrap64 (1 * 2 ^ (ji22).toNat)) = ji27:=fun h_ => (i64_w _).symm.trans (hji27z h_)
              have H':=zm0_ H
              clear H
              go_wp2_with (first|((with_reducible refine gate_builtin (b:=.append) (xs:=#[.tmp 46,.tmp 52]) rfl ?_);at_builtin;refine Kd.R_append (Kd.int .u8) (w0:=w) w.heap.size rfl (.tmp 46) (.tmp 52) 29 5 (.int .u8 0) 1 rfl Tryz.underlying29 info5 rfl (by decide) (by omega) u5 x5_2 ((ji24) % 256) [.int .u8 ((ji24) % 256)] (fun _ => True) (fun _ => False) rfl rfl ?aP (fun _ hk => hk.elim) ?aF ?aO ?aB ?aS ?aL ?_;(case aP => exact rfl);(case aB => exact (zl HB));(case aF => exact (fun _ _ => trivial));(case aO => exact (zr HO_5));(case aS => exact (zn9_ (zl HB)));(case aL => have:=LMc25.out;omega);intro v174 w28 ho hb hg hat;(first|(with_reducible rw [← Ny173.out] at ho)|(simp only [Int.reduceToNat] at ho;with_reducible rw [← Ny173.out] at ho)|rw [← Ny173.out] at ho);replace HO_3:=zm0_ (Kd.R_over' (zr HO_3) (Kd.R_typed (zr HO_5)) (by decide) hg);replace HO_4:=zm0_ (Kd.R_over' (zr HO_4) (Kd.R_typed (zr HO_5)) (by decide) hg);replace HB:=zm0_ (hb);have HO175:=zm0_ (ho);clear HO_5;clear ho hb hg hat))
              repeat (go_quiet (first|((with_reducible refine gate_builtin (b:=.append) (xs:=#[.tmp 46,.tmp 52]) rfl ?_);at_builtin;refine Kd.R_append (Kd.int .u8) (w0:=w) w.heap.size rfl (.tmp 46) (.tmp 52) 29 5 (.int .u8 0) 1 rfl Tryz.underlying29 info5 rfl (by decide) (by omega) u5 x5_2 ((ji24) % 256) [.int .u8 ((ji24) % 256)] (fun _ => True) (fun _ => False) rfl rfl ?aP (fun _ hk => hk.elim) ?aF ?aO ?aB ?aS ?aL ?_;(case aP => exact rfl);(case aB => exact (zl HB));(case aF => exact (fun _ _ => trivial));(case aO => exact (zr HO_5));(case aS => exact (zn9_ (zl HB)));(case aL => have:=LMc25.out;omega);intro v174 w28 ho hb hg hat;(first|(with_reducible rw [← Ny173.out] at ho)|(simp only [Int.reduceToNat] at ho;with_reducible rw [← Ny173.out] at ho)|rw [← Ny173.out] at ho);replace HO_3:=zm0_ (Kd.R_over' (zr HO_3) (Kd.R_typed (zr HO_5)) (by decide) hg);replace HO_4:=zm0_ (Kd.R_over' (zr HO_4) (Kd.R_typed (zr HO_5)) (by decide) hg);replace HB:=zm0_ (hb);have HO175:=zm0_ (ho);clear HO_5;clear ho hb hg hat));try go_wp2_with (first|((with_reducible refine gate_builtin (b:=.append) (xs:=#[.tmp 46,.tmp 52]) rfl ?_);at_builtin;refine Kd.R_append (Kd.int .u8) (w0:=w) w.heap.size rfl (.tmp 46) (.tmp 52) 29 5 (.int .u8 0) 1 rfl Tryz.underlying29 info5 rfl (by decide) (by omega) u5 x5_2 ((ji24) % 256) [.int .u8 ((ji24) % 256)] (fun _ => True) (fun _ => False) rfl rfl ?aP (fun _ hk => hk.elim) ?aF ?aO ?aB ?aS ?aL ?_;(case aP => exact rfl);(case aB => exact (zl HB));(case aF => exact (fun _ _ => trivial));(case aO => exact (zr HO_5));(case aS => exact (zn9_ (zl HB)));(case aL => have:=LMc25.out;omega);intro v174 w28 ho hb hg hat;(first|(with_reducible rw [← Ny173.out] at ho)|(simp only [Int.reduceToNat] at ho;with_reducible rw [← Ny173.out] at ho)|rw [← Ny173.out] at ho);replace HO_3:=zm0_ (Kd.R_over' (zr HO_3) (Kd.R_typed (zr HO_5)) (by decide) hg);replace HO_4:=zm0_ (Kd.R_over' (zr HO_4) (Kd.R_typed (zr HO_5)) (by decide) hg);replace HB:=zm0_ (hb);have HO175:=zm0_ (ho);clear HO_5;clear ho hb hg hat)))
              go_roundg k2
              case measure => have:=HK1.out;have:=HK2.out;omega
              case rel => exact ⟨(y173),(Go.bits .and .i64 x6_2 (wrap64 ((ji27) - 1))),(wrap64 (x7_2 - 8)),(by first|rfl|(simp;done)|(simp only [← hji27] <;> (first|rfl|simp))|(simp [*];done)),zz,H',⟨by have:=HK1.out;have:=HK2.out;omega⟩,⟨zr HO_3⟩,⟨zr HO_4⟩,⟨zr HO175⟩,⟨zl HB⟩⟩
             ·
              rw [if_neg c25] at H
              exact absurd H (by simp)
            ·
             rw [if_neg c23] at H
             exact absurd H (by simp)
           ·
            rw [if_neg c21] at H
            have c21b0 : decide (8 ≤ x7_2) = false:=decide_eq_false c21
            clear c21
            have H':=zm0_ H
            clear H
            go_wp2
            repeat (go_quiet (fail);try go_wp2)
            go_roundg k2
            case measure => have:=HK1.out;have:=HK2.out;omega
            case rel => exact ⟨(x5_2),(x6_2),(x7_2),(wrap64 (x8_1 + 1)),zz,zz,zz,H',⟨by have:=HK1.out;have:=HK2.out;omega⟩,⟨zr HO_3⟩,⟨zr HO_4⟩,⟨zr HO_5⟩,⟨zl HB⟩⟩
        ·
         rw [if_neg c17] at H
         exact absurd H (by simp)
       ·
        rw [if_neg c14] at H
        exact absurd H (by simp)
      ·
       rw [if_neg c12] at H
       exact absurd H (by simp)
     ·
      rw [if_neg c11] at H
      exact absurd H (by simp)
    ·
     rw [if_neg c9] at H
     exact absurd H (by simp)
   ·
    rw [if_neg c8] at H
    have c8b0 : decide (x8_1 < (a0.size : Int)) = false:=decide_eq_false c8
    clear c8
    by_cases c29 : x7_1 > 0
    ·
     rw [if_pos c29] at H
     have c29b0 : decide (0 < x7_1) = true:=decide_eq_true c29
     clear c29
     obtain ⟨ji30,hji30⟩ : ∃ j_ : Int,(IntKind.u64.wrap (wrap64 (8 - x7_1))) = j_:=⟨_,rfl⟩
     replace H : (if 0 ≤ (ji30) then (if x5_1.length < 140737488355328 then (some (x5_1 ++ [(Go.bits .or .i64 (shl .i64 x6_1 (ji30)) (wrap64 ((shl .i64 1 (ji30)) - 1))) % 256])) else (none)) else (none)) = some r:=by first|(rw [hji30] at H;exact H)|(simp only [hji30] at H ⊢;exact H)
     by_cases c31 : 0 ≤ (ji30)
     ·
      rw [if_pos c31] at H
      have c31b0:=eq_true c31
      have c31b1 : decide (0 ≤ (ji30)) = true:=decide_eq_true c31
      clear c31
      obtain ⟨ji32,hji32⟩ : ∃ j_ : Int,(shl .i64 x6_1 (ji30)) = j_:=⟨_,rfl⟩
      replace H : (if x5_1.length < 140737488355328 then (some (x5_1 ++ [(Go.bits .or .i64 (ji32) (wrap64 ((shl .i64 1 (ji30)) - 1))) % 256])) else (none)) = some r:=by first|(rw [hji32] at H;exact H)|(simp only [hji32] at H ⊢;exact H)
      have hji32_ : (IntKind.i64.wrap (x6_1 * 2 ^ min (ji30).toNat 64)) = ji32:=hji32
      have hji32z : (ji30) ≤ 64 → (IntKind.i64.wrap (x6_1 * 2 ^ (ji30).toNat)) = ji32:=shl_small hji32
      have hji32y : (wrap64 (x6_1 * 2 ^ min (ji30).toNat 64)) = ji32:=(i64_w _).symm.trans hji32_
      have hji32x : (ji30) ≤ 64 → (wrap64 (x6_1 * 2 ^ (ji30).toNat)) = ji32:=fun h_ => (i64_w _).symm.trans (hji32z h_)
      have c33b0:=eq_true (of_decide_eq_true (by first|(with_reducible assumption)|assumption) : 0 ≤ (ji30))
      obtain ⟨ji34,hji34⟩ : ∃ j_ : Int,(shl .i64 1 (ji30)) = j_:=⟨_,rfl⟩
      replace H : (if x5_1.length < 140737488355328 then (some (x5_1 ++ [(Go.bits .or .i64 (ji32) (wrap64 ((ji34) - 1))) % 256])) else (none)) = some r:=by first|(rw [hji34] at H;exact H)|(simp only [hji34] at H ⊢;exact H)
      have hji34_ : (IntKind.i64.wrap (1 * 2 ^ min (ji30).toNat 64)) = ji34:=hji34
      have hji34z : (ji30) ≤ 64 → (IntKind.i64.wrap (1 * 2 ^ (ji30).toNat)) = ji34:=shl_small hji34
      have hji34u : (IntKind.i64.wrap (2 ^ min (ji30).toNat 64)) = ji34:=by have h_:=hji34_;rw [Int.one_mul] at h_;exact h_
      have hji34v : (ji30) ≤ 64 → (IntKind.i64.wrap (2 ^ (ji30).toNat)) = ji34:=fun hle_ => by have h_:=hji34z hle_;rw [Int.one_mul] at h_;exact h_
      have hji34y : (wrap64 (1 * 2 ^ min (ji30).toNat 64)) = ji34:=(i64_w _).symm.trans hji34_
      have hji34x : (ji30) ≤ 64 → (wrap64 (1 * 2 ^ (ji30).toNat)) = ji34:=fun h_ => (i64_w _).symm.trans (hji34z h_)
      by_cases c35 : x5_1.length < 140737488355328
      ·
       rw [if_pos c35] at H
       have LMc35:=zm0_ c35
       clear c35
       obtain ⟨y176,hy176⟩ : ∃ y_ : List Int,y_ = (x5_1 ++ [(Go.bits .or .i64 (ji32) (wrap64 ((ji34) - 1))) % 256]):=⟨_,rfl⟩
       replace H : (some y176) = some r:=by first|(rw [hy176];with_reducible exact H)|(have H2_:=(Option.bind_some _ _).symm.trans H;rw [hy176];with_reducible exact H2_)|(have H2_:=(Option.bind_some _ _).symm.trans H;with_reducible exact H2_)|with_reducible exact H|(rw [hy176];exact H)|exact H
       have Ny176:=zm0_ hy176
       clear hy176
       obtain rfl:=Option.some.inj H
       go_wp2_with (first|((with_reducible refine gate_builtin (b:=.append) (xs:=#[.tmp 62,.tmp 75]) rfl ?_);at_builtin;refine Kd.R_append (Kd.int .u8) (w0:=w) w.heap.size rfl (.tmp 62) (.tmp 75) 29 5 (.int .u8 0) 1 rfl Tryz.underlying29 info5 rfl (by decide) (by omega) u5 x5_1 ((Go.bits .or .i64 (ji32) (wrap64 ((ji34) - 1))) % 256) [.int .u8 ((Go.bits .or .i64 (ji32) (wrap64 ((ji34) - 1))) % 256)] (fun _ => True) (fun _ => False) rfl rfl ?aP (fun _ hk => hk.elim) ?aF ?aO ?aB ?aS ?aL ?_;(case aP => exact rfl);(case aB => exact (zl HB));(case aF => exact (fun _ _ => trivial));(case aO => exact (zr HO_5));(case aS => exact (zn9_ (zl HB)));(case aL => have:=LMc35.out;omega);intro v177 w36 ho hb hg hat;(first|(with_reducible rw [← Ny176.out] at ho)|(simp only [Int.reduceToNat] at ho;with_reducible rw [← Ny176.out] at ho)|rw [← Ny176.out] at ho);replace HO_3:=zm0_ (Kd.R_over' (zr HO_3) (Kd.R_typed (zr HO_5)) (by decide) hg);replace HO_4:=zm0_ (Kd.R_over' (zr HO_4) (Kd.R_typed (zr HO_5)) (by decide) hg);replace HB:=zm0_ (hb);have HO178:=zm0_ (ho);clear HO_5;clear ho hb hg hat))
       repeat (go_quiet (first|((with_reducible refine gate_builtin (b:=.append) (xs:=#[.tmp 62,.tmp 75]) rfl ?_);at_builtin;refine Kd.R_append (Kd.int .u8) (w0:=w) w.heap.size rfl (.tmp 62) (.tmp 75) 29 5 (.int .u8 0) 1 rfl Tryz.underlying29 info5 rfl (by decide) (by omega) u5 x5_1 ((Go.bits .or .i64 (ji32) (wrap64 ((ji34) - 1))) % 256) [.int .u8 ((Go.bits .or .i64 (ji32) (wrap64 ((ji34) - 1))) % 256)] (fun _ => True) (fun _ => False) rfl rfl ?aP (fun _ hk => hk.elim) ?aF ?aO ?aB ?aS ?aL ?_;(case aP => exact rfl);(case aB => exact (zl HB));(case aF => exact (fun _ _ => trivial));(case aO => exact (zr HO_5));(case aS => exact (zn9_ (zl HB)));(case aL => have:=LMc35.out;omega);intro v177 w36 ho hb hg hat;(first|(with_reducible rw [← Ny176.out] at ho)|(simp only [Int.reduceToNat] at ho;with_reducible rw [← Ny176.out] at ho)|rw [← Ny176.out] at ho);replace HO_3:=zm0_ (Kd.R_over' (zr HO_3) (Kd.R_typed (zr HO_5)) (by decide) hg);replace HO_4:=zm0_ (Kd.R_over' (zr HO_4) (Kd.R_typed (zr HO_5)) (by decide) hg);replace HB:=zm0_ (hb);have HO178:=zm0_ (ho);clear HO_5;clear ho hb hg hat));try go_wp2_with (first|((with_reducible refine gate_builtin (b:=.append) (xs:=#[.tmp 62,.tmp 75]) rfl ?_);at_builtin;refine Kd.R_append (Kd.int .u8) (w0:=w) w.heap.size rfl (.tmp 62) (.tmp 75) 29 5 (.int .u8 0) 1 rfl Tryz.underlying29 info5 rfl (by decide) (by omega) u5 x5_1 ((Go.bits .or .i64 (ji32) (wrap64 ((ji34) - 1))) % 256) [.int .u8 ((Go.bits .or .i64 (ji32) (wrap64 ((ji34) - 1))) % 256)] (fun _ => True) (fun _ => False) rfl rfl ?aP (fun _ hk => hk.elim) ?aF ?aO ?aB ?aS ?aL ?_;(case aP => exact rfl);(case aB => exact (zl HB));(case aF => exact (fun _ _ => trivial));(case aO => exact (zr HO_5));(case aS => exact (zn9_ (zl HB)));(case aL => have:=LMc35.out;omega);intro v177 w36 ho hb hg hat;(first|(with_reducible rw [← Ny176.out] at ho)|(simp only [Int.reduceToNat] at ho;with_reducible rw [← Ny176.out] at ho)|rw [← Ny176.out] at ho);replace HO_3:=zm0_ (Kd.R_over' (zr HO_3) (Kd.R_typed (zr HO_5)) (by decide) hg);replace HO_4:=zm0_ (Kd.R_over' (zr HO_4) (Kd.R_typed (zr HO_5)) (by decide) hg);replace HB:=zm0_ (hb);have HO178:=zm0_ (ho);clear HO_5;clear ho hb hg hat)))
       go_ret
       exact ⟨_,by first|rfl|(simp [errW_none,errW_some] <;> rfl)|(simp only [← hji30,← hji32,← hji34];first|rfl|(simp [errW_none,errW_some] <;> rfl))|(simp [*,errW_none,errW_some] <;> rfl),by (with_reducible repeat (first|apply k1_|apply k2_|apply k3_));exact HO178.out,by repeat (first|(with_reducible first|exact HB.out|apply zm3_|apply zm2_|apply zm4_)|exact HB.out)⟩
      ·
       rw [if_neg c35] at H
       exact absurd H (by simp)
     ·
      rw [if_neg c31] at H
      exact absurd H (by simp)
    ·
     rw [if_neg c29] at H
     have c29b0 : decide (0 < x7_1) = false:=decide_eq_false c29
     clear c29
     obtain rfl:=Option.some.inj H
     go_wp2
     repeat (go_quiet (fail);try go_wp2)
     go_ret
     exact ⟨_,ze,by (with_reducible repeat (first|apply k1_|apply k2_|apply k3_));exact HO_5.out,by repeat (first|(with_reducible first|exact HB.out|apply zm3_|apply zm2_|apply zm4_)|exact HB.out)⟩
end Go.Proofs.YthflimnpiglgbaaGreatDoor.A
end
section
namespace Go.Proofs.YthflimnpiglgbaaGreatDoor.A
open Go.RowKit Go.Proofs.YthflimnpiglgbaaGreatDoorW.PrintWords Go.Proofs.YthflimnpiglgbaaGreatDoorW.PrintLast Go.Proofs.YthflimnpiglgbaaGreatDoorW.PrintMore
attribute [local go_sem] max2_int min2_int max_two min_two max_three min_three max_four min_four   -- for this text's walks alone
set_option linter.unusedVariables false
set_option linter.unusedSimpArgs false

def spec_PutString.f (k : Nat) (l0 : List Int) (a1 : ByteArray) : Option (List Int):=(spec_Huff.f k a1).bind fun t179 => (if (t179.length : Int) < (a1.size : Int) then ((spec_PutPrefix.f k l0 7 128 (t179.length : Int)).bind fun t182 => (if t182.length + t179.length < 140737488355328 then (some (t182 ++ t179)) else (none))) else ((spec_PutPrefix.f k l0 7 0 (a1.size : Int)).bind fun t188 => (if t188.length + a1.size < 140737488355328 then (some (t188 ++ bytesOf a1)) else (none))))
theorem spec_PutString.mono : ∀ a0 a1 k,LeO (spec_PutString.f k a0 a1) (spec_PutString.f (k + 1) a0 a1):=by
 intro a0 a1 k
 unfold spec_PutString.f
 repeat' first
  | (with_reducible exact spec_Huff.mono _ _)
  | (with_reducible exact spec_PutPrefix.mono _ _ _ _ _)
  | (with_reducible exact LeO.refl _)
  | (with_reducible exact LeO.none _)
  | (with_reducible refine LeO.ite ?_ ?_)
  | (with_reducible refine LeO.bind ?_ (fun _ => ?_))
  | exact spec_Huff.mono _ _
  | exact spec_PutPrefix.mono _ _ _ _ _
  | exact LeO.none _
  | refine LeO.ite ?_ ?_
  | refine LeO.bind ?_ (fun _ => ?_)
set_option maxHeartbeats 8000000 in
set_option maxRecDepth 100000 in
theorem spec_PutString.calls (k : Nat) (A0 : Option Addr) (c0 : Nat) (l0 : List Int) (a1 : ByteArray) (r : List Int) (w : World) (hr0 : Kd.C (Kd.int .u8) w A0 l0.length l0) (hc0 : l0.length ≤ c0) (h : spec_PutString.f k l0 a1 = some r) :
 Calls Tryz.prog 29 #[.slice A0 l0.length c0,.string a1] w fun e w' => ∃ v0_ : Value,e = .returned (v0_) ∧ Kd.R (Kd.int .u8) 5 w' w.heap.size (fun _ => True) v0_ r ∧ Below w.heap.size w w':=by
 have HR0:=zm0_ hr0
 have HC0:=zm0_ hc0
 clear hr0 hc0
 have HB:=zm0_ (Below.refl w.heap.size w)
 have H : ((spec_Huff.f k a1).bind fun t179 => (if (t179.length : Int) < (a1.size : Int) then ((spec_PutPrefix.f k l0 7 128 (t179.length : Int)).bind fun t182 => (if t182.length + t179.length < 140737488355328 then (some (t182 ++ t179)) else (none))) else ((spec_PutPrefix.f k l0 7 0 (a1.size : Int)).bind fun t188 => (if t188.length + a1.size < 140737488355328 then (some (t188 ++ bytesOf a1)) else (none))))) = some r:=h
 clear h
 replace H:=zq1_ H
 obtain ⟨t179,A30,H⟩:=H
 replace H : (if (t179.length : Int) < (a1.size : Int) then ((spec_PutPrefix.f k l0 7 128 (t179.length : Int)).bind fun t182 => (if t182.length + t179.length < 140737488355328 then (some (t182 ++ t179)) else (none))) else ((spec_PutPrefix.f k l0 7 0 (a1.size : Int)).bind fun t188 => (if t188.length + a1.size < 140737488355328 then (some (t188 ++ bytesOf a1)) else (none)))) = some r:=H
 have A3:=zm0_ A30
 clear A30
 by_cases c4 : (t179.length : Int) < (a1.size : Int)
 ·
  rw [if_pos c4] at H
  have c4b0 : decide ((t179.length : Int) < (a1.size : Int)) = true:=decide_eq_true c4
  have c4b1 : decide (t179.length < a1.size) = true:=decide_eq_true (Int.ofNat_lt.mp c4)
  clear c4
  replace H:=zq1_ H
  obtain ⟨t182,A50,H⟩:=H
  replace H : (if t182.length + t179.length < 140737488355328 then (some (t182 ++ t179)) else (none)) = some r:=H
  have A5:=zm0_ A50
  clear A50
  by_cases c6 : t182.length + t179.length < 140737488355328
  ·
   rw [if_pos c6] at H
   have LMc6:=zm0_ c6
   clear c6
   obtain ⟨y185,hy185⟩ : ∃ y_ : List Int,y_ = (t182 ++ t179):=⟨_,rfl⟩
   replace H : (some y185) = some r:=by first|(rw [hy185];with_reducible exact H)|(have H2_:=(Option.bind_some _ _).symm.trans H;rw [hy185];with_reducible exact H2_)|(have H2_:=(Option.bind_some _ _).symm.trans H;with_reducible exact H2_)|with_reducible exact H|(rw [hy185];exact H)|exact H
   have Ny185:=zm0_ hy185
   clear hy185
   obtain rfl:=Option.some.inj H
   go_enter Tryz.func29,Tryz.ntmps29
   go_wp2_with (first|((with_reducible refine gate_callee (f:=40) rfl ?_);refine goesL_ (some 7) rfl rfl Tryz.func40 (by kernel_rfl) rfl #[.string a1] rfl zy ?_;(with_reducible refine (spec_Huff.calls k a1 t179 _ A3.out).mono ?_);rintro e w7 ⟨v180,rfl,ho0,hb⟩;refine ⟨_,rfl,?_⟩;have HO181:=zm0_ (zo1_ ho0 (zn9_ (zl HB)));replace HB:=zm0_ (zn8_ (zl HB) hb);(try clear hb);(try clear hb2);(try clear hk);(try clear hi);(try clear ho0);obtain ⟨Ao8,co8,eo8⟩:=Kd.R_slice HO181.out;subst eo8)|((with_reducible refine gate_callee (f:=27) rfl ?_);refine goesL_ (some 16) rfl rfl Tryz.func27 (by kernel_rfl) rfl #[.slice A0 l0.length c0,.int .i64 7,.int .i64 128,.int .i64 (t179.length : Int)] rfl zy ?_;(with_reducible refine (spec_PutPrefix.calls k _ _ l0 7 128 (t179.length : Int) t182 _ ?side1 ?side2 A5.out).mono ?_);(case side1 => repeat (first|exact (Kd.C_below HR0.out HB.out)|(with_reducible refine Kd.C_alloc ?_ _)|(with_reducible refine Kd.C_drewN ?_ _)|(with_reducible refine Kd.C_drew ?_)));(case side2 => exact HC0.out);rintro e w9 ⟨v183,rfl,ho0,hb⟩;refine ⟨_,rfl,?_⟩;have HO184:=zm0_ (zo1_ (Kd.R_new' ho0 (Kd.R_lt (zr HO181))) (zn9_ (zl HB)));replace HO181:=zm0_ (Kd.R_elder' (zr HO181) (Kd.R_base ho0) hb);replace HB:=zm0_ (zn8_ (zl HB) hb);(try clear hb);(try clear hb2);(try clear hk);(try clear hi);(try clear ho0))|((with_reducible refine gate_builtin (b:=.append) (xs:=#[.tmp 16,.tmp 17]) rfl ?_);at_builtin;refine Kd.R_append_rows (Kd.int .u8) (w0:=w) w.heap.size rfl (.tmp 16) (.tmp 17) 29 5 (.int .u8 0) 1 rfl Tryz.underlying29 info5 rfl (by decide) (by omega) v183 t182 t179 _ _ _ (fun k_ => some k_ ≠ (.slice Ao8 t179.length co8 : Value).ownBlock) (fun _ => False) rfl rfl ?aO ?aR (fun _ _ h => h) (fun _ h => h.elim) ?aF ?aB ?aS ?aL ?_;(case aR => repeat (first|exact (Kd.R_reads' HO181.out).2.2|(with_reducible refine Kd.C_alloc ?_ _)|(with_reducible refine Kd.C_drewN ?_ _)|(with_reducible refine Kd.C_drew ?_)));(case aB => exact (zl HB));(case aF => exact (fun k_ hk => Kd.fresh' (Kd.R_lt (zr HO181)) k_ hk));(case aO => exact (zs (zo2_ HO184.out (fun _ hk => (by first|exact hk.2|(have hq_:=hk;simp only [ne_eq] at hq_ ⊢;simp only [hq_,not_false_eq_true,and_self]))))));(case aS => exact (zn9_ (zl HB)));(case aL => have:=LMc6.out;omega);intro v186 w10 ho hb hg hat;(first|(with_reducible rw [← Ny185.out] at ho)|(simp only [Int.reduceToNat] at ho;with_reducible rw [← Ny185.out] at ho)|rw [← Ny185.out] at ho);replace HO181:=zm0_ (Kd.R_after (ok:=(fun _ => True)) (zr HO181) hg hat);replace HB:=zm0_ (hb);have HO187:=zm0_ (ho);clear HO184;clear ho hb hg hat))
   go_ret
   exact ⟨_,ze,by (with_reducible repeat (first|apply k1_|apply k2_|apply k3_));exact zo2_ HO187.out (fun _ hk => trivial),by repeat (first|(with_reducible first|exact HB.out|apply zm3_|apply zm2_|apply zm4_)|exact HB.out)⟩
  ·
   rw [if_neg c6] at H
   exact absurd H (by simp)
 ·
  rw [if_neg c4] at H
  have c4b0 : decide ((t179.length : Int) < (a1.size : Int)) = false:=decide_eq_false c4
  have c4b1 : decide (t179.length < a1.size) = false:=decide_eq_false (fun h => c4 (Int.ofNat_lt.mpr h))
  clear c4
  replace H:=zq1_ H
  obtain ⟨t188,A110,H⟩:=H
  replace H : (if t188.length + a1.size < 140737488355328 then (some (t188 ++ bytesOf a1)) else (none)) = some r:=H
  have A11:=zm0_ A110
  clear A110
  by_cases c12 : t188.length + a1.size < 140737488355328
  ·
   rw [if_pos c12] at H
   have LMc12:=zm0_ c12
   clear c12
   obtain ⟨y191,hy191⟩ : ∃ y_ : List Int,y_ = (t188 ++ bytesOf a1):=⟨_,rfl⟩
   replace H : (some y191) = some r:=by first|(rw [hy191];with_reducible exact H)|(have H2_:=(Option.bind_some _ _).symm.trans H;rw [hy191];with_reducible exact H2_)|(have H2_:=(Option.bind_some _ _).symm.trans H;with_reducible exact H2_)|with_reducible exact H|(rw [hy191];exact H)|exact H
   have Ny191:=zm0_ hy191
   clear hy191
   obtain rfl:=Option.some.inj H
   go_enter Tryz.func29,Tryz.ntmps29
   go_wp2_with (first|((with_reducible refine gate_callee (f:=40) rfl ?_);refine goesL_ (some 7) rfl rfl Tryz.func40 (by kernel_rfl) rfl #[.string a1] rfl zy ?_;(with_reducible refine (spec_Huff.calls k a1 t179 _ A3.out).mono ?_);rintro e w13 ⟨v180,rfl,ho0,hb⟩;refine ⟨_,rfl,?_⟩;have HO181:=zm0_ (zo1_ ho0 (zn9_ (zl HB)));replace HB:=zm0_ (zn8_ (zl HB) hb);(try clear hb);(try clear hb2);(try clear hk);(try clear hi);(try clear ho0);obtain ⟨Ao14,co14,eo14⟩:=Kd.R_slice HO181.out;subst eo14)|((with_reducible refine gate_callee (f:=27) rfl ?_);refine goesL_ (some 22) rfl rfl Tryz.func27 (by kernel_rfl) rfl #[.slice A0 l0.length c0,.int .i64 7,.int .i64 0,.int .i64 (a1.size : Int)] rfl zy ?_;(with_reducible refine (spec_PutPrefix.calls k _ _ l0 7 0 (a1.size : Int) t188 _ ?side1 ?side2 A11.out).mono ?_);(case side1 => repeat (first|exact (Kd.C_below HR0.out HB.out)|(with_reducible refine Kd.C_alloc ?_ _)|(with_reducible refine Kd.C_drewN ?_ _)|(with_reducible refine Kd.C_drew ?_)));(case side2 => exact HC0.out);rintro e w15 ⟨v189,rfl,ho0,hb⟩;refine ⟨_,rfl,?_⟩;have HO190:=zm0_ (zo1_ (Kd.R_new' ho0 (Kd.R_lt (zr HO181))) (zn9_ (zl HB)));replace HO181:=zm0_ (Kd.R_elder' (zr HO181) (Kd.R_base ho0) hb);replace HB:=zm0_ (zn8_ (zl HB) hb);(try clear hb);(try clear hb2);(try clear hk);(try clear hi);(try clear ho0))|(at_builtin;refine Go.Proofs.YthflimnpiglgbaaGreatDoor.LibStr.R_append_str (w0:=w) w.heap.size rfl (.tmp 22) _ 29 9 5 rfl Tryz.underlying29 Tryz.underlying9 info5 v189 t188 a1 (fun k_ => some k_ ≠ (.slice Ao14 t179.length co14 : Value).ownBlock) rfl rfl ?aF ?aO ?aB ?aS ?aL ?_;(case aB => exact (zl HB));(case aF => exact (fun k_ hk => Kd.fresh' (Kd.R_lt (zr HO181)) k_ hk));(case aO => exact (zs (zo2_ HO190.out (fun _ hk => (by first|exact hk.2|(have hq_:=hk;simp only [ne_eq] at hq_ ⊢;simp only [hq_,not_false_eq_true,and_self]))))));(case aS => exact (zn9_ (zl HB)));(case aL => have:=LMc12.out;omega);intro v192 w16 ho hb hg hat;(first|(with_reducible rw [← Ny191.out] at ho)|(simp only [Int.reduceToNat] at ho;with_reducible rw [← Ny191.out] at ho)|rw [← Ny191.out] at ho);replace HO181:=zm0_ (Kd.R_after (ok:=(fun _ => True)) (zr HO181) hg hat);replace HB:=zm0_ (hb);have HO193:=zm0_ (ho);clear HO190;clear ho hb hg hat))
   go_ret
   exact ⟨_,ze,by (with_reducible repeat (first|apply k1_|apply k2_|apply k3_));exact zo2_ HO193.out (fun _ hk => trivial),by repeat (first|(with_reducible first|exact HB.out|apply zm3_|apply zm2_|apply zm4_)|exact HB.out)⟩
  ·
   rw [if_neg c12] at H
   exact absurd H (by simp)
end Go.Proofs.YthflimnpiglgbaaGreatDoor.A
end
section
namespace Go.Proofs.YthflimnpiglgbaaGreatDoor.A
open Go.RowKit Go.Proofs.YthflimnpiglgbaaGreatDoorW.PrintWords Go.Proofs.YthflimnpiglgbaaGreatDoorW.PrintLast Go.Proofs.YthflimnpiglgbaaGreatDoorW.PrintMore
attribute [local go_sem] max2_int min2_int max_two min_two max_three min_three max_four min_four   -- for this text's walks alone
set_option linter.unusedVariables false
set_option linter.unusedSimpArgs false

def spec_l4Fit.l0 : Nat → Int → List (S36) → Option (Int × (List (S36)))
 | 0,_,_ => none
 | k + 1,x195000,x195001 => (spec_SizeOf.f k x195000 x195001).bind fun t196 => (if t196 > x195000 then (if 0 ≤ (wrap64 ((x195001.length : Int) - 1)) then (if (wrap64 ((x195001.length : Int) - 1)) ≤ (x195001.length : Int) then (spec_l4Fit.l0 k x195000 (x195001.take ((wrap64 ((x195001.length : Int) - 1)) : Int).toNat)) else (none)) else (none)) else (some (x195000,x195001)))
def spec_l4Fit.f (k : Nat) (a0_0 : Int) (l0_1 : List (S36)) : Option (Int × (List (S36))):=spec_l4Fit.l0 k a0_0 l0_1
theorem spec_l4Fit.mono_l : ∀ k,(∀ y0 y1,LeO (spec_l4Fit.l0 k y0 y1) (spec_l4Fit.l0 (k + 1) y0 y1))
 | 0 => fun _ _ r h => by simp [spec_l4Fit.l0] at h
 | k + 1 => by
  have ih0:=spec_l4Fit.mono_l k
  ·
   intro y0 y1
   unfold spec_l4Fit.l0
   repeat' first
   | (with_reducible exact ih0 _ _)
   | (with_reducible exact spec_SizeOf.mono _ _ _)
   | (with_reducible exact LeO.refl _)
   | (with_reducible exact LeO.none _)
   | (with_reducible refine LeO.ite ?_ ?_)
   | (with_reducible refine LeO.bind ?_ (fun _ => ?_))
   | exact ih0 _ _
   | exact spec_SizeOf.mono _ _ _
   | exact LeO.none _
   | refine LeO.ite ?_ ?_
   | refine LeO.bind ?_ (fun _ => ?_)
theorem spec_l4Fit.mono : ∀ a0 a1 k,LeO (spec_l4Fit.f k a0 a1) (spec_l4Fit.f (k + 1) a0 a1):=by
 intro a0 a1 k
 have ih0:=spec_l4Fit.mono_l k
 unfold spec_l4Fit.f
 repeat' first
  | (with_reducible exact ih0 _ _)
  | (with_reducible exact spec_SizeOf.mono _ _ _)
  | (with_reducible exact LeO.refl _)
  | (with_reducible exact LeO.none _)
  | (with_reducible refine LeO.ite ?_ ?_)
  | (with_reducible refine LeO.bind ?_ (fun _ => ?_))
  | exact ih0 _ _
  | exact spec_SizeOf.mono _ _ _
  | exact LeO.none _
  | refine LeO.ite ?_ ?_
  | refine LeO.bind ?_ (fun _ => ?_)
set_option maxHeartbeats 8000000 in
set_option maxRecDepth 100000 in
theorem spec_l4Fit.calls (k : Nat) (a0_0 : Int) (P0_1_ : Nat → Prop) (u9000_ : Value) (l0_1 : List (S36)) (r1 : Int) (r2 : List (S36)) (w0 w : World) (hB : Below w0.heap.size w0 w) (ho0_1 : Kd.R k36 36 w w0.heap.size P0_1_ u9000_ l0_1) (h : spec_l4Fit.f k a0_0 l0_1 = some (r1,r2)) :
 Calls Tryz.prog 41 #[.agg #[.int .i64 a0_0,u9000_]] w fun e w' => ∃ v1_ : Value,e = .returned (.agg #[.int .i64 r1,v1_]) ∧ Kd.R k36 36 w' w0.heap.size (fun k_ => (P0_1_ k_ ∨ w.heap.size ≤ k_)) v1_ r2 ∧ Below w0.heap.size w0 w' ∧ Kept w w' (fun k_ => P0_1_ k_):=by
 have hu32:=Tryz.underlying32
 have HO0_1:=zm0_ (show Kd.R k36 36 w w0.heap.size (fun k_ => (P0_1_ k_ ∨ w.heap.size ≤ k_)) u9000_ l0_1 from zo2_ ho0_1 (fun k_ hk => (.inl hk)))
 have HK:=zm0_ (Kept.refl w (fun k_ => P0_1_ k_))
 have HW0:=zm0_ hB.size
 have HB:=zm0_ hB
 clear hB
 have H : (spec_l4Fit.l0 k a0_0 l0_1) = some (r1,r2):=h
 clear h
 have H':=zm0_ H
 clear H
 obtain ⟨Ao2,co2,eo2⟩:=Kd.R_slice HO0_1.out
 subst eo2
 go_enter Tryz.func41,Tryz.ntmps41
 go_wp2_with (first|((with_reducible refine gate_dst (N:=1) rfl ?_);refine box_event ?hg (N:=1) ?hd (cs:=#[.int .i64 a0_0,.slice Ao2 l0_1.length co2]) (t:=32) ?hr ?_;(case hd => rfl);(case hg => rfl);(case hr => first|(go_simp;done)|(go_simp;rfl));intro gb194 hg w3 hbox hb;replace HO0_1:=zm0_ (zm8_ (zr HO0_1) hb);have BK194:=zm0_ (hbox);have GW194:=zm0_ ((by rw [hg];exact (by first|exact HK.out.1|exact (show Kept w _ (fun k_ => P0_1_ k_) from by repeat (first|(with_reducible first|exact HK.out|apply Kept.alloc|apply Kept.drewN|apply Kept.drew)|exact HK.out)).1) : w.heap.size ≤ gb194));replace HK:=zm0_ (Kept.below (S:=(fun k_ => P0_1_ k_)) (by repeat (first|(with_reducible first|exact HK.out|apply Kept.alloc|apply Kept.drewN|apply Kept.drew)|exact HK.out)) hb);have GE194:=zm0_ ((by rw [hg];exact (zn9_ (zl HB)) : w0.heap.size ≤ gb194));replace HB:=zm0_ (zn8_ (zl HB) hb);clear hb hbox hg)|((with_reducible refine gate_dst (N:=2) rfl ?_);refine box_event ?hg (N:=2) ?hd (cs:=#[.int .i64 0,.slice none 0 0]) (t:=32) ?hr ?_;(case hd => rfl);(case hg => rfl);(case hr => first|(go_simp;done)|(go_simp;rfl));intro gb195 hg w4 hbox hb;replace HO0_1:=zm0_ (zm8_ (zr HO0_1) hb);have BK195:=zm0_ (hbox);have GW195:=zm0_ ((by rw [hg];exact (by first|exact HK.out.1|exact (show Kept w _ (fun k_ => P0_1_ k_) from by repeat (first|(with_reducible first|exact HK.out|apply Kept.alloc|apply Kept.drewN|apply Kept.drew|refine Kept.setCell ?_ (.inr GW194.out) _)|exact HK.out)).1) : w.heap.size ≤ gb195));replace HK:=zm0_ (Kept.below (S:=(fun k_ => P0_1_ k_)) (by repeat (first|(with_reducible first|exact HK.out|apply Kept.alloc|apply Kept.drewN|apply Kept.drew|refine Kept.setCell ?_ (.inr GW194.out) _)|exact HK.out)) hb);have GE195:=zm0_ ((by rw [hg];exact (zn9_ (zl1 HB GE194)) : w0.heap.size ≤ gb195));replace HB:=zm0_ (zn8_ (zl1 HB GE194) hb);have NB194_195:=zm0_ ((by rw [hg];exact Nat.ne_of_lt (zo3_ (g:=gb194) (o:=.cells #[.int .i64 a0_0,.slice Ao2 l0_1.length co2] 32 (0,0)) (zb BK194)) : gb194 ≠ gb195));have NB195_194:=zm0_ ((by rw [hg];exact Nat.ne_of_gt (zo3_ (g:=gb194) (o:=.cells #[.int .i64 a0_0,.slice Ao2 l0_1.length co2] 32 (0,0)) (zb BK194)) : gb195 ≠ gb194));replace BK194:=zm0_ (zm5_ (zb BK194) hb);clear hb hbox hg))
 (try simp only [Act.put,lA_,lB_,lC_])
 go_loopg [] k (fun kq w' => ∃ (x195001_1 : List (S36)) (u195001 : Value),Aside0 (spec_l4Fit.l0 kq a0_0 x195001_1 = some (r1,r2)) ∧ Aside0 (kq ≤ k) ∧ Aside0 (Kd.R k36 36 w' w0.heap.size (fun k_ => (P0_1_ k_ ∨ w.heap.size ≤ k_)) u195001 x195001_1) ∧ Aside0 (w'.heap[gb194]? = some (.cells #[.int .i64 a0_0,u195001] 32 (0,0))) ∧ Aside0 (w'.heap[gb195]? = some (.cells #[.int .i64 0,(.slice none 0 0)] 32 (0,0))) ∧ Aside0 (Kept w w' (fun k_ => P0_1_ k_)) ∧ Aside0 (Below w0.heap.size w0 w'))
 case atStart => exact ⟨(l0_1),(.slice Ao2 l0_1.length co2),H',⟨Nat.le_refl _⟩,⟨zr HO0_1⟩,⟨zb BK194⟩,⟨zb BK195⟩,⟨by repeat (first|(with_reducible first|exact HK.out|apply Kept.alloc|apply Kept.drewN|apply Kept.drew|refine Kept.setCell ?_ (.inr GW194.out) _|refine Kept.setCell ?_ (.inr GW195.out) _)|exact HK.out)⟩,⟨zl2 HB GE194 GE195⟩⟩
 case round =>
  clear H'
  try clear p2
  try clear c4
  obtain ⟨x195001_1,u195001,HA,HK1,HO_195001,BK194,BK195,HK,HB⟩:=hrel
  cases gk with
  | zero => exact absurd HA.out (by simp [spec_l4Fit.l0])
  | succ k1 =>
   have H:=HA.out
   clear HA
   simp only [spec_l4Fit.l0] at H
   replace H:=zq1_ H
   obtain ⟨t196,A50,H⟩:=H
   replace H : (if t196 > a0_0 then (if 0 ≤ (wrap64 ((x195001_1.length : Int) - 1)) then (if (wrap64 ((x195001_1.length : Int) - 1)) ≤ (x195001_1.length : Int) then (spec_l4Fit.l0 k1 a0_0 (x195001_1.take ((wrap64 ((x195001_1.length : Int) - 1)) : Int).toNat)) else (none)) else (none)) else (some (a0_0,x195001_1))) = some (r1,r2):=H
   have A5:=zm0_ A50
   clear A50
   by_cases c6 : t196 > a0_0
   ·
    rw [if_pos c6] at H
    have c6b0 : decide (a0_0 < t196) = true:=decide_eq_true c6
    clear c6
    obtain ⟨ji7,hji7⟩ : ∃ j_ : Int,(wrap64 ((x195001_1.length : Int) - 1)) = j_:=⟨_,rfl⟩
    replace H : (if 0 ≤ (ji7) then (if (ji7) ≤ (x195001_1.length : Int) then (spec_l4Fit.l0 k1 a0_0 (x195001_1.take ((ji7) : Int).toNat)) else (none)) else (none)) = some (r1,r2):=by first|(rw [hji7] at H;exact H)|(simp only [hji7] at H ⊢;exact H)
    (try rw [hji7] at A5)
    have hji7w : (IntKind.i64.wrap ((x195001_1.length : Int) - 1)) = ji7:=(i64_w _).trans hji7
    by_cases c8 : 0 ≤ (ji7)
    ·
     rw [if_pos c8] at H
     have c8b0:=eq_true c8
     have c8b1 : decide (0 ≤ (ji7)) = true:=decide_eq_true c8
     clear c8
     by_cases c9 : (ji7) ≤ (x195001_1.length : Int)
     ·
      rw [if_pos c9] at H
      have c9b0:=eq_true c9
      have c9b1 : decide ((ji7) ≤ (x195001_1.length : Int)) = true:=decide_eq_true c9
      clear c9
      obtain ⟨y197,hy197⟩ : ∃ y_ : List (S36),y_ = (x195001_1.take ((ji7) : Int).toNat):=⟨_,rfl⟩
      replace H : (spec_l4Fit.l0 k1 a0_0 y197) = some (r1,r2):=by first|(rw [hy197];with_reducible exact H)|(have H2_:=(Option.bind_some _ _).symm.trans H;rw [hy197];with_reducible exact H2_)|(have H2_:=(Option.bind_some _ _).symm.trans H;with_reducible exact H2_)|with_reducible exact H|(rw [hy197];exact H)|exact H
      have Ny197:=zm0_ hy197
      clear hy197
      have H':=zm0_ H
      clear H
      try go_wp2
      replace HO_195001:=zm0_ (k3_ HO_195001.out)
      replace BK194:=zm0_ (k7_ BK194.out)
      replace BK195:=zm0_ (k7_ BK195.out)
      replace HK:=zm0_ (Kept.drew HK.out)
      replace HB:=zm0_ (zm4_ HB.out)
      obtain ⟨Ao11,co11,eo11⟩:=Kd.R_slice HO_195001.out
      (first|subst eo11|(injection eo11 with f1_ f2_ f3_;have f4_:=f1_.symm;have f5_:=f3_.symm;clear f1_ f2_ f3_;subst f4_;subst f5_))
      refine start_ (n:=5) (S:=fun w' => w'.cell? ⟨gb194,0,none⟩ = some (.int .i64 a0_0) ∧ w'.cell? ⟨gb194,1,none⟩ = some (.slice Ao11 x195001_1.length co11)) (ds:=[]) #[Z,Z,Z,Z,Z] (by kernel_rfl) rfl rfl ⟨(zm6_ BK194.out 0).trans rfl,(zm6_ BK194.out 1).trans rfl⟩ (fun hHeld => ?_)
      generalize wr.drew = w10 at HO_195001 BK194 BK195 HK HB hHeld ⊢
      refine pure_ (i:=2) (N:=some 5) (v:=?_) (a':=?_) #[Z,Z,Y,Z,Z] rfl rfl (by kernel_rfl) (fun _ _ _ h => h) (Or.inl ⟨by rfl,?_⟩) ?_ ?_
      rotate_left
      ·
       intro w'
       go_simp
       with_reducible rfl
      rotate_left
      ·
       simp only [Act.put,lA_,lB_,lC_,i64_w,i32_w]
       rfl
      refine take_ (i:=0) (N:=some 3) (v:=?_) (a':=?_) #[Y,Z,Y,Z,Z] rfl rfl (by kernel_rfl) (fun _ _ _ h => h) (Or.inl ⟨by rfl,?_⟩) hHeld ?_ ?_
      rotate_left
      ·
       rintro w' ⟨s0,s1⟩
       go_simp
       with_reducible rfl
      rotate_left
      ·
       simp only [Act.put,lA_,lB_,lC_,i64_w,i32_w]
       rfl
      refine take_ (i:=3) (N:=some 6) (v:=?_) (a':=?_) #[Y,Z,Y,Y,Z] rfl rfl (by kernel_rfl) (fun _ _ _ h => h) (Or.inl ⟨by rfl,?_⟩) hHeld ?_ ?_
      rotate_left
      ·
       rintro w' ⟨s0,s1⟩
       go_simp
       with_reducible rfl
      rotate_left
      ·
       simp only [Act.put,lA_,lB_,lC_,i64_w,i32_w]
       rfl
      refine one_ (i:=1) (N:=some 4) #[Y,Y,Y,Y,Z] rfl rfl (by kernel_rfl) (by decide) (fun K hK => ?_)
      refine goes_ Tryz.func38 (by kernel_rfl) rfl #[.agg #[.int .i64 a0_0,.slice Ao11 x195001_1.length co11]] (by rfl) rfl rfl zy ?_
      with_reducible refine (spec_SizeOf.calls k1 a0_0 _ _ x195001_1 t196 _ ?side1 ?side2 A5.out).mono ?_
      (case side1 => repeat (first|exact (Kd.R_reads' HO_195001.out).2.2|(with_reducible refine Kd.C_alloc ?_ _)|(with_reducible refine Kd.C_drewN ?_ _)|(with_reducible refine Kd.C_drew ?_)))
      (case side2 => exact (Kd.R_reads' HO_195001.out).2.1)
      rintro e w12 ⟨rfl,hb⟩
      refine ⟨_,rfl,?_⟩
      replace HO_195001:=zm0_ (zm8_ (zr HO_195001) hb)
      replace BK194:=zm0_ (zm5_ (zb BK194) hb)
      replace BK195:=zm0_ (zm5_ (zb BK195) hb)
      replace HK:=zm0_ (Kept.below (S:=(fun k_ => P0_1_ k_)) (by repeat (first|(with_reducible first|exact HK.out|apply Kept.alloc|apply Kept.drewN|apply Kept.drew|refine Kept.setCell ?_ (.inr GW194.out) _|refine Kept.setCell ?_ (.inr GW195.out) _)|exact HK.out)) hb)
      replace HB:=zm0_ (zn8_ (zl2 HB GE194 GE195) hb)
      (try clear hb)
      (try clear hb2)
      (try clear hk)
      (try clear hi)
      refine hK.out _ _ ⟨(zm6_ BK194.out 0).trans rfl,(zm6_ BK194.out 1).trans rfl⟩ (fun hHeld => ?_)
      clear hK K
      refine norm_ (a':=?_) ?_ ?_
      rotate_left
      ·
       show Act.put _ (some 4) _ = _
       simp only [Act.put,lA_,lB_,lC_,i64_w,i32_w]
       rfl
      refine pure_ (i:=4) (N:=some 7) (v:=?_) (a':=?_) #[Y,Y,Y,Y,Y] rfl rfl (by kernel_rfl) (fun _ _ _ h => h) (Or.inl ⟨by rfl,?_⟩) ?_ ?_
      rotate_left
      ·
       intro w'
       go_simp
       with_reducible rfl
      rotate_left
      ·
       simp only [Act.put,lA_,lB_,lC_,i64_w,i32_w]
       rfl
      refine done_ (by kernel_rfl) ?_
      have hnb13:=NB194_195.out
      have hnc13:=NB195_194.out
      have hcz14_0 : w12.cell? ⟨gb194,0,none⟩ = some (.int .i64 a0_0):=(zm6_ BK194.out 0).trans rfl
      have hcz14_1 : w12.cell? ⟨gb194,1,none⟩ = some (.slice Ao11 x195001_1.length co11):=(zm6_ BK194.out 1).trans rfl
      have hfz14_0:=zm7_ BK194.out 0
      have hfz14_1:=zm7_ BK194.out 1
      have q15 : ((ji7) : Int) ≤ ((x195001_1.length : Int) : Int):=of_decide_eq_true (by first|(with_reducible assumption)|assumption)
      obtain ⟨i015,hi015,_,hsz15,_⟩:=info_parts info36
      have hcut15:=cut_to (P:=Tryz.prog) 30 36 .i64 Tryz.underlying30 hi015 Ao11 x195001_1.length co11 (ji7) (of_decide_eq_true (by first|(with_reducible assumption)|assumption)) q15 (Kd.R_reads' HO_195001.out).2.1
      have hr15:=Kd.R_take (m:=((ji7) : Int).toNat) HO_195001.out (by omega)
      have hy15 : y197.length = ((ji7) : Int).toNat:=(by rw [Ny197.out,List.length_take];omega)
      rw [← Ny197.out] at hr15
      rw [← hy15] at hr15 hcut15
      clear hy15 hi015 hsz15 HO_195001
      have HO199:=zm0_ hr15
      clear hr15
      replace q15:=eq_true q15
      try go_wp2
      go_roundg k1
      case measure => have:=HK1.out;omega
      case rel => exact ⟨(y197),(.slice Ao11 y197.length co11),H',⟨by have:=HK1.out;omega⟩,⟨by (with_reducible repeat (first|apply k1_|apply k2_|apply k3_));exact zo2_ (k4_ (p:=⟨gb194,1,none⟩) (Kd.R_types HO199.out BK194.out (by decide)) (fun _ hk => hk.2) (.slice Ao11 y197.length co11)) (fun _ hk => hk.1)⟩,⟨by (with_reducible repeat (first|refine k6_ ?_ _|refine k7_ ?_|refine k5_ ?_ _));refine blk_put (cs:=#[.int .i64 a0_0,.slice Ao11 x195001_1.length co11]) ?_ 1 _ rfl;(with_reducible repeat (first|refine k6_ ?_ _|refine k7_ ?_|refine k5_ ?_ _));exact BK194.out⟩,⟨by (with_reducible repeat (first|refine k6_ ?_ _|refine k7_ ?_|refine k5_ ?_ _));refine blk_far ?_ NB195_194.out _;(with_reducible repeat (first|refine k6_ ?_ _|refine k7_ ?_|refine k5_ ?_ _));exact BK195.out⟩,⟨by repeat (first|(with_reducible first|exact HK.out|apply Kept.alloc|apply Kept.drewN|apply Kept.drew|refine Kept.setCell ?_ (.inr GW194.out) _|refine Kept.setCell ?_ (.inr GW195.out) _)|exact HK.out)⟩,⟨zl2 HB GE194 GE195⟩⟩
     ·
      rw [if_neg c9] at H
      exact absurd H (by simp)
    ·
     rw [if_neg c8] at H
     exact absurd H (by simp)
   ·
    rw [if_neg c6] at H
    have c6b0 : decide (a0_0 < t196) = false:=decide_eq_false c6
    clear c6
    simp only [Option.some.injEq,Prod.mk.injEq] at H
    obtain ⟨rfl,rfl⟩:=H
    try go_wp2
    replace HO_195001:=zm0_ (k3_ HO_195001.out)
    replace BK194:=zm0_ (k7_ BK194.out)
    replace BK195:=zm0_ (k7_ BK195.out)
    replace HK:=zm0_ (Kept.drew HK.out)
    replace HB:=zm0_ (zm4_ HB.out)
    obtain ⟨Ao17,co17,eo17⟩:=Kd.R_slice HO_195001.out
    (first|subst eo17|(injection eo17 with f1_ f2_ f3_;have f4_:=f1_.symm;have f5_:=f3_.symm;clear f1_ f2_ f3_;subst f4_;subst f5_))
    refine start_ (n:=5) (S:=fun w' => w'.cell? ⟨gb194,0,none⟩ = some (.int .i64 a0_0) ∧ w'.cell? ⟨gb194,1,none⟩ = some (.slice Ao17 x195001_1.length co17)) (ds:=[]) #[Z,Z,Z,Z,Z] (by kernel_rfl) rfl rfl ⟨(zm6_ BK194.out 0).trans rfl,(zm6_ BK194.out 1).trans rfl⟩ (fun hHeld => ?_)
    generalize wr.drew = w16 at HO_195001 BK194 BK195 HK HB hHeld ⊢
    refine pure_ (i:=2) (N:=some 5) (v:=?_) (a':=?_) #[Z,Z,Y,Z,Z] rfl rfl (by kernel_rfl) (fun _ _ _ h => h) (Or.inl ⟨by rfl,?_⟩) ?_ ?_
    rotate_left
    ·
     intro w'
     go_simp
     with_reducible rfl
    rotate_left
    ·
     simp only [Act.put,lA_,lB_,lC_,i64_w,i32_w]
     rfl
    refine take_ (i:=0) (N:=some 3) (v:=?_) (a':=?_) #[Y,Z,Y,Z,Z] rfl rfl (by kernel_rfl) (fun _ _ _ h => h) (Or.inl ⟨by rfl,?_⟩) hHeld ?_ ?_
    rotate_left
    ·
     rintro w' ⟨s0,s1⟩
     go_simp
     with_reducible rfl
    rotate_left
    ·
     simp only [Act.put,lA_,lB_,lC_,i64_w,i32_w]
     rfl
    refine take_ (i:=3) (N:=some 6) (v:=?_) (a':=?_) #[Y,Z,Y,Y,Z] rfl rfl (by kernel_rfl) (fun _ _ _ h => h) (Or.inl ⟨by rfl,?_⟩) hHeld ?_ ?_
    rotate_left
    ·
     rintro w' ⟨s0,s1⟩
     go_simp
     with_reducible rfl
    rotate_left
    ·
     simp only [Act.put,lA_,lB_,lC_,i64_w,i32_w]
     rfl
    refine one_ (i:=1) (N:=some 4) #[Y,Y,Y,Y,Z] rfl rfl (by kernel_rfl) (by decide) (fun K hK => ?_)
    refine goes_ Tryz.func38 (by kernel_rfl) rfl #[.agg #[.int .i64 a0_0,.slice Ao17 x195001_1.length co17]] (by rfl) rfl rfl zy ?_
    with_reducible refine (spec_SizeOf.calls k1 a0_0 _ _ x195001_1 t196 _ ?side1 ?side2 A5.out).mono ?_
    (case side1 => repeat (first|exact (Kd.R_reads' HO_195001.out).2.2|(with_reducible refine Kd.C_alloc ?_ _)|(with_reducible refine Kd.C_drewN ?_ _)|(with_reducible refine Kd.C_drew ?_)))
    (case side2 => exact (Kd.R_reads' HO_195001.out).2.1)
    rintro e w18 ⟨rfl,hb⟩
    refine ⟨_,rfl,?_⟩
    replace HO_195001:=zm0_ (zm8_ (zr HO_195001) hb)
    replace BK194:=zm0_ (zm5_ (zb BK194) hb)
    replace BK195:=zm0_ (zm5_ (zb BK195) hb)
    replace HK:=zm0_ (Kept.below (S:=(fun k_ => P0_1_ k_)) (by repeat (first|(with_reducible first|exact HK.out|apply Kept.alloc|apply Kept.drewN|apply Kept.drew|refine Kept.setCell ?_ (.inr GW194.out) _|refine Kept.setCell ?_ (.inr GW195.out) _)|exact HK.out)) hb)
    replace HB:=zm0_ (zn8_ (zl2 HB GE194 GE195) hb)
    (try clear hb)
    (try clear hb2)
    (try clear hk)
    (try clear hi)
    refine hK.out _ _ ⟨(zm6_ BK194.out 0).trans rfl,(zm6_ BK194.out 1).trans rfl⟩ (fun hHeld => ?_)
    clear hK K
    refine norm_ (a':=?_) ?_ ?_
    rotate_left
    ·
     show Act.put _ (some 4) _ = _
     simp only [Act.put,lA_,lB_,lC_,i64_w,i32_w]
     rfl
    refine pure_ (i:=4) (N:=some 7) (v:=?_) (a':=?_) #[Y,Y,Y,Y,Y] rfl rfl (by kernel_rfl) (fun _ _ _ h => h) (Or.inl ⟨by rfl,?_⟩) ?_ ?_
    rotate_left
    ·
     intro w'
     go_simp
     with_reducible rfl
    rotate_left
    ·
     simp only [Act.put,lA_,lB_,lC_,i64_w,i32_w]
     rfl
    refine done_ (by kernel_rfl) ?_
    have hnb19:=NB194_195.out
    have hnc19:=NB195_194.out
    have hcz20_0 : w18.cell? ⟨gb194,0,none⟩ = some (.int .i64 a0_0):=(zm6_ BK194.out 0).trans rfl
    have hcz20_1 : w18.cell? ⟨gb194,1,none⟩ = some (.slice Ao17 x195001_1.length co17):=(zm6_ BK194.out 1).trans rfl
    have hfz20_0:=zm7_ BK194.out 0
    have hfz20_1:=zm7_ BK194.out 1
    have hcz21_0 : w18.cell? ⟨gb195,0,none⟩ = some (.int .i64 0):=(zm6_ BK195.out 0).trans rfl
    have hcz21_1 : w18.cell? ⟨gb195,1,none⟩ = some (.slice none 0 0):=(zm6_ BK195.out 1).trans rfl
    have hfz21_0:=zm7_ BK195.out 0
    have hfz21_1:=zm7_ BK195.out 1
    try go_wp2
    refine bodyPost_ret (results_cell_row rfl _ _ gb195 32 #[.int .i64 a0_0,.slice Ao17 x195001_1.length co17] (0,0) _ rfl (by (with_reducible repeat (first|refine k6_ ?_ _|refine k7_ ?_|refine k5_ ?_ _));refine blk_put (cs:=#[.int .i64 a0_0,.slice none 0 0]) ?_ 1 _ rfl;(with_reducible repeat (first|refine k6_ ?_ _|refine k7_ ?_|refine k5_ ?_ _));refine blk_put (cs:=#[.int .i64 0,.slice none 0 0]) ?_ 0 _ rfl;(with_reducible repeat (first|refine k6_ ?_ _|refine k7_ ?_|refine k5_ ?_ _));exact BK195.out) Tryz.underlying32 rfl (by kernel_rfl)) rfl ?_
    exact ⟨_,ze,by (with_reducible repeat (first|apply k1_|apply k2_|apply k3_));exact zo2_ (k4_ (p:=⟨gb195,1,none⟩) (k4_ (p:=⟨gb195,0,none⟩) (Kd.R_types HO_195001.out BK195.out (by decide)) (fun _ hk => hk.2) (.int .i64 a0_0)) (fun _ hk => hk.2) (.slice Ao17 x195001_1.length co17)) (fun _ hk => hk.1),by repeat (first|(with_reducible first|exact HB.out|apply zm3_|apply zm2_|apply zm4_|refine zm1_ ?_ GE194.out|refine zm1_ ?_ GE195.out)|exact HB.out),by repeat (first|(with_reducible first|exact HK.out|apply Kept.alloc|apply Kept.drewN|apply Kept.drew|refine Kept.setCell ?_ (.inr GW194.out) _|refine Kept.setCell ?_ (.inr GW195.out) _)|exact HK.out)⟩
end Go.Proofs.YthflimnpiglgbaaGreatDoor.A
end
