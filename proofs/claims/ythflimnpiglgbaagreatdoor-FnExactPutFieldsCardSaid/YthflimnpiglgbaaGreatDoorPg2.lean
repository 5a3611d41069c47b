/- Functions of the program and of the reference as plain Lean functions, that the machine's calls answer as they do, and laws of these. Written in part by a program of this session, out of the translation. Condition: each theorem's own. -/
import Derived.Test.YthflimnpiglgbaaGreatDoorPg1
section
namespace Go.Proofs.YthflimnpiglgbaaGreatDoor.A
open Go.RowKit Go.Proofs.YthflimnpiglgbaaGreatDoorW.PrintWords Go.Proofs.YthflimnpiglgbaaGreatDoorW.PrintLast Go.Proofs.YthflimnpiglgbaaGreatDoorW.PrintMore
attribute [local go_sem] max2_int min2_int max_two min_two max_three min_three max_four min_four   -- for this text's walks alone
set_option linter.unusedVariables false
set_option linter.unusedSimpArgs false

def laws_heldFieldS.l0 : Nat → List (S36) → Int → Int → Option (Int)
 | 0,_,_,_ => none
 | k + 1,x0,x1,x5 => if x5 < (x0.length : Int) then (if 0 ≤ x5 then ((laws_markText.f k x1).bind fun t376 => (if ((rd_T36 x0 x5).f0).toList = t376.toList then ((laws_markText.f k (wrap64 (x1 + 1))).bind fun t378 => (if ((rd_T36 x0 x5).f1).toList = t378.toList then (laws_heldFieldS.l0 k x0 (wrap64 ((wrap64 (x1 + 1)) + 1)) (wrap64 (x5 + 1))) else (some (-1)))) else (some (-1)))) else (none)) else (some x1)
def laws_heldFieldS.f (k : Nat) (l0 : List (S36)) (a1 : Int) : Option (Int):=laws_heldFieldS.l0 k l0 a1 0
theorem laws_heldFieldS.mono_l : ∀ k,(∀ y0 y1 y2,LeO (laws_heldFieldS.l0 k y0 y1 y2) (laws_heldFieldS.l0 (k + 1) y0 y1 y2))
 | 0 => fun _ _ _ r h => by simp [laws_heldFieldS.l0] at h
 | k + 1 => by
  have ih0:=laws_heldFieldS.mono_l k
  ·
   intro y0 y1 y2
   unfold laws_heldFieldS.l0
   repeat' first
   | (with_reducible exact ih0 _ _ _)
   | (with_reducible exact laws_markText.mono _ _)
   | (with_reducible exact LeO.refl _)
   | (with_reducible exact LeO.none _)
   | (with_reducible refine LeO.ite ?_ ?_)
   | (with_reducible refine LeO.bind ?_ (fun _ => ?_))
   | exact ih0 _ _ _
   | exact laws_markText.mono _ _
   | exact LeO.none _
   | refine LeO.ite ?_ ?_
   | refine LeO.bind ?_ (fun _ => ?_)
theorem laws_heldFieldS.mono : ∀ a0 a1 k,LeO (laws_heldFieldS.f k a0 a1) (laws_heldFieldS.f (k + 1) a0 a1):=by
 intro a0 a1 k
 have ih0:=laws_heldFieldS.mono_l k
 unfold laws_heldFieldS.f
 repeat' first
  | (with_reducible exact ih0 _ _ _)
  | (with_reducible exact laws_markText.mono _ _)
  | (with_reducible exact LeO.refl _)
  | (with_reducible exact LeO.none _)
  | (with_reducible refine LeO.ite ?_ ?_)
  | (with_reducible refine LeO.bind ?_ (fun _ => ?_))
  | exact ih0 _ _ _
  | exact laws_markText.mono _ _
  | exact LeO.none _
  | refine LeO.ite ?_ ?_
  | refine LeO.bind ?_ (fun _ => ?_)
def laws_heldFieldS.T4 : Bool × List (List Nat × List Nat):=(true,[([],[]),([],[]),([0,1],[0,1]),([2],[2]),([3],[3]),([],[]),([5],[5]),([4,6],[4,6])])
def laws_heldFieldS.B4 : List Nat:=[0,0,3,7,15,0,32,127]
theorem laws_heldFieldS.tab4 : rtab .any (opsOf Tryz.f35 4) = laws_heldFieldS.T4:=by kernel_rfl
theorem laws_heldFieldS.bits4 : waitsOk laws_heldFieldS.T4.2 laws_heldFieldS.B4 = true:=by kernel_rfl
def laws_heldFieldS.T7 : Bool × List (List Nat × List Nat):=(true,[([],[]),([],[]),([0,1],[0,1]),([2],[2]),([3],[3]),([],[]),([5],[5]),([4,6],[4,6])])
def laws_heldFieldS.B7 : List Nat:=[0,0,3,7,15,0,32,127]
theorem laws_heldFieldS.tab7 : rtab .any (opsOf Tryz.f35 7) = laws_heldFieldS.T7:=by kernel_rfl
theorem laws_heldFieldS.bits7 : waitsOk laws_heldFieldS.T7.2 laws_heldFieldS.B7 = true:=by kernel_rfl
set_option maxHeartbeats 8000000 in
set_option maxRecDepth 100000 in
theorem laws_heldFieldS.calls (k : Nat) (A0 : Option Addr) (c0 : Nat) (l0 : List (S36)) (a1 : Int) (r : Int) (w : World) (hr0 : Kd.C k36 w A0 l0.length l0) (hc0 : l0.length ≤ c0) (h : laws_heldFieldS.f k l0 a1 = some r) :
 Calls Tryz.prog 35 #[.slice A0 l0.length c0,.int .i64 a1] w fun e w' => e = .returned (.int .i64 r) ∧ Below w.heap.size w w':=by
 have HR0:=zm0_ hr0
 have HC0:=zm0_ hc0
 clear hr0 hc0
 have HB:=zm0_ (Below.refl w.heap.size w)
 have H : (laws_heldFieldS.l0 k l0 a1 0) = some r:=h
 clear h
 have H':=zm0_ H
 clear H
 go_enter Tryz.func35,Tryz.ntmps35
 go_wp2
 go_loopg [1,5] k (fun kq v1 v5 w' => ∃ (x1_1 : Int) (x5_1 : Int),v1 = .int .i64 x1_1 ∧ v5 = .int .i64 x5_1 ∧ Aside0 (laws_heldFieldS.l0 kq l0 x1_1 x5_1 = some r) ∧ Aside0 (kq ≤ k) ∧ Aside0 (Below w.heap.size w w'))
 case atStart => exact ⟨(a1),(0),zz,zz,H',⟨Nat.le_refl _⟩,⟨zl HB⟩⟩
 case round =>
  clear H'
  try clear p2
  obtain ⟨x1_1,x5_1,rfl,rfl,HA,HK1,HB⟩:=hrel
  cases gk with
  | zero => exact absurd HA.out (by simp [laws_heldFieldS.l0])
  | succ k1 =>
   have H:=HA.out
   clear HA
   simp only [laws_heldFieldS.l0] at H
   by_cases c3 : x5_1 < (l0.length : Int)
   ·
    rw [if_pos c3] at H
    have c3b0 : decide (x5_1 < (l0.length : Int)) = true:=decide_eq_true c3
    clear c3
    by_cases c4 : 0 ≤ x5_1
    ·
     rw [if_pos c4] at H
     have c4b0 : decide (0 ≤ x5_1) = true:=decide_eq_true c4
     clear c4
     replace H:=zq1_ H
     obtain ⟨t376,A50,H⟩:=H
     replace H : (if ((rd_T36 l0 x5_1).f0).toList = t376.toList then ((laws_markText.f k1 (wrap64 (x1_1 + 1))).bind fun t378 => (if ((rd_T36 l0 x5_1).f1).toList = t378.toList then (laws_heldFieldS.l0 k1 l0 (wrap64 ((wrap64 (x1_1 + 1)) + 1)) (wrap64 (x5_1 + 1))) else (some (-1)))) else (some (-1))) = some r:=H
     have A5:=zm0_ A50
     clear A50
     by_cases c6 : ((rd_T36 l0 x5_1).f0).toList = t376.toList
     ·
      rw [if_pos c6] at H
      have c6b0 : (((rd_T36 l0 x5_1).f0).toList == t376.toList) = true:=beq_iff_eq.mpr c6
      have c6b1 : (((rd_T36 l0 x5_1).f0).toList != t376.toList) = false:=bne_eq_false_iff_eq.mpr c6
      clear c6
      replace H:=zq1_ H
      obtain ⟨t378,A70,H⟩:=H
      replace H : (if ((rd_T36 l0 x5_1).f1).toList = t378.toList then (laws_heldFieldS.l0 k1 l0 (wrap64 ((wrap64 (x1_1 + 1)) + 1)) (wrap64 (x5_1 + 1))) else (some (-1))) = some r:=H
      have A7:=zm0_ A70
      clear A70
      by_cases c8 : ((rd_T36 l0 x5_1).f1).toList = t378.toList
      ·
       rw [if_pos c8] at H
       have c8b0 : (((rd_T36 l0 x5_1).f1).toList == t378.toList) = true:=beq_iff_eq.mpr c8
       have c8b1 : (((rd_T36 l0 x5_1).f1).toList != t378.toList) = false:=bne_eq_false_iff_eq.mpr c8
       clear c8
       have H':=zm0_ H
       clear H
       try go_wp2
       replace HB:=zm0_ (zm4_ HB.out)
       have p375 : 0 ≤ (x5_1 : Int):=of_decide_eq_true (by first|(with_reducible assumption)|assumption)
       have q375 : x5_1 < (l0.length : Int):=of_decide_eq_true (by first|(with_reducible assumption)|assumption)
       obtain ⟨ad375,e375,hx375_0,hx375_1⟩:=at_T36 HR0.out x5_1 p375 q375
       have hw375_1:=hx375_1
       have hw375_0:=hx375_0
       cases e375
       replace hx375_0:=(HB.out.cell (zq2_ w _ hx375_0)).trans hx375_0
       replace hx375_1:=(HB.out.cell (zq2_ w _ hx375_1)).trans hx375_1
       replace p375:=eq_true p375
       replace q375:=eq_true q375
       refine start_ (n:=8) (S:=fun w' => w'.cell? (ad375.add ((x5_1).toNat * 2)) = some (.string ((rd_T36 l0 x5_1).f0)) ∧ w'.cell? ⟨(ad375.add ((x5_1).toNat * 2)).block,(ad375.add ((x5_1).toNat * 2)).off + 1,none⟩ = some (.string ((rd_T36 l0 x5_1).f1))) (ds:=[]) #[Z,Z,Z,Z,Z,Z,Z,Z] (by kernel_rfl) rfl rfl ⟨((HB.out.cell (zq2_ w _ hw375_0)).trans hw375_0),((HB.out.cell (zq2_ w _ hw375_1)).trans hw375_1)⟩ (fun hHeld => ?_);refine with_tabW laws_heldFieldS.tab4 laws_heldFieldS.bits4 (fun HT_ HW_ => ?_)
       generalize wr.drew = w9 at HB hx375_0 hx375_1 hHeld ⊢
       refine pure_ (i:=0) (N:=some 12) (v:=?_) (a':=?_) #[Y,Z,Z,Z,Z,Z,Z,Z] rfl rfl (any_of HT_.out (by kernel_rfl)) (fun _ _ _ h => h) (Or.inl ⟨by rfl,?_⟩) ?_ ?_
       rotate_left
       ·
        intro w'
        go_simp
        with_reducible rfl
       rotate_left
       ·
        simp only [Act.put,lA_,lB_,lC_,i64_w,i32_w]
        rfl
       refine pure_ (i:=1) (N:=some 13) (v:=?_) (a':=?_) #[Y,Y,Z,Z,Z,Z,Z,Z] rfl rfl (any_of HT_.out (by kernel_rfl)) (fun _ _ _ h => h) (Or.inl ⟨by rfl,?_⟩) ?_ ?_
       rotate_left
       ·
        intro w'
        go_simp
        with_reducible rfl
       rotate_left
       ·
        simp only [Act.put,lA_,lB_,lC_,i64_w,i32_w]
        rfl
       refine pure_ (i:=2) (N:=some 14) (v:=?_) (a':=?_) #[Y,Y,Y,Z,Z,Z,Z,Z] rfl rfl (any_of HT_.out (by kernel_rfl)) (fun _ _ _ h => h) (Or.inl ⟨by rfl,?_⟩) ?_ ?_
       rotate_left
       ·
        intro w'
        go_simp
        with_reducible rfl
       rotate_left
       ·
        simp only [Act.put,lA_,lB_,lC_,i64_w,i32_w]
        rfl
       refine pure_ (i:=3) (N:=some 15) (v:=?_) (a':=?_) #[Y,Y,Y,Y,Z,Z,Z,Z] rfl rfl (any_of HT_.out (by kernel_rfl)) (fun _ _ _ h => h) (Or.inl ⟨by rfl,?_⟩) ?_ ?_
       rotate_left
       ·
        intro w'
        go_simp
        with_reducible rfl
       rotate_left
       ·
        simp only [Act.put,lA_,lB_,lC_,i64_w,i32_w]
        rfl
       refine pure_ (i:=5) (N:=some 17) (v:=?_) (a':=?_) #[Y,Y,Y,Y,Z,Y,Z,Z] rfl rfl (any_of HT_.out (by kernel_rfl)) (fun _ _ _ h => h) (Or.inl ⟨by rfl,?_⟩) ?_ ?_
       rotate_left
       ·
        intro w'
        go_simp
        with_reducible rfl
       rotate_left
       ·
        simp only [Act.put,lA_,lB_,lC_,i64_w,i32_w]
        rfl
       refine take_ (i:=4) (N:=some 16) (v:=?_) (a':=?_) #[Y,Y,Y,Y,Y,Y,Z,Z] rfl rfl (take_ofW HT_.out HW_.out (by kernel_rfl)) (fun _ _ _ h => h) (Or.inl ⟨by rfl,?_⟩) hHeld ?_ ?_
       rotate_left
       ·
        rintro w' ⟨s0,s1⟩
        go_simp
        with_reducible rfl
       rotate_left
       ·
        simp only [Act.put,lA_,lB_,lC_,i64_w,i32_w]
        rfl
       refine one_ (i:=6) (N:=some 18) #[Y,Y,Y,Y,Y,Y,Y,Z] rfl rfl (one_of HT_.out (by kernel_rfl)) (by decide) (fun K hK => ?_)
       refine goes_ Tryz.func37 (by kernel_rfl) rfl #[.int .i64 x1_1] (by rfl) rfl rfl zy ?_
       with_reducible refine (laws_markText.calls k1 x1_1 t376 _ A5.out).mono ?_
       rintro e w10 ⟨rfl,hb⟩
       refine ⟨_,rfl,?_⟩
       replace HB:=zm0_ (zn8_ (zl HB) hb)
       (try clear hb)
       (try clear hb2)
       (try clear hk)
       (try clear hi)
       refine hK.out _ _ ⟨((HB.out.cell (zq2_ w _ hw375_0)).trans hw375_0),((HB.out.cell (zq2_ w _ hw375_1)).trans hw375_1)⟩ (fun hHeld => ?_)
       clear hK K
       refine norm_ (a':=?_) ?_ ?_
       rotate_left
       ·
        show Act.put _ (some 18) _ = _
        simp only [Act.put,lA_,lB_,lC_,i64_w,i32_w]
        rfl
       refine pure_ (i:=7) (N:=some 19) (v:=?_) (a':=?_) #[Y,Y,Y,Y,Y,Y,Y,Y] rfl rfl (any_of HT_.out (by kernel_rfl)) (fun _ _ _ h => h) (Or.inl ⟨by rfl,?_⟩) ?_ ?_
       rotate_left
       ·
        intro w'
        go_simp
        with_reducible rfl
       rotate_left
       ·
        simp only [Act.put,lA_,lB_,lC_,i64_w,i32_w]
        rfl
       refine done_ (done_of HT_.out (by kernel_rfl)) ?_
       try go_wp2
       replace HB:=zm0_ (zm4_ HB.out)
       have p377 : 0 ≤ (x5_1 : Int):=of_decide_eq_true (by first|(with_reducible assumption)|assumption)
       have q377 : x5_1 < (l0.length : Int):=of_decide_eq_true (by first|(with_reducible assumption)|assumption)
       obtain ⟨ad377,e377,hx377_0,hx377_1⟩:=at_T36 HR0.out x5_1 p377 q377
       have hw377_1:=hx377_1
       have hw377_0:=hx377_0
       obtain rfl : ad375 = ad377:=(by injection e377)
       replace hx377_0:=(HB.out.cell (zq2_ w _ hx377_0)).trans hx377_0
       replace hx377_1:=(HB.out.cell (zq2_ w _ hx377_1)).trans hx377_1
       replace p377:=eq_true p377
       replace q377:=eq_true q377
       refine start_ (n:=8) (S:=fun w' => w'.cell? (ad375.add ((x5_1).toNat * 2)) = some (.string ((rd_T36 l0 x5_1).f0)) ∧ w'.cell? ⟨(ad375.add ((x5_1).toNat * 2)).block,(ad375.add ((x5_1).toNat * 2)).off + 1,none⟩ = some (.string ((rd_T36 l0 x5_1).f1))) (ds:=[]) #[Z,Z,Z,Z,Z,Z,Z,Z] (by kernel_rfl) rfl rfl ⟨((HB.out.cell (zq2_ w _ hw377_0)).trans hw377_0),((HB.out.cell (zq2_ w _ hw377_1)).trans hw377_1)⟩ (fun hHeld => ?_);refine with_tabW laws_heldFieldS.tab7 laws_heldFieldS.bits7 (fun HT_ HW_ => ?_)
       generalize w10.drew = w11 at HB hx377_0 hx377_1 hHeld ⊢
       refine pure_ (i:=0) (N:=some 22) (v:=?_) (a':=?_) #[Y,Z,Z,Z,Z,Z,Z,Z] rfl rfl (any_of HT_.out (by kernel_rfl)) (fun _ _ _ h => h) (Or.inl ⟨by rfl,?_⟩) ?_ ?_
       rotate_left
       ·
        intro w'
        go_simp
        with_reducible rfl
       rotate_left
       ·
        simp only [Act.put,lA_,lB_,lC_,i64_w,i32_w]
        rfl
       refine pure_ (i:=1) (N:=some 23) (v:=?_) (a':=?_) #[Y,Y,Z,Z,Z,Z,Z,Z] rfl rfl (any_of HT_.out (by kernel_rfl)) (fun _ _ _ h => h) (Or.inl ⟨by rfl,?_⟩) ?_ ?_
       rotate_left
       ·
        intro w'
        go_simp
        with_reducible rfl
       rotate_left
       ·
        simp only [Act.put,lA_,lB_,lC_,i64_w,i32_w]
        rfl
       refine pure_ (i:=2) (N:=some 24) (v:=?_) (a':=?_) #[Y,Y,Y,Z,Z,Z,Z,Z] rfl rfl (any_of HT_.out (by kernel_rfl)) (fun _ _ _ h => h) (Or.inl ⟨by rfl,?_⟩) ?_ ?_
       rotate_left
       ·
        intro w'
        go_simp
        with_reducible rfl
       rotate_left
       ·
        simp only [Act.put,lA_,lB_,lC_,i64_w,i32_w]
        rfl
       refine pure_ (i:=3) (N:=some 25) (v:=?_) (a':=?_) #[Y,Y,Y,Y,Z,Z,Z,Z] rfl rfl (any_of HT_.out (by kernel_rfl)) (fun _ _ _ h => h) (Or.inl ⟨by rfl,?_⟩) ?_ ?_
       rotate_left
       ·
        intro w'
        go_simp
        with_reducible rfl
       rotate_left
       ·
        simp only [Act.put,lA_,lB_,lC_,i64_w,i32_w]
        rfl
       refine pure_ (i:=5) (N:=some 27) (v:=?_) (a':=?_) #[Y,Y,Y,Y,Z,Y,Z,Z] rfl rfl (any_of HT_.out (by kernel_rfl)) (fun _ _ _ h => h) (Or.inl ⟨by rfl,?_⟩) ?_ ?_
       rotate_left
       ·
        intro w'
        go_simp
        with_reducible rfl
       rotate_left
       ·
        simp only [Act.put,lA_,lB_,lC_,i64_w,i32_w]
        rfl
       refine take_ (i:=4) (N:=some 26) (v:=?_) (a':=?_) #[Y,Y,Y,Y,Y,Y,Z,Z] rfl rfl (take_ofW HT_.out HW_.out (by kernel_rfl)) (fun _ _ _ h => h) (Or.inl ⟨by rfl,?_⟩) hHeld ?_ ?_
       rotate_left
       ·
        rintro w' ⟨s0,s1⟩
        go_simp
        with_reducible rfl
       rotate_left
       ·
        simp only [Act.put,lA_,lB_,lC_,i64_w,i32_w]
        rfl
       refine one_ (i:=6) (N:=some 28) #[Y,Y,Y,Y,Y,Y,Y,Z] rfl rfl (one_of HT_.out (by kernel_rfl)) (by decide) (fun K hK => ?_)
       refine goes_ Tryz.func37 (by kernel_rfl) rfl #[.int .i64 (wrap64 (x1_1 + 1))] (by rfl) rfl rfl zy ?_
       with_reducible refine (laws_markText.calls k1 (wrap64 (x1_1 + 1)) t378 _ A7.out).mono ?_
       rintro e w12 ⟨rfl,hb⟩
       refine ⟨_,rfl,?_⟩
       replace HB:=zm0_ (zn8_ (zl HB) hb)
       (try clear hb)
       (try clear hb2)
       (try clear hk)
       (try clear hi)
       refine hK.out _ _ ⟨((HB.out.cell (zq2_ w _ hw377_0)).trans hw377_0),((HB.out.cell (zq2_ w _ hw377_1)).trans hw377_1)⟩ (fun hHeld => ?_)
       clear hK K
       refine norm_ (a':=?_) ?_ ?_
       rotate_left
       ·
        show Act.put _ (some 28) _ = _
        simp only [Act.put,lA_,lB_,lC_,i64_w,i32_w]
        rfl
       refine pure_ (i:=7) (N:=some 29) (v:=?_) (a':=?_) #[Y,Y,Y,Y,Y,Y,Y,Y] rfl rfl (any_of HT_.out (by kernel_rfl)) (fun _ _ _ h => h) (Or.inl ⟨by rfl,?_⟩) ?_ ?_
       rotate_left
       ·
        intro w'
        go_simp
        with_reducible rfl
       rotate_left
       ·
        simp only [Act.put,lA_,lB_,lC_,i64_w,i32_w]
        rfl
       refine done_ (done_of HT_.out (by kernel_rfl)) ?_
       try go_wp2
       go_roundg k1
       case measure => have:=HK1.out;omega
       case rel => exact ⟨(wrap64 ((wrap64 (x1_1 + 1)) + 1)),(wrap64 (x5_1 + 1)),zz,zz,H',⟨by have:=HK1.out;omega⟩,⟨zl HB⟩⟩
      ·
       rw [if_neg c8] at H
       have c8b0 : (((rd_T36 l0 x5_1).f1).toList == t378.toList) = false:=beq_eq_false_iff_ne.mpr c8
       have c8b1 : (((rd_T36 l0 x5_1).f1).toList != t378.toList) = true:=bne_iff_ne.mpr c8
       obtain rfl:=Option.some.inj H
       try go_wp2
       replace HB:=zm0_ (zm4_ HB.out)
       have p375 : 0 ≤ (x5_1 : Int):=of_decide_eq_true (by first|(with_reducible assumption)|assumption)
       have q375 : x5_1 < (l0.length : Int):=of_decide_eq_true (by first|(with_reducible assumption)|assumption)
       obtain ⟨ad375,e375,hx375_0,hx375_1⟩:=at_T36 HR0.out x5_1 p375 q375
       have hw375_1:=hx375_1
       have hw375_0:=hx375_0
       cases e375
       replace hx375_0:=(HB.out.cell (zq2_ w _ hx375_0)).trans hx375_0
       replace hx375_1:=(HB.out.cell (zq2_ w _ hx375_1)).trans hx375_1
       replace p375:=eq_true p375
       replace q375:=eq_true q375
       refine start_ (n:=8) (S:=fun w' => w'.cell? (ad375.add ((x5_1).toNat * 2)) = some (.string ((rd_T36 l0 x5_1).f0)) ∧ w'.cell? ⟨(ad375.add ((x5_1).toNat * 2)).block,(ad375.add ((x5_1).toNat * 2)).off + 1,none⟩ = some (.string ((rd_T36 l0 x5_1).f1))) (ds:=[]) #[Z,Z,Z,Z,Z,Z,Z,Z] (by kernel_rfl) rfl rfl ⟨((HB.out.cell (zq2_ w _ hw375_0)).trans hw375_0),((HB.out.cell (zq2_ w _ hw375_1)).trans hw375_1)⟩ (fun hHeld => ?_);refine with_tabW laws_heldFieldS.tab4 laws_heldFieldS.bits4 (fun HT_ HW_ => ?_)
       generalize wr.drew = w13 at HB hx375_0 hx375_1 hHeld ⊢
       refine pure_ (i:=0) (N:=some 12) (v:=?_) (a':=?_) #[Y,Z,Z,Z,Z,Z,Z,Z] rfl rfl (any_of HT_.out (by kernel_rfl)) (fun _ _ _ h => h) (Or.inl ⟨by rfl,?_⟩) ?_ ?_
       rotate_left
       ·
        intro w'
        go_simp
        with_reducible rfl
       rotate_left
       ·
        simp only [Act.put,lA_,lB_,lC_,i64_w,i32_w]
        rfl
       refine pure_ (i:=1) (N:=some 13) (v:=?_) (a':=?_) #[Y,Y,Z,Z,Z,Z,Z,Z] rfl rfl (any_of HT_.out (by kernel_rfl)) (fun _ _ _ h => h) (Or.inl ⟨by rfl,?_⟩) ?_ ?_
       rotate_left
       ·
        intro w'
        go_simp
        with_reducible rfl
       rotate_left
       ·
        simp only [Act.put,lA_,lB_,lC_,i64_w,i32_w]
        rfl
       refine pure_ (i:=2) (N:=some 14) (v:=?_) (a':=?_) #[Y,Y,Y,Z,Z,Z,Z,Z] rfl rfl (any_of HT_.out (by kernel_rfl)) (fun _ _ _ h => h) (Or.inl ⟨by rfl,?_⟩) ?_ ?_
       rotate_left
       ·
        intro w'
        go_simp
        with_reducible rfl
       rotate_left
       ·
        simp only [Act.put,lA_,lB_,lC_,i64_w,i32_w]
        rfl
       refine pure_ (i:=3) (N:=some 15) (v:=?_) (a':=?_) #[Y,Y,Y,Y,Z,Z,Z,Z] rfl rfl (any_of HT_.out (by kernel_rfl)) (fun _ _ _ h => h) (Or.inl ⟨by rfl,?_⟩) ?_ ?_
       rotate_left
       ·
        intro w'
        go_simp
        with_reducible rfl
       rotate_left
       ·
        simp only [Act.put,lA_,lB_,lC_,i64_w,i32_w]
        rfl
       refine pure_ (i:=5) (N:=some 17) (v:=?_) (a':=?_) #[Y,Y,Y,Y,Z,Y,Z,Z] rfl rfl (any_of HT_.out (by kernel_rfl)) (fun _ _ _ h => h) (Or.inl ⟨by rfl,?_⟩) ?_ ?_
       rotate_left
       ·
        intro w'
        go_simp
        with_reducible rfl
       rotate_left
       ·
        simp only [Act.put,lA_,lB_,lC_,i64_w,i32_w]
        rfl
       refine take_ (i:=4) (N:=some 16) (v:=?_) (a':=?_) #[Y,Y,Y,Y,Y,Y,Z,Z] rfl rfl (take_ofW HT_.out HW_.out (by kernel_rfl)) (fun _ _ _ h => h) (Or.inl ⟨by rfl,?_⟩) hHeld ?_ ?_
       rotate_left
       ·
        rintro w' ⟨s0,s1⟩
        go_simp
        with_reducible rfl
       rotate_left
       ·
        simp only [Act.put,lA_,lB_,lC_,i64_w,i32_w]
        rfl
       refine one_ (i:=6) (N:=some 18) #[Y,Y,Y,Y,Y,Y,Y,Z] rfl rfl (one_of HT_.out (by kernel_rfl)) (by decide) (fun K hK => ?_)
       refine goes_ Tryz.func37 (by kernel_rfl) rfl #[.int .i64 x1_1] (by rfl) rfl rfl zy ?_
       with_reducible refine (laws_markText.calls k1 x1_1 t376 _ A5.out).mono ?_
       rintro e w14 ⟨rfl,hb⟩
       refine ⟨_,rfl,?_⟩
       replace HB:=zm0_ (zn8_ (zl HB) hb)
       (try clear hb)
       (try clear hb2)
       (try clear hk)
       (try clear hi)
       refine hK.out _ _ ⟨((HB.out.cell (zq2_ w _ hw375_0)).trans hw375_0),((HB.out.cell (zq2_ w _ hw375_1)).trans hw375_1)⟩ (fun hHeld => ?_)
       clear hK K
       refine norm_ (a':=?_) ?_ ?_
       rotate_left
       ·
        show Act.put _ (some 18) _ = _
        simp only [Act.put,lA_,lB_,lC_,i64_w,i32_w]
        rfl
       refine pure_ (i:=7) (N:=some 19) (v:=?_) (a':=?_) #[Y,Y,Y,Y,Y,Y,Y,Y] rfl rfl (any_of HT_.out (by kernel_rfl)) (fun _ _ _ h => h) (Or.inl ⟨by rfl,?_⟩) ?_ ?_
       rotate_left
       ·
        intro w'
        go_simp
        with_reducible rfl
       rotate_left
       ·
        simp only [Act.put,lA_,lB_,lC_,i64_w,i32_w]
        rfl
       refine done_ (done_of HT_.out (by kernel_rfl)) ?_
       try go_wp2
       replace HB:=zm0_ (zm4_ HB.out)
       have p377 : 0 ≤ (x5_1 : Int):=of_decide_eq_true (by first|(with_reducible assumption)|assumption)
       have q377 : x5_1 < (l0.length : Int):=of_decide_eq_true (by first|(with_reducible assumption)|assumption)
       obtain ⟨ad377,e377,hx377_0,hx377_1⟩:=at_T36 HR0.out x5_1 p377 q377
       have hw377_1:=hx377_1
       have hw377_0:=hx377_0
       obtain rfl : ad375 = ad377:=(by injection e377)
       replace hx377_0:=(HB.out.cell (zq2_ w _ hx377_0)).trans hx377_0
       replace hx377_1:=(HB.out.cell (zq2_ w _ hx377_1)).trans hx377_1
       replace p377:=eq_true p377
       replace q377:=eq_true q377
       refine start_ (n:=8) (S:=fun w' => w'.cell? (ad375.add ((x5_1).toNat * 2)) = some (.string ((rd_T36 l0 x5_1).f0)) ∧ w'.cell? ⟨(ad375.add ((x5_1).toNat * 2)).block,(ad375.add ((x5_1).toNat * 2)).off + 1,none⟩ = some (.string ((rd_T36 l0 x5_1).f1))) (ds:=[]) #[Z,Z,Z,Z,Z,Z,Z,Z] (by kernel_rfl) rfl rfl ⟨((HB.out.cell (zq2_ w _ hw377_0)).trans hw377_0),((HB.out.cell (zq2_ w _ hw377_1)).trans hw377_1)⟩ (fun hHeld => ?_);refine with_tabW laws_heldFieldS.tab7 laws_heldFieldS.bits7 (fun HT_ HW_ => ?_)
       generalize w14.drew = w15 at HB hx377_0 hx377_1 hHeld ⊢
       refine pure_ (i:=0) (N:=some 22) (v:=?_) (a':=?_) #[Y,Z,Z,Z,Z,Z,Z,Z] rfl rfl (any_of HT_.out (by kernel_rfl)) (fun _ _ _ h => h) (Or.inl ⟨by rfl,?_⟩) ?_ ?_
       rotate_left
       ·
        intro w'
        go_simp
        with_reducible rfl
       rotate_left
       ·
        simp only [Act.put,lA_,lB_,lC_,i64_w,i32_w]
        rfl
       refine pure_ (i:=1) (N:=some 23) (v:=?_) (a':=?_) #[Y,Y,Z,Z,Z,Z,Z,Z] rfl rfl (any_of HT_.out (by kernel_rfl)) (fun _ _ _ h => h) (Or.inl ⟨by rfl,?_⟩) ?_ ?_
       rotate_left
       ·
        intro w'
        go_simp
        with_reducible rfl
       rotate_left
       ·
        simp only [Act.put,lA_,lB_,lC_,i64_w,i32_w]
        rfl
       refine pure_ (i:=2) (N:=some 24) (v:=?_) (a':=?_) #[Y,Y,Y,Z,Z,Z,Z,Z] rfl rfl (any_of HT_.out (by kernel_rfl)) (fun _ _ _ h => h) (Or.inl ⟨by rfl,?_⟩) ?_ ?_
       rotate_left
       ·
        intro w'
        go_simp
        with_reducible rfl
       rotate_left
       ·
        simp only [Act.put,lA_,lB_,lC_,i64_w,i32_w]
        rfl
       refine pure_ (i:=3) (N:=some 25) (v:=?_) (a':=?_) #[Y,Y,Y,Y,Z,Z,Z,Z] rfl rfl (any_of HT_.out (by kernel_rfl)) (fun _ _ _ h => h) (Or.inl ⟨by rfl,?_⟩) ?_ ?_
       rotate_left
       ·
        intro w'
        go_simp
        with_reducible rfl
       rotate_left
       ·
        simp only [Act.put,lA_,lB_,lC_,i64_w,i32_w]
        rfl
       refine pure_ (i:=5) (N:=some 27) (v:=?_) (a':=?_) #[Y,Y,Y,Y,Z,Y,Z,Z] rfl rfl (any_of HT_.out (by kernel_rfl)) (fun _ _ _ h => h) (Or.inl ⟨by rfl,?_⟩) ?_ ?_
       rotate_left
       ·
        intro w'
        go_simp
        with_reducible rfl
       rotate_left
       ·
        simp only [Act.put,lA_,lB_,lC_,i64_w,i32_w]
        rfl
       refine take_ (i:=4) (N:=some 26) (v:=?_) (a':=?_) #[Y,Y,Y,Y,Y,Y,Z,Z] rfl rfl (take_ofW HT_.out HW_.out (by kernel_rfl)) (fun _ _ _ h => h) (Or.inl ⟨by rfl,?_⟩) hHeld ?_ ?_
       rotate_left
       ·
        rintro w' ⟨s0,s1⟩
        go_simp
        with_reducible rfl
       rotate_left
       ·
        simp only [Act.put,lA_,lB_,lC_,i64_w,i32_w]
        rfl
       refine one_ (i:=6) (N:=some 28) #[Y,Y,Y,Y,Y,Y,Y,Z] rfl rfl (one_of HT_.out (by kernel_rfl)) (by decide) (fun K hK => ?_)
       refine goes_ Tryz.func37 (by kernel_rfl) rfl #[.int .i64 (wrap64 (x1_1 + 1))] (by rfl) rfl rfl zy ?_
       with_reducible refine (laws_markText.calls k1 (wrap64 (x1_1 + 1)) t378 _ A7.out).mono ?_
       rintro e w16 ⟨rfl,hb⟩
       refine ⟨_,rfl,?_⟩
       replace HB:=zm0_ (zn8_ (zl HB) hb)
       (try clear hb)
       (try clear hb2)
       (try clear hk)
       (try clear hi)
       refine hK.out _ _ ⟨((HB.out.cell (zq2_ w _ hw377_0)).trans hw377_0),((HB.out.cell (zq2_ w _ hw377_1)).trans hw377_1)⟩ (fun hHeld => ?_)
       clear hK K
       refine norm_ (a':=?_) ?_ ?_
       rotate_left
       ·
        show Act.put _ (some 28) _ = _
        simp only [Act.put,lA_,lB_,lC_,i64_w,i32_w]
        rfl
       refine pure_ (i:=7) (N:=some 29) (v:=?_) (a':=?_) #[Y,Y,Y,Y,Y,Y,Y,Y] rfl rfl (any_of HT_.out (by kernel_rfl)) (fun _ _ _ h => h) (Or.inl ⟨by rfl,?_⟩) ?_ ?_
       rotate_left
       ·
        intro w'
        go_simp
        with_reducible rfl
       rotate_left
       ·
        simp only [Act.put,lA_,lB_,lC_,i64_w,i32_w]
        rfl
       refine done_ (done_of HT_.out (by kernel_rfl)) ?_
       try go_wp2
       go_ret
       exact ⟨ze,by repeat (first|(with_reducible first|exact HB.out|apply zm3_|apply zm2_|apply zm4_)|exact HB.out)⟩
     ·
      rw [if_neg c6] at H
      have c6b0 : (((rd_T36 l0 x5_1).f0).toList == t376.toList) = false:=beq_eq_false_iff_ne.mpr c6
      have c6b1 : (((rd_T36 l0 x5_1).f0).toList != t376.toList) = true:=bne_iff_ne.mpr c6
      obtain rfl:=Option.some.inj H
      try go_wp2
      replace HB:=zm0_ (zm4_ HB.out)
      have p375 : 0 ≤ (x5_1 : Int):=of_decide_eq_true (by first|(with_reducible assumption)|assumption)
      have q375 : x5_1 < (l0.length : Int):=of_decide_eq_true (by first|(with_reducible assumption)|assumption)
      obtain ⟨ad375,e375,hx375_0,hx375_1⟩:=at_T36 HR0.out x5_1 p375 q375
      have hw375_1:=hx375_1
      have hw375_0:=hx375_0
      cases e375
      replace hx375_0:=(HB.out.cell (zq2_ w _ hx375_0)).trans hx375_0
      replace hx375_1:=(HB.out.cell (zq2_ w _ hx375_1)).trans hx375_1
      replace p375:=eq_true p375
      replace q375:=eq_true q375
      refine start_ (n:=8) (S:=fun w' => w'.cell? (ad375.add ((x5_1).toNat * 2)) = some (.string ((rd_T36 l0 x5_1).f0)) ∧ w'.cell? ⟨(ad375.add ((x5_1).toNat * 2)).block,(ad375.add ((x5_1).toNat * 2)).off + 1,none⟩ = some (.string ((rd_T36 l0 x5_1).f1))) (ds:=[]) #[Z,Z,Z,Z,Z,Z,Z,Z] (by kernel_rfl) rfl rfl ⟨((HB.out.cell (zq2_ w _ hw375_0)).trans hw375_0),((HB.out.cell (zq2_ w _ hw375_1)).trans hw375_1)⟩ (fun hHeld => ?_);refine with_tabW laws_heldFieldS.tab4 laws_heldFieldS.bits4 (fun HT_ HW_ => ?_)
      generalize wr.drew = w17 at HB hx375_0 hx375_1 hHeld ⊢
      refine pure_ (i:=0) (N:=some 12) (v:=?_) (a':=?_) #[Y,Z,Z,Z,Z,Z,Z,Z] rfl rfl (any_of HT_.out (by kernel_rfl)) (fun _ _ _ h => h) (Or.inl ⟨by rfl,?_⟩) ?_ ?_
      rotate_left
      ·
       intro w'
       go_simp
       with_reducible rfl
      rotate_left
      ·
       simp only [Act.put,lA_,lB_,lC_,i64_w,i32_w]
       rfl
      refine pure_ (i:=1) (N:=some 13) (v:=?_) (a':=?_) #[Y,Y,Z,Z,Z,Z,Z,Z] rfl rfl (any_of HT_.out (by kernel_rfl)) (fun _ _ _ h => h) (Or.inl ⟨by rfl,?_⟩) ?_ ?_
      rotate_left
      ·
       intro w'
       go_simp
       with_reducible rfl
      rotate_left
      ·
       simp only [Act.put,lA_,lB_,lC_,i64_w,i32_w]
       rfl
      refine pure_ (i:=2) (N:=some 14) (v:=?_) (a':=?_) #[Y,Y,Y,Z,Z,Z,Z,Z] rfl rfl (any_of HT_.out (by kernel_rfl)) (fun _ _ _ h => h) (Or.inl ⟨by rfl,?_⟩) ?_ ?_
      rotate_left
      ·
       intro w'
       go_simp
       with_reducible rfl
      rotate_left
      ·
       simp only [Act.put,lA_,lB_,lC_,i64_w,i32_w]
       rfl
      refine pure_ (i:=3) (N:=some 15) (v:=?_) (a':=?_) #[Y,Y,Y,Y,Z,Z,Z,Z] rfl rfl (any_of HT_.out (by kernel_rfl)) (fun _ _ _ h => h) (Or.inl ⟨by rfl,?_⟩) ?_ ?_
      rotate_left
      ·
       intro w'
       go_simp
       with_reducible rfl
      rotate_left
      ·
       simp only [Act.put,lA_,lB_,lC_,i64_w,i32_w]
       rfl
      refine pure_ (i:=5) (N:=some 17) (v:=?_) (a':=?_) #[Y,Y,Y,Y,Z,Y,Z,Z] rfl rfl (any_of HT_.out (by kernel_rfl)) (fun _ _ _ h => h) (Or.inl ⟨by rfl,?_⟩) ?_ ?_
      rotate_left
      ·
       intro w'
       go_simp
       with_reducible rfl
      rotate_left
      ·
       simp only [Act.put,lA_,lB_,lC_,i64_w,i32_w]
       rfl
      refine take_ (i:=4) (N:=some 16) (v:=?_) (a':=?_) #[Y,Y,Y,Y,Y,Y,Z,Z] rfl rfl (take_ofW HT_.out HW_.out (by kernel_rfl)) (fun _ _ _ h => h) (Or.inl ⟨by rfl,?_⟩) hHeld ?_ ?_
      rotate_left
      ·
       rintro w' ⟨s0,s1⟩
       go_simp
       with_reducible rfl
      rotate_left
      ·
       simp only [Act.put,lA_,lB_,lC_,i64_w,i32_w]
       rfl
      refine one_ (i:=6) (N:=some 18) #[Y,Y,Y,Y,Y,Y,Y,Z] rfl rfl (one_of HT_.out (by kernel_rfl)) (by decide) (fun K hK => ?_)
      refine goes_ Tryz.func37 (by kernel_rfl) rfl #[.int .i64 x1_1] (by rfl) rfl rfl zy ?_
      with_reducible refine (laws_markText.calls k1 x1_1 t376 _ A5.out).mono ?_
      rintro e w18 ⟨rfl,hb⟩
      refine ⟨_,rfl,?_⟩
      replace HB:=zm0_ (zn8_ (zl HB) hb)
      (try clear hb)
      (try clear hb2)
      (try clear hk)
      (try clear hi)
      refine hK.out _ _ ⟨((HB.out.cell (zq2_ w _ hw375_0)).trans hw375_0),((HB.out.cell (zq2_ w _ hw375_1)).trans hw375_1)⟩ (fun hHeld => ?_)
      clear hK K
      refine norm_ (a':=?_) ?_ ?_
      rotate_left
      ·
       show Act.put _ (some 18) _ = _
       simp only [Act.put,lA_,lB_,lC_,i64_w,i32_w]
       rfl
      refine pure_ (i:=7) (N:=some 19) (v:=?_) (a':=?_) #[Y,Y,Y,Y,Y,Y,Y,Y] rfl rfl (any_of HT_.out (by kernel_rfl)) (fun _ _ _ h => h) (Or.inl ⟨by rfl,?_⟩) ?_ ?_
      rotate_left
      ·
       intro w'
       go_simp
       with_reducible rfl
      rotate_left
      ·
       simp only [Act.put,lA_,lB_,lC_,i64_w,i32_w]
       rfl
      refine done_ (done_of HT_.out (by kernel_rfl)) ?_
      try go_wp2
      go_ret
      exact ⟨ze,by repeat (first|(with_reducible first|exact HB.out|apply zm3_|apply zm2_|apply zm4_)|exact HB.out)⟩
    ·
     rw [if_neg c4] at H
     exact absurd H (by simp)
   ·
    rw [if_neg c3] at H
    have c3b0 : decide (x5_1 < (l0.length : Int)) = false:=decide_eq_false c3
    clear c3
    obtain rfl:=Option.some.inj H
    go_wp2
    go_ret
    exact ⟨ze,by repeat (first|(with_reducible first|exact HB.out|apply zm3_|apply zm2_|apply zm4_)|exact HB.out)⟩
end Go.Proofs.YthflimnpiglgbaaGreatDoor.A
end
section
namespace Go.Proofs.YthflimnpiglgbaaGreatDoor.A
open Go.RowKit Go.Proofs.YthflimnpiglgbaaGreatDoorW.PrintWords Go.Proofs.YthflimnpiglgbaaGreatDoorW.PrintLast Go.Proofs.YthflimnpiglgbaaGreatDoorW.PrintMore
attribute [local go_sem] max2_int min2_int max_two min_two max_three min_three max_four min_four   -- for this text's walks alone
set_option linter.unusedVariables false
set_option linter.unusedSimpArgs false

def laws_heldTable.f (k : Nat) (a0_0 : Int) (l0_1 : List (S36)) (a1 : Int) : Option (Int):=(laws_heldFieldS.f k l0_1 a1).bind fun t380 => (if t380 < 0 then (some (-1)) else (some t380))
theorem laws_heldTable.mono : ∀ a0 a1 a2 k,LeO (laws_heldTable.f k a0 a1 a2) (laws_heldTable.f (k + 1) a0 a1 a2):=by
 intro a0 a1 a2 k
 unfold laws_heldTable.f
 repeat' first
  | (with_reducible exact laws_heldFieldS.mono _ _ _)
  | (with_reducible exact LeO.refl _)
  | (with_reducible exact LeO.none _)
  | (with_reducible refine LeO.ite ?_ ?_)
  | (with_reducible refine LeO.bind ?_ (fun _ => ?_))
  | exact laws_heldFieldS.mono _ _ _
  | exact LeO.none _
  | refine LeO.ite ?_ ?_
  | refine LeO.bind ?_ (fun _ => ?_)
set_option maxHeartbeats 8000000 in
set_option maxRecDepth 100000 in
theorem laws_heldTable.calls (k : Nat) (a0_0 : Int) (A0_1 : Option Addr) (c0_1 : Nat) (l0_1 : List (S36)) (a1 : Int) (r : Int) (w : World) (hr0_1 : Kd.C k36 w A0_1 l0_1.length l0_1) (hc0_1 : l0_1.length ≤ c0_1) (h : laws_heldTable.f k a0_0 l0_1 a1 = some r) :
 Calls Tryz.prog 16 #[.agg #[.int .i64 a0_0,.slice A0_1 l0_1.length c0_1],.int .i64 a1] w fun e w' => e = .returned (.int .i64 r) ∧ Below w.heap.size w w':=by
 have hu32:=Tryz.underlying32
 have HR0_1:=zm0_ hr0_1
 have HC0_1:=zm0_ hc0_1
 clear hr0_1 hc0_1
 have HB:=zm0_ (Below.refl w.heap.size w)
 have H : ((laws_heldFieldS.f k l0_1 a1).bind fun t380 => (if t380 < 0 then (some (-1)) else (some t380))) = some r:=h
 clear h
 replace H:=zq1_ H
 obtain ⟨t380,A30,H⟩:=H
 replace H : (if t380 < 0 then (some (-1)) else (some t380)) = some r:=H
 have A3:=zm0_ A30
 clear A30
 by_cases c4 : t380 < 0
 ·
  rw [if_pos c4] at H
  have c4b0 : decide (t380 < 0) = true:=decide_eq_true c4
  clear c4
  obtain rfl:=Option.some.inj H
  go_enter Tryz.func16,Tryz.ntmps16
  go_wp2_with (first|((with_reducible refine gate_dst (N:=2) rfl ?_);refine box_event ?hg (N:=2) ?hd (cs:=#[.int .i64 a0_0,.slice A0_1 l0_1.length c0_1]) (t:=32) ?hr ?_;(case hd => rfl);(case hg => rfl);(case hr => first|(go_simp;done)|(go_simp;rfl));intro gb379 hg w5 hbox hb;have BK379:=zm0_ (hbox);have GW379:=zm0_ ((by rw [hg];exact (zn9_ (zl HB)) : w.heap.size ≤ gb379));have GE379:=zm0_ ((by rw [hg];exact (zn9_ (zl HB)) : w.heap.size ≤ gb379));replace HB:=zm0_ (zn8_ (zl HB) hb);clear hb hbox hg;have hcz6_0 : w5.cell? ⟨gb379,0,none⟩ = some (.int .i64 a0_0):=(zm6_ BK379.out 0).trans rfl;have hcz6_1 : w5.cell? ⟨gb379,1,none⟩ = some (.slice A0_1 l0_1.length c0_1):=(zm6_ BK379.out 1).trans rfl;have hfz6_0:=zm7_ BK379.out 0;have hfz6_1:=zm7_ BK379.out 1)|((with_reducible refine gate_callee (f:=35) rfl ?_);refine goesL_ (some 8) rfl rfl Tryz.func35 (by kernel_rfl) rfl #[.slice A0_1 l0_1.length c0_1,.int .i64 a1] rfl zy ?_;(with_reducible refine (laws_heldFieldS.calls k _ _ l0_1 a1 t380 _ ?side1 ?side2 A3.out).mono ?_);(case side1 => repeat (first|exact (Kd.C_below HR0_1.out HB.out)|(with_reducible refine Kd.C_alloc ?_ _)|(with_reducible refine Kd.C_drewN ?_ _)|(with_reducible refine Kd.C_drew ?_)));(case side2 => exact HC0_1.out);rintro e w7 ⟨rfl,hb⟩;refine ⟨_,rfl,?_⟩;replace BK379:=zm0_ (zm5_ (zb BK379) hb);replace HB:=zm0_ (zn8_ (zl1 HB GE379) hb);(try clear hb);(try clear hb2);(try clear hk);(try clear hi)))
  go_ret
  exact ⟨ze,by repeat (first|(with_reducible first|exact HB.out|apply zm3_|apply zm2_|apply zm4_|refine zm1_ ?_ GE379.out)|exact HB.out)⟩
 ·
  rw [if_neg c4] at H
  have c4b0 : decide (t380 < 0) = false:=decide_eq_false c4
  clear c4
  obtain rfl:=Option.some.inj H
  go_enter Tryz.func16,Tryz.ntmps16
  go_wp2_with (first|((with_reducible refine gate_dst (N:=2) rfl ?_);refine box_event ?hg (N:=2) ?hd (cs:=#[.int .i64 a0_0,.slice A0_1 l0_1.length c0_1]) (t:=32) ?hr ?_;(case hd => rfl);(case hg => rfl);(case hr => first|(go_simp;done)|(go_simp;rfl));intro gb379 hg w8 hbox hb;have BK379:=zm0_ (hbox);have GW379:=zm0_ ((by rw [hg];exact (zn9_ (zl HB)) : w.heap.size ≤ gb379));have GE379:=zm0_ ((by rw [hg];exact (zn9_ (zl HB)) : w.heap.size ≤ gb379));replace HB:=zm0_ (zn8_ (zl HB) hb);clear hb hbox hg;have hcz9_0 : w8.cell? ⟨gb379,0,none⟩ = some (.int .i64 a0_0):=(zm6_ BK379.out 0).trans rfl;have hcz9_1 : w8.cell? ⟨gb379,1,none⟩ = some (.slice A0_1 l0_1.length c0_1):=(zm6_ BK379.out 1).trans rfl;have hfz9_0:=zm7_ BK379.out 0;have hfz9_1:=zm7_ BK379.out 1)|((with_reducible refine gate_callee (f:=35) rfl ?_);refine goesL_ (some 8) rfl rfl Tryz.func35 (by kernel_rfl) rfl #[.slice A0_1 l0_1.length c0_1,.int .i64 a1] rfl zy ?_;(with_reducible refine (laws_heldFieldS.calls k _ _ l0_1 a1 t380 _ ?side1 ?side2 A3.out).mono ?_);(case side1 => repeat (first|exact (Kd.C_below HR0_1.out HB.out)|(with_reducible refine Kd.C_alloc ?_ _)|(with_reducible refine Kd.C_drewN ?_ _)|(with_reducible refine Kd.C_drew ?_)));(case side2 => exact HC0_1.out);rintro e w10 ⟨rfl,hb⟩;refine ⟨_,rfl,?_⟩;replace BK379:=zm0_ (zm5_ (zb BK379) hb);replace HB:=zm0_ (zn8_ (zl1 HB GE379) hb);(try clear hb);(try clear hb2);(try clear hk);(try clear hi)))
  go_ret
  exact ⟨ze,by repeat (first|(with_reducible first|exact HB.out|apply zm3_|apply zm2_|apply zm4_|refine zm1_ ?_ GE379.out)|exact HB.out)⟩
end Go.Proofs.YthflimnpiglgbaaGreatDoor.A
end
section
namespace Go.Proofs.YthflimnpiglgbaaGreatDoor.A
open Go.RowKit Go.Proofs.YthflimnpiglgbaaGreatDoorW.PrintWords Go.Proofs.YthflimnpiglgbaaGreatDoorW.PrintLast Go.Proofs.YthflimnpiglgbaaGreatDoorW.PrintMore
attribute [local go_sem] max2_int min2_int max_two min_two max_three min_three max_four min_four   -- for this text's walks alone
set_option linter.unusedVariables false
set_option linter.unusedSimpArgs false

def spec_l4Copy.f (a0_0 : Int) (l0_1 : List (S36)) : Option (Int × (List (S36))):=(some (([] : List (S36)) : List (S36))).bind fun y108 => (if y108.length + l0_1.length < 4398046511104 then (some (a0_0,(y108 ++ l0_1))) else (none))
def spec_l4Copy.T1 : Bool × List (List Nat × List Nat):=(true,[([],[]),([0],[0]),([],[]),([],[]),([3],[3]),([2,4],[2,4]),([1,5],[1,5]),([6,5,0,1,2,3,4,5,6],[6])])
def spec_l4Copy.B1 : List Nat:=[0,1,0,0,8,28,63,127]
theorem spec_l4Copy.tab1 : rtab .any (opsOf Tryz.f23 1) = spec_l4Copy.T1:=by kernel_rfl
theorem spec_l4Copy.bits1 : waitsOk spec_l4Copy.T1.2 spec_l4Copy.B1 = true:=by kernel_rfl
set_option maxHeartbeats 8000000 in
set_option maxRecDepth 100000 in
theorem spec_l4Copy.calls (a0_0 : Int) (A0_1 : Option Addr) (c0_1 : Nat) (l0_1 : List (S36)) (r1 : Int) (r2 : List (S36)) (w : World) (hr0_1 : Kd.C k36 w A0_1 l0_1.length l0_1) (hc0_1 : l0_1.length ≤ c0_1) (h : spec_l4Copy.f a0_0 l0_1 = some (r1,r2)) :
 Calls Tryz.prog 23 #[.agg #[.int .i64 a0_0,.slice A0_1 l0_1.length c0_1]] w fun e w' => ∃ v1_ : Value,e = .returned (.agg #[.int .i64 r1,v1_]) ∧ Kd.R k36 36 w' w.heap.size (fun _ => True) v1_ r2 ∧ Below w.heap.size w w':=by
 have hu32:=Tryz.underlying32
 have HR0_1:=zm0_ hr0_1
 have HC0_1:=zm0_ hc0_1
 clear hr0_1 hc0_1
 have HB:=zm0_ (Below.refl w.heap.size w)
 have H : ((some (([] : List (S36)) : List (S36))).bind fun y108 => (if y108.length + l0_1.length < 4398046511104 then (some (a0_0,(y108 ++ l0_1))) else (none))) = some (r1,r2):=h
 clear h
 obtain ⟨y108,hy108⟩ : ∃ y_ : List (S36),y_ = (([] : List (S36))):=⟨_,rfl⟩
 replace H : (if y108.length + l0_1.length < 4398046511104 then (some (a0_0,(y108 ++ l0_1))) else (none)) = some (r1,r2):=by first|(rw [hy108];with_reducible exact H)|(have H2_:=(Option.bind_some _ _).symm.trans H;rw [hy108];with_reducible exact H2_)|(have H2_:=(Option.bind_some _ _).symm.trans H;with_reducible exact H2_)|with_reducible exact H|(rw [hy108];exact H)|exact H
 have Ny108:=zm0_ hy108
 clear hy108
 by_cases c2 : y108.length + l0_1.length < 4398046511104
 ·
  rw [if_pos c2] at H
  have LMc2:=zm0_ c2
  clear c2
  obtain ⟨y111,hy111⟩ : ∃ y_ : List (S36),y_ = (y108 ++ l0_1):=⟨_,rfl⟩
  replace H : (some (a0_0,y111)) = some (r1,r2):=by first|(rw [hy111];with_reducible exact H)|(have H2_:=(Option.bind_some _ _).symm.trans H;rw [hy111];with_reducible exact H2_)|(have H2_:=(Option.bind_some _ _).symm.trans H;with_reducible exact H2_)|with_reducible exact H|(rw [hy111];exact H)|exact H
  have Ny111:=zm0_ hy111
  clear hy111
  simp only [Option.some.injEq,Prod.mk.injEq] at H
  obtain ⟨rfl,rfl⟩:=H
  go_enter Tryz.func23,Tryz.ntmps23
  try go_wp2_with (first|((with_reducible refine gate_dst (N:=1) rfl ?_);refine box_event ?hg (N:=1) ?hd (cs:=#[.int .i64 a0_0,.slice A0_1 l0_1.length c0_1]) (t:=32) ?hr ?_;(case hd => rfl);(case hg => rfl);(case hr => first|(go_simp;done)|(go_simp;rfl));intro gb106 hg w3 hbox hb;have BK106:=zm0_ (hbox);have GW106:=zm0_ ((by rw [hg];exact (zn9_ (zl HB)) : w.heap.size ≤ gb106));have GE106:=zm0_ ((by rw [hg];exact (zn9_ (zl HB)) : w.heap.size ≤ gb106));replace HB:=zm0_ (zn8_ (zl HB) hb);clear hb hbox hg)|((with_reducible refine gate_dst (N:=2) rfl ?_);refine box_event ?hg (N:=2) ?hd (cs:=#[.int .i64 0,.slice none 0 0]) (t:=32) ?hr ?_;(case hd => rfl);(case hg => rfl);(case hr => first|(go_simp;done)|(go_simp;rfl));intro gb107 hg w4 hbox hb;have BK107:=zm0_ (hbox);have GW107:=zm0_ ((by rw [hg];exact (zn9_ (zl1 HB GE106)) : w.heap.size ≤ gb107));have GE107:=zm0_ ((by rw [hg];exact (zn9_ (zl1 HB GE106)) : w.heap.size ≤ gb107));replace HB:=zm0_ (zn8_ (zl1 HB GE106) hb);have NB106_107:=zm0_ ((by rw [hg];exact Nat.ne_of_lt (zo3_ (g:=gb106) (o:=.cells #[.int .i64 a0_0,.slice A0_1 l0_1.length c0_1] 32 (0,0)) (zb BK106)) : gb106 ≠ gb107));have NB107_106:=zm0_ ((by rw [hg];exact Nat.ne_of_gt (zo3_ (g:=gb106) (o:=.cells #[.int .i64 a0_0,.slice A0_1 l0_1.length c0_1] 32 (0,0)) (zb BK106)) : gb107 ≠ gb106));replace BK106:=zm0_ (zm5_ (zb BK106) hb);clear hb hbox hg))
  replace BK106:=zm0_ (k7_ BK106.out)
  replace BK107:=zm0_ (k7_ BK107.out)
  replace HB:=zm0_ (zm4_ HB.out)
  refine start_ (n:=8) (S:=fun w' => w'.cell? ⟨gb106,0,none⟩ = some (.int .i64 a0_0) ∧ w'.cell? ⟨gb106,1,none⟩ = some (.slice A0_1 l0_1.length c0_1)) (ds:=[]) #[Z,Z,Z,Z,Z,Z,Z,Z] (by kernel_rfl) rfl rfl ⟨(zm6_ BK106.out 0).trans rfl,(zm6_ BK106.out 1).trans rfl⟩ (fun hHeld => ?_);refine with_tabW spec_l4Copy.tab1 spec_l4Copy.bits1 (fun HT_ HW_ => ?_)
  generalize w4.drew = w5 at BK106 BK107 HB hHeld ⊢
  refine pure_ (i:=0) (N:=some 3) (v:=?_) (a':=?_) #[Y,Z,Z,Z,Z,Z,Z,Z] rfl rfl (any_of HT_.out (by kernel_rfl)) (fun _ _ _ h => h) (Or.inl ⟨by rfl,?_⟩) ?_ ?_
  rotate_left
  ·
   intro w'
   go_simp
   with_reducible rfl
  rotate_left
  ·
   simp only [Act.put,lA_,lB_,lC_,i64_w,i32_w]
   rfl
  refine pure_ (i:=3) (N:=some 6) (v:=?_) (a':=?_) #[Y,Z,Z,Y,Z,Z,Z,Z] rfl rfl (any_of HT_.out (by kernel_rfl)) (fun _ _ _ h => h) (Or.inl ⟨by rfl,?_⟩) ?_ ?_
  rotate_left
  ·
   intro w'
   go_simp
   with_reducible rfl
  rotate_left
  ·
   simp only [Act.put,lA_,lB_,lC_,i64_w,i32_w]
   rfl
  refine take_ (i:=1) (N:=some 4) (v:=?_) (a':=?_) #[Y,Y,Z,Y,Z,Z,Z,Z] rfl rfl (take_ofW HT_.out HW_.out (by kernel_rfl)) (fun _ _ _ h => h) (Or.inl ⟨by rfl,?_⟩) hHeld ?_ ?_
  rotate_left
  ·
   rintro w' ⟨s0,s1⟩
   go_simp
   with_reducible rfl
  rotate_left
  ·
   simp only [Act.put,lA_,lB_,lC_,i64_w,i32_w]
   rfl
  refine take_ (i:=4) (N:=some 7) (v:=?_) (a':=?_) #[Y,Y,Z,Y,Y,Z,Z,Z] rfl rfl (take_ofW HT_.out HW_.out (by kernel_rfl)) (fun _ _ _ h => h) (Or.inl ⟨by rfl,?_⟩) hHeld ?_ ?_
  rotate_left
  ·
   rintro w' ⟨s0,s1⟩
   go_simp
   with_reducible rfl
  rotate_left
  ·
   simp only [Act.put,lA_,lB_,lC_,i64_w,i32_w]
   rfl
  refine one_ (i:=2) (N:=some 5) #[Y,Y,Y,Y,Y,Z,Z,Z] rfl rfl (one_of HT_.out (by kernel_rfl)) (by decide) (fun K hK => ?_)
  refine Kd.R_lit_step k36 _ 36 ?hg (N:=5) ?hd (xs:=([] : List (S36))) (inner:=[]) (ok:=fun _ => True) (okp:=fun _ => True) ?hr ?hp (fun _ hk => hk) trivial (Below.refl _ _) (Nat.le_refl _) (by simp) ?_;(case hd => rfl);(case hg => rfl);(case hr => first|(go_simp;done)|(go_simp;rfl));(case hp => exact (Reps.none _ _))
  intro v109 w6 ho7 hb hg_ hnew_
  clear hg_ hnew_
  (first|rw [← Ny108.out] at ho7|(simp only [Int.reduceToNat] at ho7;rw [← Ny108.out] at ho7))
  have HO110:=zm0_ (zo1_ ho7 (zn9_ (zl2 HB GE106 GE107)))
  replace BK106:=zm0_ (zm5_ (zb BK106) hb)
  replace BK107:=zm0_ (zm5_ (zb BK107) hb)
  replace HB:=zm0_ (zn8_ (zl2 HB GE106 GE107) hb)
  clear hb ho7
  refine hK.out _ _ ⟨(zm6_ BK106.out 0).trans rfl,(zm6_ BK106.out 1).trans rfl⟩ (fun hHeld => ?_)
  clear hK K
  refine norm_ (a':=?_) ?_ ?_
  rotate_left
  ·
   show Act.put _ (some 5) _ = _
   simp only [Act.put,lA_,lB_,lC_,i64_w,i32_w]
   rfl
  refine one_ (i:=5) (N:=some 8) #[Y,Y,Y,Y,Y,Y,Z,Z] rfl rfl (one_of HT_.out (by kernel_rfl)) (by decide) (fun K hK => ?_)
  refine Kd.R_append_rows_step k36 (w0:=w) w.heap.size (by rfl) (.tmp 5) (.tmp 7) 30 36 (.agg #[(.string ⟨#[]⟩),(.string ⟨#[]⟩)]) 32 rfl Tryz.underlying30 info36 rfl (by decide) (by omega) v109 y108 l0_1 _ _ _ (fun _ => True) (fun _ => False) rfl rfl ?aO ?aR (fun _ _ h => h) (fun _ h => h.elim) ?aF ?aB ?aS ?aL ?_
  (case aR => repeat (first|exact (Kd.C_below HR0_1.out HB.out)|(with_reducible refine Kd.C_alloc ?_ _)|(with_reducible refine Kd.C_drewN ?_ _)|(with_reducible refine Kd.C_drew ?_)))
  (case aB => exact (zl2 HB GE106 GE107))
  (case aF => exact (fun _ _ => trivial))
  (case aO => exact (zr HO110))
  (case aS => exact (zn9_ (zl2 HB GE106 GE107)))
  (case aL => have:=LMc2.out;omega)
  intro v112 w8 ho hb hg hat
  (first|(with_reducible rw [← Ny111.out] at ho)|(simp only [Int.reduceToNat] at ho;with_reducible rw [← Ny111.out] at ho)|rw [← Ny111.out] at ho)
  replace BK106:=zm0_ (blk_grown (g:=gb106) (o:=.cells #[.int .i64 a0_0,.slice A0_1 l0_1.length c0_1] 32 (0,0)) (zb BK106) hg (Kd.R_ne HO110.out BK106.out (by decide)))
  replace BK107:=zm0_ (blk_grown (g:=gb107) (o:=.cells #[.int .i64 0,.slice none 0 0] 32 (0,0)) (zb BK107) hg (Kd.R_ne HO110.out BK107.out (by decide)))
  replace HB:=zm0_ (hb)
  have HO113:=zm0_ (ho)
  clear HO110 ho hb hg hat
  obtain ⟨Ao9,co9,eo9⟩:=Kd.R_slice HO113.out
  (first|subst eo9|(injection eo9 with f1_ f2_ f3_;have f4_:=f1_.symm;have f5_:=f3_.symm;clear f1_ f2_ f3_;subst f4_;subst f5_))
  refine hK.out _ _ ⟨(zm6_ BK106.out 0).trans rfl,(zm6_ BK106.out 1).trans rfl⟩ (fun hHeld => ?_)
  clear hK K
  refine norm_ (a':=?_) ?_ ?_
  rotate_left
  ·
   show Act.put _ (some 8) _ = _
   simp only [Act.put,lA_,lB_,lC_,i64_w,i32_w]
   rfl
  refine pure_ (i:=6) (N:=some 9) (v:=?_) (a':=?_) #[Y,Y,Y,Y,Y,Y,Y,Z] rfl rfl (any_of HT_.out (by kernel_rfl)) (fun _ _ _ h => h) (Or.inl ⟨by rfl,?_⟩) ?_ ?_
  rotate_left
  ·
   intro w'
   go_simp
   with_reducible rfl
  rotate_left
  ·
   simp only [Act.put,lA_,lB_,lC_,i64_w,i32_w]
   rfl
  refine one_ (i:=7) (N:=none) #[Y,Y,Y,Y,Y,Y,Y,Y] rfl rfl (one_of HT_.out (by kernel_rfl)) (by decide) (fun K hK => ?_)
  have hs10 : w8.cell? ⟨gb107,0,none⟩ = some (.int .i64 0):=(zm6_ BK107.out 0).trans rfl
  have hfs10:=zm7_ BK107.out 0
  have hns10_0:=NB106_107.out
  have hms10_0:=NB107_106.out
  have hs11 : w8.cell? ⟨gb107,1,none⟩ = some (.slice none 0 0):=(zm6_ BK107.out 1).trans rfl
  have hfs11:=zm7_ BK107.out 1
  have hns11_0:=NB106_107.out
  have hms11_0:=NB107_106.out
  refine skip_ (w1:=?_) (by rfl) rfl ?_ ?_
  rotate_left
  ·
   go_simp
   rfl
  refine hK.out _ _ ⟨((cell_far (p:=⟨gb107,_,none⟩) NB106_107.out _).trans (((cell_far (p:=⟨gb107,_,none⟩) NB106_107.out _).trans (hHeld.1)))),((cell_far (p:=⟨gb107,_,none⟩) NB106_107.out _).trans (((cell_far (p:=⟨gb107,_,none⟩) NB106_107.out _).trans (hHeld.2))))⟩ (fun hHeld => ?_)
  clear hK K
  refine done_ (done_of HT_.out (by kernel_rfl)) ?_
  try go_wp2
  refine bodyPost_ret (results_cell_row rfl _ _ gb107 32 #[.int .i64 a0_0,.slice Ao9 y111.length co9] (0,0) _ rfl (by (with_reducible repeat (first|refine k6_ ?_ _|refine k7_ ?_|refine k5_ ?_ _));refine blk_put (cs:=#[.int .i64 a0_0,.slice none 0 0]) ?_ 1 _ rfl;(with_reducible repeat (first|refine k6_ ?_ _|refine k7_ ?_|refine k5_ ?_ _));refine blk_put (cs:=#[.int .i64 0,.slice none 0 0]) ?_ 0 _ rfl;(with_reducible repeat (first|refine k6_ ?_ _|refine k7_ ?_|refine k5_ ?_ _));exact BK107.out) Tryz.underlying32 rfl (by kernel_rfl)) rfl ?_
  exact ⟨_,ze,by (with_reducible repeat (first|apply k1_|apply k2_|apply k3_));exact zo2_ (k4_ (p:=⟨gb107,1,none⟩) (k4_ (p:=⟨gb107,0,none⟩) (Kd.R_types HO113.out BK107.out (by decide)) (fun _ hk => hk.2) (.int .i64 a0_0)) (fun _ hk => hk.2) (.slice Ao9 y111.length co9)) (fun _ hk => trivial),by repeat (first|(with_reducible first|exact HB.out|apply zm3_|apply zm2_|apply zm4_|refine zm1_ ?_ GE106.out|refine zm1_ ?_ GE107.out)|exact HB.out)⟩
 ·
  rw [if_neg c2] at H
  exact absurd H (by simp)
end Go.Proofs.YthflimnpiglgbaaGreatDoor.A
end
section
namespace Go.Proofs.YthflimnpiglgbaaGreatDoor.A
open Go.RowKit Go.Proofs.YthflimnpiglgbaaGreatDoorW.PrintWords Go.Proofs.YthflimnpiglgbaaGreatDoorW.PrintLast Go.Proofs.YthflimnpiglgbaaGreatDoorW.PrintMore
attribute [local go_sem] max2_int min2_int max_two min_two max_three min_three max_four min_four   -- for this text's walks alone
set_option linter.unusedVariables false
set_option linter.unusedSimpArgs false

def spec_l1In.f (a0 : Int) (a1 : Int) (a2 : Int) : Option (Bool):=if a0 ≥ a1 then (some (decide (a0 ≤ a2))) else (some false)
set_option maxHeartbeats 8000000 in
set_option maxRecDepth 100000 in
theorem spec_l1In.calls (a0 : Int) (a1 : Int) (a2 : Int) (r : Bool) (w : World) (h : spec_l1In.f a0 a1 a2 = some r) :
 Calls Tryz.prog 25 #[.int .i64 a0,.int .i64 a1,.int .i64 a2] w fun e w' => e = .returned (.bool r) ∧ Drawn0 w w':=by
 have H : (if a0 ≥ a1 then (some (decide (a0 ≤ a2))) else (some false)) = some r:=h
 clear h
 by_cases c4 : a0 ≥ a1
 ·
  rw [if_pos c4] at H
  have c4b0 : decide (a1 ≤ a0) = true:=decide_eq_true c4
  clear c4
  obtain rfl:=Option.some.inj H
  go_enter Tryz.func25,Tryz.ntmps25
  go_wp2
  go_ret
  exact ⟨by first|rfl|(simp;done)|(simp [*];done),by repeat (first|exact Drawn0.refl _|apply Drawn0.step)⟩
 ·
  rw [if_neg c4] at H
  have c4b0 : decide (a1 ≤ a0) = false:=decide_eq_false c4
  clear c4
  obtain rfl:=Option.some.inj H
  go_enter Tryz.func25,Tryz.ntmps25
  go_wp2
  go_ret
  exact ⟨by first|rfl|(simp;done)|(simp [*];done),by repeat (first|exact Drawn0.refl _|apply Drawn0.step)⟩
def spec_l4Of.f (a0_0 : ByteArray) (a0_1 : ByteArray) : Option (Int):=some (wrap64 ((wrap64 ((a0_0.size : Int) + (a0_1.size : Int))) + 32))
set_option maxHeartbeats 8000000 in
set_option maxRecDepth 100000 in
theorem spec_l4Of.calls (a0_0 : ByteArray) (a0_1 : ByteArray) (r : Int) (w : World) (h : spec_l4Of.f a0_0 a0_1 = some r) :
 Calls Tryz.prog 49 #[.agg #[.string a0_0,.string a0_1]] w fun e w' => e = .returned (.int .i64 r) ∧ Below w.heap.size w w':=by
 have hu36:=Tryz.underlying36
 have HB:=zm0_ (Below.refl w.heap.size w)
 have H : (some (wrap64 ((wrap64 ((a0_0.size : Int) + (a0_1.size : Int))) + 32))) = some r:=h
 clear h
 obtain rfl:=Option.some.inj H
 go_enter Tryz.func49,Tryz.ntmps49
 go_wp2_with (first|((with_reducible refine gate_dst (N:=1) rfl ?_);refine box_event ?hg (N:=1) ?hd (cs:=#[.string a0_0,.string a0_1]) (t:=36) ?hr ?_;(case hd => rfl);(case hg => rfl);(case hr => first|(go_simp;done)|(go_simp;rfl));intro gb114 hg w2 hbox hb;have BK114:=zm0_ (hbox);have GW114:=zm0_ ((by rw [hg];exact (zn9_ (zl HB)) : w.heap.size ≤ gb114));have GE114:=zm0_ ((by rw [hg];exact (zn9_ (zl HB)) : w.heap.size ≤ gb114));replace HB:=zm0_ (zn8_ (zl HB) hb);clear hb hbox hg;have hcz3_0 : w2.cell? ⟨gb114,0,none⟩ = some (.string a0_0):=(zm6_ BK114.out 0).trans rfl;have hcz3_1 : w2.cell? ⟨gb114,1,none⟩ = some (.string a0_1):=(zm6_ BK114.out 1).trans rfl;have hfz3_0:=zm7_ BK114.out 0;have hfz3_1:=zm7_ BK114.out 1))
 go_ret
 exact ⟨ze,by repeat (first|(with_reducible first|exact HB.out|apply zm3_|apply zm2_|apply zm4_|refine zm1_ ?_ GE114.out)|exact HB.out)⟩
def spec_SizeOf.l0 : Nat → Int → Int → Int → List (S36) → Option (Int)
 | 0,_,_,_,_ => none
 | k + 1,x3,x4,x116000,x116001 => if x4 < (x116001.length : Int) then (if 0 ≤ x4 then ((spec_l4Of.f ((rd_T36 x116001 x4).f0) ((rd_T36 x116001 x4).f1)).bind fun t117 => (spec_SizeOf.l0 k (wrap64 (x3 + t117)) (wrap64 (x4 + 1)) x116000 x116001)) else (none)) else (some x3)
def spec_SizeOf.f (k : Nat) (a0_0 : Int) (l0_1 : List (S36)) : Option (Int):=spec_SizeOf.l0 k 0 0 a0_0 l0_1
theorem spec_SizeOf.mono_l : ∀ k,(∀ y0 y1 y2 y3,LeO (spec_SizeOf.l0 k y0 y1 y2 y3) (spec_SizeOf.l0 (k + 1) y0 y1 y2 y3))
 | 0 => fun _ _ _ _ r h => by simp [spec_SizeOf.l0] at h
 | k + 1 => by
  have ih0:=spec_SizeOf.mono_l k
  ·
   intro y0 y1 y2 y3
   unfold spec_SizeOf.l0
   repeat' first
   | (with_reducible exact ih0 _ _ _ _)
   | (with_reducible exact LeO.refl _)
   | (with_reducible exact LeO.none _)
   | (with_reducible refine LeO.ite ?_ ?_)
   | (with_reducible refine LeO.bind ?_ (fun _ => ?_))
   | exact ih0 _ _ _ _
   | exact LeO.none _
   | refine LeO.ite ?_ ?_
   | refine LeO.bind ?_ (fun _ => ?_)
theorem spec_SizeOf.mono : ∀ a0 a1 k,LeO (spec_SizeOf.f k a0 a1) (spec_SizeOf.f (k + 1) a0 a1):=by
 intro a0 a1 k
 have ih0:=spec_SizeOf.mono_l k
 unfold spec_SizeOf.f
 repeat' first
  | (with_reducible exact ih0 _ _ _ _)
  | (with_reducible exact LeO.refl _)
  | (with_reducible exact LeO.none _)
  | (with_reducible refine LeO.ite ?_ ?_)
  | (with_reducible refine LeO.bind ?_ (fun _ => ?_))
  | exact ih0 _ _ _ _
  | exact LeO.none _
  | refine LeO.ite ?_ ?_
  | refine LeO.bind ?_ (fun _ => ?_)
set_option maxHeartbeats 8000000 in
set_option maxRecDepth 100000 in
theorem spec_SizeOf.calls (k : Nat) (a0_0 : Int) (A0_1 : Option Addr) (c0_1 : Nat) (l0_1 : List (S36)) (r : Int) (w : World) (hr0_1 : Kd.C k36 w A0_1 l0_1.length l0_1) (hc0_1 : l0_1.length ≤ c0_1) (h : spec_SizeOf.f k a0_0 l0_1 = some r) :
 Calls Tryz.prog 38 #[.agg #[.int .i64 a0_0,.slice A0_1 l0_1.length c0_1]] w fun e w' => e = .returned (.int .i64 r) ∧ Below w.heap.size w w':=by
 have hu32:=Tryz.underlying32
 have hu36:=Tryz.underlying36
 have HR0_1:=zm0_ hr0_1
 have HC0_1:=zm0_ hc0_1
 clear hr0_1 hc0_1
 have HB:=zm0_ (Below.refl w.heap.size w)
 have H : (spec_SizeOf.l0 k 0 0 a0_0 l0_1) = some r:=h
 clear h
 have H':=zm0_ H
 clear H
 go_enter Tryz.func38,Tryz.ntmps38
 go_wp2_with (first|((with_reducible refine gate_dst (N:=1) rfl ?_);refine box_event ?hg (N:=1) ?hd (cs:=#[.int .i64 a0_0,.slice A0_1 l0_1.length c0_1]) (t:=32) ?hr ?_;(case hd => rfl);(case hg => rfl);(case hr => first|(go_simp;done)|(go_simp;rfl));intro gb115 hg w2 hbox hb;have BK115:=zm0_ (hbox);have GW115:=zm0_ ((by rw [hg];exact (zn9_ (zl HB)) : w.heap.size ≤ gb115));have GE115:=zm0_ ((by rw [hg];exact (zn9_ (zl HB)) : w.heap.size ≤ gb115));replace HB:=zm0_ (zn8_ (zl HB) hb);clear hb hbox hg))
 go_loopg [3,4] k (fun kq v3 v4 w' => ∃ (x3_1 : Int) (x4_1 : Int),v3 = .int .i64 x3_1 ∧ v4 = .int .i64 x4_1 ∧ Aside0 (spec_SizeOf.l0 kq x3_1 x4_1 a0_0 l0_1 = some r) ∧ Aside0 (kq ≤ k) ∧ Aside0 (w'.heap[gb115]? = some (.cells #[.int .i64 a0_0,(.slice A0_1 l0_1.length c0_1)] 32 (0,0))) ∧ Aside0 (Below w.heap.size w w'))
 case atStart => exact ⟨(0),(0),zz,zz,H',⟨Nat.le_refl _⟩,⟨zb BK115⟩,⟨zl1 HB GE115⟩⟩
 case round =>
  clear H'
  try clear p2
  obtain ⟨x3_1,x4_1,rfl,rfl,HA,HK1,BK115,HB⟩:=hrel
  cases gk with
  | zero => exact absurd HA.out (by simp [spec_SizeOf.l0])
  | succ k1 =>
   have H:=HA.out
   clear HA
   simp only [spec_SizeOf.l0] at H
   by_cases c3 : x4_1 < (l0_1.length : Int)
   ·
    rw [if_pos c3] at H
    have c3b0 : decide (x4_1 < (l0_1.length : Int)) = true:=decide_eq_true c3
    clear c3
    by_cases c4 : 0 ≤ x4_1
    ·
     rw [if_pos c4] at H
     have c4b0 : decide (0 ≤ x4_1) = true:=decide_eq_true c4
     clear c4
     replace H:=zq1_ H
     obtain ⟨t117,A50,H⟩:=H
     replace H : (spec_SizeOf.l0 k1 (wrap64 (x3_1 + t117)) (wrap64 (x4_1 + 1)) a0_0 l0_1) = some r:=H
     have A5:=zm0_ A50
     clear A50
     have H':=zm0_ H
     clear H
     have hcz6_0 : wr.cell? ⟨gb115,0,none⟩ = some (.int .i64 a0_0):=(zm6_ BK115.out 0).trans rfl
     have hcz6_1 : wr.cell? ⟨gb115,1,none⟩ = some (.slice A0_1 l0_1.length c0_1):=(zm6_ BK115.out 1).trans rfl
     have hfz6_0:=zm7_ BK115.out 0
     have hfz6_1:=zm7_ BK115.out 1
     have p116 : 0 ≤ (x4_1 : Int):=of_decide_eq_true (by first|(with_reducible assumption)|assumption)
     have q116 : x4_1 < (l0_1.length : Int):=of_decide_eq_true (by first|(with_reducible assumption)|assumption)
     obtain ⟨ad116,e116,hx116_0,hx116_1⟩:=at_T36 HR0_1.out x4_1 p116 q116
     cases e116
     replace hx116_0:=(HB.out.cell (zq2_ w _ hx116_0)).trans hx116_0
     replace hx116_1:=(HB.out.cell (zq2_ w _ hx116_1)).trans hx116_1
     replace p116:=eq_true p116
     replace q116:=eq_true q116
     go_wp2_with (first|((with_reducible refine gate_callee (f:=49) rfl ?_);refine goesL_ (some 18) rfl rfl Tryz.func49 (by kernel_rfl) rfl #[.agg #[.string ((rd_T36 l0_1 x4_1).f0),.string ((rd_T36 l0_1 x4_1).f1)]] rfl zy ?_;(with_reducible refine (spec_l4Of.calls ((rd_T36 l0_1 x4_1).f0) ((rd_T36 l0_1 x4_1).f1) t117 _ A5.out).mono ?_);rintro e w7 ⟨rfl,hb⟩;refine ⟨_,rfl,?_⟩;replace BK115:=zm0_ (zm5_ (zb BK115) hb);replace HB:=zm0_ (zn8_ (zl1 HB GE115) hb);(try clear hb);(try clear hb2);(try clear hk);(try clear hi)))
     go_roundg k1
     case measure => have:=HK1.out;omega
     case rel => exact ⟨(wrap64 (x3_1 + t117)),(wrap64 (x4_1 + 1)),zz,zz,H',⟨by have:=HK1.out;omega⟩,⟨zb BK115⟩,⟨zl1 HB GE115⟩⟩
    ·
     rw [if_neg c4] at H
     exact absurd H (by simp)
   ·
    rw [if_neg c3] at H
    have c3b0 : decide (x4_1 < (l0_1.length : Int)) = false:=decide_eq_false c3
    clear c3
    obtain rfl:=Option.some.inj H
    have hcz8_0 : wr.cell? ⟨gb115,0,none⟩ = some (.int .i64 a0_0):=(zm6_ BK115.out 0).trans rfl
    have hcz8_1 : wr.cell? ⟨gb115,1,none⟩ = some (.slice A0_1 l0_1.length c0_1):=(zm6_ BK115.out 1).trans rfl
    have hfz8_0:=zm7_ BK115.out 0
    have hfz8_1:=zm7_ BK115.out 1
    go_wp2
    go_ret
    exact ⟨ze,by repeat (first|(with_reducible first|exact HB.out|apply zm3_|apply zm2_|apply zm4_|refine zm1_ ?_ GE115.out)|exact HB.out)⟩
end Go.Proofs.YthflimnpiglgbaaGreatDoor.A
end
section
namespace Go.Proofs.YthflimnpiglgbaaGreatDoor.A
open Go.RowKit Go.Proofs.YthflimnpiglgbaaGreatDoorW.PrintWords Go.Proofs.YthflimnpiglgbaaGreatDoorW.PrintLast Go.Proofs.YthflimnpiglgbaaGreatDoorW.PrintMore
attribute [local go_sem] max2_int min2_int max_two min_two max_three min_three max_four min_four   -- for this text's walks alone
set_option linter.unusedVariables false
set_option linter.unusedSimpArgs false

def spec_TableOk.f (k : Nat) (a0_0 : Int) (l0_1 : List (S36)) : Option (Bool):=(spec_l1In.f a0_0 0 4096).bind fun t119 => (if t119 = true then ((spec_SizeOf.f k a0_0 l0_1).bind fun t120 => (some (decide (t120 ≤ a0_0)))) else (some false))
theorem spec_TableOk.mono : ∀ a0 a1 k,LeO (spec_TableOk.f k a0 a1) (spec_TableOk.f (k + 1) a0 a1):=by
 intro a0 a1 k
 unfold spec_TableOk.f
 repeat' first
  | (with_reducible exact spec_SizeOf.mono _ _ _)
  | (with_reducible exact LeO.refl _)
  | (with_reducible exact LeO.none _)
  | (with_reducible refine LeO.ite ?_ ?_)
  | (with_reducible refine LeO.bind ?_ (fun _ => ?_))
  | exact spec_SizeOf.mono _ _ _
  | exact LeO.none _
  | refine LeO.ite ?_ ?_
  | refine LeO.bind ?_ (fun _ => ?_)
def spec_TableOk.T1 : Bool × List (List Nat × List Nat):=(true,[([],[]),([0],[0]),([1],[1]),([2,2],[2]),([3],[3]),([4,3,3],[3,4]),([3],[3]),([6,3],[3,6]),([5,7,3],[3,5,7]),([3,8],[3,8]),([9,5,0,1,2,3,4,5,6,7,8,9],[9])])
def spec_TableOk.B1 : List Nat:=[0,1,3,7,15,31,15,79,255,511,1023]
theorem spec_TableOk.tab1 : rtab .any (opsOf Tryz.f24 1) = spec_TableOk.T1:=by kernel_rfl
theorem spec_TableOk.bits1 : waitsOk spec_TableOk.T1.2 spec_TableOk.B1 = true:=by kernel_rfl
set_option maxHeartbeats 8000000 in
set_option maxRecDepth 100000 in
theorem spec_TableOk.calls (k : Nat) (a0_0 : Int) (A0_1 : Option Addr) (c0_1 : Nat) (l0_1 : List (S36)) (r : Bool) (w : World) (hr0_1 : Kd.C k36 w A0_1 l0_1.length l0_1) (hc0_1 : l0_1.length ≤ c0_1) (h : spec_TableOk.f k a0_0 l0_1 = some r) :
 Calls Tryz.prog 24 #[.agg #[.int .i64 a0_0,.slice A0_1 l0_1.length c0_1]] w fun e w' => e = .returned (.bool r) ∧ Below w.heap.size w w':=by
 have hu32:=Tryz.underlying32
 have HR0_1:=zm0_ hr0_1
 have HC0_1:=zm0_ hc0_1
 clear hr0_1 hc0_1
 have HB:=zm0_ (Below.refl w.heap.size w)
 have H : ((spec_l1In.f a0_0 0 4096).bind fun t119 => (if t119 = true then ((spec_SizeOf.f k a0_0 l0_1).bind fun t120 => (some (decide (t120 ≤ a0_0)))) else (some false))) = some r:=h
 clear h
 replace H:=zq1_ H
 obtain ⟨t119,A20,H⟩:=H
 replace H : (if t119 = true then ((spec_SizeOf.f k a0_0 l0_1).bind fun t120 => (some (decide (t120 ≤ a0_0)))) else (some false)) = some r:=H
 have A2:=zm0_ A20
 clear A20
 by_cases c3 : t119 = true
 ·
  subst c3
  rw [if_pos rfl] at H
  replace H:=zq1_ H
  obtain ⟨t120,A40,H⟩:=H
  replace H : (some (decide (t120 ≤ a0_0))) = some r:=H
  have A4:=zm0_ A40
  clear A40
  obtain rfl:=Option.some.inj H
  go_enter Tryz.func24,Tryz.ntmps24
  try go_wp2_with (first|((with_reducible refine gate_dst (N:=1) rfl ?_);refine box_event ?hg (N:=1) ?hd (cs:=#[.int .i64 a0_0,.slice A0_1 l0_1.length c0_1]) (t:=32) ?hr ?_;(case hd => rfl);(case hg => rfl);(case hr => first|(go_simp;done)|(go_simp;rfl));intro gb118 hg w5 hbox hb;have BK118:=zm0_ (hbox);have GW118:=zm0_ ((by rw [hg];exact (zn9_ (zl HB)) : w.heap.size ≤ gb118));have GE118:=zm0_ ((by rw [hg];exact (zn9_ (zl HB)) : w.heap.size ≤ gb118));replace HB:=zm0_ (zn8_ (zl HB) hb);clear hb hbox hg))
  replace BK118:=zm0_ (k7_ BK118.out)
  replace HB:=zm0_ (zm4_ HB.out)
  refine start_ (n:=11) (S:=fun w' => w'.cell? ⟨gb118,0,none⟩ = some (.int .i64 a0_0) ∧ w'.cell? ⟨gb118,1,none⟩ = some (.slice A0_1 l0_1.length c0_1)) (ds:=[]) #[Z,Z,Z,Z,Z,Z,Z,Z,Z,Z,Z] (by kernel_rfl) rfl rfl ⟨(zm6_ BK118.out 0).trans rfl,(zm6_ BK118.out 1).trans rfl⟩ (fun hHeld => ?_);refine with_tabW spec_TableOk.tab1 spec_TableOk.bits1 (fun HT_ HW_ => ?_)
  generalize w5.drew = w6 at BK118 HB hHeld ⊢
  refine pure_ (i:=0) (N:=some 3) (v:=?_) (a':=?_) #[Y,Z,Z,Z,Z,Z,Z,Z,Z,Z,Z] rfl rfl (any_of HT_.out (by kernel_rfl)) (fun _ _ _ h => h) (Or.inl ⟨by rfl,?_⟩) ?_ ?_
  rotate_left
  ·
   intro w'
   go_simp
   with_reducible rfl
  rotate_left
  ·
   simp only [Act.put,lA_,lB_,lC_,i64_w,i32_w]
   rfl
  refine take_ (i:=1) (N:=some 4) (v:=?_) (a':=?_) #[Y,Y,Z,Z,Z,Z,Z,Z,Z,Z,Z] rfl rfl (take_ofW HT_.out HW_.out (by kernel_rfl)) (fun _ _ _ h => h) (Or.inl ⟨by rfl,?_⟩) hHeld ?_ ?_
  rotate_left
  ·
   rintro w' ⟨s0,s1⟩
   go_simp
   with_reducible rfl
  rotate_left
  ·
   simp only [Act.put,lA_,lB_,lC_,i64_w,i32_w]
   rfl
  refine one_ (i:=2) (N:=some 5) #[Y,Y,Y,Z,Z,Z,Z,Z,Z,Z,Z] rfl rfl (one_of HT_.out (by kernel_rfl)) (by decide) (fun K hK => ?_)
  refine goes_ Tryz.func25 (by kernel_rfl) rfl #[.int .i64 a0_0,.int .i64 0,.int .i64 4096] (by rfl) rfl rfl zy ?_
  with_reducible refine (spec_l1In.calls a0_0 0 4096 true _ A2.out).mono ?_
  rintro e w' ⟨rfl,⟨nd,rfl⟩⟩
  refine ⟨_,rfl,?_⟩
  refine hK.out _ _ ⟨(zm6_ BK118.out 0).trans rfl,(zm6_ BK118.out 1).trans rfl⟩ (fun hHeld => ?_)
  clear hK K
  refine norm_ (a':=?_) ?_ ?_
  rotate_left
  ·
   show Act.put _ (some 5) _ = _
   simp only [Act.put,lA_,lB_,lC_,i64_w,i32_w]
   rfl
  refine pure_ (i:=3) (N:=some 6) (v:=?_) (a':=?_) #[Y,Y,Y,Y,Z,Z,Z,Z,Z,Z,Z] rfl rfl (any_of HT_.out (by kernel_rfl)) (fun _ _ _ h => h) (Or.inl ⟨by rfl,?_⟩) ?_ ?_
  rotate_left
  ·
   intro w'
   go_simp
   with_reducible rfl
  rotate_left
  ·
   simp only [Act.put,lA_,lB_,lC_,i64_w,i32_w]
   rfl
  refine pure_ (i:=6) (N:=some 9) (v:=?_) (a':=?_) #[Y,Y,Y,Y,Z,Z,Y,Z,Z,Z,Z] rfl rfl (any_of HT_.out (by kernel_rfl)) (fun _ _ _ h => h) (Or.inl ⟨by rfl,?_⟩) ?_ ?_
  rotate_left
  ·
   intro w'
   go_simp
   with_reducible rfl
  rotate_left
  ·
   simp only [Act.put,lA_,lB_,lC_,i64_w,i32_w]
   rfl
  refine take_ (i:=4) (N:=some 7) (v:=?_) (a':=?_) #[Y,Y,Y,Y,Y,Z,Y,Z,Z,Z,Z] rfl rfl (take_ofW HT_.out HW_.out (by kernel_rfl)) (fun _ _ _ h => h) (Or.inl ⟨by rfl,?_⟩) hHeld ?_ ?_
  rotate_left
  ·
   rintro w' ⟨s0,s1⟩
   go_simp
   with_reducible rfl
  rotate_left
  ·
   simp only [Act.put,lA_,lB_,lC_,i64_w,i32_w]
   rfl
  refine take_ (i:=7) (N:=some 10) (v:=?_) (a':=?_) #[Y,Y,Y,Y,Y,Z,Y,Y,Z,Z,Z] rfl rfl (take_ofW HT_.out HW_.out (by kernel_rfl)) (fun _ _ _ h => h) (Or.inl ⟨by rfl,?_⟩) hHeld ?_ ?_
  rotate_left
  ·
   rintro w' ⟨s0,s1⟩
   go_simp
   with_reducible rfl
  rotate_left
  ·
   simp only [Act.put,lA_,lB_,lC_,i64_w,i32_w]
   rfl
  refine one_ (i:=5) (N:=some 8) #[Y,Y,Y,Y,Y,Y,Y,Y,Z,Z,Z] rfl rfl (one_of HT_.out (by kernel_rfl)) (by decide) (fun K hK => ?_)
  refine goes_ Tryz.func38 (by kernel_rfl) rfl #[.agg #[.int .i64 a0_0,.slice A0_1 l0_1.length c0_1]] (by rfl) rfl rfl zy ?_
  with_reducible refine (spec_SizeOf.calls k a0_0 _ _ l0_1 t120 _ ?side1 ?side2 A4.out).mono ?_
  (case side1 => repeat (first|exact (Kd.C_below HR0_1.out (zl1 HB GE118))|(with_reducible refine Kd.C_alloc ?_ _)|(with_reducible refine Kd.C_drewN ?_ _)|(with_reducible refine Kd.C_drew ?_)))
  (case side2 => exact HC0_1.out)
  rintro e w7 ⟨rfl,hb⟩
  refine ⟨_,rfl,?_⟩
  replace BK118:=zm0_ (zm5_ (zb BK118) hb)
  replace HB:=zm0_ (zn8_ (zl1 HB GE118) hb)
  (try clear hb)
  (try clear hb2)
  (try clear hk)
  (try clear hi)
  refine hK.out _ _ ⟨(zm6_ BK118.out 0).trans rfl,(zm6_ BK118.out 1).trans rfl⟩ (fun hHeld => ?_)
  clear hK K
  refine norm_ (a':=?_) ?_ ?_
  rotate_left
  ·
   show Act.put _ (some 8) _ = _
   simp only [Act.put,lA_,lB_,lC_,i64_w,i32_w]
   rfl
  refine pure_ (i:=8) (N:=some 11) (v:=?_) (a':=?_) #[Y,Y,Y,Y,Y,Y,Y,Y,Y,Z,Z] rfl rfl (any_of HT_.out (by kernel_rfl)) (fun _ _ _ h => h) (Or.inl ⟨by rfl,?_⟩) ?_ ?_
  rotate_left
  ·
   intro w'
   go_simp
   with_reducible rfl
  rotate_left
  ·
   simp only [Act.put,lA_,lB_,lC_,i64_w,i32_w]
   rfl
  refine pure_ (i:=9) (N:=some 12) (v:=?_) (a':=?_) #[Y,Y,Y,Y,Y,Y,Y,Y,Y,Y,Z] rfl rfl (any_of HT_.out (by kernel_rfl)) (fun _ _ _ h => h) (Or.inl ⟨by rfl,?_⟩) ?_ ?_
  rotate_left
  ·
   intro w'
   go_simp
   with_reducible rfl
  rotate_left
  ·
   simp only [Act.put,lA_,lB_,lC_,i64_w,i32_w]
   rfl
  refine pure_ (i:=10) (N:=some 2) (v:=?_) (a':=?_) #[Y,Y,Y,Y,Y,Y,Y,Y,Y,Y,Y] rfl rfl (any_of HT_.out (by kernel_rfl)) (fun _ _ _ h => h) (Or.inl ⟨by rfl,?_⟩) ?_ ?_
  rotate_left
  ·
   intro w'
   go_simp
   with_reducible rfl
  rotate_left
  ·
   simp only [Act.put,lA_,lB_,lC_,i64_w,i32_w]
   rfl
  refine done_ (done_of HT_.out (by kernel_rfl)) ?_
  try go_wp2
  go_ret
  exact ⟨ze,by repeat (first|(with_reducible first|exact HB.out|apply zm3_|apply zm2_|apply zm4_|refine zm1_ ?_ GE118.out)|exact HB.out)⟩
 ·
  replace c3:=Bool.eq_false_iff.mpr c3
  subst c3
  rw [if_neg (show ¬ (false = true) by decide)] at H
  obtain rfl:=Option.some.inj H
  go_enter Tryz.func24,Tryz.ntmps24
  try go_wp2_with (first|((with_reducible refine gate_dst (N:=1) rfl ?_);refine box_event ?hg (N:=1) ?hd (cs:=#[.int .i64 a0_0,.slice A0_1 l0_1.length c0_1]) (t:=32) ?hr ?_;(case hd => rfl);(case hg => rfl);(case hr => first|(go_simp;done)|(go_simp;rfl));intro gb118 hg w8 hbox hb;have BK118:=zm0_ (hbox);have GW118:=zm0_ ((by rw [hg];exact (zn9_ (zl HB)) : w.heap.size ≤ gb118));have GE118:=zm0_ ((by rw [hg];exact (zn9_ (zl HB)) : w.heap.size ≤ gb118));replace HB:=zm0_ (zn8_ (zl HB) hb);clear hb hbox hg))
  replace BK118:=zm0_ (k7_ BK118.out)
  replace HB:=zm0_ (zm4_ HB.out)
  refine start_ (n:=11) (S:=fun w' => w'.cell? ⟨gb118,0,none⟩ = some (.int .i64 a0_0) ∧ w'.cell? ⟨gb118,1,none⟩ = some (.slice A0_1 l0_1.length c0_1)) (ds:=[]) #[Z,Z,Z,Z,Z,Z,Z,Z,Z,Z,Z] (by kernel_rfl) rfl rfl ⟨(zm6_ BK118.out 0).trans rfl,(zm6_ BK118.out 1).trans rfl⟩ (fun hHeld => ?_);refine with_tabW spec_TableOk.tab1 spec_TableOk.bits1 (fun HT_ HW_ => ?_)
  generalize w8.drew = w9 at BK118 HB hHeld ⊢
  refine pure_ (i:=0) (N:=some 3) (v:=?_) (a':=?_) #[Y,Z,Z,Z,Z,Z,Z,Z,Z,Z,Z] rfl rfl (any_of HT_.out (by kernel_rfl)) (fun _ _ _ h => h) (Or.inl ⟨by rfl,?_⟩) ?_ ?_
  rotate_left
  ·
   intro w'
   go_simp
   with_reducible rfl
  rotate_left
  ·
   simp only [Act.put,lA_,lB_,lC_,i64_w,i32_w]
   rfl
  refine take_ (i:=1) (N:=some 4) (v:=?_) (a':=?_) #[Y,Y,Z,Z,Z,Z,Z,Z,Z,Z,Z] rfl rfl (take_ofW HT_.out HW_.out (by kernel_rfl)) (fun _ _ _ h => h) (Or.inl ⟨by rfl,?_⟩) hHeld ?_ ?_
  rotate_left
  ·
   rintro w' ⟨s0,s1⟩
   go_simp
   with_reducible rfl
  rotate_left
  ·
   simp only [Act.put,lA_,lB_,lC_,i64_w,i32_w]
   rfl
  refine one_ (i:=2) (N:=some 5) #[Y,Y,Y,Z,Z,Z,Z,Z,Z,Z,Z] rfl rfl (one_of HT_.out (by kernel_rfl)) (by decide) (fun K hK => ?_)
  refine goes_ Tryz.func25 (by kernel_rfl) rfl #[.int .i64 a0_0,.int .i64 0,.int .i64 4096] (by rfl) rfl rfl zy ?_
  with_reducible refine (spec_l1In.calls a0_0 0 4096 false _ A2.out).mono ?_
  rintro e w' ⟨rfl,⟨nd,rfl⟩⟩
  refine ⟨_,rfl,?_⟩
  refine hK.out _ _ ⟨(zm6_ BK118.out 0).trans rfl,(zm6_ BK118.out 1).trans rfl⟩ (fun hHeld => ?_)
  clear hK K
  refine norm_ (a':=?_) ?_ ?_
  rotate_left
  ·
   show Act.put _ (some 5) _ = _
   simp only [Act.put,lA_,lB_,lC_,i64_w,i32_w]
   rfl
  refine pure_ (i:=3) (N:=some 6) (v:=?_) (a':=?_) #[Y,Y,Y,Y,Z,Z,Z,Z,Z,Z,Z] rfl rfl (any_of HT_.out (by kernel_rfl)) (fun _ _ _ h => h) (Or.inl ⟨by rfl,?_⟩) ?_ ?_
  rotate_left
  ·
   intro w'
   go_simp
   with_reducible rfl
  rotate_left
  ·
   simp only [Act.put,lA_,lB_,lC_,i64_w,i32_w]
   rfl
  refine pure_ (i:=4) (N:=some 7) (v:=undef) (a':=?_) #[Y,Y,Y,Y,Y,Z,Z,Z,Z,Z,Z] rfl rfl (any_of HT_.out (by kernel_rfl)) (fun _ _ _ h => h) (Or.inr ⟨by rfl,rfl⟩) ?_ ?_
  rotate_left
  ·
   simp only [Act.put,lA_,lB_,lC_,i64_w,i32_w]
   rfl
  refine pure_ (i:=5) (N:=some 8) (v:=undef) (a':=?_) #[Y,Y,Y,Y,Y,Y,Z,Z,Z,Z,Z] rfl rfl (any_of HT_.out (by kernel_rfl)) (fun _ _ _ h => h) (Or.inr ⟨by rfl,rfl⟩) ?_ ?_
  rotate_left
  ·
   simp only [Act.put,lA_,lB_,lC_,i64_w,i32_w]
   rfl
  refine pure_ (i:=6) (N:=some 9) (v:=undef) (a':=?_) #[Y,Y,Y,Y,Y,Y,Y,Z,Z,Z,Z] rfl rfl (any_of HT_.out (by kernel_rfl)) (fun _ _ _ h => h) (Or.inr ⟨by rfl,rfl⟩) ?_ ?_
  rotate_left
  ·
   simp only [Act.put,lA_,lB_,lC_,i64_w,i32_w]
   rfl
  refine pure_ (i:=7) (N:=some 10) (v:=undef) (a':=?_) #[Y,Y,Y,Y,Y,Y,Y,Y,Z,Z,Z] rfl rfl (any_of HT_.out (by kernel_rfl)) (fun _ _ _ h => h) (Or.inr ⟨by rfl,rfl⟩) ?_ ?_
  rotate_left
  ·
   simp only [Act.put,lA_,lB_,lC_,i64_w,i32_w]
   rfl
  refine pure_ (i:=8) (N:=some 11) (v:=undef) (a':=?_) #[Y,Y,Y,Y,Y,Y,Y,Y,Y,Z,Z] rfl rfl (any_of HT_.out (by kernel_rfl)) (fun _ _ _ h => h) (Or.inr ⟨by rfl,rfl⟩) ?_ ?_
  rotate_left
  ·
   simp only [Act.put,lA_,lB_,lC_,i64_w,i32_w]
   rfl
  refine pure_ (i:=9) (N:=some 12) (v:=?_) (a':=?_) #[Y,Y,Y,Y,Y,Y,Y,Y,Y,Y,Z] rfl rfl (any_of HT_.out (by kernel_rfl)) (fun _ _ _ h => h) (Or.inl ⟨by rfl,?_⟩) ?_ ?_
  rotate_left
  ·
   intro w'
   go_simp
   with_reducible rfl
  rotate_left
  ·
   simp only [Act.put,lA_,lB_,lC_,i64_w,i32_w]
   rfl
  refine pure_ (i:=10) (N:=some 2) (v:=?_) (a':=?_) #[Y,Y,Y,Y,Y,Y,Y,Y,Y,Y,Y] rfl rfl (any_of HT_.out (by kernel_rfl)) (fun _ _ _ h => h) (Or.inl ⟨by rfl,?_⟩) ?_ ?_
  rotate_left
  ·
   intro w'
   go_simp
   with_reducible rfl
  rotate_left
  ·
   simp only [Act.put,lA_,lB_,lC_,i64_w,i32_w]
   rfl
  refine done_ (done_of HT_.out (by kernel_rfl)) ?_
  try go_wp2
  go_ret
  exact ⟨ze,by repeat (first|(with_reducible first|exact HB.out|apply zm3_|apply zm2_|apply zm4_|refine zm1_ ?_ GE118.out)|exact HB.out)⟩
end Go.Proofs.YthflimnpiglgbaaGreatDoor.A
end
section
namespace Go.Proofs.YthflimnpiglgbaaGreatDoor.A
open Go.RowKit Go.Proofs.YthflimnpiglgbaaGreatDoorW.PrintWords Go.Proofs.YthflimnpiglgbaaGreatDoorW.PrintLast Go.Proofs.YthflimnpiglgbaaGreatDoorW.PrintMore
attribute [local go_sem] max2_int min2_int max_two min_two max_three min_three max_four min_four   -- for this text's walks alone
set_option linter.unusedVariables false
set_option linter.unusedSimpArgs false

theorem eqA36 (d : Nat) (w : World) (x0 y0 : ByteArray) (x1 y1 : ByteArray) :
 (Op.equalIn (d + 2) 36 (.agg #[.string x0,.string x1]) (.agg #[.string y0,.string y1])).run Tryz.prog w = .ok (x0.toList == y0.toList && (x1.toList == y1.toList)) w:=by
 refine eqA_of Tryz.underlying36 (by kernel_rfl) ?_
 refine eqf_cons (by rfl) (by go_simp;rfl) (by go_simp;rfl) (by go_simp) ?_
 exact eqf_last (by rfl) (by go_simp;rfl) (by go_simp;rfl) (by go_simp)
end Go.Proofs.YthflimnpiglgbaaGreatDoor.A
end
section
namespace Go.Proofs.YthflimnpiglgbaaGreatDoor.A
open Go.RowKit Go.Proofs.YthflimnpiglgbaaGreatDoorW.PrintWords Go.Proofs.YthflimnpiglgbaaGreatDoorW.PrintLast Go.Proofs.YthflimnpiglgbaaGreatDoorW.PrintMore
attribute [local go_sem] max2_int min2_int max_two min_two max_three min_three max_four min_four   -- for this text's walks alone
set_option linter.unusedVariables false
set_option linter.unusedSimpArgs false

def spec_l4First.f  : Option ((List (S36))):=some ((((⟨(⟨#[58,97,117,116,104,111,114,105,116,121]⟩ : ByteArray),(⟨#[]⟩ : ByteArray)⟩ : S36) :: (⟨(⟨#[58,109,101,116,104,111,100]⟩ : ByteArray),(⟨#[71,69,84]⟩ : ByteArray)⟩ : S36) :: (⟨(⟨#[58,109,101,116,104,111,100]⟩ : ByteArray),(⟨#[80,79,83,84]⟩ : ByteArray)⟩ : S36) :: (⟨(⟨#[58,112,97,116,104]⟩ : ByteArray),(⟨#[47]⟩ : ByteArray)⟩ : S36) :: (⟨(⟨#[58,112,97,116,104]⟩ : ByteArray),(⟨#[47,105,110,100,101,120,46,104,116,109,108]⟩ : ByteArray)⟩ : S36) :: (⟨(⟨#[58,115,99,104,101,109,101]⟩ : ByteArray),(⟨#[104,116,116,112]⟩ : ByteArray)⟩ : S36) :: (⟨(⟨#[58,115,99,104,101,109,101]⟩ : ByteArray),(⟨#[104,116,116,112,115]⟩ : ByteArray)⟩ : S36) :: (⟨(⟨#[58,115,116,97,116,117,115]⟩ : ByteArray),(⟨#[50,48,48]⟩ : ByteArray)⟩ : S36) :: (⟨(⟨#[58,115,116,97,116,117,115]⟩ : ByteArray),(⟨#[50,48,52]⟩ : ByteArray)⟩ : S36) :: (⟨(⟨#[58,115,116,97,116,117,115]⟩ : ByteArray),(⟨#[50,48,54]⟩ : ByteArray)⟩ : S36) :: (⟨(⟨#[58,115,116,97,116,117,115]⟩ : ByteArray),(⟨#[51,48,52]⟩ : ByteArray)⟩ : S36) :: (⟨(⟨#[58,115,116,97,116,117,115]⟩ : ByteArray),(⟨#[52,48,48]⟩ : ByteArray)⟩ : S36) :: (⟨(⟨#[58,115,116,97,116,117,115]⟩ : ByteArray),(⟨#[52,48,52]⟩ : ByteArray)⟩ : S36) :: (⟨(⟨#[58,115,116,97,116,117,115]⟩ : ByteArray),(⟨#[53,48,48]⟩ : ByteArray)⟩ : S36) :: (⟨(⟨#[97,99,99,101,112,116,45,99,104,97,114,115,101,116]⟩ : ByteArray),(⟨#[]⟩ : ByteArray)⟩ : S36) :: (⟨(⟨#[97,99,99,101,112,116,45,101,110,99,111,100,105,110,103]⟩ : ByteArray),(⟨#[103,122,105,112,44,32,100,101,102,108,97,116,101]⟩ : ByteArray)⟩ : S36) :: (⟨(⟨#[97,99,99,101,112,116,45,108,97,110,103,117,97,103,101]⟩ : ByteArray),(⟨#[]⟩ : ByteArray)⟩ : S36) :: (⟨(⟨#[97,99,99,101,112,116,45,114,97,110,103,101,115]⟩ : ByteArray),(⟨#[]⟩ : ByteArray)⟩ : S36) :: (⟨(⟨#[97,99,99,101,112,116]⟩ : ByteArray),(⟨#[]⟩ : ByteArray)⟩ : S36) :: (⟨(⟨#[97,99,99,101,115,115,45,99,111,110,116,114,111,108,45,97,108,108,111,119,45,111,114,105,103,105,110]⟩ : ByteArray),(⟨#[]⟩ : ByteArray)⟩ : S36) :: (⟨(⟨#[97,103,101]⟩ : ByteArray),(⟨#[]⟩ : ByteArray)⟩ : S36) :: (⟨(⟨#[97,108,108,111,119]⟩ : ByteArray),(⟨#[]⟩ : ByteArray)⟩ : S36) :: (⟨(⟨#[97,117,116,104,111,114,105,122,97,116,105,111,110]⟩ : ByteArray),(⟨#[]⟩ : ByteArray)⟩ : S36) :: (⟨(⟨#[99,97,99,104,101,45,99,111,110,116,114,111,108]⟩ : ByteArray),(⟨#[]⟩ : ByteArray)⟩ : S36) :: (⟨(⟨#[99,111,110,116,101,110,116,45,100,105,115,112,111,115,105,116,105,111,110]⟩ : ByteArray),(⟨#[]⟩ : ByteArray)⟩ : S36) :: (⟨(⟨#[99,111,110,116,101,110,116,45,101,110,99,111,100,105,110,103]⟩ : ByteArray),(⟨#[]⟩ : ByteArray)⟩ : S36) :: (⟨(⟨#[99,111,110,116,101,110,116,45,108,97,110,103,117,97,103,101]⟩ : ByteArray),(⟨#[]⟩ : ByteArray)⟩ : S36) :: (⟨(⟨#[99,111,110,116,101,110,116,45,108,101,110,103,116,104]⟩ : ByteArray),(⟨#[]⟩ : ByteArray)⟩ : S36) :: (⟨(⟨#[99,111,110,116,101,110,116,45,108,111,99,97,116,105,111,110]⟩ : ByteArray),(⟨#[]⟩ : ByteArray)⟩ : S36) :: (⟨(⟨#[99,111,110,116,101,110,116,45,114,97,110,103,101]⟩ : ByteArray),(⟨#[]⟩ : ByteArray)⟩ : S36) :: (⟨(⟨#[99,111,110,116,101,110,116,45,116,121,112,101]⟩ : ByteArray),(⟨#[]⟩ : ByteArray)⟩ : S36) :: (⟨(⟨#[99,111,111,107,105,101]⟩ : ByteArray),(⟨#[]⟩ : ByteArray)⟩ : S36) :: (⟨(⟨#[100,97,116,101]⟩ : ByteArray),(⟨#[]⟩ : ByteArray)⟩ : S36) :: (⟨(⟨#[101,116,97,103]⟩ : ByteArray),(⟨#[]⟩ : ByteArray)⟩ : S36) :: (⟨(⟨#[101,120,112,101,99,116]⟩ : ByteArray),(⟨#[]⟩ : ByteArray)⟩ : S36) :: (⟨(⟨#[101,120,112,105,114,101,115]⟩ : ByteArray),(⟨#[]⟩ : ByteArray)⟩ : S36) :: (⟨(⟨#[102,114,111,109]⟩ : ByteArray),(⟨#[]⟩ : ByteArray)⟩ : S36) :: (⟨(⟨#[104,111,115,116]⟩ : ByteArray),(⟨#[]⟩ : ByteArray)⟩ : S36) :: (⟨(⟨#[105,102,45,109,97,116,99,104]⟩ : ByteArray),(⟨#[]⟩ : ByteArray)⟩ : S36) :: (⟨(⟨#[105,102,45,109,111,100,105,102,105,101,100,45,115,105,110,99,101]⟩ : ByteArray),(⟨#[]⟩ : ByteArray)⟩ : S36) :: (⟨(⟨#[105,102,45,110,111,110,101,45,109,97,116,99,104]⟩ : ByteArray),(⟨#[]⟩ : ByteArray)⟩ : S36) :: (⟨(⟨#[105,102,45,114,97,110,103,101]⟩ : ByteArray),(⟨#[]⟩ : ByteArray)⟩ : S36) :: (⟨(⟨#[105,102,45,117,110,109,111,100,105,102,105,101,100,45,115,105,110,99,101]⟩ : ByteArray),(⟨#[]⟩ : ByteArray)⟩ : S36) :: (⟨(⟨#[108,97,115,116,45,109,111,100,105,102,105,101,100]⟩ : ByteArray),(⟨#[]⟩ : ByteArray)⟩ : S36) :: (⟨(⟨#[108,105,110,107]⟩ : ByteArray),(⟨#[]⟩ : ByteArray)⟩ : S36) :: (⟨(⟨#[108,111,99,97,116,105,111,110]⟩ : ByteArray),(⟨#[]⟩ : ByteArray)⟩ : S36) :: (⟨(⟨#[109,97,120,45,102,111,114,119,97,114,100,115]⟩ : ByteArray),(⟨#[]⟩ : ByteArray)⟩ : S36) :: (⟨(⟨#[112,114,111,120,121,45,97,117,116,104,101,110,116,105,99,97,116,101]⟩ : ByteArray),(⟨#[]⟩ : ByteArray)⟩ : S36) :: (⟨(⟨#[112,114,111,120,121,45,97,117,116,104,111,114,105,122,97,116,105,111,110]⟩ : ByteArray),(⟨#[]⟩ : ByteArray)⟩ : S36) :: (⟨(⟨#[114,97,110,103,101]⟩ : ByteArray),(⟨#[]⟩ : ByteArray)⟩ : S36) :: (⟨(⟨#[114,101,102,101,114,101,114]⟩ : ByteArray),(⟨#[]⟩ : ByteArray)⟩ : S36) :: (⟨(⟨#[114,101,102,114,101,115,104]⟩ : ByteArray),(⟨#[]⟩ : ByteArray)⟩ : S36) :: (⟨(⟨#[114,101,116,114,121,45,97,102,116,101,114]⟩ : ByteArray),(⟨#[]⟩ : ByteArray)⟩ : S36) :: (⟨(⟨#[115,101,114,118,101,114]⟩ : ByteArray),(⟨#[]⟩ : ByteArray)⟩ : S36) :: (⟨(⟨#[115,101,116,45,99,111,111,107,105,101]⟩ : ByteArray),(⟨#[]⟩ : ByteArray)⟩ : S36) :: (⟨(⟨#[115,116,114,105,99,116,45,116,114,97,110,115,112,111,114,116,45,115,101,99,117,114,105,116,121]⟩ : ByteArray),(⟨#[]⟩ : ByteArray)⟩ : S36) :: (⟨(⟨#[116,114,97,110,115,102,101,114,45,101,110,99,111,100,105,110,103]⟩ : ByteArray),(⟨#[]⟩ : ByteArray)⟩ : S36) :: (⟨(⟨#[117,115,101,114,45,97,103,101,110,116]⟩ : ByteArray),(⟨#[]⟩ : ByteArray)⟩ : S36) :: (⟨(⟨#[118,97,114,121]⟩ : ByteArray),(⟨#[]⟩ : ByteArray)⟩ : S36) :: (⟨(⟨#[118,105,97]⟩ : ByteArray),(⟨#[]⟩ : ByteArray)⟩ : S36) :: (⟨(⟨#[119,119,119,45,97,117,116,104,101,110,116,105,99,97,116,101]⟩ : ByteArray),(⟨#[]⟩ : ByteArray)⟩ : S36) :: []) : List (S36)))
set_option maxHeartbeats 8000000 in
set_option maxRecDepth 100000 in
theorem spec_l4First.calls  (r : List (S36)) (w : World) (h : spec_l4First.f  = some r) :
 Calls Tryz.prog 39 #[] w fun e w' => ∃ v0_ : Value,e = .returned (v0_) ∧ Kd.R k36 36 w' w.heap.size (fun _ => True) v0_ r ∧ Below w.heap.size w w':=by
 have hu36:=Tryz.underlying36
 have HB:=zm0_ (Below.refl w.heap.size w)
 have H : (some ((((⟨(⟨#[58,97,117,116,104,111,114,105,116,121]⟩ : ByteArray),(⟨#[]⟩ : ByteArray)⟩ : S36) :: (⟨(⟨#[58,109,101,116,104,111,100]⟩ : ByteArray),(⟨#[71,69,84]⟩ : ByteArray)⟩ : S36) :: (⟨(⟨#[58,109,101,116,104,111,100]⟩ : ByteArray),(⟨#[80,79,83,84]⟩ : ByteArray)⟩ : S36) :: (⟨(⟨#[58,112,97,116,104]⟩ : ByteArray),(⟨#[47]⟩ : ByteArray)⟩ : S36) :: (⟨(⟨#[58,112,97,116,104]⟩ : ByteArray),(⟨#[47,105,110,100,101,120,46,104,116,109,108]⟩ : ByteArray)⟩ : S36) :: (⟨(⟨#[58,115,99,104,101,109,101]⟩ : ByteArray),(⟨#[104,116,116,112]⟩ : ByteArray)⟩ : S36) :: (⟨(⟨#[58,115,99,104,101,109,101]⟩ : ByteArray),(⟨#[104,116,116,112,115]⟩ : ByteArray)⟩ : S36) :: (⟨(⟨#[58,115,116,97,116,117,115]⟩ : ByteArray),(⟨#[50,48,48]⟩ : ByteArray)⟩ : S36) :: (⟨(⟨#[58,115,116,97,116,117,115]⟩ : ByteArray),(⟨#[50,48,52]⟩ : ByteArray)⟩ : S36) :: (⟨(⟨#[58,115,116,97,116,117,115]⟩ : ByteArray),(⟨#[50,48,54]⟩ : ByteArray)⟩ : S36) :: (⟨(⟨#[58,115,116,97,116,117,115]⟩ : ByteArray),(⟨#[51,48,52]⟩ : ByteArray)⟩ : S36) :: (⟨(⟨#[58,115,116,97,116,117,115]⟩ : ByteArray),(⟨#[52,48,48]⟩ : ByteArray)⟩ : S36) :: (⟨(⟨#[58,115,116,97,116,117,115]⟩ : ByteArray),(⟨#[52,48,52]⟩ : ByteArray)⟩ : S36) :: (⟨(⟨#[58,115,116,97,116,117,115]⟩ : ByteArray),(⟨#[53,48,48]⟩ : ByteArray)⟩ : S36) :: (⟨(⟨#[97,99,99,101,112,116,45,99,104,97,114,115,101,116]⟩ : ByteArray),(⟨#[]⟩ : ByteArray)⟩ : S36) :: (⟨(⟨#[97,99,99,101,112,116,45,101,110,99,111,100,105,110,103]⟩ : ByteArray),(⟨#[103,122,105,112,44,32,100,101,102,108,97,116,101]⟩ : ByteArray)⟩ : S36) :: (⟨(⟨#[97,99,99,101,112,116,45,108,97,110,103,117,97,103,101]⟩ : ByteArray),(⟨#[]⟩ : ByteArray)⟩ : S36) :: (⟨(⟨#[97,99,99,101,112,116,45,114,97,110,103,101,115]⟩ : ByteArray),(⟨#[]⟩ : ByteArray)⟩ : S36) :: (⟨(⟨#[97,99,99,101,112,116]⟩ : ByteArray),(⟨#[]⟩ : ByteArray)⟩ : S36) :: (⟨(⟨#[97,99,99,101,115,115,45,99,111,110,116,114,111,108,45,97,108,108,111,119,45,111,114,105,103,105,110]⟩ : ByteArray),(⟨#[]⟩ : ByteArray)⟩ : S36) :: (⟨(⟨#[97,103,101]⟩ : ByteArray),(⟨#[]⟩ : ByteArray)⟩ : S36) :: (⟨(⟨#[97,108,108,111,119]⟩ : ByteArray),(⟨#[]⟩ : ByteArray)⟩ : S36) :: (⟨(⟨#[97,117,116,104,111,114,105,122,97,116,105,111,110]⟩ : ByteArray),(⟨#[]⟩ : ByteArray)⟩ : S36) :: (⟨(⟨#[99,97,99,104,101,45,99,111,110,116,114,111,108]⟩ : ByteArray),(⟨#[]⟩ : ByteArray)⟩ : S36) :: (⟨(⟨#[99,111,110,116,101,110,116,45,100,105,115,112,111,115,105,116,105,111,110]⟩ : ByteArray),(⟨#[]⟩ : ByteArray)⟩ : S36) :: (⟨(⟨#[99,111,110,116,101,110,116,45,101,110,99,111,100,105,110,103]⟩ : ByteArray),(⟨#[]⟩ : ByteArray)⟩ : S36) :: (⟨(⟨#[99,111,110,116,101,110,116,45,108,97,110,103,117,97,103,101]⟩ : ByteArray),(⟨#[]⟩ : ByteArray)⟩ : S36) :: (⟨(⟨#[99,111,110,116,101,110,116,45,108,101,110,103,116,104]⟩ : ByteArray),(⟨#[]⟩ : ByteArray)⟩ : S36) :: (⟨(⟨#[99,111,110,116,101,110,116,45,108,111,99,97,116,105,111,110]⟩ : ByteArray),(⟨#[]⟩ : ByteArray)⟩ : S36) :: (⟨(⟨#[99,111,110,116,101,110,116,45,114,97,110,103,101]⟩ : ByteArray),(⟨#[]⟩ : ByteArray)⟩ : S36) :: (⟨(⟨#[99,111,110,116,101,110,116,45,116,121,112,101]⟩ : ByteArray),(⟨#[]⟩ : ByteArray)⟩ : S36) :: (⟨(⟨#[99,111,111,107,105,101]⟩ : ByteArray),(⟨#[]⟩ : ByteArray)⟩ : S36) :: (⟨(⟨#[100,97,116,101]⟩ : ByteArray),(⟨#[]⟩ : ByteArray)⟩ : S36) :: (⟨(⟨#[101,116,97,103]⟩ : ByteArray),(⟨#[]⟩ : ByteArray)⟩ : S36) :: (⟨(⟨#[101,120,112,101,99,116]⟩ : ByteArray),(⟨#[]⟩ : ByteArray)⟩ : S36) :: (⟨(⟨#[101,120,112,105,114,101,115]⟩ : ByteArray),(⟨#[]⟩ : ByteArray)⟩ : S36) :: (⟨(⟨#[102,114,111,109]⟩ : ByteArray),(⟨#[]⟩ : ByteArray)⟩ : S36) :: (⟨(⟨#[104,111,115,116]⟩ : ByteArray),(⟨#[]⟩ : ByteArray)⟩ : S36) :: (⟨(⟨#[105,102,45,109,97,116,99,104]⟩ : ByteArray),(⟨#[]⟩ : ByteArray)⟩ : S36) :: (⟨(⟨#[105,102,45,109,111,100,105,102,105,101,100,45,115,105,110,99,101]⟩ : ByteArray),(⟨#[]⟩ : ByteArray)⟩ : S36) :: (⟨(⟨#[105,102,45,110,111,110,101,45,109,97,116,99,104]⟩ : ByteArray),(⟨#[]⟩ : ByteArray)⟩ : S36) :: (⟨(⟨#[105,102,45,114,97,110,103,101]⟩ : ByteArray),(⟨#[]⟩ : ByteArray)⟩ : S36) :: (⟨(⟨#[105,102,45,117,110,109,111,100,105,102,105,101,100,45,115,105,110,99,101]⟩ : ByteArray),(⟨#[]⟩ : ByteArray)⟩ : S36) :: (⟨(⟨#[108,97,115,116,45,109,111,100,105,102,105,101,100]⟩ : ByteArray),(⟨#[]⟩ : ByteArray)⟩ : S36) :: (⟨(⟨#[108,105,110,107]⟩ : ByteArray),(⟨#[]⟩ : ByteArray)⟩ : S36) :: (⟨(⟨#[108,111,99,97,116,105,111,110]⟩ : ByteArray),(⟨#[]⟩ : ByteArray)⟩ : S36) :: (⟨(⟨#[109,97,120,45,102,111,114,119,97,114,100,115]⟩ : ByteArray),(⟨#[]⟩ : ByteArray)⟩ : S36) :: (⟨(⟨#[112,114,111,120,121,45,97,117,116,104,101,110,116,105,99,97,116,101]⟩ : ByteArray),(⟨#[]⟩ : ByteArray)⟩ : S36) :: (⟨(⟨#[112,114,111,120,121,45,97,117,116,104,111,114,105,122,97,116,105,111,110]⟩ : ByteArray),(⟨#[]⟩ : ByteArray)⟩ : S36) :: (⟨(⟨#[114,97,110,103,101]⟩ : ByteArray),(⟨#[]⟩ : ByteArray)⟩ : S36) :: (⟨(⟨#[114,101,102,101,114,101,114]⟩ : ByteArray),(⟨#[]⟩ : ByteArray)⟩ : S36) :: (⟨(⟨#[114,101,102,114,101,115,104]⟩ : ByteArray),(⟨#[]⟩ : ByteArray)⟩ : S36) :: (⟨(⟨#[114,101,116,114,121,45,97,102,116,101,114]⟩ : ByteArray),(⟨#[]⟩ : ByteArray)⟩ : S36) :: (⟨(⟨#[115,101,114,118,101,114]⟩ : ByteArray),(⟨#[]⟩ : ByteArray)⟩ : S36) :: (⟨(⟨#[115,101,116,45,99,111,111,107,105,101]⟩ : ByteArray),(⟨#[]⟩ : ByteArray)⟩ : S36) :: (⟨(⟨#[115,116,114,105,99,116,45,116,114,97,110,115,112,111,114,116,45,115,101,99,117,114,105,116,121]⟩ : ByteArray),(⟨#[]⟩ : ByteArray)⟩ : S36) :: (⟨(⟨#[116,114,97,110,115,102,101,114,45,101,110,99,111,100,105,110,103]⟩ : ByteArray),(⟨#[]⟩ : ByteArray)⟩ : S36) :: (⟨(⟨#[117,115,101,114,45,97,103,101,110,116]⟩ : ByteArray),(⟨#[]⟩ : ByteArray)⟩ : S36) :: (⟨(⟨#[118,97,114,121]⟩ : ByteArray),(⟨#[]⟩ : ByteArray)⟩ : S36) :: (⟨(⟨#[118,105,97]⟩ : ByteArray),(⟨#[]⟩ : ByteArray)⟩ : S36) :: (⟨(⟨#[119,119,119,45,97,117,116,104,101,110,116,105,99,97,116,101]⟩ : ByteArray),(⟨#[]⟩ : ByteArray)⟩ : S36) :: []) : List (S36)))) = some r:=h
 clear h
 obtain ⟨y121,hy121⟩ : ∃ y_ : List (S36),y_ = ((((⟨(⟨#[58,97,117,116,104,111,114,105,116,121]⟩ : ByteArray),(⟨#[]⟩ : ByteArray)⟩ : S36) :: (⟨(⟨#[58,109,101,116,104,111,100]⟩ : ByteArray),(⟨#[71,69,84]⟩ : ByteArray)⟩ : S36) :: (⟨(⟨#[58,109,101,116,104,111,100]⟩ : ByteArray),(⟨#[80,79,83,84]⟩ : ByteArray)⟩ : S36) :: (⟨(⟨#[58,112,97,116,104]⟩ : ByteArray),(⟨#[47]⟩ : ByteArray)⟩ : S36) :: (⟨(⟨#[58,112,97,116,104]⟩ : ByteArray),(⟨#[47,105,110,100,101,120,46,104,116,109,108]⟩ : ByteArray)⟩ : S36) :: (⟨(⟨#[58,115,99,104,101,109,101]⟩ : ByteArray),(⟨#[104,116,116,112]⟩ : ByteArray)⟩ : S36) :: (⟨(⟨#[58,115,99,104,101,109,101]⟩ : ByteArray),(⟨#[104,116,116,112,115]⟩ : ByteArray)⟩ : S36) :: (⟨(⟨#[58,115,116,97,116,117,115]⟩ : ByteArray),(⟨#[50,48,48]⟩ : ByteArray)⟩ : S36) :: (⟨(⟨#[58,115,116,97,116,117,115]⟩ : ByteArray),(⟨#[50,48,52]⟩ : ByteArray)⟩ : S36) :: (⟨(⟨#[58,115,116,97,116,117,115]⟩ : ByteArray),(⟨#[50,48,54]⟩ : ByteArray)⟩ : S36) :: (⟨(⟨#[58,115,116,97,116,117,115]⟩ : ByteArray),(⟨#[51,48,52]⟩ : ByteArray)⟩ : S36) :: (⟨(⟨#[58,115,116,97,116,117,115]⟩ : ByteArray),(⟨#[52,48,48]⟩ : ByteArray)⟩ : S36) :: (⟨(⟨#[58,115,116,97,116,117,115]⟩ : ByteArray),(⟨#[52,48,52]⟩ : ByteArray)⟩ : S36) :: (⟨(⟨#[58,115,116,97,116,117,115]⟩ : ByteArray),(⟨#[53,48,48]⟩ : ByteArray)⟩ : S36) :: (⟨(⟨#[97,99,99,101,112,116,45,99,104,97,114,115,101,116]⟩ : ByteArray),(⟨#[]⟩ : ByteArray)⟩ : S36) :: (⟨(⟨#[97,99,99,101,112,116,45,101,110,99,111,100,105,110,103]⟩ : ByteArray),(⟨#[103,122,105,112,44,32,100,101,102,108,97,116,101]⟩ : ByteArray)⟩ : S36) :: (⟨(⟨#[97,99,99,101,112,116,45,108,97,110,103,117,97,103,101]⟩ : ByteArray),(⟨#[]⟩ : ByteArray)⟩ : S36) :: (⟨(⟨#[97,99,99,101,112,116,45,114,97,110,103,101,115]⟩ : ByteArray),(⟨#[]⟩ : ByteArray)⟩ : S36) :: (⟨(⟨#[97,99,99,101,112,116]⟩ : ByteArray),(⟨#[]⟩ : ByteArray)⟩ : S36) :: (⟨(⟨#[97,99,99,101,115,115,45,99,111,110,116,114,111,108,45,97,108,108,111,119,45,111,114,105,103,105,110]⟩ : ByteArray),(⟨#[]⟩ : ByteArray)⟩ : S36) :: (⟨(⟨#[97,103,101]⟩ : ByteArray),(⟨#[]⟩ : ByteArray)⟩ : S36) :: (⟨(⟨#[97,108,108,111,119]⟩ : ByteArray),(⟨#[]⟩ : ByteArray)⟩ : S36) :: (⟨(⟨#[97,117,116,104,111,114,105,122,97,116,105,111,110]⟩ : ByteArray),(⟨#[]⟩ : ByteArray)⟩ : S36) :: (⟨(⟨#[99,97,99,104,101,45,99,111,110,116,114,111,108]⟩ : ByteArray),(⟨#[]⟩ : ByteArray)⟩ : S36) :: (⟨(⟨#[99,111,110,116,101,110,116,45,100,105,115,112,111,115,105,116,105,111,110]⟩ : ByteArray),(⟨#[]⟩ : ByteArray)⟩ : S36) :: (⟨(⟨#[99,111,110,116,101,110,116,45,101,110,99,111,100,105,110,103]⟩ : ByteArray),(⟨#[]⟩ : ByteArray)⟩ : S36) :: (⟨(⟨#[99,111,110,116,101,110,116,45,108,97,110,103,117,97,103,101]⟩ : ByteArray),(⟨#[]⟩ : ByteArray)⟩ : S36) :: (⟨(⟨#[99,111,110,116,101,110,116,45,108,101,110,103,116,104]⟩ : ByteArray),(⟨#[]⟩ : ByteArray)⟩ : S36) :: (⟨(⟨#[99,111,110,116,101,110,116,45,108,111,99,97,116,105,111,110]⟩ : ByteArray),(⟨#[]⟩ : ByteArray)⟩ : S36) :: (⟨(⟨#[99,111,110,116,101,110,116,45,114,97,110,103,101]⟩ : ByteArray),(⟨#[]⟩ : ByteArray)⟩ : S36) :: (⟨(⟨#[99,111,110,116,101,110,116,45,116,121,112,101]⟩ : ByteArray),(⟨#[]⟩ : ByteArray)⟩ : S36) :: (⟨(⟨#[99,111,111,107,105,101]⟩ : ByteArray),(⟨#[]⟩ : ByteArray)⟩ : S36) :: (⟨(⟨#[100,97,116,101]⟩ : ByteArray),(⟨#[]⟩ : ByteArray)⟩ : S36) :: (⟨(⟨#[101,116,97,103]⟩ : ByteArray),(⟨#[]⟩ : ByteArray)⟩ : S36) :: (⟨(⟨#[101,120,112,101,99,116]⟩ : ByteArray),(⟨#[]⟩ : ByteArray)⟩ : S36) :: (⟨(⟨#[101,120,112,105,114,101,115]⟩ : ByteArray),(⟨#[]⟩ : ByteArray)⟩ : S36) :: (⟨(⟨#[102,114,111,109]⟩ : ByteArray),(⟨#[]⟩ : ByteArray)⟩ : S36) :: (⟨(⟨#[104,111,115,116]⟩ : ByteArray),(⟨#[]⟩ : ByteArray)⟩ : S36) :: (⟨(⟨#[105,102,45,109,97,116,99,104]⟩ : ByteArray),(⟨#[]⟩ : ByteArray)⟩ : S36) :: (⟨(⟨#[105,102,45,109,111,100,105,102,105,101,100,45,115,105,110,99,101]⟩ : ByteArray),(⟨#[]⟩ : ByteArray)⟩ : S36) :: (⟨(⟨#[105,102,45,110,111,110,101,45,109,97,116,99,104]⟩ : ByteArray),(⟨#[]⟩ : ByteArray)⟩ : S36) :: (⟨(⟨#[105,102,45,114,97,110,103,101]⟩ : ByteArray),(⟨#[]⟩ : ByteArray)⟩ : S36) :: (⟨(⟨#[105,102,45,117,110,109,111,100,105,102,105,101,100,45,115,105,110,99,101]⟩ : ByteArray),(⟨#[]⟩ : ByteArray)⟩ : S36) :: (⟨(⟨#[108,97,115,116,45,109,111,100,105,102,105,101,100]⟩ : ByteArray),(⟨#[]⟩ : ByteArray)⟩ : S36) :: (⟨(⟨#[108,105,110,107]⟩ : ByteArray),(⟨#[]⟩ : ByteArray)⟩ : S36) :: (⟨(⟨#[108,111,99,97,116,105,111,110]⟩ : ByteArray),(⟨#[]⟩ : ByteArray)⟩ : S36) :: (⟨(⟨#[109,97,120,45,102,111,114,119,97,114,100,115]⟩ : ByteArray),(⟨#[]⟩ : ByteArray)⟩ : S36) :: (⟨(⟨#[112,114,111,120,121,45,97,117,116,104,101,110,116,105,99,97,116,101]⟩ : ByteArray),(⟨#[]⟩ : ByteArray)⟩ : S36) :: (⟨(⟨#[112,114,111,120,121,45,97,117,116,104,111,114,105,122,97,116,105,111,110]⟩ : ByteArray),(⟨#[]⟩ : ByteArray)⟩ : S36) :: (⟨(⟨#[114,97,110,103,101]⟩ : ByteArray),(⟨#[]⟩ : ByteArray)⟩ : S36) :: (⟨(⟨#[114,101,102,101,114,101,114]⟩ : ByteArray),(⟨#[]⟩ : ByteArray)⟩ : S36) :: (⟨(⟨#[114,101,102,114,101,115,104]⟩ : ByteArray),(⟨#[]⟩ : ByteArray)⟩ : S36) :: (⟨(⟨#[114,101,116,114,121,45,97,102,116,101,114]⟩ : ByteArray),(⟨#[]⟩ : ByteArray)⟩ : S36) :: (⟨(⟨#[115,101,114,118,101,114]⟩ : ByteArray),(⟨#[]⟩ : ByteArray)⟩ : S36) :: (⟨(⟨#[115,101,116,45,99,111,111,107,105,101]⟩ : ByteArray),(⟨#[]⟩ : ByteArray)⟩ : S36) :: (⟨(⟨#[115,116,114,105,99,116,45,116,114,97,110,115,112,111,114,116,45,115,101,99,117,114,105,116,121]⟩ : ByteArray),(⟨#[]⟩ : ByteArray)⟩ : S36) :: (⟨(⟨#[116,114,97,110,115,102,101,114,45,101,110,99,111,100,105,110,103]⟩ : ByteArray),(⟨#[]⟩ : ByteArray)⟩ : S36) :: (⟨(⟨#[117,115,101,114,45,97,103,101,110,116]⟩ : ByteArray),(⟨#[]⟩ : ByteArray)⟩ : S36) :: (⟨(⟨#[118,97,114,121]⟩ : ByteArray),(⟨#[]⟩ : ByteArray)⟩ : S36) :: (⟨(⟨#[118,105,97]⟩ : ByteArray),(⟨#[]⟩ : ByteArray)⟩ : S36) :: (⟨(⟨#[119,119,119,45,97,117,116,104,101,110,116,105,99,97,116,101]⟩ : ByteArray),(⟨#[]⟩ : ByteArray)⟩ : S36) :: []) : List (S36))):=⟨_,rfl⟩
 replace H : (some y121) = some r:=by first|(rw [hy121];with_reducible exact H)|(have H2_:=(Option.bind_some _ _).symm.trans H;rw [hy121];with_reducible exact H2_)|(have H2_:=(Option.bind_some _ _).symm.trans H;with_reducible exact H2_)|with_reducible exact H|(rw [hy121];exact H)|exact H
 have Ny121:=zm0_ hy121
 clear hy121
 obtain rfl:=Option.some.inj H
 go_enter Tryz.func39,Tryz.ntmps39
 go_wp2_with (first|((with_reducible refine gate_dst (N:=62) rfl ?_);refine Kd.R_lit k36 _ 36 ?hg (N:=62) ?hd (xs:=(((⟨(⟨#[58,97,117,116,104,111,114,105,116,121]⟩ : ByteArray),(⟨#[]⟩ : ByteArray)⟩ : S36) :: (⟨(⟨#[58,109,101,116,104,111,100]⟩ : ByteArray),(⟨#[71,69,84]⟩ : ByteArray)⟩ : S36) :: (⟨(⟨#[58,109,101,116,104,111,100]⟩ : ByteArray),(⟨#[80,79,83,84]⟩ : ByteArray)⟩ : S36) :: (⟨(⟨#[58,112,97,116,104]⟩ : ByteArray),(⟨#[47]⟩ : ByteArray)⟩ : S36) :: (⟨(⟨#[58,112,97,116,104]⟩ : ByteArray),(⟨#[47,105,110,100,101,120,46,104,116,109,108]⟩ : ByteArray)⟩ : S36) :: (⟨(⟨#[58,115,99,104,101,109,101]⟩ : ByteArray),(⟨#[104,116,116,112]⟩ : ByteArray)⟩ : S36) :: (⟨(⟨#[58,115,99,104,101,109,101]⟩ : ByteArray),(⟨#[104,116,116,112,115]⟩ : ByteArray)⟩ : S36) :: (⟨(⟨#[58,115,116,97,116,117,115]⟩ : ByteArray),(⟨#[50,48,48]⟩ : ByteArray)⟩ : S36) :: (⟨(⟨#[58,115,116,97,116,117,115]⟩ : ByteArray),(⟨#[50,48,52]⟩ : ByteArray)⟩ : S36) :: (⟨(⟨#[58,115,116,97,116,117,115]⟩ : ByteArray),(⟨#[50,48,54]⟩ : ByteArray)⟩ : S36) :: (⟨(⟨#[58,115,116,97,116,117,115]⟩ : ByteArray),(⟨#[51,48,52]⟩ : ByteArray)⟩ : S36) :: (⟨(⟨#[58,115,116,97,116,117,115]⟩ : ByteArray),(⟨#[52,48,48]⟩ : ByteArray)⟩ : S36) :: (⟨(⟨#[58,115,116,97,116,117,115]⟩ : ByteArray),(⟨#[52,48,52]⟩ : ByteArray)⟩ : S36) :: (⟨(⟨#[58,115,116,97,116,117,115]⟩ : ByteArray),(⟨#[53,48,48]⟩ : ByteArray)⟩ : S36) :: (⟨(⟨#[97,99,99,101,112,116,45,99,104,97,114,115,101,116]⟩ : ByteArray),(⟨#[]⟩ : ByteArray)⟩ : S36) :: (⟨(⟨#[97,99,99,101,112,116,45,101,110,99,111,100,105,110,103]⟩ : ByteArray),(⟨#[103,122,105,112,44,32,100,101,102,108,97,116,101]⟩ : ByteArray)⟩ : S36) :: (⟨(⟨#[97,99,99,101,112,116,45,108,97,110,103,117,97,103,101]⟩ : ByteArray),(⟨#[]⟩ : ByteArray)⟩ : S36) :: (⟨(⟨#[97,99,99,101,112,116,45,114,97,110,103,101,115]⟩ : ByteArray),(⟨#[]⟩ : ByteArray)⟩ : S36) :: (⟨(⟨#[97,99,99,101,112,116]⟩ : ByteArray),(⟨#[]⟩ : ByteArray)⟩ : S36) :: (⟨(⟨#[97,99,99,101,115,115,45,99,111,110,116,114,111,108,45,97,108,108,111,119,45,111,114,105,103,105,110]⟩ : ByteArray),(⟨#[]⟩ : ByteArray)⟩ : S36) :: (⟨(⟨#[97,103,101]⟩ : ByteArray),(⟨#[]⟩ : ByteArray)⟩ : S36) :: (⟨(⟨#[97,108,108,111,119]⟩ : ByteArray),(⟨#[]⟩ : ByteArray)⟩ : S36) :: (⟨(⟨#[97,117,116,104,111,114,105,122,97,116,105,111,110]⟩ : ByteArray),(⟨#[]⟩ : ByteArray)⟩ : S36) :: (⟨(⟨#[99,97,99,104,101,45,99,111,110,116,114,111,108]⟩ : ByteArray),(⟨#[]⟩ : ByteArray)⟩ : S36) :: (⟨(⟨#[99,111,110,116,101,110,116,45,100,105,115,112,111,115,105,116,105,111,110]⟩ : ByteArray),(⟨#[]⟩ : ByteArray)⟩ : S36) :: (⟨(⟨#[99,111,110,116,101,110,116,45,101,110,99,111,100,105,110,103]⟩ : ByteArray),(⟨#[]⟩ : ByteArray)⟩ : S36) :: (⟨(⟨#[99,111,110,116,101,110,116,45,108,97,110,103,117,97,103,101]⟩ : ByteArray),(⟨#[]⟩ : ByteArray)⟩ : S36) :: (⟨(⟨#[99,111,110,116,101,110,116,45,108,101,110,103,116,104]⟩ : ByteArray),(⟨#[]⟩ : ByteArray)⟩ : S36) :: (⟨(⟨#[99,111,110,116,101,110,116,45,108,111,99,97,116,105,111,110]⟩ : ByteArray),(⟨#[]⟩ : ByteArray)⟩ : S36) :: (⟨(⟨#[99,111,110,116,101,110,116,45,114,97,110,103,101]⟩ : ByteArray),(⟨#[]⟩ : ByteArray)⟩ : S36) :: (⟨(⟨#[99,111,110,116,101,110,116,45,116,121,112,101]⟩ : ByteArray),(⟨#[]⟩ : ByteArray)⟩ : S36) :: (⟨(⟨#[99,111,111,107,105,101]⟩ : ByteArray),(⟨#[]⟩ : ByteArray)⟩ : S36) :: (⟨(⟨#[100,97,116,101]⟩ : ByteArray),(⟨#[]⟩ : ByteArray)⟩ : S36) :: (⟨(⟨#[101,116,97,103]⟩ : ByteArray),(⟨#[]⟩ : ByteArray)⟩ : S36) :: (⟨(⟨#[101,120,112,101,99,116]⟩ : ByteArray),(⟨#[]⟩ : ByteArray)⟩ : S36) :: (⟨(⟨#[101,120,112,105,114,101,115]⟩ : ByteArray),(⟨#[]⟩ : ByteArray)⟩ : S36) :: (⟨(⟨#[102,114,111,109]⟩ : ByteArray),(⟨#[]⟩ : ByteArray)⟩ : S36) :: (⟨(⟨#[104,111,115,116]⟩ : ByteArray),(⟨#[]⟩ : ByteArray)⟩ : S36) :: (⟨(⟨#[105,102,45,109,97,116,99,104]⟩ : ByteArray),(⟨#[]⟩ : ByteArray)⟩ : S36) :: (⟨(⟨#[105,102,45,109,111,100,105,102,105,101,100,45,115,105,110,99,101]⟩ : ByteArray),(⟨#[]⟩ : ByteArray)⟩ : S36) :: (⟨(⟨#[105,102,45,110,111,110,101,45,109,97,116,99,104]⟩ : ByteArray),(⟨#[]⟩ : ByteArray)⟩ : S36) :: (⟨(⟨#[105,102,45,114,97,110,103,101]⟩ : ByteArray),(⟨#[]⟩ : ByteArray)⟩ : S36) :: (⟨(⟨#[105,102,45,117,110,109,111,100,105,102,105,101,100,45,115,105,110,99,101]⟩ : ByteArray),(⟨#[]⟩ : ByteArray)⟩ : S36) :: (⟨(⟨#[108,97,115,116,45,109,111,100,105,102,105,101,100]⟩ : ByteArray),(⟨#[]⟩ : ByteArray)⟩ : S36) :: (⟨(⟨#[108,105,110,107]⟩ : ByteArray),(⟨#[]⟩ : ByteArray)⟩ : S36) :: (⟨(⟨#[108,111,99,97,116,105,111,110]⟩ : ByteArray),(⟨#[]⟩ : ByteArray)⟩ : S36) :: (⟨(⟨#[109,97,120,45,102,111,114,119,97,114,100,115]⟩ : ByteArray),(⟨#[]⟩ : ByteArray)⟩ : S36) :: (⟨(⟨#[112,114,111,120,121,45,97,117,116,104,101,110,116,105,99,97,116,101]⟩ : ByteArray),(⟨#[]⟩ : ByteArray)⟩ : S36) :: (⟨(⟨#[112,114,111,120,121,45,97,117,116,104,111,114,105,122,97,116,105,111,110]⟩ : ByteArray),(⟨#[]⟩ : ByteArray)⟩ : S36) :: (⟨(⟨#[114,97,110,103,101]⟩ : ByteArray),(⟨#[]⟩ : ByteArray)⟩ : S36) :: (⟨(⟨#[114,101,102,101,114,101,114]⟩ : ByteArray),(⟨#[]⟩ : ByteArray)⟩ : S36) :: (⟨(⟨#[114,101,102,114,101,115,104]⟩ : ByteArray),(⟨#[]⟩ : ByteArray)⟩ : S36) :: (⟨(⟨#[114,101,116,114,121,45,97,102,116,101,114]⟩ : ByteArray),(⟨#[]⟩ : ByteArray)⟩ : S36) :: (⟨(⟨#[115,101,114,118,101,114]⟩ : ByteArray),(⟨#[]⟩ : ByteArray)⟩ : S36) :: (⟨(⟨#[115,101,116,45,99,111,111,107,105,101]⟩ : ByteArray),(⟨#[]⟩ : ByteArray)⟩ : S36) :: (⟨(⟨#[115,116,114,105,99,116,45,116,114,97,110,115,112,111,114,116,45,115,101,99,117,114,105,116,121]⟩ : ByteArray),(⟨#[]⟩ : ByteArray)⟩ : S36) :: (⟨(⟨#[116,114,97,110,115,102,101,114,45,101,110,99,111,100,105,110,103]⟩ : ByteArray),(⟨#[]⟩ : ByteArray)⟩ : S36) :: (⟨(⟨#[117,115,101,114,45,97,103,101,110,116]⟩ : ByteArray),(⟨#[]⟩ : ByteArray)⟩ : S36) :: (⟨(⟨#[118,97,114,121]⟩ : ByteArray),(⟨#[]⟩ : ByteArray)⟩ : S36) :: (⟨(⟨#[118,105,97]⟩ : ByteArray),(⟨#[]⟩ : ByteArray)⟩ : S36) :: (⟨(⟨#[119,119,119,45,97,117,116,104,101,110,116,105,99,97,116,101]⟩ : ByteArray),(⟨#[]⟩ : ByteArray)⟩ : S36) :: []) : List (S36))) (inner:=(.string (⟨#[58,97,117,116,104,111,114,105,116,121]⟩ : ByteArray) :: .string (⟨#[]⟩ : ByteArray) :: .string (⟨#[58,109,101,116,104,111,100]⟩ : ByteArray) :: .string (⟨#[71,69,84]⟩ : ByteArray) :: .string (⟨#[58,109,101,116,104,111,100]⟩ : ByteArray) :: .string (⟨#[80,79,83,84]⟩ : ByteArray) :: .string (⟨#[58,112,97,116,104]⟩ : ByteArray) :: .string (⟨#[47]⟩ : ByteArray) :: .string (⟨#[58,112,97,116,104]⟩ : ByteArray) :: .string (⟨#[47,105,110,100,101,120,46,104,116,109,108]⟩ : ByteArray) :: .string (⟨#[58,115,99,104,101,109,101]⟩ : ByteArray) :: .string (⟨#[104,116,116,112]⟩ : ByteArray) :: .string (⟨#[58,115,99,104,101,109,101]⟩ : ByteArray) :: .string (⟨#[104,116,116,112,115]⟩ : ByteArray) :: .string (⟨#[58,115,116,97,116,117,115]⟩ : ByteArray) :: .string (⟨#[50,48,48]⟩ : ByteArray) :: .string (⟨#[58,115,116,97,116,117,115]⟩ : ByteArray) :: .string (⟨#[50,48,52]⟩ : ByteArray) :: .string (⟨#[58,115,116,97,116,117,115]⟩ : ByteArray) :: .string (⟨#[50,48,54]⟩ : ByteArray) :: .string (⟨#[58,115,116,97,116,117,115]⟩ : ByteArray) :: .string (⟨#[51,48,52]⟩ : ByteArray) :: .string (⟨#[58,115,116,97,116,117,115]⟩ : ByteArray) :: .string (⟨#[52,48,48]⟩ : ByteArray) :: .string (⟨#[58,115,116,97,116,117,115]⟩ : ByteArray) :: .string (⟨#[52,48,52]⟩ : ByteArray) :: .string (⟨#[58,115,116,97,116,117,115]⟩ : ByteArray) :: .string (⟨#[53,48,48]⟩ : ByteArray) :: .string (⟨#[97,99,99,101,112,116,45,99,104,97,114,115,101,116]⟩ : ByteArray) :: .string (⟨#[]⟩ : ByteArray) :: .string (⟨#[97,99,99,101,112,116,45,101,110,99,111,100,105,110,103]⟩ : ByteArray) :: .string (⟨#[103,122,105,112,44,32,100,101,102,108,97,116,101]⟩ : ByteArray) :: .string (⟨#[97,99,99,101,112,116,45,108,97,110,103,117,97,103,101]⟩ : ByteArray) :: .string (⟨#[]⟩ : ByteArray) :: .string (⟨#[97,99,99,101,112,116,45,114,97,110,103,101,115]⟩ : ByteArray) :: .string (⟨#[]⟩ : ByteArray) :: .string (⟨#[97,99,99,101,112,116]⟩ : ByteArray) :: .string (⟨#[]⟩ : ByteArray) :: .string (⟨#[97,99,99,101,115,115,45,99,111,110,116,114,111,108,45,97,108,108,111,119,45,111,114,105,103,105,110]⟩ : ByteArray) :: .string (⟨#[]⟩ : ByteArray) :: .string (⟨#[97,103,101]⟩ : ByteArray) :: .string (⟨#[]⟩ : ByteArray) :: .string (⟨#[97,108,108,111,119]⟩ : ByteArray) :: .string (⟨#[]⟩ : ByteArray) :: .string (⟨#[97,117,116,104,111,114,105,122,97,116,105,111,110]⟩ : ByteArray) :: .string (⟨#[]⟩ : ByteArray) :: .string (⟨#[99,97,99,104,101,45,99,111,110,116,114,111,108]⟩ : ByteArray) :: .string (⟨#[]⟩ : ByteArray) :: .string (⟨#[99,111,110,116,101,110,116,45,100,105,115,112,111,115,105,116,105,111,110]⟩ : ByteArray) :: .string (⟨#[]⟩ : ByteArray) :: .string (⟨#[99,111,110,116,101,110,116,45,101,110,99,111,100,105,110,103]⟩ : ByteArray) :: .string (⟨#[]⟩ : ByteArray) :: .string (⟨#[99,111,110,116,101,110,116,45,108,97,110,103,117,97,103,101]⟩ : ByteArray) :: .string (⟨#[]⟩ : ByteArray) :: .string (⟨#[99,111,110,116,101,110,116,45,108,101,110,103,116,104]⟩ : ByteArray) :: .string (⟨#[]⟩ : ByteArray) :: .string (⟨#[99,111,110,116,101,110,116,45,108,111,99,97,116,105,111,110]⟩ : ByteArray) :: .string (⟨#[]⟩ : ByteArray) :: .string (⟨#[99,111,110,116,101,110,116,45,114,97,110,103,101]⟩ : ByteArray) :: .string (⟨#[]⟩ : ByteArray) :: .string (⟨#[99,111,110,116,101,110,116,45,116,121,112,101]⟩ : ByteArray) :: .string (⟨#[]⟩ : ByteArray) :: .string (⟨#[99,111,111,107,105,101]⟩ : ByteArray) :: .string (⟨#[]⟩ : ByteArray) :: .string (⟨#[100,97,116,101]⟩ : ByteArray) :: .string (⟨#[]⟩ : ByteArray) :: .string (⟨#[101,116,97,103]⟩ : ByteArray) :: .string (⟨#[]⟩ : ByteArray) :: .string (⟨#[101,120,112,101,99,116]⟩ : ByteArray) :: .string (⟨#[]⟩ : ByteArray) :: .string (⟨#[101,120,112,105,114,101,115]⟩ : ByteArray) :: .string (⟨#[]⟩ : ByteArray) :: .string (⟨#[102,114,111,109]⟩ : ByteArray) :: .string (⟨#[]⟩ : ByteArray) :: .string (⟨#[104,111,115,116]⟩ : ByteArray) :: .string (⟨#[]⟩ : ByteArray) :: .string (⟨#[105,102,45,109,97,116,99,104]⟩ : ByteArray) :: .string (⟨#[]⟩ : ByteArray) :: .string (⟨#[105,102,45,109,111,100,105,102,105,101,100,45,115,105,110,99,101]⟩ : ByteArray) :: .string (⟨#[]⟩ : ByteArray) :: .string (⟨#[105,102,45,110,111,110,101,45,109,97,116,99,104]⟩ : ByteArray) :: .string (⟨#[]⟩ : ByteArray) :: .string (⟨#[105,102,45,114,97,110,103,101]⟩ : ByteArray) :: .string (⟨#[]⟩ : ByteArray) :: .string (⟨#[105,102,45,117,110,109,111,100,105,102,105,101,100,45,115,105,110,99,101]⟩ : ByteArray) :: .string (⟨#[]⟩ : ByteArray) :: .string (⟨#[108,97,115,116,45,109,111,100,105,102,105,101,100]⟩ : ByteArray) :: .string (⟨#[]⟩ : ByteArray) :: .string (⟨#[108,105,110,107]⟩ : ByteArray) :: .string (⟨#[]⟩ : ByteArray) :: .string (⟨#[108,111,99,97,116,105,111,110]⟩ : ByteArray) :: .string (⟨#[]⟩ : ByteArray) :: .string (⟨#[109,97,120,45,102,111,114,119,97,114,100,115]⟩ : ByteArray) :: .string (⟨#[]⟩ : ByteArray) :: .string (⟨#[112,114,111,120,121,45,97,117,116,104,101,110,116,105,99,97,116,101]⟩ : ByteArray) :: .string (⟨#[]⟩ : ByteArray) :: .string (⟨#[112,114,111,120,121,45,97,117,116,104,111,114,105,122,97,116,105,111,110]⟩ : ByteArray) :: .string (⟨#[]⟩ : ByteArray) :: .string (⟨#[114,97,110,103,101]⟩ : ByteArray) :: .string (⟨#[]⟩ : ByteArray) :: .string (⟨#[114,101,102,101,114,101,114]⟩ : ByteArray) :: .string (⟨#[]⟩ : ByteArray) :: .string (⟨#[114,101,102,114,101,115,104]⟩ : ByteArray) :: .string (⟨#[]⟩ : ByteArray) :: .string (⟨#[114,101,116,114,121,45,97,102,116,101,114]⟩ : ByteArray) :: .string (⟨#[]⟩ : ByteArray) :: .string (⟨#[115,101,114,118,101,114]⟩ : ByteArray) :: .string (⟨#[]⟩ : ByteArray) :: .string (⟨#[115,101,116,45,99,111,111,107,105,101]⟩ : ByteArray) :: .string (⟨#[]⟩ : ByteArray) :: .string (⟨#[115,116,114,105,99,116,45,116,114,97,110,115,112,111,114,116,45,115,101,99,117,114,105,116,121]⟩ : ByteArray) :: .string (⟨#[]⟩ : ByteArray) :: .string (⟨#[116,114,97,110,115,102,101,114,45,101,110,99,111,100,105,110,103]⟩ : ByteArray) :: .string (⟨#[]⟩ : ByteArray) :: .string (⟨#[117,115,101,114,45,97,103,101,110,116]⟩ : ByteArray) :: .string (⟨#[]⟩ : ByteArray) :: .string (⟨#[118,97,114,121]⟩ : ByteArray) :: .string (⟨#[]⟩ : ByteArray) :: .string (⟨#[118,105,97]⟩ : ByteArray) :: .string (⟨#[]⟩ : ByteArray) :: .string (⟨#[119,119,119,45,97,117,116,104,101,110,116,105,99,97,116,101]⟩ : ByteArray) :: .string (⟨#[]⟩ : ByteArray) :: [])) (ok:=fun _ => True) (okp:=fun _ => True) ?hr ?hp (fun _ hk => hk) trivial (Below.refl _ _) (Nat.le_refl _) (by simp) ?_;(case hd => rfl);(case hg => rfl);(case hr => kernel_rfl);(case hp => exact (Reps.c2 (show Kd.M k36 _ _ _ (⟨(⟨#[58,97,117,116,104,111,114,105,116,121]⟩ : ByteArray),(⟨#[]⟩ : ByteArray)⟩ : S36) [.string (⟨#[58,97,117,116,104,111,114,105,116,121]⟩ : ByteArray),.string (⟨#[]⟩ : ByteArray)] from (k36_mkM _ _ _ (⟨(⟨#[58,97,117,116,104,111,114,105,116,121]⟩ : ByteArray),(⟨#[]⟩ : ByteArray)⟩ : S36) )) (Reps.c2 (show Kd.M k36 _ _ _ (⟨(⟨#[58,109,101,116,104,111,100]⟩ : ByteArray),(⟨#[71,69,84]⟩ : ByteArray)⟩ : S36) [.string (⟨#[58,109,101,116,104,111,100]⟩ : ByteArray),.string (⟨#[71,69,84]⟩ : ByteArray)] from (k36_mkM _ _ _ (⟨(⟨#[58,109,101,116,104,111,100]⟩ : ByteArray),(⟨#[71,69,84]⟩ : ByteArray)⟩ : S36) )) (Reps.c2 (show Kd.M k36 _ _ _ (⟨(⟨#[58,109,101,116,104,111,100]⟩ : ByteArray),(⟨#[80,79,83,84]⟩ : ByteArray)⟩ : S36) [.string (⟨#[58,109,101,116,104,111,100]⟩ : ByteArray),.string (⟨#[80,79,83,84]⟩ : ByteArray)] from (k36_mkM _ _ _ (⟨(⟨#[58,109,101,116,104,111,100]⟩ : ByteArray),(⟨#[80,79,83,84]⟩ : ByteArray)⟩ : S36) )) (Reps.c2 (show Kd.M k36 _ _ _ (⟨(⟨#[58,112,97,116,104]⟩ : ByteArray),(⟨#[47]⟩ : ByteArray)⟩ : S36) [.string (⟨#[58,112,97,116,104]⟩ : ByteArray),.string (⟨#[47]⟩ : ByteArray)] from (k36_mkM _ _ _ (⟨(⟨#[58,112,97,116,104]⟩ : ByteArray),(⟨#[47]⟩ : ByteArray)⟩ : S36) )) (Reps.c2 (show Kd.M k36 _ _ _ (⟨(⟨#[58,112,97,116,104]⟩ : ByteArray),(⟨#[47,105,110,100,101,120,46,104,116,109,108]⟩ : ByteArray)⟩ : S36) [.string (⟨#[58,112,97,116,104]⟩ : ByteArray),.string (⟨#[47,105,110,100,101,120,46,104,116,109,108]⟩ : ByteArray)] from (k36_mkM _ _ _ (⟨(⟨#[58,112,97,116,104]⟩ : ByteArray),(⟨#[47,105,110,100,101,120,46,104,116,109,108]⟩ : ByteArray)⟩ : S36) )) (Reps.c2 (show Kd.M k36 _ _ _ (⟨(⟨#[58,115,99,104,101,109,101]⟩ : ByteArray),(⟨#[104,116,116,112]⟩ : ByteArray)⟩ : S36) [.string (⟨#[58,115,99,104,101,109,101]⟩ : ByteArray),.string (⟨#[104,116,116,112]⟩ : ByteArray)] from (k36_mkM _ _ _ (⟨(⟨#[58,115,99,104,101,109,101]⟩ : ByteArray),(⟨#[104,116,116,112]⟩ : ByteArray)⟩ : S36) )) (Reps.c2 (show Kd.M k36 _ _ _ (⟨(⟨#[58,115,99,104,101,109,101]⟩ : ByteArray),(⟨#[104,116,116,112,115]⟩ : ByteArray)⟩ : S36) [.string (⟨#[58,115,99,104,101,109,101]⟩ : ByteArray),.string (⟨#[104,116,116,112,115]⟩ : ByteArray)] from (k36_mkM _ _ _ (⟨(⟨#[58,115,99,104,101,109,101]⟩ : ByteArray),(⟨#[104,116,116,112,115]⟩ : ByteArray)⟩ : S36) )) (Reps.c2 (show Kd.M k36 _ _ _ (⟨(⟨#[58,115,116,97,116,117,115]⟩ : ByteArray),(⟨#[50,48,48]⟩ : ByteArray)⟩ : S36) [.string (⟨#[58,115,116,97,116,117,115]⟩ : ByteArray),.string (⟨#[50,48,48]⟩ : ByteArray)] from (k36_mkM _ _ _ (⟨(⟨#[58,115,116,97,116,117,115]⟩ : ByteArray),(⟨#[50,48,48]⟩ : ByteArray)⟩ : S36) )) (Reps.c2 (show Kd.M k36 _ _ _ (⟨(⟨#[58,115,116,97,116,117,115]⟩ : ByteArray),(⟨#[50,48,52]⟩ : ByteArray)⟩ : S36) [.string (⟨#[58,115,116,97,116,117,115]⟩ : ByteArray),.string (⟨#[50,48,52]⟩ : ByteArray)] from (k36_mkM _ _ _ (⟨(⟨#[58,115,116,97,116,117,115]⟩ : ByteArray),(⟨#[50,48,52]⟩ : ByteArray)⟩ : S36) )) (Reps.c2 (show Kd.M k36 _ _ _ (⟨(⟨#[58,115,116,97,116,117,115]⟩ : ByteArray),(⟨#[50,48,54]⟩ : ByteArray)⟩ : S36) [.string (⟨#[58,115,116,97,116,117,115]⟩ : ByteArray),.string (⟨#[50,48,54]⟩ : ByteArray)] from (k36_mkM _ _ _ (⟨(⟨#[58,115,116,97,116,117,115]⟩ : ByteArray),(⟨#[50,48,54]⟩ : ByteArray)⟩ : S36) )) (Reps.c2 (show Kd.M k36 _ _ _ (⟨(⟨#[58,115,116,97,116,117,115]⟩ : ByteArray),(⟨#[51,48,52]⟩ : ByteArray)⟩ : S36) [.string (⟨#[58,115,116,97,116,117,115]⟩ : ByteArray),.string (⟨#[51,48,52]⟩ : ByteArray)] from (k36_mkM _ _ _ (⟨(⟨#[58,115,116,97,116,117,115]⟩ : ByteArray),(⟨#[51,48,52]⟩ : ByteArray)⟩ : S36) )) (Reps.c2 (show Kd.M k36 _ _ _ (⟨(⟨#[58,115,116,97,116,117,115]⟩ : ByteArray),(⟨#[52,48,48]⟩ : ByteArray)⟩ : S36) [.string (⟨#[58,115,116,97,116,117,115]⟩ : ByteArray),.string (⟨#[52,48,48]⟩ : ByteArray)] from (k36_mkM _ _ _ (⟨(⟨#[58,115,116,97,116,117,115]⟩ : ByteArray),(⟨#[52,48,48]⟩ : ByteArray)⟩ : S36) )) (Reps.c2 (show Kd.M k36 _ _ _ (⟨(⟨#[58,115,116,97,116,117,115]⟩ : ByteArray),(⟨#[52,48,52]⟩ : ByteArray)⟩ : S36) [.string (⟨#[58,115,116,97,116,117,115]⟩ : ByteArray),.string (⟨#[52,48,52]⟩ : ByteArray)] from (k36_mkM _ _ _ (⟨(⟨#[58,115,116,97,116,117,115]⟩ : ByteArray),(⟨#[52,48,52]⟩ : ByteArray)⟩ : S36) )) (Reps.c2 (show Kd.M k36 _ _ _ (⟨(⟨#[58,115,116,97,116,117,115]⟩ : ByteArray),(⟨#[53,48,48]⟩ : ByteArray)⟩ : S36) [.string (⟨#[58,115,116,97,116,117,115]⟩ : ByteArray),.string (⟨#[53,48,48]⟩ : ByteArray)] from (k36_mkM _ _ _ (⟨(⟨#[58,115,116,97,116,117,115]⟩ : ByteArray),(⟨#[53,48,48]⟩ : ByteArray)⟩ : S36) )) (Reps.c2 (show Kd.M k36 _ _ _ (⟨(⟨#[97,99,99,101,112,116,45,99,104,97,114,115,101,116]⟩ : ByteArray),(⟨#[]⟩ : ByteArray)⟩ : S36) [.string (⟨#[97,99,99,101,112,116,45,99,104,97,114,115,101,116]⟩ : ByteArray),.string (⟨#[]⟩ : ByteArray)] from (k36_mkM _ _ _ (⟨(⟨#[97,99,99,101,112,116,45,99,104,97,114,115,101,116]⟩ : ByteArray),(⟨#[]⟩ : ByteArray)⟩ : S36) )) (Reps.c2 (show Kd.M k36 _ _ _ (⟨(⟨#[97,99,99,101,112,116,45,101,110,99,111,100,105,110,103]⟩ : ByteArray),(⟨#[103,122,105,112,44,32,100,101,102,108,97,116,101]⟩ : ByteArray)⟩ : S36) [.string (⟨#[97,99,99,101,112,116,45,101,110,99,111,100,105,110,103]⟩ : ByteArray),.string (⟨#[103,122,105,112,44,32,100,101,102,108,97,116,101]⟩ : ByteArray)] from (k36_mkM _ _ _ (⟨(⟨#[97,99,99,101,112,116,45,101,110,99,111,100,105,110,103]⟩ : ByteArray),(⟨#[103,122,105,112,44,32,100,101,102,108,97,116,101]⟩ : ByteArray)⟩ : S36) )) (Reps.c2 (show Kd.M k36 _ _ _ (⟨(⟨#[97,99,99,101,112,116,45,108,97,110,103,117,97,103,101]⟩ : ByteArray),(⟨#[]⟩ : ByteArray)⟩ : S36) [.string (⟨#[97,99,99,101,112,116,45,108,97,110,103,117,97,103,101]⟩ : ByteArray),.string (⟨#[]⟩ : ByteArray)] from (k36_mkM _ _ _ (⟨(⟨#[97,99,99,101,112,116,45,108,97,110,103,117,97,103,101]⟩ : ByteArray),(⟨#[]⟩ : ByteArray)⟩ : S36) )) (Reps.c2 (show Kd.M k36 _ _ _ (⟨(⟨#[97,99,99,101,112,116,45,114,97,110,103,101,115]⟩ : ByteArray),(⟨#[]⟩ : ByteArray)⟩ : S36) [.string (⟨#[97,99,99,101,112,116,45,114,97,110,103,101,115]⟩ : ByteArray),.string (⟨#[]⟩ : ByteArray)] from (k36_mkM _ _ _ (⟨(⟨#[97,99,99,101,112,116,45,114,97,110,103,101,115]⟩ : ByteArray),(⟨#[]⟩ : ByteArray)⟩ : S36) )) (Reps.c2 (show Kd.M k36 _ _ _ (⟨(⟨#[97,99,99,101,112,116]⟩ : ByteArray),(⟨#[]⟩ : ByteArray)⟩ : S36) [.string (⟨#[97,99,99,101,112,116]⟩ : ByteArray),.string (⟨#[]⟩ : ByteArray)] from (k36_mkM _ _ _ (⟨(⟨#[97,99,99,101,112,116]⟩ : ByteArray),(⟨#[]⟩ : ByteArray)⟩ : S36) )) (Reps.c2 (show Kd.M k36 _ _ _ (⟨(⟨#[97,99,99,101,115,115,45,99,111,110,116,114,111,108,45,97,108,108,111,119,45,111,114,105,103,105,110]⟩ : ByteArray),(⟨#[]⟩ : ByteArray)⟩ : S36) [.string (⟨#[97,99,99,101,115,115,45,99,111,110,116,114,111,108,45,97,108,108,111,119,45,111,114,105,103,105,110]⟩ : ByteArray),.string (⟨#[]⟩ : ByteArray)] from (k36_mkM _ _ _ (⟨(⟨#[97,99,99,101,115,115,45,99,111,110,116,114,111,108,45,97,108,108,111,119,45,111,114,105,103,105,110]⟩ : ByteArray),(⟨#[]⟩ : ByteArray)⟩ : S36) )) (Reps.c2 (show Kd.M k36 _ _ _ (⟨(⟨#[97,103,101]⟩ : ByteArray),(⟨#[]⟩ : ByteArray)⟩ : S36) [.string (⟨#[97,103,101]⟩ : ByteArray),.string (⟨#[]⟩ : ByteArray)] from (k36_mkM _ _ _ (⟨(⟨#[97,103,101]⟩ : ByteArray),(⟨#[]⟩ : ByteArray)⟩ : S36) )) (Reps.c2 (show Kd.M k36 _ _ _ (⟨(⟨#[97,108,108,111,119]⟩ : ByteArray),(⟨#[]⟩ : ByteArray)⟩ : S36) [.string (⟨#[97,108,108,111,119]⟩ : ByteArray),.string (⟨#[]⟩ : ByteArray)] from (k36_mkM _ _ _ (⟨(⟨#[97,108,108,111,119]⟩ : ByteArray),(⟨#[]⟩ : ByteArray)⟩ : S36) )) (Reps.c2 (show Kd.M k36 _ _ _ (⟨(⟨#[97,117,116,104,111,114,105,122,97,116,105,111,110]⟩ : ByteArray),(⟨#[]⟩ : ByteArray)⟩ : S36) [.string (⟨#[97,117,116,104,111,114,105,122,97,116,105,111,110]⟩ : ByteArray),.string (⟨#[]⟩ : ByteArray)] from (k36_mkM _ _ _ (⟨(⟨#[97,117,116,104,111,114,105,122,97,116,105,111,110]⟩ : ByteArray),(⟨#[]⟩ : ByteArray)⟩ : S36) )) (Reps.c2 (show Kd.M k36 _ _ _ (⟨(⟨#[99,97,99,104,101,45,99,111,110,116,114,111,108]⟩ : ByteArray),(⟨#[]⟩ : ByteArray)⟩ : S36) [.string (⟨#[99,97,99,104,101,45,99,111,110,116,114,111,108]⟩ : ByteArray),.string (⟨#[]⟩ : ByteArray)] from (k36_mkM _ _ _ (⟨(⟨#[99,97,99,104,101,45,99,111,110,116,114,111,108]⟩ : ByteArray),(⟨#[]⟩ : ByteArray)⟩ : S36) )) (Reps.c2 (show Kd.M k36 _ _ _ (⟨(⟨#[99,111,110,116,101,110,116,45,100,105,115,112,111,115,105,116,105,111,110]⟩ : ByteArray),(⟨#[]⟩ : ByteArray)⟩ : S36) [.string (⟨#[99,111,110,116,101,110,116,45,100,105,115,112,111,115,105,116,105,111,110]⟩ : ByteArray),.string (⟨#[]⟩ : ByteArray)] from (k36_mkM _ _ _ (⟨(⟨#[99,111,110,116,101,110,116,45,100,105,115,112,111,115,105,116,105,111,110]⟩ : ByteArray),(⟨#[]⟩ : ByteArray)⟩ : S36) )) (Reps.c2 (show Kd.M k36 _ _ _ (⟨(⟨#[99,111,110,116,101,110,116,45,101,110,99,111,100,105,110,103]⟩ : ByteArray),(⟨#[]⟩ : ByteArray)⟩ : S36) [.string (⟨#[99,111,110,116,101,110,116,45,101,110,99,111,100,105,110,103]⟩ : ByteArray),.string (⟨#[]⟩ : ByteArray)] from (k36_mkM _ _ _ (⟨(⟨#[99,111,110,116,101,110,116,45,101,110,99,111,100,105,110,103]⟩ : ByteArray),(⟨#[]⟩ : ByteArray)⟩ : S36) )) (Reps.c2 (show Kd.M k36 _ _ _ (⟨(⟨#[99,111,110,116,101,110,116,45,108,97,110,103,117,97,103,101]⟩ : ByteArray),(⟨#[]⟩ : ByteArray)⟩ : S36) [.string (⟨#[99,111,110,116,101,110,116,45,108,97,110,103,117,97,103,101]⟩ : ByteArray),.string (⟨#[]⟩ : ByteArray)] from (k36_mkM _ _ _ (⟨(⟨#[99,111,110,116,101,110,116,45,108,97,110,103,117,97,103,101]⟩ : ByteArray),(⟨#[]⟩ : ByteArray)⟩ : S36) )) (Reps.c2 (show Kd.M k36 _ _ _ (⟨(⟨#[99,111,110,116,101,110,116,45,108,101,110,103,116,104]⟩ : ByteArray),(⟨#[]⟩ : ByteArray)⟩ : S36) [.string (⟨#[99,111,110,116,101,110,116,45,108,101,110,103,116,104]⟩ : ByteArray),.string (⟨#[]⟩ : ByteArray)] from (k36_mkM _ _ _ (⟨(⟨#[99,111,110,116,101,110,116,45,108,101,110,103,116,104]⟩ : ByteArray),(⟨#[]⟩ : ByteArray)⟩ : S36) )) (Reps.c2 (show Kd.M k36 _ _ _ (⟨(⟨#[99,111,110,116,101,110,116,45,108,111,99,97,116,105,111,110]⟩ : ByteArray),(⟨#[]⟩ : ByteArray)⟩ : S36) [.string (⟨#[99,111,110,116,101,110,116,45,108,111,99,97,116,105,111,110]⟩ : ByteArray),.string (⟨#[]⟩ : ByteArray)] from (k36_mkM _ _ _ (⟨(⟨#[99,111,110,116,101,110,116,45,108,111,99,97,116,105,111,110]⟩ : ByteArray),(⟨#[]⟩ : ByteArray)⟩ : S36) )) (Reps.c2 (show Kd.M k36 _ _ _ (⟨(⟨#[99,111,110,116,101,110,116,45,114,97,110,103,101]⟩ : ByteArray),(⟨#[]⟩ : ByteArray)⟩ : S36) [.string (⟨#[99,111,110,116,101,110,116,45,114,97,110,103,101]⟩ : ByteArray),.string (⟨#[]⟩ : ByteArray)] from (k36_mkM _ _ _ (⟨(⟨#[99,111,110,116,101,110,116,45,114,97,110,103,101]⟩ : ByteArray),(⟨#[]⟩ : ByteArray)⟩ : S36) )) (Reps.c2 (show Kd.M k36 _ _ _ (⟨(⟨#[99,111,110,116,101,110,116,45,116,121,112,101]⟩ : ByteArray),(⟨#[]⟩ : ByteArray)⟩ : S36) [.string (⟨#[99,111,110,116,101,110,116,45,116,121,112,101]⟩ : ByteArray),.string (⟨#[]⟩ : ByteArray)] from (k36_mkM _ _ _ (⟨(⟨#[99,111,110,116,101,110,116,45,116,121,112,101]⟩ : ByteArray),(⟨#[]⟩ : ByteArray)⟩ : S36) )) (Reps.c2 (show Kd.M k36 _ _ _ (⟨(⟨#[99,111,111,107,105,101]⟩ : ByteArray),(⟨#[]⟩ : ByteArray)⟩ : S36) [.string (⟨#[99,111,111,107,105,101]⟩ : ByteArray),.string (⟨#[]⟩ : ByteArray)] from (k36_mkM _ _ _ (⟨(⟨#[99,111,111,107,105,101]⟩ : ByteArray),(⟨#[]⟩ : ByteArray)⟩ : S36) )) (Reps.c2 (show Kd.M k36 _ _ _ (⟨(⟨#[100,97,116,101]⟩ : ByteArray),(⟨#[]⟩ : ByteArray)⟩ : S36) [.string (⟨#[100,97,116,101]⟩ : ByteArray),.string (⟨#[]⟩ : ByteArray)] from (k36_mkM _ _ _ (⟨(⟨#[100,97,116,101]⟩ : ByteArray),(⟨#[]⟩ : ByteArray)⟩ : S36) )) (Reps.c2 (show Kd.M k36 _ _ _ (⟨(⟨#[101,116,97,103]⟩ : ByteArray),(⟨#[]⟩ : ByteArray)⟩ : S36) [.string (⟨#[101,116,97,103]⟩ : ByteArray),.string (⟨#[]⟩ : ByteArray)] from (k36_mkM _ _ _ (⟨(⟨#[101,116,97,103]⟩ : ByteArray),(⟨#[]⟩ : ByteArray)⟩ : S36) )) (Reps.c2 (show Kd.M k36 _ _ _ (⟨(⟨#[101,120,112,101,99,116]⟩ : ByteArray),(⟨#[]⟩ : ByteArray)⟩ : S36) [.string (⟨#[101,120,112,101,99,116]⟩ : ByteArray),.string (⟨#[]⟩ : ByteArray)] from (k36_mkM _ _ _ (⟨(⟨#[101,120,112,101,99,116]⟩ : ByteArray),(⟨#[]⟩ : ByteArray)⟩ : S36) )) (Reps.c2 (show Kd.M k36 _ _ _ (⟨(⟨#[101,120,112,105,114,101,115]⟩ : ByteArray),(⟨#[]⟩ : ByteArray)⟩ : S36) [.string (⟨#[101,120,112,105,114,101,115]⟩ : ByteArray),.string (⟨#[]⟩ : ByteArray)] from (k36_mkM _ _ _ (⟨(⟨#[101,120,112,105,114,101,115]⟩ : ByteArray),(⟨#[]⟩ : ByteArray)⟩ : S36) )) (Reps.c2 (show Kd.M k36 _ _ _ (⟨(⟨#[102,114,111,109]⟩ : ByteArray),(⟨#[]⟩ : ByteArray)⟩ : S36) [.string (⟨#[102,114,111,109]⟩ : ByteArray),.string (⟨#[]⟩ : ByteArray)] from (k36_mkM _ _ _ (⟨(⟨#[102,114,111,109]⟩ : ByteArray),(⟨#[]⟩ : ByteArray)⟩ : S36) )) (Reps.c2 (show Kd.M k36 _ _ _ (⟨(⟨#[104,111,115,116]⟩ : ByteArray),(⟨#[]⟩ : ByteArray)⟩ : S36) [.string (⟨#[104,111,115,116]⟩ : ByteArray),.string (⟨#[]⟩ : ByteArray)] from (k36_mkM _ _ _ (⟨(⟨#[104,111,115,116]⟩ : ByteArray),(⟨#[]⟩ : ByteArray)⟩ : S36) )) (Reps.c2 (show Kd.M k36 _ _ _ (⟨(⟨#[105,102,45,109,97,116,99,104]⟩ : ByteArray),(⟨#[]⟩ : ByteArray)⟩ : S36) [.string (⟨#[105,102,45,109,97,116,99,104]⟩ : ByteArray),.string (⟨#[]⟩ : ByteArray)] from (k36_mkM _ _ _ (⟨(⟨#[105,102,45,109,97,116,99,104]⟩ : ByteArray),(⟨#[]⟩ : ByteArray)⟩ : S36) )) (Reps.c2 (show Kd.M k36 _ _ _ (⟨(⟨#[105,102,45,109,111,100,105,102,105,101,100,45,115,105,110,99,101]⟩ : ByteArray),(⟨#[]⟩ : ByteArray)⟩ : S36) [.string (⟨#[105,102,45,109,111,100,105,102,105,101,100,45,115,105,110,99,101]⟩ : ByteArray),.string (⟨#[]⟩ : ByteArray)] from (k36_mkM _ _ _ (⟨(⟨#[105,102,45,109,111,100,105,102,105,101,100,45,115,105,110,99,101]⟩ : ByteArray),(⟨#[]⟩ : ByteArray)⟩ : S36) )) (Reps.c2 (show Kd.M k36 _ _ _ (⟨(⟨#[105,102,45,110,111,110,101,45,109,97,116,99,104]⟩ : ByteArray),(⟨#[]⟩ : ByteArray)⟩ : S36) [.string (⟨#[105,102,45,110,111,110,101,45,109,97,116,99,104]⟩ : ByteArray),.string (⟨#[]⟩ : ByteArray)] from (k36_mkM _ _ _ (⟨(⟨#[105,102,45,110,111,110,101,45,109,97,116,99,104]⟩ : ByteArray),(⟨#[]⟩ : ByteArray)⟩ : S36) )) (Reps.c2 (show Kd.M k36 _ _ _ (⟨(⟨#[105,102,45,114,97,110,103,101]⟩ : ByteArray),(⟨#[]⟩ : ByteArray)⟩ : S36) [.string (⟨#[105,102,45,114,97,110,103,101]⟩ : ByteArray),.string (⟨#[]⟩ : ByteArray)] from (k36_mkM _ _ _ (⟨(⟨#[105,102,45,114,97,110,103,101]⟩ : ByteArray),(⟨#[]⟩ : ByteArray)⟩ : S36) )) (Reps.c2 (show Kd.M k36 _ _ _ (⟨(⟨#[105,102,45,117,110,109,111,100,105,102,105,101,100,45,115,105,110,99,101]⟩ : ByteArray),(⟨#[]⟩ : ByteArray)⟩ : S36) [.string (⟨#[105,102,45,117,110,109,111,100,105,102,105,101,100,45,115,105,110,99,101]⟩ : ByteArray),.string (⟨#[]⟩ : ByteArray)] from (k36_mkM _ _ _ (⟨(⟨#[105,102,45,117,110,109,111,100,105,102,105,101,100,45,115,105,110,99,101]⟩ : ByteArray),(⟨#[]⟩ : ByteArray)⟩ : S36) )) (Reps.c2 (show Kd.M k36 _ _ _ (⟨(⟨#[108,97,115,116,45,109,111,100,105,102,105,101,100]⟩ : ByteArray),(⟨#[]⟩ : ByteArray)⟩ : S36) [.string (⟨#[108,97,115,116,45,109,111,100,105,102,105,101,100]⟩ : ByteArray),.string (⟨#[]⟩ : ByteArray)] from (k36_mkM _ _ _ (⟨(⟨#[108,97,115,116,45,109,111,100,105,102,105,101,100]⟩ : ByteArray),(⟨#[]⟩ : ByteArray)⟩ : S36) )) (Reps.c2 (show Kd.M k36 _ _ _ (⟨(⟨#[108,105,110,107]⟩ : ByteArray),(⟨#[]⟩ : ByteArray)⟩ : S36) [.string (⟨#[108,105,110,107]⟩ : ByteArray),.string (⟨#[]⟩ : ByteArray)] from (k36_mkM _ _ _ (⟨(⟨#[108,105,110,107]⟩ : ByteArray),(⟨#[]⟩ : ByteArray)⟩ : S36) )) (Reps.c2 (show Kd.M k36 _ _ _ (⟨(⟨#[108,111,99,97,116,105,111,110]⟩ : ByteArray),(⟨#[]⟩ : ByteArray)⟩ : S36) [.string (⟨#[108,111,99,97,116,105,111,110]⟩ : ByteArray),.string (⟨#[]⟩ : ByteArray)] from (k36_mkM _ _ _ (⟨(⟨#[108,111,99,97,116,105,111,110]⟩ : ByteArray),(⟨#[]⟩ : ByteArray)⟩ : S36) )) (Reps.c2 (show Kd.M k36 _ _ _ (⟨(⟨#[109,97,120,45,102,111,114,119,97,114,100,115]⟩ : ByteArray),(⟨#[]⟩ : ByteArray)⟩ : S36) [.string (⟨#[109,97,120,45,102,111,114,119,97,114,100,115]⟩ : ByteArray),.string (⟨#[]⟩ : ByteArray)] from (k36_mkM _ _ _ (⟨(⟨#[109,97,120,45,102,111,114,119,97,114,100,115]⟩ : ByteArray),(⟨#[]⟩ : ByteArray)⟩ : S36) )) (Reps.c2 (show Kd.M k36 _ _ _ (⟨(⟨#[112,114,111,120,121,45,97,117,116,104,101,110,116,105,99,97,116,101]⟩ : ByteArray),(⟨#[]⟩ : ByteArray)⟩ : S36) [.string (⟨#[112,114,111,120,121,45,97,117,116,104,101,110,116,105,99,97,116,101]⟩ : ByteArray),.string (⟨#[]⟩ : ByteArray)] from (k36_mkM _ _ _ (⟨(⟨#[112,114,111,120,121,45,97,117,116,104,101,110,116,105,99,97,116,101]⟩ : ByteArray),(⟨#[]⟩ : ByteArray)⟩ : S36) )) (Reps.c2 (show Kd.M k36 _ _ _ (⟨(⟨#[112,114,111,120,121,45,97,117,116,104,111,114,105,122,97,116,105,111,110]⟩ : ByteArray),(⟨#[]⟩ : ByteArray)⟩ : S36) [.string (⟨#[112,114,111,120,121,45,97,117,116,104,111,114,105,122,97,116,105,111,110]⟩ : ByteArray),.string (⟨#[]⟩ : ByteArray)] from (k36_mkM _ _ _ (⟨(⟨#[112,114,111,120,121,45,97,117,116,104,111,114,105,122,97,116,105,111,110]⟩ : ByteArray),(⟨#[]⟩ : ByteArray)⟩ : S36) )) (Reps.c2 (show Kd.M k36 _ _ _ (⟨(⟨#[114,97,110,103,101]⟩ : ByteArray),(⟨#[]⟩ : ByteArray)⟩ : S36) [.string (⟨#[114,97,110,103,101]⟩ : ByteArray),.string (⟨#[]⟩ : ByteArray)] from (k36_mkM _ _ _ (⟨(⟨#[114,97,110,103,101]⟩ : ByteArray),(⟨#[]⟩ : ByteArray)⟩ : S36) )) (Reps.c2 (show Kd.M k36 _ _ _ (⟨(⟨#[114,101,102,101,114,101,114]⟩ : ByteArray),(⟨#[]⟩ : ByteArray)⟩ : S36) [.string (⟨#[114,101,102,101,114,101,114]⟩ : ByteArray),.string (⟨#[]⟩ : ByteArray)] from (k36_mkM _ _ _ (⟨(⟨#[114,101,102,101,114,101,114]⟩ : ByteArray),(⟨#[]⟩ : ByteArray)⟩ : S36) )) (Reps.c2 (show Kd.M k36 _ _ _ (⟨(⟨#[114,101,102,114,101,115,104]⟩ : ByteArray),(⟨#[]⟩ : ByteArray)⟩ : S36) [.string (⟨#[114,101,102,114,101,115,104]⟩ : ByteArray),.string (⟨#[]⟩ : ByteArray)] from (k36_mkM _ _ _ (⟨(⟨#[114,101,102,114,101,115,104]⟩ : ByteArray),(⟨#[]⟩ : ByteArray)⟩ : S36) )) (Reps.c2 (show Kd.M k36 _ _ _ (⟨(⟨#[114,101,116,114,121,45,97,102,116,101,114]⟩ : ByteArray),(⟨#[]⟩ : ByteArray)⟩ : S36) [.string (⟨#[114,101,116,114,121,45,97,102,116,101,114]⟩ : ByteArray),.string (⟨#[]⟩ : ByteArray)] from (k36_mkM _ _ _ (⟨(⟨#[114,101,116,114,121,45,97,102,116,101,114]⟩ : ByteArray),(⟨#[]⟩ : ByteArray)⟩ : S36) )) (Reps.c2 (show Kd.M k36 _ _ _ (⟨(⟨#[115,101,114,118,101,114]⟩ : ByteArray),(⟨#[]⟩ : ByteArray)⟩ : S36) [.string (⟨#[115,101,114,118,101,114]⟩ : ByteArray),.string (⟨#[]⟩ : ByteArray)] from (k36_mkM _ _ _ (⟨(⟨#[115,101,114,118,101,114]⟩ : ByteArray),(⟨#[]⟩ : ByteArray)⟩ : S36) )) (Reps.c2 (show Kd.M k36 _ _ _ (⟨(⟨#[115,101,116,45,99,111,111,107,105,101]⟩ : ByteArray),(⟨#[]⟩ : ByteArray)⟩ : S36) [.string (⟨#[115,101,116,45,99,111,111,107,105,101]⟩ : ByteArray),.string (⟨#[]⟩ : ByteArray)] from (k36_mkM _ _ _ (⟨(⟨#[115,101,116,45,99,111,111,107,105,101]⟩ : ByteArray),(⟨#[]⟩ : ByteArray)⟩ : S36) )) (Reps.c2 (show Kd.M k36 _ _ _ (⟨(⟨#[115,116,114,105,99,116,45,116,114,97,110,115,112,111,114,116,45,115,101,99,117,114,105,116,121]⟩ : ByteArray),(⟨#[]⟩ : ByteArray)⟩ : S36) [.string (⟨#[115,116,114,105,99,116,45,116,114,97,110,115,112,111,114,116,45,115,101,99,117,114,105,116,121]⟩ : ByteArray),.string (⟨#[]⟩ : ByteArray)] from (k36_mkM _ _ _ (⟨(⟨#[115,116,114,105,99,116,45,116,114,97,110,115,112,111,114,116,45,115,101,99,117,114,105,116,121]⟩ : ByteArray),(⟨#[]⟩ : ByteArray)⟩ : S36) )) (Reps.c2 (show Kd.M k36 _ _ _ (⟨(⟨#[116,114,97,110,115,102,101,114,45,101,110,99,111,100,105,110,103]⟩ : ByteArray),(⟨#[]⟩ : ByteArray)⟩ : S36) [.string (⟨#[116,114,97,110,115,102,101,114,45,101,110,99,111,100,105,110,103]⟩ : ByteArray),.string (⟨#[]⟩ : ByteArray)] from (k36_mkM _ _ _ (⟨(⟨#[116,114,97,110,115,102,101,114,45,101,110,99,111,100,105,110,103]⟩ : ByteArray),(⟨#[]⟩ : ByteArray)⟩ : S36) )) (Reps.c2 (show Kd.M k36 _ _ _ (⟨(⟨#[117,115,101,114,45,97,103,101,110,116]⟩ : ByteArray),(⟨#[]⟩ : ByteArray)⟩ : S36) [.string (⟨#[117,115,101,114,45,97,103,101,110,116]⟩ : ByteArray),.string (⟨#[]⟩ : ByteArray)] from (k36_mkM _ _ _ (⟨(⟨#[117,115,101,114,45,97,103,101,110,116]⟩ : ByteArray),(⟨#[]⟩ : ByteArray)⟩ : S36) )) (Reps.c2 (show Kd.M k36 _ _ _ (⟨(⟨#[118,97,114,121]⟩ : ByteArray),(⟨#[]⟩ : ByteArray)⟩ : S36) [.string (⟨#[118,97,114,121]⟩ : ByteArray),.string (⟨#[]⟩ : ByteArray)] from (k36_mkM _ _ _ (⟨(⟨#[118,97,114,121]⟩ : ByteArray),(⟨#[]⟩ : ByteArray)⟩ : S36) )) (Reps.c2 (show Kd.M k36 _ _ _ (⟨(⟨#[118,105,97]⟩ : ByteArray),(⟨#[]⟩ : ByteArray)⟩ : S36) [.string (⟨#[118,105,97]⟩ : ByteArray),.string (⟨#[]⟩ : ByteArray)] from (k36_mkM _ _ _ (⟨(⟨#[118,105,97]⟩ : ByteArray),(⟨#[]⟩ : ByteArray)⟩ : S36) )) (Reps.c2 (show Kd.M k36 _ _ _ (⟨(⟨#[119,119,119,45,97,117,116,104,101,110,116,105,99,97,116,101]⟩ : ByteArray),(⟨#[]⟩ : ByteArray)⟩ : S36) [.string (⟨#[119,119,119,45,97,117,116,104,101,110,116,105,99,97,116,101]⟩ : ByteArray),.string (⟨#[]⟩ : ByteArray)] from (k36_mkM _ _ _ (⟨(⟨#[119,119,119,45,97,117,116,104,101,110,116,105,99,97,116,101]⟩ : ByteArray),(⟨#[]⟩ : ByteArray)⟩ : S36) )) (Reps.none _ _)))))))))))))))))))))))))))))))))))))))))))))))))))))))))))))));intro v122 w1 ho2 hb hg_ hnew_;clear hg_ hnew_;(first|rw [← Ny121.out] at ho2|(simp only [Int.reduceToNat] at ho2;rw [← Ny121.out] at ho2));have HO123:=zm0_ (zo1_ ho2 (zn9_ (zl HB)));replace HB:=zm0_ (zn8_ (zl HB) hb);clear hb ho2))
 go_ret
 exact ⟨_,ze,by (with_reducible repeat (first|apply k1_|apply k2_|apply k3_));exact HO123.out,by repeat (first|(with_reducible first|exact HB.out|apply zm3_|apply zm2_|apply zm4_)|exact HB.out)⟩
end Go.Proofs.YthflimnpiglgbaaGreatDoor.A
end
section
namespace Go.Proofs.YthflimnpiglgbaaGreatDoor.A
open Go.RowKit Go.Proofs.YthflimnpiglgbaaGreatDoorW.PrintWords Go.Proofs.YthflimnpiglgbaaGreatDoorW.PrintLast Go.Proofs.YthflimnpiglgbaaGreatDoorW.PrintMore
attribute [local go_sem] max2_int min2_int max_two min_two max_three min_three max_four min_four   -- for this text's walks alone
set_option linter.unusedVariables false
set_option linter.unusedSimpArgs false

attribute [local go_sem high] eqA36
mutual
def spec_FindField.l0 : Nat → List (S36) → Int → Int → Int → List (S36) → ByteArray → ByteArray → Option (Int × Bool)
 | 0,_,_,_,_,_,_,_ => none
 | k + 1,x6,x7,x8,x125000,x125001,x126000,x126001 => if x8 ≤ (wrap64 (61 + (x125001.length : Int))) then (if x8 ≤ 61 then (if 0 ≤ (wrap64 (x8 - 1)) then (if (wrap64 (x8 - 1)) < (x6.length : Int) then (spec_FindField.j1 k x6 x7 x8 x125000 x125001 x126000 x126001 ((rd_T36 x6 (wrap64 (x8 - 1))).f0) ((rd_T36 x6 (wrap64 (x8 - 1))).f1)) else (none)) else (none)) else (if 0 ≤ (wrap64 (x8 - 62)) then (if (wrap64 (x8 - 62)) < (x125001.length : Int) then (spec_FindField.j1 k x6 x7 x8 x125000 x125001 x126000 x126001 ((rd_T36 x125001 (wrap64 (x8 - 62))).f0) ((rd_T36 x125001 (wrap64 (x8 - 62))).f1)) else (none)) else (none))) else (some (x7,false))
def spec_FindField.j1 : Nat → List (S36) → Int → Int → Int → List (S36) → ByteArray → ByteArray → ByteArray → ByteArray → Option (Int × Bool)
 | 0,_,_,_,_,_,_,_,_,_ => none
 | k + 1,x6,x7,x8,x125000,x125001,x126000,x126001,x130000,x130001 => if (x130000.toList == x126000.toList && (x130001.toList == x126001.toList)) = true then (some (x8,true)) else (if x7 = 0 then (if x130000.toList = x126000.toList then (spec_FindField.l0 k x6 x8 (wrap64 (x8 + 1)) x125000 x125001 x126000 x126001) else (spec_FindField.l0 k x6 x7 (wrap64 (x8 + 1)) x125000 x125001 x126000 x126001)) else (spec_FindField.l0 k x6 x7 (wrap64 (x8 + 1)) x125000 x125001 x126000 x126001))
end
def spec_FindField.f (k : Nat) (a0_0 : Int) (l0_1 : List (S36)) (a1_0 : ByteArray) (a1_1 : ByteArray) : Option (Int × Bool):=(spec_l4First.f).bind fun t126 => (spec_FindField.l0 k t126 0 1 a0_0 l0_1 a1_0 a1_1)
theorem spec_FindField.mono_l : ∀ k,(∀ y0 y1 y2 y3 y4 y5 y6,LeO (spec_FindField.l0 k y0 y1 y2 y3 y4 y5 y6) (spec_FindField.l0 (k + 1) y0 y1 y2 y3 y4 y5 y6)) ∧ (∀ y0 y1 y2 y3 y4 y5 y6 y7 y8,LeO (spec_FindField.j1 k y0 y1 y2 y3 y4 y5 y6 y7 y8) (spec_FindField.j1 (k + 1) y0 y1 y2 y3 y4 y5 y6 y7 y8))
 | 0 => ⟨fun _ _ _ _ _ _ _ r h => by simp [spec_FindField.l0] at h,fun _ _ _ _ _ _ _ _ _ r h => by simp [spec_FindField.j1] at h⟩
 | k + 1 => by
  obtain ⟨ih0,ih1⟩:=spec_FindField.mono_l k
  refine ⟨?_,?_⟩
  ·
   intro y0 y1 y2 y3 y4 y5 y6
   unfold spec_FindField.l0
   repeat' first
   | (with_reducible exact ih0 _ _ _ _ _ _ _)
   | (with_reducible exact ih1 _ _ _ _ _ _ _ _ _)
   | (with_reducible exact LeO.refl _)
   | (with_reducible exact LeO.none _)
   | (with_reducible refine LeO.ite ?_ ?_)
   | (with_reducible refine LeO.bind ?_ (fun _ => ?_))
   | exact ih0 _ _ _ _ _ _ _
   | exact ih1 _ _ _ _ _ _ _ _ _
   | exact LeO.none _
   | refine LeO.ite ?_ ?_
   | refine LeO.bind ?_ (fun _ => ?_)
  ·
   intro y0 y1 y2 y3 y4 y5 y6 y7 y8
   unfold spec_FindField.j1
   repeat' first
   | (with_reducible exact ih0 _ _ _ _ _ _ _)
   | (with_reducible exact ih1 _ _ _ _ _ _ _ _ _)
   | (with_reducible exact LeO.refl _)
   | (with_reducible exact LeO.none _)
   | (with_reducible refine LeO.ite ?_ ?_)
   | (with_reducible refine LeO.bind ?_ (fun _ => ?_))
   | exact ih0 _ _ _ _ _ _ _
   | exact ih1 _ _ _ _ _ _ _ _ _
   | exact LeO.none _
   | refine LeO.ite ?_ ?_
   | refine LeO.bind ?_ (fun _ => ?_)
theorem spec_FindField.mono : ∀ a0 a1 a2 a3 k,LeO (spec_FindField.f k a0 a1 a2 a3) (spec_FindField.f (k + 1) a0 a1 a2 a3):=by
 intro a0 a1 a2 a3 k
 obtain ⟨ih0,ih1⟩:=spec_FindField.mono_l k
 unfold spec_FindField.f
 repeat' first
  | (with_reducible exact ih0 _ _ _ _ _ _ _)
  | (with_reducible exact ih1 _ _ _ _ _ _ _ _ _)
  | (with_reducible exact LeO.refl _)
  | (with_reducible exact LeO.none _)
  | (with_reducible refine LeO.ite ?_ ?_)
  | (with_reducible refine LeO.bind ?_ (fun _ => ?_))
  | exact ih0 _ _ _ _ _ _ _
  | exact ih1 _ _ _ _ _ _ _ _ _
  | exact LeO.none _
  | refine LeO.ite ?_ ?_
  | refine LeO.bind ?_ (fun _ => ?_)
set_option maxHeartbeats 8000000 in
set_option maxRecDepth 100000 in
theorem spec_FindField.calls (k : Nat) (a0_0 : Int) (A0_1 : Option Addr) (c0_1 : Nat) (l0_1 : List (S36)) (a1_0 : ByteArray) (a1_1 : ByteArray) (r1 : Int) (r2 : Bool) (w : World) (hr0_1 : Kd.C k36 w A0_1 l0_1.length l0_1) (hc0_1 : l0_1.length ≤ c0_1) (h : spec_FindField.f k a0_0 l0_1 a1_0 a1_1 = some (r1,r2)) :
 Calls Tryz.prog 26 #[.agg #[.int .i64 a0_0,.slice A0_1 l0_1.length c0_1],.agg #[.string a1_0,.string a1_1]] w fun e w' => e = .returned (.tuple #[.int .i64 r1,.bool r2]) ∧ Below w.heap.size w w':=by
 have hu32:=Tryz.underlying32
 have hu36:=Tryz.underlying36
 have HR0_1:=zm0_ hr0_1
 have HC0_1:=zm0_ hc0_1
 clear hr0_1 hc0_1
 have HB:=zm0_ (Below.refl w.heap.size w)
 have H : ((spec_l4First.f).bind fun t126 => (spec_FindField.l0 k t126 0 1 a0_0 l0_1 a1_0 a1_1)) = some (r1,r2):=h
 clear h
 replace H:=zq1_ H
 obtain ⟨t126,A30,H⟩:=H
 replace H : (spec_FindField.l0 k t126 0 1 a0_0 l0_1 a1_0 a1_1) = some (r1,r2):=H
 have A3:=zm0_ A30
 clear A30
 have H':=zm0_ H
 clear H
 go_enter Tryz.func26,Tryz.ntmps26
 go_wp2_with (first|((with_reducible refine gate_dst (N:=2) rfl ?_);refine box_event ?hg (N:=2) ?hd (cs:=#[.int .i64 a0_0,.slice A0_1 l0_1.length c0_1]) (t:=32) ?hr ?_;(case hd => rfl);(case hg => rfl);(case hr => first|(go_simp;done)|(go_simp;rfl));intro gb124 hg w4 hbox hb;have BK124:=zm0_ (hbox);have GW124:=zm0_ ((by rw [hg];exact (zn9_ (zl HB)) : w.heap.size ≤ gb124));have GE124:=zm0_ ((by rw [hg];exact (zn9_ (zl HB)) : w.heap.size ≤ gb124));replace HB:=zm0_ (zn8_ (zl HB) hb);clear hb hbox hg)|((with_reducible refine gate_dst (N:=3) rfl ?_);refine box_event ?hg (N:=3) ?hd (cs:=#[.string a1_0,.string a1_1]) (t:=36) ?hr ?_;(case hd => rfl);(case hg => rfl);(case hr => first|(go_simp;done)|(go_simp;rfl));intro gb125 hg w5 hbox hb;have BK125:=zm0_ (hbox);have GW125:=zm0_ ((by rw [hg];exact (zn9_ (zl1 HB GE124)) : w.heap.size ≤ gb125));have GE125:=zm0_ ((by rw [hg];exact (zn9_ (zl1 HB GE124)) : w.heap.size ≤ gb125));replace HB:=zm0_ (zn8_ (zl1 HB GE124) hb);have NB124_125:=zm0_ ((by rw [hg];exact Nat.ne_of_lt (zo3_ (g:=gb124) (o:=.cells #[.int .i64 a0_0,.slice A0_1 l0_1.length c0_1] 32 (0,0)) (zb BK124)) : gb124 ≠ gb125));have NB125_124:=zm0_ ((by rw [hg];exact Nat.ne_of_gt (zo3_ (g:=gb124) (o:=.cells #[.int .i64 a0_0,.slice A0_1 l0_1.length c0_1] 32 (0,0)) (zb BK124)) : gb125 ≠ gb124));replace BK124:=zm0_ (zm5_ (zb BK124) hb);clear hb hbox hg)|((with_reducible refine gate_callee (f:=39) rfl ?_);refine goesL_ (some 10) rfl rfl Tryz.func39 (by kernel_rfl) rfl #[] rfl zy ?_;(with_reducible refine (spec_l4First.calls  t126 _ A3.out).mono ?_);rintro e w6 ⟨v127,rfl,ho0,hb⟩;refine ⟨_,rfl,?_⟩;have HO128:=zm0_ (zo1_ (Kd.R_newB ho0 (g:=gb125) (o:=.cells #[.string a1_0,.string a1_1] 36 (0,0)) (zb BK125)) (zn9_ (zl2 HB GE124 GE125)));replace BK124:=zm0_ (zm5_ (zb BK124) hb);replace BK125:=zm0_ (zm5_ (zb BK125) hb);replace HB:=zm0_ (zn8_ (zl2 HB GE124 GE125) hb);(try clear hb);(try clear hb2);(try clear hk);(try clear hi);(try clear ho0)))
 go_loopg [7,8] k (fun kq v7 v8 w' => ∃ (x7_1 : Int) (x8_1 : Int),v7 = .int .i64 x7_1 ∧ v8 = .int .i64 x8_1 ∧ Aside0 (spec_FindField.l0 kq t126 x7_1 x8_1 a0_0 l0_1 a1_0 a1_1 = some (r1,r2)) ∧ Aside0 (kq ≤ k) ∧ Aside0 (Kd.R k36 36 w' w.heap.size (fun k_ => k_ ≠ gb125) v127 t126) ∧ Aside0 (w'.heap[gb124]? = some (.cells #[.int .i64 a0_0,(.slice A0_1 l0_1.length c0_1)] 32 (0,0))) ∧ Aside0 (w'.heap[gb125]? = some (.cells #[.string a1_0,.string a1_1] 36 (0,0))) ∧ Aside0 (Below w.heap.size w w'))
 case atStart => exact ⟨(0),(1),zz,zz,H',⟨Nat.le_refl _⟩,⟨by (with_reducible repeat (first|apply k1_|apply k2_|apply k3_));exact zo2_ HO128.out (fun _ hk => (by first|exact hk.2|(have hq_:=hk;simp only [ne_eq] at hq_ ⊢;simp only [hq_,not_false_eq_true,and_self])))⟩,⟨zb BK124⟩,⟨zb BK125⟩,⟨zl2 HB GE124 GE125⟩⟩
 case round =>
  clear H'
  try clear c2
  try clear p2
  try clear c3
  obtain ⟨x7_1,x8_1,rfl,rfl,HA,HK1,HO_6,BK124,BK125,HB⟩:=hrel
  cases gk with
  | zero => exact absurd HA.out (by simp [spec_FindField.l0])
  | succ k1 =>
   have H:=HA.out
   clear HA
   simp only [spec_FindField.l0] at H
   by_cases c7 : x8_1 ≤ (wrap64 (61 + (l0_1.length : Int)))
   ·
    rw [if_pos c7] at H
    have c7b0 : decide (x8_1 ≤ (wrap64 (61 + (l0_1.length : Int)))) = true:=decide_eq_true c7
    clear c7
    have HC8:=zm0_ H
    clear H
    have hnb9:=NB124_125.out
    have hnc9:=NB125_124.out
    have hcz10_0 : wr.cell? ⟨gb124,0,none⟩ = some (.int .i64 a0_0):=(zm6_ BK124.out 0).trans rfl
    have hcz10_1 : wr.cell? ⟨gb124,1,none⟩ = some (.slice A0_1 l0_1.length c0_1):=(zm6_ BK124.out 1).trans rfl
    have hfz10_0:=zm7_ BK124.out 0
    have hfz10_1:=zm7_ BK124.out 1
    go_upto_if 21 with (first|((with_reducible refine gate_dst (N:=9) rfl ?_);refine box_event ?hg (N:=9) ?hd (cs:=#[.string (⟨#[]⟩ : ByteArray),.string (⟨#[]⟩ : ByteArray)]) (t:=36) ?hr ?_;(case hd => rfl);(case hg => rfl);(case hr => first|(go_simp;done)|(go_simp;rfl));intro gb129 hg w11 hbox hb;replace HO_6:=zm0_ (zm8_ (Kd.R_elderB (zr HO_6) gb129 (Nat.le_of_eq hg.symm)) hb);have BK129:=zm0_ (hbox);have GW129:=zm0_ ((by rw [hg];exact (zn9_ (zl2 HB GE124 GE125)) : w.heap.size ≤ gb129));have GE129:=zm0_ ((by rw [hg];exact (zn9_ (zl2 HB GE124 GE125)) : w.heap.size ≤ gb129));replace HB:=zm0_ (zn8_ (zl2 HB GE124 GE125) hb);have NB124_129:=zm0_ ((by rw [hg];exact Nat.ne_of_lt (zo3_ (g:=gb124) (o:=.cells #[.int .i64 a0_0,.slice A0_1 l0_1.length c0_1] 32 (0,0)) (zb BK124)) : gb124 ≠ gb129));have NB129_124:=zm0_ ((by rw [hg];exact Nat.ne_of_gt (zo3_ (g:=gb124) (o:=.cells #[.int .i64 a0_0,.slice A0_1 l0_1.length c0_1] 32 (0,0)) (zb BK124)) : gb129 ≠ gb124));replace BK124:=zm0_ (zm5_ (zb BK124) hb);have NB125_129:=zm0_ ((by rw [hg];exact Nat.ne_of_lt (zo3_ (g:=gb125) (o:=.cells #[.string a1_0,.string a1_1] 36 (0,0)) (zb BK125)) : gb125 ≠ gb129));have NB129_125:=zm0_ ((by rw [hg];exact Nat.ne_of_gt (zo3_ (g:=gb125) (o:=.cells #[.string a1_0,.string a1_1] 36 (0,0)) (zb BK125)) : gb129 ≠ gb125));replace BK125:=zm0_ (zm5_ (zb BK125) hb);clear hb hbox hg;have hnb12:=NB129_124.out;have hnc12:=NB124_129.out;have hnb13:=NB129_125.out;have hnc13:=NB125_129.out;have hcz14_0 : w11.cell? ⟨gb129,0,none⟩ = some (.string (⟨#[]⟩ : ByteArray)):=(zm6_ BK129.out 0).trans rfl;have hcz14_1 : w11.cell? ⟨gb129,1,none⟩ = some (.string (⟨#[]⟩ : ByteArray)):=(zm6_ BK129.out 1).trans rfl;have hfz14_0:=zm7_ BK129.out 0;have hfz14_1:=zm7_ BK129.out 1))
    (try simp only [Act.put,lA_,lB_,lC_])
    go_cut [] (fun wc => ∃ (kq : Nat) (x130000_7 : ByteArray) (x130001_7 : ByteArray),Aside0 (spec_FindField.j1 kq t126 x7_1 x8_1 a0_0 l0_1 a1_0 a1_1 x130000_7 x130001_7 = some (r1,r2)) ∧ Aside0 (kq ≤ k1) ∧ Aside0 (Kd.R k36 36 wc w.heap.size (fun k_ => k_ ≠ gb125 ∧ k_ ≠ gb129) v127 t126) ∧ Aside0 (wc.heap[gb124]? = some (.cells #[.int .i64 a0_0,(.slice A0_1 l0_1.length c0_1)] 32 (0,0))) ∧ Aside0 (wc.heap[gb125]? = some (.cells #[.string a1_0,.string a1_1] 36 (0,0))) ∧ Aside0 (wc.heap[gb129]? = some (.cells #[.string x130000_7,.string x130001_7] 36 (0,0))) ∧ Aside0 (Below w.heap.size w wc))
    case first =>
     have H:=HC8.out
     clear HC8
     by_cases c15 : x8_1 ≤ 61
     ·
      rw [if_pos c15] at H
      have c15b0 : decide (x8_1 ≤ 61) = true:=decide_eq_true c15
      clear c15
      (first|rw [c15b0]|(simp only [i64_w,i32_w];rw [c15b0])|rw [c15b1]|skip)
      obtain ⟨ji16,hji16⟩ : ∃ j_ : Int,(wrap64 (x8_1 - 1)) = j_:=⟨_,rfl⟩
      replace H : (if 0 ≤ (ji16) then (if (ji16) < (t126.length : Int) then (spec_FindField.j1 k1 t126 x7_1 x8_1 a0_0 l0_1 a1_0 a1_1 ((rd_T36 t126 (ji16)).f0) ((rd_T36 t126 (ji16)).f1)) else (none)) else (none)) = some (r1,r2):=by first|(rw [hji16] at H;exact H)|(simp only [hji16] at H ⊢;exact H)
      have hji16w : (IntKind.i64.wrap (x8_1 - 1)) = ji16:=(i64_w _).trans hji16
      by_cases c17 : 0 ≤ (ji16)
      ·
       rw [if_pos c17] at H
       have c17b0 : decide (0 ≤ (ji16)) = true:=decide_eq_true c17
       clear c17
       by_cases c18 : (ji16) < (t126.length : Int)
       ·
        rw [if_pos c18] at H
        have c18b0 : decide ((ji16) < (t126.length : Int)) = true:=decide_eq_true c18
        clear c18
        have H':=zm0_ H
        clear H
        obtain ⟨Ao19,co19,eo19⟩:=Kd.R_slice HO_6.out
        subst eo19
        have p130 : 0 ≤ ((ji16) : Int):=of_decide_eq_true (by first|(with_reducible assumption)|assumption)
        have q130 : (ji16) < (t126.length : Int):=of_decide_eq_true (by first|(with_reducible assumption)|assumption)
        obtain ⟨ad130,e130,hx130_0,hx130_1⟩:=at_T36 (Kd.R_reads' HO_6.out).2.2 (ji16) p130 q130
        cases e130
        have hn130_0 : ad130.block ≠ gb129:=Kd.own_blk (by first|exact Kd.R_ne HO_6.out BK129.out (by decide)|exact fun e_ => (HO_6.out.1 _ e_.symm).2 rfl|exact fun e_ => (HO_6.out.1 _ e_.symm).1 rfl|exact fun e_ => (HO_6.out.1 _ e_.symm) rfl)
        have hn130_1 : ad130.block ≠ gb129:=Kd.own_blk (by first|exact Kd.R_ne HO_6.out BK129.out (by decide)|exact fun e_ => (HO_6.out.1 _ e_.symm).2 rfl|exact fun e_ => (HO_6.out.1 _ e_.symm).1 rfl|exact fun e_ => (HO_6.out.1 _ e_.symm) rfl)
        replace hx130_0:=(cell_far (p:=⟨gb129,0,none⟩) (by first|(rw [add_block];exact hn130_0)|(show (Addr.add _ _).block ≠ _;rw [add_block];exact hn130_0)|exact hn130_0) (.string (⟨#[]⟩ : ByteArray))).trans hx130_0
        replace hx130_1:=(cell_far (p:=⟨gb129,0,none⟩) (by first|(rw [add_block];exact hn130_0)|(show (Addr.add _ _).block ≠ _;rw [add_block];exact hn130_0)|exact hn130_0) (.string (⟨#[]⟩ : ByteArray))).trans hx130_1
        replace hx130_0:=(cell_far (p:=⟨gb129,1,none⟩) (by first|(rw [add_block];exact hn130_1)|(show (Addr.add _ _).block ≠ _;rw [add_block];exact hn130_1)|exact hn130_1) (.string (⟨#[]⟩ : ByteArray))).trans hx130_0
        replace hx130_1:=(cell_far (p:=⟨gb129,1,none⟩) (by first|(rw [add_block];exact hn130_1)|(show (Addr.add _ _).block ≠ _;rw [add_block];exact hn130_1)|exact hn130_1) (.string (⟨#[]⟩ : ByteArray))).trans hx130_1
        clear hn130_0 hn130_1
        replace p130:=eq_true p130
        replace q130:=eq_true q130
        have hnb20:=NB129_124.out
        have hnc20:=NB124_129.out
        have hnb21:=NB129_125.out
        have hnc21:=NB125_129.out
        have hcz22_0 : w11.cell? ⟨gb129,0,none⟩ = some (.string (⟨#[]⟩ : ByteArray)):=(zm6_ BK129.out 0).trans rfl
        have hcz22_1 : w11.cell? ⟨gb129,1,none⟩ = some (.string (⟨#[]⟩ : ByteArray)):=(zm6_ BK129.out 1).trans rfl
        have hfz22_0:=zm7_ BK129.out 0
        have hfz22_1:=zm7_ BK129.out 1
        go_wp2
        go_meet
        case rel => exact ⟨_,((rd_T36 t126 (ji16)).f0),((rd_T36 t126 (ji16)).f1),H',⟨by have:=HK1.out;first|omega|exact Nat.le_refl _⟩,⟨by (with_reducible repeat (first|apply k1_|apply k2_|apply k3_));exact zo2_ (k4_ (p:=⟨gb129,1,none⟩) (k4_ (p:=⟨gb129,0,none⟩) (k4_ (p:=⟨gb129,1,none⟩) (k4_ (p:=⟨gb129,0,none⟩) (zo2_ HO_6.out (fun k_ hk => (⟨hk,(by first|exact hk.2|(have hq_:=hk;simp only [ne_eq] at hq_ ⊢;simp only [hq_,not_false_eq_true,and_self]))⟩ : _ ∧ k_ ≠ gb129))) (fun _ hk => hk.2) (.string (⟨#[]⟩ : ByteArray))) (fun _ hk => hk.2) (.string (⟨#[]⟩ : ByteArray))) (fun _ hk => hk.2) (.string ((rd_T36 t126 (ji16)).f0))) (fun _ hk => hk.2) (.string ((rd_T36 t126 (ji16)).f1))) (fun _ hk => ⟨(by first|exact hk.1.1|(have hq_:=hk;simp only [ne_eq] at hq_ ⊢;simp only [hq_,not_false_eq_true,and_self])),(by first|exact hk.1.2|(have hq_:=hk;simp only [ne_eq] at hq_ ⊢;simp only [hq_,not_false_eq_true,and_self]))⟩)⟩,⟨by (with_reducible repeat (first|refine k6_ ?_ _|refine k7_ ?_|refine k5_ ?_ _));refine blk_far ?_ NB124_129.out _;(with_reducible repeat (first|refine k6_ ?_ _|refine k7_ ?_|refine k5_ ?_ _));refine blk_far ?_ NB124_129.out _;(with_reducible repeat (first|refine k6_ ?_ _|refine k7_ ?_|refine k5_ ?_ _));refine blk_far ?_ NB124_129.out _;(with_reducible repeat (first|refine k6_ ?_ _|refine k7_ ?_|refine k5_ ?_ _));refine blk_far ?_ NB124_129.out _;(with_reducible repeat (first|refine k6_ ?_ _|refine k7_ ?_|refine k5_ ?_ _));exact BK124.out⟩,⟨by (with_reducible repeat (first|refine k6_ ?_ _|refine k7_ ?_|refine k5_ ?_ _));refine blk_far ?_ NB125_129.out _;(with_reducible repeat (first|refine k6_ ?_ _|refine k7_ ?_|refine k5_ ?_ _));refine blk_far ?_ NB125_129.out _;(with_reducible repeat (first|refine k6_ ?_ _|refine k7_ ?_|refine k5_ ?_ _));refine blk_far ?_ NB125_129.out _;(with_reducible repeat (first|refine k6_ ?_ _|refine k7_ ?_|refine k5_ ?_ _));refine blk_far ?_ NB125_129.out _;(with_reducible repeat (first|refine k6_ ?_ _|refine k7_ ?_|refine k5_ ?_ _));exact BK125.out⟩,⟨by (with_reducible repeat (first|refine k6_ ?_ _|refine k7_ ?_|refine k5_ ?_ _));refine blk_put (cs:=#[.string ((rd_T36 t126 (ji16)).f0),.string (⟨#[]⟩ : ByteArray)]) ?_ 1 _ rfl;(with_reducible repeat (first|refine k6_ ?_ _|refine k7_ ?_|refine k5_ ?_ _));refine blk_put (cs:=#[.string (⟨#[]⟩ : ByteArray),.string (⟨#[]⟩ : ByteArray)]) ?_ 0 _ rfl;(with_reducible repeat (first|refine k6_ ?_ _|refine k7_ ?_|refine k5_ ?_ _));refine blk_put (cs:=#[.string (⟨#[]⟩ : ByteArray),.string (⟨#[]⟩ : ByteArray)]) ?_ 1 _ rfl;(with_reducible repeat (first|refine k6_ ?_ _|refine k7_ ?_|refine k5_ ?_ _));refine blk_put (cs:=#[.string (⟨#[]⟩ : ByteArray),.string (⟨#[]⟩ : ByteArray)]) ?_ 0 _ rfl;(with_reducible repeat (first|refine k6_ ?_ _|refine k7_ ?_|refine k5_ ?_ _));exact BK129.out⟩,⟨zl3 HB GE124 GE125 GE129⟩⟩
       ·
        rw [if_neg c18] at H
        exact absurd H (by simp)
      ·
       rw [if_neg c17] at H
       exact absurd H (by simp)
     ·
      rw [if_neg c15] at H
      have c15b0 : decide (x8_1 ≤ 61) = false:=decide_eq_false c15
      clear c15
      (first|rw [c15b0]|(simp only [i64_w,i32_w];rw [c15b0])|rw [c15b1]|skip)
      obtain ⟨ji23,hji23⟩ : ∃ j_ : Int,(wrap64 (x8_1 - 62)) = j_:=⟨_,rfl⟩
      replace H : (if 0 ≤ (ji23) then (if (ji23) < (l0_1.length : Int) then (spec_FindField.j1 k1 t126 x7_1 x8_1 a0_0 l0_1 a1_0 a1_1 ((rd_T36 l0_1 (ji23)).f0) ((rd_T36 l0_1 (ji23)).f1)) else (none)) else (none)) = some (r1,r2):=by first|(rw [hji23] at H;exact H)|(simp only [hji23] at H ⊢;exact H)
      have hji23w : (IntKind.i64.wrap (x8_1 - 62)) = ji23:=(i64_w _).trans hji23
      by_cases c24 : 0 ≤ (ji23)
      ·
       rw [if_pos c24] at H
       have c24b0 : decide (0 ≤ (ji23)) = true:=decide_eq_true c24
       clear c24
       by_cases c25 : (ji23) < (l0_1.length : Int)
       ·
        rw [if_pos c25] at H
        have c25b0 : decide ((ji23) < (l0_1.length : Int)) = true:=decide_eq_true c25
        clear c25
        have H':=zm0_ H
        clear H
        have hnb26:=NB124_125.out
        have hnc26:=NB125_124.out
        have hnb27:=NB124_129.out
        have hnc27:=NB129_124.out
        have hcz28_0 : w11.cell? ⟨gb124,0,none⟩ = some (.int .i64 a0_0):=(zm6_ BK124.out 0).trans rfl
        have hcz28_1 : w11.cell? ⟨gb124,1,none⟩ = some (.slice A0_1 l0_1.length c0_1):=(zm6_ BK124.out 1).trans rfl
        have hfz28_0:=zm7_ BK124.out 0
        have hfz28_1:=zm7_ BK124.out 1
        have p131 : 0 ≤ ((ji23) : Int):=of_decide_eq_true (by first|(with_reducible assumption)|assumption)
        have q131 : (ji23) < (l0_1.length : Int):=of_decide_eq_true (by first|(with_reducible assumption)|assumption)
        obtain ⟨ad131,e131,hx131_0,hx131_1⟩:=at_T36 HR0_1.out (ji23) p131 q131
        cases e131
        have hn131_0 : ad131.block ≠ gb129:=Nat.ne_of_lt (Nat.lt_of_lt_of_le (by have:=zq2_ _ _ hx131_0;first|rwa [add_block] at this|exact this) GW129.out)
        have hn131_1 : ad131.block ≠ gb129:=Nat.ne_of_lt (Nat.lt_of_lt_of_le (by have:=zq2_ _ _ hx131_0;first|rwa [add_block] at this|exact this) GW129.out)
        replace hx131_0:=(HB.out.cell (zq2_ w _ hx131_0)).trans hx131_0
        replace hx131_1:=(HB.out.cell (zq2_ w _ hx131_1)).trans hx131_1
        replace hx131_0:=(cell_far (p:=⟨gb129,0,none⟩) (by first|(rw [add_block];exact hn131_0)|(show (Addr.add _ _).block ≠ _;rw [add_block];exact hn131_0)|exact hn131_0) (.string (⟨#[]⟩ : ByteArray))).trans hx131_0
        replace hx131_1:=(cell_far (p:=⟨gb129,0,none⟩) (by first|(rw [add_block];exact hn131_0)|(show (Addr.add _ _).block ≠ _;rw [add_block];exact hn131_0)|exact hn131_0) (.string (⟨#[]⟩ : ByteArray))).trans hx131_1
        replace hx131_0:=(cell_far (p:=⟨gb129,1,none⟩) (by first|(rw [add_block];exact hn131_1)|(show (Addr.add _ _).block ≠ _;rw [add_block];exact hn131_1)|exact hn131_1) (.string (⟨#[]⟩ : ByteArray))).trans hx131_0
        replace hx131_1:=(cell_far (p:=⟨gb129,1,none⟩) (by first|(rw [add_block];exact hn131_1)|(show (Addr.add _ _).block ≠ _;rw [add_block];exact hn131_1)|exact hn131_1) (.string (⟨#[]⟩ : ByteArray))).trans hx131_1
        clear hn131_0 hn131_1
        replace p131:=eq_true p131
        replace q131:=eq_true q131
        have hnb29:=NB129_125.out
        have hnc29:=NB125_129.out
        have hcz30_0 : w11.cell? ⟨gb129,0,none⟩ = some (.string (⟨#[]⟩ : ByteArray)):=(zm6_ BK129.out 0).trans rfl
        have hcz30_1 : w11.cell? ⟨gb129,1,none⟩ = some (.string (⟨#[]⟩ : ByteArray)):=(zm6_ BK129.out 1).trans rfl
        have hfz30_0:=zm7_ BK129.out 0
        have hfz30_1:=zm7_ BK129.out 1
        go_wp2
        go_meet
        case rel => exact ⟨_,((rd_T36 l0_1 (ji23)).f0),((rd_T36 l0_1 (ji23)).f1),H',⟨by have:=HK1.out;first|omega|exact Nat.le_refl _⟩,⟨by (with_reducible repeat (first|apply k1_|apply k2_|apply k3_));exact zo2_ (k4_ (p:=⟨gb129,1,none⟩) (k4_ (p:=⟨gb129,0,none⟩) (k4_ (p:=⟨gb129,1,none⟩) (k4_ (p:=⟨gb129,0,none⟩) (zo2_ HO_6.out (fun k_ hk => (⟨hk,(by first|exact hk.2|(have hq_:=hk;simp only [ne_eq] at hq_ ⊢;simp only [hq_,not_false_eq_true,and_self]))⟩ : _ ∧ k_ ≠ gb129))) (fun _ hk => hk.2) (.string (⟨#[]⟩ : ByteArray))) (fun _ hk => hk.2) (.string (⟨#[]⟩ : ByteArray))) (fun _ hk => hk.2) (.string ((rd_T36 l0_1 (ji23)).f0))) (fun _ hk => hk.2) (.string ((rd_T36 l0_1 (ji23)).f1))) (fun _ hk => ⟨(by first|exact hk.1.1|(have hq_:=hk;simp only [ne_eq] at hq_ ⊢;simp only [hq_,not_false_eq_true,and_self])),(by first|exact hk.1.2|(have hq_:=hk;simp only [ne_eq] at hq_ ⊢;simp only [hq_,not_false_eq_true,and_self]))⟩)⟩,⟨by (with_reducible repeat (first|refine k6_ ?_ _|refine k7_ ?_|refine k5_ ?_ _));refine blk_far ?_ NB124_129.out _;(with_reducible repeat (first|refine k6_ ?_ _|refine k7_ ?_|refine k5_ ?_ _));refine blk_far ?_ NB124_129.out _;(with_reducible repeat (first|refine k6_ ?_ _|refine k7_ ?_|refine k5_ ?_ _));refine blk_far ?_ NB124_129.out _;(with_reducible repeat (first|refine k6_ ?_ _|refine k7_ ?_|refine k5_ ?_ _));refine blk_far ?_ NB124_129.out _;(with_reducible repeat (first|refine k6_ ?_ _|refine k7_ ?_|refine k5_ ?_ _));exact BK124.out⟩,⟨by (with_reducible repeat (first|refine k6_ ?_ _|refine k7_ ?_|refine k5_ ?_ _));refine blk_far ?_ NB125_129.out _;(with_reducible repeat (first|refine k6_ ?_ _|refine k7_ ?_|refine k5_ ?_ _));refine blk_far ?_ NB125_129.out _;(with_reducible repeat (first|refine k6_ ?_ _|refine k7_ ?_|refine k5_ ?_ _));refine blk_far ?_ NB125_129.out _;(with_reducible repeat (first|refine k6_ ?_ _|refine k7_ ?_|refine k5_ ?_ _));refine blk_far ?_ NB125_129.out _;(with_reducible repeat (first|refine k6_ ?_ _|refine k7_ ?_|refine k5_ ?_ _));exact BK125.out⟩,⟨by (with_reducible repeat (first|refine k6_ ?_ _|refine k7_ ?_|refine k5_ ?_ _));refine blk_put (cs:=#[.string ((rd_T36 l0_1 (ji23)).f0),.string (⟨#[]⟩ : ByteArray)]) ?_ 1 _ rfl;(with_reducible repeat (first|refine k6_ ?_ _|refine k7_ ?_|refine k5_ ?_ _));refine blk_put (cs:=#[.string (⟨#[]⟩ : ByteArray),.string (⟨#[]⟩ : ByteArray)]) ?_ 0 _ rfl;(with_reducible repeat (first|refine k6_ ?_ _|refine k7_ ?_|refine k5_ ?_ _));refine blk_put (cs:=#[.string (⟨#[]⟩ : ByteArray),.string (⟨#[]⟩ : ByteArray)]) ?_ 1 _ rfl;(with_reducible repeat (first|refine k6_ ?_ _|refine k7_ ?_|refine k5_ ?_ _));refine blk_put (cs:=#[.string (⟨#[]⟩ : ByteArray),.string (⟨#[]⟩ : ByteArray)]) ?_ 0 _ rfl;(with_reducible repeat (first|refine k6_ ?_ _|refine k7_ ?_|refine k5_ ?_ _));exact BK129.out⟩,⟨zl3 HB GE124 GE125 GE129⟩⟩
       ·
        rw [if_neg c25] at H
        exact absurd H (by simp)
      ·
       rw [if_neg c24] at H
       exact absurd H (by simp)
    case rest =>
     clear HC8
     try clear c1
     try clear p1
     try clear q1
     try clear hx1
     try clear c2
     try clear p2
     try clear c3
     try clear p6
     try clear c7
     try clear c7b0
     try clear c9
     try clear c12
     try clear c13
     try clear p13
     try clear q13
     try clear hx13
     try clear c15
     try clear c15b0
     try clear c15b1
     try clear c17
     try clear c17b0
     try clear c18
     try clear c18b0
     try clear c20
     try clear c21
     try clear c24
     try clear c24b0
     try clear c25
     try clear c25b0
     try clear c26
     try clear c27
     try clear c29
     try clear hcz10_0
     try clear hcz10_1
     try clear hcz14_0
     try clear hcz14_1
     try clear hcz22_0
     try clear hcz22_1
     try clear hcz28_0
     try clear hcz28_1
     try clear hcz30_0
     try clear hcz30_1
     try clear hfz10_0
     try clear hfz10_1
     try clear hfz14_0
     try clear hfz14_1
     try clear hfz22_0
     try clear hfz22_1
     try clear hfz28_0
     try clear hfz28_1
     try clear hfz30_0
     try clear hfz30_1
     try clear hx130_0
     try clear hx130_1
     try clear hx131_0
     try clear hx131_1
     try clear p130
     try clear p131
     try clear p2
     try clear q130
     try clear q131
     obtain ⟨kq,x130000_7,x130001_7,HA,HJ7,HO_6,BK124,BK125,BK129,HB⟩:=hcut
     cases kq with
     | zero => exact absurd HA.out (by simp [spec_FindField.j1])
     | succ kj7 =>
      have H:=HA.out
      clear HA
      simp only [spec_FindField.j1] at H
      by_cases c31 : (x130000_7.toList == a1_0.toList && (x130001_7.toList == a1_1.toList)) = true
      ·
       rw [if_pos c31] at H
       have c31b0 : (x130000_7.toList == a1_0.toList && (x130001_7.toList == a1_1.toList)) = true:=c31
       (try (have c31b1 : decide (x130000_7.toList = a1_0.toList && (x130001_7.toList == a1_1.toList)) = true:=by simpa using c31))
       (try (have c31b2 : (x130000_7.toList == a1_0.toList && (x130001_7.toList == a1_1.toList)) = true:=by simpa using c31))
       clear c31
       simp only [Option.some.injEq,Prod.mk.injEq] at H
       obtain ⟨rfl,rfl⟩:=H
       have hnb32:=NB129_124.out
       have hnc32:=NB124_129.out
       have hnb33:=NB129_125.out
       have hnc33:=NB125_129.out
       have hcz34_0 : wc.cell? ⟨gb129,0,none⟩ = some (.string x130000_7):=(zm6_ BK129.out 0).trans rfl
       have hcz34_1 : wc.cell? ⟨gb129,1,none⟩ = some (.string x130001_7):=(zm6_ BK129.out 1).trans rfl
       have hfz34_0:=zm7_ BK129.out 0
       have hfz34_1:=zm7_ BK129.out 1
       have hnb35:=NB125_124.out
       have hnc35:=NB124_125.out
       have hcz36_0 : wc.cell? ⟨gb125,0,none⟩ = some (.string a1_0):=(zm6_ BK125.out 0).trans rfl
       have hcz36_1 : wc.cell? ⟨gb125,1,none⟩ = some (.string a1_1):=(zm6_ BK125.out 1).trans rfl
       have hfz36_0:=zm7_ BK125.out 0
       have hfz36_1:=zm7_ BK125.out 1
       go_wp2
       go_ret2
       exact ⟨ze,by repeat (first|(with_reducible first|exact HB.out|apply zm3_|apply zm2_|apply zm4_|refine zm1_ ?_ GE124.out|refine zm1_ ?_ GE125.out|refine zm1_ ?_ GE129.out)|exact HB.out)⟩
      ·
       rw [if_neg c31] at H
       have c31b0 : (x130000_7.toList == a1_0.toList && (x130001_7.toList == a1_1.toList)) = false:=by simpa using c31
       (try (have c31b1 : decide (x130000_7.toList = a1_0.toList && (x130001_7.toList == a1_1.toList)) = false:=by simpa using c31))
       (try (have c31b2 : (x130000_7.toList == a1_0.toList && (x130001_7.toList == a1_1.toList)) = false:=by simpa using c31))
       (try (have c31b3 : ¬ (x130000_7.toList = a1_0.toList && (x130001_7.toList == a1_1.toList)):=by simpa using c31))
       clear c31
       by_cases c37 : x7_1 = 0
       ·
        rw [if_pos c37] at H
        have c37b0 : (x7_1 == 0) = true:=beq_iff_eq.mpr c37
        have c37b1 : (x7_1 != 0) = false:=bne_eq_false_iff_eq.mpr c37
        clear c37
        by_cases c38 : x130000_7.toList = a1_0.toList
        ·
         rw [if_pos c38] at H
         have c38b0 : (x130000_7.toList == a1_0.toList) = true:=beq_iff_eq.mpr c38
         (try (have c38b9 : (x130001_7.toList == a1_1.toList) = false:=by simpa [c38b0] using c31b0))
         have c38b1 : (x130000_7.toList != a1_0.toList) = false:=bne_eq_false_iff_eq.mpr c38
         clear c38
         have H':=zm0_ H
         clear H
         have hnb39:=NB129_124.out
         have hnc39:=NB124_129.out
         have hnb40:=NB129_125.out
         have hnc40:=NB125_129.out
         have hcz41_0 : wc.cell? ⟨gb129,0,none⟩ = some (.string x130000_7):=(zm6_ BK129.out 0).trans rfl
         have hcz41_1 : wc.cell? ⟨gb129,1,none⟩ = some (.string x130001_7):=(zm6_ BK129.out 1).trans rfl
         have hfz41_0:=zm7_ BK129.out 0
         have hfz41_1:=zm7_ BK129.out 1
         have hnb42:=NB125_124.out
         have hnc42:=NB124_125.out
         have hcz43_0 : wc.cell? ⟨gb125,0,none⟩ = some (.string a1_0):=(zm6_ BK125.out 0).trans rfl
         have hcz43_1 : wc.cell? ⟨gb125,1,none⟩ = some (.string a1_1):=(zm6_ BK125.out 1).trans rfl
         have hfz43_0:=zm7_ BK125.out 0
         have hfz43_1:=zm7_ BK125.out 1
         go_wp2
         go_roundg kj7
         case measure => have:=HK1.out;have:=HJ7.out;omega
         case rel => exact ⟨(x8_1),(wrap64 (x8_1 + 1)),zz,zz,H',⟨by have:=HK1.out;have:=HJ7.out;omega⟩,⟨by (with_reducible repeat (first|apply k1_|apply k2_|apply k3_));exact zo2_ HO_6.out (fun _ hk => (by first|exact hk.1|(have hq_:=hk;simp only [ne_eq] at hq_ ⊢;simp only [hq_,not_false_eq_true,and_self])))⟩,⟨zb BK124⟩,⟨zb BK125⟩,⟨zl3 HB GE124 GE125 GE129⟩⟩
        ·
         rw [if_neg c38] at H
         have c38b0 : (x130000_7.toList == a1_0.toList) = false:=beq_eq_false_iff_ne.mpr c38
         have c38b1 : (x130000_7.toList != a1_0.toList) = true:=bne_iff_ne.mpr c38
         have H':=zm0_ H
         clear H
         have hnb44:=NB129_124.out
         have hnc44:=NB124_129.out
         have hnb45:=NB129_125.out
         have hnc45:=NB125_129.out
         have hcz46_0 : wc.cell? ⟨gb129,0,none⟩ = some (.string x130000_7):=(zm6_ BK129.out 0).trans rfl
         have hcz46_1 : wc.cell? ⟨gb129,1,none⟩ = some (.string x130001_7):=(zm6_ BK129.out 1).trans rfl
         have hfz46_0:=zm7_ BK129.out 0
         have hfz46_1:=zm7_ BK129.out 1
         have hnb47:=NB125_124.out
         have hnc47:=NB124_125.out
         have hcz48_0 : wc.cell? ⟨gb125,0,none⟩ = some (.string a1_0):=(zm6_ BK125.out 0).trans rfl
         have hcz48_1 : wc.cell? ⟨gb125,1,none⟩ = some (.string a1_1):=(zm6_ BK125.out 1).trans rfl
         have hfz48_0:=zm7_ BK125.out 0
         have hfz48_1:=zm7_ BK125.out 1
         go_wp2
         go_roundg kj7
         case measure => have:=HK1.out;have:=HJ7.out;omega
         case rel => exact ⟨(x7_1),(wrap64 (x8_1 + 1)),zz,zz,H',⟨by have:=HK1.out;have:=HJ7.out;omega⟩,⟨by (with_reducible repeat (first|apply k1_|apply k2_|apply k3_));exact zo2_ HO_6.out (fun _ hk => (by first|exact hk.1|(have hq_:=hk;simp only [ne_eq] at hq_ ⊢;simp only [hq_,not_false_eq_true,and_self])))⟩,⟨zb BK124⟩,⟨zb BK125⟩,⟨zl3 HB GE124 GE125 GE129⟩⟩
       ·
        rw [if_neg c37] at H
        have c37b0 : (x7_1 == 0) = false:=beq_eq_false_iff_ne.mpr c37
        have c37b1 : (x7_1 != 0) = true:=bne_iff_ne.mpr c37
        have H':=zm0_ H
        clear H
        have hnb49:=NB129_124.out
        have hnc49:=NB124_129.out
        have hnb50:=NB129_125.out
        have hnc50:=NB125_129.out
        have hcz51_0 : wc.cell? ⟨gb129,0,none⟩ = some (.string x130000_7):=(zm6_ BK129.out 0).trans rfl
        have hcz51_1 : wc.cell? ⟨gb129,1,none⟩ = some (.string x130001_7):=(zm6_ BK129.out 1).trans rfl
        have hfz51_0:=zm7_ BK129.out 0
        have hfz51_1:=zm7_ BK129.out 1
        have hnb52:=NB125_124.out
        have hnc52:=NB124_125.out
        have hcz53_0 : wc.cell? ⟨gb125,0,none⟩ = some (.string a1_0):=(zm6_ BK125.out 0).trans rfl
        have hcz53_1 : wc.cell? ⟨gb125,1,none⟩ = some (.string a1_1):=(zm6_ BK125.out 1).trans rfl
        have hfz53_0:=zm7_ BK125.out 0
        have hfz53_1:=zm7_ BK125.out 1
        go_wp2
        go_roundg kj7
        case measure => have:=HK1.out;have:=HJ7.out;omega
        case rel => exact ⟨(x7_1),(wrap64 (x8_1 + 1)),zz,zz,H',⟨by have:=HK1.out;have:=HJ7.out;omega⟩,⟨by (with_reducible repeat (first|apply k1_|apply k2_|apply k3_));exact zo2_ HO_6.out (fun _ hk => (by first|exact hk.1|(have hq_:=hk;simp only [ne_eq] at hq_ ⊢;simp only [hq_,not_false_eq_true,and_self])))⟩,⟨zb BK124⟩,⟨zb BK125⟩,⟨zl3 HB GE124 GE125 GE129⟩⟩
   ·
    rw [if_neg c7] at H
    have c7b0 : decide (x8_1 ≤ (wrap64 (61 + (l0_1.length : Int)))) = false:=decide_eq_false c7
    clear c7
    simp only [Option.some.injEq,Prod.mk.injEq] at H
    obtain ⟨rfl,rfl⟩:=H
    have hnb54:=NB124_125.out
    have hnc54:=NB125_124.out
    have hcz55_0 : wr.cell? ⟨gb124,0,none⟩ = some (.int .i64 a0_0):=(zm6_ BK124.out 0).trans rfl
    have hcz55_1 : wr.cell? ⟨gb124,1,none⟩ = some (.slice A0_1 l0_1.length c0_1):=(zm6_ BK124.out 1).trans rfl
    have hfz55_0:=zm7_ BK124.out 0
    have hfz55_1:=zm7_ BK124.out 1
    go_wp2
    go_ret2
    exact ⟨ze,by repeat (first|(with_reducible first|exact HB.out|apply zm3_|apply zm2_|apply zm4_|refine zm1_ ?_ GE124.out|refine zm1_ ?_ GE125.out)|exact HB.out)⟩
end Go.Proofs.YthflimnpiglgbaaGreatDoor.A
end
