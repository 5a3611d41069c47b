/- Functions of the program and of the reference as plain Lean functions, that the machine's calls answer as they do, and laws of these. Written in part by a program of this session, out of the translation. Condition: each theorem's own. -/
import Derived.Test.YthflimnpiglgbaaGreatDoorPg1
import Derived.Test.YthflimnpiglgbaaGreatDoorPg3
import Derived.Test.YthflimnpiglgbaaGreatDoorPg2
section
namespace Go.Proofs.YthflimnpiglgbaaGreatDoor.A
open Go.RowKit Go.Proofs.YthflimnpiglgbaaGreatDoorW.PrintWords Go.Proofs.YthflimnpiglgbaaGreatDoorW.PrintLast Go.Proofs.YthflimnpiglgbaaGreatDoorW.PrintMore
attribute [local go_sem] max2_int min2_int max_two min_two max_three min_three max_four min_four   -- for this text's walks alone
set_option linter.unusedVariables false
set_option linter.unusedSimpArgs false

def spec_l4Add.f (k : Nat) (a0_0 : Int) (l0_1 : List (S36)) (a1_0 : ByteArray) (a1_1 : ByteArray) : Option (Int × (List (S36))):=(some (([(⟨a1_0,a1_1⟩ : S36)] : List (S36)) : List (S36))).bind fun y203 => (if y203.length + l0_1.length < 4398046511104 then ((spec_l4Fit.f k a0_0 (y203 ++ l0_1)).bind fun bt209 => (some (bt209.1,bt209.2))) else (none))
theorem spec_l4Add.mono : ∀ a0 a1 a2 a3 k,LeO (spec_l4Add.f k a0 a1 a2 a3) (spec_l4Add.f (k + 1) a0 a1 a2 a3):=by
 intro a0 a1 a2 a3 k
 unfold spec_l4Add.f
 repeat' first
  | (with_reducible exact spec_l4Fit.mono _ _ _)
  | (with_reducible exact LeO.refl _)
  | (with_reducible exact LeO.none _)
  | (with_reducible refine LeO.ite ?_ ?_)
  | (with_reducible refine LeO.bind ?_ (fun _ => ?_))
  | exact spec_l4Fit.mono _ _ _
  | exact LeO.none _
  | refine LeO.ite ?_ ?_
  | refine LeO.bind ?_ (fun _ => ?_)
def spec_l4Add.T1 : Bool × List (List Nat × List Nat):=(true,[([],[]),([0],[0]),([],[]),([2],[2]),([],[]),([4],[4]),([3,5],[3,5]),([1,6],[1,6]),([7,6],[7]),([8,8,0,1,2,3,4,5,6,7,8],[8])])
def spec_l4Add.B1 : List Nat:=[0,1,0,4,0,16,60,127,255,511]
theorem spec_l4Add.tab1 : rtab .any (opsOf Tryz.f30 1) = spec_l4Add.T1:=by kernel_rfl
theorem spec_l4Add.bits1 : waitsOk spec_l4Add.T1.2 spec_l4Add.B1 = true:=by kernel_rfl
set_option maxHeartbeats 8000000 in
set_option maxRecDepth 100000 in
theorem spec_l4Add.calls (k : Nat) (a0_0 : Int) (A0_1 : Option Addr) (c0_1 : Nat) (l0_1 : List (S36)) (a1_0 : ByteArray) (a1_1 : ByteArray) (r1 : Int) (r2 : List (S36)) (w : World) (hr0_1 : Kd.C k36 w A0_1 l0_1.length l0_1) (hc0_1 : l0_1.length ≤ c0_1) (h : spec_l4Add.f k a0_0 l0_1 a1_0 a1_1 = some (r1,r2)) :
 Calls Tryz.prog 30 #[.agg #[.int .i64 a0_0,.slice A0_1 l0_1.length c0_1],.agg #[.string a1_0,.string a1_1]] w fun e w' => ∃ v1_ : Value,e = .returned (.agg #[.int .i64 r1,v1_]) ∧ Kd.R k36 36 w' w.heap.size (fun _ => True) v1_ r2 ∧ Below w.heap.size w w':=by
 have hu32:=Tryz.underlying32
 have hu36:=Tryz.underlying36
 have HR0_1:=zm0_ hr0_1
 have HC0_1:=zm0_ hc0_1
 clear hr0_1 hc0_1
 have HB:=zm0_ (Below.refl w.heap.size w)
 have H : ((some (([(⟨a1_0,a1_1⟩ : S36)] : List (S36)) : List (S36))).bind fun y203 => (if y203.length + l0_1.length < 4398046511104 then ((spec_l4Fit.f k a0_0 (y203 ++ l0_1)).bind fun bt209 => (some (bt209.1,bt209.2))) else (none))) = some (r1,r2):=h
 clear h
 obtain ⟨y203,hy203⟩ : ∃ y_ : List (S36),y_ = (([(⟨a1_0,a1_1⟩ : S36)] : List (S36))):=⟨_,rfl⟩
 replace H : (if y203.length + l0_1.length < 4398046511104 then ((spec_l4Fit.f k a0_0 (y203 ++ l0_1)).bind fun bt209 => (some (bt209.1,bt209.2))) else (none)) = some (r1,r2):=by first|(rw [hy203];with_reducible exact H)|(have H2_:=(Option.bind_some _ _).symm.trans H;rw [hy203];with_reducible exact H2_)|(have H2_:=(Option.bind_some _ _).symm.trans H;with_reducible exact H2_)|with_reducible exact H|(rw [hy203];exact H)|exact H
 have Ny203:=zm0_ hy203
 clear hy203
 by_cases c3 : y203.length + l0_1.length < 4398046511104
 ·
  rw [if_pos c3] at H
  have LMc3:=zm0_ c3
  clear c3
  obtain ⟨y206,hy206⟩ : ∃ y_ : List (S36),y_ = (y203 ++ l0_1):=⟨_,rfl⟩
  replace H : ((spec_l4Fit.f k a0_0 y206).bind fun bt209 => (some (bt209.1,bt209.2))) = some (r1,r2):=by first|(rw [hy206];with_reducible exact H)|(have H2_:=(Option.bind_some _ _).symm.trans H;rw [hy206];with_reducible exact H2_)|(have H2_:=(Option.bind_some _ _).symm.trans H;with_reducible exact H2_)|with_reducible exact H|(rw [hy206];exact H)|exact H
  have Ny206:=zm0_ hy206
  clear hy206
  replace H:=zq1_ H
  obtain ⟨⟨t209,t210⟩,A40,H⟩:=H
  replace H : (some (t209,t210)) = some (r1,r2):=H
  have A4:=zm0_ A40
  clear A40
  simp only [Option.some.injEq,Prod.mk.injEq] at H
  obtain ⟨rfl,rfl⟩:=H
  go_enter Tryz.func30,Tryz.ntmps30
  try go_wp2_with (first|((with_reducible refine gate_dst (N:=2) rfl ?_);refine box_event ?hg (N:=2) ?hd (cs:=#[.int .i64 a0_0,.slice A0_1 l0_1.length c0_1]) (t:=32) ?hr ?_;(case hd => rfl);(case hg => rfl);(case hr => first|(go_simp;done)|(go_simp;rfl));intro gb200 hg w5 hbox hb;have BK200:=zm0_ (hbox);have GW200:=zm0_ ((by rw [hg];exact (zn9_ (zl HB)) : w.heap.size ≤ gb200));have GE200:=zm0_ ((by rw [hg];exact (zn9_ (zl HB)) : w.heap.size ≤ gb200));replace HB:=zm0_ (zn8_ (zl HB) hb);clear hb hbox hg)|((with_reducible refine gate_dst (N:=3) rfl ?_);refine box_event ?hg (N:=3) ?hd (cs:=#[.string a1_0,.string a1_1]) (t:=36) ?hr ?_;(case hd => rfl);(case hg => rfl);(case hr => first|(go_simp;done)|(go_simp;rfl));intro gb201 hg w6 hbox hb;have BK201:=zm0_ (hbox);have GW201:=zm0_ ((by rw [hg];exact (zn9_ (zl1 HB GE200)) : w.heap.size ≤ gb201));have GE201:=zm0_ ((by rw [hg];exact (zn9_ (zl1 HB GE200)) : w.heap.size ≤ gb201));replace HB:=zm0_ (zn8_ (zl1 HB GE200) hb);have NB200_201:=zm0_ ((by rw [hg];exact Nat.ne_of_lt (zo3_ (g:=gb200) (o:=.cells #[.int .i64 a0_0,.slice A0_1 l0_1.length c0_1] 32 (0,0)) (zb BK200)) : gb200 ≠ gb201));have NB201_200:=zm0_ ((by rw [hg];exact Nat.ne_of_gt (zo3_ (g:=gb200) (o:=.cells #[.int .i64 a0_0,.slice A0_1 l0_1.length c0_1] 32 (0,0)) (zb BK200)) : gb201 ≠ gb200));replace BK200:=zm0_ (zm5_ (zb BK200) hb);clear hb hbox hg)|((with_reducible refine gate_dst (N:=4) rfl ?_);refine box_event ?hg (N:=4) ?hd (cs:=#[.int .i64 0,.slice none 0 0]) (t:=32) ?hr ?_;(case hd => rfl);(case hg => rfl);(case hr => first|(go_simp;done)|(go_simp;rfl));intro gb202 hg w7 hbox hb;have BK202:=zm0_ (hbox);have GW202:=zm0_ ((by rw [hg];exact (zn9_ (zl2 HB GE200 GE201)) : w.heap.size ≤ gb202));have GE202:=zm0_ ((by rw [hg];exact (zn9_ (zl2 HB GE200 GE201)) : w.heap.size ≤ gb202));replace HB:=zm0_ (zn8_ (zl2 HB GE200 GE201) hb);have NB200_202:=zm0_ ((by rw [hg];exact Nat.ne_of_lt (zo3_ (g:=gb200) (o:=.cells #[.int .i64 a0_0,.slice A0_1 l0_1.length c0_1] 32 (0,0)) (zb BK200)) : gb200 ≠ gb202));have NB202_200:=zm0_ ((by rw [hg];exact Nat.ne_of_gt (zo3_ (g:=gb200) (o:=.cells #[.int .i64 a0_0,.slice A0_1 l0_1.length c0_1] 32 (0,0)) (zb BK200)) : gb202 ≠ gb200));replace BK200:=zm0_ (zm5_ (zb BK200) hb);have NB201_202:=zm0_ ((by rw [hg];exact Nat.ne_of_lt (zo3_ (g:=gb201) (o:=.cells #[.string a1_0,.string a1_1] 36 (0,0)) (zb BK201)) : gb201 ≠ gb202));have NB202_201:=zm0_ ((by rw [hg];exact Nat.ne_of_gt (zo3_ (g:=gb201) (o:=.cells #[.string a1_0,.string a1_1] 36 (0,0)) (zb BK201)) : gb202 ≠ gb201));replace BK201:=zm0_ (zm5_ (zb BK201) hb);clear hb hbox hg))
  replace BK200:=zm0_ (k7_ BK200.out)
  replace BK201:=zm0_ (k7_ BK201.out)
  replace BK202:=zm0_ (k7_ BK202.out)
  replace HB:=zm0_ (zm4_ HB.out)
  refine start_ (n:=10) (S:=fun w' => w'.cell? ⟨gb200,0,none⟩ = some (.int .i64 a0_0) ∧ w'.cell? ⟨gb200,1,none⟩ = some (.slice A0_1 l0_1.length c0_1) ∧ w'.cell? ⟨gb201,0,none⟩ = some (.string a1_0) ∧ w'.cell? ⟨gb201,1,none⟩ = some (.string a1_1)) (ds:=[]) #[Z,Z,Z,Z,Z,Z,Z,Z,Z,Z] (by kernel_rfl) rfl rfl ⟨(zm6_ BK200.out 0).trans rfl,(zm6_ BK200.out 1).trans rfl,(zm6_ BK201.out 0).trans rfl,(zm6_ BK201.out 1).trans rfl⟩ (fun hHeld => ?_);refine with_tabW spec_l4Add.tab1 spec_l4Add.bits1 (fun HT_ HW_ => ?_)
  generalize w7.drew = w8 at BK200 BK201 BK202 HB hHeld ⊢
  refine pure_ (i:=0) (N:=some 5) (v:=?_) (a':=?_) #[Y,Z,Z,Z,Z,Z,Z,Z,Z,Z] rfl rfl (any_of HT_.out (by kernel_rfl)) (fun _ _ _ h => h) (Or.inl ⟨by rfl,?_⟩) ?_ ?_
  rotate_left
  ·
   intro w'
   go_simp
   with_reducible rfl
  rotate_left
  ·
   simp only [Act.put,lA_,lB_,lC_,i64_w,i32_w]
   rfl
  refine pure_ (i:=4) (N:=some 9) (v:=?_) (a':=?_) #[Y,Z,Z,Z,Y,Z,Z,Z,Z,Z] rfl rfl (any_of HT_.out (by kernel_rfl)) (fun _ _ _ h => h) (Or.inl ⟨by rfl,?_⟩) ?_ ?_
  rotate_left
  ·
   intro w'
   go_simp
   with_reducible rfl
  rotate_left
  ·
   simp only [Act.put,lA_,lB_,lC_,i64_w,i32_w]
   rfl
  refine take_ (i:=1) (N:=some 6) (v:=?_) (a':=?_) #[Y,Y,Z,Z,Y,Z,Z,Z,Z,Z] rfl rfl (take_ofW HT_.out HW_.out (by kernel_rfl)) (fun _ _ _ h => h) (Or.inl ⟨by rfl,?_⟩) hHeld ?_ ?_
  rotate_left
  ·
   rintro w' ⟨s0,s1,s2,s3⟩
   go_simp
   with_reducible rfl
  rotate_left
  ·
   simp only [Act.put,lA_,lB_,lC_,i64_w,i32_w]
   rfl
  refine take_ (i:=2) (N:=some 7) (v:=?_) (a':=?_) #[Y,Y,Y,Z,Y,Z,Z,Z,Z,Z] rfl rfl (take_ofW HT_.out HW_.out (by kernel_rfl)) (fun _ _ _ h => h) (Or.inl ⟨by rfl,?_⟩) hHeld ?_ ?_
  rotate_left
  ·
   rintro w' ⟨s0,s1,s2,s3⟩
   go_simp
   with_reducible rfl
  rotate_left
  ·
   simp only [Act.put,lA_,lB_,lC_,i64_w,i32_w]
   rfl
  refine take_ (i:=5) (N:=some 10) (v:=?_) (a':=?_) #[Y,Y,Y,Z,Y,Y,Z,Z,Z,Z] rfl rfl (take_ofW HT_.out HW_.out (by kernel_rfl)) (fun _ _ _ h => h) (Or.inl ⟨by rfl,?_⟩) hHeld ?_ ?_
  rotate_left
  ·
   rintro w' ⟨s0,s1,s2,s3⟩
   go_simp
   with_reducible rfl
  rotate_left
  ·
   simp only [Act.put,lA_,lB_,lC_,i64_w,i32_w]
   rfl
  refine one_ (i:=3) (N:=some 8) #[Y,Y,Y,Y,Y,Y,Z,Z,Z,Z] rfl rfl (one_of HT_.out (by kernel_rfl)) (by decide) (fun K hK => ?_)
  refine Kd.R_lit_step k36 _ 36 ?hg (N:=8) ?hd (xs:=([(⟨a1_0,a1_1⟩ : S36)] : List (S36))) (inner:=[.string a1_0,.string a1_1]) (ok:=fun _ => True) (okp:=fun _ => True) ?hr ?hp (fun _ hk => hk) trivial (Below.refl _ _) (Nat.le_refl _) (by simp) ?_;(case hd => rfl);(case hg => rfl);(case hr => first|(go_simp;done)|(go_simp;rfl));(case hp => exact (Reps.c2 (show Kd.M k36 _ _ _ (⟨a1_0,a1_1⟩ : S36) [.string a1_0,.string a1_1] from (k36_mkM _ _ _ (⟨a1_0,a1_1⟩ : S36) )) (Reps.none _ _)))
  intro v204 w9 ho10 hb hg_ hnew_
  clear hg_ hnew_
  (first|rw [← Ny203.out] at ho10|(simp only [Int.reduceToNat] at ho10;rw [← Ny203.out] at ho10))
  have HO205:=zm0_ (zo1_ (Kd.R_newB ho10 (g:=gb201) (o:=.cells #[.string a1_0,.string a1_1] 36 (0,0)) (zb BK201)) (zn9_ (zl3 HB GE200 GE201 GE202)))
  replace BK200:=zm0_ (zm5_ (zb BK200) hb)
  replace BK201:=zm0_ (zm5_ (zb BK201) hb)
  replace BK202:=zm0_ (zm5_ (zb BK202) hb)
  replace HB:=zm0_ (zn8_ (zl3 HB GE200 GE201 GE202) hb)
  clear hb ho10
  refine hK.out _ _ ⟨(zm6_ BK200.out 0).trans rfl,(zm6_ BK200.out 1).trans rfl,(zm6_ BK201.out 0).trans rfl,(zm6_ BK201.out 1).trans rfl⟩ (fun hHeld => ?_)
  clear hK K
  refine norm_ (a':=?_) ?_ ?_
  rotate_left
  ·
   show Act.put _ (some 8) _ = _
   simp only [Act.put,lA_,lB_,lC_,i64_w,i32_w]
   rfl
  refine one_ (i:=6) (N:=some 11) #[Y,Y,Y,Y,Y,Y,Y,Z,Z,Z] rfl rfl (one_of HT_.out (by kernel_rfl)) (by decide) (fun K hK => ?_)
  refine Kd.R_append_rows_step k36 (w0:=w) w.heap.size (by rfl) (.tmp 8) (.tmp 10) 30 36 (.agg #[(.string ⟨#[]⟩),(.string ⟨#[]⟩)]) 32 rfl Tryz.underlying30 info36 rfl (by decide) (by omega) v204 y203 l0_1 _ _ _ (fun k_ => k_ ≠ gb201) (fun _ => False) rfl rfl ?aO ?aR (fun _ _ h => h) (fun _ h => h.elim) ?aF ?aB ?aS ?aL ?_
  (case aR => repeat (first|exact (Kd.C_below HR0_1.out HB.out)|(with_reducible refine Kd.C_alloc ?_ _)|(with_reducible refine Kd.C_drewN ?_ _)|(with_reducible refine Kd.C_drew ?_)))
  (case aB => exact (zl3 HB GE200 GE201 GE202))
  (case aF => exact (fun k_ hk => Kd.freshB (g:=gb201) (o:=.cells #[.string a1_0,.string a1_1] 36 (0,0)) (zb BK201) k_ hk))
  (case aO => exact (zs (zo2_ HO205.out (fun _ hk => (by first|exact hk.2|(have hq_:=hk;simp only [ne_eq] at hq_ ⊢;simp only [hq_,not_false_eq_true,and_self]))))))
  (case aS => exact (zn9_ (zl3 HB GE200 GE201 GE202)))
  (case aL => have:=LMc3.out;omega)
  intro v207 w11 ho hb hg hat
  (first|(with_reducible rw [← Ny206.out] at ho)|(simp only [Int.reduceToNat] at ho;with_reducible rw [← Ny206.out] at ho)|rw [← Ny206.out] at ho)
  replace BK200:=zm0_ (blk_grown (g:=gb200) (o:=.cells #[.int .i64 a0_0,.slice A0_1 l0_1.length c0_1] 32 (0,0)) (zb BK200) hg (Kd.R_ne HO205.out BK200.out (by decide)))
  replace BK201:=zm0_ (blk_grown (g:=gb201) (o:=.cells #[.string a1_0,.string a1_1] 36 (0,0)) (zb BK201) hg (Kd.R_away HO205.out (fun _ hk => (by first|exact hk.2|(have hq_:=hk;simp only [ne_eq] at hq_ ⊢;simp only [hq_,not_false_eq_true,and_self])))))
  replace BK202:=zm0_ (blk_grown (g:=gb202) (o:=.cells #[.int .i64 0,.slice none 0 0] 32 (0,0)) (zb BK202) hg (Kd.R_ne HO205.out BK202.out (by decide)))
  replace HB:=zm0_ (hb)
  have HO208:=zm0_ (ho)
  clear HO205 ho hb hg hat
  obtain ⟨Ao12,co12,eo12⟩:=Kd.R_slice HO208.out
  (first|subst eo12|(injection eo12 with f1_ f2_ f3_;have f4_:=f1_.symm;have f5_:=f3_.symm;clear f1_ f2_ f3_;subst f4_;subst f5_))
  refine hK.out _ _ ⟨(zm6_ BK200.out 0).trans rfl,(zm6_ BK200.out 1).trans rfl,(zm6_ BK201.out 0).trans rfl,(zm6_ BK201.out 1).trans rfl⟩ (fun hHeld => ?_)
  clear hK K
  refine norm_ (a':=?_) ?_ ?_
  rotate_left
  ·
   show Act.put _ (some 11) _ = _
   simp only [Act.put,lA_,lB_,lC_,i64_w,i32_w]
   rfl
  refine pure_ (i:=7) (N:=some 12) (v:=?_) (a':=?_) #[Y,Y,Y,Y,Y,Y,Y,Y,Z,Z] rfl rfl (any_of HT_.out (by kernel_rfl)) (fun _ _ _ h => h) (Or.inl ⟨by rfl,?_⟩) ?_ ?_
  rotate_left
  ·
   intro w'
   go_simp
   with_reducible rfl
  rotate_left
  ·
   simp only [Act.put,lA_,lB_,lC_,i64_w,i32_w]
   rfl
  refine one_ (i:=8) (N:=some 13) #[Y,Y,Y,Y,Y,Y,Y,Y,Y,Z] rfl rfl (one_of HT_.out (by kernel_rfl)) (by decide) (fun K hK => ?_)
  refine goes_ Tryz.func41 (by kernel_rfl) rfl #[.agg #[.int .i64 a0_0,.slice Ao12 y206.length co12]] (by rfl) rfl rfl zy ?_
  with_reducible refine (spec_l4Fit.calls k a0_0 (fun k_ => some k_ = (.slice Ao12 y206.length co12 : Value).ownBlock) (.slice Ao12 y206.length co12) y206 t209 t210 w _ ?side1 ?side2 A4.out).mono ?_
  (case side1 => repeat (first|(with_reducible first|exact HB.out|apply zm3_|apply zm2_|apply zm4_|refine zm1_ ?_ GE200.out|refine zm1_ ?_ GE201.out|refine zm1_ ?_ GE202.out)|exact HB.out))
  (case side2 => exact Kd.R_tight rfl HO208.out)
  rintro e w13 ⟨v211,rfl,ho0,hb,hkp⟩
  refine ⟨_,rfl,?_⟩
  replace BK200:=zm0_ (blk_kept (zb BK200) hkp (fun hs_ => (fun e_ => (Kd.R_ne HO208.out BK200.out (by decide)) e_) hs_))
  replace BK202:=zm0_ (blk_kept (zb BK202) hkp (fun hs_ => (fun e_ => (Kd.R_ne HO208.out BK202.out (by decide)) e_) hs_))
  have HO212:=zm0_ (zo2_ (ok':=fun k_ => k_ ≠ gb201) ho0 (fun k_ hk_ => Or.elim hk_ (fun hs_ => fun e_ => (Kd.R_away HO208.out (fun _ hk => hk)) (by rw [← e_];exact hs_)) (fun hn_ => (Kd.freshB (g:=gb201) (o:=.cells #[.string a1_0,.string a1_1] 36 (0,0)) (zb BK201) k_ hn_))))
  replace BK201:=zm0_ (blk_kept (zb BK201) hkp (fun hs_ => (fun e_ => (Kd.R_away HO208.out (fun _ hk => hk)) e_) hs_))
  replace HB:=zm0_ (hb)
  clear HO208
  (try clear hb)
  (try clear hkp)
  (try clear ho0)
  obtain ⟨Ao15,co15,eo15⟩:=Kd.R_slice HO212.out
  (first|subst eo15|(injection eo15 with f1_ f2_ f3_;have f4_:=f1_.symm;have f5_:=f3_.symm;clear f1_ f2_ f3_;subst f4_;subst f5_))
  refine hK.out _ _ ⟨(zm6_ BK200.out 0).trans rfl,(zm6_ BK200.out 1).trans rfl,(zm6_ BK201.out 0).trans rfl,(zm6_ BK201.out 1).trans rfl⟩ (fun hHeld => ?_)
  clear hK K
  refine norm_ (a':=?_) ?_ ?_
  rotate_left
  ·
   show Act.put _ (some 13) _ = _
   simp only [Act.put,lA_,lB_,lC_,i64_w,i32_w]
   rfl
  refine one_ (i:=9) (N:=none) #[Y,Y,Y,Y,Y,Y,Y,Y,Y,Y] rfl rfl (one_of HT_.out (by kernel_rfl)) (by decide) (fun K hK => ?_)
  have hs14 : w13.cell? ⟨gb202,0,none⟩ = some (.int .i64 0):=(zm6_ BK202.out 0).trans rfl
  have hfs14:=zm7_ BK202.out 0
  have hns14_0:=NB200_202.out
  have hns14_1:=NB201_202.out
  have hms14_0:=NB202_200.out
  have hms14_1:=NB202_201.out
  have hs16 : w13.cell? ⟨gb202,1,none⟩ = some (.slice none 0 0):=(zm6_ BK202.out 1).trans rfl
  have hfs16:=zm7_ BK202.out 1
  have hns16_0:=NB200_202.out
  have hns16_1:=NB201_202.out
  have hms16_0:=NB202_200.out
  have hms16_1:=NB202_201.out
  refine skip_ (w1:=?_) (by rfl) rfl ?_ ?_
  rotate_left
  ·
   go_simp
   rfl
  refine hK.out _ _ ⟨((cell_far (p:=⟨gb202,_,none⟩) NB200_202.out _).trans (((cell_far (p:=⟨gb202,_,none⟩) NB200_202.out _).trans (hHeld.1)))),((cell_far (p:=⟨gb202,_,none⟩) NB200_202.out _).trans (((cell_far (p:=⟨gb202,_,none⟩) NB200_202.out _).trans (hHeld.2.1)))),((cell_far (p:=⟨gb202,_,none⟩) NB201_202.out _).trans (((cell_far (p:=⟨gb202,_,none⟩) NB201_202.out _).trans (hHeld.2.2.1)))),((cell_far (p:=⟨gb202,_,none⟩) NB201_202.out _).trans (((cell_far (p:=⟨gb202,_,none⟩) NB201_202.out _).trans (hHeld.2.2.2))))⟩ (fun hHeld => ?_)
  clear hK K
  refine done_ (done_of HT_.out (by kernel_rfl)) ?_
  try go_wp2
  refine bodyPost_ret (results_cell_row rfl _ _ gb202 32 #[.int .i64 t209,.slice Ao15 t210.length co15] (0,0) _ rfl (by (with_reducible repeat (first|refine k6_ ?_ _|refine k7_ ?_|refine k5_ ?_ _));refine blk_put (cs:=#[.int .i64 t209,.slice none 0 0]) ?_ 1 _ rfl;(with_reducible repeat (first|refine k6_ ?_ _|refine k7_ ?_|refine k5_ ?_ _));refine blk_put (cs:=#[.int .i64 0,.slice none 0 0]) ?_ 0 _ rfl;(with_reducible repeat (first|refine k6_ ?_ _|refine k7_ ?_|refine k5_ ?_ _));exact BK202.out) Tryz.underlying32 rfl (by kernel_rfl)) rfl ?_
  exact ⟨_,ze,by (with_reducible repeat (first|apply k1_|apply k2_|apply k3_));exact zo2_ (k4_ (p:=⟨gb202,1,none⟩) (k4_ (p:=⟨gb202,0,none⟩) (Kd.R_types HO212.out BK202.out (by decide)) (fun _ hk => hk.2) (.int .i64 t209)) (fun _ hk => hk.2) (.slice Ao15 t210.length co15)) (fun _ hk => trivial),by repeat (first|(with_reducible first|exact HB.out|apply zm3_|apply zm2_|apply zm4_|refine zm1_ ?_ GE200.out|refine zm1_ ?_ GE201.out|refine zm1_ ?_ GE202.out)|exact HB.out)⟩
 ·
  rw [if_neg c3] at H
  exact absurd H (by simp)
end Go.Proofs.YthflimnpiglgbaaGreatDoor.A
end
section
namespace Go.Proofs.YthflimnpiglgbaaGreatDoor.A
open Go.RowKit Go.Proofs.YthflimnpiglgbaaGreatDoorW.PrintWords Go.Proofs.YthflimnpiglgbaaGreatDoorW.PrintLast Go.Proofs.YthflimnpiglgbaaGreatDoorW.PrintMore
attribute [local go_sem] max2_int min2_int max_two min_two max_three min_three max_four min_four   -- for this text's walks alone
set_option linter.unusedVariables false
set_option linter.unusedSimpArgs false

mutual
def spec_PutField.j0 : Nat → Int → Bool → Int → List (S36) → ByteArray → ByteArray → Int → List (S36) → Option (List Int × Int × (List (S36)))
 | 0,_,_,_,_,_,_,_,_ => none
 | k + 1,x2,x23,x214000,x214001,x215000,x215001,x221000,x221001 => if x23 = true then (some ((([] : List Int)),x221000,x221001)) else ((spec_FindField.f k x214000 x214001 x215000 x215001).bind fun bt226 => (if bt226.2 = true then (spec_PutField.j1 k x2 bt226.1 (x2 != 3) x214000 x214001 x215000 x215001 x221000 x221001) else (spec_PutField.j1 k x2 bt226.1 false x214000 x214001 x215000 x215001 x221000 x221001)))
def spec_PutField.j1 : Nat → Int → Int → Bool → Int → List (S36) → ByteArray → ByteArray → Int → List (S36) → Option (List Int × Int × (List (S36)))
 | 0,_,_,_,_,_,_,_,_,_ => none
 | k + 1,x2,x9,x36,x214000,x214001,x215000,x215001,x221000,x221001 => if x36 = true then ((spec_PutPrefix.f k (([] : List Int)) 7 128 x9).bind fun t231 => (some (t231,x221000,x221001))) else ((spec_l5Mode.f x2).bind fun bt234 => ((spec_PutPrefix.f k (([] : List Int)) bt234.1 bt234.2 x9).bind fun t239 => (if x9 = 0 then ((spec_PutString.f k t239 x215000).bind fun t242 => (spec_PutField.j2 k x2 t242 x214000 x214001 x215000 x215001 x221000 x221001)) else (spec_PutField.j2 k x2 t239 x214000 x214001 x215000 x215001 x221000 x221001))))
def spec_PutField.j2 : Nat → Int → List Int → Int → List (S36) → ByteArray → ByteArray → Int → List (S36) → Option (List Int × Int × (List (S36)))
 | 0,_,_,_,_,_,_,_,_ => none
 | k + 1,x2,x13,x214000,x214001,x215000,x215001,x221000,x221001 => (spec_PutString.f k x13 x215001).bind fun t245 => (if x2 = 1 then ((spec_l4Add.f k x214000 x214001 x215000 x215001).bind fun bt248 => (some (t245,bt248.1,bt248.2))) else (some (t245,x221000,x221001)))
end
def spec_PutField.f (k : Nat) (a0_0 : Int) (l0_1 : List (S36)) (a1_0 : ByteArray) (a1_1 : ByteArray) (a2 : Int) : Option (List Int × Int × (List (S36))):=(spec_l4Copy.f a0_0 l0_1).bind fun bt216 => ((spec_TableOk.f k a0_0 l0_1).bind fun t221 => (if t221 = true then ((spec_l1In.f a2 1 3).bind fun t222 => (spec_PutField.j0 k a2 (!t222) a0_0 l0_1 a1_0 a1_1 bt216.1 bt216.2)) else (spec_PutField.j0 k a2 true a0_0 l0_1 a1_0 a1_1 bt216.1 bt216.2)))
theorem spec_PutField.mono_l : ∀ k,(∀ y0 y1 y2 y3 y4 y5 y6 y7,LeO (spec_PutField.j0 k y0 y1 y2 y3 y4 y5 y6 y7) (spec_PutField.j0 (k + 1) y0 y1 y2 y3 y4 y5 y6 y7)) ∧ (∀ y0 y1 y2 y3 y4 y5 y6 y7 y8,LeO (spec_PutField.j1 k y0 y1 y2 y3 y4 y5 y6 y7 y8) (spec_PutField.j1 (k + 1) y0 y1 y2 y3 y4 y5 y6 y7 y8)) ∧ (∀ y0 y1 y2 y3 y4 y5 y6 y7,LeO (spec_PutField.j2 k y0 y1 y2 y3 y4 y5 y6 y7) (spec_PutField.j2 (k + 1) y0 y1 y2 y3 y4 y5 y6 y7))
 | 0 => ⟨fun _ _ _ _ _ _ _ _ r h => by simp [spec_PutField.j0] at h,fun _ _ _ _ _ _ _ _ _ r h => by simp [spec_PutField.j1] at h,fun _ _ _ _ _ _ _ _ r h => by simp [spec_PutField.j2] at h⟩
 | k + 1 => by
  obtain ⟨ih0,ih1,ih2⟩:=spec_PutField.mono_l k
  refine ⟨?_,?_,?_⟩
  ·
   intro y0 y1 y2 y3 y4 y5 y6 y7
   unfold spec_PutField.j0
   repeat' first
   | (with_reducible exact ih0 _ _ _ _ _ _ _ _)
   | (with_reducible exact ih1 _ _ _ _ _ _ _ _ _)
   | (with_reducible exact ih2 _ _ _ _ _ _ _ _)
   | (with_reducible exact spec_FindField.mono _ _ _ _ _)
   | (with_reducible exact spec_PutPrefix.mono _ _ _ _ _)
   | (with_reducible exact spec_PutString.mono _ _ _)
   | (with_reducible exact spec_TableOk.mono _ _ _)
   | (with_reducible exact spec_l4Add.mono _ _ _ _ _)
   | (with_reducible exact LeO.refl _)
   | (with_reducible exact LeO.none _)
   | (with_reducible refine LeO.ite ?_ ?_)
   | (with_reducible refine LeO.bind ?_ (fun _ => ?_))
   | exact ih0 _ _ _ _ _ _ _ _
   | exact ih1 _ _ _ _ _ _ _ _ _
   | exact ih2 _ _ _ _ _ _ _ _
   | exact spec_FindField.mono _ _ _ _ _
   | exact spec_PutPrefix.mono _ _ _ _ _
   | exact spec_PutString.mono _ _ _
   | exact spec_TableOk.mono _ _ _
   | exact spec_l4Add.mono _ _ _ _ _
   | exact LeO.none _
   | refine LeO.ite ?_ ?_
   | refine LeO.bind ?_ (fun _ => ?_)
  ·
   intro y0 y1 y2 y3 y4 y5 y6 y7 y8
   unfold spec_PutField.j1
   repeat' first
   | (with_reducible exact ih0 _ _ _ _ _ _ _ _)
   | (with_reducible exact ih1 _ _ _ _ _ _ _ _ _)
   | (with_reducible exact ih2 _ _ _ _ _ _ _ _)
   | (with_reducible exact spec_FindField.mono _ _ _ _ _)
   | (with_reducible exact spec_PutPrefix.mono _ _ _ _ _)
   | (with_reducible exact spec_PutString.mono _ _ _)
   | (with_reducible exact spec_TableOk.mono _ _ _)
   | (with_reducible exact spec_l4Add.mono _ _ _ _ _)
   | (with_reducible exact LeO.refl _)
   | (with_reducible exact LeO.none _)
   | (with_reducible refine LeO.ite ?_ ?_)
   | (with_reducible refine LeO.bind ?_ (fun _ => ?_))
   | exact ih0 _ _ _ _ _ _ _ _
   | exact ih1 _ _ _ _ _ _ _ _ _
   | exact ih2 _ _ _ _ _ _ _ _
   | exact spec_FindField.mono _ _ _ _ _
   | exact spec_PutPrefix.mono _ _ _ _ _
   | exact spec_PutString.mono _ _ _
   | exact spec_TableOk.mono _ _ _
   | exact spec_l4Add.mono _ _ _ _ _
   | exact LeO.none _
   | refine LeO.ite ?_ ?_
   | refine LeO.bind ?_ (fun _ => ?_)
  ·
   intro y0 y1 y2 y3 y4 y5 y6 y7
   unfold spec_PutField.j2
   repeat' first
   | (with_reducible exact ih0 _ _ _ _ _ _ _ _)
   | (with_reducible exact ih1 _ _ _ _ _ _ _ _ _)
   | (with_reducible exact ih2 _ _ _ _ _ _ _ _)
   | (with_reducible exact spec_FindField.mono _ _ _ _ _)
   | (with_reducible exact spec_PutPrefix.mono _ _ _ _ _)
   | (with_reducible exact spec_PutString.mono _ _ _)
   | (with_reducible exact spec_TableOk.mono _ _ _)
   | (with_reducible exact spec_l4Add.mono _ _ _ _ _)
   | (with_reducible exact LeO.refl _)
   | (with_reducible exact LeO.none _)
   | (with_reducible refine LeO.ite ?_ ?_)
   | (with_reducible refine LeO.bind ?_ (fun _ => ?_))
   | exact ih0 _ _ _ _ _ _ _ _
   | exact ih1 _ _ _ _ _ _ _ _ _
   | exact ih2 _ _ _ _ _ _ _ _
   | exact spec_FindField.mono _ _ _ _ _
   | exact spec_PutPrefix.mono _ _ _ _ _
   | exact spec_PutString.mono _ _ _
   | exact spec_TableOk.mono _ _ _
   | exact spec_l4Add.mono _ _ _ _ _
   | exact LeO.none _
   | refine LeO.ite ?_ ?_
   | refine LeO.bind ?_ (fun _ => ?_)
theorem spec_PutField.mono : ∀ a0 a1 a2 a3 a4 k,LeO (spec_PutField.f k a0 a1 a2 a3 a4) (spec_PutField.f (k + 1) a0 a1 a2 a3 a4):=by
 intro a0 a1 a2 a3 a4 k
 obtain ⟨ih0,ih1,ih2⟩:=spec_PutField.mono_l k
 unfold spec_PutField.f
 repeat' first
  | (with_reducible exact ih0 _ _ _ _ _ _ _ _)
  | (with_reducible exact ih1 _ _ _ _ _ _ _ _ _)
  | (with_reducible exact ih2 _ _ _ _ _ _ _ _)
  | (with_reducible exact spec_FindField.mono _ _ _ _ _)
  | (with_reducible exact spec_PutPrefix.mono _ _ _ _ _)
  | (with_reducible exact spec_PutString.mono _ _ _)
  | (with_reducible exact spec_TableOk.mono _ _ _)
  | (with_reducible exact spec_l4Add.mono _ _ _ _ _)
  | (with_reducible exact LeO.refl _)
  | (with_reducible exact LeO.none _)
  | (with_reducible refine LeO.ite ?_ ?_)
  | (with_reducible refine LeO.bind ?_ (fun _ => ?_))
  | exact ih0 _ _ _ _ _ _ _ _
  | exact ih1 _ _ _ _ _ _ _ _ _
  | exact ih2 _ _ _ _ _ _ _ _
  | exact spec_FindField.mono _ _ _ _ _
  | exact spec_PutPrefix.mono _ _ _ _ _
  | exact spec_PutString.mono _ _ _
  | exact spec_TableOk.mono _ _ _
  | exact spec_l4Add.mono _ _ _ _ _
  | exact LeO.none _
  | refine LeO.ite ?_ ?_
  | refine LeO.bind ?_ (fun _ => ?_)
set_option maxHeartbeats 8000000 in
set_option maxRecDepth 100000 in
theorem spec_PutField.calls (k : Nat) (a0_0 : Int) (A0_1 : Option Addr) (c0_1 : Nat) (l0_1 : List (S36)) (a1_0 : ByteArray) (a1_1 : ByteArray) (a2 : Int) (r1 : List Int) (r2 : Int) (r3 : List (S36)) (w : World) (hr0_1 : Kd.C k36 w A0_1 l0_1.length l0_1) (hc0_1 : l0_1.length ≤ c0_1) (h : spec_PutField.f k a0_0 l0_1 a1_0 a1_1 a2 = some (r1,r2,r3)) :
 Calls Tryz.prog 7 #[.agg #[.int .i64 a0_0,.slice A0_1 l0_1.length c0_1],.agg #[.string a1_0,.string a1_1],.int .i64 a2] w fun e w' => ∃ v0_ v2_ : Value,e = .returned (.tuple #[v0_,.agg #[.int .i64 r2,v2_]]) ∧ Kd.R (Kd.int .u8) 5 w' w.heap.size (fun _ => True) v0_ r1 ∧ Kd.R k36 36 w' w.heap.size (fun _ => True) v2_ r3 ∧ Below w.heap.size w w':=by
 have hu32:=Tryz.underlying32
 have hu36:=Tryz.underlying36
 have HR0_1:=zm0_ hr0_1
 have HC0_1:=zm0_ hc0_1
 clear hr0_1 hc0_1
 have HB:=zm0_ (Below.refl w.heap.size w)
 have H : ((spec_l4Copy.f a0_0 l0_1).bind fun bt216 => ((spec_TableOk.f k a0_0 l0_1).bind fun t221 => (if t221 = true then ((spec_l1In.f a2 1 3).bind fun t222 => (spec_PutField.j0 k a2 (!t222) a0_0 l0_1 a1_0 a1_1 bt216.1 bt216.2)) else (spec_PutField.j0 k a2 true a0_0 l0_1 a1_0 a1_1 bt216.1 bt216.2)))) = some (r1,r2,r3):=h
 clear h
 replace H:=zq1_ H
 obtain ⟨⟨t216,t217⟩,A40,H⟩:=H
 replace H : ((spec_TableOk.f k a0_0 l0_1).bind fun t221 => (if t221 = true then ((spec_l1In.f a2 1 3).bind fun t222 => (spec_PutField.j0 k a2 (!t222) a0_0 l0_1 a1_0 a1_1 t216 t217)) else (spec_PutField.j0 k a2 true a0_0 l0_1 a1_0 a1_1 t216 t217))) = some (r1,r2,r3):=H
 have A4:=zm0_ A40
 clear A40
 have HC5:=zm0_ H
 clear H
 go_enter Tryz.func7,Tryz.ntmps7
 go_upto_region 2 with (first|((with_reducible refine gate_dst (N:=3) rfl ?_);refine box_event ?hg (N:=3) ?hd (cs:=#[.int .i64 a0_0,.slice A0_1 l0_1.length c0_1]) (t:=32) ?hr ?_;(case hd => rfl);(case hg => rfl);(case hr => first|(go_simp;done)|(go_simp;rfl));intro gb213 hg w6 hbox hb;have BK213:=zm0_ (hbox);have GW213:=zm0_ ((by rw [hg];exact (zn9_ (zl HB)) : w.heap.size ≤ gb213));have GE213:=zm0_ ((by rw [hg];exact (zn9_ (zl HB)) : w.heap.size ≤ gb213));replace HB:=zm0_ (zn8_ (zl HB) hb);clear hb hbox hg)|((with_reducible refine gate_dst (N:=4) rfl ?_);refine box_event ?hg (N:=4) ?hd (cs:=#[.string a1_0,.string a1_1]) (t:=36) ?hr ?_;(case hd => rfl);(case hg => rfl);(case hr => first|(go_simp;done)|(go_simp;rfl));intro gb214 hg w7 hbox hb;have BK214:=zm0_ (hbox);have GW214:=zm0_ ((by rw [hg];exact (zn9_ (zl1 HB GE213)) : w.heap.size ≤ gb214));have GE214:=zm0_ ((by rw [hg];exact (zn9_ (zl1 HB GE213)) : w.heap.size ≤ gb214));replace HB:=zm0_ (zn8_ (zl1 HB GE213) hb);have NB213_214:=zm0_ ((by rw [hg];exact Nat.ne_of_lt (zo3_ (g:=gb213) (o:=.cells #[.int .i64 a0_0,.slice A0_1 l0_1.length c0_1] 32 (0,0)) (zb BK213)) : gb213 ≠ gb214));have NB214_213:=zm0_ ((by rw [hg];exact Nat.ne_of_gt (zo3_ (g:=gb213) (o:=.cells #[.int .i64 a0_0,.slice A0_1 l0_1.length c0_1] 32 (0,0)) (zb BK213)) : gb214 ≠ gb213));replace BK213:=zm0_ (zm5_ (zb BK213) hb);clear hb hbox hg)|((with_reducible refine gate_dst (N:=7) rfl ?_);refine box_event ?hg (N:=7) ?hd (cs:=#[.int .i64 0,.slice none 0 0]) (t:=32) ?hr ?_;(case hd => rfl);(case hg => rfl);(case hr => first|(go_simp;done)|(go_simp;rfl));intro gb215 hg w8 hbox hb;have BK215:=zm0_ (hbox);have GW215:=zm0_ ((by rw [hg];exact (zn9_ (zl2 HB GE213 GE214)) : w.heap.size ≤ gb215));have GE215:=zm0_ ((by rw [hg];exact (zn9_ (zl2 HB GE213 GE214)) : w.heap.size ≤ gb215));replace HB:=zm0_ (zn8_ (zl2 HB GE213 GE214) hb);have NB213_215:=zm0_ ((by rw [hg];exact Nat.ne_of_lt (zo3_ (g:=gb213) (o:=.cells #[.int .i64 a0_0,.slice A0_1 l0_1.length c0_1] 32 (0,0)) (zb BK213)) : gb213 ≠ gb215));have NB215_213:=zm0_ ((by rw [hg];exact Nat.ne_of_gt (zo3_ (g:=gb213) (o:=.cells #[.int .i64 a0_0,.slice A0_1 l0_1.length c0_1] 32 (0,0)) (zb BK213)) : gb215 ≠ gb213));replace BK213:=zm0_ (zm5_ (zb BK213) hb);have NB214_215:=zm0_ ((by rw [hg];exact Nat.ne_of_lt (zo3_ (g:=gb214) (o:=.cells #[.string a1_0,.string a1_1] 36 (0,0)) (zb BK214)) : gb214 ≠ gb215));have NB215_214:=zm0_ ((by rw [hg];exact Nat.ne_of_gt (zo3_ (g:=gb214) (o:=.cells #[.string a1_0,.string a1_1] 36 (0,0)) (zb BK214)) : gb215 ≠ gb214));replace BK214:=zm0_ (zm5_ (zb BK214) hb);clear hb hbox hg;have hnb9:=NB213_214.out;have hnc9:=NB214_213.out;have hnb10:=NB213_215.out;have hnc10:=NB215_213.out;have hcz11_0 : w8.cell? ⟨gb213,0,none⟩ = some (.int .i64 a0_0):=(zm6_ BK213.out 0).trans rfl;have hcz11_1 : w8.cell? ⟨gb213,1,none⟩ = some (.slice A0_1 l0_1.length c0_1):=(zm6_ BK213.out 1).trans rfl;have hfz11_0:=zm7_ BK213.out 0;have hfz11_1:=zm7_ BK213.out 1)|((with_reducible refine gate_callee (f:=23) rfl ?_);refine goesL_ (some 15) rfl rfl Tryz.func23 (by kernel_rfl) rfl #[.agg #[.int .i64 a0_0,.slice A0_1 l0_1.length c0_1]] rfl zy ?_;(with_reducible refine (spec_l4Copy.calls a0_0 _ _ l0_1 t216 t217 _ ?side1 ?side2 A4.out).mono ?_);(case side1 => repeat (first|exact (Kd.C_below HR0_1.out HB.out)|(with_reducible refine Kd.C_alloc ?_ _)|(with_reducible refine Kd.C_drewN ?_ _)|(with_reducible refine Kd.C_drew ?_)));(case side2 => exact HC0_1.out);rintro e w12 ⟨v218,rfl,ho0,hb⟩;refine ⟨_,rfl,?_⟩;have HO219:=zm0_ (zo1_ (Kd.R_newB ho0 (g:=gb214) (o:=.cells #[.string a1_0,.string a1_1] 36 (0,0)) (zb BK214)) (zn9_ (zl3 HB GE213 GE214 GE215)));replace BK213:=zm0_ (zm5_ (zb BK213) hb);replace BK214:=zm0_ (zm5_ (zb BK214) hb);replace BK215:=zm0_ (zm5_ (zb BK215) hb);replace HB:=zm0_ (zn8_ (zl3 HB GE213 GE214 GE215) hb);(try clear hb);(try clear hb2);(try clear hk);(try clear hi);(try clear ho0))|((with_reducible refine gate_dst (N:=8) rfl ?_);refine box_event ?hg (N:=8) ?hd (cs:=#[.int .i64 0,.slice none 0 0]) (t:=32) ?hr ?_;(case hd => rfl);(case hg => rfl);(case hr => first|(go_simp;done)|(go_simp;rfl));intro gb220 hg w13 hbox hb;replace HO219:=zm0_ (zm8_ (zr HO219) hb);have BK220:=zm0_ (hbox);have GW220:=zm0_ ((by rw [hg];exact (zn9_ (zl3 HB GE213 GE214 GE215)) : w.heap.size ≤ gb220));have GE220:=zm0_ ((by rw [hg];exact (zn9_ (zl3 HB GE213 GE214 GE215)) : w.heap.size ≤ gb220));replace HB:=zm0_ (zn8_ (zl3 HB GE213 GE214 GE215) hb);have NB213_220:=zm0_ ((by rw [hg];exact Nat.ne_of_lt (zo3_ (g:=gb213) (o:=.cells #[.int .i64 a0_0,.slice A0_1 l0_1.length c0_1] 32 (0,0)) (zb BK213)) : gb213 ≠ gb220));have NB220_213:=zm0_ ((by rw [hg];exact Nat.ne_of_gt (zo3_ (g:=gb213) (o:=.cells #[.int .i64 a0_0,.slice A0_1 l0_1.length c0_1] 32 (0,0)) (zb BK213)) : gb220 ≠ gb213));replace BK213:=zm0_ (zm5_ (zb BK213) hb);have NB214_220:=zm0_ ((by rw [hg];exact Nat.ne_of_lt (zo3_ (g:=gb214) (o:=.cells #[.string a1_0,.string a1_1] 36 (0,0)) (zb BK214)) : gb214 ≠ gb220));have NB220_214:=zm0_ ((by rw [hg];exact Nat.ne_of_gt (zo3_ (g:=gb214) (o:=.cells #[.string a1_0,.string a1_1] 36 (0,0)) (zb BK214)) : gb220 ≠ gb214));replace BK214:=zm0_ (zm5_ (zb BK214) hb);have NB215_220:=zm0_ ((by rw [hg];exact Nat.ne_of_lt (zo3_ (g:=gb215) (o:=.cells #[.int .i64 0,.slice none 0 0] 32 (0,0)) (zb BK215)) : gb215 ≠ gb220));have NB220_215:=zm0_ ((by rw [hg];exact Nat.ne_of_gt (zo3_ (g:=gb215) (o:=.cells #[.int .i64 0,.slice none 0 0] 32 (0,0)) (zb BK215)) : gb220 ≠ gb215));replace BK215:=zm0_ (zm5_ (zb BK215) hb);clear hb hbox hg;have hnb14:=NB220_213.out;have hnc14:=NB213_220.out;have hnb15:=NB220_214.out;have hnc15:=NB214_220.out;have hnb16:=NB220_215.out;have hnc16:=NB215_220.out;have hcz17_0 : w13.cell? ⟨gb220,0,none⟩ = some (.int .i64 0):=(zm6_ BK220.out 0).trans rfl;have hcz17_1 : w13.cell? ⟨gb220,1,none⟩ = some (.slice none 0 0):=(zm6_ BK220.out 1).trans rfl;have hfz17_0:=zm7_ BK220.out 0;have hfz17_1:=zm7_ BK220.out 1;obtain ⟨Ao18,co18,eo18⟩:=Kd.R_slice HO219.out;subst eo18))
 (try simp only [Act.put,lA_,lB_,lC_])
 go_cut [23] (fun v23 wc => ∃ (kq : Nat) (x23_4 : Bool),v23 = .bool x23_4 ∧ Aside0 (spec_PutField.j0 kq a2 x23_4 a0_0 l0_1 a1_0 a1_1 t216 t217 = some (r1,r2,r3)) ∧ Aside0 (kq ≤ k) ∧ Aside0 (Kd.R k36 36 wc w.heap.size (fun k_ => k_ ≠ gb214) (.slice Ao18 t217.length co18) t217) ∧ Aside0 (wc.heap[gb213]? = some (.cells #[.int .i64 a0_0,(.slice A0_1 l0_1.length c0_1)] 32 (0,0))) ∧ Aside0 (wc.heap[gb214]? = some (.cells #[.string a1_0,.string a1_1] 36 (0,0))) ∧ Aside0 (wc.heap[gb215]? = some (.cells #[.int .i64 0,(.slice none 0 0)] 32 (0,0))) ∧ Aside0 (wc.heap[gb220]? = some (.cells #[.int .i64 t216,(.slice Ao18 t217.length co18)] 32 (0,0))) ∧ Aside0 (Below w.heap.size w wc))
 case first =>
  have H:=HC5.out
  clear HC5
  replace H:=zq1_ H
  obtain ⟨t221,A190,H⟩:=H
  replace H : (if t221 = true then ((spec_l1In.f a2 1 3).bind fun t222 => (spec_PutField.j0 k a2 (!t222) a0_0 l0_1 a1_0 a1_1 t216 t217)) else (spec_PutField.j0 k a2 true a0_0 l0_1 a1_0 a1_1 t216 t217)) = some (r1,r2,r3):=H
  have A19:=zm0_ A190
  clear A190
  by_cases c20 : t221 = true
  ·
   subst c20
   rw [if_pos rfl] at H
   replace H:=zq1_ H
   obtain ⟨t222,A210,H⟩:=H
   replace H : (spec_PutField.j0 k a2 (!t222) a0_0 l0_1 a1_0 a1_1 t216 t217) = some (r1,r2,r3):=H
   have A21:=zm0_ A210
   clear A210
   have H':=zm0_ H
   clear H
   have hnb22:=NB213_214.out
   have hnc22:=NB214_213.out
   have hnb23:=NB213_215.out
   have hnc23:=NB215_213.out
   have hnb24:=NB213_220.out
   have hnc24:=NB220_213.out
   have hcz25_0 : w13.cell? ⟨gb213,0,none⟩ = some (.int .i64 a0_0):=(zm6_ BK213.out 0).trans rfl
   have hcz25_1 : w13.cell? ⟨gb213,1,none⟩ = some (.slice A0_1 l0_1.length c0_1):=(zm6_ BK213.out 1).trans rfl
   have hfz25_0:=zm7_ BK213.out 0
   have hfz25_1:=zm7_ BK213.out 1
   go_wp2_with (first|((with_reducible refine gate_callee (f:=24) rfl ?_);refine goesL_ (some 17) rfl rfl Tryz.func24 (by kernel_rfl) rfl #[.agg #[.int .i64 a0_0,.slice A0_1 l0_1.length c0_1]] rfl zy ?_;(with_reducible refine (spec_TableOk.calls k a0_0 _ _ l0_1 true _ ?side1 ?side2 A19.out).mono ?_);(case side1 => exact Kd.C_below HR0_1.out (zl4 HB GE213 GE214 GE215 GE220));(case side2 => exact HC0_1.out);rintro e w26 ⟨rfl,hb⟩;refine ⟨_,rfl,?_⟩;replace HO219:=zm0_ (zm8_ (zs (zo2_ (k4_ (p:=⟨gb220,1,none⟩) (k4_ (p:=⟨gb220,0,none⟩) (Kd.R_types HO219.out BK220.out (by decide)) (fun _ hk => hk.2) (.int .i64 t216)) (fun _ hk => hk.2) (.slice Ao18 t217.length co18)) (fun _ h_ => h_.1))) hb);replace BK213:=zm0_ (zm5_ (g:=gb213) (o:=.cells #[.int .i64 a0_0,.slice A0_1 l0_1.length c0_1] 32 (0,0)) (by (with_reducible repeat (first|refine k6_ ?_ _|refine k7_ ?_|refine k5_ ?_ _));refine blk_far ?_ NB213_220.out _;(with_reducible repeat (first|refine k6_ ?_ _|refine k7_ ?_|refine k5_ ?_ _));refine blk_far ?_ NB213_220.out _;(with_reducible repeat (first|refine k6_ ?_ _|refine k7_ ?_|refine k5_ ?_ _));exact BK213.out) hb);replace BK214:=zm0_ (zm5_ (g:=gb214) (o:=.cells #[.string a1_0,.string a1_1] 36 (0,0)) (by (with_reducible repeat (first|refine k6_ ?_ _|refine k7_ ?_|refine k5_ ?_ _));refine blk_far ?_ NB214_220.out _;(with_reducible repeat (first|refine k6_ ?_ _|refine k7_ ?_|refine k5_ ?_ _));refine blk_far ?_ NB214_220.out _;(with_reducible repeat (first|refine k6_ ?_ _|refine k7_ ?_|refine k5_ ?_ _));exact BK214.out) hb);replace BK215:=zm0_ (zm5_ (g:=gb215) (o:=.cells #[.int .i64 0,.slice none 0 0] 32 (0,0)) (by (with_reducible repeat (first|refine k6_ ?_ _|refine k7_ ?_|refine k5_ ?_ _));refine blk_far ?_ NB215_220.out _;(with_reducible repeat (first|refine k6_ ?_ _|refine k7_ ?_|refine k5_ ?_ _));refine blk_far ?_ NB215_220.out _;(with_reducible repeat (first|refine k6_ ?_ _|refine k7_ ?_|refine k5_ ?_ _));exact BK215.out) hb);replace BK220:=zm0_ (zm5_ (g:=gb220) (o:=.cells #[.int .i64 t216,.slice Ao18 t217.length co18] 32 (0,0)) (by (with_reducible repeat (first|refine k6_ ?_ _|refine k7_ ?_|refine k5_ ?_ _));refine blk_put (cs:=#[.int .i64 t216,.slice none 0 0]) ?_ 1 _ rfl;(with_reducible repeat (first|refine k6_ ?_ _|refine k7_ ?_|refine k5_ ?_ _));refine blk_put (cs:=#[.int .i64 0,.slice none 0 0]) ?_ 0 _ rfl;(with_reducible repeat (first|refine k6_ ?_ _|refine k7_ ?_|refine k5_ ?_ _));exact BK220.out) hb);replace HB:=zm0_ (zn8_ (zl4 HB GE213 GE214 GE215 GE220) hb);(try clear hb);(try clear hb2);(try clear hk);(try clear hi))|(go_at_call 25;(with_reducible refine (spec_l1In.calls a2 1 3 t222 _ A21.out).mono ?_);rintro e w' ⟨rfl,⟨nd,rfl⟩⟩))
   go_meet
   case rel => exact ⟨_,(!t222),zz,H',⟨by first|omega|exact Nat.le_refl _⟩,⟨by (with_reducible repeat (first|apply k1_|apply k2_|apply k3_));exact zo2_ HO219.out (fun _ hk => (by first|exact hk.2|(have hq_:=hk;simp only [ne_eq] at hq_ ⊢;simp only [hq_,not_false_eq_true,and_self])))⟩,⟨zb BK213⟩,⟨zb BK214⟩,⟨zb BK215⟩,⟨zb BK220⟩,⟨zl4 HB GE213 GE214 GE215 GE220⟩⟩
  ·
   replace c20:=Bool.eq_false_iff.mpr c20
   subst c20
   rw [if_neg (show ¬ (false = true) by decide)] at H
   have H':=zm0_ H
   clear H
   have hnb27:=NB213_214.out
   have hnc27:=NB214_213.out
   have hnb28:=NB213_215.out
   have hnc28:=NB215_213.out
   have hnb29:=NB213_220.out
   have hnc29:=NB220_213.out
   have hcz30_0 : w13.cell? ⟨gb213,0,none⟩ = some (.int .i64 a0_0):=(zm6_ BK213.out 0).trans rfl
   have hcz30_1 : w13.cell? ⟨gb213,1,none⟩ = some (.slice A0_1 l0_1.length c0_1):=(zm6_ BK213.out 1).trans rfl
   have hfz30_0:=zm7_ BK213.out 0
   have hfz30_1:=zm7_ BK213.out 1
   go_wp2_with (first|((with_reducible refine gate_callee (f:=24) rfl ?_);refine goesL_ (some 17) rfl rfl Tryz.func24 (by kernel_rfl) rfl #[.agg #[.int .i64 a0_0,.slice A0_1 l0_1.length c0_1]] rfl zy ?_;(with_reducible refine (spec_TableOk.calls k a0_0 _ _ l0_1 false _ ?side1 ?side2 A19.out).mono ?_);(case side1 => exact Kd.C_below HR0_1.out (zl4 HB GE213 GE214 GE215 GE220));(case side2 => exact HC0_1.out);rintro e w31 ⟨rfl,hb⟩;refine ⟨_,rfl,?_⟩;replace HO219:=zm0_ (zm8_ (zs (zo2_ (k4_ (p:=⟨gb220,1,none⟩) (k4_ (p:=⟨gb220,0,none⟩) (Kd.R_types HO219.out BK220.out (by decide)) (fun _ hk => hk.2) (.int .i64 t216)) (fun _ hk => hk.2) (.slice Ao18 t217.length co18)) (fun _ h_ => h_.1))) hb);replace BK213:=zm0_ (zm5_ (g:=gb213) (o:=.cells #[.int .i64 a0_0,.slice A0_1 l0_1.length c0_1] 32 (0,0)) (by (with_reducible repeat (first|refine k6_ ?_ _|refine k7_ ?_|refine k5_ ?_ _));refine blk_far ?_ NB213_220.out _;(with_reducible repeat (first|refine k6_ ?_ _|refine k7_ ?_|refine k5_ ?_ _));refine blk_far ?_ NB213_220.out _;(with_reducible repeat (first|refine k6_ ?_ _|refine k7_ ?_|refine k5_ ?_ _));exact BK213.out) hb);replace BK214:=zm0_ (zm5_ (g:=gb214) (o:=.cells #[.string a1_0,.string a1_1] 36 (0,0)) (by (with_reducible repeat (first|refine k6_ ?_ _|refine k7_ ?_|refine k5_ ?_ _));refine blk_far ?_ NB214_220.out _;(with_reducible repeat (first|refine k6_ ?_ _|refine k7_ ?_|refine k5_ ?_ _));refine blk_far ?_ NB214_220.out _;(with_reducible repeat (first|refine k6_ ?_ _|refine k7_ ?_|refine k5_ ?_ _));exact BK214.out) hb);replace BK215:=zm0_ (zm5_ (g:=gb215) (o:=.cells #[.int .i64 0,.slice none 0 0] 32 (0,0)) (by (with_reducible repeat (first|refine k6_ ?_ _|refine k7_ ?_|refine k5_ ?_ _));refine blk_far ?_ NB215_220.out _;(with_reducible repeat (first|refine k6_ ?_ _|refine k7_ ?_|refine k5_ ?_ _));refine blk_far ?_ NB215_220.out _;(with_reducible repeat (first|refine k6_ ?_ _|refine k7_ ?_|refine k5_ ?_ _));exact BK215.out) hb);replace BK220:=zm0_ (zm5_ (g:=gb220) (o:=.cells #[.int .i64 t216,.slice Ao18 t217.length co18] 32 (0,0)) (by (with_reducible repeat (first|refine k6_ ?_ _|refine k7_ ?_|refine k5_ ?_ _));refine blk_put (cs:=#[.int .i64 t216,.slice none 0 0]) ?_ 1 _ rfl;(with_reducible repeat (first|refine k6_ ?_ _|refine k7_ ?_|refine k5_ ?_ _));refine blk_put (cs:=#[.int .i64 0,.slice none 0 0]) ?_ 0 _ rfl;(with_reducible repeat (first|refine k6_ ?_ _|refine k7_ ?_|refine k5_ ?_ _));exact BK220.out) hb);replace HB:=zm0_ (zn8_ (zl4 HB GE213 GE214 GE215 GE220) hb);(try clear hb);(try clear hb2);(try clear hk);(try clear hi)))
   go_meet
   case rel => exact ⟨_,(true),zz,H',⟨by first|omega|exact Nat.le_refl _⟩,⟨by (with_reducible repeat (first|apply k1_|apply k2_|apply k3_));exact zo2_ HO219.out (fun _ hk => (by first|exact hk.2|(have hq_:=hk;simp only [ne_eq] at hq_ ⊢;simp only [hq_,not_false_eq_true,and_self])))⟩,⟨zb BK213⟩,⟨zb BK214⟩,⟨zb BK215⟩,⟨zb BK220⟩,⟨zl4 HB GE213 GE214 GE215 GE220⟩⟩
 case rest =>
  clear HC5
  try clear c1
  try clear c2
  try clear p2
  try clear c7
  try clear c9
  try clear c10
  try clear c14
  try clear c15
  try clear c16
  try clear c20
  try clear c22
  try clear c23
  try clear c24
  try clear c27
  try clear c28
  try clear c29
  try clear hcz11_0
  try clear hcz11_1
  try clear hcz17_0
  try clear hcz17_1
  try clear hcz25_0
  try clear hcz25_1
  try clear hcz30_0
  try clear hcz30_1
  try clear hfz11_0
  try clear hfz11_1
  try clear hfz17_0
  try clear hfz17_1
  try clear hfz25_0
  try clear hfz25_1
  try clear hfz30_0
  try clear hfz30_1
  obtain ⟨kq,x23_4,rfl,HA,HJ4,HO_221001,BK213,BK214,BK215,BK220,HB⟩:=hcut
  cases kq with
  | zero => exact absurd HA.out (by simp [spec_PutField.j0])
  | succ kj4 =>
   have H:=HA.out
   clear HA
   simp only [spec_PutField.j0] at H
   by_cases c32 : x23_4 = true
   ·
    subst c32
    rw [if_pos rfl] at H
    obtain ⟨y223,hy223⟩ : ∃ y_ : List Int,y_ = (([] : List Int)):=⟨_,rfl⟩
    replace H : (some (y223,t216,t217)) = some (r1,r2,r3):=by first|(rw [hy223];with_reducible exact H)|(have H2_:=(Option.bind_some _ _).symm.trans H;rw [hy223];with_reducible exact H2_)|(have H2_:=(Option.bind_some _ _).symm.trans H;with_reducible exact H2_)|with_reducible exact H|(rw [hy223];exact H)|exact H
    have Ny223:=zm0_ hy223
    clear hy223
    simp only [Option.some.injEq,Prod.mk.injEq] at H
    obtain ⟨rfl,rfl,rfl⟩:=H
    try go_wp2
    replace HO_221001:=zm0_ (k3_ HO_221001.out)
    replace BK213:=zm0_ (k7_ BK213.out)
    replace BK214:=zm0_ (k7_ BK214.out)
    replace BK215:=zm0_ (k7_ BK215.out)
    replace BK220:=zm0_ (k7_ BK220.out)
    replace HB:=zm0_ (zm4_ HB.out)
    refine start_ (n:=4) (S:=fun w' => w'.cell? ⟨gb220,0,none⟩ = some (.int .i64 t216) ∧ w'.cell? ⟨gb220,1,none⟩ = some (.slice Ao18 t217.length co18)) (ds:=[]) #[Z,Z,Z,Z] (by kernel_rfl) rfl rfl ⟨(zm6_ BK220.out 0).trans rfl,(zm6_ BK220.out 1).trans rfl⟩ (fun hHeld => ?_)
    generalize wc.drew = w33 at HO_221001 BK213 BK214 BK215 BK220 HB hHeld ⊢
    refine take_ (i:=1) (N:=some 25) (v:=?_) (a':=?_) #[Z,Y,Z,Z] rfl rfl (by kernel_rfl) (fun _ _ _ h => h) (Or.inl ⟨by rfl,?_⟩) hHeld ?_ ?_
    rotate_left
    ·
     rintro w' ⟨s0,s1⟩
     go_simp
     with_reducible rfl
    rotate_left
    ·
     simp only [Act.put,lA_,lB_,lC_,i64_w,i32_w]
     rfl
    refine one_ (i:=0) (N:=some 24) #[Y,Y,Z,Z] rfl rfl (by kernel_rfl) (by decide) (fun K hK => ?_)
    refine Kd.R_lit_step (Kd.int .u8) _ 5 ?hg (N:=24) ?hd (xs:=([] : List Int)) (inner:=[]) (ok:=fun _ => True) (okp:=fun _ => True) ?hr ?hp (fun _ hk => hk) trivial (Below.refl _ _) (Nat.le_refl _) (by simp) ?_;(case hd => rfl);(case hg => rfl);(case hr => first|(go_simp;done)|(go_simp;rfl));(case hp => exact (Reps.none _ _))
    intro v224 w34 ho35 hb hg_ hnew_
    clear hg_ hnew_
    (first|rw [← Ny223.out] at ho35|(simp only [Int.reduceToNat] at ho35;rw [← Ny223.out] at ho35))
    replace HO_221001:=zm0_ (zm8_ (zr HO_221001) hb)
    have HO225:=zm0_ (zo1_ ho35 (zn9_ (zl4 HB GE213 GE214 GE215 GE220)))
    replace BK213:=zm0_ (zm5_ (zb BK213) hb)
    replace BK214:=zm0_ (zm5_ (zb BK214) hb)
    replace BK215:=zm0_ (zm5_ (zb BK215) hb)
    replace BK220:=zm0_ (zm5_ (zb BK220) hb)
    replace HB:=zm0_ (zn8_ (zl4 HB GE213 GE214 GE215 GE220) hb)
    clear hb ho35
    refine hK.out _ _ ⟨(zm6_ BK220.out 0).trans rfl,(zm6_ BK220.out 1).trans rfl⟩ (fun hHeld => ?_)
    clear hK K
    refine norm_ (a':=?_) ?_ ?_
    rotate_left
    ·
     show Act.put _ (some 24) _ = _
     simp only [Act.put,lA_,lB_,lC_,i64_w,i32_w]
     rfl
    refine pure_ (i:=2) (N:=some 6) (v:=?_) (a':=?_) #[Y,Y,Y,Z] rfl rfl (by kernel_rfl) (fun _ _ _ h => h) (Or.inl ⟨by rfl,?_⟩) ?_ ?_
    rotate_left
    ·
     intro w'
     go_simp
     with_reducible rfl
    rotate_left
    ·
     simp only [Act.put,lA_,lB_,lC_,i64_w,i32_w]
     rfl
    refine one_ (i:=3) (N:=none) #[Y,Y,Y,Y] rfl rfl (by kernel_rfl) (by decide) (fun K hK => ?_)
    have hs36 : w34.cell? ⟨gb215,0,none⟩ = some (.int .i64 0):=(zm6_ BK215.out 0).trans rfl
    have hfs36:=zm7_ BK215.out 0
    have hns36_0:=NB213_215.out
    have hns36_1:=NB214_215.out
    have hns36_3:=NB220_215.out
    have hms36_0:=NB215_213.out
    have hms36_1:=NB215_214.out
    have hms36_3:=NB215_220.out
    have hs37 : w34.cell? ⟨gb215,1,none⟩ = some (.slice none 0 0):=(zm6_ BK215.out 1).trans rfl
    have hfs37:=zm7_ BK215.out 1
    have hns37_0:=NB213_215.out
    have hns37_1:=NB214_215.out
    have hns37_3:=NB220_215.out
    have hms37_0:=NB215_213.out
    have hms37_1:=NB215_214.out
    have hms37_3:=NB215_220.out
    refine skip_ (w1:=?_) (by rfl) rfl ?_ ?_
    rotate_left
    ·
     go_simp
     rfl
    refine hK.out _ _ ⟨((cell_far (p:=⟨gb215,_,none⟩) NB220_215.out _).trans (((cell_far (p:=⟨gb215,_,none⟩) NB220_215.out _).trans (hHeld.1)))),((cell_far (p:=⟨gb215,_,none⟩) NB220_215.out _).trans (((cell_far (p:=⟨gb215,_,none⟩) NB220_215.out _).trans (hHeld.2))))⟩ (fun hHeld => ?_)
    clear hK K
    refine done_ (by kernel_rfl) ?_
    try go_wp2
    refine bodyPost_ret (results_tc rfl _ _ gb215 32 #[.int .i64 t216,.slice Ao18 t217.length co18] (0,0) _ rfl (by (with_reducible repeat (first|refine k6_ ?_ _|refine k7_ ?_|refine k5_ ?_ _));refine blk_put (cs:=#[.int .i64 t216,.slice none 0 0]) ?_ 1 _ rfl;(with_reducible repeat (first|refine k6_ ?_ _|refine k7_ ?_|refine k5_ ?_ _));refine blk_put (cs:=#[.int .i64 0,.slice none 0 0]) ?_ 0 _ rfl;(with_reducible repeat (first|refine k6_ ?_ _|refine k7_ ?_|refine k5_ ?_ _));exact BK215.out) Tryz.underlying32 rfl (by kernel_rfl)) rfl ?_
    exact ⟨_,_,ze,by (with_reducible repeat (first|apply k1_|apply k2_|apply k3_));exact zo2_ (k4_ (p:=⟨gb215,1,none⟩) (k4_ (p:=⟨gb215,0,none⟩) (Kd.R_types HO225.out BK215.out (by decide)) (fun _ hk => hk.2) (.int .i64 t216)) (fun _ hk => hk.2) (.slice Ao18 t217.length co18)) (fun _ hk => trivial),by (with_reducible repeat (first|apply k1_|apply k2_|apply k3_));exact zo2_ (k4_ (p:=⟨gb215,1,none⟩) (k4_ (p:=⟨gb215,0,none⟩) (Kd.R_types HO_221001.out BK215.out (by decide)) (fun _ hk => hk.2) (.int .i64 t216)) (fun _ hk => hk.2) (.slice Ao18 t217.length co18)) (fun _ hk => trivial),by repeat (first|(with_reducible first|exact HB.out|apply zm3_|apply zm2_|apply zm4_|refine zm1_ ?_ GE213.out|refine zm1_ ?_ GE214.out|refine zm1_ ?_ GE215.out|refine zm1_ ?_ GE220.out)|exact HB.out)⟩
   ·
    replace c32:=Bool.eq_false_iff.mpr c32
    subst c32
    rw [if_neg (show ¬ (false = true) by decide)] at H
    replace H:=zq1_ H
    obtain ⟨⟨t226,t227⟩,A380,H⟩:=H
    replace H : (if t227 = true then (spec_PutField.j1 kj4 a2 t226 (a2 != 3) a0_0 l0_1 a1_0 a1_1 t216 t217) else (spec_PutField.j1 kj4 a2 t226 false a0_0 l0_1 a1_0 a1_1 t216 t217)) = some (r1,r2,r3):=H
    have A38:=zm0_ A380
    clear A380
    have HC39:=zm0_ H
    clear H
    have hnb40:=NB213_214.out
    have hnc40:=NB214_213.out
    have hnb41:=NB213_215.out
    have hnc41:=NB215_213.out
    have hnb42:=NB213_220.out
    have hnc42:=NB220_213.out
    have hcz43_0 : wc.cell? ⟨gb213,0,none⟩ = some (.int .i64 a0_0):=(zm6_ BK213.out 0).trans rfl
    have hcz43_1 : wc.cell? ⟨gb213,1,none⟩ = some (.slice A0_1 l0_1.length c0_1):=(zm6_ BK213.out 1).trans rfl
    have hfz43_0:=zm7_ BK213.out 0
    have hfz43_1:=zm7_ BK213.out 1
    have hnb44:=NB214_215.out
    have hnc44:=NB215_214.out
    have hnb45:=NB214_220.out
    have hnc45:=NB220_214.out
    have hcz46_0 : wc.cell? ⟨gb214,0,none⟩ = some (.string a1_0):=(zm6_ BK214.out 0).trans rfl
    have hcz46_1 : wc.cell? ⟨gb214,1,none⟩ = some (.string a1_1):=(zm6_ BK214.out 1).trans rfl
    have hfz46_0:=zm7_ BK214.out 0
    have hfz46_1:=zm7_ BK214.out 1
    go_upto_region 5 with (first|((with_reducible refine gate_callee (f:=26) rfl ?_);refine goesL_ (some 29) rfl rfl Tryz.func26 (by kernel_rfl) rfl #[.agg #[.int .i64 a0_0,.slice A0_1 l0_1.length c0_1],.agg #[.string a1_0,.string a1_1]] rfl zy ?_;(with_reducible refine (spec_FindField.calls kj4 a0_0 _ _ l0_1 a1_0 a1_1 t226 t227 _ ?side1 ?side2 A38.out).mono ?_);(case side1 => repeat (first|exact (Kd.C_below HR0_1.out HB.out)|(with_reducible refine Kd.C_alloc ?_ _)|(with_reducible refine Kd.C_drewN ?_ _)|(with_reducible refine Kd.C_drew ?_)));(case side2 => exact HC0_1.out);rintro e w47 ⟨rfl,hb⟩;refine ⟨_,rfl,?_⟩;replace HO_221001:=zm0_ (zm8_ (zr HO_221001) hb);replace BK213:=zm0_ (zm5_ (zb BK213) hb);replace BK214:=zm0_ (zm5_ (zb BK214) hb);replace BK215:=zm0_ (zm5_ (zb BK215) hb);replace BK220:=zm0_ (zm5_ (zb BK220) hb);replace HB:=zm0_ (zn8_ (zl4 HB GE213 GE214 GE215 GE220) hb);(try clear hb);(try clear hb2);(try clear hk);(try clear hi)))
    (try simp only [Act.put,lA_,lB_,lC_])
    go_cut [36] (fun v36 wc => ∃ (kq : Nat) (x36_38 : Bool),v36 = .bool x36_38 ∧ Aside0 (spec_PutField.j1 kq a2 t226 x36_38 a0_0 l0_1 a1_0 a1_1 t216 t217 = some (r1,r2,r3)) ∧ Aside0 (kq ≤ kj4) ∧ Aside0 (Kd.R k36 36 wc w.heap.size (fun k_ => k_ ≠ gb214) (.slice Ao18 t217.length co18) t217) ∧ Aside0 (wc.heap[gb213]? = some (.cells #[.int .i64 a0_0,(.slice A0_1 l0_1.length c0_1)] 32 (0,0))) ∧ Aside0 (wc.heap[gb214]? = some (.cells #[.string a1_0,.string a1_1] 36 (0,0))) ∧ Aside0 (wc.heap[gb215]? = some (.cells #[.int .i64 0,(.slice none 0 0)] 32 (0,0))) ∧ Aside0 (wc.heap[gb220]? = some (.cells #[.int .i64 t216,(.slice Ao18 t217.length co18)] 32 (0,0))) ∧ Aside0 (Below w.heap.size w wc))
    case first =>
     have H:=HC39.out
     clear HC39
     by_cases c48 : t227 = true
     ·
      subst c48
      rw [if_pos rfl] at H
      have H':=zm0_ H
      clear H
      go_wp2
      go_meet
      case rel => exact ⟨_,((a2 != 3)),zz,H',⟨by have:=HJ4.out;first|omega|exact Nat.le_refl _⟩,⟨zr HO_221001⟩,⟨zb BK213⟩,⟨zb BK214⟩,⟨zb BK215⟩,⟨zb BK220⟩,⟨zl4 HB GE213 GE214 GE215 GE220⟩⟩
     ·
      replace c48:=Bool.eq_false_iff.mpr c48
      subst c48
      rw [if_neg (show ¬ (false = true) by decide)] at H
      have H':=zm0_ H
      clear H
      go_wp2
      go_meet
      case rel => exact ⟨_,(false),zz,H',⟨by have:=HJ4.out;first|omega|exact Nat.le_refl _⟩,⟨zr HO_221001⟩,⟨zb BK213⟩,⟨zb BK214⟩,⟨zb BK215⟩,⟨zb BK220⟩,⟨zl4 HB GE213 GE214 GE215 GE220⟩⟩
    case rest =>
     clear HC39
     try clear c1
     try clear c2
     try clear p2
     try clear c3
     try clear c4
     try clear c7
     try clear c9
     try clear c10
     try clear c14
     try clear c15
     try clear c16
     try clear c20
     try clear c22
     try clear c23
     try clear c24
     try clear c26
     try clear c27
     try clear c28
     try clear c29
     try clear c32
     try clear c40
     try clear c41
     try clear c42
     try clear c44
     try clear c45
     try clear c48
     try clear hcz11_0
     try clear hcz11_1
     try clear hcz17_0
     try clear hcz17_1
     try clear hcz25_0
     try clear hcz25_1
     try clear hcz30_0
     try clear hcz30_1
     try clear hcz43_0
     try clear hcz43_1
     try clear hcz46_0
     try clear hcz46_1
     try clear hfz11_0
     try clear hfz11_1
     try clear hfz17_0
     try clear hfz17_1
     try clear hfz25_0
     try clear hfz25_1
     try clear hfz30_0
     try clear hfz30_1
     try clear hfz43_0
     try clear hfz43_1
     try clear hfz46_0
     try clear hfz46_1
     try clear p2
     obtain ⟨kq,x36_38,rfl,HA,HJ38,HO_221001,BK213,BK214,BK215,BK220,HB⟩:=hcut
     cases kq with
     | zero => exact absurd HA.out (by simp [spec_PutField.j1])
     | succ kj38 =>
      have H:=HA.out
      clear HA
      simp only [spec_PutField.j1] at H
      by_cases c49 : x36_38 = true
      ·
       subst c49
       rw [if_pos rfl] at H
       obtain ⟨y228,hy228⟩ : ∃ y_ : List Int,y_ = (([] : List Int)):=⟨_,rfl⟩
       replace H : ((spec_PutPrefix.f kj38 y228 7 128 t226).bind fun t231 => (some (t231,t216,t217))) = some (r1,r2,r3):=by first|(rw [hy228];with_reducible exact H)|(have H2_:=(Option.bind_some _ _).symm.trans H;rw [hy228];with_reducible exact H2_)|(have H2_:=(Option.bind_some _ _).symm.trans H;with_reducible exact H2_)|with_reducible exact H|(rw [hy228];exact H)|exact H
       have Ny228:=zm0_ hy228
       clear hy228
       replace H:=zq1_ H
       obtain ⟨t231,A500,H⟩:=H
       replace H : (some (t231,t216,t217)) = some (r1,r2,r3):=H
       have A50:=zm0_ A500
       clear A500
       simp only [Option.some.injEq,Prod.mk.injEq] at H
       obtain ⟨rfl,rfl,rfl⟩:=H
       try go_wp2
       replace HO_221001:=zm0_ (k3_ HO_221001.out)
       replace BK213:=zm0_ (k7_ BK213.out)
       replace BK214:=zm0_ (k7_ BK214.out)
       replace BK215:=zm0_ (k7_ BK215.out)
       replace BK220:=zm0_ (k7_ BK220.out)
       replace HB:=zm0_ (zm4_ HB.out)
       refine start_ (n:=6) (S:=fun w' => w'.cell? ⟨gb220,0,none⟩ = some (.int .i64 t216) ∧ w'.cell? ⟨gb220,1,none⟩ = some (.slice Ao18 t217.length co18)) (ds:=[]) #[Z,Z,Z,Z,Z,Z] (by kernel_rfl) rfl rfl ⟨(zm6_ BK220.out 0).trans rfl,(zm6_ BK220.out 1).trans rfl⟩ (fun hHeld => ?_)
       generalize wc.drew = w51 at HO_221001 BK213 BK214 BK215 BK220 HB hHeld ⊢
       refine pure_ (i:=1) (N:=some 38) (v:=?_) (a':=?_) #[Z,Y,Z,Z,Z,Z] rfl rfl (by kernel_rfl) (fun _ _ _ h => h) (Or.inl ⟨by rfl,?_⟩) ?_ ?_
       rotate_left
       ·
        intro w'
        go_simp
        with_reducible rfl
       rotate_left
       ·
        simp only [Act.put,lA_,lB_,lC_,i64_w,i32_w]
        rfl
       refine take_ (i:=3) (N:=some 40) (v:=?_) (a':=?_) #[Z,Y,Z,Y,Z,Z] rfl rfl (by kernel_rfl) (fun _ _ _ h => h) (Or.inl ⟨by rfl,?_⟩) hHeld ?_ ?_
       rotate_left
       ·
        rintro w' ⟨s0,s1⟩
        go_simp
        with_reducible rfl
       rotate_left
       ·
        simp only [Act.put,lA_,lB_,lC_,i64_w,i32_w]
        rfl
       refine one_ (i:=0) (N:=some 37) #[Y,Y,Z,Y,Z,Z] rfl rfl (by kernel_rfl) (by decide) (fun K hK => ?_)
       refine Kd.R_lit_step (Kd.int .u8) _ 5 ?hg (N:=37) ?hd (xs:=([] : List Int)) (inner:=[]) (ok:=fun _ => True) (okp:=fun _ => True) ?hr ?hp (fun _ hk => hk) trivial (Below.refl _ _) (Nat.le_refl _) (by simp) ?_;(case hd => rfl);(case hg => rfl);(case hr => first|(go_simp;done)|(go_simp;rfl));(case hp => exact (Reps.none _ _))
       intro v229 w52 ho53 hb hg_ hnew_
       clear hg_ hnew_
       (first|rw [← Ny228.out] at ho53|(simp only [Int.reduceToNat] at ho53;rw [← Ny228.out] at ho53))
       replace HO_221001:=zm0_ (zm8_ (zr HO_221001) hb)
       have HO230:=zm0_ (zo1_ ho53 (zn9_ (zl4 HB GE213 GE214 GE215 GE220)))
       replace BK213:=zm0_ (zm5_ (zb BK213) hb)
       replace BK214:=zm0_ (zm5_ (zb BK214) hb)
       replace BK215:=zm0_ (zm5_ (zb BK215) hb)
       replace BK220:=zm0_ (zm5_ (zb BK220) hb)
       replace HB:=zm0_ (zn8_ (zl4 HB GE213 GE214 GE215 GE220) hb)
       clear hb ho53
       obtain ⟨Ao54,co54,eo54⟩:=Kd.R_slice HO230.out
       (first|subst eo54|(injection eo54 with f1_ f2_ f3_;have f4_:=f1_.symm;have f5_:=f3_.symm;clear f1_ f2_ f3_;subst f4_;subst f5_))
       refine hK.out _ _ ⟨(zm6_ BK220.out 0).trans rfl,(zm6_ BK220.out 1).trans rfl⟩ (fun hHeld => ?_)
       clear hK K
       refine norm_ (a':=?_) ?_ ?_
       rotate_left
       ·
        show Act.put _ (some 37) _ = _
        simp only [Act.put,lA_,lB_,lC_,i64_w,i32_w]
        rfl
       refine one_ (i:=2) (N:=some 39) #[Y,Y,Y,Y,Z,Z] rfl rfl (by kernel_rfl) (by decide) (fun K hK => ?_)
       refine goes_ Tryz.func27 (by kernel_rfl) rfl #[.slice Ao54 y228.length co54,.int .i64 7,.int .i64 128,.int .i64 t226] (by rfl) rfl rfl zy ?_
       with_reducible refine (spec_PutPrefix.calls kj38 _ _ y228 7 128 t226 t231 _ ?side1 ?side2 A50.out).mono ?_
       (case side1 => repeat (first|exact (Kd.R_reads' HO230.out).2.2|(with_reducible refine Kd.C_alloc ?_ _)|(with_reducible refine Kd.C_drewN ?_ _)|(with_reducible refine Kd.C_drew ?_)))
       (case side2 => exact (Kd.R_reads' HO230.out).2.1)
       rintro e w55 ⟨v232,rfl,ho0,hb⟩
       refine ⟨_,rfl,?_⟩
       replace HO_221001:=zm0_ (zm8_ (zr HO_221001) hb)
       have HO233:=zm0_ (zo1_ (Kd.R_new' ho0 (Kd.R_lt (zr HO230))) (zn9_ (zl4 HB GE213 GE214 GE215 GE220)))
       replace HO230:=zm0_ (Kd.R_elder' (zr HO230) (Kd.R_base ho0) hb)
       replace BK213:=zm0_ (zm5_ (zb BK213) hb)
       replace BK214:=zm0_ (zm5_ (zb BK214) hb)
       replace BK215:=zm0_ (zm5_ (zb BK215) hb)
       replace BK220:=zm0_ (zm5_ (zb BK220) hb)
       replace HB:=zm0_ (zn8_ (zl4 HB GE213 GE214 GE215 GE220) hb)
       (try clear hb)
       (try clear hb2)
       (try clear hk)
       (try clear hi)
       (try clear ho0)
       refine hK.out _ _ ⟨(zm6_ BK220.out 0).trans rfl,(zm6_ BK220.out 1).trans rfl⟩ (fun hHeld => ?_)
       clear hK K
       refine norm_ (a':=?_) ?_ ?_
       rotate_left
       ·
        show Act.put _ (some 39) _ = _
        simp only [Act.put,lA_,lB_,lC_,i64_w,i32_w]
        rfl
       refine pure_ (i:=4) (N:=some 6) (v:=?_) (a':=?_) #[Y,Y,Y,Y,Y,Z] rfl rfl (by kernel_rfl) (fun _ _ _ h => h) (Or.inl ⟨by rfl,?_⟩) ?_ ?_
       rotate_left
       ·
        intro w'
        go_simp
        with_reducible rfl
       rotate_left
       ·
        simp only [Act.put,lA_,lB_,lC_,i64_w,i32_w]
        rfl
       refine one_ (i:=5) (N:=none) #[Y,Y,Y,Y,Y,Y] rfl rfl (by kernel_rfl) (by decide) (fun K hK => ?_)
       have hs56 : w55.cell? ⟨gb215,0,none⟩ = some (.int .i64 0):=(zm6_ BK215.out 0).trans rfl
       have hfs56:=zm7_ BK215.out 0
       have hns56_0:=NB213_215.out
       have hns56_1:=NB214_215.out
       have hns56_3:=NB220_215.out
       have hms56_0:=NB215_213.out
       have hms56_1:=NB215_214.out
       have hms56_3:=NB215_220.out
       have hs57 : w55.cell? ⟨gb215,1,none⟩ = some (.slice none 0 0):=(zm6_ BK215.out 1).trans rfl
       have hfs57:=zm7_ BK215.out 1
       have hns57_0:=NB213_215.out
       have hns57_1:=NB214_215.out
       have hns57_3:=NB220_215.out
       have hms57_0:=NB215_213.out
       have hms57_1:=NB215_214.out
       have hms57_3:=NB215_220.out
       refine skip_ (w1:=?_) (by rfl) rfl ?_ ?_
       rotate_left
       ·
        go_simp
        rfl
       refine hK.out _ _ ⟨((cell_far (p:=⟨gb215,_,none⟩) NB220_215.out _).trans (((cell_far (p:=⟨gb215,_,none⟩) NB220_215.out _).trans (hHeld.1)))),((cell_far (p:=⟨gb215,_,none⟩) NB220_215.out _).trans (((cell_far (p:=⟨gb215,_,none⟩) NB220_215.out _).trans (hHeld.2))))⟩ (fun hHeld => ?_)
       clear hK K
       refine done_ (by kernel_rfl) ?_
       try go_wp2
       refine bodyPost_ret (results_tc rfl _ _ gb215 32 #[.int .i64 t216,.slice Ao18 t217.length co18] (0,0) _ rfl (by (with_reducible repeat (first|refine k6_ ?_ _|refine k7_ ?_|refine k5_ ?_ _));refine blk_put (cs:=#[.int .i64 t216,.slice none 0 0]) ?_ 1 _ rfl;(with_reducible repeat (first|refine k6_ ?_ _|refine k7_ ?_|refine k5_ ?_ _));refine blk_put (cs:=#[.int .i64 0,.slice none 0 0]) ?_ 0 _ rfl;(with_reducible repeat (first|refine k6_ ?_ _|refine k7_ ?_|refine k5_ ?_ _));exact BK215.out) Tryz.underlying32 rfl (by kernel_rfl)) rfl ?_
       exact ⟨_,_,ze,by (with_reducible repeat (first|apply k1_|apply k2_|apply k3_));exact zo2_ (k4_ (p:=⟨gb215,1,none⟩) (k4_ (p:=⟨gb215,0,none⟩) (Kd.R_types HO233.out BK215.out (by decide)) (fun _ hk => hk.2) (.int .i64 t216)) (fun _ hk => hk.2) (.slice Ao18 t217.length co18)) (fun _ hk => trivial),by (with_reducible repeat (first|apply k1_|apply k2_|apply k3_));exact zo2_ (k4_ (p:=⟨gb215,1,none⟩) (k4_ (p:=⟨gb215,0,none⟩) (Kd.R_types HO_221001.out BK215.out (by decide)) (fun _ hk => hk.2) (.int .i64 t216)) (fun _ hk => hk.2) (.slice Ao18 t217.length co18)) (fun _ hk => trivial),by repeat (first|(with_reducible first|exact HB.out|apply zm3_|apply zm2_|apply zm4_|refine zm1_ ?_ GE213.out|refine zm1_ ?_ GE214.out|refine zm1_ ?_ GE215.out|refine zm1_ ?_ GE220.out)|exact HB.out)⟩
      ·
       replace c49:=Bool.eq_false_iff.mpr c49
       subst c49
       rw [if_neg (show ¬ (false = true) by decide)] at H
       replace H:=zq1_ H
       obtain ⟨⟨t234,t235⟩,A580,H⟩:=H
       replace H : ((spec_PutPrefix.f kj38 (([] : List Int)) t234 t235 t226).bind fun t239 => (if t226 = 0 then ((spec_PutString.f kj38 t239 a1_0).bind fun t242 => (spec_PutField.j2 kj38 a2 t242 a0_0 l0_1 a1_0 a1_1 t216 t217)) else (spec_PutField.j2 kj38 a2 t239 a0_0 l0_1 a1_0 a1_1 t216 t217))) = some (r1,r2,r3):=H
       have A58:=zm0_ A580
       clear A580
       obtain ⟨y236,hy236⟩ : ∃ y_ : List Int,y_ = (([] : List Int)):=⟨_,rfl⟩
       replace H : ((spec_PutPrefix.f kj38 y236 t234 t235 t226).bind fun t239 => (if t226 = 0 then ((spec_PutString.f kj38 t239 a1_0).bind fun t242 => (spec_PutField.j2 kj38 a2 t242 a0_0 l0_1 a1_0 a1_1 t216 t217)) else (spec_PutField.j2 kj38 a2 t239 a0_0 l0_1 a1_0 a1_1 t216 t217))) = some (r1,r2,r3):=by first|(rw [hy236];with_reducible exact H)|(have H2_:=(Option.bind_some _ _).symm.trans H;rw [hy236];with_reducible exact H2_)|(have H2_:=(Option.bind_some _ _).symm.trans H;with_reducible exact H2_)|with_reducible exact H|(rw [hy236];exact H)|exact H
       have Ny236:=zm0_ hy236
       clear hy236
       replace H:=zq1_ H
       obtain ⟨t239,A590,H⟩:=H
       replace H : (if t226 = 0 then ((spec_PutString.f kj38 t239 a1_0).bind fun t242 => (spec_PutField.j2 kj38 a2 t242 a0_0 l0_1 a1_0 a1_1 t216 t217)) else (spec_PutField.j2 kj38 a2 t239 a0_0 l0_1 a1_0 a1_1 t216 t217)) = some (r1,r2,r3):=H
       have A59:=zm0_ A590
       clear A590
       have HC60:=zm0_ H
       clear H
       go_upto_if 52 with (first|((with_reducible refine gate_callee (f:=28) rfl ?_);refine goesL_ (some 43) rfl rfl Tryz.func28 (by kernel_rfl) rfl #[.int .i64 a2] rfl zy ?_;(with_reducible refine (spec_l5Mode.calls a2 t234 t235 _ A58.out).mono ?_);rintro e w' ⟨rfl,⟨nd,rfl⟩⟩;refine ⟨_,rfl,?_⟩)|((with_reducible refine gate_dst (N:=46) rfl ?_);refine Kd.R_lit (Kd.int .u8) _ 5 ?hg (N:=46) ?hd (xs:=([] : List Int)) (inner:=[]) (ok:=fun _ => True) (okp:=fun _ => True) ?hr ?hp (fun _ hk => hk) trivial (Below.refl _ _) (Nat.le_refl _) (by simp) ?_;(case hd => rfl);(case hg => rfl);(case hr => first|(go_simp;done)|(go_simp;rfl));(case hp => exact (Reps.none _ _));intro v237 w61 ho62 hb hg_ hnew_;clear hg_ hnew_;(first|rw [← Ny236.out] at ho62|(simp only [Int.reduceToNat] at ho62;rw [← Ny236.out] at ho62));replace HO_221001:=zm0_ (zm8_ (zr HO_221001) hb);have HO238:=zm0_ (zo1_ ho62 (zn9_ (zl4 HB GE213 GE214 GE215 GE220)));replace BK213:=zm0_ (zm5_ (zb BK213) hb);replace BK214:=zm0_ (zm5_ (zb BK214) hb);replace BK215:=zm0_ (zm5_ (zb BK215) hb);replace BK220:=zm0_ (zm5_ (zb BK220) hb);replace HB:=zm0_ (zn8_ (zl4 HB GE213 GE214 GE215 GE220) hb);clear hb ho62;obtain ⟨Ao63,co63,eo63⟩:=Kd.R_slice HO238.out;subst eo63)|((with_reducible refine gate_callee (f:=27) rfl ?_);refine goesL_ (some 50) rfl rfl Tryz.func27 (by kernel_rfl) rfl #[.slice Ao63 y236.length co63,.int .i64 t234,.int .i64 t235,.int .i64 t226] rfl zy ?_;(with_reducible refine (spec_PutPrefix.calls kj38 _ _ y236 t234 t235 t226 t239 _ ?side1 ?side2 A59.out).mono ?_);(case side1 => repeat (first|exact (Kd.R_reads' HO238.out).2.2|(with_reducible refine Kd.C_alloc ?_ _)|(with_reducible refine Kd.C_drewN ?_ _)|(with_reducible refine Kd.C_drew ?_)));(case side2 => exact (Kd.R_reads' HO238.out).2.1);rintro e w64 ⟨v240,rfl,ho0,hb⟩;refine ⟨_,rfl,?_⟩;replace HO_221001:=zm0_ (zm8_ (zr HO_221001) hb);have HO241:=zm0_ (zo1_ (Kd.R_new' ho0 (Kd.R_lt (zr HO238))) (zn9_ (zl4 HB GE213 GE214 GE215 GE220)));replace HO238:=zm0_ (Kd.R_elder' (zr HO238) (Kd.R_base ho0) hb);replace BK213:=zm0_ (zm5_ (zb BK213) hb);replace BK214:=zm0_ (zm5_ (zb BK214) hb);replace BK215:=zm0_ (zm5_ (zb BK215) hb);replace BK220:=zm0_ (zm5_ (zb BK220) hb);replace HB:=zm0_ (zn8_ (zl4 HB GE213 GE214 GE215 GE220) hb);(try clear hb);(try clear hb2);(try clear hk);(try clear hi);(try clear ho0)))
       (try simp only [Act.put,lA_,lB_,lC_])
       go_cut [13] (fun v13 wc => ∃ (kq : Nat) (x13_59 : List Int),Aside0 (spec_PutField.j2 kq a2 x13_59 a0_0 l0_1 a1_0 a1_1 t216 t217 = some (r1,r2,r3)) ∧ Aside0 (kq ≤ kj38) ∧ Aside0 (Kd.R (Kd.int .u8) 5 wc w.heap.size (fun _ => True) v13 x13_59) ∧ Aside0 (Kd.R k36 36 wc w.heap.size (fun k_ => k_ ≠ gb214) (.slice Ao18 t217.length co18) t217) ∧ Aside0 (wc.heap[gb213]? = some (.cells #[.int .i64 a0_0,(.slice A0_1 l0_1.length c0_1)] 32 (0,0))) ∧ Aside0 (wc.heap[gb214]? = some (.cells #[.string a1_0,.string a1_1] 36 (0,0))) ∧ Aside0 (wc.heap[gb215]? = some (.cells #[.int .i64 0,(.slice none 0 0)] 32 (0,0))) ∧ Aside0 (wc.heap[gb220]? = some (.cells #[.int .i64 t216,(.slice Ao18 t217.length co18)] 32 (0,0))) ∧ Aside0 (Below w.heap.size w wc))
       case first =>
        have H:=HC60.out
        clear HC60
        by_cases c65 : t226 = 0
        ·
         rw [if_pos c65] at H
         have c65b0 : (t226 == 0) = true:=beq_iff_eq.mpr c65
         have c65b1 : (t226 != 0) = false:=bne_eq_false_iff_eq.mpr c65
         clear c65
         (first|rw [c65b0]|(simp only [i64_w,i32_w];rw [c65b0])|rw [c65b1]|skip)
         replace H:=zq1_ H
         obtain ⟨t242,A660,H⟩:=H
         replace H : (spec_PutField.j2 kj38 a2 t242 a0_0 l0_1 a1_0 a1_1 t216 t217) = some (r1,r2,r3):=H
         have A66:=zm0_ A660
         clear A660
         have H':=zm0_ H
         clear H
         have hnb67:=NB214_213.out
         have hnc67:=NB213_214.out
         have hnb68:=NB214_215.out
         have hnc68:=NB215_214.out
         have hnb69:=NB214_220.out
         have hnc69:=NB220_214.out
         have hcz70_0 : w64.cell? ⟨gb214,0,none⟩ = some (.string a1_0):=(zm6_ BK214.out 0).trans rfl
         have hcz70_1 : w64.cell? ⟨gb214,1,none⟩ = some (.string a1_1):=(zm6_ BK214.out 1).trans rfl
         have hfz70_0:=zm7_ BK214.out 0
         have hfz70_1:=zm7_ BK214.out 1
         obtain ⟨Ao71,co71,eo71⟩:=Kd.R_slice HO241.out
         subst eo71
         go_wp2_with (first|((with_reducible refine gate_callee (f:=29) rfl ?_);refine goesL_ (some 56) rfl rfl Tryz.func29 (by kernel_rfl) rfl #[.slice Ao71 t239.length co71,.string a1_0] rfl zy ?_;(with_reducible refine (spec_PutString.calls kj38 _ _ t239 a1_0 t242 _ ?side1 ?side2 A66.out).mono ?_);(case side1 => repeat (first|exact (Kd.R_reads' HO241.out).2.2|(with_reducible refine Kd.C_alloc ?_ _)|(with_reducible refine Kd.C_drewN ?_ _)|(with_reducible refine Kd.C_drew ?_)));(case side2 => exact (Kd.R_reads' HO241.out).2.1);rintro e w72 ⟨v243,rfl,ho0,hb⟩;refine ⟨_,rfl,?_⟩;replace HO_221001:=zm0_ (zm8_ (zr HO_221001) hb);have HO244:=zm0_ (zo1_ (Kd.R_new' (Kd.R_new' ho0 (Kd.R_lt (zr HO238))) (Kd.R_lt (zr HO241))) (zn9_ (zl4 HB GE213 GE214 GE215 GE220)));replace HO238:=zm0_ (Kd.R_elder' (zr HO238) (Kd.R_base ho0) hb);replace HO241:=zm0_ (Kd.R_elder' (zr HO241) (Kd.R_base ho0) hb);replace BK213:=zm0_ (zm5_ (zb BK213) hb);replace BK214:=zm0_ (zm5_ (zb BK214) hb);replace BK215:=zm0_ (zm5_ (zb BK215) hb);replace BK220:=zm0_ (zm5_ (zb BK220) hb);replace HB:=zm0_ (zn8_ (zl4 HB GE213 GE214 GE215 GE220) hb);(try clear hb);(try clear hb2);(try clear hk);(try clear hi);(try clear ho0)))
         go_meet
         case rel => exact ⟨_,(t242),H',⟨by have:=HJ4.out;have:=HJ38.out;first|omega|exact Nat.le_refl _⟩,⟨by (with_reducible repeat (first|apply k1_|apply k2_|apply k3_));exact zo2_ HO244.out (fun _ hk => trivial)⟩,⟨zr HO_221001⟩,⟨zb BK213⟩,⟨zb BK214⟩,⟨zb BK215⟩,⟨zb BK220⟩,⟨zl4 HB GE213 GE214 GE215 GE220⟩⟩
        ·
         rw [if_neg c65] at H
         have c65b0 : (t226 == 0) = false:=beq_eq_false_iff_ne.mpr c65
         have c65b1 : (t226 != 0) = true:=bne_iff_ne.mpr c65
         (first|rw [c65b0]|(simp only [i64_w,i32_w];rw [c65b0])|rw [c65b1]|skip)
         have H':=zm0_ H
         clear H
         go_wp2
         go_meet
         case rel => exact ⟨_,(t239),H',⟨by have:=HJ4.out;have:=HJ38.out;first|omega|exact Nat.le_refl _⟩,⟨by (with_reducible repeat (first|apply k1_|apply k2_|apply k3_));exact zo2_ HO241.out (fun _ hk => trivial)⟩,⟨zr HO_221001⟩,⟨zb BK213⟩,⟨zb BK214⟩,⟨zb BK215⟩,⟨zb BK220⟩,⟨zl4 HB GE213 GE214 GE215 GE220⟩⟩
       case rest =>
        clear HC60
        try clear c1
        try clear c2
        try clear p2
        try clear c3
        try clear c4
        try clear c6
        try clear c7
        try clear c9
        try clear c10
        try clear c14
        try clear c15
        try clear c16
        try clear c20
        try clear c22
        try clear c23
        try clear c24
        try clear c26
        try clear c27
        try clear c28
        try clear c29
        try clear c32
        try clear c40
        try clear c41
        try clear c42
        try clear c44
        try clear c45
        try clear c48
        try clear c49
        try clear c65
        try clear c65b0
        try clear c65b1
        try clear c67
        try clear c68
        try clear c69
        try clear hcz11_0
        try clear hcz11_1
        try clear hcz17_0
        try clear hcz17_1
        try clear hcz25_0
        try clear hcz25_1
        try clear hcz30_0
        try clear hcz30_1
        try clear hcz43_0
        try clear hcz43_1
        try clear hcz46_0
        try clear hcz46_1
        try clear hcz70_0
        try clear hcz70_1
        try clear hfz11_0
        try clear hfz11_1
        try clear hfz17_0
        try clear hfz17_1
        try clear hfz25_0
        try clear hfz25_1
        try clear hfz30_0
        try clear hfz30_1
        try clear hfz43_0
        try clear hfz43_1
        try clear hfz46_0
        try clear hfz46_1
        try clear hfz70_0
        try clear hfz70_1
        try clear p2
        obtain ⟨kq,x13_59,HA,HJ59,HO_13,HO_221001,BK213,BK214,BK215,BK220,HB⟩:=hcut
        cases kq with
        | zero => exact absurd HA.out (by simp [spec_PutField.j2])
        | succ kj59 =>
         have H:=HA.out
         clear HA
         simp only [spec_PutField.j2] at H
         replace H:=zq1_ H
         obtain ⟨t245,A730,H⟩:=H
         replace H : (if a2 = 1 then ((spec_l4Add.f kj59 a0_0 l0_1 a1_0 a1_1).bind fun bt248 => (some (t245,bt248.1,bt248.2))) else (some (t245,t216,t217))) = some (r1,r2,r3):=H
         have A73:=zm0_ A730
         clear A730
         by_cases c74 : a2 = 1
         ·
          rw [if_pos c74] at H
          have c74b0 : (a2 == 1) = true:=beq_iff_eq.mpr c74
          have c74b1 : (a2 != 1) = false:=bne_eq_false_iff_eq.mpr c74
          clear c74
          replace H:=zq1_ H
          obtain ⟨⟨t248,t249⟩,A750,H⟩:=H
          replace H : (some (t245,t248,t249)) = some (r1,r2,r3):=H
          have A75:=zm0_ A750
          clear A750
          simp only [Option.some.injEq,Prod.mk.injEq] at H
          obtain ⟨rfl,rfl,rfl⟩:=H
          have hnb76:=NB214_213.out
          have hnc76:=NB213_214.out
          have hnb77:=NB214_215.out
          have hnc77:=NB215_214.out
          have hnb78:=NB214_220.out
          have hnc78:=NB220_214.out
          have hcz79_0 : wc.cell? ⟨gb214,0,none⟩ = some (.string a1_0):=(zm6_ BK214.out 0).trans rfl
          have hcz79_1 : wc.cell? ⟨gb214,1,none⟩ = some (.string a1_1):=(zm6_ BK214.out 1).trans rfl
          have hfz79_0:=zm7_ BK214.out 0
          have hfz79_1:=zm7_ BK214.out 1
          obtain ⟨Ao80,co80,eo80⟩:=Kd.R_slice HO_13.out
          subst eo80
          go_wp2_with (first|((with_reducible refine gate_callee (f:=29) rfl ?_);refine goesL_ (some 60) rfl rfl Tryz.func29 (by kernel_rfl) rfl #[.slice Ao80 x13_59.length co80,.string a1_1] rfl zy ?_;(with_reducible refine (spec_PutString.calls kj59 _ _ x13_59 a1_1 t245 _ ?side1 ?side2 A73.out).mono ?_);(case side1 => repeat (first|exact (Kd.R_reads' HO_13.out).2.2|(with_reducible refine Kd.C_alloc ?_ _)|(with_reducible refine Kd.C_drewN ?_ _)|(with_reducible refine Kd.C_drew ?_)));(case side2 => exact (Kd.R_reads' HO_13.out).2.1);rintro e w81 ⟨v246,rfl,ho0,hb⟩;refine ⟨_,rfl,?_⟩;replace HO_221001:=zm0_ (zm8_ (zr HO_221001) hb);have HO247:=zm0_ (zo1_ (Kd.R_new' ho0 (Kd.R_lt (zr HO_13))) (zn9_ (zl4 HB GE213 GE214 GE215 GE220)));replace HO_13:=zm0_ (Kd.R_elder' (zr HO_13) (Kd.R_base ho0) hb);replace BK213:=zm0_ (zm5_ (zb BK213) hb);replace BK214:=zm0_ (zm5_ (zb BK214) hb);replace BK215:=zm0_ (zm5_ (zb BK215) hb);replace BK220:=zm0_ (zm5_ (zb BK220) hb);replace HB:=zm0_ (zn8_ (zl4 HB GE213 GE214 GE215 GE220) hb);(try clear hb);(try clear hb2);(try clear hk);(try clear hi);(try clear ho0);have hnb82:=NB213_215.out;have hnc82:=NB215_213.out;have hnb83:=NB213_220.out;have hnc83:=NB220_213.out;have hcz84_0 : w81.cell? ⟨gb213,0,none⟩ = some (.int .i64 a0_0):=(zm6_ BK213.out 0).trans rfl;have hcz84_1 : w81.cell? ⟨gb213,1,none⟩ = some (.slice A0_1 l0_1.length c0_1):=(zm6_ BK213.out 1).trans rfl;have hfz84_0:=zm7_ BK213.out 0;have hfz84_1:=zm7_ BK213.out 1;have hcz85_0 : w81.cell? ⟨gb214,0,none⟩ = some (.string a1_0):=(zm6_ BK214.out 0).trans rfl;have hcz85_1 : w81.cell? ⟨gb214,1,none⟩ = some (.string a1_1):=(zm6_ BK214.out 1).trans rfl;have hfz85_0:=zm7_ BK214.out 0;have hfz85_1:=zm7_ BK214.out 1)|((with_reducible refine gate_callee (f:=30) rfl ?_);refine goesL_ (some 66) rfl rfl Tryz.func30 (by kernel_rfl) rfl #[.agg #[.int .i64 a0_0,.slice A0_1 l0_1.length c0_1],.agg #[.string a1_0,.string a1_1]] rfl zy ?_;(with_reducible refine (spec_l4Add.calls kj59 a0_0 _ _ l0_1 a1_0 a1_1 t248 t249 _ ?side1 ?side2 A75.out).mono ?_);(case side1 => repeat (first|exact (Kd.C_below HR0_1.out HB.out)|(with_reducible refine Kd.C_alloc ?_ _)|(with_reducible refine Kd.C_drewN ?_ _)|(with_reducible refine Kd.C_drew ?_)));(case side2 => exact HC0_1.out);rintro e w86 ⟨v250,rfl,ho0,hb⟩;refine ⟨_,rfl,?_⟩;replace HO_13:=zm0_ (zm8_ (zr HO_13) hb);replace HO247:=zm0_ (zm8_ (zr HO247) hb);have HO251:=zm0_ (zo1_ (Kd.R_newB (Kd.R_new' ho0 (Kd.R_lt (zr HO_221001))) (g:=gb214) (o:=.cells #[.string a1_0,.string a1_1] 36 (0,0)) (zb BK214)) (zn9_ (zl4 HB GE213 GE214 GE215 GE220)));replace HO_221001:=zm0_ (Kd.R_elder' (zr HO_221001) (Kd.R_base ho0) hb);replace BK213:=zm0_ (zm5_ (zb BK213) hb);replace BK214:=zm0_ (zm5_ (zb BK214) hb);replace BK215:=zm0_ (zm5_ (zb BK215) hb);replace BK220:=zm0_ (zm5_ (zb BK220) hb);replace HB:=zm0_ (zn8_ (zl4 HB GE213 GE214 GE215 GE220) hb);(try clear hb);(try clear hb2);(try clear hk);(try clear hi);(try clear ho0);have hnb87:=NB215_220.out;have hnc87:=NB220_215.out;have hcz88_0 : w86.cell? ⟨gb215,0,none⟩ = some (.int .i64 0):=(zm6_ BK215.out 0).trans rfl;have hcz88_1 : w86.cell? ⟨gb215,1,none⟩ = some (.slice none 0 0):=(zm6_ BK215.out 1).trans rfl;have hfz88_0:=zm7_ BK215.out 0;have hfz88_1:=zm7_ BK215.out 1;obtain ⟨Ao89,co89,eo89⟩:=Kd.R_slice HO251.out;subst eo89))
          refine bodyPost_ret (results_tc rfl _ _ gb215 32 #[.int .i64 t248,.slice Ao89 t249.length co89] (0,0) _ rfl (by (with_reducible repeat (first|refine k6_ ?_ _|refine k7_ ?_|refine k5_ ?_ _));refine blk_put (cs:=#[.int .i64 t248,.slice none 0 0]) ?_ 1 _ rfl;(with_reducible repeat (first|refine k6_ ?_ _|refine k7_ ?_|refine k5_ ?_ _));refine blk_put (cs:=#[.int .i64 0,.slice none 0 0]) ?_ 0 _ rfl;(with_reducible repeat (first|refine k6_ ?_ _|refine k7_ ?_|refine k5_ ?_ _));exact BK215.out) Tryz.underlying32 rfl (by kernel_rfl)) rfl ?_
          exact ⟨_,_,ze,by (with_reducible repeat (first|apply k1_|apply k2_|apply k3_));exact zo2_ (k4_ (p:=⟨gb215,1,none⟩) (k4_ (p:=⟨gb215,0,none⟩) (Kd.R_types HO247.out BK215.out (by decide)) (fun _ hk => hk.2) (.int .i64 t248)) (fun _ hk => hk.2) (.slice Ao89 t249.length co89)) (fun _ hk => trivial),by (with_reducible repeat (first|apply k1_|apply k2_|apply k3_));exact zo2_ (k4_ (p:=⟨gb215,1,none⟩) (k4_ (p:=⟨gb215,0,none⟩) (Kd.R_types HO251.out BK215.out (by decide)) (fun _ hk => hk.2) (.int .i64 t248)) (fun _ hk => hk.2) (.slice Ao89 t249.length co89)) (fun _ hk => trivial),by repeat (first|(with_reducible first|exact HB.out|apply zm3_|apply zm2_|apply zm4_|refine zm1_ ?_ GE213.out|refine zm1_ ?_ GE214.out|refine zm1_ ?_ GE215.out|refine zm1_ ?_ GE220.out)|exact HB.out)⟩
         ·
          rw [if_neg c74] at H
          have c74b0 : (a2 == 1) = false:=beq_eq_false_iff_ne.mpr c74
          have c74b1 : (a2 != 1) = true:=bne_iff_ne.mpr c74
          simp only [Option.some.injEq,Prod.mk.injEq] at H
          obtain ⟨rfl,rfl,rfl⟩:=H
          have hnb90:=NB214_213.out
          have hnc90:=NB213_214.out
          have hnb91:=NB214_215.out
          have hnc91:=NB215_214.out
          have hnb92:=NB214_220.out
          have hnc92:=NB220_214.out
          have hcz93_0 : wc.cell? ⟨gb214,0,none⟩ = some (.string a1_0):=(zm6_ BK214.out 0).trans rfl
          have hcz93_1 : wc.cell? ⟨gb214,1,none⟩ = some (.string a1_1):=(zm6_ BK214.out 1).trans rfl
          have hfz93_0:=zm7_ BK214.out 0
          have hfz93_1:=zm7_ BK214.out 1
          obtain ⟨Ao94,co94,eo94⟩:=Kd.R_slice HO_13.out
          subst eo94
          try go_wp2_with (first|((with_reducible refine gate_callee (f:=29) rfl ?_);refine goesL_ (some 60) rfl rfl Tryz.func29 (by kernel_rfl) rfl #[.slice Ao94 x13_59.length co94,.string a1_1] rfl zy ?_;(with_reducible refine (spec_PutString.calls kj59 _ _ x13_59 a1_1 t245 _ ?side1 ?side2 A73.out).mono ?_);(case side1 => repeat (first|exact (Kd.R_reads' HO_13.out).2.2|(with_reducible refine Kd.C_alloc ?_ _)|(with_reducible refine Kd.C_drewN ?_ _)|(with_reducible refine Kd.C_drew ?_)));(case side2 => exact (Kd.R_reads' HO_13.out).2.1);rintro e w95 ⟨v246,rfl,ho0,hb⟩;refine ⟨_,rfl,?_⟩;replace HO_221001:=zm0_ (zm8_ (zr HO_221001) hb);have HO247:=zm0_ (zo1_ (Kd.R_new' ho0 (Kd.R_lt (zr HO_13))) (zn9_ (zl4 HB GE213 GE214 GE215 GE220)));replace HO_13:=zm0_ (Kd.R_elder' (zr HO_13) (Kd.R_base ho0) hb);replace BK213:=zm0_ (zm5_ (zb BK213) hb);replace BK214:=zm0_ (zm5_ (zb BK214) hb);replace BK215:=zm0_ (zm5_ (zb BK215) hb);replace BK220:=zm0_ (zm5_ (zb BK220) hb);replace HB:=zm0_ (zn8_ (zl4 HB GE213 GE214 GE215 GE220) hb);(try clear hb);(try clear hb2);(try clear hk);(try clear hi);(try clear ho0)))
          replace HO_13:=zm0_ (k3_ HO_13.out)
          replace HO_221001:=zm0_ (k3_ HO_221001.out)
          replace HO247:=zm0_ (k3_ HO247.out)
          replace BK213:=zm0_ (k7_ BK213.out)
          replace BK214:=zm0_ (k7_ BK214.out)
          replace BK215:=zm0_ (k7_ BK215.out)
          replace BK220:=zm0_ (k7_ BK220.out)
          replace HB:=zm0_ (zm4_ HB.out)
          refine start_ (n:=4) (S:=fun w' => w'.cell? ⟨gb220,0,none⟩ = some (.int .i64 t216) ∧ w'.cell? ⟨gb220,1,none⟩ = some (.slice Ao18 t217.length co18)) (ds:=[]) #[Z,Z,Z,Z] (by kernel_rfl) rfl rfl ⟨(zm6_ BK220.out 0).trans rfl,(zm6_ BK220.out 1).trans rfl⟩ (fun hHeld => ?_)
          generalize w95.drew = w96 at HO_13 HO_221001 HO247 BK213 BK214 BK215 BK220 HB hHeld ⊢
          refine pure_ (i:=0) (N:=some 67) (v:=?_) (a':=?_) #[Y,Z,Z,Z] rfl rfl (by kernel_rfl) (fun _ _ _ h => h) (Or.inl ⟨by rfl,?_⟩) ?_ ?_
          rotate_left
          ·
           intro w'
           go_simp
           with_reducible rfl
          rotate_left
          ·
           simp only [Act.put,lA_,lB_,lC_,i64_w,i32_w]
           rfl
          refine pure_ (i:=2) (N:=some 6) (v:=?_) (a':=?_) #[Y,Z,Y,Z] rfl rfl (by kernel_rfl) (fun _ _ _ h => h) (Or.inl ⟨by rfl,?_⟩) ?_ ?_
          rotate_left
          ·
           intro w'
           go_simp
           with_reducible rfl
          rotate_left
          ·
           simp only [Act.put,lA_,lB_,lC_,i64_w,i32_w]
           rfl
          refine take_ (i:=1) (N:=some 68) (v:=?_) (a':=?_) #[Y,Y,Y,Z] rfl rfl (by kernel_rfl) (fun _ _ _ h => h) (Or.inl ⟨by rfl,?_⟩) hHeld ?_ ?_
          rotate_left
          ·
           rintro w' ⟨s0,s1⟩
           go_simp
           with_reducible rfl
          rotate_left
          ·
           simp only [Act.put,lA_,lB_,lC_,i64_w,i32_w]
           rfl
          refine one_ (i:=3) (N:=none) #[Y,Y,Y,Y] rfl rfl (by kernel_rfl) (by decide) (fun K hK => ?_)
          have hs97 : w96.cell? ⟨gb215,0,none⟩ = some (.int .i64 0):=(zm6_ BK215.out 0).trans rfl
          have hfs97:=zm7_ BK215.out 0
          have hns97_0:=NB213_215.out
          have hns97_1:=NB214_215.out
          have hns97_3:=NB220_215.out
          have hms97_0:=NB215_213.out
          have hms97_1:=NB215_214.out
          have hms97_3:=NB215_220.out
          have hs98 : w96.cell? ⟨gb215,1,none⟩ = some (.slice none 0 0):=(zm6_ BK215.out 1).trans rfl
          have hfs98:=zm7_ BK215.out 1
          have hns98_0:=NB213_215.out
          have hns98_1:=NB214_215.out
          have hns98_3:=NB220_215.out
          have hms98_0:=NB215_213.out
          have hms98_1:=NB215_214.out
          have hms98_3:=NB215_220.out
          refine skip_ (w1:=?_) (by rfl) rfl ?_ ?_
          rotate_left
          ·
           go_simp
           rfl
          refine hK.out _ _ ⟨((cell_far (p:=⟨gb215,_,none⟩) NB220_215.out _).trans (((cell_far (p:=⟨gb215,_,none⟩) NB220_215.out _).trans (hHeld.1)))),((cell_far (p:=⟨gb215,_,none⟩) NB220_215.out _).trans (((cell_far (p:=⟨gb215,_,none⟩) NB220_215.out _).trans (hHeld.2))))⟩ (fun hHeld => ?_)
          clear hK K
          refine done_ (by kernel_rfl) ?_
          try go_wp2
          refine bodyPost_ret (results_tc rfl _ _ gb215 32 #[.int .i64 t216,.slice Ao18 t217.length co18] (0,0) _ rfl (by (with_reducible repeat (first|refine k6_ ?_ _|refine k7_ ?_|refine k5_ ?_ _));refine blk_put (cs:=#[.int .i64 t216,.slice none 0 0]) ?_ 1 _ rfl;(with_reducible repeat (first|refine k6_ ?_ _|refine k7_ ?_|refine k5_ ?_ _));refine blk_put (cs:=#[.int .i64 0,.slice none 0 0]) ?_ 0 _ rfl;(with_reducible repeat (first|refine k6_ ?_ _|refine k7_ ?_|refine k5_ ?_ _));exact BK215.out) Tryz.underlying32 rfl (by kernel_rfl)) rfl ?_
          exact ⟨_,_,ze,by (with_reducible repeat (first|apply k1_|apply k2_|apply k3_));exact zo2_ (k4_ (p:=⟨gb215,1,none⟩) (k4_ (p:=⟨gb215,0,none⟩) (Kd.R_types HO247.out BK215.out (by decide)) (fun _ hk => hk.2) (.int .i64 t216)) (fun _ hk => hk.2) (.slice Ao18 t217.length co18)) (fun _ hk => trivial),by (with_reducible repeat (first|apply k1_|apply k2_|apply k3_));exact zo2_ (k4_ (p:=⟨gb215,1,none⟩) (k4_ (p:=⟨gb215,0,none⟩) (Kd.R_types HO_221001.out BK215.out (by decide)) (fun _ hk => hk.2) (.int .i64 t216)) (fun _ hk => hk.2) (.slice Ao18 t217.length co18)) (fun _ hk => trivial),by repeat (first|(with_reducible first|exact HB.out|apply zm3_|apply zm2_|apply zm4_|refine zm1_ ?_ GE213.out|refine zm1_ ?_ GE214.out|refine zm1_ ?_ GE215.out|refine zm1_ ?_ GE220.out)|exact HB.out)⟩
end Go.Proofs.YthflimnpiglgbaaGreatDoor.A
end
section
namespace Go.Proofs.YthflimnpiglgbaaGreatDoor.A
open Go.RowKit Go.Proofs.YthflimnpiglgbaaGreatDoorW.PrintWords Go.Proofs.YthflimnpiglgbaaGreatDoorW.PrintLast Go.Proofs.YthflimnpiglgbaaGreatDoorW.PrintMore
attribute [local go_sem] max2_int min2_int max_two min_two max_three min_three max_four min_four   -- for this text's walks alone
set_option linter.unusedVariables false
set_option linter.unusedSimpArgs false

def spec_PutFields.l0 : Nat → List (S36) → List Int → Int → Int → List (S36) → Option (List Int × Int × (List (S36)))
 | 0,_,_,_,_,_ => none
 | k + 1,x1,x6,x8,x459000,x459001 => if x8 < (x1.length : Int) then (if 0 ≤ x8 then (if ((rd_T36 x1 x8).f0).toList = ([97,117,116,104,111,114,105,122,97,116,105,111,110] : List UInt8) then ((spec_PutField.f k x459000 x459001 ((rd_T36 x1 x8).f0) ((rd_T36 x1 x8).f1) 3).bind fun bt461 => (if x6.length + bt461.1.length < 140737488355328 then (spec_PutFields.l0 k x1 (x6 ++ bt461.1) (wrap64 (x8 + 1)) bt461.2.1 bt461.2.2) else (none))) else ((spec_PutField.f k x459000 x459001 ((rd_T36 x1 x8).f0) ((rd_T36 x1 x8).f1) 1).bind fun bt473 => (if x6.length + bt473.1.length < 140737488355328 then (spec_PutFields.l0 k x1 (x6 ++ bt473.1) (wrap64 (x8 + 1)) bt473.2.1 bt473.2.2) else (none)))) else (none)) else (some (x6,x459000,x459001))
def spec_PutFields.f (k : Nat) (a0_0 : Int) (l0_1 : List (S36)) (l1 : List (S36)) : Option (List Int × Int × (List (S36))):=(spec_l4Copy.f a0_0 l0_1).bind fun bt454 => (spec_PutFields.l0 k l1 (([] : List Int)) 0 bt454.1 bt454.2)
theorem spec_PutFields.mono_l : ∀ k,(∀ y0 y1 y2 y3 y4,LeO (spec_PutFields.l0 k y0 y1 y2 y3 y4) (spec_PutFields.l0 (k + 1) y0 y1 y2 y3 y4))
 | 0 => fun _ _ _ _ _ r h => by simp [spec_PutFields.l0] at h
 | k + 1 => by
  have ih0:=spec_PutFields.mono_l k
  ·
   intro y0 y1 y2 y3 y4
   unfold spec_PutFields.l0
   repeat' first
   | (with_reducible exact ih0 _ _ _ _ _)
   | (with_reducible exact spec_PutField.mono _ _ _ _ _ _)
   | (with_reducible exact LeO.refl _)
   | (with_reducible exact LeO.none _)
   | (with_reducible refine LeO.ite ?_ ?_)
   | (with_reducible refine LeO.bind ?_ (fun _ => ?_))
   | exact ih0 _ _ _ _ _
   | exact spec_PutField.mono _ _ _ _ _ _
   | exact LeO.none _
   | refine LeO.ite ?_ ?_
   | refine LeO.bind ?_ (fun _ => ?_)
theorem spec_PutFields.mono : ∀ a0 a1 a2 k,LeO (spec_PutFields.f k a0 a1 a2) (spec_PutFields.f (k + 1) a0 a1 a2):=by
 intro a0 a1 a2 k
 have ih0:=spec_PutFields.mono_l k
 unfold spec_PutFields.f
 repeat' first
  | (with_reducible exact ih0 _ _ _ _ _)
  | (with_reducible exact spec_PutField.mono _ _ _ _ _ _)
  | (with_reducible exact LeO.refl _)
  | (with_reducible exact LeO.none _)
  | (with_reducible refine LeO.ite ?_ ?_)
  | (with_reducible refine LeO.bind ?_ (fun _ => ?_))
  | exact ih0 _ _ _ _ _
  | exact spec_PutField.mono _ _ _ _ _ _
  | exact LeO.none _
  | refine LeO.ite ?_ ?_
  | refine LeO.bind ?_ (fun _ => ?_)
def spec_PutFields.T9 : Bool × List (List Nat × List Nat):=(true,[([],[]),([],[]),([],[]),([1,2],[1,2]),([3],[3]),([],[]),([0,4,5],[0,4,5]),([6],[6]),([7],[7]),([7],[7]),([],[]),([8,6,0,1,2,3,4,5,6,7,8,10],[8]),([10,9,11,0,1,2,3,4,5,6,7,8,9,10,11],[9,10])])
def spec_PutFields.B9 : List Nat:=[0,0,0,6,14,0,63,127,255,255,0,1535,4095]
theorem spec_PutFields.tab9 : rtab .any (opsOf Tryz.f18 9) = spec_PutFields.T9:=by kernel_rfl
theorem spec_PutFields.bits9 : waitsOk spec_PutFields.T9.2 spec_PutFields.B9 = true:=by kernel_rfl
set_option maxHeartbeats 8000000 in
set_option maxRecDepth 100000 in
theorem spec_PutFields.calls (k : Nat) (a0_0 : Int) (A0_1 : Option Addr) (c0_1 : Nat) (l0_1 : List (S36)) (A1 : Option Addr) (c1 : Nat) (l1 : List (S36)) (r1 : List Int) (r2 : Int) (r3 : List (S36)) (w : World) (hr0_1 : Kd.C k36 w A0_1 l0_1.length l0_1) (hc0_1 : l0_1.length ≤ c0_1) (hr1 : Kd.C k36 w A1 l1.length l1) (hc1 : l1.length ≤ c1) (h : spec_PutFields.f k a0_0 l0_1 l1 = some (r1,r2,r3)) :
 Calls Tryz.prog 18 #[.agg #[.int .i64 a0_0,.slice A0_1 l0_1.length c0_1],.slice A1 l1.length c1] w fun e w' => ∃ v0_ v2_ : Value,e = .returned (.tuple #[v0_,.agg #[.int .i64 r2,v2_]]) ∧ Kd.R (Kd.int .u8) 5 w' w.heap.size (fun _ => True) v0_ r1 ∧ Kd.R k36 36 w' w.heap.size (fun _ => True) v2_ r3 ∧ Below w.heap.size w w':=by
 have hu32:=Tryz.underlying32
 have hu36:=Tryz.underlying36
 have HR0_1:=zm0_ hr0_1
 have HC0_1:=zm0_ hc0_1
 clear hr0_1 hc0_1
 have HR1:=zm0_ hr1
 have HC1:=zm0_ hc1
 clear hr1 hc1
 have HB:=zm0_ (Below.refl w.heap.size w)
 have H : ((spec_l4Copy.f a0_0 l0_1).bind fun bt454 => (spec_PutFields.l0 k l1 (([] : List Int)) 0 bt454.1 bt454.2)) = some (r1,r2,r3):=h
 clear h
 obtain ⟨y451,hy451⟩ : ∃ y_ : List Int,y_ = (([] : List Int)):=⟨_,rfl⟩
 replace H : ((spec_l4Copy.f a0_0 l0_1).bind fun bt454 => (spec_PutFields.l0 k l1 y451 0 bt454.1 bt454.2)) = some (r1,r2,r3):=by first|(rw [hy451];with_reducible exact H)|(have H2_:=(Option.bind_some _ _).symm.trans H;rw [hy451];with_reducible exact H2_)|(have H2_:=(Option.bind_some _ _).symm.trans H;with_reducible exact H2_)|with_reducible exact H|(rw [hy451];exact H)|exact H
 have Ny451:=zm0_ hy451
 clear hy451
 replace H:=zq1_ H
 obtain ⟨⟨t454,t455⟩,A30,H⟩:=H
 replace H : (spec_PutFields.l0 k l1 y451 0 t454 t455) = some (r1,r2,r3):=H
 have A3:=zm0_ A30
 clear A30
 have H':=zm0_ H
 clear H
 go_enter Tryz.func18,Tryz.ntmps18
 go_wp2_with (first|((with_reducible refine gate_dst (N:=2) rfl ?_);refine box_event ?hg (N:=2) ?hd (cs:=#[.int .i64 a0_0,.slice A0_1 l0_1.length c0_1]) (t:=32) ?hr ?_;(case hd => rfl);(case hg => rfl);(case hr => first|(go_simp;done)|(go_simp;rfl));intro gb449 hg w4 hbox hb;have BK449:=zm0_ (hbox);have GW449:=zm0_ ((by rw [hg];exact (zn9_ (zl HB)) : w.heap.size ≤ gb449));have GE449:=zm0_ ((by rw [hg];exact (zn9_ (zl HB)) : w.heap.size ≤ gb449));replace HB:=zm0_ (zn8_ (zl HB) hb);clear hb hbox hg)|((with_reducible refine gate_dst (N:=5) rfl ?_);refine box_event ?hg (N:=5) ?hd (cs:=#[.int .i64 0,.slice none 0 0]) (t:=32) ?hr ?_;(case hd => rfl);(case hg => rfl);(case hr => first|(go_simp;done)|(go_simp;rfl));intro gb450 hg w5 hbox hb;have BK450:=zm0_ (hbox);have GW450:=zm0_ ((by rw [hg];exact (zn9_ (zl1 HB GE449)) : w.heap.size ≤ gb450));have GE450:=zm0_ ((by rw [hg];exact (zn9_ (zl1 HB GE449)) : w.heap.size ≤ gb450));replace HB:=zm0_ (zn8_ (zl1 HB GE449) hb);have NB449_450:=zm0_ ((by rw [hg];exact Nat.ne_of_lt (zo3_ (g:=gb449) (o:=.cells #[.int .i64 a0_0,.slice A0_1 l0_1.length c0_1] 32 (0,0)) (zb BK449)) : gb449 ≠ gb450));have NB450_449:=zm0_ ((by rw [hg];exact Nat.ne_of_gt (zo3_ (g:=gb449) (o:=.cells #[.int .i64 a0_0,.slice A0_1 l0_1.length c0_1] 32 (0,0)) (zb BK449)) : gb450 ≠ gb449));replace BK449:=zm0_ (zm5_ (zb BK449) hb);clear hb hbox hg)|((with_reducible refine gate_dst (N:=12) rfl ?_);refine Kd.R_lit (Kd.int .u8) _ 5 ?hg (N:=12) ?hd (xs:=([] : List Int)) (inner:=[]) (ok:=fun _ => True) (okp:=fun _ => True) ?hr ?hp (fun _ hk => hk) trivial (Below.refl _ _) (Nat.le_refl _) (by simp) ?_;(case hd => rfl);(case hg => rfl);(case hr => first|(go_simp;done)|(go_simp;rfl));(case hp => exact (Reps.none _ _));intro v452 w6 ho7 hb hg_ hnew_;clear hg_ hnew_;(first|rw [← Ny451.out] at ho7|(simp only [Int.reduceToNat] at ho7;rw [← Ny451.out] at ho7));have HO453:=zm0_ (zo1_ ho7 (zn9_ (zl2 HB GE449 GE450)));replace BK449:=zm0_ (zm5_ (zb BK449) hb);replace BK450:=zm0_ (zm5_ (zb BK450) hb);replace HB:=zm0_ (zn8_ (zl2 HB GE449 GE450) hb);clear hb ho7;have hnb8:=NB449_450.out;have hnc8:=NB450_449.out;have hcz9_0 : w6.cell? ⟨gb449,0,none⟩ = some (.int .i64 a0_0):=(zm6_ BK449.out 0).trans rfl;have hcz9_1 : w6.cell? ⟨gb449,1,none⟩ = some (.slice A0_1 l0_1.length c0_1):=(zm6_ BK449.out 1).trans rfl;have hfz9_0:=zm7_ BK449.out 0;have hfz9_1:=zm7_ BK449.out 1)|((with_reducible refine gate_callee (f:=23) rfl ?_);refine goesL_ (some 14) rfl rfl Tryz.func23 (by kernel_rfl) rfl #[.agg #[.int .i64 a0_0,.slice A0_1 l0_1.length c0_1]] rfl zy ?_;(with_reducible refine (spec_l4Copy.calls a0_0 _ _ l0_1 t454 t455 _ ?side1 ?side2 A3.out).mono ?_);(case side1 => repeat (first|exact (Kd.C_below HR0_1.out HB.out)|(with_reducible refine Kd.C_alloc ?_ _)|(with_reducible refine Kd.C_drewN ?_ _)|(with_reducible refine Kd.C_drew ?_)));(case side2 => exact HC0_1.out);rintro e w10 ⟨v456,rfl,ho0,hb⟩;refine ⟨_,rfl,?_⟩;replace HO453:=zm0_ (zm8_ (zr HO453) hb);have HO457:=zm0_ (zo1_ ho0 (zn9_ (zl2 HB GE449 GE450)));replace BK449:=zm0_ (zm5_ (zb BK449) hb);replace BK450:=zm0_ (zm5_ (zb BK450) hb);replace HB:=zm0_ (zn8_ (zl2 HB GE449 GE450) hb);(try clear hb);(try clear hb2);(try clear hk);(try clear hi);(try clear ho0))|((with_reducible refine gate_dst (N:=7) rfl ?_);refine box_event ?hg (N:=7) ?hd (cs:=#[.int .i64 0,.slice none 0 0]) (t:=32) ?hr ?_;(case hd => rfl);(case hg => rfl);(case hr => first|(go_simp;done)|(go_simp;rfl));intro gb458 hg w11 hbox hb;replace HO453:=zm0_ (zm8_ (zr HO453) hb);replace HO457:=zm0_ (zm8_ (zr HO457) hb);have BK458:=zm0_ (hbox);have GW458:=zm0_ ((by rw [hg];exact (zn9_ (zl2 HB GE449 GE450)) : w.heap.size ≤ gb458));have GE458:=zm0_ ((by rw [hg];exact (zn9_ (zl2 HB GE449 GE450)) : w.heap.size ≤ gb458));replace HB:=zm0_ (zn8_ (zl2 HB GE449 GE450) hb);have NB449_458:=zm0_ ((by rw [hg];exact Nat.ne_of_lt (zo3_ (g:=gb449) (o:=.cells #[.int .i64 a0_0,.slice A0_1 l0_1.length c0_1] 32 (0,0)) (zb BK449)) : gb449 ≠ gb458));have NB458_449:=zm0_ ((by rw [hg];exact Nat.ne_of_gt (zo3_ (g:=gb449) (o:=.cells #[.int .i64 a0_0,.slice A0_1 l0_1.length c0_1] 32 (0,0)) (zb BK449)) : gb458 ≠ gb449));replace BK449:=zm0_ (zm5_ (zb BK449) hb);have NB450_458:=zm0_ ((by rw [hg];exact Nat.ne_of_lt (zo3_ (g:=gb450) (o:=.cells #[.int .i64 0,.slice none 0 0] 32 (0,0)) (zb BK450)) : gb450 ≠ gb458));have NB458_450:=zm0_ ((by rw [hg];exact Nat.ne_of_gt (zo3_ (g:=gb450) (o:=.cells #[.int .i64 0,.slice none 0 0] 32 (0,0)) (zb BK450)) : gb458 ≠ gb450));replace BK450:=zm0_ (zm5_ (zb BK450) hb);clear hb hbox hg;have hnb12:=NB458_449.out;have hnc12:=NB449_458.out;have hnb13:=NB458_450.out;have hnc13:=NB450_458.out;have hcz14_0 : w11.cell? ⟨gb458,0,none⟩ = some (.int .i64 0):=(zm6_ BK458.out 0).trans rfl;have hcz14_1 : w11.cell? ⟨gb458,1,none⟩ = some (.slice none 0 0):=(zm6_ BK458.out 1).trans rfl;have hfz14_0:=zm7_ BK458.out 0;have hfz14_1:=zm7_ BK458.out 1;obtain ⟨Ao15,co15,eo15⟩:=Kd.R_slice HO457.out;subst eo15))
 go_loopg [6,8] k (fun kq v6 v8 w' => ∃ (x6_1 : List Int) (x8_1 : Int) (x459000_1 : Int) (x459001_1 : List (S36)) (u459001 : Value),v8 = .int .i64 x8_1 ∧ Aside0 (spec_PutFields.l0 kq l1 x6_1 x8_1 x459000_1 x459001_1 = some (r1,r2,r3)) ∧ Aside0 (kq ≤ k) ∧ Aside0 (Kd.R (Kd.int .u8) 5 w' w.heap.size (fun _ => True) v6 x6_1) ∧ Aside0 (Kd.R k36 36 w' w.heap.size (fun _ => True) u459001 x459001_1) ∧ Aside0 (w'.heap[gb449]? = some (.cells #[.int .i64 a0_0,(.slice A0_1 l0_1.length c0_1)] 32 (0,0))) ∧ Aside0 (w'.heap[gb450]? = some (.cells #[.int .i64 0,(.slice none 0 0)] 32 (0,0))) ∧ Aside0 (w'.heap[gb458]? = some (.cells #[.int .i64 x459000_1,u459001] 32 (0,0))) ∧ Aside0 (Below w.heap.size w w'))
 case atStart => exact ⟨(y451),(0),(t454),(t455),(.slice Ao15 t455.length co15),zz,H',⟨Nat.le_refl _⟩,⟨by (with_reducible repeat (first|apply k1_|apply k2_|apply k3_));exact zo2_ (k4_ (p:=⟨gb458,1,none⟩) (k4_ (p:=⟨gb458,0,none⟩) (Kd.R_types HO453.out BK458.out (by decide)) (fun _ hk => hk.2) (.int .i64 t454)) (fun _ hk => hk.2) (.slice Ao15 t455.length co15)) (fun _ hk => trivial)⟩,⟨by (with_reducible repeat (first|apply k1_|apply k2_|apply k3_));exact zo2_ (k4_ (p:=⟨gb458,1,none⟩) (k4_ (p:=⟨gb458,0,none⟩) (Kd.R_types HO457.out BK458.out (by decide)) (fun _ hk => hk.2) (.int .i64 t454)) (fun _ hk => hk.2) (.slice Ao15 t455.length co15)) (fun _ hk => trivial)⟩,⟨by (with_reducible repeat (first|refine k6_ ?_ _|refine k7_ ?_|refine k5_ ?_ _));refine blk_far ?_ NB449_458.out _;(with_reducible repeat (first|refine k6_ ?_ _|refine k7_ ?_|refine k5_ ?_ _));refine blk_far ?_ NB449_458.out _;(with_reducible repeat (first|refine k6_ ?_ _|refine k7_ ?_|refine k5_ ?_ _));exact BK449.out⟩,⟨by (with_reducible repeat (first|refine k6_ ?_ _|refine k7_ ?_|refine k5_ ?_ _));refine blk_far ?_ NB450_458.out _;(with_reducible repeat (first|refine k6_ ?_ _|refine k7_ ?_|refine k5_ ?_ _));refine blk_far ?_ NB450_458.out _;(with_reducible repeat (first|refine k6_ ?_ _|refine k7_ ?_|refine k5_ ?_ _));exact BK450.out⟩,⟨by (with_reducible repeat (first|refine k6_ ?_ _|refine k7_ ?_|refine k5_ ?_ _));refine blk_put (cs:=#[.int .i64 t454,.slice none 0 0]) ?_ 1 _ rfl;(with_reducible repeat (first|refine k6_ ?_ _|refine k7_ ?_|refine k5_ ?_ _));refine blk_put (cs:=#[.int .i64 0,.slice none 0 0]) ?_ 0 _ rfl;(with_reducible repeat (first|refine k6_ ?_ _|refine k7_ ?_|refine k5_ ?_ _));exact BK458.out⟩,⟨zl3 HB GE449 GE450 GE458⟩⟩
 case round =>
  clear H'
  try clear c1
  try clear c2
  try clear p2
  try clear c8
  try clear c12
  try clear c13
  try clear hcz14_0
  try clear hcz14_1
  try clear hcz9_0
  try clear hcz9_1
  try clear hfz14_0
  try clear hfz14_1
  try clear hfz9_0
  try clear hfz9_1
  obtain ⟨x6_1,x8_1,x459000_1,x459001_1,u459001,rfl,HA,HK1,HO_6,HO_459001,BK449,BK450,BK458,HB⟩:=hrel
  cases gk with
  | zero => exact absurd HA.out (by simp [spec_PutFields.l0])
  | succ k1 =>
   have H:=HA.out
   clear HA
   simp only [spec_PutFields.l0] at H
   by_cases c16 : x8_1 < (l1.length : Int)
   ·
    rw [if_pos c16] at H
    have c16b0 : decide (x8_1 < (l1.length : Int)) = true:=decide_eq_true c16
    clear c16
    by_cases c17 : 0 ≤ x8_1
    ·
     rw [if_pos c17] at H
     have c17b0 : decide (0 ≤ x8_1) = true:=decide_eq_true c17
     clear c17
     by_cases c18 : ((rd_T36 l1 x8_1).f0).toList = ([97,117,116,104,111,114,105,122,97,116,105,111,110] : List UInt8)
     ·
      rw [if_pos c18] at H
      have c18b0 : (((rd_T36 l1 x8_1).f0).toList == ([97,117,116,104,111,114,105,122,97,116,105,111,110] : List UInt8)) = true:=beq_iff_eq.mpr c18
      have c18b1 : (((rd_T36 l1 x8_1).f0).toList != ([97,117,116,104,111,114,105,122,97,116,105,111,110] : List UInt8)) = false:=bne_eq_false_iff_eq.mpr c18
      clear c18
      replace H:=zq1_ H
      obtain ⟨⟨t461,t464,t465⟩,A190,H⟩:=H
      replace H : (if x6_1.length + t461.length < 140737488355328 then (spec_PutFields.l0 k1 l1 (x6_1 ++ t461) (wrap64 (x8_1 + 1)) t464 t465) else (none)) = some (r1,r2,r3):=H
      have A19:=zm0_ A190
      clear A190
      by_cases c20 : x6_1.length + t461.length < 140737488355328
      ·
       rw [if_pos c20] at H
       have LMc20:=zm0_ c20
       clear c20
       obtain ⟨y469,hy469⟩ : ∃ y_ : List Int,y_ = (x6_1 ++ t461):=⟨_,rfl⟩
       replace H : (spec_PutFields.l0 k1 l1 y469 (wrap64 (x8_1 + 1)) t464 t465) = some (r1,r2,r3):=by first|(rw [hy469];with_reducible exact H)|(have H2_:=(Option.bind_some _ _).symm.trans H;rw [hy469];with_reducible exact H2_)|(have H2_:=(Option.bind_some _ _).symm.trans H;with_reducible exact H2_)|with_reducible exact H|(rw [hy469];exact H)|exact H
       have Ny469:=zm0_ hy469
       clear hy469
       have H':=zm0_ H
       clear H
       have p459 : 0 ≤ (x8_1 : Int):=of_decide_eq_true (by first|(with_reducible assumption)|assumption)
       have q459 : x8_1 < (l1.length : Int):=of_decide_eq_true (by first|(with_reducible assumption)|assumption)
       obtain ⟨ad459,e459,hx459_0,hx459_1⟩:=at_T36 HR1.out x8_1 p459 q459
       cases e459
       replace hx459_0:=(HB.out.cell (zq2_ w _ hx459_0)).trans hx459_0
       replace hx459_1:=(HB.out.cell (zq2_ w _ hx459_1)).trans hx459_1
       replace p459:=eq_true p459
       replace q459:=eq_true q459
       obtain ⟨Ao21,co21,eo21⟩:=Kd.R_slice HO_459001.out
       subst eo21
       try go_wp2
       replace HO_6:=zm0_ (k3_ HO_6.out)
       replace HO_459001:=zm0_ (k3_ HO_459001.out)
       replace BK449:=zm0_ (k7_ BK449.out)
       replace BK450:=zm0_ (k7_ BK450.out)
       replace BK458:=zm0_ (k7_ BK458.out)
       replace HB:=zm0_ (zm4_ HB.out)
       have p460 : 0 ≤ (x8_1 : Int):=of_decide_eq_true (by first|(with_reducible assumption)|assumption)
       have q460 : x8_1 < (l1.length : Int):=of_decide_eq_true (by first|(with_reducible assumption)|assumption)
       obtain ⟨ad460,e460,hx460_0,hx460_1⟩:=at_T36 HR1.out x8_1 p460 q460
       have hw460_1:=hx460_1
       have hw460_0:=hx460_0
       obtain rfl : ad459 = ad460:=(by injection e460)
       replace hx460_0:=(HB.out.cell (zq2_ w _ hx460_0)).trans hx460_0
       replace hx460_1:=(HB.out.cell (zq2_ w _ hx460_1)).trans hx460_1
       replace p460:=eq_true p460
       replace q460:=eq_true q460
       refine start_ (n:=13) (S:=fun w' => w'.cell? ⟨gb458,0,none⟩ = some (.int .i64 x459000_1) ∧ w'.cell? ⟨gb458,1,none⟩ = some (.slice Ao21 x459001_1.length co21) ∧ w'.cell? (ad459.add ((x8_1).toNat * 2)) = some (.string ((rd_T36 l1 x8_1).f0)) ∧ w'.cell? ⟨(ad459.add ((x8_1).toNat * 2)).block,(ad459.add ((x8_1).toNat * 2)).off + 1,none⟩ = some (.string ((rd_T36 l1 x8_1).f1))) (ds:=[]) #[Z,Z,Z,Z,Z,Z,Z,Z,Z,Z,Z,Z,Z] (by kernel_rfl) rfl rfl ⟨(zm6_ BK458.out 0).trans rfl,(zm6_ BK458.out 1).trans rfl,((HB.out.cell (zq2_ w _ hw460_0)).trans hw460_0),((HB.out.cell (zq2_ w _ hw460_1)).trans hw460_1)⟩ (fun hHeld => ?_);refine with_tabW spec_PutFields.tab9 spec_PutFields.bits9 (fun HT_ HW_ => ?_)
       generalize wr.drew = w22 at HO_6 HO_459001 BK449 BK450 BK458 HB hx460_0 hx460_1 hHeld ⊢
       refine pure_ (i:=1) (N:=some 29) (v:=?_) (a':=?_) #[Z,Y,Z,Z,Z,Z,Z,Z,Z,Z,Z,Z,Z] rfl rfl (any_of HT_.out (by kernel_rfl)) (fun _ _ _ h => h) (Or.inl ⟨by rfl,?_⟩) ?_ ?_
       rotate_left
       ·
        intro w'
        go_simp
        with_reducible rfl
       rotate_left
       ·
        simp only [Act.put,lA_,lB_,lC_,i64_w,i32_w]
        rfl
       refine pure_ (i:=2) (N:=some 30) (v:=?_) (a':=?_) #[Z,Y,Y,Z,Z,Z,Z,Z,Z,Z,Z,Z,Z] rfl rfl (any_of HT_.out (by kernel_rfl)) (fun _ _ _ h => h) (Or.inl ⟨by rfl,?_⟩) ?_ ?_
       rotate_left
       ·
        intro w'
        go_simp
        with_reducible rfl
       rotate_left
       ·
        simp only [Act.put,lA_,lB_,lC_,i64_w,i32_w]
        rfl
       refine pure_ (i:=3) (N:=some 31) (v:=?_) (a':=?_) #[Z,Y,Y,Y,Z,Z,Z,Z,Z,Z,Z,Z,Z] rfl rfl (any_of HT_.out (by kernel_rfl)) (fun _ _ _ h => h) (Or.inl ⟨by rfl,?_⟩) ?_ ?_
       rotate_left
       ·
        intro w'
        go_simp
        with_reducible rfl
       rotate_left
       ·
        simp only [Act.put,lA_,lB_,lC_,i64_w,i32_w]
        rfl
       refine pure_ (i:=5) (N:=some 33) (v:=?_) (a':=?_) #[Z,Y,Y,Y,Z,Y,Z,Z,Z,Z,Z,Z,Z] rfl rfl (any_of HT_.out (by kernel_rfl)) (fun _ _ _ h => h) (Or.inl ⟨by rfl,?_⟩) ?_ ?_
       rotate_left
       ·
        intro w'
        go_simp
        with_reducible rfl
       rotate_left
       ·
        simp only [Act.put,lA_,lB_,lC_,i64_w,i32_w]
        rfl
       refine take_ (i:=0) (N:=some 28) (v:=?_) (a':=?_) #[Y,Y,Y,Y,Z,Y,Z,Z,Z,Z,Z,Z,Z] rfl rfl (take_ofW HT_.out HW_.out (by kernel_rfl)) (fun _ _ _ h => h) (Or.inl ⟨by rfl,?_⟩) hHeld ?_ ?_
       rotate_left
       ·
        rintro w' ⟨s0,s1,s2,s3⟩
        go_simp
        with_reducible rfl
       rotate_left
       ·
        simp only [Act.put,lA_,lB_,lC_,i64_w,i32_w]
        rfl
       refine take_ (i:=4) (N:=some 32) (v:=?_) (a':=?_) #[Y,Y,Y,Y,Y,Y,Z,Z,Z,Z,Z,Z,Z] rfl rfl (take_ofW HT_.out HW_.out (by kernel_rfl)) (fun _ _ _ h => h) (Or.inl ⟨by rfl,?_⟩) hHeld ?_ ?_
       rotate_left
       ·
        rintro w' ⟨s0,s1,s2,s3⟩
        go_simp
        with_reducible rfl
       rotate_left
       ·
        simp only [Act.put,lA_,lB_,lC_,i64_w,i32_w]
        rfl
       refine join_ (σ:=Value × Value × Nat) 2 #[Y,Y,Y,Y,Y,Y,Y,Y,Y,Y,Y,Z,Z] (fun s_ => [(34,.tuple #[s_.1,.agg #[.int .i64 t464,s_.2.1]]),(11,.pointer (some ⟨s_.2.2,0,none⟩)),(27,.tuple #[s_.1,.agg #[.int .i64 t464,s_.2.1]]),(35,s_.1),(36,.agg #[.int .i64 t464,s_.2.1])]) (fun s_ w' => (w'.cell? ⟨gb458,0,none⟩ = some (.int .i64 x459000_1) ∧ w'.cell? ⟨gb458,1,none⟩ = some (.slice Ao21 x459001_1.length co21) ∧ w'.cell? (ad459.add ((x8_1).toNat * 2)) = some (.string ((rd_T36 l1 x8_1).f0)) ∧ w'.cell? ⟨(ad459.add ((x8_1).toNat * 2)).block,(ad459.add ((x8_1).toNat * 2)).off + 1,none⟩ = some (.string ((rd_T36 l1 x8_1).f1))) ∧ (Kd.R (Kd.int .u8) 5 w' w.heap.size (fun k_ => some k_ ≠ (u6 : Value).ownBlock) s_.1 t461) ∧ (Kd.R k36 36 w' w.heap.size (fun k_ => some k_ ≠ (.slice Ao21 x459001_1.length co21 : Value).ownBlock) s_.2.1 t465) ∧ (Kd.R k36 36 w' w.heap.size (fun k_ => some k_ ≠ (s_.2.1 : Value).ownBlock) (.slice Ao21 x459001_1.length co21) x459001_1) ∧ (Kd.R (Kd.int .u8) 5 w' w.heap.size (fun k_ => some k_ ≠ (s_.1 : Value).ownBlock) u6 x6_1) ∧ (w'.heap[gb449]? = some (.cells #[.int .i64 a0_0,.slice A0_1 l0_1.length c0_1] 32 (0,0))) ∧ (w'.heap[gb450]? = some (.cells #[.int .i64 0,.slice none 0 0] 32 (0,0))) ∧ (w'.heap[gb458]? = some (.cells #[.int .i64 x459000_1,.slice Ao21 x459001_1.length co21] 32 (0,0))) ∧ (w'.heap[s_.2.2]? = some (.cells #[.int .i64 0,.slice none 0 0] 32 (0,0))) ∧ (w.heap.size ≤ s_.2.2) ∧ (w.heap.size ≤ s_.2.2) ∧ (gb449 ≠ s_.2.2) ∧ (s_.2.2 ≠ gb449) ∧ (gb450 ≠ s_.2.2) ∧ (s_.2.2 ≠ gb450) ∧ (gb458 ≠ s_.2.2) ∧ (s_.2.2 ≠ gb458) ∧ (Below w.heap.size w w')) ?_ ?_
       rotate_left
       ·
        intro hCont
        refine two_ (i:=6) (j:=10) (Ni:=some 34) (Nj:=some 11) #[Y,Y,Y,Y,Y,Y,Y,Z,Z,Z,Z,Z,Z] #[Y,Y,Y,Y,Y,Y,Z,Z,Z,Z,Y,Z,Z] rfl rfl rfl rfl (two_of HT_.out (by kernel_rfl)) (by decide) (by decide) (fun K hK => ?_) (fun K hK => ?_)
        ·
         skip
         refine goes_ Tryz.func7 (by kernel_rfl) rfl #[.agg #[.int .i64 x459000_1,.slice Ao21 x459001_1.length co21],.agg #[.string ((rd_T36 l1 x8_1).f0),.string ((rd_T36 l1 x8_1).f1)],.int .i64 3] (by rfl) rfl rfl zy ?_
         with_reducible refine (spec_PutField.calls k1 x459000_1 _ _ x459001_1 ((rd_T36 l1 x8_1).f0) ((rd_T36 l1 x8_1).f1) 3 t461 t464 t465 _ ?side1 ?side2 A19.out).mono ?_
         (case side1 => repeat (first|exact (Kd.R_reads' HO_459001.out).2.2|(with_reducible refine Kd.C_alloc ?_ _)|(with_reducible refine Kd.C_drewN ?_ _)|(with_reducible refine Kd.C_drew ?_)))
         (case side2 => exact (Kd.R_reads' HO_459001.out).2.1)
         rintro e w23 ⟨v462,v466,rfl,ho0,ho1,hb⟩
         refine ⟨_,rfl,?_⟩
         have HO463:=zm0_ (zo1_ (Kd.R_new' ho0 (Kd.R_lt (zr HO_6))) (zn9_ (zl3 HB GE449 GE450 GE458)))
         replace HO_6:=zm0_ (Kd.R_elder' (zr HO_6) (Kd.R_base ho0) hb)
         have HO467:=zm0_ (zo1_ (Kd.R_new' ho1 (Kd.R_lt (zr HO_459001))) (zn9_ (zl3 HB GE449 GE450 GE458)))
         replace HO_459001:=zm0_ (Kd.R_elder' (zr HO_459001) (Kd.R_base ho1) hb)
         replace BK449:=zm0_ (zm5_ (zb BK449) hb)
         replace BK450:=zm0_ (zm5_ (zb BK450) hb)
         replace BK458:=zm0_ (zm5_ (zb BK458) hb)
         replace HB:=zm0_ (zn8_ (zl3 HB GE449 GE450 GE458) hb)
         (try clear hb)
         (try clear hb2)
         (try clear hk)
         (try clear hi)
         (try clear ho0)
         (try clear ho1)
         refine hK.out _ _ ⟨(zm6_ BK458.out 0).trans rfl,(zm6_ BK458.out 1).trans rfl,((HB.out.cell (zq2_ w _ hw460_0)).trans hw460_0),((HB.out.cell (zq2_ w _ hw460_1)).trans hw460_1)⟩ (fun hHeld => ?_)
         clear hK K
         refine norm_ (a':=?_) ?_ ?_
         rotate_left
         ·
          show Act.put _ (some 34) _ = _
          simp only [Act.put,lA_,lB_,lC_,i64_w,i32_w]
          rfl
         refine pure_ (i:=7) (N:=some 27) (v:=?_) (a':=?_) #[Y,Y,Y,Y,Y,Y,Y,Y,Z,Z,Z,Z,Z] rfl rfl (any_of HT_.out (by kernel_rfl)) (fun _ _ _ h => h) (Or.inl ⟨by rfl,?_⟩) ?_ ?_
         rotate_left
         ·
          intro w'
          go_simp
          with_reducible rfl
         rotate_left
         ·
          simp only [Act.put,lA_,lB_,lC_,i64_w,i32_w]
          rfl
         refine pure_ (i:=8) (N:=some 35) (v:=?_) (a':=?_) #[Y,Y,Y,Y,Y,Y,Y,Y,Y,Z,Z,Z,Z] rfl rfl (any_of HT_.out (by kernel_rfl)) (fun _ _ _ h => h) (Or.inl ⟨by rfl,?_⟩) ?_ ?_
         rotate_left
         ·
          intro w'
          go_simp
          with_reducible rfl
         rotate_left
         ·
          simp only [Act.put,lA_,lB_,lC_,i64_w,i32_w]
          rfl
         refine pure_ (i:=9) (N:=some 36) (v:=?_) (a':=?_) #[Y,Y,Y,Y,Y,Y,Y,Y,Y,Y,Z,Z,Z] rfl rfl (any_of HT_.out (by kernel_rfl)) (fun _ _ _ h => h) (Or.inl ⟨by rfl,?_⟩) ?_ ?_
         rotate_left
         ·
          intro w'
          go_simp
          with_reducible rfl
         rotate_left
         ·
          simp only [Act.put,lA_,lB_,lC_,i64_w,i32_w]
          rfl
         refine one_ (i:=10) (N:=some 11) #[Y,Y,Y,Y,Y,Y,Y,Y,Y,Y,Y,Z,Z] rfl rfl (one_of HT_.out (by kernel_rfl)) (by decide) (fun K hK => ?_)
         refine box_step ?hg (N:=11) ?hd (cs:=#[.int .i64 0,.slice none 0 0]) (t:=32) ?hr ?_;(case hd => rfl);(case hg => rfl);(case hr => first|(go_simp;done)|(go_simp;rfl))
         intro gb468 hg w24 hbox hb
         replace HO_6:=zm0_ (zm8_ (zr HO_6) hb)
         replace HO_459001:=zm0_ (zm8_ (zr HO_459001) hb)
         replace HO463:=zm0_ (zm8_ (zr HO463) hb)
         replace HO467:=zm0_ (zm8_ (zr HO467) hb)
         have BK468:=zm0_ (hbox)
         have GW468:=zm0_ ((by rw [hg];exact (zn9_ (zl3 HB GE449 GE450 GE458)) : w.heap.size ≤ gb468))
         have GE468:=zm0_ ((by rw [hg];exact (zn9_ (zl3 HB GE449 GE450 GE458)) : w.heap.size ≤ gb468))
         replace HB:=zm0_ (zn8_ (zl3 HB GE449 GE450 GE458) hb)
         have NB449_468:=zm0_ ((by rw [hg];exact Nat.ne_of_lt (zo3_ (g:=gb449) (o:=.cells #[.int .i64 a0_0,.slice A0_1 l0_1.length c0_1] 32 (0,0)) (zb BK449)) : gb449 ≠ gb468))
         have NB468_449:=zm0_ ((by rw [hg];exact Nat.ne_of_gt (zo3_ (g:=gb449) (o:=.cells #[.int .i64 a0_0,.slice A0_1 l0_1.length c0_1] 32 (0,0)) (zb BK449)) : gb468 ≠ gb449))
         replace BK449:=zm0_ (zm5_ (zb BK449) hb)
         have NB450_468:=zm0_ ((by rw [hg];exact Nat.ne_of_lt (zo3_ (g:=gb450) (o:=.cells #[.int .i64 0,.slice none 0 0] 32 (0,0)) (zb BK450)) : gb450 ≠ gb468))
         have NB468_450:=zm0_ ((by rw [hg];exact Nat.ne_of_gt (zo3_ (g:=gb450) (o:=.cells #[.int .i64 0,.slice none 0 0] 32 (0,0)) (zb BK450)) : gb468 ≠ gb450))
         replace BK450:=zm0_ (zm5_ (zb BK450) hb)
         have NB458_468:=zm0_ ((by rw [hg];exact Nat.ne_of_lt (zo3_ (g:=gb458) (o:=.cells #[.int .i64 x459000_1,.slice Ao21 x459001_1.length co21] 32 (0,0)) (zb BK458)) : gb458 ≠ gb468))
         have NB468_458:=zm0_ ((by rw [hg];exact Nat.ne_of_gt (zo3_ (g:=gb458) (o:=.cells #[.int .i64 x459000_1,.slice Ao21 x459001_1.length co21] 32 (0,0)) (zb BK458)) : gb468 ≠ gb458))
         replace BK458:=zm0_ (zm5_ (zb BK458) hb)
         clear hb hbox hg
         refine hK.out _ _ ⟨(zm6_ BK458.out 0).trans rfl,(zm6_ BK458.out 1).trans rfl,((HB.out.cell (zq2_ w _ hw460_0)).trans hw460_0),((HB.out.cell (zq2_ w _ hw460_1)).trans hw460_1)⟩ (fun hHeld => ?_)
         clear hK K
         refine norm_ (a':=?_) ?_ ?_
         rotate_left
         ·
          show Act.put _ (some 11) _ = _
          simp only [Act.put,lA_,lB_,lC_,i64_w,i32_w]
          rfl
         exact norm_ (by simp only [putAll,Act.put,lA_,lB_,lC_]) (hCont (v462,v466,gb468) _ ⟨hHeld,(zs (zo2_ HO463.out (fun _ hk => (by first|exact hk.2|(have hq_:=hk;simp only [ne_eq] at hq_ ⊢;simp only [hq_,not_false_eq_true,and_self]))))),(zs (zo2_ HO467.out (fun _ hk => (by first|exact hk.2|(have hq_:=hk;simp only [ne_eq] at hq_ ⊢;simp only [hq_,not_false_eq_true,and_self]))))),(zs (zo2_ HO_459001.out (fun _ hk => (by first|exact hk.2|(have hq_:=hk;simp only [ne_eq] at hq_ ⊢;simp only [hq_,not_false_eq_true,and_self]))))),(zs (zo2_ HO_6.out (fun _ hk => (by first|exact hk.2|(have hq_:=hk;simp only [ne_eq] at hq_ ⊢;simp only [hq_,not_false_eq_true,and_self]))))),(zb BK449),(zb BK450),(zb BK458),(zb BK468),GW468.out,GE468.out,NB449_468.out,NB468_449.out,NB450_468.out,NB468_450.out,NB458_468.out,NB468_458.out,(zl4 HB GE449 GE450 GE458 GE468)⟩)
        ·
         skip
         refine box_step ?hg (N:=11) ?hd (cs:=#[.int .i64 0,.slice none 0 0]) (t:=32) ?hr ?_;(case hd => rfl);(case hg => rfl);(case hr => first|(go_simp;done)|(go_simp;rfl))
         intro gb468 hg w23 hbox hb
         replace HO_6:=zm0_ (zm8_ (zr HO_6) hb)
         replace HO_459001:=zm0_ (zm8_ (zr HO_459001) hb)
         have BK468:=zm0_ (hbox)
         have GW468:=zm0_ ((by rw [hg];exact (zn9_ (zl3 HB GE449 GE450 GE458)) : w.heap.size ≤ gb468))
         have GE468:=zm0_ ((by rw [hg];exact (zn9_ (zl3 HB GE449 GE450 GE458)) : w.heap.size ≤ gb468))
         replace HB:=zm0_ (zn8_ (zl3 HB GE449 GE450 GE458) hb)
         have NB449_468:=zm0_ ((by rw [hg];exact Nat.ne_of_lt (zo3_ (g:=gb449) (o:=.cells #[.int .i64 a0_0,.slice A0_1 l0_1.length c0_1] 32 (0,0)) (zb BK449)) : gb449 ≠ gb468))
         have NB468_449:=zm0_ ((by rw [hg];exact Nat.ne_of_gt (zo3_ (g:=gb449) (o:=.cells #[.int .i64 a0_0,.slice A0_1 l0_1.length c0_1] 32 (0,0)) (zb BK449)) : gb468 ≠ gb449))
         replace BK449:=zm0_ (zm5_ (zb BK449) hb)
         have NB450_468:=zm0_ ((by rw [hg];exact Nat.ne_of_lt (zo3_ (g:=gb450) (o:=.cells #[.int .i64 0,.slice none 0 0] 32 (0,0)) (zb BK450)) : gb450 ≠ gb468))
         have NB468_450:=zm0_ ((by rw [hg];exact Nat.ne_of_gt (zo3_ (g:=gb450) (o:=.cells #[.int .i64 0,.slice none 0 0] 32 (0,0)) (zb BK450)) : gb468 ≠ gb450))
         replace BK450:=zm0_ (zm5_ (zb BK450) hb)
         have NB458_468:=zm0_ ((by rw [hg];exact Nat.ne_of_lt (zo3_ (g:=gb458) (o:=.cells #[.int .i64 x459000_1,.slice Ao21 x459001_1.length co21] 32 (0,0)) (zb BK458)) : gb458 ≠ gb468))
         have NB468_458:=zm0_ ((by rw [hg];exact Nat.ne_of_gt (zo3_ (g:=gb458) (o:=.cells #[.int .i64 x459000_1,.slice Ao21 x459001_1.length co21] 32 (0,0)) (zb BK458)) : gb468 ≠ gb458))
         replace BK458:=zm0_ (zm5_ (zb BK458) hb)
         clear hb hbox hg
         refine hK.out _ _ ⟨(zm6_ BK458.out 0).trans rfl,(zm6_ BK458.out 1).trans rfl,((HB.out.cell (zq2_ w _ hw460_0)).trans hw460_0),((HB.out.cell (zq2_ w _ hw460_1)).trans hw460_1)⟩ (fun hHeld => ?_)
         clear hK K
         refine norm_ (a':=?_) ?_ ?_
         rotate_left
         ·
          show Act.put _ (some 11) _ = _
          simp only [Act.put,lA_,lB_,lC_,i64_w,i32_w]
          rfl
         refine one_ (i:=6) (N:=some 34) #[Y,Y,Y,Y,Y,Y,Y,Z,Z,Z,Y,Z,Z] rfl rfl (one_of HT_.out (by kernel_rfl)) (by decide) (fun K hK => ?_)
         refine goes_ Tryz.func7 (by kernel_rfl) rfl #[.agg #[.int .i64 x459000_1,.slice Ao21 x459001_1.length co21],.agg #[.string ((rd_T36 l1 x8_1).f0),.string ((rd_T36 l1 x8_1).f1)],.int .i64 3] (by rfl) rfl rfl zy ?_
         with_reducible refine (spec_PutField.calls k1 x459000_1 _ _ x459001_1 ((rd_T36 l1 x8_1).f0) ((rd_T36 l1 x8_1).f1) 3 t461 t464 t465 _ ?side1 ?side2 A19.out).mono ?_
         (case side1 => repeat (first|exact (Kd.R_reads' HO_459001.out).2.2|(with_reducible refine Kd.C_alloc ?_ _)|(with_reducible refine Kd.C_drewN ?_ _)|(with_reducible refine Kd.C_drew ?_)))
         (case side2 => exact (Kd.R_reads' HO_459001.out).2.1)
         rintro e w24 ⟨v462,v466,rfl,ho0,ho1,hb⟩
         refine ⟨_,rfl,?_⟩
         have HO463:=zm0_ (zo1_ (Kd.R_new' ho0 (Kd.R_lt (zr HO_6))) (zn9_ (zl4 HB GE449 GE450 GE458 GE468)))
         replace HO_6:=zm0_ (Kd.R_elder' (zr HO_6) (Kd.R_base ho0) hb)
         have HO467:=zm0_ (zo1_ (Kd.R_new' ho1 (Kd.R_lt (zr HO_459001))) (zn9_ (zl4 HB GE449 GE450 GE458 GE468)))
         replace HO_459001:=zm0_ (Kd.R_elder' (zr HO_459001) (Kd.R_base ho1) hb)
         replace BK449:=zm0_ (zm5_ (zb BK449) hb)
         replace BK450:=zm0_ (zm5_ (zb BK450) hb)
         replace BK458:=zm0_ (zm5_ (zb BK458) hb)
         replace BK468:=zm0_ (zm5_ (zb BK468) hb)
         replace HB:=zm0_ (zn8_ (zl4 HB GE449 GE450 GE458 GE468) hb)
         (try clear hb)
         (try clear hb2)
         (try clear hk)
         (try clear hi)
         (try clear ho0)
         (try clear ho1)
         refine hK.out _ _ ⟨(zm6_ BK458.out 0).trans rfl,(zm6_ BK458.out 1).trans rfl,((HB.out.cell (zq2_ w _ hw460_0)).trans hw460_0),((HB.out.cell (zq2_ w _ hw460_1)).trans hw460_1)⟩ (fun hHeld => ?_)
         clear hK K
         refine norm_ (a':=?_) ?_ ?_
         rotate_left
         ·
          show Act.put _ (some 34) _ = _
          simp only [Act.put,lA_,lB_,lC_,i64_w,i32_w]
          rfl
         refine pure_ (i:=7) (N:=some 27) (v:=?_) (a':=?_) #[Y,Y,Y,Y,Y,Y,Y,Y,Z,Z,Y,Z,Z] rfl rfl (any_of HT_.out (by kernel_rfl)) (fun _ _ _ h => h) (Or.inl ⟨by rfl,?_⟩) ?_ ?_
         rotate_left
         ·
          intro w'
          go_simp
          with_reducible rfl
         rotate_left
         ·
          simp only [Act.put,lA_,lB_,lC_,i64_w,i32_w]
          rfl
         refine pure_ (i:=8) (N:=some 35) (v:=?_) (a':=?_) #[Y,Y,Y,Y,Y,Y,Y,Y,Y,Z,Y,Z,Z] rfl rfl (any_of HT_.out (by kernel_rfl)) (fun _ _ _ h => h) (Or.inl ⟨by rfl,?_⟩) ?_ ?_
         rotate_left
         ·
          intro w'
          go_simp
          with_reducible rfl
         rotate_left
         ·
          simp only [Act.put,lA_,lB_,lC_,i64_w,i32_w]
          rfl
         refine pure_ (i:=9) (N:=some 36) (v:=?_) (a':=?_) #[Y,Y,Y,Y,Y,Y,Y,Y,Y,Y,Y,Z,Z] rfl rfl (any_of HT_.out (by kernel_rfl)) (fun _ _ _ h => h) (Or.inl ⟨by rfl,?_⟩) ?_ ?_
         rotate_left
         ·
          intro w'
          go_simp
          with_reducible rfl
         rotate_left
         ·
          simp only [Act.put,lA_,lB_,lC_,i64_w,i32_w]
          rfl
         exact norm_ (by simp only [putAll,Act.put,lA_,lB_,lC_]) (hCont (v462,v466,gb468) _ ⟨hHeld,(zs (zo2_ HO463.out (fun _ hk => (by first|exact hk.2|(have hq_:=hk;simp only [ne_eq] at hq_ ⊢;simp only [hq_,not_false_eq_true,and_self]))))),(zs (zo2_ HO467.out (fun _ hk => (by first|exact hk.2|(have hq_:=hk;simp only [ne_eq] at hq_ ⊢;simp only [hq_,not_false_eq_true,and_self]))))),(zs (zo2_ HO_459001.out (fun _ hk => (by first|exact hk.2|(have hq_:=hk;simp only [ne_eq] at hq_ ⊢;simp only [hq_,not_false_eq_true,and_self]))))),(zs (zo2_ HO_6.out (fun _ hk => (by first|exact hk.2|(have hq_:=hk;simp only [ne_eq] at hq_ ⊢;simp only [hq_,not_false_eq_true,and_self]))))),(zb BK449),(zb BK450),(zb BK458),(zb BK468),GW468.out,GE468.out,NB449_468.out,NB468_449.out,NB450_468.out,NB468_450.out,NB458_468.out,NB468_458.out,(zl4 HB GE449 GE450 GE458 GE468)⟩)
       rintro ⟨v462,v466,gb468⟩ w25 ⟨hS_,h0_,h1_,h2_,h3_,h4_,h5_,h6_,h7_,h8_,h9_,h10_,h11_,h12_,h13_,h14_,h15_,h16_⟩
       have n0_ : Aside0 (Kd.R (Kd.int .u8) 5 w25 w.heap.size (fun k_ => some k_ ≠ (u6 : Value).ownBlock) v462 t461):=⟨h0_⟩
       have n1_ : Aside0 (Kd.R k36 36 w25 w.heap.size (fun k_ => some k_ ≠ (.slice Ao21 x459001_1.length co21 : Value).ownBlock) v466 t465):=⟨h1_⟩
       have n2_ : Aside0 (Kd.R k36 36 w25 w.heap.size (fun k_ => some k_ ≠ (v466 : Value).ownBlock) (.slice Ao21 x459001_1.length co21) x459001_1):=⟨h2_⟩
       have n3_ : Aside0 (Kd.R (Kd.int .u8) 5 w25 w.heap.size (fun k_ => some k_ ≠ (v462 : Value).ownBlock) u6 x6_1):=⟨h3_⟩
       have n4_ : Aside0 (w25.heap[gb449]? = some (.cells #[.int .i64 a0_0,.slice A0_1 l0_1.length c0_1] 32 (0,0))):=⟨h4_⟩
       have n5_ : Aside0 (w25.heap[gb450]? = some (.cells #[.int .i64 0,.slice none 0 0] 32 (0,0))):=⟨h5_⟩
       have n6_ : Aside0 (w25.heap[gb458]? = some (.cells #[.int .i64 x459000_1,.slice Ao21 x459001_1.length co21] 32 (0,0))):=⟨h6_⟩
       have n7_ : Aside0 (w25.heap[gb468]? = some (.cells #[.int .i64 0,.slice none 0 0] 32 (0,0))):=⟨h7_⟩
       have n8_ : Aside0 (w.heap.size ≤ gb468):=⟨h8_⟩
       have n9_ : Aside0 (w.heap.size ≤ gb468):=⟨h9_⟩
       have n10_ : Aside0 (gb449 ≠ gb468):=⟨h10_⟩
       have n11_ : Aside0 (gb468 ≠ gb449):=⟨h11_⟩
       have n12_ : Aside0 (gb450 ≠ gb468):=⟨h12_⟩
       have n13_ : Aside0 (gb468 ≠ gb450):=⟨h13_⟩
       have n14_ : Aside0 (gb458 ≠ gb468):=⟨h14_⟩
       have n15_ : Aside0 (gb468 ≠ gb458):=⟨h15_⟩
       have n16_ : Aside0 (Below w.heap.size w w25):=⟨h16_⟩
       clear HO_6 HO_459001 BK449 BK450 BK458 HB h0_ h1_ h2_ h3_ h4_ h5_ h6_ h7_ h8_ h9_ h10_ h11_ h12_ h13_ h14_ h15_ h16_
       have HO463:=n0_
       have HO467:=n1_
       have HO_459001:=n2_
       have HO_6:=n3_
       have BK449:=n4_
       have BK450:=n5_
       have BK458:=n6_
       have BK468:=n7_
       have GW468:=n8_
       have GE468:=n9_
       have NB449_468:=n10_
       have NB468_449:=n11_
       have NB450_468:=n12_
       have NB468_450:=n13_
       have NB458_468:=n14_
       have NB468_458:=n15_
       have HB:=n16_
       clear n0_ n1_ n2_ n3_ n4_ n5_ n6_ n7_ n8_ n9_ n10_ n11_ n12_ n13_ n14_ n15_ n16_
       have hHeld : w25.cell? ⟨gb458,0,none⟩ = some (.int .i64 x459000_1) ∧ w25.cell? ⟨gb458,1,none⟩ = some (.slice Ao21 x459001_1.length co21) ∧ w25.cell? (ad459.add ((x8_1).toNat * 2)) = some (.string ((rd_T36 l1 x8_1).f0)) ∧ w25.cell? ⟨(ad459.add ((x8_1).toNat * 2)).block,(ad459.add ((x8_1).toNat * 2)).off + 1,none⟩ = some (.string ((rd_T36 l1 x8_1).f1)):=hS_
       obtain ⟨Ao27,co27,eo27⟩:=Kd.R_slice HO467.out
       (first|subst eo27|(injection eo27 with f1_ f2_ f3_;have f4_:=f1_.symm;have f5_:=f3_.symm;clear f1_ f2_ f3_;subst f4_;subst f5_))
       refine norm_ (a':=?_) ?_ ?_
       rotate_left
       ·
        simp only [putAll,Act.put,lA_,lB_,lC_]
        rfl
       refine pure_ (i:=11) (N:=some 10) (v:=?_) (a':=?_) #[Y,Y,Y,Y,Y,Y,Y,Y,Y,Y,Y,Y,Z] rfl rfl (any_of HT_.out (by kernel_rfl)) (fun _ _ _ h => h) (Or.inl ⟨by rfl,?_⟩) ?_ ?_
       rotate_left
       ·
        intro w'
        go_simp
        with_reducible rfl
       rotate_left
       ·
        simp only [Act.put,lA_,lB_,lC_,i64_w,i32_w]
        rfl
       refine one_ (i:=12) (N:=none) #[Y,Y,Y,Y,Y,Y,Y,Y,Y,Y,Y,Y,Y] rfl rfl (one_of HT_.out (by kernel_rfl)) (by decide) (fun K hK => ?_)
       have hs26 : w25.cell? ⟨gb468,0,none⟩ = some (.int .i64 0):=(zm6_ BK468.out 0).trans rfl
       have hfs26:=zm7_ BK468.out 0
       have hns26_0:=NB449_468.out
       have hns26_1:=NB450_468.out
       have hns26_2:=NB458_468.out
       have hms26_0:=NB468_449.out
       have hms26_1:=NB468_450.out
       have hms26_2:=NB468_458.out
       have hs28 : w25.cell? ⟨gb468,1,none⟩ = some (.slice none 0 0):=(zm6_ BK468.out 1).trans rfl
       have hfs28:=zm7_ BK468.out 1
       have hns28_0:=NB449_468.out
       have hns28_1:=NB450_468.out
       have hns28_2:=NB458_468.out
       have hms28_0:=NB468_449.out
       have hms28_1:=NB468_450.out
       have hms28_2:=NB468_458.out
       refine skip_ (w1:=?_) (by rfl) rfl ?_ ?_
       rotate_left
       ·
        go_simp
        rfl
       refine hK.out _ _ ⟨((cell_far (p:=⟨gb468,_,none⟩) NB458_468.out _).trans (((cell_far (p:=⟨gb468,_,none⟩) NB458_468.out _).trans (hHeld.1)))),((cell_far (p:=⟨gb468,_,none⟩) NB458_468.out _).trans (((cell_far (p:=⟨gb468,_,none⟩) NB458_468.out _).trans (hHeld.2.1)))),((cell_far (p:=⟨gb468,_,none⟩) (by first|exact Nat.ne_of_lt (Nat.lt_of_lt_of_le (by have:=zq2_ _ _ hw460_0;first|rwa [add_block] at this|exact this) GW468.out)|(rw [add_block];exact Nat.ne_of_lt (Nat.lt_of_lt_of_le (by have:=zq2_ _ _ hw460_0;first|rwa [add_block] at this|exact this) GW468.out))|(show (Addr.add _ _).block ≠ _;rw [add_block];exact Nat.ne_of_lt (Nat.lt_of_lt_of_le (by have:=zq2_ _ _ hw460_0;first|rwa [add_block] at this|exact this) GW468.out))|(dsimp only;exact Nat.ne_of_lt (Nat.lt_of_lt_of_le (by have:=zq2_ _ _ hw460_0;first|rwa [add_block] at this|exact this) GW468.out))) _).trans (((cell_far (p:=⟨gb468,_,none⟩) (by first|exact Nat.ne_of_lt (Nat.lt_of_lt_of_le (by have:=zq2_ _ _ hw460_0;first|rwa [add_block] at this|exact this) GW468.out)|(rw [add_block];exact Nat.ne_of_lt (Nat.lt_of_lt_of_le (by have:=zq2_ _ _ hw460_0;first|rwa [add_block] at this|exact this) GW468.out))|(show (Addr.add _ _).block ≠ _;rw [add_block];exact Nat.ne_of_lt (Nat.lt_of_lt_of_le (by have:=zq2_ _ _ hw460_0;first|rwa [add_block] at this|exact this) GW468.out))|(dsimp only;exact Nat.ne_of_lt (Nat.lt_of_lt_of_le (by have:=zq2_ _ _ hw460_0;first|rwa [add_block] at this|exact this) GW468.out))) _).trans (hHeld.2.2.1)))),((cell_far (p:=⟨gb468,_,none⟩) (by first|exact Nat.ne_of_lt (Nat.lt_of_lt_of_le (by have:=zq2_ _ _ hw460_1;first|rwa [add_block] at this|exact this) GW468.out)|(rw [add_block];exact Nat.ne_of_lt (Nat.lt_of_lt_of_le (by have:=zq2_ _ _ hw460_1;first|rwa [add_block] at this|exact this) GW468.out))|(show (Addr.add _ _).block ≠ _;rw [add_block];exact Nat.ne_of_lt (Nat.lt_of_lt_of_le (by have:=zq2_ _ _ hw460_1;first|rwa [add_block] at this|exact this) GW468.out))|(dsimp only;exact Nat.ne_of_lt (Nat.lt_of_lt_of_le (by have:=zq2_ _ _ hw460_1;first|rwa [add_block] at this|exact this) GW468.out))) _).trans (((cell_far (p:=⟨gb468,_,none⟩) (by first|exact Nat.ne_of_lt (Nat.lt_of_lt_of_le (by have:=zq2_ _ _ hw460_1;first|rwa [add_block] at this|exact this) GW468.out)|(rw [add_block];exact Nat.ne_of_lt (Nat.lt_of_lt_of_le (by have:=zq2_ _ _ hw460_1;first|rwa [add_block] at this|exact this) GW468.out))|(show (Addr.add _ _).block ≠ _;rw [add_block];exact Nat.ne_of_lt (Nat.lt_of_lt_of_le (by have:=zq2_ _ _ hw460_1;first|rwa [add_block] at this|exact this) GW468.out))|(dsimp only;exact Nat.ne_of_lt (Nat.lt_of_lt_of_le (by have:=zq2_ _ _ hw460_1;first|rwa [add_block] at this|exact this) GW468.out))) _).trans (hHeld.2.2.2))))⟩ (fun hHeld => ?_)
       clear hK K
       refine done_ (done_of HT_.out (by kernel_rfl)) ?_
       obtain ⟨Ao30,co30,eo30⟩:=Kd.R_slice HO463.out
       subst eo30
       try go_wp2_with (first|((with_reducible refine gate_builtin (b:=.append) (xs:=#[.tmp 37,.tmp 38]) rfl ?_);at_builtin;refine Kd.R_append_rows (Kd.int .u8) (w0:=w) w.heap.size rfl (.tmp 37) (.tmp 38) 29 5 (.int .u8 0) 1 rfl Tryz.underlying29 info5 rfl (by decide) (by omega) u6 x6_1 t461 _ _ _ (fun k_ => some k_ ≠ (.slice Ao30 t461.length co30 : Value).ownBlock) (fun _ => False) rfl rfl ?aO ?aR (fun _ _ h => h) (fun _ h => h.elim) ?aF ?aB ?aS ?aL ?_;(case aR => refine (Kd.R_reads' (e:=5) (base:=w.heap.size) (ok:=fun k_ => some k_ ≠ (u6 : Value).ownBlock) (n:=t461.length) (c:=co30) ?_).2.2;exact (zs (zo2_ (k4_ (p:=⟨gb468,1,none⟩) (k4_ (p:=⟨gb468,0,none⟩) (Kd.R_types HO463.out BK468.out (by decide)) (fun _ hk => hk.2) (.int .i64 t464)) (fun _ hk => hk.2) (.slice Ao27 t465.length co27)) (fun _ h_ => h_.1))));(case aB => exact (zl4 HB GE449 GE450 GE458 GE468));(case aF => exact (fun k_ hk => Kd.fresh' (Kd.R_lt (zs (zo2_ (k4_ (p:=⟨gb468,1,none⟩) (k4_ (p:=⟨gb468,0,none⟩) (Kd.R_types HO463.out BK468.out (by decide)) (fun _ hk => hk.2) (.int .i64 t464)) (fun _ hk => hk.2) (.slice Ao27 t465.length co27)) (fun _ h_ => h_.1)))) k_ hk));(case aO => exact (zs (zo2_ (k4_ (p:=⟨gb468,1,none⟩) (k4_ (p:=⟨gb468,0,none⟩) (Kd.R_types HO_6.out BK468.out (by decide)) (fun _ hk => hk.2) (.int .i64 t464)) (fun _ hk => hk.2) (.slice Ao27 t465.length co27)) (fun _ hk => (by first|exact hk.1|(have hq_:=hk;simp only [ne_eq] at hq_ ⊢;simp only [hq_,not_false_eq_true,and_self]))))));(case aS => exact (zn9_ (zl4 HB GE449 GE450 GE458 GE468)));(case aL => have:=LMc20.out;omega);intro v470 w29 ho hb hg hat;(first|(with_reducible rw [← Ny469.out] at ho)|(simp only [Int.reduceToNat] at ho;with_reducible rw [← Ny469.out] at ho)|rw [← Ny469.out] at ho);replace HO_459001:=zm0_ (Kd.R_over' (zs (zo2_ (k4_ (p:=⟨gb468,1,none⟩) (k4_ (p:=⟨gb468,0,none⟩) (Kd.R_types HO_459001.out BK468.out (by decide)) (fun _ hk => hk.2) (.int .i64 t464)) (fun _ hk => hk.2) (.slice Ao27 t465.length co27)) (fun _ h_ => h_.1))) (Kd.R_typed (zs (zo2_ (k4_ (p:=⟨gb468,1,none⟩) (k4_ (p:=⟨gb468,0,none⟩) (Kd.R_types HO_6.out BK468.out (by decide)) (fun _ hk => hk.2) (.int .i64 t464)) (fun _ hk => hk.2) (.slice Ao27 t465.length co27)) (fun _ h_ => h_.1)))) (by decide) hg);replace BK449:=zm0_ (blk_grown (g:=gb449) (o:=.cells #[.int .i64 a0_0,.slice A0_1 l0_1.length c0_1] 32 (0,0)) (by (with_reducible repeat (first|refine k6_ ?_ _|refine k7_ ?_|refine k5_ ?_ _));refine blk_far ?_ NB449_468.out _;(with_reducible repeat (first|refine k6_ ?_ _|refine k7_ ?_|refine k5_ ?_ _));refine blk_far ?_ NB449_468.out _;(with_reducible repeat (first|refine k6_ ?_ _|refine k7_ ?_|refine k5_ ?_ _));exact BK449.out) hg (Kd.R_ne HO_6.out BK449.out (by decide)));replace BK450:=zm0_ (blk_grown (g:=gb450) (o:=.cells #[.int .i64 0,.slice none 0 0] 32 (0,0)) (by (with_reducible repeat (first|refine k6_ ?_ _|refine k7_ ?_|refine k5_ ?_ _));refine blk_far ?_ NB450_468.out _;(with_reducible repeat (first|refine k6_ ?_ _|refine k7_ ?_|refine k5_ ?_ _));refine blk_far ?_ NB450_468.out _;(with_reducible repeat (first|refine k6_ ?_ _|refine k7_ ?_|refine k5_ ?_ _));exact BK450.out) hg (Kd.R_ne HO_6.out BK450.out (by decide)));replace BK458:=zm0_ (blk_grown (g:=gb458) (o:=.cells #[.int .i64 x459000_1,.slice Ao21 x459001_1.length co21] 32 (0,0)) (by (with_reducible repeat (first|refine k6_ ?_ _|refine k7_ ?_|refine k5_ ?_ _));refine blk_far ?_ NB458_468.out _;(with_reducible repeat (first|refine k6_ ?_ _|refine k7_ ?_|refine k5_ ?_ _));refine blk_far ?_ NB458_468.out _;(with_reducible repeat (first|refine k6_ ?_ _|refine k7_ ?_|refine k5_ ?_ _));exact BK458.out) hg (Kd.R_ne HO_6.out BK458.out (by decide)));replace HO463:=zm0_ (Kd.R_after (ok:=(fun _ => True)) (zs (zo2_ (k4_ (p:=⟨gb468,1,none⟩) (k4_ (p:=⟨gb468,0,none⟩) (Kd.R_types HO463.out BK468.out (by decide)) (fun _ hk => hk.2) (.int .i64 t464)) (fun _ hk => hk.2) (.slice Ao27 t465.length co27)) (fun _ hk => ⟨trivial,(by first|exact hk.1|(have hq_:=hk;simp only [ne_eq] at hq_ ⊢;simp only [hq_,not_false_eq_true,and_self]))⟩))) hg hat);replace HO467:=zm0_ (Kd.R_over' (zs (zo2_ (k4_ (p:=⟨gb468,1,none⟩) (k4_ (p:=⟨gb468,0,none⟩) (Kd.R_types HO467.out BK468.out (by decide)) (fun _ hk => hk.2) (.int .i64 t464)) (fun _ hk => hk.2) (.slice Ao27 t465.length co27)) (fun _ h_ => h_.1))) (Kd.R_typed (zs (zo2_ (k4_ (p:=⟨gb468,1,none⟩) (k4_ (p:=⟨gb468,0,none⟩) (Kd.R_types HO_6.out BK468.out (by decide)) (fun _ hk => hk.2) (.int .i64 t464)) (fun _ hk => hk.2) (.slice Ao27 t465.length co27)) (fun _ h_ => h_.1)))) (by decide) hg);replace BK468:=zm0_ (blk_grown (g:=gb468) (o:=.cells #[.int .i64 t464,.slice Ao27 t465.length co27] 32 (0,0)) (by (with_reducible repeat (first|refine k6_ ?_ _|refine k7_ ?_|refine k5_ ?_ _));refine blk_put (cs:=#[.int .i64 t464,.slice none 0 0]) ?_ 1 _ rfl;(with_reducible repeat (first|refine k6_ ?_ _|refine k7_ ?_|refine k5_ ?_ _));refine blk_put (cs:=#[.int .i64 0,.slice none 0 0]) ?_ 0 _ rfl;(with_reducible repeat (first|refine k6_ ?_ _|refine k7_ ?_|refine k5_ ?_ _));exact BK468.out) hg (Kd.R_ne HO_6.out BK468.out (by decide)));replace HB:=zm0_ (hb);have HO471:=zm0_ (ho);clear HO_6;clear ho hb hg hat;have hnb31:=NB468_449.out;have hnc31:=NB449_468.out;have hnb32:=NB468_450.out;have hnc32:=NB450_468.out;have hnb33:=NB468_458.out;have hnc33:=NB458_468.out;have hcz34_0 : w29.cell? ⟨gb468,0,none⟩ = some (.int .i64 t464):=(zm6_ BK468.out 0).trans rfl;have hcz34_1 : w29.cell? ⟨gb468,1,none⟩ = some (.slice Ao27 t465.length co27):=(zm6_ BK468.out 1).trans rfl;have hfz34_0:=zm7_ BK468.out 0;have hfz34_1:=zm7_ BK468.out 1;have hnb35:=NB458_449.out;have hnc35:=NB449_458.out;have hnb36:=NB458_450.out;have hnc36:=NB450_458.out;have hcz37_0 : w29.cell? ⟨gb458,0,none⟩ = some (.int .i64 x459000_1):=(zm6_ BK458.out 0).trans rfl;have hcz37_1 : w29.cell? ⟨gb458,1,none⟩ = some (.slice Ao21 x459001_1.length co21):=(zm6_ BK458.out 1).trans rfl;have hfz37_0:=zm7_ BK458.out 0;have hfz37_1:=zm7_ BK458.out 1))
       go_roundg k1
       case measure => have:=HK1.out;omega
       case rel => exact ⟨(y469),(wrap64 (x8_1 + 1)),(t464),(t465),(.slice Ao27 t465.length co27),zz,H',⟨by have:=HK1.out;omega⟩,⟨by (with_reducible repeat (first|apply k1_|apply k2_|apply k3_));exact zo2_ (k4_ (p:=⟨gb458,1,none⟩) (k4_ (p:=⟨gb458,0,none⟩) (Kd.R_types HO471.out BK458.out (by decide)) (fun _ hk => hk.2) (.int .i64 t464)) (fun _ hk => hk.2) (.slice Ao27 t465.length co27)) (fun _ hk => trivial)⟩,⟨by (with_reducible repeat (first|apply k1_|apply k2_|apply k3_));exact zo2_ (k4_ (p:=⟨gb458,1,none⟩) (k4_ (p:=⟨gb458,0,none⟩) (Kd.R_types HO467.out BK458.out (by decide)) (fun _ hk => hk.2) (.int .i64 t464)) (fun _ hk => hk.2) (.slice Ao27 t465.length co27)) (fun _ hk => trivial)⟩,⟨by (with_reducible repeat (first|refine k6_ ?_ _|refine k7_ ?_|refine k5_ ?_ _));refine blk_far ?_ NB449_458.out _;(with_reducible repeat (first|refine k6_ ?_ _|refine k7_ ?_|refine k5_ ?_ _));refine blk_far ?_ NB449_458.out _;(with_reducible repeat (first|refine k6_ ?_ _|refine k7_ ?_|refine k5_ ?_ _));exact BK449.out⟩,⟨by (with_reducible repeat (first|refine k6_ ?_ _|refine k7_ ?_|refine k5_ ?_ _));refine blk_far ?_ NB450_458.out _;(with_reducible repeat (first|refine k6_ ?_ _|refine k7_ ?_|refine k5_ ?_ _));refine blk_far ?_ NB450_458.out _;(with_reducible repeat (first|refine k6_ ?_ _|refine k7_ ?_|refine k5_ ?_ _));exact BK450.out⟩,⟨by (with_reducible repeat (first|refine k6_ ?_ _|refine k7_ ?_|refine k5_ ?_ _));refine blk_put (cs:=#[.int .i64 t464,.slice Ao21 x459001_1.length co21]) ?_ 1 _ rfl;(with_reducible repeat (first|refine k6_ ?_ _|refine k7_ ?_|refine k5_ ?_ _));refine blk_put (cs:=#[.int .i64 x459000_1,.slice Ao21 x459001_1.length co21]) ?_ 0 _ rfl;(with_reducible repeat (first|refine k6_ ?_ _|refine k7_ ?_|refine k5_ ?_ _));exact BK458.out⟩,⟨zl4 HB GE449 GE450 GE458 GE468⟩⟩
      ·
       rw [if_neg c20] at H
       exact absurd H (by simp)
     ·
      rw [if_neg c18] at H
      have c18b0 : (((rd_T36 l1 x8_1).f0).toList == ([97,117,116,104,111,114,105,122,97,116,105,111,110] : List UInt8)) = false:=beq_eq_false_iff_ne.mpr c18
      have c18b1 : (((rd_T36 l1 x8_1).f0).toList != ([97,117,116,104,111,114,105,122,97,116,105,111,110] : List UInt8)) = true:=bne_iff_ne.mpr c18
      replace H:=zq1_ H
      obtain ⟨⟨t473,t476,t477⟩,A380,H⟩:=H
      replace H : (if x6_1.length + t473.length < 140737488355328 then (spec_PutFields.l0 k1 l1 (x6_1 ++ t473) (wrap64 (x8_1 + 1)) t476 t477) else (none)) = some (r1,r2,r3):=H
      have A38:=zm0_ A380
      clear A380
      by_cases c39 : x6_1.length + t473.length < 140737488355328
      ·
       rw [if_pos c39] at H
       have LMc39:=zm0_ c39
       clear c39
       obtain ⟨y481,hy481⟩ : ∃ y_ : List Int,y_ = (x6_1 ++ t473):=⟨_,rfl⟩
       replace H : (spec_PutFields.l0 k1 l1 y481 (wrap64 (x8_1 + 1)) t476 t477) = some (r1,r2,r3):=by first|(rw [hy481];with_reducible exact H)|(have H2_:=(Option.bind_some _ _).symm.trans H;rw [hy481];with_reducible exact H2_)|(have H2_:=(Option.bind_some _ _).symm.trans H;with_reducible exact H2_)|with_reducible exact H|(rw [hy481];exact H)|exact H
       have Ny481:=zm0_ hy481
       clear hy481
       have H':=zm0_ H
       clear H
       have p459 : 0 ≤ (x8_1 : Int):=of_decide_eq_true (by first|(with_reducible assumption)|assumption)
       have q459 : x8_1 < (l1.length : Int):=of_decide_eq_true (by first|(with_reducible assumption)|assumption)
       obtain ⟨ad459,e459,hx459_0,hx459_1⟩:=at_T36 HR1.out x8_1 p459 q459
       cases e459
       replace hx459_0:=(HB.out.cell (zq2_ w _ hx459_0)).trans hx459_0
       replace hx459_1:=(HB.out.cell (zq2_ w _ hx459_1)).trans hx459_1
       replace p459:=eq_true p459
       replace q459:=eq_true q459
       obtain ⟨Ao40,co40,eo40⟩:=Kd.R_slice HO_459001.out
       subst eo40
       try go_wp2
       replace HO_6:=zm0_ (k3_ HO_6.out)
       replace HO_459001:=zm0_ (k3_ HO_459001.out)
       replace BK449:=zm0_ (k7_ BK449.out)
       replace BK450:=zm0_ (k7_ BK450.out)
       replace BK458:=zm0_ (k7_ BK458.out)
       replace HB:=zm0_ (zm4_ HB.out)
       have p472 : 0 ≤ (x8_1 : Int):=of_decide_eq_true (by first|(with_reducible assumption)|assumption)
       have q472 : x8_1 < (l1.length : Int):=of_decide_eq_true (by first|(with_reducible assumption)|assumption)
       obtain ⟨ad472,e472,hx472_0,hx472_1⟩:=at_T36 HR1.out x8_1 p472 q472
       have hw472_1:=hx472_1
       have hw472_0:=hx472_0
       obtain rfl : ad459 = ad472:=(by injection e472)
       replace hx472_0:=(HB.out.cell (zq2_ w _ hx472_0)).trans hx472_0
       replace hx472_1:=(HB.out.cell (zq2_ w _ hx472_1)).trans hx472_1
       replace p472:=eq_true p472
       replace q472:=eq_true q472
       refine start_ (n:=13) (S:=fun w' => w'.cell? ⟨gb458,0,none⟩ = some (.int .i64 x459000_1) ∧ w'.cell? ⟨gb458,1,none⟩ = some (.slice Ao40 x459001_1.length co40) ∧ w'.cell? (ad459.add ((x8_1).toNat * 2)) = some (.string ((rd_T36 l1 x8_1).f0)) ∧ w'.cell? ⟨(ad459.add ((x8_1).toNat * 2)).block,(ad459.add ((x8_1).toNat * 2)).off + 1,none⟩ = some (.string ((rd_T36 l1 x8_1).f1))) (ds:=[]) #[Z,Z,Z,Z,Z,Z,Z,Z,Z,Z,Z,Z,Z] (by kernel_rfl) rfl rfl ⟨(zm6_ BK458.out 0).trans rfl,(zm6_ BK458.out 1).trans rfl,((HB.out.cell (zq2_ w _ hw472_0)).trans hw472_0),((HB.out.cell (zq2_ w _ hw472_1)).trans hw472_1)⟩ (fun hHeld => ?_);refine with_tabW spec_PutFields.tab9 spec_PutFields.bits9 (fun HT_ HW_ => ?_)
       generalize wr.drew = w41 at HO_6 HO_459001 BK449 BK450 BK458 HB hx472_0 hx472_1 hHeld ⊢
       refine pure_ (i:=1) (N:=some 29) (v:=?_) (a':=?_) #[Z,Y,Z,Z,Z,Z,Z,Z,Z,Z,Z,Z,Z] rfl rfl (any_of HT_.out (by kernel_rfl)) (fun _ _ _ h => h) (Or.inl ⟨by rfl,?_⟩) ?_ ?_
       rotate_left
       ·
        intro w'
        go_simp
        with_reducible rfl
       rotate_left
       ·
        simp only [Act.put,lA_,lB_,lC_,i64_w,i32_w]
        rfl
       refine pure_ (i:=2) (N:=some 30) (v:=?_) (a':=?_) #[Z,Y,Y,Z,Z,Z,Z,Z,Z,Z,Z,Z,Z] rfl rfl (any_of HT_.out (by kernel_rfl)) (fun _ _ _ h => h) (Or.inl ⟨by rfl,?_⟩) ?_ ?_
       rotate_left
       ·
        intro w'
        go_simp
        with_reducible rfl
       rotate_left
       ·
        simp only [Act.put,lA_,lB_,lC_,i64_w,i32_w]
        rfl
       refine pure_ (i:=3) (N:=some 31) (v:=?_) (a':=?_) #[Z,Y,Y,Y,Z,Z,Z,Z,Z,Z,Z,Z,Z] rfl rfl (any_of HT_.out (by kernel_rfl)) (fun _ _ _ h => h) (Or.inl ⟨by rfl,?_⟩) ?_ ?_
       rotate_left
       ·
        intro w'
        go_simp
        with_reducible rfl
       rotate_left
       ·
        simp only [Act.put,lA_,lB_,lC_,i64_w,i32_w]
        rfl
       refine pure_ (i:=5) (N:=some 33) (v:=?_) (a':=?_) #[Z,Y,Y,Y,Z,Y,Z,Z,Z,Z,Z,Z,Z] rfl rfl (any_of HT_.out (by kernel_rfl)) (fun _ _ _ h => h) (Or.inl ⟨by rfl,?_⟩) ?_ ?_
       rotate_left
       ·
        intro w'
        go_simp
        with_reducible rfl
       rotate_left
       ·
        simp only [Act.put,lA_,lB_,lC_,i64_w,i32_w]
        rfl
       refine take_ (i:=0) (N:=some 28) (v:=?_) (a':=?_) #[Y,Y,Y,Y,Z,Y,Z,Z,Z,Z,Z,Z,Z] rfl rfl (take_ofW HT_.out HW_.out (by kernel_rfl)) (fun _ _ _ h => h) (Or.inl ⟨by rfl,?_⟩) hHeld ?_ ?_
       rotate_left
       ·
        rintro w' ⟨s0,s1,s2,s3⟩
        go_simp
        with_reducible rfl
       rotate_left
       ·
        simp only [Act.put,lA_,lB_,lC_,i64_w,i32_w]
        rfl
       refine take_ (i:=4) (N:=some 32) (v:=?_) (a':=?_) #[Y,Y,Y,Y,Y,Y,Z,Z,Z,Z,Z,Z,Z] rfl rfl (take_ofW HT_.out HW_.out (by kernel_rfl)) (fun _ _ _ h => h) (Or.inl ⟨by rfl,?_⟩) hHeld ?_ ?_
       rotate_left
       ·
        rintro w' ⟨s0,s1,s2,s3⟩
        go_simp
        with_reducible rfl
       rotate_left
       ·
        simp only [Act.put,lA_,lB_,lC_,i64_w,i32_w]
        rfl
       refine join_ (σ:=Value × Value × Nat) 2 #[Y,Y,Y,Y,Y,Y,Y,Y,Y,Y,Y,Z,Z] (fun s_ => [(34,.tuple #[s_.1,.agg #[.int .i64 t476,s_.2.1]]),(11,.pointer (some ⟨s_.2.2,0,none⟩)),(27,.tuple #[s_.1,.agg #[.int .i64 t476,s_.2.1]]),(35,s_.1),(36,.agg #[.int .i64 t476,s_.2.1])]) (fun s_ w' => (w'.cell? ⟨gb458,0,none⟩ = some (.int .i64 x459000_1) ∧ w'.cell? ⟨gb458,1,none⟩ = some (.slice Ao40 x459001_1.length co40) ∧ w'.cell? (ad459.add ((x8_1).toNat * 2)) = some (.string ((rd_T36 l1 x8_1).f0)) ∧ w'.cell? ⟨(ad459.add ((x8_1).toNat * 2)).block,(ad459.add ((x8_1).toNat * 2)).off + 1,none⟩ = some (.string ((rd_T36 l1 x8_1).f1))) ∧ (Kd.R (Kd.int .u8) 5 w' w.heap.size (fun k_ => some k_ ≠ (u6 : Value).ownBlock) s_.1 t473) ∧ (Kd.R k36 36 w' w.heap.size (fun k_ => some k_ ≠ (.slice Ao40 x459001_1.length co40 : Value).ownBlock) s_.2.1 t477) ∧ (Kd.R k36 36 w' w.heap.size (fun k_ => some k_ ≠ (s_.2.1 : Value).ownBlock) (.slice Ao40 x459001_1.length co40) x459001_1) ∧ (Kd.R (Kd.int .u8) 5 w' w.heap.size (fun k_ => some k_ ≠ (s_.1 : Value).ownBlock) u6 x6_1) ∧ (w'.heap[gb449]? = some (.cells #[.int .i64 a0_0,.slice A0_1 l0_1.length c0_1] 32 (0,0))) ∧ (w'.heap[gb450]? = some (.cells #[.int .i64 0,.slice none 0 0] 32 (0,0))) ∧ (w'.heap[gb458]? = some (.cells #[.int .i64 x459000_1,.slice Ao40 x459001_1.length co40] 32 (0,0))) ∧ (w'.heap[s_.2.2]? = some (.cells #[.int .i64 0,.slice none 0 0] 32 (0,0))) ∧ (w.heap.size ≤ s_.2.2) ∧ (w.heap.size ≤ s_.2.2) ∧ (gb449 ≠ s_.2.2) ∧ (s_.2.2 ≠ gb449) ∧ (gb450 ≠ s_.2.2) ∧ (s_.2.2 ≠ gb450) ∧ (gb458 ≠ s_.2.2) ∧ (s_.2.2 ≠ gb458) ∧ (Below w.heap.size w w')) ?_ ?_
       rotate_left
       ·
        intro hCont
        refine two_ (i:=6) (j:=10) (Ni:=some 34) (Nj:=some 11) #[Y,Y,Y,Y,Y,Y,Y,Z,Z,Z,Z,Z,Z] #[Y,Y,Y,Y,Y,Y,Z,Z,Z,Z,Y,Z,Z] rfl rfl rfl rfl (two_of HT_.out (by kernel_rfl)) (by decide) (by decide) (fun K hK => ?_) (fun K hK => ?_)
        ·
         skip
         refine goes_ Tryz.func7 (by kernel_rfl) rfl #[.agg #[.int .i64 x459000_1,.slice Ao40 x459001_1.length co40],.agg #[.string ((rd_T36 l1 x8_1).f0),.string ((rd_T36 l1 x8_1).f1)],.int .i64 1] (by rfl) rfl rfl zy ?_
         with_reducible refine (spec_PutField.calls k1 x459000_1 _ _ x459001_1 ((rd_T36 l1 x8_1).f0) ((rd_T36 l1 x8_1).f1) 1 t473 t476 t477 _ ?side1 ?side2 A38.out).mono ?_
         (case side1 => repeat (first|exact (Kd.R_reads' HO_459001.out).2.2|(with_reducible refine Kd.C_alloc ?_ _)|(with_reducible refine Kd.C_drewN ?_ _)|(with_reducible refine Kd.C_drew ?_)))
         (case side2 => exact (Kd.R_reads' HO_459001.out).2.1)
         rintro e w42 ⟨v474,v478,rfl,ho0,ho1,hb⟩
         refine ⟨_,rfl,?_⟩
         have HO475:=zm0_ (zo1_ (Kd.R_new' ho0 (Kd.R_lt (zr HO_6))) (zn9_ (zl3 HB GE449 GE450 GE458)))
         replace HO_6:=zm0_ (Kd.R_elder' (zr HO_6) (Kd.R_base ho0) hb)
         have HO479:=zm0_ (zo1_ (Kd.R_new' ho1 (Kd.R_lt (zr HO_459001))) (zn9_ (zl3 HB GE449 GE450 GE458)))
         replace HO_459001:=zm0_ (Kd.R_elder' (zr HO_459001) (Kd.R_base ho1) hb)
         replace BK449:=zm0_ (zm5_ (zb BK449) hb)
         replace BK450:=zm0_ (zm5_ (zb BK450) hb)
         replace BK458:=zm0_ (zm5_ (zb BK458) hb)
         replace HB:=zm0_ (zn8_ (zl3 HB GE449 GE450 GE458) hb)
         (try clear hb)
         (try clear hb2)
         (try clear hk)
         (try clear hi)
         (try clear ho0)
         (try clear ho1)
         refine hK.out _ _ ⟨(zm6_ BK458.out 0).trans rfl,(zm6_ BK458.out 1).trans rfl,((HB.out.cell (zq2_ w _ hw472_0)).trans hw472_0),((HB.out.cell (zq2_ w _ hw472_1)).trans hw472_1)⟩ (fun hHeld => ?_)
         clear hK K
         refine norm_ (a':=?_) ?_ ?_
         rotate_left
         ·
          show Act.put _ (some 34) _ = _
          simp only [Act.put,lA_,lB_,lC_,i64_w,i32_w]
          rfl
         refine pure_ (i:=7) (N:=some 27) (v:=?_) (a':=?_) #[Y,Y,Y,Y,Y,Y,Y,Y,Z,Z,Z,Z,Z] rfl rfl (any_of HT_.out (by kernel_rfl)) (fun _ _ _ h => h) (Or.inl ⟨by rfl,?_⟩) ?_ ?_
         rotate_left
         ·
          intro w'
          go_simp
          with_reducible rfl
         rotate_left
         ·
          simp only [Act.put,lA_,lB_,lC_,i64_w,i32_w]
          rfl
         refine pure_ (i:=8) (N:=some 35) (v:=?_) (a':=?_) #[Y,Y,Y,Y,Y,Y,Y,Y,Y,Z,Z,Z,Z] rfl rfl (any_of HT_.out (by kernel_rfl)) (fun _ _ _ h => h) (Or.inl ⟨by rfl,?_⟩) ?_ ?_
         rotate_left
         ·
          intro w'
          go_simp
          with_reducible rfl
         rotate_left
         ·
          simp only [Act.put,lA_,lB_,lC_,i64_w,i32_w]
          rfl
         refine pure_ (i:=9) (N:=some 36) (v:=?_) (a':=?_) #[Y,Y,Y,Y,Y,Y,Y,Y,Y,Y,Z,Z,Z] rfl rfl (any_of HT_.out (by kernel_rfl)) (fun _ _ _ h => h) (Or.inl ⟨by rfl,?_⟩) ?_ ?_
         rotate_left
         ·
          intro w'
          go_simp
          with_reducible rfl
         rotate_left
         ·
          simp only [Act.put,lA_,lB_,lC_,i64_w,i32_w]
          rfl
         refine one_ (i:=10) (N:=some 11) #[Y,Y,Y,Y,Y,Y,Y,Y,Y,Y,Y,Z,Z] rfl rfl (one_of HT_.out (by kernel_rfl)) (by decide) (fun K hK => ?_)
         refine box_step ?hg (N:=11) ?hd (cs:=#[.int .i64 0,.slice none 0 0]) (t:=32) ?hr ?_;(case hd => rfl);(case hg => rfl);(case hr => first|(go_simp;done)|(go_simp;rfl))
         intro gb480 hg w43 hbox hb
         replace HO_6:=zm0_ (zm8_ (zr HO_6) hb)
         replace HO_459001:=zm0_ (zm8_ (zr HO_459001) hb)
         replace HO475:=zm0_ (zm8_ (zr HO475) hb)
         replace HO479:=zm0_ (zm8_ (zr HO479) hb)
         have BK480:=zm0_ (hbox)
         have GW480:=zm0_ ((by rw [hg];exact (zn9_ (zl3 HB GE449 GE450 GE458)) : w.heap.size ≤ gb480))
         have GE480:=zm0_ ((by rw [hg];exact (zn9_ (zl3 HB GE449 GE450 GE458)) : w.heap.size ≤ gb480))
         replace HB:=zm0_ (zn8_ (zl3 HB GE449 GE450 GE458) hb)
         have NB449_480:=zm0_ ((by rw [hg];exact Nat.ne_of_lt (zo3_ (g:=gb449) (o:=.cells #[.int .i64 a0_0,.slice A0_1 l0_1.length c0_1] 32 (0,0)) (zb BK449)) : gb449 ≠ gb480))
         have NB480_449:=zm0_ ((by rw [hg];exact Nat.ne_of_gt (zo3_ (g:=gb449) (o:=.cells #[.int .i64 a0_0,.slice A0_1 l0_1.length c0_1] 32 (0,0)) (zb BK449)) : gb480 ≠ gb449))
         replace BK449:=zm0_ (zm5_ (zb BK449) hb)
         have NB450_480:=zm0_ ((by rw [hg];exact Nat.ne_of_lt (zo3_ (g:=gb450) (o:=.cells #[.int .i64 0,.slice none 0 0] 32 (0,0)) (zb BK450)) : gb450 ≠ gb480))
         have NB480_450:=zm0_ ((by rw [hg];exact Nat.ne_of_gt (zo3_ (g:=gb450) (o:=.cells #[.int .i64 0,.slice none 0 0] 32 (0,0)) (zb BK450)) : gb480 ≠ gb450))
         replace BK450:=zm0_ (zm5_ (zb BK450) hb)
         have NB458_480:=zm0_ ((by rw [hg];exact Nat.ne_of_lt (zo3_ (g:=gb458) (o:=.cells #[.int .i64 x459000_1,.slice Ao40 x459001_1.length co40] 32 (0,0)) (zb BK458)) : gb458 ≠ gb480))
         have NB480_458:=zm0_ ((by rw [hg];exact Nat.ne_of_gt (zo3_ (g:=gb458) (o:=.cells #[.int .i64 x459000_1,.slice Ao40 x459001_1.length co40] 32 (0,0)) (zb BK458)) : gb480 ≠ gb458))
         replace BK458:=zm0_ (zm5_ (zb BK458) hb)
         clear hb hbox hg
         refine hK.out _ _ ⟨(zm6_ BK458.out 0).trans rfl,(zm6_ BK458.out 1).trans rfl,((HB.out.cell (zq2_ w _ hw472_0)).trans hw472_0),((HB.out.cell (zq2_ w _ hw472_1)).trans hw472_1)⟩ (fun hHeld => ?_)
         clear hK K
         refine norm_ (a':=?_) ?_ ?_
         rotate_left
         ·
          show Act.put _ (some 11) _ = _
          simp only [Act.put,lA_,lB_,lC_,i64_w,i32_w]
          rfl
         exact norm_ (by simp only [putAll,Act.put,lA_,lB_,lC_]) (hCont (v474,v478,gb480) _ ⟨hHeld,(zs (zo2_ HO475.out (fun _ hk => (by first|exact hk.2|(have hq_:=hk;simp only [ne_eq] at hq_ ⊢;simp only [hq_,not_false_eq_true,and_self]))))),(zs (zo2_ HO479.out (fun _ hk => (by first|exact hk.2|(have hq_:=hk;simp only [ne_eq] at hq_ ⊢;simp only [hq_,not_false_eq_true,and_self]))))),(zs (zo2_ HO_459001.out (fun _ hk => (by first|exact hk.2|(have hq_:=hk;simp only [ne_eq] at hq_ ⊢;simp only [hq_,not_false_eq_true,and_self]))))),(zs (zo2_ HO_6.out (fun _ hk => (by first|exact hk.2|(have hq_:=hk;simp only [ne_eq] at hq_ ⊢;simp only [hq_,not_false_eq_true,and_self]))))),(zb BK449),(zb BK450),(zb BK458),(zb BK480),GW480.out,GE480.out,NB449_480.out,NB480_449.out,NB450_480.out,NB480_450.out,NB458_480.out,NB480_458.out,(zl4 HB GE449 GE450 GE458 GE480)⟩)
        ·
         skip
         refine box_step ?hg (N:=11) ?hd (cs:=#[.int .i64 0,.slice none 0 0]) (t:=32) ?hr ?_;(case hd => rfl);(case hg => rfl);(case hr => first|(go_simp;done)|(go_simp;rfl))
         intro gb480 hg w42 hbox hb
         replace HO_6:=zm0_ (zm8_ (zr HO_6) hb)
         replace HO_459001:=zm0_ (zm8_ (zr HO_459001) hb)
         have BK480:=zm0_ (hbox)
         have GW480:=zm0_ ((by rw [hg];exact (zn9_ (zl3 HB GE449 GE450 GE458)) : w.heap.size ≤ gb480))
         have GE480:=zm0_ ((by rw [hg];exact (zn9_ (zl3 HB GE449 GE450 GE458)) : w.heap.size ≤ gb480))
         replace HB:=zm0_ (zn8_ (zl3 HB GE449 GE450 GE458) hb)
         have NB449_480:=zm0_ ((by rw [hg];exact Nat.ne_of_lt (zo3_ (g:=gb449) (o:=.cells #[.int .i64 a0_0,.slice A0_1 l0_1.length c0_1] 32 (0,0)) (zb BK449)) : gb449 ≠ gb480))
         have NB480_449:=zm0_ ((by rw [hg];exact Nat.ne_of_gt (zo3_ (g:=gb449) (o:=.cells #[.int .i64 a0_0,.slice A0_1 l0_1.length c0_1] 32 (0,0)) (zb BK449)) : gb480 ≠ gb449))
         replace BK449:=zm0_ (zm5_ (zb BK449) hb)
         have NB450_480:=zm0_ ((by rw [hg];exact Nat.ne_of_lt (zo3_ (g:=gb450) (o:=.cells #[.int .i64 0,.slice none 0 0] 32 (0,0)) (zb BK450)) : gb450 ≠ gb480))
         have NB480_450:=zm0_ ((by rw [hg];exact Nat.ne_of_gt (zo3_ (g:=gb450) (o:=.cells #[.int .i64 0,.slice none 0 0] 32 (0,0)) (zb BK450)) : gb480 ≠ gb450))
         replace BK450:=zm0_ (zm5_ (zb BK450) hb)
         have NB458_480:=zm0_ ((by rw [hg];exact Nat.ne_of_lt (zo3_ (g:=gb458) (o:=.cells #[.int .i64 x459000_1,.slice Ao40 x459001_1.length co40] 32 (0,0)) (zb BK458)) : gb458 ≠ gb480))
         have NB480_458:=zm0_ ((by rw [hg];exact Nat.ne_of_gt (zo3_ (g:=gb458) (o:=.cells #[.int .i64 x459000_1,.slice Ao40 x459001_1.length co40] 32 (0,0)) (zb BK458)) : gb480 ≠ gb458))
         replace BK458:=zm0_ (zm5_ (zb BK458) hb)
         clear hb hbox hg
         refine hK.out _ _ ⟨(zm6_ BK458.out 0).trans rfl,(zm6_ BK458.out 1).trans rfl,((HB.out.cell (zq2_ w _ hw472_0)).trans hw472_0),((HB.out.cell (zq2_ w _ hw472_1)).trans hw472_1)⟩ (fun hHeld => ?_)
         clear hK K
         refine norm_ (a':=?_) ?_ ?_
         rotate_left
         ·
          show Act.put _ (some 11) _ = _
          simp only [Act.put,lA_,lB_,lC_,i64_w,i32_w]
          rfl
         refine one_ (i:=6) (N:=some 34) #[Y,Y,Y,Y,Y,Y,Y,Z,Z,Z,Y,Z,Z] rfl rfl (one_of HT_.out (by kernel_rfl)) (by decide) (fun K hK => ?_)
         refine goes_ Tryz.func7 (by kernel_rfl) rfl #[.agg #[.int .i64 x459000_1,.slice Ao40 x459001_1.length co40],.agg #[.string ((rd_T36 l1 x8_1).f0),.string ((rd_T36 l1 x8_1).f1)],.int .i64 1] (by rfl) rfl rfl zy ?_
         with_reducible refine (spec_PutField.calls k1 x459000_1 _ _ x459001_1 ((rd_T36 l1 x8_1).f0) ((rd_T36 l1 x8_1).f1) 1 t473 t476 t477 _ ?side1 ?side2 A38.out).mono ?_
         (case side1 => repeat (first|exact (Kd.R_reads' HO_459001.out).2.2|(with_reducible refine Kd.C_alloc ?_ _)|(with_reducible refine Kd.C_drewN ?_ _)|(with_reducible refine Kd.C_drew ?_)))
         (case side2 => exact (Kd.R_reads' HO_459001.out).2.1)
         rintro e w43 ⟨v474,v478,rfl,ho0,ho1,hb⟩
         refine ⟨_,rfl,?_⟩
         have HO475:=zm0_ (zo1_ (Kd.R_new' ho0 (Kd.R_lt (zr HO_6))) (zn9_ (zl4 HB GE449 GE450 GE458 GE480)))
         replace HO_6:=zm0_ (Kd.R_elder' (zr HO_6) (Kd.R_base ho0) hb)
         have HO479:=zm0_ (zo1_ (Kd.R_new' ho1 (Kd.R_lt (zr HO_459001))) (zn9_ (zl4 HB GE449 GE450 GE458 GE480)))
         replace HO_459001:=zm0_ (Kd.R_elder' (zr HO_459001) (Kd.R_base ho1) hb)
         replace BK449:=zm0_ (zm5_ (zb BK449) hb)
         replace BK450:=zm0_ (zm5_ (zb BK450) hb)
         replace BK458:=zm0_ (zm5_ (zb BK458) hb)
         replace BK480:=zm0_ (zm5_ (zb BK480) hb)
         replace HB:=zm0_ (zn8_ (zl4 HB GE449 GE450 GE458 GE480) hb)
         (try clear hb)
         (try clear hb2)
         (try clear hk)
         (try clear hi)
         (try clear ho0)
         (try clear ho1)
         refine hK.out _ _ ⟨(zm6_ BK458.out 0).trans rfl,(zm6_ BK458.out 1).trans rfl,((HB.out.cell (zq2_ w _ hw472_0)).trans hw472_0),((HB.out.cell (zq2_ w _ hw472_1)).trans hw472_1)⟩ (fun hHeld => ?_)
         clear hK K
         refine norm_ (a':=?_) ?_ ?_
         rotate_left
         ·
          show Act.put _ (some 34) _ = _
          simp only [Act.put,lA_,lB_,lC_,i64_w,i32_w]
          rfl
         refine pure_ (i:=7) (N:=some 27) (v:=?_) (a':=?_) #[Y,Y,Y,Y,Y,Y,Y,Y,Z,Z,Y,Z,Z] rfl rfl (any_of HT_.out (by kernel_rfl)) (fun _ _ _ h => h) (Or.inl ⟨by rfl,?_⟩) ?_ ?_
         rotate_left
         ·
          intro w'
          go_simp
          with_reducible rfl
         rotate_left
         ·
          simp only [Act.put,lA_,lB_,lC_,i64_w,i32_w]
          rfl
         refine pure_ (i:=8) (N:=some 35) (v:=?_) (a':=?_) #[Y,Y,Y,Y,Y,Y,Y,Y,Y,Z,Y,Z,Z] rfl rfl (any_of HT_.out (by kernel_rfl)) (fun _ _ _ h => h) (Or.inl ⟨by rfl,?_⟩) ?_ ?_
         rotate_left
         ·
          intro w'
          go_simp
          with_reducible rfl
         rotate_left
         ·
          simp only [Act.put,lA_,lB_,lC_,i64_w,i32_w]
          rfl
         refine pure_ (i:=9) (N:=some 36) (v:=?_) (a':=?_) #[Y,Y,Y,Y,Y,Y,Y,Y,Y,Y,Y,Z,Z] rfl rfl (any_of HT_.out (by kernel_rfl)) (fun _ _ _ h => h) (Or.inl ⟨by rfl,?_⟩) ?_ ?_
         rotate_left
         ·
          intro w'
          go_simp
          with_reducible rfl
         rotate_left
         ·
          simp only [Act.put,lA_,lB_,lC_,i64_w,i32_w]
          rfl
         exact norm_ (by simp only [putAll,Act.put,lA_,lB_,lC_]) (hCont (v474,v478,gb480) _ ⟨hHeld,(zs (zo2_ HO475.out (fun _ hk => (by first|exact hk.2|(have hq_:=hk;simp only [ne_eq] at hq_ ⊢;simp only [hq_,not_false_eq_true,and_self]))))),(zs (zo2_ HO479.out (fun _ hk => (by first|exact hk.2|(have hq_:=hk;simp only [ne_eq] at hq_ ⊢;simp only [hq_,not_false_eq_true,and_self]))))),(zs (zo2_ HO_459001.out (fun _ hk => (by first|exact hk.2|(have hq_:=hk;simp only [ne_eq] at hq_ ⊢;simp only [hq_,not_false_eq_true,and_self]))))),(zs (zo2_ HO_6.out (fun _ hk => (by first|exact hk.2|(have hq_:=hk;simp only [ne_eq] at hq_ ⊢;simp only [hq_,not_false_eq_true,and_self]))))),(zb BK449),(zb BK450),(zb BK458),(zb BK480),GW480.out,GE480.out,NB449_480.out,NB480_449.out,NB450_480.out,NB480_450.out,NB458_480.out,NB480_458.out,(zl4 HB GE449 GE450 GE458 GE480)⟩)
       rintro ⟨v474,v478,gb480⟩ w44 ⟨hS_,h0_,h1_,h2_,h3_,h4_,h5_,h6_,h7_,h8_,h9_,h10_,h11_,h12_,h13_,h14_,h15_,h16_⟩
       have n0_ : Aside0 (Kd.R (Kd.int .u8) 5 w44 w.heap.size (fun k_ => some k_ ≠ (u6 : Value).ownBlock) v474 t473):=⟨h0_⟩
       have n1_ : Aside0 (Kd.R k36 36 w44 w.heap.size (fun k_ => some k_ ≠ (.slice Ao40 x459001_1.length co40 : Value).ownBlock) v478 t477):=⟨h1_⟩
       have n2_ : Aside0 (Kd.R k36 36 w44 w.heap.size (fun k_ => some k_ ≠ (v478 : Value).ownBlock) (.slice Ao40 x459001_1.length co40) x459001_1):=⟨h2_⟩
       have n3_ : Aside0 (Kd.R (Kd.int .u8) 5 w44 w.heap.size (fun k_ => some k_ ≠ (v474 : Value).ownBlock) u6 x6_1):=⟨h3_⟩
       have n4_ : Aside0 (w44.heap[gb449]? = some (.cells #[.int .i64 a0_0,.slice A0_1 l0_1.length c0_1] 32 (0,0))):=⟨h4_⟩
       have n5_ : Aside0 (w44.heap[gb450]? = some (.cells #[.int .i64 0,.slice none 0 0] 32 (0,0))):=⟨h5_⟩
       have n6_ : Aside0 (w44.heap[gb458]? = some (.cells #[.int .i64 x459000_1,.slice Ao40 x459001_1.length co40] 32 (0,0))):=⟨h6_⟩
       have n7_ : Aside0 (w44.heap[gb480]? = some (.cells #[.int .i64 0,.slice none 0 0] 32 (0,0))):=⟨h7_⟩
       have n8_ : Aside0 (w.heap.size ≤ gb480):=⟨h8_⟩
       have n9_ : Aside0 (w.heap.size ≤ gb480):=⟨h9_⟩
       have n10_ : Aside0 (gb449 ≠ gb480):=⟨h10_⟩
       have n11_ : Aside0 (gb480 ≠ gb449):=⟨h11_⟩
       have n12_ : Aside0 (gb450 ≠ gb480):=⟨h12_⟩
       have n13_ : Aside0 (gb480 ≠ gb450):=⟨h13_⟩
       have n14_ : Aside0 (gb458 ≠ gb480):=⟨h14_⟩
       have n15_ : Aside0 (gb480 ≠ gb458):=⟨h15_⟩
       have n16_ : Aside0 (Below w.heap.size w w44):=⟨h16_⟩
       clear HO_6 HO_459001 BK449 BK450 BK458 HB h0_ h1_ h2_ h3_ h4_ h5_ h6_ h7_ h8_ h9_ h10_ h11_ h12_ h13_ h14_ h15_ h16_
       have HO475:=n0_
       have HO479:=n1_
       have HO_459001:=n2_
       have HO_6:=n3_
       have BK449:=n4_
       have BK450:=n5_
       have BK458:=n6_
       have BK480:=n7_
       have GW480:=n8_
       have GE480:=n9_
       have NB449_480:=n10_
       have NB480_449:=n11_
       have NB450_480:=n12_
       have NB480_450:=n13_
       have NB458_480:=n14_
       have NB480_458:=n15_
       have HB:=n16_
       clear n0_ n1_ n2_ n3_ n4_ n5_ n6_ n7_ n8_ n9_ n10_ n11_ n12_ n13_ n14_ n15_ n16_
       have hHeld : w44.cell? ⟨gb458,0,none⟩ = some (.int .i64 x459000_1) ∧ w44.cell? ⟨gb458,1,none⟩ = some (.slice Ao40 x459001_1.length co40) ∧ w44.cell? (ad459.add ((x8_1).toNat * 2)) = some (.string ((rd_T36 l1 x8_1).f0)) ∧ w44.cell? ⟨(ad459.add ((x8_1).toNat * 2)).block,(ad459.add ((x8_1).toNat * 2)).off + 1,none⟩ = some (.string ((rd_T36 l1 x8_1).f1)):=hS_
       obtain ⟨Ao46,co46,eo46⟩:=Kd.R_slice HO479.out
       (first|subst eo46|(injection eo46 with f1_ f2_ f3_;have f4_:=f1_.symm;have f5_:=f3_.symm;clear f1_ f2_ f3_;subst f4_;subst f5_))
       refine norm_ (a':=?_) ?_ ?_
       rotate_left
       ·
        simp only [putAll,Act.put,lA_,lB_,lC_]
        rfl
       refine pure_ (i:=11) (N:=some 10) (v:=?_) (a':=?_) #[Y,Y,Y,Y,Y,Y,Y,Y,Y,Y,Y,Y,Z] rfl rfl (any_of HT_.out (by kernel_rfl)) (fun _ _ _ h => h) (Or.inl ⟨by rfl,?_⟩) ?_ ?_
       rotate_left
       ·
        intro w'
        go_simp
        with_reducible rfl
       rotate_left
       ·
        simp only [Act.put,lA_,lB_,lC_,i64_w,i32_w]
        rfl
       refine one_ (i:=12) (N:=none) #[Y,Y,Y,Y,Y,Y,Y,Y,Y,Y,Y,Y,Y] rfl rfl (one_of HT_.out (by kernel_rfl)) (by decide) (fun K hK => ?_)
       have hs45 : w44.cell? ⟨gb480,0,none⟩ = some (.int .i64 0):=(zm6_ BK480.out 0).trans rfl
       have hfs45:=zm7_ BK480.out 0
       have hns45_0:=NB449_480.out
       have hns45_1:=NB450_480.out
       have hns45_2:=NB458_480.out
       have hms45_0:=NB480_449.out
       have hms45_1:=NB480_450.out
       have hms45_2:=NB480_458.out
       have hs47 : w44.cell? ⟨gb480,1,none⟩ = some (.slice none 0 0):=(zm6_ BK480.out 1).trans rfl
       have hfs47:=zm7_ BK480.out 1
       have hns47_0:=NB449_480.out
       have hns47_1:=NB450_480.out
       have hns47_2:=NB458_480.out
       have hms47_0:=NB480_449.out
       have hms47_1:=NB480_450.out
       have hms47_2:=NB480_458.out
       refine skip_ (w1:=?_) (by rfl) rfl ?_ ?_
       rotate_left
       ·
        go_simp
        rfl
       refine hK.out _ _ ⟨((cell_far (p:=⟨gb480,_,none⟩) NB458_480.out _).trans (((cell_far (p:=⟨gb480,_,none⟩) NB458_480.out _).trans (hHeld.1)))),((cell_far (p:=⟨gb480,_,none⟩) NB458_480.out _).trans (((cell_far (p:=⟨gb480,_,none⟩) NB458_480.out _).trans (hHeld.2.1)))),((cell_far (p:=⟨gb480,_,none⟩) (by first|exact Nat.ne_of_lt (Nat.lt_of_lt_of_le (by have:=zq2_ _ _ hw472_0;first|rwa [add_block] at this|exact this) GW480.out)|(rw [add_block];exact Nat.ne_of_lt (Nat.lt_of_lt_of_le (by have:=zq2_ _ _ hw472_0;first|rwa [add_block] at this|exact this) GW480.out))|(show (Addr.add _ _).block ≠ _;rw [add_block];exact Nat.ne_of_lt (Nat.lt_of_lt_of_le (by have:=zq2_ _ _ hw472_0;first|rwa [add_block] at this|exact this) GW480.out))|(dsimp only;exact Nat.ne_of_lt (Nat.lt_of_lt_of_le (by have:=zq2_ _ _ hw472_0;first|rwa [add_block] at this|exact this) GW480.out))) _).trans (((cell_far (p:=⟨gb480,_,none⟩) (by first|exact Nat.ne_of_lt (Nat.lt_of_lt_of_le (by have:=zq2_ _ _ hw472_0;first|rwa [add_block] at this|exact this) GW480.out)|(rw [add_block];exact Nat.ne_of_lt (Nat.lt_of_lt_of_le (by have:=zq2_ _ _ hw472_0;first|rwa [add_block] at this|exact this) GW480.out))|(show (Addr.add _ _).block ≠ _;rw [add_block];exact Nat.ne_of_lt (Nat.lt_of_lt_of_le (by have:=zq2_ _ _ hw472_0;first|rwa [add_block] at this|exact this) GW480.out))|(dsimp only;exact Nat.ne_of_lt (Nat.lt_of_lt_of_le (by have:=zq2_ _ _ hw472_0;first|rwa [add_block] at this|exact this) GW480.out))) _).trans (hHeld.2.2.1)))),((cell_far (p:=⟨gb480,_,none⟩) (by first|exact Nat.ne_of_lt (Nat.lt_of_lt_of_le (by have:=zq2_ _ _ hw472_1;first|rwa [add_block] at this|exact this) GW480.out)|(rw [add_block];exact Nat.ne_of_lt (Nat.lt_of_lt_of_le (by have:=zq2_ _ _ hw472_1;first|rwa [add_block] at this|exact this) GW480.out))|(show (Addr.add _ _).block ≠ _;rw [add_block];exact Nat.ne_of_lt (Nat.lt_of_lt_of_le (by have:=zq2_ _ _ hw472_1;first|rwa [add_block] at this|exact this) GW480.out))|(dsimp only;exact Nat.ne_of_lt (Nat.lt_of_lt_of_le (by have:=zq2_ _ _ hw472_1;first|rwa [add_block] at this|exact this) GW480.out))) _).trans (((cell_far (p:=⟨gb480,_,none⟩) (by first|exact Nat.ne_of_lt (Nat.lt_of_lt_of_le (by have:=zq2_ _ _ hw472_1;first|rwa [add_block] at this|exact this) GW480.out)|(rw [add_block];exact Nat.ne_of_lt (Nat.lt_of_lt_of_le (by have:=zq2_ _ _ hw472_1;first|rwa [add_block] at this|exact this) GW480.out))|(show (Addr.add _ _).block ≠ _;rw [add_block];exact Nat.ne_of_lt (Nat.lt_of_lt_of_le (by have:=zq2_ _ _ hw472_1;first|rwa [add_block] at this|exact this) GW480.out))|(dsimp only;exact Nat.ne_of_lt (Nat.lt_of_lt_of_le (by have:=zq2_ _ _ hw472_1;first|rwa [add_block] at this|exact this) GW480.out))) _).trans (hHeld.2.2.2))))⟩ (fun hHeld => ?_)
       clear hK K
       refine done_ (done_of HT_.out (by kernel_rfl)) ?_
       obtain ⟨Ao49,co49,eo49⟩:=Kd.R_slice HO475.out
       subst eo49
       try go_wp2_with (first|((with_reducible refine gate_builtin (b:=.append) (xs:=#[.tmp 37,.tmp 38]) rfl ?_);at_builtin;refine Kd.R_append_rows (Kd.int .u8) (w0:=w) w.heap.size rfl (.tmp 37) (.tmp 38) 29 5 (.int .u8 0) 1 rfl Tryz.underlying29 info5 rfl (by decide) (by omega) u6 x6_1 t473 _ _ _ (fun k_ => some k_ ≠ (.slice Ao49 t473.length co49 : Value).ownBlock) (fun _ => False) rfl rfl ?aO ?aR (fun _ _ h => h) (fun _ h => h.elim) ?aF ?aB ?aS ?aL ?_;(case aR => refine (Kd.R_reads' (e:=5) (base:=w.heap.size) (ok:=fun k_ => some k_ ≠ (u6 : Value).ownBlock) (n:=t473.length) (c:=co49) ?_).2.2;exact (zs (zo2_ (k4_ (p:=⟨gb480,1,none⟩) (k4_ (p:=⟨gb480,0,none⟩) (Kd.R_types HO475.out BK480.out (by decide)) (fun _ hk => hk.2) (.int .i64 t476)) (fun _ hk => hk.2) (.slice Ao46 t477.length co46)) (fun _ h_ => h_.1))));(case aB => exact (zl4 HB GE449 GE450 GE458 GE480));(case aF => exact (fun k_ hk => Kd.fresh' (Kd.R_lt (zs (zo2_ (k4_ (p:=⟨gb480,1,none⟩) (k4_ (p:=⟨gb480,0,none⟩) (Kd.R_types HO475.out BK480.out (by decide)) (fun _ hk => hk.2) (.int .i64 t476)) (fun _ hk => hk.2) (.slice Ao46 t477.length co46)) (fun _ h_ => h_.1)))) k_ hk));(case aO => exact (zs (zo2_ (k4_ (p:=⟨gb480,1,none⟩) (k4_ (p:=⟨gb480,0,none⟩) (Kd.R_types HO_6.out BK480.out (by decide)) (fun _ hk => hk.2) (.int .i64 t476)) (fun _ hk => hk.2) (.slice Ao46 t477.length co46)) (fun _ hk => (by first|exact hk.1|(have hq_:=hk;simp only [ne_eq] at hq_ ⊢;simp only [hq_,not_false_eq_true,and_self]))))));(case aS => exact (zn9_ (zl4 HB GE449 GE450 GE458 GE480)));(case aL => have:=LMc39.out;omega);intro v482 w48 ho hb hg hat;(first|(with_reducible rw [← Ny481.out] at ho)|(simp only [Int.reduceToNat] at ho;with_reducible rw [← Ny481.out] at ho)|rw [← Ny481.out] at ho);replace HO_459001:=zm0_ (Kd.R_over' (zs (zo2_ (k4_ (p:=⟨gb480,1,none⟩) (k4_ (p:=⟨gb480,0,none⟩) (Kd.R_types HO_459001.out BK480.out (by decide)) (fun _ hk => hk.2) (.int .i64 t476)) (fun _ hk => hk.2) (.slice Ao46 t477.length co46)) (fun _ h_ => h_.1))) (Kd.R_typed (zs (zo2_ (k4_ (p:=⟨gb480,1,none⟩) (k4_ (p:=⟨gb480,0,none⟩) (Kd.R_types HO_6.out BK480.out (by decide)) (fun _ hk => hk.2) (.int .i64 t476)) (fun _ hk => hk.2) (.slice Ao46 t477.length co46)) (fun _ h_ => h_.1)))) (by decide) hg);replace BK449:=zm0_ (blk_grown (g:=gb449) (o:=.cells #[.int .i64 a0_0,.slice A0_1 l0_1.length c0_1] 32 (0,0)) (by (with_reducible repeat (first|refine k6_ ?_ _|refine k7_ ?_|refine k5_ ?_ _));refine blk_far ?_ NB449_480.out _;(with_reducible repeat (first|refine k6_ ?_ _|refine k7_ ?_|refine k5_ ?_ _));refine blk_far ?_ NB449_480.out _;(with_reducible repeat (first|refine k6_ ?_ _|refine k7_ ?_|refine k5_ ?_ _));exact BK449.out) hg (Kd.R_ne HO_6.out BK449.out (by decide)));replace BK450:=zm0_ (blk_grown (g:=gb450) (o:=.cells #[.int .i64 0,.slice none 0 0] 32 (0,0)) (by (with_reducible repeat (first|refine k6_ ?_ _|refine k7_ ?_|refine k5_ ?_ _));refine blk_far ?_ NB450_480.out _;(with_reducible repeat (first|refine k6_ ?_ _|refine k7_ ?_|refine k5_ ?_ _));refine blk_far ?_ NB450_480.out _;(with_reducible repeat (first|refine k6_ ?_ _|refine k7_ ?_|refine k5_ ?_ _));exact BK450.out) hg (Kd.R_ne HO_6.out BK450.out (by decide)));replace BK458:=zm0_ (blk_grown (g:=gb458) (o:=.cells #[.int .i64 x459000_1,.slice Ao40 x459001_1.length co40] 32 (0,0)) (by (with_reducible repeat (first|refine k6_ ?_ _|refine k7_ ?_|refine k5_ ?_ _));refine blk_far ?_ NB458_480.out _;(with_reducible repeat (first|refine k6_ ?_ _|refine k7_ ?_|refine k5_ ?_ _));refine blk_far ?_ NB458_480.out _;(with_reducible repeat (first|refine k6_ ?_ _|refine k7_ ?_|refine k5_ ?_ _));exact BK458.out) hg (Kd.R_ne HO_6.out BK458.out (by decide)));replace HO475:=zm0_ (Kd.R_after (ok:=(fun _ => True)) (zs (zo2_ (k4_ (p:=⟨gb480,1,none⟩) (k4_ (p:=⟨gb480,0,none⟩) (Kd.R_types HO475.out BK480.out (by decide)) (fun _ hk => hk.2) (.int .i64 t476)) (fun _ hk => hk.2) (.slice Ao46 t477.length co46)) (fun _ hk => ⟨trivial,(by first|exact hk.1|(have hq_:=hk;simp only [ne_eq] at hq_ ⊢;simp only [hq_,not_false_eq_true,and_self]))⟩))) hg hat);replace HO479:=zm0_ (Kd.R_over' (zs (zo2_ (k4_ (p:=⟨gb480,1,none⟩) (k4_ (p:=⟨gb480,0,none⟩) (Kd.R_types HO479.out BK480.out (by decide)) (fun _ hk => hk.2) (.int .i64 t476)) (fun _ hk => hk.2) (.slice Ao46 t477.length co46)) (fun _ h_ => h_.1))) (Kd.R_typed (zs (zo2_ (k4_ (p:=⟨gb480,1,none⟩) (k4_ (p:=⟨gb480,0,none⟩) (Kd.R_types HO_6.out BK480.out (by decide)) (fun _ hk => hk.2) (.int .i64 t476)) (fun _ hk => hk.2) (.slice Ao46 t477.length co46)) (fun _ h_ => h_.1)))) (by decide) hg);replace BK480:=zm0_ (blk_grown (g:=gb480) (o:=.cells #[.int .i64 t476,.slice Ao46 t477.length co46] 32 (0,0)) (by (with_reducible repeat (first|refine k6_ ?_ _|refine k7_ ?_|refine k5_ ?_ _));refine blk_put (cs:=#[.int .i64 t476,.slice none 0 0]) ?_ 1 _ rfl;(with_reducible repeat (first|refine k6_ ?_ _|refine k7_ ?_|refine k5_ ?_ _));refine blk_put (cs:=#[.int .i64 0,.slice none 0 0]) ?_ 0 _ rfl;(with_reducible repeat (first|refine k6_ ?_ _|refine k7_ ?_|refine k5_ ?_ _));exact BK480.out) hg (Kd.R_ne HO_6.out BK480.out (by decide)));replace HB:=zm0_ (hb);have HO483:=zm0_ (ho);clear HO_6;clear ho hb hg hat;have hnb50:=NB480_449.out;have hnc50:=NB449_480.out;have hnb51:=NB480_450.out;have hnc51:=NB450_480.out;have hnb52:=NB480_458.out;have hnc52:=NB458_480.out;have hcz53_0 : w48.cell? ⟨gb480,0,none⟩ = some (.int .i64 t476):=(zm6_ BK480.out 0).trans rfl;have hcz53_1 : w48.cell? ⟨gb480,1,none⟩ = some (.slice Ao46 t477.length co46):=(zm6_ BK480.out 1).trans rfl;have hfz53_0:=zm7_ BK480.out 0;have hfz53_1:=zm7_ BK480.out 1;have hnb54:=NB458_449.out;have hnc54:=NB449_458.out;have hnb55:=NB458_450.out;have hnc55:=NB450_458.out;have hcz56_0 : w48.cell? ⟨gb458,0,none⟩ = some (.int .i64 x459000_1):=(zm6_ BK458.out 0).trans rfl;have hcz56_1 : w48.cell? ⟨gb458,1,none⟩ = some (.slice Ao40 x459001_1.length co40):=(zm6_ BK458.out 1).trans rfl;have hfz56_0:=zm7_ BK458.out 0;have hfz56_1:=zm7_ BK458.out 1))
       go_roundg k1
       case measure => have:=HK1.out;omega
       case rel => exact ⟨(y481),(wrap64 (x8_1 + 1)),(t476),(t477),(.slice Ao46 t477.length co46),zz,H',⟨by have:=HK1.out;omega⟩,⟨by (with_reducible repeat (first|apply k1_|apply k2_|apply k3_));exact zo2_ (k4_ (p:=⟨gb458,1,none⟩) (k4_ (p:=⟨gb458,0,none⟩) (Kd.R_types HO483.out BK458.out (by decide)) (fun _ hk => hk.2) (.int .i64 t476)) (fun _ hk => hk.2) (.slice Ao46 t477.length co46)) (fun _ hk => trivial)⟩,⟨by (with_reducible repeat (first|apply k1_|apply k2_|apply k3_));exact zo2_ (k4_ (p:=⟨gb458,1,none⟩) (k4_ (p:=⟨gb458,0,none⟩) (Kd.R_types HO479.out BK458.out (by decide)) (fun _ hk => hk.2) (.int .i64 t476)) (fun _ hk => hk.2) (.slice Ao46 t477.length co46)) (fun _ hk => trivial)⟩,⟨by (with_reducible repeat (first|refine k6_ ?_ _|refine k7_ ?_|refine k5_ ?_ _));refine blk_far ?_ NB449_458.out _;(with_reducible repeat (first|refine k6_ ?_ _|refine k7_ ?_|refine k5_ ?_ _));refine blk_far ?_ NB449_458.out _;(with_reducible repeat (first|refine k6_ ?_ _|refine k7_ ?_|refine k5_ ?_ _));exact BK449.out⟩,⟨by (with_reducible repeat (first|refine k6_ ?_ _|refine k7_ ?_|refine k5_ ?_ _));refine blk_far ?_ NB450_458.out _;(with_reducible repeat (first|refine k6_ ?_ _|refine k7_ ?_|refine k5_ ?_ _));refine blk_far ?_ NB450_458.out _;(with_reducible repeat (first|refine k6_ ?_ _|refine k7_ ?_|refine k5_ ?_ _));exact BK450.out⟩,⟨by (with_reducible repeat (first|refine k6_ ?_ _|refine k7_ ?_|refine k5_ ?_ _));refine blk_put (cs:=#[.int .i64 t476,.slice Ao40 x459001_1.length co40]) ?_ 1 _ rfl;(with_reducible repeat (first|refine k6_ ?_ _|refine k7_ ?_|refine k5_ ?_ _));refine blk_put (cs:=#[.int .i64 x459000_1,.slice Ao40 x459001_1.length co40]) ?_ 0 _ rfl;(with_reducible repeat (first|refine k6_ ?_ _|refine k7_ ?_|refine k5_ ?_ _));exact BK458.out⟩,⟨zl4 HB GE449 GE450 GE458 GE480⟩⟩
      ·
       rw [if_neg c39] at H
       exact absurd H (by simp)
    ·
     rw [if_neg c17] at H
     exact absurd H (by simp)
   ·
    rw [if_neg c16] at H
    have c16b0 : decide (x8_1 < (l1.length : Int)) = false:=decide_eq_false c16
    clear c16
    simp only [Option.some.injEq,Prod.mk.injEq] at H
    obtain ⟨rfl,rfl,rfl⟩:=H
    try go_wp2
    replace HO_6:=zm0_ (k3_ HO_6.out)
    replace HO_459001:=zm0_ (k3_ HO_459001.out)
    replace BK449:=zm0_ (k7_ BK449.out)
    replace BK450:=zm0_ (k7_ BK450.out)
    replace BK458:=zm0_ (k7_ BK458.out)
    replace HB:=zm0_ (zm4_ HB.out)
    obtain ⟨Ao59,co59,eo59⟩:=Kd.R_slice HO_459001.out
    (first|subst eo59|(injection eo59 with f1_ f2_ f3_;have f4_:=f1_.symm;have f5_:=f3_.symm;clear f1_ f2_ f3_;subst f4_;subst f5_))
    refine start_ (n:=4) (S:=fun w' => w'.cell? ⟨gb458,0,none⟩ = some (.int .i64 x459000_1) ∧ w'.cell? ⟨gb458,1,none⟩ = some (.slice Ao59 x459001_1.length co59)) (ds:=[]) #[Z,Z,Z,Z] (by kernel_rfl) rfl rfl ⟨(zm6_ BK458.out 0).trans rfl,(zm6_ BK458.out 1).trans rfl⟩ (fun hHeld => ?_)
    generalize wr.drew = w57 at HO_6 HO_459001 BK449 BK450 BK458 HB hHeld ⊢
    refine pure_ (i:=0) (N:=some 41) (v:=?_) (a':=?_) #[Y,Z,Z,Z] rfl rfl (by kernel_rfl) (fun _ _ _ h => h) (Or.inl ⟨by rfl,?_⟩) ?_ ?_
    rotate_left
    ·
     intro w'
     go_simp
     with_reducible rfl
    rotate_left
    ·
     simp only [Act.put,lA_,lB_,lC_,i64_w,i32_w]
     rfl
    refine pure_ (i:=2) (N:=some 4) (v:=?_) (a':=?_) #[Y,Z,Y,Z] rfl rfl (by kernel_rfl) (fun _ _ _ h => h) (Or.inl ⟨by rfl,?_⟩) ?_ ?_
    rotate_left
    ·
     intro w'
     go_simp
     with_reducible rfl
    rotate_left
    ·
     simp only [Act.put,lA_,lB_,lC_,i64_w,i32_w]
     rfl
    refine take_ (i:=1) (N:=some 42) (v:=?_) (a':=?_) #[Y,Y,Y,Z] rfl rfl (by kernel_rfl) (fun _ _ _ h => h) (Or.inl ⟨by rfl,?_⟩) hHeld ?_ ?_
    rotate_left
    ·
     rintro w' ⟨s0,s1⟩
     go_simp
     with_reducible rfl
    rotate_left
    ·
     simp only [Act.put,lA_,lB_,lC_,i64_w,i32_w]
     rfl
    refine one_ (i:=3) (N:=none) #[Y,Y,Y,Y] rfl rfl (by kernel_rfl) (by decide) (fun K hK => ?_)
    have hs58 : w57.cell? ⟨gb450,0,none⟩ = some (.int .i64 0):=(zm6_ BK450.out 0).trans rfl
    have hfs58:=zm7_ BK450.out 0
    have hns58_0:=NB449_450.out
    have hns58_2:=NB458_450.out
    have hms58_0:=NB450_449.out
    have hms58_2:=NB450_458.out
    have hs60 : w57.cell? ⟨gb450,1,none⟩ = some (.slice none 0 0):=(zm6_ BK450.out 1).trans rfl
    have hfs60:=zm7_ BK450.out 1
    have hns60_0:=NB449_450.out
    have hns60_2:=NB458_450.out
    have hms60_0:=NB450_449.out
    have hms60_2:=NB450_458.out
    refine skip_ (w1:=?_) (by rfl) rfl ?_ ?_
    rotate_left
    ·
     go_simp
     rfl
    refine hK.out _ _ ⟨((cell_far (p:=⟨gb450,_,none⟩) NB458_450.out _).trans (((cell_far (p:=⟨gb450,_,none⟩) NB458_450.out _).trans (hHeld.1)))),((cell_far (p:=⟨gb450,_,none⟩) NB458_450.out _).trans (((cell_far (p:=⟨gb450,_,none⟩) NB458_450.out _).trans (hHeld.2))))⟩ (fun hHeld => ?_)
    clear hK K
    refine done_ (by kernel_rfl) ?_
    try go_wp2
    refine bodyPost_ret (results_tc rfl _ _ gb450 32 #[.int .i64 x459000_1,.slice Ao59 x459001_1.length co59] (0,0) _ rfl (by (with_reducible repeat (first|refine k6_ ?_ _|refine k7_ ?_|refine k5_ ?_ _));refine blk_put (cs:=#[.int .i64 x459000_1,.slice none 0 0]) ?_ 1 _ rfl;(with_reducible repeat (first|refine k6_ ?_ _|refine k7_ ?_|refine k5_ ?_ _));refine blk_put (cs:=#[.int .i64 0,.slice none 0 0]) ?_ 0 _ rfl;(with_reducible repeat (first|refine k6_ ?_ _|refine k7_ ?_|refine k5_ ?_ _));exact BK450.out) Tryz.underlying32 rfl (by kernel_rfl)) rfl ?_
    exact ⟨_,_,ze,by (with_reducible repeat (first|apply k1_|apply k2_|apply k3_));exact zo2_ (k4_ (p:=⟨gb450,1,none⟩) (k4_ (p:=⟨gb450,0,none⟩) (Kd.R_types HO_6.out BK450.out (by decide)) (fun _ hk => hk.2) (.int .i64 x459000_1)) (fun _ hk => hk.2) (.slice Ao59 x459001_1.length co59)) (fun _ hk => trivial),by (with_reducible repeat (first|apply k1_|apply k2_|apply k3_));exact zo2_ (k4_ (p:=⟨gb450,1,none⟩) (k4_ (p:=⟨gb450,0,none⟩) (Kd.R_types HO_459001.out BK450.out (by decide)) (fun _ hk => hk.2) (.int .i64 x459000_1)) (fun _ hk => hk.2) (.slice Ao59 x459001_1.length co59)) (fun _ hk => trivial),by repeat (first|(with_reducible first|exact HB.out|apply zm3_|apply zm2_|apply zm4_|refine zm1_ ?_ GE449.out|refine zm1_ ?_ GE450.out|refine zm1_ ?_ GE458.out)|exact HB.out)⟩
end Go.Proofs.YthflimnpiglgbaaGreatDoor.A
end
section
namespace Go.Proofs.YthflimnpiglgbaaGreatDoor.A
open Go.RowKit Go.Proofs.YthflimnpiglgbaaGreatDoorW.PrintWords Go.Proofs.YthflimnpiglgbaaGreatDoorW.PrintLast Go.Proofs.YthflimnpiglgbaaGreatDoorW.PrintMore
attribute [local go_sem] max2_int min2_int max_two min_two max_three min_three max_four min_four   -- for this text's walks alone
set_option linter.unusedVariables false
set_option linter.unusedSimpArgs false

def impl_copyTable.f (a0_0 : Int) (l0_1 : List (S36)) : Option (Int × (List (S36))):=(impl_Field_42.f l0_1).bind fun t276 => (some (a0_0,t276))
set_option maxHeartbeats 8000000 in
set_option maxRecDepth 100000 in
theorem impl_copyTable.calls (a0_0 : Int) (A0_1 : Option Addr) (c0_1 : Nat) (l0_1 : List (S36)) (r1 : Int) (r2 : List (S36)) (w : World) (hr0_1 : Kd.C k36 w A0_1 l0_1.length l0_1) (hc0_1 : l0_1.length ≤ c0_1) (h : impl_copyTable.f a0_0 l0_1 = some (r1,r2)) :
 Calls Tryz.prog 31 #[.agg #[.int .i64 a0_0,.slice A0_1 l0_1.length c0_1]] w fun e w' => ∃ v1_ : Value,e = .returned (.agg #[.int .i64 r1,v1_]) ∧ Kd.R k36 36 w' w.heap.size (fun _ => True) v1_ r2 ∧ Below w.heap.size w w':=by
 have hu32:=Tryz.underlying32
 have HR0_1:=zm0_ hr0_1
 have HC0_1:=zm0_ hc0_1
 clear hr0_1 hc0_1
 have HB:=zm0_ (Below.refl w.heap.size w)
 have H : ((impl_Field_42.f l0_1).bind fun t276 => (some (a0_0,t276))) = some (r1,r2):=h
 clear h
 replace H:=zq1_ H
 obtain ⟨t276,A20,H⟩:=H
 replace H : (some (a0_0,t276)) = some (r1,r2):=H
 have A2:=zm0_ A20
 clear A20
 simp only [Option.some.injEq,Prod.mk.injEq] at H
 obtain ⟨rfl,rfl⟩:=H
 go_enter Tryz.func31,Tryz.ntmps31
 try go_wp2_with (first|((with_reducible refine gate_dst (N:=1) rfl ?_);refine box_event ?hg (N:=1) ?hd (cs:=#[.int .i64 a0_0,.slice A0_1 l0_1.length c0_1]) (t:=32) ?hr ?_;(case hd => rfl);(case hg => rfl);(case hr => first|(go_simp;done)|(go_simp;rfl));intro gb274 hg w3 hbox hb;have BK274:=zm0_ (hbox);have GW274:=zm0_ ((by rw [hg];exact (zn9_ (zl HB)) : w.heap.size ≤ gb274));have GE274:=zm0_ ((by rw [hg];exact (zn9_ (zl HB)) : w.heap.size ≤ gb274));replace HB:=zm0_ (zn8_ (zl HB) hb);clear hb hbox hg)|((with_reducible refine gate_dst (N:=2) rfl ?_);refine box_event ?hg (N:=2) ?hd (cs:=#[.int .i64 0,.slice none 0 0]) (t:=32) ?hr ?_;(case hd => rfl);(case hg => rfl);(case hr => first|(go_simp;done)|(go_simp;rfl));intro gb275 hg w4 hbox hb;have BK275:=zm0_ (hbox);have GW275:=zm0_ ((by rw [hg];exact (zn9_ (zl1 HB GE274)) : w.heap.size ≤ gb275));have GE275:=zm0_ ((by rw [hg];exact (zn9_ (zl1 HB GE274)) : w.heap.size ≤ gb275));replace HB:=zm0_ (zn8_ (zl1 HB GE274) hb);have NB274_275:=zm0_ ((by rw [hg];exact Nat.ne_of_lt (zo3_ (g:=gb274) (o:=.cells #[.int .i64 a0_0,.slice A0_1 l0_1.length c0_1] 32 (0,0)) (zb BK274)) : gb274 ≠ gb275));have NB275_274:=zm0_ ((by rw [hg];exact Nat.ne_of_gt (zo3_ (g:=gb274) (o:=.cells #[.int .i64 a0_0,.slice A0_1 l0_1.length c0_1] 32 (0,0)) (zb BK274)) : gb275 ≠ gb274));replace BK274:=zm0_ (zm5_ (zb BK274) hb);clear hb hbox hg))
 replace BK274:=zm0_ (k7_ BK274.out)
 replace BK275:=zm0_ (k7_ BK275.out)
 replace HB:=zm0_ (zm4_ HB.out)
 refine start_ (n:=7) (S:=fun w' => w'.cell? ⟨gb274,0,none⟩ = some (.int .i64 a0_0) ∧ w'.cell? ⟨gb274,1,none⟩ = some (.slice A0_1 l0_1.length c0_1)) (ds:=[]) #[Z,Z,Z,Z,Z,Z,Z] (by kernel_rfl) rfl rfl ⟨(zm6_ BK274.out 0).trans rfl,(zm6_ BK274.out 1).trans rfl⟩ (fun hHeld => ?_)
 generalize w4.drew = w5 at BK274 BK275 HB hHeld ⊢
 refine pure_ (i:=0) (N:=some 3) (v:=?_) (a':=?_) #[Y,Z,Z,Z,Z,Z,Z] rfl rfl (by kernel_rfl) (fun _ _ _ h => h) (Or.inl ⟨by rfl,?_⟩) ?_ ?_
 rotate_left
 ·
  intro w'
  go_simp
  with_reducible rfl
 rotate_left
 ·
  simp only [Act.put,lA_,lB_,lC_,i64_w,i32_w]
  rfl
 refine pure_ (i:=2) (N:=some 5) (v:=?_) (a':=?_) #[Y,Z,Y,Z,Z,Z,Z] rfl rfl (by kernel_rfl) (fun _ _ _ h => h) (Or.inl ⟨by rfl,?_⟩) ?_ ?_
 rotate_left
 ·
  intro w'
  go_simp
  with_reducible rfl
 rotate_left
 ·
  simp only [Act.put,lA_,lB_,lC_,i64_w,i32_w]
  rfl
 refine take_ (i:=1) (N:=some 4) (v:=?_) (a':=?_) #[Y,Y,Y,Z,Z,Z,Z] rfl rfl (by kernel_rfl) (fun _ _ _ h => h) (Or.inl ⟨by rfl,?_⟩) hHeld ?_ ?_
 rotate_left
 ·
  rintro w' ⟨s0,s1⟩
  go_simp
  with_reducible rfl
 rotate_left
 ·
  simp only [Act.put,lA_,lB_,lC_,i64_w,i32_w]
  rfl
 refine take_ (i:=3) (N:=some 6) (v:=?_) (a':=?_) #[Y,Y,Y,Y,Z,Z,Z] rfl rfl (by kernel_rfl) (fun _ _ _ h => h) (Or.inl ⟨by rfl,?_⟩) hHeld ?_ ?_
 rotate_left
 ·
  rintro w' ⟨s0,s1⟩
  go_simp
  with_reducible rfl
 rotate_left
 ·
  simp only [Act.put,lA_,lB_,lC_,i64_w,i32_w]
  rfl
 refine one_ (i:=4) (N:=some 7) #[Y,Y,Y,Y,Y,Z,Z] rfl rfl (by kernel_rfl) (by decide) (fun K hK => ?_)
 refine goes_ Tryz.func42 (by kernel_rfl) rfl #[.slice A0_1 l0_1.length c0_1] (by rfl) rfl rfl zy ?_
 with_reducible refine (impl_Field_42.calls _ _ l0_1 t276 _ ?side1 ?side2 A2.out).mono ?_
 (case side1 => repeat (first|exact (Kd.C_below HR0_1.out HB.out)|(with_reducible refine Kd.C_alloc ?_ _)|(with_reducible refine Kd.C_drewN ?_ _)|(with_reducible refine Kd.C_drew ?_)))
 (case side2 => exact HC0_1.out)
 rintro e w6 ⟨v277,rfl,ho0,hb⟩
 refine ⟨_,rfl,?_⟩
 have HO278:=zm0_ (zo1_ ho0 (zn9_ (zl2 HB GE274 GE275)))
 replace BK274:=zm0_ (zm5_ (zb BK274) hb)
 replace BK275:=zm0_ (zm5_ (zb BK275) hb)
 replace HB:=zm0_ (zn8_ (zl2 HB GE274 GE275) hb)
 (try clear hb)
 (try clear hb2)
 (try clear hk)
 (try clear hi)
 (try clear ho0)
 obtain ⟨Ao7,co7,eo7⟩:=Kd.R_slice HO278.out
 (first|subst eo7|(injection eo7 with f1_ f2_ f3_;have f4_:=f1_.symm;have f5_:=f3_.symm;clear f1_ f2_ f3_;subst f4_;subst f5_))
 refine hK.out _ _ ⟨(zm6_ BK274.out 0).trans rfl,(zm6_ BK274.out 1).trans rfl⟩ (fun hHeld => ?_)
 clear hK K
 refine norm_ (a':=?_) ?_ ?_
 rotate_left
 ·
  show Act.put _ (some 7) _ = _
  simp only [Act.put,lA_,lB_,lC_,i64_w,i32_w]
  rfl
 refine pure_ (i:=5) (N:=some 8) (v:=?_) (a':=?_) #[Y,Y,Y,Y,Y,Y,Z] rfl rfl (by kernel_rfl) (fun _ _ _ h => h) (Or.inl ⟨by rfl,?_⟩) ?_ ?_
 rotate_left
 ·
  intro w'
  go_simp
  with_reducible rfl
 rotate_left
 ·
  simp only [Act.put,lA_,lB_,lC_,i64_w,i32_w]
  rfl
 refine one_ (i:=6) (N:=none) #[Y,Y,Y,Y,Y,Y,Y] rfl rfl (by kernel_rfl) (by decide) (fun K hK => ?_)
 have hs8 : w6.cell? ⟨gb275,0,none⟩ = some (.int .i64 0):=(zm6_ BK275.out 0).trans rfl
 have hfs8:=zm7_ BK275.out 0
 have hns8_0:=NB274_275.out
 have hms8_0:=NB275_274.out
 have hs9 : w6.cell? ⟨gb275,1,none⟩ = some (.slice none 0 0):=(zm6_ BK275.out 1).trans rfl
 have hfs9:=zm7_ BK275.out 1
 have hns9_0:=NB274_275.out
 have hms9_0:=NB275_274.out
 refine skip_ (w1:=?_) (by rfl) rfl ?_ ?_
 rotate_left
 ·
  go_simp
  rfl
 refine hK.out _ _ ⟨((cell_far (p:=⟨gb275,_,none⟩) NB274_275.out _).trans (((cell_far (p:=⟨gb275,_,none⟩) NB274_275.out _).trans (hHeld.1)))),((cell_far (p:=⟨gb275,_,none⟩) NB274_275.out _).trans (((cell_far (p:=⟨gb275,_,none⟩) NB274_275.out _).trans (hHeld.2))))⟩ (fun hHeld => ?_)
 clear hK K
 refine done_ (by kernel_rfl) ?_
 try go_wp2
 refine bodyPost_ret (results_cell_row rfl _ _ gb275 32 #[.int .i64 a0_0,.slice Ao7 t276.length co7] (0,0) _ rfl (by (with_reducible repeat (first|refine k6_ ?_ _|refine k7_ ?_|refine k5_ ?_ _));refine blk_put (cs:=#[.int .i64 a0_0,.slice none 0 0]) ?_ 1 _ rfl;(with_reducible repeat (first|refine k6_ ?_ _|refine k7_ ?_|refine k5_ ?_ _));refine blk_put (cs:=#[.int .i64 0,.slice none 0 0]) ?_ 0 _ rfl;(with_reducible repeat (first|refine k6_ ?_ _|refine k7_ ?_|refine k5_ ?_ _));exact BK275.out) Tryz.underlying32 rfl (by kernel_rfl)) rfl ?_
 exact ⟨_,ze,by (with_reducible repeat (first|apply k1_|apply k2_|apply k3_));exact zo2_ (k4_ (p:=⟨gb275,1,none⟩) (k4_ (p:=⟨gb275,0,none⟩) (Kd.R_types HO278.out BK275.out (by decide)) (fun _ hk => hk.2) (.int .i64 a0_0)) (fun _ hk => hk.2) (.slice Ao7 t276.length co7)) (fun _ hk => trivial),by repeat (first|(with_reducible first|exact HB.out|apply zm3_|apply zm2_|apply zm4_|refine zm1_ ?_ GE274.out|refine zm1_ ?_ GE275.out)|exact HB.out)⟩
end Go.Proofs.YthflimnpiglgbaaGreatDoor.A
end
